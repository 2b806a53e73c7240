/-
  DERIVED. GIVEN WITH THE SEED: THE CARDS: each row of YtilahgkblckndaaGreatDoorRows.lean that lists a variable, with what it lists TIED to the program's text (the seventh form; the later family's looks); each row that meets fmt, with fmt's text TOLD by the authors' own Lean function (tested against real Go, not proved from fmt's source: count such statements apart). THE CARD IS WHAT COUNTS. Prove the row's statement (the work); the ties are given (YtilahgkblckndaaGreatDoorTie.lean); close each card by the builder's one call (the guide's Derived/Test/ToyasCard.lean, 'card_holds'). Laid BY PROGRAM, IN A SANDBOX (cutbox-door.mjs). By AI agents, Wed Nov 11 2026. No macro, syntax, notation, axiom, sorry.
-/
import Derived.Test.YtilahgkblckndaaGreatDoorRows
import GoSem.ClaimSeven
namespace Go.Proofs.YtilahgkblckndaaGreatDoor
namespace Rows

/-- THE TIED CARD OF 'laws.FnExactKeeperMix'. -/
def fnExactKeeperMixCard : Claim7 := { stood := { row := fnExactKeeperMixRow, standIns := [], harness := (true, "f869faa3c6b7a4443b1964723305d4e63c5e51aace3e4e9e8f08d76180dc4724"), looks := false }, kinds := [], alts := [], laidByText := true, laidKinds := [.data, .data, .data, .data, .pinned], laidTests := true, laidLooks := .later }
def FnExactKeeperMixCardSaid : Prop := Claim7.holds Tryz.pinned (.plain (OpenSpec.ofChange fnExactKeeperMixSpec)) fnExactKeeperMixCard

/-- THE TIED CARD OF 'laws.FnExactRiverOk'. -/
def fnExactRiverOkCard : Claim7 := { stood := { row := fnExactRiverOkRow, standIns := [], harness := (true, "f869faa3c6b7a4443b1964723305d4e63c5e51aace3e4e9e8f08d76180dc4724"), looks := false }, kinds := [], alts := [], laidByText := true, laidKinds := [.data, .data, .data, .data, .pinned], laidTests := true, laidLooks := .later }
def FnExactRiverOkCardSaid : Prop := Claim7.holds Tryz.pinned (.plain (OpenSpec.ofChange fnExactRiverOkSpec)) fnExactRiverOkCard

/-- THE TIED CARD OF 'laws.FnExactKeeperPack'. -/
def fnExactKeeperPackCard : Claim7 := { stood := { row := fnExactKeeperPackRow, standIns := [], harness := (true, "f869faa3c6b7a4443b1964723305d4e63c5e51aace3e4e9e8f08d76180dc4724"), looks := false }, kinds := [], alts := [], laidByText := true, laidKinds := [.data, .data, .data, .data, .pinned], laidTests := true, laidLooks := .later }
def FnExactKeeperPackCardSaid : Prop := Claim7.holds Tryz.pinned (.plain (OpenSpec.ofChange fnExactKeeperPackSpec)) fnExactKeeperPackCard

/-- THE TIED CARD OF 'laws.FnExactKeeperTime'. -/
def fnExactKeeperTimeCard : Claim7 := { stood := { row := fnExactKeeperTimeRow, standIns := [], harness := (true, "f869faa3c6b7a4443b1964723305d4e63c5e51aace3e4e9e8f08d76180dc4724"), looks := false }, kinds := [], alts := [], laidByText := true, laidKinds := [.data, .data, .data, .data, .pinned], laidTests := true, laidLooks := .later }
def FnExactKeeperTimeCardSaid : Prop := Claim7.holds Tryz.pinned (.plain (OpenSpec.ofChange fnExactKeeperTimeSpec)) fnExactKeeperTimeCard

/-- THE TIED CARD OF 'laws.FnExactKeeperOwn'. -/
def fnExactKeeperOwnCard : Claim7 := { stood := { row := fnExactKeeperOwnRow, standIns := [], harness := (true, "f869faa3c6b7a4443b1964723305d4e63c5e51aace3e4e9e8f08d76180dc4724"), looks := false }, kinds := [], alts := [], laidByText := true, laidKinds := [.data, .data, .data, .data, .pinned], laidTests := true, laidLooks := .later }
def FnExactKeeperOwnCardSaid : Prop := Claim7.holds Tryz.pinned (.plain (OpenSpec.ofChange fnExactKeeperOwnSpec)) fnExactKeeperOwnCard

/-- THE TIED CARD OF 'laws.FnExactKeeperEat'. -/
def fnExactKeeperEatCard : Claim7 := { stood := { row := fnExactKeeperEatRow, standIns := [], harness := (true, "f869faa3c6b7a4443b1964723305d4e63c5e51aace3e4e9e8f08d76180dc4724"), looks := false }, kinds := [], alts := [], laidByText := true, laidKinds := [.data, .data, .data, .data, .pinned], laidTests := true, laidLooks := .later }
def FnExactKeeperEatCardSaid : Prop := Claim7.holds Tryz.pinned (.plain (OpenSpec.ofChange fnExactKeeperEatSpec)) fnExactKeeperEatCard

/-- THE TIED CARD OF 'laws.FnExactKeeperHear'. -/
def fnExactKeeperHearCard : Claim7 := { stood := { row := fnExactKeeperHearRow, standIns := [], harness := (true, "f869faa3c6b7a4443b1964723305d4e63c5e51aace3e4e9e8f08d76180dc4724"), looks := false }, kinds := [], alts := [], laidByText := true, laidKinds := [.data, .data, .data, .data, .pinned], laidTests := true, laidLooks := .later }
def FnExactKeeperHearCardSaid : Prop := Claim7.holds Tryz.pinned (.plain (OpenSpec.ofChange fnExactKeeperHearSpec)) fnExactKeeperHearCard

/-- THE SECOND FORM's CARD OF 'laws.FnExactKeeperMix'. -/
def fnExactKeeperMixUptoCard : Claim7 := { stood := { row := fnExactKeeperMixUptoRow, standIns := [], harness := (true, "f869faa3c6b7a4443b1964723305d4e63c5e51aace3e4e9e8f08d76180dc4724"), looks := false }, kinds := [], alts := [], laidByText := true, laidKinds := [.data, .data, .data, .data, .pinned], laidTests := true, laidLooks := .later }
def FnExactKeeperMixUptoCardSaid : Prop := Claim7.holds Tryz.pinned (.plain (OpenSpec.upto fnExactKeeperMixSpec)) fnExactKeeperMixUptoCard

/-- THE SECOND FORM's CARD OF 'laws.FnExactRiverOk'. -/
def fnExactRiverOkUptoCard : Claim7 := { stood := { row := fnExactRiverOkUptoRow, standIns := [], harness := (true, "f869faa3c6b7a4443b1964723305d4e63c5e51aace3e4e9e8f08d76180dc4724"), looks := false }, kinds := [], alts := [], laidByText := true, laidKinds := [.data, .data, .data, .data, .pinned], laidTests := true, laidLooks := .later }
def FnExactRiverOkUptoCardSaid : Prop := Claim7.holds Tryz.pinned (.plain (OpenSpec.upto fnExactRiverOkSpec)) fnExactRiverOkUptoCard

/-- THE SECOND FORM's CARD OF 'laws.FnExactKeeperPack'. -/
def fnExactKeeperPackUptoCard : Claim7 := { stood := { row := fnExactKeeperPackUptoRow, standIns := [], harness := (true, "f869faa3c6b7a4443b1964723305d4e63c5e51aace3e4e9e8f08d76180dc4724"), looks := false }, kinds := [], alts := [], laidByText := true, laidKinds := [.data, .data, .data, .data, .pinned], laidTests := true, laidLooks := .later }
def FnExactKeeperPackUptoCardSaid : Prop := Claim7.holds Tryz.pinned (.plain (OpenSpec.upto fnExactKeeperPackSpec)) fnExactKeeperPackUptoCard

/-- THE SECOND FORM's CARD OF 'laws.FnExactKeeperTime'. -/
def fnExactKeeperTimeUptoCard : Claim7 := { stood := { row := fnExactKeeperTimeUptoRow, standIns := [], harness := (true, "f869faa3c6b7a4443b1964723305d4e63c5e51aace3e4e9e8f08d76180dc4724"), looks := false }, kinds := [], alts := [], laidByText := true, laidKinds := [.data, .data, .data, .data, .pinned], laidTests := true, laidLooks := .later }
def FnExactKeeperTimeUptoCardSaid : Prop := Claim7.holds Tryz.pinned (.plain (OpenSpec.upto fnExactKeeperTimeSpec)) fnExactKeeperTimeUptoCard

/-- THE SECOND FORM's CARD OF 'laws.FnExactKeeperOwn'. -/
def fnExactKeeperOwnUptoCard : Claim7 := { stood := { row := fnExactKeeperOwnUptoRow, standIns := [], harness := (true, "f869faa3c6b7a4443b1964723305d4e63c5e51aace3e4e9e8f08d76180dc4724"), looks := false }, kinds := [], alts := [], laidByText := true, laidKinds := [.data, .data, .data, .data, .pinned], laidTests := true, laidLooks := .later }
def FnExactKeeperOwnUptoCardSaid : Prop := Claim7.holds Tryz.pinned (.plain (OpenSpec.upto fnExactKeeperOwnSpec)) fnExactKeeperOwnUptoCard

/-- THE SECOND FORM's CARD OF 'laws.FnExactKeeperEat'. -/
def fnExactKeeperEatUptoCard : Claim7 := { stood := { row := fnExactKeeperEatUptoRow, standIns := [], harness := (true, "f869faa3c6b7a4443b1964723305d4e63c5e51aace3e4e9e8f08d76180dc4724"), looks := false }, kinds := [], alts := [], laidByText := true, laidKinds := [.data, .data, .data, .data, .pinned], laidTests := true, laidLooks := .later }
def FnExactKeeperEatUptoCardSaid : Prop := Claim7.holds Tryz.pinned (.plain (OpenSpec.upto fnExactKeeperEatSpec)) fnExactKeeperEatUptoCard

/-- THE SECOND FORM's CARD OF 'laws.FnExactKeeperHear'. -/
def fnExactKeeperHearUptoCard : Claim7 := { stood := { row := fnExactKeeperHearUptoRow, standIns := [], harness := (true, "f869faa3c6b7a4443b1964723305d4e63c5e51aace3e4e9e8f08d76180dc4724"), looks := false }, kinds := [], alts := [], laidByText := true, laidKinds := [.data, .data, .data, .data, .pinned], laidTests := true, laidLooks := .later }
def FnExactKeeperHearUptoCardSaid : Prop := Claim7.holds Tryz.pinned (.plain (OpenSpec.upto fnExactKeeperHearSpec)) fnExactKeeperHearUptoCard
end Rows
end Go.Proofs.YtilahgkblckndaaGreatDoor
