/-
  DERIVED. GIVEN WITH THE SEED: THE CARDS: each row of YtmabaopgkimfmaaGreatDoorRows.lean that lists a variable, with what it lists TIED to the program's text (the seventh form; the later family's looks); each row that meets fmt, with fmt's text TOLD by the authors' own Lean function (tested against real Go, not proved from fmt's source: count such statements apart). THE CARD IS WHAT COUNTS. Prove the row's statement (the work); the ties are given (YtmabaopgkimfmaaGreatDoorTie.lean); close each card by the builder's one call (the guide's Derived/Test/ToyasCard.lean, 'card_holds'). Laid BY PROGRAM, IN A SANDBOX (cutbox-door.mjs). By AI agents, Wed Nov 11 2026. No macro, syntax, notation, axiom, sorry.
-/
import Derived.Test.YtmabaopgkimfmaaGreatDoorRows
import GoSem.ClaimSeven
namespace Go.Proofs.YtmabaopgkimfmaaGreatDoor
namespace Rows

/-- THE TIED CARD OF 'laws.FnExactKeeperFall'. -/
def fnExactKeeperFallCard : Claim7 := { stood := { row := fnExactKeeperFallRow, standIns := [], harness := (true, "a76fc37ecd5886b0ccdaa479efbd056c29dad722ce01eb0c7ffba8912f419677"), looks := false }, kinds := [], alts := [], laidByText := true, laidKinds := [.data, .data, .data, .data, .pinned], laidTests := true, laidLooks := .later }
def FnExactKeeperFallCardSaid : Prop := Claim7.holds Tryz.pinned (.plain (OpenSpec.ofChange fnExactKeeperFallSpec)) fnExactKeeperFallCard

/-- THE TIED CARD OF 'laws.FnExactKeeperRise'. -/
def fnExactKeeperRiseCard : Claim7 := { stood := { row := fnExactKeeperRiseRow, standIns := [], harness := (true, "a76fc37ecd5886b0ccdaa479efbd056c29dad722ce01eb0c7ffba8912f419677"), looks := false }, kinds := [], alts := [], laidByText := true, laidKinds := [.data, .data, .data, .data, .pinned], laidTests := true, laidLooks := .later }
def FnExactKeeperRiseCardSaid : Prop := Claim7.holds Tryz.pinned (.plain (OpenSpec.ofChange fnExactKeeperRiseSpec)) fnExactKeeperRiseCard

/-- THE TIED CARD OF 'laws.FnExactKeeperForce'. -/
def fnExactKeeperForceCard : Claim7 := { stood := { row := fnExactKeeperForceRow, standIns := [], harness := (true, "a76fc37ecd5886b0ccdaa479efbd056c29dad722ce01eb0c7ffba8912f419677"), looks := false }, kinds := [], alts := [], laidByText := true, laidKinds := [.data, .data, .data, .data, .pinned], laidTests := true, laidLooks := .later }
def FnExactKeeperForceCardSaid : Prop := Claim7.holds Tryz.pinned (.plain (OpenSpec.ofChange fnExactKeeperForceSpec)) fnExactKeeperForceCard

/-- THE TIED CARD OF 'laws.FnExactKeeperHas'. -/
def fnExactKeeperHasCard : Claim7 := { stood := { row := fnExactKeeperHasRow, standIns := [], harness := (true, "a76fc37ecd5886b0ccdaa479efbd056c29dad722ce01eb0c7ffba8912f419677"), looks := false }, kinds := [], alts := [], laidByText := true, laidKinds := [.data, .data, .data, .data, .pinned], laidTests := true, laidLooks := .later }
def FnExactKeeperHasCardSaid : Prop := Claim7.holds Tryz.pinned (.plain (OpenSpec.ofChange fnExactKeeperHasSpec)) fnExactKeeperHasCard

/-- THE TIED CARD OF 'laws.FnExactKeeperPack'. -/
def fnExactKeeperPackCard : Claim7 := { stood := { row := fnExactKeeperPackRow, standIns := [], harness := (true, "a76fc37ecd5886b0ccdaa479efbd056c29dad722ce01eb0c7ffba8912f419677"), looks := false }, kinds := [], alts := [], laidByText := true, laidKinds := [.data, .data, .data, .data, .pinned], laidTests := true, laidLooks := .later }
def FnExactKeeperPackCardSaid : Prop := Claim7.holds Tryz.pinned (.plain (OpenSpec.ofChange fnExactKeeperPackSpec)) fnExactKeeperPackCard

/-- THE TIED CARD OF 'laws.FnExactKeeperTime'. -/
def fnExactKeeperTimeCard : Claim7 := { stood := { row := fnExactKeeperTimeRow, standIns := [], harness := (true, "a76fc37ecd5886b0ccdaa479efbd056c29dad722ce01eb0c7ffba8912f419677"), looks := false }, kinds := [], alts := [], laidByText := true, laidKinds := [.data, .data, .data, .data, .pinned], laidTests := true, laidLooks := .later }
def FnExactKeeperTimeCardSaid : Prop := Claim7.holds Tryz.pinned (.plain (OpenSpec.ofChange fnExactKeeperTimeSpec)) fnExactKeeperTimeCard

/-- THE TIED CARD OF 'laws.FnExactKeeperOwn'. -/
def fnExactKeeperOwnCard : Claim7 := { stood := { row := fnExactKeeperOwnRow, standIns := [], harness := (true, "a76fc37ecd5886b0ccdaa479efbd056c29dad722ce01eb0c7ffba8912f419677"), looks := false }, kinds := [], alts := [], laidByText := true, laidKinds := [.data, .data, .data, .data, .pinned], laidTests := true, laidLooks := .later }
def FnExactKeeperOwnCardSaid : Prop := Claim7.holds Tryz.pinned (.plain (OpenSpec.ofChange fnExactKeeperOwnSpec)) fnExactKeeperOwnCard

/-- THE TIED CARD OF 'laws.FnExactKeeperEat'. -/
def fnExactKeeperEatCard : Claim7 := { stood := { row := fnExactKeeperEatRow, standIns := [], harness := (true, "a76fc37ecd5886b0ccdaa479efbd056c29dad722ce01eb0c7ffba8912f419677"), looks := false }, kinds := [], alts := [], laidByText := true, laidKinds := [.data, .data, .data, .data, .pinned], laidTests := true, laidLooks := .later }
def FnExactKeeperEatCardSaid : Prop := Claim7.holds Tryz.pinned (.plain (OpenSpec.ofChange fnExactKeeperEatSpec)) fnExactKeeperEatCard

/-- THE TIED CARD OF 'laws.FnExactKeeperHear'. -/
def fnExactKeeperHearCard : Claim7 := { stood := { row := fnExactKeeperHearRow, standIns := [], harness := (true, "a76fc37ecd5886b0ccdaa479efbd056c29dad722ce01eb0c7ffba8912f419677"), looks := false }, kinds := [], alts := [], laidByText := true, laidKinds := [.data, .data, .data, .data, .pinned], laidTests := true, laidLooks := .later }
def FnExactKeeperHearCardSaid : Prop := Claim7.holds Tryz.pinned (.plain (OpenSpec.ofChange fnExactKeeperHearSpec)) fnExactKeeperHearCard

/-- THE TIED CARD OF 'laws.FnKeeperCut'. -/
def fnKeeperCutCard : Claim7 := { stood := { row := fnKeeperCutRow, standIns := [], harness := (true, "a76fc37ecd5886b0ccdaa479efbd056c29dad722ce01eb0c7ffba8912f419677"), looks := false }, kinds := [], alts := [], laidByText := true, laidKinds := [.data, .data, .data, .data, .pinned], laidTests := true, laidLooks := .later }
def FnKeeperCutCardSaid : Prop := Claim7.holds Tryz.pinned (.plain (OpenSpec.ofChange fnKeeperCutSpec)) fnKeeperCutCard

/-- THE TIED CARD OF 'laws.FnKeeperTime'. -/
def fnKeeperTimeCard : Claim7 := { stood := { row := fnKeeperTimeRow, standIns := [], harness := (true, "a76fc37ecd5886b0ccdaa479efbd056c29dad722ce01eb0c7ffba8912f419677"), looks := false }, kinds := [], alts := [], laidByText := true, laidKinds := [.data, .data, .data, .data, .pinned], laidTests := true, laidLooks := .later }
def FnKeeperTimeCardSaid : Prop := Claim7.holds Tryz.pinned (.plain (OpenSpec.ofChange fnKeeperTimeSpec)) fnKeeperTimeCard

/-- THE TIED CARD OF 'laws.FnKeeperMix'. -/
def fnKeeperMixCard : Claim7 := { stood := { row := fnKeeperMixRow, standIns := [], harness := (true, "a76fc37ecd5886b0ccdaa479efbd056c29dad722ce01eb0c7ffba8912f419677"), looks := false }, kinds := [], alts := [], laidByText := true, laidKinds := [.data, .data, .data, .data, .pinned], laidTests := true, laidLooks := .later }
def FnKeeperMixCardSaid : Prop := Claim7.holds Tryz.pinned (.plain (OpenSpec.ofChange fnKeeperMixSpec)) fnKeeperMixCard

/-- THE SECOND FORM's CARD OF 'laws.FnExactKeeperFall'. -/
def fnExactKeeperFallUptoCard : Claim7 := { stood := { row := fnExactKeeperFallUptoRow, standIns := [], harness := (true, "a76fc37ecd5886b0ccdaa479efbd056c29dad722ce01eb0c7ffba8912f419677"), looks := false }, kinds := [], alts := [], laidByText := true, laidKinds := [.data, .data, .data, .data, .pinned], laidTests := true, laidLooks := .later }
def FnExactKeeperFallUptoCardSaid : Prop := Claim7.holds Tryz.pinned (.plain (OpenSpec.upto fnExactKeeperFallSpec)) fnExactKeeperFallUptoCard

/-- THE SECOND FORM's CARD OF 'laws.FnExactKeeperRise'. -/
def fnExactKeeperRiseUptoCard : Claim7 := { stood := { row := fnExactKeeperRiseUptoRow, standIns := [], harness := (true, "a76fc37ecd5886b0ccdaa479efbd056c29dad722ce01eb0c7ffba8912f419677"), looks := false }, kinds := [], alts := [], laidByText := true, laidKinds := [.data, .data, .data, .data, .pinned], laidTests := true, laidLooks := .later }
def FnExactKeeperRiseUptoCardSaid : Prop := Claim7.holds Tryz.pinned (.plain (OpenSpec.upto fnExactKeeperRiseSpec)) fnExactKeeperRiseUptoCard

/-- THE SECOND FORM's CARD OF 'laws.FnExactKeeperForce'. -/
def fnExactKeeperForceUptoCard : Claim7 := { stood := { row := fnExactKeeperForceUptoRow, standIns := [], harness := (true, "a76fc37ecd5886b0ccdaa479efbd056c29dad722ce01eb0c7ffba8912f419677"), looks := false }, kinds := [], alts := [], laidByText := true, laidKinds := [.data, .data, .data, .data, .pinned], laidTests := true, laidLooks := .later }
def FnExactKeeperForceUptoCardSaid : Prop := Claim7.holds Tryz.pinned (.plain (OpenSpec.upto fnExactKeeperForceSpec)) fnExactKeeperForceUptoCard

/-- THE SECOND FORM's CARD OF 'laws.FnExactKeeperHas'. -/
def fnExactKeeperHasUptoCard : Claim7 := { stood := { row := fnExactKeeperHasUptoRow, standIns := [], harness := (true, "a76fc37ecd5886b0ccdaa479efbd056c29dad722ce01eb0c7ffba8912f419677"), looks := false }, kinds := [], alts := [], laidByText := true, laidKinds := [.data, .data, .data, .data, .pinned], laidTests := true, laidLooks := .later }
def FnExactKeeperHasUptoCardSaid : Prop := Claim7.holds Tryz.pinned (.plain (OpenSpec.upto fnExactKeeperHasSpec)) fnExactKeeperHasUptoCard

/-- THE SECOND FORM's CARD OF 'laws.FnExactKeeperPack'. -/
def fnExactKeeperPackUptoCard : Claim7 := { stood := { row := fnExactKeeperPackUptoRow, standIns := [], harness := (true, "a76fc37ecd5886b0ccdaa479efbd056c29dad722ce01eb0c7ffba8912f419677"), looks := false }, kinds := [], alts := [], laidByText := true, laidKinds := [.data, .data, .data, .data, .pinned], laidTests := true, laidLooks := .later }
def FnExactKeeperPackUptoCardSaid : Prop := Claim7.holds Tryz.pinned (.plain (OpenSpec.upto fnExactKeeperPackSpec)) fnExactKeeperPackUptoCard

/-- THE SECOND FORM's CARD OF 'laws.FnExactKeeperTime'. -/
def fnExactKeeperTimeUptoCard : Claim7 := { stood := { row := fnExactKeeperTimeUptoRow, standIns := [], harness := (true, "a76fc37ecd5886b0ccdaa479efbd056c29dad722ce01eb0c7ffba8912f419677"), looks := false }, kinds := [], alts := [], laidByText := true, laidKinds := [.data, .data, .data, .data, .pinned], laidTests := true, laidLooks := .later }
def FnExactKeeperTimeUptoCardSaid : Prop := Claim7.holds Tryz.pinned (.plain (OpenSpec.upto fnExactKeeperTimeSpec)) fnExactKeeperTimeUptoCard

/-- THE SECOND FORM's CARD OF 'laws.FnExactKeeperOwn'. -/
def fnExactKeeperOwnUptoCard : Claim7 := { stood := { row := fnExactKeeperOwnUptoRow, standIns := [], harness := (true, "a76fc37ecd5886b0ccdaa479efbd056c29dad722ce01eb0c7ffba8912f419677"), looks := false }, kinds := [], alts := [], laidByText := true, laidKinds := [.data, .data, .data, .data, .pinned], laidTests := true, laidLooks := .later }
def FnExactKeeperOwnUptoCardSaid : Prop := Claim7.holds Tryz.pinned (.plain (OpenSpec.upto fnExactKeeperOwnSpec)) fnExactKeeperOwnUptoCard

/-- THE SECOND FORM's CARD OF 'laws.FnExactKeeperEat'. -/
def fnExactKeeperEatUptoCard : Claim7 := { stood := { row := fnExactKeeperEatUptoRow, standIns := [], harness := (true, "a76fc37ecd5886b0ccdaa479efbd056c29dad722ce01eb0c7ffba8912f419677"), looks := false }, kinds := [], alts := [], laidByText := true, laidKinds := [.data, .data, .data, .data, .pinned], laidTests := true, laidLooks := .later }
def FnExactKeeperEatUptoCardSaid : Prop := Claim7.holds Tryz.pinned (.plain (OpenSpec.upto fnExactKeeperEatSpec)) fnExactKeeperEatUptoCard

/-- THE SECOND FORM's CARD OF 'laws.FnExactKeeperHear'. -/
def fnExactKeeperHearUptoCard : Claim7 := { stood := { row := fnExactKeeperHearUptoRow, standIns := [], harness := (true, "a76fc37ecd5886b0ccdaa479efbd056c29dad722ce01eb0c7ffba8912f419677"), looks := false }, kinds := [], alts := [], laidByText := true, laidKinds := [.data, .data, .data, .data, .pinned], laidTests := true, laidLooks := .later }
def FnExactKeeperHearUptoCardSaid : Prop := Claim7.holds Tryz.pinned (.plain (OpenSpec.upto fnExactKeeperHearSpec)) fnExactKeeperHearUptoCard

/-- THE SECOND FORM's CARD OF 'laws.FnKeeperCut'. -/
def fnKeeperCutUptoCard : Claim7 := { stood := { row := fnKeeperCutUptoRow, standIns := [], harness := (true, "a76fc37ecd5886b0ccdaa479efbd056c29dad722ce01eb0c7ffba8912f419677"), looks := false }, kinds := [], alts := [], laidByText := true, laidKinds := [.data, .data, .data, .data, .pinned], laidTests := true, laidLooks := .later }
def FnKeeperCutUptoCardSaid : Prop := Claim7.holds Tryz.pinned (.plain (OpenSpec.upto fnKeeperCutSpec)) fnKeeperCutUptoCard

/-- THE SECOND FORM's CARD OF 'laws.FnKeeperTime'. -/
def fnKeeperTimeUptoCard : Claim7 := { stood := { row := fnKeeperTimeUptoRow, standIns := [], harness := (true, "a76fc37ecd5886b0ccdaa479efbd056c29dad722ce01eb0c7ffba8912f419677"), looks := false }, kinds := [], alts := [], laidByText := true, laidKinds := [.data, .data, .data, .data, .pinned], laidTests := true, laidLooks := .later }
def FnKeeperTimeUptoCardSaid : Prop := Claim7.holds Tryz.pinned (.plain (OpenSpec.upto fnKeeperTimeSpec)) fnKeeperTimeUptoCard

/-- THE SECOND FORM's CARD OF 'laws.FnKeeperMix'. -/
def fnKeeperMixUptoCard : Claim7 := { stood := { row := fnKeeperMixUptoRow, standIns := [], harness := (true, "a76fc37ecd5886b0ccdaa479efbd056c29dad722ce01eb0c7ffba8912f419677"), looks := false }, kinds := [], alts := [], laidByText := true, laidKinds := [.data, .data, .data, .data, .pinned], laidTests := true, laidLooks := .later }
def FnKeeperMixUptoCardSaid : Prop := Claim7.holds Tryz.pinned (.plain (OpenSpec.upto fnKeeperMixSpec)) fnKeeperMixUptoCard
end Rows
end Go.Proofs.YtmabaopgkimfmaaGreatDoor
