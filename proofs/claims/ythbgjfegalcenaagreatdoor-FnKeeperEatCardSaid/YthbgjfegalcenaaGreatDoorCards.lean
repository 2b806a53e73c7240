/-
  DERIVED. GIVEN WITH THE SEED: THE CARDS: each row of YthbgjfegalcenaaGreatDoorRows.lean that lists a variable, with what it lists TIED to the program's text (the seventh form; the later family's looks); each row that meets fmt, with fmt's text TOLD by the authors' own Lean function (tested against real Go, not proved from fmt's source: count such statements apart). THE CARD IS WHAT COUNTS. Prove the row's statement (the work); the ties are given (YthbgjfegalcenaaGreatDoorTie.lean); close each card by the builder's one call (the guide's Derived/Test/ToyasCard.lean, 'card_holds'). Laid BY PROGRAM, IN A SANDBOX (cutbox-door.mjs). By AI agents, Wed Nov 11 2026. No macro, syntax, notation, axiom, sorry.
-/
import Derived.Test.YthbgjfegalcenaaGreatDoorRows
import GoSem.ClaimSeven
namespace Go.Proofs.YthbgjfegalcenaaGreatDoor
namespace Rows

/-- THE TIED CARD OF 'laws.FnKeeperHas'. -/
def fnKeeperHasCard : Claim7 := { stood := { row := fnKeeperHasRow, standIns := [], harness := (true, "a6f9a954460d8ae7c5c1f724c794d23031d957f12bd8673c5aebe1989cd7650d"), looks := false }, kinds := [], alts := [], laidByText := true, laidKinds := [.data, .data, .data, .data, .pinned], laidTests := true, laidLooks := .later }
def FnKeeperHasCardSaid : Prop := Claim7.holds Tryz.pinned (.plain (OpenSpec.ofChange fnKeeperHasSpec)) fnKeeperHasCard

/-- THE TIED CARD OF 'laws.FnKeeperFall'. -/
def fnKeeperFallCard : Claim7 := { stood := { row := fnKeeperFallRow, standIns := [], harness := (true, "a6f9a954460d8ae7c5c1f724c794d23031d957f12bd8673c5aebe1989cd7650d"), looks := false }, kinds := [], alts := [], laidByText := true, laidKinds := [.data, .data, .data, .data, .pinned], laidTests := true, laidLooks := .later }
def FnKeeperFallCardSaid : Prop := Claim7.holds Tryz.pinned (.plain (OpenSpec.ofChange fnKeeperFallSpec)) fnKeeperFallCard

/-- THE TIED CARD OF 'laws.FnKeeperRise'. -/
def fnKeeperRiseCard : Claim7 := { stood := { row := fnKeeperRiseRow, standIns := [], harness := (true, "a6f9a954460d8ae7c5c1f724c794d23031d957f12bd8673c5aebe1989cd7650d"), looks := false }, kinds := [], alts := [], laidByText := true, laidKinds := [.data, .data, .data, .data, .pinned], laidTests := true, laidLooks := .later }
def FnKeeperRiseCardSaid : Prop := Claim7.holds Tryz.pinned (.plain (OpenSpec.ofChange fnKeeperRiseSpec)) fnKeeperRiseCard

/-- THE TIED CARD OF 'laws.FnKeeperForce'. -/
def fnKeeperForceCard : Claim7 := { stood := { row := fnKeeperForceRow, standIns := [], harness := (true, "a6f9a954460d8ae7c5c1f724c794d23031d957f12bd8673c5aebe1989cd7650d"), looks := false }, kinds := [], alts := [], laidByText := true, laidKinds := [.data, .data, .data, .data, .pinned], laidTests := true, laidLooks := .later }
def FnKeeperForceCardSaid : Prop := Claim7.holds Tryz.pinned (.plain (OpenSpec.ofChange fnKeeperForceSpec)) fnKeeperForceCard

/-- THE TIED CARD OF 'laws.FnKeeperPack'. -/
def fnKeeperPackCard : Claim7 := { stood := { row := fnKeeperPackRow, standIns := [], harness := (true, "a6f9a954460d8ae7c5c1f724c794d23031d957f12bd8673c5aebe1989cd7650d"), looks := false }, kinds := [], alts := [], laidByText := true, laidKinds := [.data, .data, .data, .data, .pinned], laidTests := true, laidLooks := .later }
def FnKeeperPackCardSaid : Prop := Claim7.holds Tryz.pinned (.plain (OpenSpec.ofChange fnKeeperPackSpec)) fnKeeperPackCard

/-- THE TIED CARD OF 'laws.FnKeeperNum'. -/
def fnKeeperNumCard : Claim7 := { stood := { row := fnKeeperNumRow, standIns := [], harness := (true, "a6f9a954460d8ae7c5c1f724c794d23031d957f12bd8673c5aebe1989cd7650d"), looks := false }, kinds := [], alts := [], laidByText := true, laidKinds := [.data, .data, .data, .data, .pinned], laidTests := true, laidLooks := .later }
def FnKeeperNumCardSaid : Prop := Claim7.holds Tryz.pinned (.plain (OpenSpec.ofChange fnKeeperNumSpec)) fnKeeperNumCard

/-- THE TIED CARD OF 'laws.FnKeeperCut'. -/
def fnKeeperCutCard : Claim7 := { stood := { row := fnKeeperCutRow, standIns := [], harness := (true, "a6f9a954460d8ae7c5c1f724c794d23031d957f12bd8673c5aebe1989cd7650d"), looks := false }, kinds := [], alts := [], laidByText := true, laidKinds := [.data, .data, .data, .data, .pinned], laidTests := true, laidLooks := .later }
def FnKeeperCutCardSaid : Prop := Claim7.holds Tryz.pinned (.plain (OpenSpec.ofChange fnKeeperCutSpec)) fnKeeperCutCard

/-- THE TIED CARD OF 'laws.FnKeeperOwn'. -/
def fnKeeperOwnCard : Claim7 := { stood := { row := fnKeeperOwnRow, standIns := [], harness := (true, "a6f9a954460d8ae7c5c1f724c794d23031d957f12bd8673c5aebe1989cd7650d"), looks := false }, kinds := [], alts := [], laidByText := true, laidKinds := [.data, .data, .data, .data, .pinned], laidTests := true, laidLooks := .later }
def FnKeeperOwnCardSaid : Prop := Claim7.holds Tryz.pinned (.plain (OpenSpec.ofChange fnKeeperOwnSpec)) fnKeeperOwnCard

/-- THE TIED CARD OF 'laws.FnKeeperTime'. -/
def fnKeeperTimeCard : Claim7 := { stood := { row := fnKeeperTimeRow, standIns := [], harness := (true, "a6f9a954460d8ae7c5c1f724c794d23031d957f12bd8673c5aebe1989cd7650d"), looks := false }, kinds := [], alts := [], laidByText := true, laidKinds := [.data, .data, .data, .data, .pinned], laidTests := true, laidLooks := .later }
def FnKeeperTimeCardSaid : Prop := Claim7.holds Tryz.pinned (.plain (OpenSpec.ofChange fnKeeperTimeSpec)) fnKeeperTimeCard

/-- THE TIED CARD OF 'laws.FnKeeperMix'. -/
def fnKeeperMixCard : Claim7 := { stood := { row := fnKeeperMixRow, standIns := [], harness := (true, "a6f9a954460d8ae7c5c1f724c794d23031d957f12bd8673c5aebe1989cd7650d"), looks := false }, kinds := [], alts := [], laidByText := true, laidKinds := [.data, .data, .data, .data, .pinned], laidTests := true, laidLooks := .later }
def FnKeeperMixCardSaid : Prop := Claim7.holds Tryz.pinned (.plain (OpenSpec.ofChange fnKeeperMixSpec)) fnKeeperMixCard

/-- THE TIED CARD OF 'laws.FnKeeperEat'. -/
def fnKeeperEatCard : Claim7 := { stood := { row := fnKeeperEatRow, standIns := [], harness := (true, "a6f9a954460d8ae7c5c1f724c794d23031d957f12bd8673c5aebe1989cd7650d"), looks := false }, kinds := [], alts := [], laidByText := true, laidKinds := [.data, .data, .data, .data, .pinned], laidTests := true, laidLooks := .later }
def FnKeeperEatCardSaid : Prop := Claim7.holds Tryz.pinned (.plain (OpenSpec.ofChange fnKeeperEatSpec)) fnKeeperEatCard

/-- THE SECOND FORM's CARD OF 'laws.FnKeeperHas'. -/
def fnKeeperHasUptoCard : Claim7 := { stood := { row := fnKeeperHasUptoRow, standIns := [], harness := (true, "a6f9a954460d8ae7c5c1f724c794d23031d957f12bd8673c5aebe1989cd7650d"), looks := false }, kinds := [], alts := [], laidByText := true, laidKinds := [.data, .data, .data, .data, .pinned], laidTests := true, laidLooks := .later }
def FnKeeperHasUptoCardSaid : Prop := Claim7.holds Tryz.pinned (.plain (OpenSpec.upto fnKeeperHasSpec)) fnKeeperHasUptoCard

/-- THE SECOND FORM's CARD OF 'laws.FnKeeperFall'. -/
def fnKeeperFallUptoCard : Claim7 := { stood := { row := fnKeeperFallUptoRow, standIns := [], harness := (true, "a6f9a954460d8ae7c5c1f724c794d23031d957f12bd8673c5aebe1989cd7650d"), looks := false }, kinds := [], alts := [], laidByText := true, laidKinds := [.data, .data, .data, .data, .pinned], laidTests := true, laidLooks := .later }
def FnKeeperFallUptoCardSaid : Prop := Claim7.holds Tryz.pinned (.plain (OpenSpec.upto fnKeeperFallSpec)) fnKeeperFallUptoCard

/-- THE SECOND FORM's CARD OF 'laws.FnKeeperRise'. -/
def fnKeeperRiseUptoCard : Claim7 := { stood := { row := fnKeeperRiseUptoRow, standIns := [], harness := (true, "a6f9a954460d8ae7c5c1f724c794d23031d957f12bd8673c5aebe1989cd7650d"), looks := false }, kinds := [], alts := [], laidByText := true, laidKinds := [.data, .data, .data, .data, .pinned], laidTests := true, laidLooks := .later }
def FnKeeperRiseUptoCardSaid : Prop := Claim7.holds Tryz.pinned (.plain (OpenSpec.upto fnKeeperRiseSpec)) fnKeeperRiseUptoCard

/-- THE SECOND FORM's CARD OF 'laws.FnKeeperForce'. -/
def fnKeeperForceUptoCard : Claim7 := { stood := { row := fnKeeperForceUptoRow, standIns := [], harness := (true, "a6f9a954460d8ae7c5c1f724c794d23031d957f12bd8673c5aebe1989cd7650d"), looks := false }, kinds := [], alts := [], laidByText := true, laidKinds := [.data, .data, .data, .data, .pinned], laidTests := true, laidLooks := .later }
def FnKeeperForceUptoCardSaid : Prop := Claim7.holds Tryz.pinned (.plain (OpenSpec.upto fnKeeperForceSpec)) fnKeeperForceUptoCard

/-- THE SECOND FORM's CARD OF 'laws.FnKeeperPack'. -/
def fnKeeperPackUptoCard : Claim7 := { stood := { row := fnKeeperPackUptoRow, standIns := [], harness := (true, "a6f9a954460d8ae7c5c1f724c794d23031d957f12bd8673c5aebe1989cd7650d"), looks := false }, kinds := [], alts := [], laidByText := true, laidKinds := [.data, .data, .data, .data, .pinned], laidTests := true, laidLooks := .later }
def FnKeeperPackUptoCardSaid : Prop := Claim7.holds Tryz.pinned (.plain (OpenSpec.upto fnKeeperPackSpec)) fnKeeperPackUptoCard

/-- THE SECOND FORM's CARD OF 'laws.FnKeeperNum'. -/
def fnKeeperNumUptoCard : Claim7 := { stood := { row := fnKeeperNumUptoRow, standIns := [], harness := (true, "a6f9a954460d8ae7c5c1f724c794d23031d957f12bd8673c5aebe1989cd7650d"), looks := false }, kinds := [], alts := [], laidByText := true, laidKinds := [.data, .data, .data, .data, .pinned], laidTests := true, laidLooks := .later }
def FnKeeperNumUptoCardSaid : Prop := Claim7.holds Tryz.pinned (.plain (OpenSpec.upto fnKeeperNumSpec)) fnKeeperNumUptoCard

/-- THE SECOND FORM's CARD OF 'laws.FnKeeperCut'. -/
def fnKeeperCutUptoCard : Claim7 := { stood := { row := fnKeeperCutUptoRow, standIns := [], harness := (true, "a6f9a954460d8ae7c5c1f724c794d23031d957f12bd8673c5aebe1989cd7650d"), looks := false }, kinds := [], alts := [], laidByText := true, laidKinds := [.data, .data, .data, .data, .pinned], laidTests := true, laidLooks := .later }
def FnKeeperCutUptoCardSaid : Prop := Claim7.holds Tryz.pinned (.plain (OpenSpec.upto fnKeeperCutSpec)) fnKeeperCutUptoCard

/-- THE SECOND FORM's CARD OF 'laws.FnKeeperOwn'. -/
def fnKeeperOwnUptoCard : Claim7 := { stood := { row := fnKeeperOwnUptoRow, standIns := [], harness := (true, "a6f9a954460d8ae7c5c1f724c794d23031d957f12bd8673c5aebe1989cd7650d"), looks := false }, kinds := [], alts := [], laidByText := true, laidKinds := [.data, .data, .data, .data, .pinned], laidTests := true, laidLooks := .later }
def FnKeeperOwnUptoCardSaid : Prop := Claim7.holds Tryz.pinned (.plain (OpenSpec.upto fnKeeperOwnSpec)) fnKeeperOwnUptoCard

/-- THE SECOND FORM's CARD OF 'laws.FnKeeperTime'. -/
def fnKeeperTimeUptoCard : Claim7 := { stood := { row := fnKeeperTimeUptoRow, standIns := [], harness := (true, "a6f9a954460d8ae7c5c1f724c794d23031d957f12bd8673c5aebe1989cd7650d"), looks := false }, kinds := [], alts := [], laidByText := true, laidKinds := [.data, .data, .data, .data, .pinned], laidTests := true, laidLooks := .later }
def FnKeeperTimeUptoCardSaid : Prop := Claim7.holds Tryz.pinned (.plain (OpenSpec.upto fnKeeperTimeSpec)) fnKeeperTimeUptoCard

/-- THE SECOND FORM's CARD OF 'laws.FnKeeperMix'. -/
def fnKeeperMixUptoCard : Claim7 := { stood := { row := fnKeeperMixUptoRow, standIns := [], harness := (true, "a6f9a954460d8ae7c5c1f724c794d23031d957f12bd8673c5aebe1989cd7650d"), looks := false }, kinds := [], alts := [], laidByText := true, laidKinds := [.data, .data, .data, .data, .pinned], laidTests := true, laidLooks := .later }
def FnKeeperMixUptoCardSaid : Prop := Claim7.holds Tryz.pinned (.plain (OpenSpec.upto fnKeeperMixSpec)) fnKeeperMixUptoCard

/-- THE SECOND FORM's CARD OF 'laws.FnKeeperEat'. -/
def fnKeeperEatUptoCard : Claim7 := { stood := { row := fnKeeperEatUptoRow, standIns := [], harness := (true, "a6f9a954460d8ae7c5c1f724c794d23031d957f12bd8673c5aebe1989cd7650d"), looks := false }, kinds := [], alts := [], laidByText := true, laidKinds := [.data, .data, .data, .data, .pinned], laidTests := true, laidLooks := .later }
def FnKeeperEatUptoCardSaid : Prop := Claim7.holds Tryz.pinned (.plain (OpenSpec.upto fnKeeperEatSpec)) fnKeeperEatUptoCard
end Rows
end Go.Proofs.YthbgjfegalcenaaGreatDoor
