/-
  DERIVED. GIVEN WITH THE SEED: THE CARDS: each row of YtllapabiebopcaaGreatDoorRows.lean that lists a variable, with what it lists TIED to the program's text (the seventh form; the later family's looks); each row that meets fmt, with fmt's text TOLD by the authors' own Lean function (tested against real Go, not proved from fmt's source: count such statements apart). THE CARD IS WHAT COUNTS. Prove the row's statement (the work); the ties are given (YtllapabiebopcaaGreatDoorTie.lean); close each card by the builder's one call (the guide's Derived/Test/ToyasCard.lean, 'card_holds'). Laid BY PROGRAM, IN A SANDBOX (cutbox-door.mjs). By AI agents, Wed Nov 11 2026. No macro, syntax, notation, axiom, sorry.
-/
import Derived.Test.YtllapabiebopcaaGreatDoorRows
import GoSem.ClaimSeven
namespace Go.Proofs.YtllapabiebopcaaGreatDoor
namespace Rows

/-- THE TIED CARD OF 'laws.FnExactKeeperOk'. -/
def fnExactKeeperOkCard : Claim7 := { stood := { row := fnExactKeeperOkRow, standIns := [], harness := (true, "d5397343d49439c56a8ef9b603c93f9b79acc2097562d5d6196a9bd76c146a2e"), looks := false }, kinds := [], alts := [], laidByText := true, laidKinds := [.data, .data, .data, .data, .pinned], laidTests := true, laidLooks := .later }
def FnExactKeeperOkCardSaid : Prop := Claim7.holds Tryz.pinned (.plain (OpenSpec.ofChange fnExactKeeperOkSpec)) fnExactKeeperOkCard

/-- THE TIED CARD OF 'laws.FnExactKeeperFall'. -/
def fnExactKeeperFallCard : Claim7 := { stood := { row := fnExactKeeperFallRow, standIns := [], harness := (true, "d5397343d49439c56a8ef9b603c93f9b79acc2097562d5d6196a9bd76c146a2e"), looks := false }, kinds := [], alts := [], laidByText := true, laidKinds := [.data, .data, .data, .data, .pinned], laidTests := true, laidLooks := .later }
def FnExactKeeperFallCardSaid : Prop := Claim7.holds Tryz.pinned (.plain (OpenSpec.ofChange fnExactKeeperFallSpec)) fnExactKeeperFallCard

/-- THE TIED CARD OF 'laws.FnExactKeeperRise'. -/
def fnExactKeeperRiseCard : Claim7 := { stood := { row := fnExactKeeperRiseRow, standIns := [], harness := (true, "d5397343d49439c56a8ef9b603c93f9b79acc2097562d5d6196a9bd76c146a2e"), looks := false }, kinds := [], alts := [], laidByText := true, laidKinds := [.data, .data, .data, .data, .pinned], laidTests := true, laidLooks := .later }
def FnExactKeeperRiseCardSaid : Prop := Claim7.holds Tryz.pinned (.plain (OpenSpec.ofChange fnExactKeeperRiseSpec)) fnExactKeeperRiseCard

/-- THE TIED CARD OF 'laws.FnExactKeeperForce'. -/
def fnExactKeeperForceCard : Claim7 := { stood := { row := fnExactKeeperForceRow, standIns := [], harness := (true, "d5397343d49439c56a8ef9b603c93f9b79acc2097562d5d6196a9bd76c146a2e"), looks := false }, kinds := [], alts := [], laidByText := true, laidKinds := [.data, .data, .data, .data, .pinned], laidTests := true, laidLooks := .later }
def FnExactKeeperForceCardSaid : Prop := Claim7.holds Tryz.pinned (.plain (OpenSpec.ofChange fnExactKeeperForceSpec)) fnExactKeeperForceCard

/-- THE TIED CARD OF 'laws.FnExactKeeperHas'. -/
def fnExactKeeperHasCard : Claim7 := { stood := { row := fnExactKeeperHasRow, standIns := [], harness := (true, "d5397343d49439c56a8ef9b603c93f9b79acc2097562d5d6196a9bd76c146a2e"), looks := false }, kinds := [], alts := [], laidByText := true, laidKinds := [.data, .data, .data, .data, .pinned], laidTests := true, laidLooks := .later }
def FnExactKeeperHasCardSaid : Prop := Claim7.holds Tryz.pinned (.plain (OpenSpec.ofChange fnExactKeeperHasSpec)) fnExactKeeperHasCard

/-- THE SECOND FORM's CARD OF 'laws.FnExactKeeperOk'. -/
def fnExactKeeperOkUptoCard : Claim7 := { stood := { row := fnExactKeeperOkUptoRow, standIns := [], harness := (true, "d5397343d49439c56a8ef9b603c93f9b79acc2097562d5d6196a9bd76c146a2e"), looks := false }, kinds := [], alts := [], laidByText := true, laidKinds := [.data, .data, .data, .data, .pinned], laidTests := true, laidLooks := .later }
def FnExactKeeperOkUptoCardSaid : Prop := Claim7.holds Tryz.pinned (.plain (OpenSpec.upto fnExactKeeperOkSpec)) fnExactKeeperOkUptoCard

/-- THE SECOND FORM's CARD OF 'laws.FnExactKeeperFall'. -/
def fnExactKeeperFallUptoCard : Claim7 := { stood := { row := fnExactKeeperFallUptoRow, standIns := [], harness := (true, "d5397343d49439c56a8ef9b603c93f9b79acc2097562d5d6196a9bd76c146a2e"), looks := false }, kinds := [], alts := [], laidByText := true, laidKinds := [.data, .data, .data, .data, .pinned], laidTests := true, laidLooks := .later }
def FnExactKeeperFallUptoCardSaid : Prop := Claim7.holds Tryz.pinned (.plain (OpenSpec.upto fnExactKeeperFallSpec)) fnExactKeeperFallUptoCard

/-- THE SECOND FORM's CARD OF 'laws.FnExactKeeperRise'. -/
def fnExactKeeperRiseUptoCard : Claim7 := { stood := { row := fnExactKeeperRiseUptoRow, standIns := [], harness := (true, "d5397343d49439c56a8ef9b603c93f9b79acc2097562d5d6196a9bd76c146a2e"), looks := false }, kinds := [], alts := [], laidByText := true, laidKinds := [.data, .data, .data, .data, .pinned], laidTests := true, laidLooks := .later }
def FnExactKeeperRiseUptoCardSaid : Prop := Claim7.holds Tryz.pinned (.plain (OpenSpec.upto fnExactKeeperRiseSpec)) fnExactKeeperRiseUptoCard

/-- THE SECOND FORM's CARD OF 'laws.FnExactKeeperForce'. -/
def fnExactKeeperForceUptoCard : Claim7 := { stood := { row := fnExactKeeperForceUptoRow, standIns := [], harness := (true, "d5397343d49439c56a8ef9b603c93f9b79acc2097562d5d6196a9bd76c146a2e"), looks := false }, kinds := [], alts := [], laidByText := true, laidKinds := [.data, .data, .data, .data, .pinned], laidTests := true, laidLooks := .later }
def FnExactKeeperForceUptoCardSaid : Prop := Claim7.holds Tryz.pinned (.plain (OpenSpec.upto fnExactKeeperForceSpec)) fnExactKeeperForceUptoCard

/-- THE SECOND FORM's CARD OF 'laws.FnExactKeeperHas'. -/
def fnExactKeeperHasUptoCard : Claim7 := { stood := { row := fnExactKeeperHasUptoRow, standIns := [], harness := (true, "d5397343d49439c56a8ef9b603c93f9b79acc2097562d5d6196a9bd76c146a2e"), looks := false }, kinds := [], alts := [], laidByText := true, laidKinds := [.data, .data, .data, .data, .pinned], laidTests := true, laidLooks := .later }
def FnExactKeeperHasUptoCardSaid : Prop := Claim7.holds Tryz.pinned (.plain (OpenSpec.upto fnExactKeeperHasSpec)) fnExactKeeperHasUptoCard
end Rows
end Go.Proofs.YtllapabiebopcaaGreatDoor
