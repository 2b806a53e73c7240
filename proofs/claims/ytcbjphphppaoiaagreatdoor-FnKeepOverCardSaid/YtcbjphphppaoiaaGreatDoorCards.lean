/-
  DERIVED. GIVEN WITH THE SEED: THE CARDS: each row of YtcbjphphppaoiaaGreatDoorRows.lean that lists a variable, with what it lists TIED to the program's text (the seventh form; the later family's looks); each row that meets fmt, with fmt's text TOLD by the authors' own Lean function (tested against real Go, not proved from fmt's source: count such statements apart). THE CARD IS WHAT COUNTS. Prove the row's statement (the work); the ties are given (YtcbjphphppaoiaaGreatDoorTie.lean); close each card by the builder's one call (the guide's Derived/Test/ToyasCard.lean, 'card_holds'). Laid BY PROGRAM, IN A SANDBOX (cutbox-door.mjs). By AI agents, Wed Nov 11 2026. No macro, syntax, notation, axiom, sorry.
-/
import Derived.Test.YtcbjphphppaoiaaGreatDoorRows
import GoSem.ClaimSeven
namespace Go.Proofs.YtcbjphphppaoiaaGreatDoor
namespace Rows

/-- THE TIED CARD OF 'laws.FnKeepFresh'. -/
def fnKeepFreshCard : Claim7 := { stood := { row := fnKeepFreshRow, standIns := [], harness := (true, "acec77cbf20a3e72bae3abb151e0cb57e084344ea49f3b48e6d47b040f02beb0"), looks := false }, kinds := [], alts := [], laidByText := true, laidKinds := [.data, .data, .data, .data, .pinned], laidTests := true, laidLooks := .later }
def FnKeepFreshCardSaid : Prop := Claim7.holds Tryz.pinned (.plain (OpenSpec.ofChange fnKeepFreshSpec)) fnKeepFreshCard

/-- THE TIED CARD OF 'laws.FnKeepLet'. -/
def fnKeepLetCard : Claim7 := { stood := { row := fnKeepLetRow, standIns := [], harness := (true, "acec77cbf20a3e72bae3abb151e0cb57e084344ea49f3b48e6d47b040f02beb0"), looks := false }, kinds := [], alts := [], laidByText := true, laidKinds := [.data, .data, .data, .data, .pinned], laidTests := true, laidLooks := .later }
def FnKeepLetCardSaid : Prop := Claim7.holds Tryz.pinned (.plain (OpenSpec.ofChange fnKeepLetSpec)) fnKeepLetCard

/-- THE TIED CARD OF 'laws.FnKeepDo'. -/
def fnKeepDoCard : Claim7 := { stood := { row := fnKeepDoRow, standIns := [], harness := (true, "acec77cbf20a3e72bae3abb151e0cb57e084344ea49f3b48e6d47b040f02beb0"), looks := false }, kinds := [], alts := [], laidByText := true, laidKinds := [.data, .data, .data, .data, .pinned], laidTests := true, laidLooks := .later }
def FnKeepDoCardSaid : Prop := Claim7.holds Tryz.pinned (.plain (OpenSpec.ofChange fnKeepDoSpec)) fnKeepDoCard

/-- THE TIED CARD OF 'laws.FnKeepOnce'. -/
def fnKeepOnceCard : Claim7 := { stood := { row := fnKeepOnceRow, standIns := [], harness := (true, "acec77cbf20a3e72bae3abb151e0cb57e084344ea49f3b48e6d47b040f02beb0"), looks := false }, kinds := [], alts := [], laidByText := true, laidKinds := [.data, .data, .data, .data, .pinned], laidTests := true, laidLooks := .later }
def FnKeepOnceCardSaid : Prop := Claim7.holds Tryz.pinned (.plain (OpenSpec.ofChange fnKeepOnceSpec)) fnKeepOnceCard

/-- THE TIED CARD OF 'laws.FnKeepTime'. -/
def fnKeepTimeCard : Claim7 := { stood := { row := fnKeepTimeRow, standIns := [], harness := (true, "acec77cbf20a3e72bae3abb151e0cb57e084344ea49f3b48e6d47b040f02beb0"), looks := false }, kinds := [], alts := [], laidByText := true, laidKinds := [.data, .data, .data, .data, .pinned], laidTests := true, laidLooks := .later }
def FnKeepTimeCardSaid : Prop := Claim7.holds Tryz.pinned (.plain (OpenSpec.ofChange fnKeepTimeSpec)) fnKeepTimeCard

/-- THE TIED CARD OF 'laws.FnKeepTurn'. -/
def fnKeepTurnCard : Claim7 := { stood := { row := fnKeepTurnRow, standIns := [], harness := (true, "acec77cbf20a3e72bae3abb151e0cb57e084344ea49f3b48e6d47b040f02beb0"), looks := false }, kinds := [], alts := [], laidByText := true, laidKinds := [.data, .data, .data, .data, .pinned], laidTests := true, laidLooks := .later }
def FnKeepTurnCardSaid : Prop := Claim7.holds Tryz.pinned (.plain (OpenSpec.ofChange fnKeepTurnSpec)) fnKeepTurnCard

/-- THE TIED CARD OF 'laws.FnKeepOver'. -/
def fnKeepOverCard : Claim7 := { stood := { row := fnKeepOverRow, standIns := [], harness := (true, "acec77cbf20a3e72bae3abb151e0cb57e084344ea49f3b48e6d47b040f02beb0"), looks := false }, kinds := [], alts := [], laidByText := true, laidKinds := [.data, .data, .data, .data, .pinned], laidTests := true, laidLooks := .later }
def FnKeepOverCardSaid : Prop := Claim7.holds Tryz.pinned (.plain (OpenSpec.ofChange fnKeepOverSpec)) fnKeepOverCard

/-- THE TIED CARD OF 'laws.FnKeepOwn'. -/
def fnKeepOwnCard : Claim7 := { stood := { row := fnKeepOwnRow, standIns := [], harness := (true, "acec77cbf20a3e72bae3abb151e0cb57e084344ea49f3b48e6d47b040f02beb0"), looks := false }, kinds := [], alts := [], laidByText := true, laidKinds := [.data, .data, .data, .data, .pinned], laidTests := true, laidLooks := .later }
def FnKeepOwnCardSaid : Prop := Claim7.holds Tryz.pinned (.plain (OpenSpec.ofChange fnKeepOwnSpec)) fnKeepOwnCard

/-- THE TIED CARD OF 'laws.FnKeepEnd'. -/
def fnKeepEndCard : Claim7 := { stood := { row := fnKeepEndRow, standIns := [], harness := (true, "acec77cbf20a3e72bae3abb151e0cb57e084344ea49f3b48e6d47b040f02beb0"), looks := false }, kinds := [], alts := [], laidByText := true, laidKinds := [.data, .data, .data, .data, .pinned], laidTests := true, laidLooks := .later }
def FnKeepEndCardSaid : Prop := Claim7.holds Tryz.pinned (.plain (OpenSpec.ofChange fnKeepEndSpec)) fnKeepEndCard

/-- THE TIED CARD OF 'laws.FnKeepBack'. -/
def fnKeepBackCard : Claim7 := { stood := { row := fnKeepBackRow, standIns := [], harness := (true, "acec77cbf20a3e72bae3abb151e0cb57e084344ea49f3b48e6d47b040f02beb0"), looks := false }, kinds := [], alts := [], laidByText := true, laidKinds := [.data, .data, .data, .data, .pinned], laidTests := true, laidLooks := .later }
def FnKeepBackCardSaid : Prop := Claim7.holds Tryz.pinned (.plain (OpenSpec.ofChange fnKeepBackSpec)) fnKeepBackCard

/-- THE SECOND FORM's CARD OF 'laws.FnKeepFresh'. -/
def fnKeepFreshUptoCard : Claim7 := { stood := { row := fnKeepFreshUptoRow, standIns := [], harness := (true, "acec77cbf20a3e72bae3abb151e0cb57e084344ea49f3b48e6d47b040f02beb0"), looks := false }, kinds := [], alts := [], laidByText := true, laidKinds := [.data, .data, .data, .data, .pinned], laidTests := true, laidLooks := .later }
def FnKeepFreshUptoCardSaid : Prop := Claim7.holds Tryz.pinned (.plain (OpenSpec.upto fnKeepFreshSpec)) fnKeepFreshUptoCard

/-- THE SECOND FORM's CARD OF 'laws.FnKeepLet'. -/
def fnKeepLetUptoCard : Claim7 := { stood := { row := fnKeepLetUptoRow, standIns := [], harness := (true, "acec77cbf20a3e72bae3abb151e0cb57e084344ea49f3b48e6d47b040f02beb0"), looks := false }, kinds := [], alts := [], laidByText := true, laidKinds := [.data, .data, .data, .data, .pinned], laidTests := true, laidLooks := .later }
def FnKeepLetUptoCardSaid : Prop := Claim7.holds Tryz.pinned (.plain (OpenSpec.upto fnKeepLetSpec)) fnKeepLetUptoCard

/-- THE SECOND FORM's CARD OF 'laws.FnKeepDo'. -/
def fnKeepDoUptoCard : Claim7 := { stood := { row := fnKeepDoUptoRow, standIns := [], harness := (true, "acec77cbf20a3e72bae3abb151e0cb57e084344ea49f3b48e6d47b040f02beb0"), looks := false }, kinds := [], alts := [], laidByText := true, laidKinds := [.data, .data, .data, .data, .pinned], laidTests := true, laidLooks := .later }
def FnKeepDoUptoCardSaid : Prop := Claim7.holds Tryz.pinned (.plain (OpenSpec.upto fnKeepDoSpec)) fnKeepDoUptoCard

/-- THE SECOND FORM's CARD OF 'laws.FnKeepOnce'. -/
def fnKeepOnceUptoCard : Claim7 := { stood := { row := fnKeepOnceUptoRow, standIns := [], harness := (true, "acec77cbf20a3e72bae3abb151e0cb57e084344ea49f3b48e6d47b040f02beb0"), looks := false }, kinds := [], alts := [], laidByText := true, laidKinds := [.data, .data, .data, .data, .pinned], laidTests := true, laidLooks := .later }
def FnKeepOnceUptoCardSaid : Prop := Claim7.holds Tryz.pinned (.plain (OpenSpec.upto fnKeepOnceSpec)) fnKeepOnceUptoCard

/-- THE SECOND FORM's CARD OF 'laws.FnKeepTime'. -/
def fnKeepTimeUptoCard : Claim7 := { stood := { row := fnKeepTimeUptoRow, standIns := [], harness := (true, "acec77cbf20a3e72bae3abb151e0cb57e084344ea49f3b48e6d47b040f02beb0"), looks := false }, kinds := [], alts := [], laidByText := true, laidKinds := [.data, .data, .data, .data, .pinned], laidTests := true, laidLooks := .later }
def FnKeepTimeUptoCardSaid : Prop := Claim7.holds Tryz.pinned (.plain (OpenSpec.upto fnKeepTimeSpec)) fnKeepTimeUptoCard

/-- THE SECOND FORM's CARD OF 'laws.FnKeepTurn'. -/
def fnKeepTurnUptoCard : Claim7 := { stood := { row := fnKeepTurnUptoRow, standIns := [], harness := (true, "acec77cbf20a3e72bae3abb151e0cb57e084344ea49f3b48e6d47b040f02beb0"), looks := false }, kinds := [], alts := [], laidByText := true, laidKinds := [.data, .data, .data, .data, .pinned], laidTests := true, laidLooks := .later }
def FnKeepTurnUptoCardSaid : Prop := Claim7.holds Tryz.pinned (.plain (OpenSpec.upto fnKeepTurnSpec)) fnKeepTurnUptoCard

/-- THE SECOND FORM's CARD OF 'laws.FnKeepOver'. -/
def fnKeepOverUptoCard : Claim7 := { stood := { row := fnKeepOverUptoRow, standIns := [], harness := (true, "acec77cbf20a3e72bae3abb151e0cb57e084344ea49f3b48e6d47b040f02beb0"), looks := false }, kinds := [], alts := [], laidByText := true, laidKinds := [.data, .data, .data, .data, .pinned], laidTests := true, laidLooks := .later }
def FnKeepOverUptoCardSaid : Prop := Claim7.holds Tryz.pinned (.plain (OpenSpec.upto fnKeepOverSpec)) fnKeepOverUptoCard

/-- THE SECOND FORM's CARD OF 'laws.FnKeepOwn'. -/
def fnKeepOwnUptoCard : Claim7 := { stood := { row := fnKeepOwnUptoRow, standIns := [], harness := (true, "acec77cbf20a3e72bae3abb151e0cb57e084344ea49f3b48e6d47b040f02beb0"), looks := false }, kinds := [], alts := [], laidByText := true, laidKinds := [.data, .data, .data, .data, .pinned], laidTests := true, laidLooks := .later }
def FnKeepOwnUptoCardSaid : Prop := Claim7.holds Tryz.pinned (.plain (OpenSpec.upto fnKeepOwnSpec)) fnKeepOwnUptoCard

/-- THE SECOND FORM's CARD OF 'laws.FnKeepEnd'. -/
def fnKeepEndUptoCard : Claim7 := { stood := { row := fnKeepEndUptoRow, standIns := [], harness := (true, "acec77cbf20a3e72bae3abb151e0cb57e084344ea49f3b48e6d47b040f02beb0"), looks := false }, kinds := [], alts := [], laidByText := true, laidKinds := [.data, .data, .data, .data, .pinned], laidTests := true, laidLooks := .later }
def FnKeepEndUptoCardSaid : Prop := Claim7.holds Tryz.pinned (.plain (OpenSpec.upto fnKeepEndSpec)) fnKeepEndUptoCard

/-- THE SECOND FORM's CARD OF 'laws.FnKeepBack'. -/
def fnKeepBackUptoCard : Claim7 := { stood := { row := fnKeepBackUptoRow, standIns := [], harness := (true, "acec77cbf20a3e72bae3abb151e0cb57e084344ea49f3b48e6d47b040f02beb0"), looks := false }, kinds := [], alts := [], laidByText := true, laidKinds := [.data, .data, .data, .data, .pinned], laidTests := true, laidLooks := .later }
def FnKeepBackUptoCardSaid : Prop := Claim7.holds Tryz.pinned (.plain (OpenSpec.upto fnKeepBackSpec)) fnKeepBackUptoCard
end Rows
end Go.Proofs.YtcbjphphppaoiaaGreatDoor
