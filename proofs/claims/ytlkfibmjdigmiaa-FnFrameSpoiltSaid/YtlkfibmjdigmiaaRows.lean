/-
  No cell of these rows narrows 'for every input' (looked for: loops, veiled, ifaces, maps, wideKeys, modest, calm, conditions, laid).
  DERIVED. THE GIVEN ROWS OF THIS SEAT. 6 by the template 'for every input the law returns true; each argument reads behind the call as it read before'; 0 by the template 'total and deterministic' (their statements: YtlkfibmjdigmiaaTotals.lean).
  GIVEN WITH THE SEED: the statements are not yours to turn. If you find one false, say at which input.
  Laid BY PROGRAM, IN A SANDBOX (cutbox-rows.mjs): the forced cells as the released guide's own fill.sh prints them over the translation 3300a5679e196f8b… (all of the seat's roots in one cut). By AI agents, Wed Nov 11 2026. No macro, syntax, notation, axiom, sorry.
-/
import Derived.Test.YtlkfibmjdigmiaaChecked
import GoSem.Claim
import GoSem.ClaimJoined
import GoSem.ClaimMapViews
import Derived.JoinedTies
import Derived.KernelRfl
namespace Go.Proofs.Ytlkfibmjdigmiaa
/- THE CELL 'sum', in the pinned program and in every row, IS THE sha256 OF THE DUMP (.gsa) THAT YtlkfibmjdigmiaaProg.lean LOADS. Nothing in Lean hashes anything: it is a label: what it is worth is what the hold of that sum in a sandbox is worth. -/
noncomputable def Try.pinned : Pinned := { name := "ytlkfibmjdigmiaa", sum := "3300a5679e196f8b587df50fc502ee8a3c1678b3f4a5dcc4a3857f1fa59c7186", checked := Try.checked }
namespace Rows
def none {H : Type} : Left H := { results := [], args := [] }

/-- 'laws.FnFrameWay': WHATEVER THE INPUT: true; the input reads as it did. -/
def fnFrameWaySpec : ChangeSpec := { name := "fnFrameWay", fn := fun _ => fun
  | [d] => { results := [.lit (.bool true)], args := [d] }
  | _ => none }
def fnFrameWayRow : OpenClaim := { program := "ytlkfibmjdigmiaa", sum := "3300a5679e196f8b587df50fc502ee8a3c1678b3f4a5dcc4a3857f1fa59c7186", func := "loop.example/bargeman/laws.FnFrameWay", spec := "fnFrameWay", apart := false }
def FnFrameWaySaid : Prop := fnFrameWayRow.holds Try.pinned (OpenSpec.ofChange fnFrameWaySpec)

/-- ITS FALSE NEIGHBOUR: 'it returns false'. Refute it at one input. -/
def fnFrameWayWrong : ChangeSpec := { name := "fnFrameWay", fn := fun _ => fun
  | [d] => { results := [.lit (.bool false)], args := [d] }
  | _ => none }
def FnFrameWayWrongFalsely : Prop := fnFrameWayRow.holds Try.pinned (OpenSpec.ofChange fnFrameWayWrong)

/-- 'laws.FnFrameLen': WHATEVER THE INPUT: true; the input reads as it did. -/
def fnFrameLenSpec : ChangeSpec := { name := "fnFrameLen", fn := fun _ => fun
  | [d] => { results := [.lit (.bool true)], args := [d] }
  | _ => none }
def fnFrameLenRow : OpenClaim := { program := "ytlkfibmjdigmiaa", sum := "3300a5679e196f8b587df50fc502ee8a3c1678b3f4a5dcc4a3857f1fa59c7186", func := "loop.example/bargeman/laws.FnFrameLen", spec := "fnFrameLen", apart := false }
def FnFrameLenSaid : Prop := fnFrameLenRow.holds Try.pinned (OpenSpec.ofChange fnFrameLenSpec)

/-- ITS FALSE NEIGHBOUR: 'it returns false'. Refute it at one input. -/
def fnFrameLenWrong : ChangeSpec := { name := "fnFrameLen", fn := fun _ => fun
  | [d] => { results := [.lit (.bool false)], args := [d] }
  | _ => none }
def FnFrameLenWrongFalsely : Prop := fnFrameLenRow.holds Try.pinned (OpenSpec.ofChange fnFrameLenWrong)

/-- 'laws.FnFrameBack': WHATEVER THE INPUT: true; the input reads as it did. -/
def fnFrameBackSpec : ChangeSpec := { name := "fnFrameBack", fn := fun _ => fun
  | [d] => { results := [.lit (.bool true)], args := [d] }
  | _ => none }
def fnFrameBackRow : OpenClaim := { program := "ytlkfibmjdigmiaa", sum := "3300a5679e196f8b587df50fc502ee8a3c1678b3f4a5dcc4a3857f1fa59c7186", func := "loop.example/bargeman/laws.FnFrameBack", spec := "fnFrameBack", apart := false }
def FnFrameBackSaid : Prop := fnFrameBackRow.holds Try.pinned (OpenSpec.ofChange fnFrameBackSpec)

/-- ITS FALSE NEIGHBOUR: 'it returns false'. Refute it at one input. -/
def fnFrameBackWrong : ChangeSpec := { name := "fnFrameBack", fn := fun _ => fun
  | [d] => { results := [.lit (.bool false)], args := [d] }
  | _ => none }
def FnFrameBackWrongFalsely : Prop := fnFrameBackRow.holds Try.pinned (OpenSpec.ofChange fnFrameBackWrong)

/-- 'laws.FnFrameShort': WHATEVER THE INPUT: true; the input reads as it did. -/
def fnFrameShortSpec : ChangeSpec := { name := "fnFrameShort", fn := fun _ => fun
  | [d] => { results := [.lit (.bool true)], args := [d] }
  | _ => none }
def fnFrameShortRow : OpenClaim := { program := "ytlkfibmjdigmiaa", sum := "3300a5679e196f8b587df50fc502ee8a3c1678b3f4a5dcc4a3857f1fa59c7186", func := "loop.example/bargeman/laws.FnFrameShort", spec := "fnFrameShort", apart := false }
def FnFrameShortSaid : Prop := fnFrameShortRow.holds Try.pinned (OpenSpec.ofChange fnFrameShortSpec)

/-- ITS FALSE NEIGHBOUR: 'it returns false'. Refute it at one input. -/
def fnFrameShortWrong : ChangeSpec := { name := "fnFrameShort", fn := fun _ => fun
  | [d] => { results := [.lit (.bool false)], args := [d] }
  | _ => none }
def FnFrameShortWrongFalsely : Prop := fnFrameShortRow.holds Try.pinned (OpenSpec.ofChange fnFrameShortWrong)

/-- 'laws.FnFrameSpoilt': WHATEVER THE INPUT: true; the input reads as it did. -/
def fnFrameSpoiltSpec : ChangeSpec := { name := "fnFrameSpoilt", fn := fun _ => fun
  | [d1, d2] => { results := [.lit (.bool true)], args := [d1, d2] }
  | _ => none }
def fnFrameSpoiltRow : OpenClaim := { program := "ytlkfibmjdigmiaa", sum := "3300a5679e196f8b587df50fc502ee8a3c1678b3f4a5dcc4a3857f1fa59c7186", func := "loop.example/bargeman/laws.FnFrameSpoilt", spec := "fnFrameSpoilt", apart := false }
def FnFrameSpoiltSaid : Prop := fnFrameSpoiltRow.holds Try.pinned (OpenSpec.ofChange fnFrameSpoiltSpec)

/-- ITS FALSE NEIGHBOUR: 'it returns false'. Refute it at one input. -/
def fnFrameSpoiltWrong : ChangeSpec := { name := "fnFrameSpoilt", fn := fun _ => fun
  | [d1, d2] => { results := [.lit (.bool false)], args := [d1, d2] }
  | _ => none }
def FnFrameSpoiltWrongFalsely : Prop := fnFrameSpoiltRow.holds Try.pinned (OpenSpec.ofChange fnFrameSpoiltWrong)

/-- 'laws.FnFrameStrict': WHATEVER THE INPUT: true; the input reads as it did. -/
def fnFrameStrictSpec : ChangeSpec := { name := "fnFrameStrict", fn := fun _ => fun
  | [d] => { results := [.lit (.bool true)], args := [d] }
  | _ => none }
def fnFrameStrictRow : OpenClaim := { program := "ytlkfibmjdigmiaa", sum := "3300a5679e196f8b587df50fc502ee8a3c1678b3f4a5dcc4a3857f1fa59c7186", func := "loop.example/bargeman/laws.FnFrameStrict", spec := "fnFrameStrict", apart := false }
def FnFrameStrictSaid : Prop := fnFrameStrictRow.holds Try.pinned (OpenSpec.ofChange fnFrameStrictSpec)

/-- ITS FALSE NEIGHBOUR: 'it returns false'. Refute it at one input. -/
def fnFrameStrictWrong : ChangeSpec := { name := "fnFrameStrict", fn := fun _ => fun
  | [d] => { results := [.lit (.bool false)], args := [d] }
  | _ => none }
def FnFrameStrictWrongFalsely : Prop := fnFrameStrictRow.holds Try.pinned (OpenSpec.ofChange fnFrameStrictWrong)

/- THE SECOND FORM. 'bulk': how many values and letters a reading holds, each counted each time it is reached (what is shared counts as often as it is met; a slice's spare places count too). A statement '..UptoSaid' is the law's where the arguments, and the package variables that the reading takes, are together of bulk at most 1048576: NARROWER than '..Said'. Prove '..Said' where nothing that the law and all that it calls make is longer than what came in: it says more and counts as full. Else prove '..UptoSaid'. A law counts once. -/
mutual
def uptoBulk {H : Type} : DataW H → Nat
  | .lit (.string bytes) => bytes.length + 1
  | .lit _ => 1
  | .nil => 1
  | .ptr d => uptoBulk d + 1
  | .slice elems spare => uptoBulkAll elems + uptoBulkAll spare + 1
  | .agg parts => uptoBulkAll parts + 1
  | .iface _ d => uptoBulk d + 1
  | .map entries => uptoBulkEntries entries + 1
  | .held _ => 1
def uptoBulkAll {H : Type} : List (DataW H) → Nat
  | [] => 0
  | d :: r => uptoBulk d + uptoBulkAll r
def uptoBulkEntries {H : Type} : List (Lit × DataW H) → Nat
  | [] => 0
  | x :: r => uptoBulkEntry x + uptoBulkEntries r
def uptoBulkEntry {H : Type} : Lit × DataW H → Nat
  | (.string bytes, d) => bytes.length + uptoBulk d + 1
  | (_, d) => uptoBulk d + 1
 end
def uptoSmall : (H : Type) → List (DataW H) → Bool := fun _ ds => decide (uptoBulkAll ds ≤ 1048576)
def OpenSpec.upto (s : _root_.Go.ChangeSpec) : _root_.Go.OpenSpec := { _root_.Go.OpenSpec.ofChange s with cond := some uptoSmall }

/-- 'laws.FnFrameWay', WHERE WHAT IT READS IS OF BULK AT MOST 1048576: true; the input reads as it did. -/
def fnFrameWayUptoRow : OpenClaim := { program := "ytlkfibmjdigmiaa", sum := "3300a5679e196f8b587df50fc502ee8a3c1678b3f4a5dcc4a3857f1fa59c7186", func := "loop.example/bargeman/laws.FnFrameWay", spec := "fnFrameWay", apart := false, narrowed := true }
def FnFrameWayUptoSaid : Prop := fnFrameWayUptoRow.holds Try.pinned (OpenSpec.upto fnFrameWaySpec)

/-- 'laws.FnFrameLen', WHERE WHAT IT READS IS OF BULK AT MOST 1048576: true; the input reads as it did. -/
def fnFrameLenUptoRow : OpenClaim := { program := "ytlkfibmjdigmiaa", sum := "3300a5679e196f8b587df50fc502ee8a3c1678b3f4a5dcc4a3857f1fa59c7186", func := "loop.example/bargeman/laws.FnFrameLen", spec := "fnFrameLen", apart := false, narrowed := true }
def FnFrameLenUptoSaid : Prop := fnFrameLenUptoRow.holds Try.pinned (OpenSpec.upto fnFrameLenSpec)

/-- 'laws.FnFrameBack', WHERE WHAT IT READS IS OF BULK AT MOST 1048576: true; the input reads as it did. -/
def fnFrameBackUptoRow : OpenClaim := { program := "ytlkfibmjdigmiaa", sum := "3300a5679e196f8b587df50fc502ee8a3c1678b3f4a5dcc4a3857f1fa59c7186", func := "loop.example/bargeman/laws.FnFrameBack", spec := "fnFrameBack", apart := false, narrowed := true }
def FnFrameBackUptoSaid : Prop := fnFrameBackUptoRow.holds Try.pinned (OpenSpec.upto fnFrameBackSpec)

/-- 'laws.FnFrameShort', WHERE WHAT IT READS IS OF BULK AT MOST 1048576: true; the input reads as it did. -/
def fnFrameShortUptoRow : OpenClaim := { program := "ytlkfibmjdigmiaa", sum := "3300a5679e196f8b587df50fc502ee8a3c1678b3f4a5dcc4a3857f1fa59c7186", func := "loop.example/bargeman/laws.FnFrameShort", spec := "fnFrameShort", apart := false, narrowed := true }
def FnFrameShortUptoSaid : Prop := fnFrameShortUptoRow.holds Try.pinned (OpenSpec.upto fnFrameShortSpec)

/-- 'laws.FnFrameSpoilt', WHERE WHAT IT READS IS OF BULK AT MOST 1048576: true; the input reads as it did. -/
def fnFrameSpoiltUptoRow : OpenClaim := { program := "ytlkfibmjdigmiaa", sum := "3300a5679e196f8b587df50fc502ee8a3c1678b3f4a5dcc4a3857f1fa59c7186", func := "loop.example/bargeman/laws.FnFrameSpoilt", spec := "fnFrameSpoilt", apart := false, narrowed := true }
def FnFrameSpoiltUptoSaid : Prop := fnFrameSpoiltUptoRow.holds Try.pinned (OpenSpec.upto fnFrameSpoiltSpec)

/-- 'laws.FnFrameStrict', WHERE WHAT IT READS IS OF BULK AT MOST 1048576: true; the input reads as it did. -/
def fnFrameStrictUptoRow : OpenClaim := { program := "ytlkfibmjdigmiaa", sum := "3300a5679e196f8b587df50fc502ee8a3c1678b3f4a5dcc4a3857f1fa59c7186", func := "loop.example/bargeman/laws.FnFrameStrict", spec := "fnFrameStrict", apart := false, narrowed := true }
def FnFrameStrictUptoSaid : Prop := fnFrameStrictUptoRow.holds Try.pinned (OpenSpec.upto fnFrameStrictSpec)

end Rows
end Go.Proofs.Ytlkfibmjdigmiaa
