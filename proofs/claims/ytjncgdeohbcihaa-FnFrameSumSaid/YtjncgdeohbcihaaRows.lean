/-
  No cell of these rows narrows 'for every input' (looked for: loops, veiled, ifaces, maps, wideKeys, modest, calm, conditions, laid).
  DERIVED. THE GIVEN ROWS OF THIS SEAT. 6 by the template 'for every input the law returns true; each argument reads behind the call as it read before'; 0 by the template 'total and deterministic' (their statements: YtjncgdeohbcihaaTotals.lean).
  GIVEN WITH THE SEED: the statements are not yours to turn. If you find one false, say at which input.
  Laid BY PROGRAM, IN A SANDBOX (cutbox-rows.mjs): the forced cells as the released guide's own fill.sh prints them over the translation 79949f0ae81cf886… (all of the seat's roots in one cut). By AI agents, Wed Nov 11 2026. No macro, syntax, notation, axiom, sorry.
-/
import Derived.Test.YtjncgdeohbcihaaChecked
import GoSem.Claim
import GoSem.ClaimJoined
import GoSem.ClaimMapViews
import Derived.JoinedTies
import Derived.KernelRfl
namespace Go.Proofs.Ytjncgdeohbcihaa
/- THE CELL 'sum', in the pinned program and in every row, IS THE sha256 OF THE DUMP (.gsa) THAT YtjncgdeohbcihaaProg.lean LOADS. Nothing in Lean hashes anything: it is a label: what it is worth is what the hold of that sum in a sandbox is worth. -/
noncomputable def Try.pinned : Pinned := { name := "ytjncgdeohbcihaa", sum := "79949f0ae81cf886f54844d46017784ee1dfd40ae5d288fa1512a41fbd98d169", checked := Try.checked }
namespace Rows
def none {H : Type} : Left H := { results := [], args := [] }

/-- 'laws.FnExactFrameSum': WHATEVER THE INPUT: true; the input reads as it did. -/
def fnExactFrameSumSpec : ChangeSpec := { name := "fnExactFrameSum", fn := fun _ => fun
  | [d] => { results := [.lit (.bool true)], args := [d] }
  | _ => none }
def fnExactFrameSumRow : OpenClaim := { program := "ytjncgdeohbcihaa", sum := "79949f0ae81cf886f54844d46017784ee1dfd40ae5d288fa1512a41fbd98d169", func := "loop.example/bargeman/laws.FnExactFrameSum", spec := "fnExactFrameSum", apart := false }
def FnExactFrameSumSaid : Prop := fnExactFrameSumRow.holds Try.pinned (OpenSpec.ofChange fnExactFrameSumSpec)

/-- ITS FALSE NEIGHBOUR: 'it returns false'. Refute it at one input. -/
def fnExactFrameSumWrong : ChangeSpec := { name := "fnExactFrameSum", fn := fun _ => fun
  | [d] => { results := [.lit (.bool false)], args := [d] }
  | _ => none }
def FnExactFrameSumWrongFalsely : Prop := fnExactFrameSumRow.holds Try.pinned (OpenSpec.ofChange fnExactFrameSumWrong)

/-- 'laws.FnFrameSum': WHATEVER THE INPUT: true; the input reads as it did. -/
def fnFrameSumSpec : ChangeSpec := { name := "fnFrameSum", fn := fun _ => fun
  | [d1, d2] => { results := [.lit (.bool true)], args := [d1, d2] }
  | _ => none }
def fnFrameSumRow : OpenClaim := { program := "ytjncgdeohbcihaa", sum := "79949f0ae81cf886f54844d46017784ee1dfd40ae5d288fa1512a41fbd98d169", func := "loop.example/bargeman/laws.FnFrameSum", spec := "fnFrameSum", apart := false }
def FnFrameSumSaid : Prop := fnFrameSumRow.holds Try.pinned (OpenSpec.ofChange fnFrameSumSpec)

/-- ITS FALSE NEIGHBOUR: 'it returns false'. Refute it at one input. -/
def fnFrameSumWrong : ChangeSpec := { name := "fnFrameSum", fn := fun _ => fun
  | [d1, d2] => { results := [.lit (.bool false)], args := [d1, d2] }
  | _ => none }
def FnFrameSumWrongFalsely : Prop := fnFrameSumRow.holds Try.pinned (OpenSpec.ofChange fnFrameSumWrong)

/-- 'laws.FnExactFrameOk': WHATEVER THE INPUT: true; the input reads as it did. -/
def fnExactFrameOkSpec : ChangeSpec := { name := "fnExactFrameOk", fn := fun _ => fun
  | [d] => { results := [.lit (.bool true)], args := [d] }
  | _ => none }
def fnExactFrameOkRow : OpenClaim := { program := "ytjncgdeohbcihaa", sum := "79949f0ae81cf886f54844d46017784ee1dfd40ae5d288fa1512a41fbd98d169", func := "loop.example/bargeman/laws.FnExactFrameOk", spec := "fnExactFrameOk", apart := false }
def FnExactFrameOkSaid : Prop := fnExactFrameOkRow.holds Try.pinned (OpenSpec.ofChange fnExactFrameOkSpec)

/-- ITS FALSE NEIGHBOUR: 'it returns false'. Refute it at one input. -/
def fnExactFrameOkWrong : ChangeSpec := { name := "fnExactFrameOk", fn := fun _ => fun
  | [d] => { results := [.lit (.bool false)], args := [d] }
  | _ => none }
def FnExactFrameOkWrongFalsely : Prop := fnExactFrameOkRow.holds Try.pinned (OpenSpec.ofChange fnExactFrameOkWrong)

/-- 'laws.FnExactFramePack': WHATEVER THE INPUT: true; the input reads as it did. -/
def fnExactFramePackSpec : ChangeSpec := { name := "fnExactFramePack", fn := fun _ => fun
  | [d] => { results := [.lit (.bool true)], args := [d] }
  | _ => none }
def fnExactFramePackRow : OpenClaim := { program := "ytjncgdeohbcihaa", sum := "79949f0ae81cf886f54844d46017784ee1dfd40ae5d288fa1512a41fbd98d169", func := "loop.example/bargeman/laws.FnExactFramePack", spec := "fnExactFramePack", apart := false }
def FnExactFramePackSaid : Prop := fnExactFramePackRow.holds Try.pinned (OpenSpec.ofChange fnExactFramePackSpec)

/-- ITS FALSE NEIGHBOUR: 'it returns false'. Refute it at one input. -/
def fnExactFramePackWrong : ChangeSpec := { name := "fnExactFramePack", fn := fun _ => fun
  | [d] => { results := [.lit (.bool false)], args := [d] }
  | _ => none }
def FnExactFramePackWrongFalsely : Prop := fnExactFramePackRow.holds Try.pinned (OpenSpec.ofChange fnExactFramePackWrong)

/-- 'laws.FnExactFrameUnpack': WHATEVER THE INPUT: true; the input reads as it did. -/
def fnExactFrameUnpackSpec : ChangeSpec := { name := "fnExactFrameUnpack", fn := fun _ => fun
  | [d] => { results := [.lit (.bool true)], args := [d] }
  | _ => none }
def fnExactFrameUnpackRow : OpenClaim := { program := "ytjncgdeohbcihaa", sum := "79949f0ae81cf886f54844d46017784ee1dfd40ae5d288fa1512a41fbd98d169", func := "loop.example/bargeman/laws.FnExactFrameUnpack", spec := "fnExactFrameUnpack", apart := false }
def FnExactFrameUnpackSaid : Prop := fnExactFrameUnpackRow.holds Try.pinned (OpenSpec.ofChange fnExactFrameUnpackSpec)

/-- ITS FALSE NEIGHBOUR: 'it returns false'. Refute it at one input. -/
def fnExactFrameUnpackWrong : ChangeSpec := { name := "fnExactFrameUnpack", fn := fun _ => fun
  | [d] => { results := [.lit (.bool false)], args := [d] }
  | _ => none }
def FnExactFrameUnpackWrongFalsely : Prop := fnExactFrameUnpackRow.holds Try.pinned (OpenSpec.ofChange fnExactFrameUnpackWrong)

/-- 'laws.FnExactKeeperStart': WHATEVER THE INPUT: true; the input reads as it did. -/
def fnExactKeeperStartSpec : ChangeSpec := { name := "fnExactKeeperStart", fn := fun _ => fun
  | [d] => { results := [.lit (.bool true)], args := [d] }
  | _ => none }
def fnExactKeeperStartRow : OpenClaim := { program := "ytjncgdeohbcihaa", sum := "79949f0ae81cf886f54844d46017784ee1dfd40ae5d288fa1512a41fbd98d169", func := "loop.example/bargeman/laws.FnExactKeeperStart", spec := "fnExactKeeperStart", apart := false }
def FnExactKeeperStartSaid : Prop := fnExactKeeperStartRow.holds Try.pinned (OpenSpec.ofChange fnExactKeeperStartSpec)

/-- ITS FALSE NEIGHBOUR: 'it returns false'. Refute it at one input. -/
def fnExactKeeperStartWrong : ChangeSpec := { name := "fnExactKeeperStart", fn := fun _ => fun
  | [d] => { results := [.lit (.bool false)], args := [d] }
  | _ => none }
def FnExactKeeperStartWrongFalsely : Prop := fnExactKeeperStartRow.holds Try.pinned (OpenSpec.ofChange fnExactKeeperStartWrong)

/- THE SECOND FORM. 'bulk': how many values and letters a reading holds, each counted each time it is reached (what is shared counts as often as it is met; a slice's spare places count too). A statement '..UptoSaid' is the law's where the arguments, and the package variables that the reading takes, are together of bulk at most 1048576: NARROWER than '..Said'. Prove '..Said' where nothing that the law and all that it calls make is longer than what came in: it says more and counts as full. Else prove '..UptoSaid'. A law counts once. -/
mutual
def uptoBulk {H : Type} : DataW H → Nat
  | .lit (.string bytes) => bytes.length + 1
  | .lit _ => 1
  | .nil => 1
  | .ptr d => uptoBulk d + 1
  | .slice elems spare => uptoBulkAll elems + uptoBulkAll spare + 1
  | .agg parts => uptoBulkAll parts + 1
  | .iface _ d => uptoBulk d + 1
  | .map entries => uptoBulkEntries entries + 1
  | .held _ => 1
def uptoBulkAll {H : Type} : List (DataW H) → Nat
  | [] => 0
  | d :: r => uptoBulk d + uptoBulkAll r
def uptoBulkEntries {H : Type} : List (Lit × DataW H) → Nat
  | [] => 0
  | x :: r => uptoBulkEntry x + uptoBulkEntries r
def uptoBulkEntry {H : Type} : Lit × DataW H → Nat
  | (.string bytes, d) => bytes.length + uptoBulk d + 1
  | (_, d) => uptoBulk d + 1
 end
def uptoSmall : (H : Type) → List (DataW H) → Bool := fun _ ds => decide (uptoBulkAll ds ≤ 1048576)
def OpenSpec.upto (s : _root_.Go.ChangeSpec) : _root_.Go.OpenSpec := { _root_.Go.OpenSpec.ofChange s with cond := some uptoSmall }

/-- 'laws.FnExactFrameSum', WHERE WHAT IT READS IS OF BULK AT MOST 1048576: true; the input reads as it did. -/
def fnExactFrameSumUptoRow : OpenClaim := { program := "ytjncgdeohbcihaa", sum := "79949f0ae81cf886f54844d46017784ee1dfd40ae5d288fa1512a41fbd98d169", func := "loop.example/bargeman/laws.FnExactFrameSum", spec := "fnExactFrameSum", apart := false, narrowed := true }
def FnExactFrameSumUptoSaid : Prop := fnExactFrameSumUptoRow.holds Try.pinned (OpenSpec.upto fnExactFrameSumSpec)

/-- 'laws.FnFrameSum', WHERE WHAT IT READS IS OF BULK AT MOST 1048576: true; the input reads as it did. -/
def fnFrameSumUptoRow : OpenClaim := { program := "ytjncgdeohbcihaa", sum := "79949f0ae81cf886f54844d46017784ee1dfd40ae5d288fa1512a41fbd98d169", func := "loop.example/bargeman/laws.FnFrameSum", spec := "fnFrameSum", apart := false, narrowed := true }
def FnFrameSumUptoSaid : Prop := fnFrameSumUptoRow.holds Try.pinned (OpenSpec.upto fnFrameSumSpec)

/-- 'laws.FnExactFrameOk', WHERE WHAT IT READS IS OF BULK AT MOST 1048576: true; the input reads as it did. -/
def fnExactFrameOkUptoRow : OpenClaim := { program := "ytjncgdeohbcihaa", sum := "79949f0ae81cf886f54844d46017784ee1dfd40ae5d288fa1512a41fbd98d169", func := "loop.example/bargeman/laws.FnExactFrameOk", spec := "fnExactFrameOk", apart := false, narrowed := true }
def FnExactFrameOkUptoSaid : Prop := fnExactFrameOkUptoRow.holds Try.pinned (OpenSpec.upto fnExactFrameOkSpec)

/-- 'laws.FnExactFramePack', WHERE WHAT IT READS IS OF BULK AT MOST 1048576: true; the input reads as it did. -/
def fnExactFramePackUptoRow : OpenClaim := { program := "ytjncgdeohbcihaa", sum := "79949f0ae81cf886f54844d46017784ee1dfd40ae5d288fa1512a41fbd98d169", func := "loop.example/bargeman/laws.FnExactFramePack", spec := "fnExactFramePack", apart := false, narrowed := true }
def FnExactFramePackUptoSaid : Prop := fnExactFramePackUptoRow.holds Try.pinned (OpenSpec.upto fnExactFramePackSpec)

/-- 'laws.FnExactFrameUnpack', WHERE WHAT IT READS IS OF BULK AT MOST 1048576: true; the input reads as it did. -/
def fnExactFrameUnpackUptoRow : OpenClaim := { program := "ytjncgdeohbcihaa", sum := "79949f0ae81cf886f54844d46017784ee1dfd40ae5d288fa1512a41fbd98d169", func := "loop.example/bargeman/laws.FnExactFrameUnpack", spec := "fnExactFrameUnpack", apart := false, narrowed := true }
def FnExactFrameUnpackUptoSaid : Prop := fnExactFrameUnpackUptoRow.holds Try.pinned (OpenSpec.upto fnExactFrameUnpackSpec)

/-- 'laws.FnExactKeeperStart', WHERE WHAT IT READS IS OF BULK AT MOST 1048576: true; the input reads as it did. -/
def fnExactKeeperStartUptoRow : OpenClaim := { program := "ytjncgdeohbcihaa", sum := "79949f0ae81cf886f54844d46017784ee1dfd40ae5d288fa1512a41fbd98d169", func := "loop.example/bargeman/laws.FnExactKeeperStart", spec := "fnExactKeeperStart", apart := false, narrowed := true }
def FnExactKeeperStartUptoSaid : Prop := fnExactKeeperStartUptoRow.holds Try.pinned (OpenSpec.upto fnExactKeeperStartSpec)

end Rows
end Go.Proofs.Ytjncgdeohbcihaa
