/-
  The row of FnFrameSpoilt: for every input the law returns true, and its arguments read behind the call as before. No conditions.
-/
import Derived.Test.YtlkfibmjdigmiaaRows
import Derived.Test.YtlkfibmjdigmiaaWkLawB
import Derived.Test.YtlkfibmjdigmiaaAbBr
import Derived.WalkKit
import Derived.ProofKit
import Derived.OpenShut
import Derived.ShutString
import Derived.ChangeOld
import Derived.Below
import Derived.SizedLaws
namespace Go.Proofs.Ytlkfibmjdigmiaa.fnFrameSpoilt
open Go.ChangeShapes Go.WideShapes Go.ChangeAt Go.RowKit Go.Ab
open Go.ChangeMaps (open_string shut_string)
set_option linter.unusedVariables false
set_option linter.unusedSimpArgs false
theorem own : ownKnob Try.prog.godebug = none := by kernel_rfl
theorem laidOut : laidOutB Try.prog = true := by kernel_rfl
set_option maxRecDepth 100000 in
theorem lifted (os : Os) (started : os.Started) (H : Type) (enc : TypeId × Value → H) :
    ReturnsInHanded {} Try.checked os 7 .any (Rows.fnFrameSpoiltSpec.pre6 enc Try.prog Try.f7 Rows.fnFrameSpoiltRow.domain false) (Rows.fnFrameSpoiltSpec.post enc Try.prog Try.f7 false true false false) := by
  refine returnsInHanded_of_change_sized (C := Try.checked) own started (by kernel_rfl) Try.func7
    (ChangeSpec.witness6 (enc := enc) (C := Try.checked) false ⟨#[], #[.slice none 0 0, .slice none 0 0], []⟩ 8 (by kernel_rfl) (by kernel_rfl) (by kernel_rfl) (by kernel_rfl)) ?_
  intro W base args ds gs before hval0 hW hcnd hsz0 _
  have hsz : (DataW.weightsEach Try.prog (Try.f7.params.toList ++ Rows.fnFrameSpoiltSpec.plain.varTypes Try.prog) (ds ++ gs)).all (· ≤ reachBytes) = true := hsz0
  have hval : ∀ (j : Nat) t v, Try.f7.params[j]? = some t → args[j]? = some v → Value.okWide Try.prog W .any base t v := hval0
  have hW' := hW
  obtain ⟨p, q, hA0, hV, rfl, hfz, hnd⟩ := hW
  have hA : DataW.TrodAll enc Try.prog W 0 (fun _ => true) true Try.f7.params.toList args.toList ds p := hA0
  rw [Try.params7] at hA hval hsz
  obtain ⟨v0, vs0, d0, ds0, p0, q0, hargs0, rfl, rfl, h0, r0⟩ := trodAll_cons hA
  obtain ⟨v1, vs1, d1, ds1, p1, q1, hargs1, rfl, rfl, h1, r1⟩ := trodAll_cons r0
  obtain ⟨rfl, rfl, rfl⟩ := trodAll_nil r1
  obtain rfl : args = #[v0, v1] := by cases args; simp_all
  obtain ⟨rfl, rfl⟩ := trodVars_none hV
  have lt0 : ∀ x ∈ p0, x.block < W.heap.size := by obtain ⟨m, hm⟩ := h0; exact DataW.trod_lt m _ _ _ hm
  have lt1 : ∀ x ∈ p1, x.block < W.heap.size := by obtain ⟨m, hm⟩ := h1; exact DataW.trod_lt m _ _ _ hm
  have hsz1 : (d0.weights Try.prog 22).all (· ≤ reachBytes) = true ∧ (d1.weights Try.prog 22).all (· ≤ reachBytes) = true := by
    have e : Rows.fnFrameSpoiltSpec.plain.varTypes Try.prog = [] := rfl
    rw [e] at hsz
    simpa [DataW.weightsEach, List.all_append, Bool.and_eq_true] using hsz
  obtain ⟨cs0, ty0, ag0, on0⟩ := arg_typed tabOk 8 (ti := ti22) rfl (by kernel_rfl) h0 (hval 0 22 v0 rfl rfl) hsz1.1
  obtain ⟨f0, rfl, hf0⟩ := typed_bytes ty0
  obtain ⟨x0, ex0, on0⟩ := on0 rfl
  cases ex0
  obtain ⟨cs1, ty1, ag1, on1⟩ := arg_typed tabOk 8 (ti := ti22) rfl (by kernel_rfl) h1 (hval 1 22 v1 rfl rfl) hsz1.2
  obtain ⟨f1, rfl, hf1⟩ := typed_bytes ty1
  obtain ⟨x1, ex1, on1⟩ := on1 rfl
  cases ex1
  refine (calls_true (n := 2) (Xs := [Dv (.sl (bytesRows f0)), Dv (.sl (bytesRows f1))]) (s_laws_FnFrameSpoilt f0 f1 (by simp only [reachBytes] at hf0; omega) (by simp only [reachBytes] at hf1; omega)) rfl rfl ?_).mono fun e W' ⟨he, bel⟩ => ?_
  · intro i X v hi hv
    match i, hi, hv with
    | 0, hi, hv => simp at hi hv; subst hi; subst hv; exact fun σ ι => on0 σ ι
    | 1, hi, hv => simp at hi hv; subst hi; subst hv; exact fun σ ι => on1 σ ι
    | i + 2, hi, hv => simp at hi
  subst he
  exact ⟨_, rfl, _, _, _, [], _, [], hW', trodAll_mk1 (shut_bool Try.underlying4 _), (trodAll_cons_mk (Below.trod laidOut (by kernel_rfl) (of_decide_eq_true (by kernel_rfl)) h0 bel lt0) (trodAll_cons_mk (Below.trod laidOut (by kernel_rfl) (of_decide_eq_true (by kernel_rfl)) h1 bel lt1) trodAll_mk0)), rfl, bel.frame _, fun h => by cases h⟩
theorem over : Rows.fnFrameSpoiltRow.holds Try.pinned (OpenSpec.ofChange Rows.fnFrameSpoiltSpec) :=
  OpenClaim.holds_of_wide 7 Try.f7 rfl rfl rfl rfl rfl rfl rfl ⟨rfl, rfl, rfl, rfl, rfl⟩ rfl rfl rfl rfl rfl (by kernel_rfl) Try.func7 (by kernel_rfl)
    (of_decide_eq_true (by kernel_rfl)) (by unfold Func.isWrapper; first | (rw [if_pos (by decide +kernel)]; kernel_rfl) | (rw [if_neg (by decide +kernel)]; exact ⟨rfl, rfl⟩))
    (fun os started H enc _ => lifted os started H enc)
end Go.Proofs.Ytlkfibmjdigmiaa.fnFrameSpoilt
namespace Go.Proofs.Ytlkfibmjdigmiaa
/-- The row, under a short name, for the claim. -/
theorem fnFrameSpoilt_holds : Rows.FnFrameSpoiltSaid := fnFrameSpoilt.over
#print axioms fnFrameSpoilt_holds
end Go.Proofs.Ytlkfibmjdigmiaa
