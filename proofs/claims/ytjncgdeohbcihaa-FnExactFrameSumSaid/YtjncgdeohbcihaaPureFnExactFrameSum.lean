/-
  FnExactFrameSum: at every argument impl.FrameSum answers as spec.FrameSum, and it writes into no argument. No conditions.
-/
import Derived.Test.YtjncgdeohbcihaaPFnExactFrameSumx1
namespace Go.Proofs.Ytjncgdeohbcihaa.Pure
open Go.RowKit Go.Proofs.Ytjncgdeohbcihaa.PFnExactFrameSum Go.Proofs.YtjncgdeohbcihaaW.PrintWords Go.Proofs.YtjncgdeohbcihaaW.PrintLast

theorem wrap_small {i : Int} (h0 : -9223372036854775808 ≤ i) (h1 : i ≤ 9223372036854775807) : wrap64 i = i := by unfold wrap64; omega
theorem wrap_nat {i n : Nat} (h : i < n) (hn : n ≤ 1048576) : wrap64 ((i : Int) + 1) = ((i + 1 : Nat) : Int) := by unfold wrap64; omega

theorem toByteS_loop (l : List Int) (hl : l.length ≤ 1048576) (d : Nat) : ∀ (k i : Nat), i + d = l.length → d < k →
    laws_toByteS.l0 k l (l.take i ++ List.replicate d 0) (i : Int) = some l := by
  induction d with
  | zero =>
    intro k i hi hk
    obtain ⟨k, rfl⟩ : ∃ m, k = m + 1 := ⟨k - 1, by omega⟩
    simp only [laws_toByteS.l0]
    rw [if_neg (by omega)]
    have : i = l.length := by omega
    subst this
    simp
  | succ d ih =>
    intro k i hi hk
    obtain ⟨k, rfl⟩ : ∃ m, k = m + 1 := ⟨k - 1, by omega⟩
    have hlt : i < l.length := by omega
    simp only [laws_toByteS.l0]
    rw [if_pos (by omega), if_pos (by omega), if_pos (by simp; omega), wrap_nat hlt hl]
    have e : (l.take i ++ List.replicate (d + 1) 0).set (i : Int).toNat (rd l (i : Int)) = l.take (i + 1) ++ List.replicate d 0 := by
      have h1 : (l.take i).length = i := by simp; omega
      have h2 : rd l (i : Int) = l[i] := by simp [rd, hlt]
      rw [h2, List.take_succ_eq_append_getElem hlt, List.replicate_succ, Int.toNat_natCast, List.set_append_right _ _ (by omega), h1]
      rw [Nat.sub_self, List.set_cons_zero, List.append_assoc, List.singleton_append]
    rw [e]
    exact ih k (i + 1) (by omega) (by omega)
theorem toByteS_is (l : List Int) (hl : l.length ≤ 1048576) (k : Nat) (hk : l.length < k) : laws_toByteS.f k l = some l := by
  unfold laws_toByteS.f
  rw [if_pos (by omega), if_pos (by omega)]
  have := toByteS_loop l hl l.length k 0 (by omega) hk
  simpa using this
theorem eqByteS_loop (l : List Int) (hl : l.length ≤ 1048576) (d : Nat) : ∀ (k i : Nat), i + d = l.length → d < k → laws_eqByteS.l0 k l l (i : Int) = some true := by
  induction d with
  | zero =>
    intro k i hi hk
    obtain ⟨k, rfl⟩ : ∃ m, k = m + 1 := ⟨k - 1, by omega⟩
    simp only [laws_eqByteS.l0]
    rw [if_neg (by omega)]
  | succ d ih =>
    intro k i hi hk
    obtain ⟨k, rfl⟩ : ∃ m, k = m + 1 := ⟨k - 1, by omega⟩
    simp only [laws_eqByteS.l0]
    rw [if_pos (by omega), if_pos (by omega), if_pos (by omega), if_pos trivial, wrap_nat (by omega : i < l.length) hl]
    exact ih k (i + 1) (by omega) (by omega)
theorem eqByteS_is (l : List Int) (hl : l.length ≤ 1048576) (k : Nat) (hk : l.length < k) : laws_eqByteS.f k l l = some true := by
  unfold laws_eqByteS.f
  rw [if_pos rfl]
  exact eqByteS_loop l hl l.length k 0 (by omega) hk
theorem sum_loop (l : List Int) (hl : l.length ≤ 1048576) (d : Nat) : ∀ (k i : Nat) (n : Int), i + d = l.length → d < k →
    ∃ r, spec_FrameSum.l0 k l n (i : Int) = some r ∧ impl_FrameSum.l0 k n l (l.length : Int) (i : Int) = some r := by
  induction d with
  | zero =>
    intro k i n hi hk
    obtain ⟨k, rfl⟩ : ∃ m, k = m + 1 := ⟨k - 1, by omega⟩
    refine ⟨n, ?_, ?_⟩
    · simp only [spec_FrameSum.l0]; rw [if_neg (by omega)]
    · simp only [impl_FrameSum.l0]; rw [if_neg (by omega)]
  | succ d ih =>
    intro k i n hi hk
    obtain ⟨k, rfl⟩ : ∃ m, k = m + 1 := ⟨k - 1, by omega⟩
    simp only [spec_FrameSum.l0, impl_FrameSum.l0]
    rw [if_pos (by omega), if_pos (by omega), if_pos (by omega), if_pos (by omega), if_pos (by omega), wrap_nat (by omega : i < l.length) hl,
      Int.mul_comm (wrap64 (rd l (i : Int)))]
    exact ih k (i + 1) _ (by omega) (by omega)

theorem FnExactFrameSum : laws_FnExactFrameSum.Pure := by
  intro l _ _ _
  refine ⟨l.length + 1, ?_⟩
  unfold laws_FnExactFrameSum.f
  by_cases h : (l.length : Int) > 1048576
  · rw [if_pos h]
  · rw [if_neg h]
    have hl : l.length ≤ 1048576 := by omega
    rw [toByteS_is l hl _ (by omega)]
    obtain ⟨r, h1, h2⟩ := sum_loop l hl l.length (l.length + 1) 0 0 (by omega) (by omega)
    simp only [Option.bind_some]
    unfold spec_FrameSum.f impl_FrameSum.f
    simp only [Int.ofNat_zero] at h1 h2
    rw [h1, h2]
    simp only [Option.bind_some]
    rw [if_pos trivial, eqByteS_is l hl _ (by omega)]
    simp

end Go.Proofs.Ytjncgdeohbcihaa.Pure
