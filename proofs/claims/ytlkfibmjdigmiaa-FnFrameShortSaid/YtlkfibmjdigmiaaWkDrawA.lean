import Derived.Test.YtlkfibmjdigmiaaTab
import Derived.Test.YtlkfibmjdigmiaaWkMixC
import Derived.Test.YtlkfibmjdigmiaaAbDk
import Derived.Test.YtlkfibmjdigmiaaAbBr
namespace Go.Proofs.Ytlkfibmjdigmiaa
open Go Go.Ab Go.RowKit
set_option linter.unusedVariables false
set_option linter.unusedSimpArgs false

theorem s_of (l : List UInt8) (p : Int) (rs : List (List UInt8)) (hr : 1 ≤ rs.length) (hp : 0 ≤ p ∧ p ≤ 1000000) (hl : l.length ≤ 2000) : Ab.SpecE Try.prog 33 2 [(.t 0, .v (.e (.c (.pt 0 0)))), (.t 1, .v (Dv (.sl (strRows rs)))), (.o 0, .box 50 [.d (.sl (bytesRows l)), .d (.i (p))])] (fun s => ∃ x : List UInt8, x ∈ rs ∧ s = [(.t 0, .v (Dv (.s x))), (.o 0, .box 50 [.d (.sl (bytesRows l)), .d (.i (p + 1))])]) := by
  have hv := pickV_range l (p := p) (n := ((strRows rs).length : Int)) hp (by rw [strRows_length]; omega)
  have hsl := strRows_length rs
  refine specE_of_body tabOk Try.func33 rfl (by kernel_rfl) (by decide) (by kernel_rfl) rfl ?_
  refine SW.seq ?_
  refine SW.regT tabOk [0, 1] ?_
  refine And.intro trivial ?_
  refine SW.seq ?_
  refine SW.regT tabOk [4] ?_
  refine And.intro trivial (And.intro trivial (And.intro trivial (And.intro (by first | trivial | exact Nat.le_of_ble_eq_true rfl | exact ⟨rfl, Nat.le_of_ble_eq_true rfl⟩ | omega | ((repeat' apply And.intro) <;> first | trivial | rfl | exact Nat.le_of_ble_eq_true rfl | omega) | (simp; done) | (simp; omega)) ?_)))
  refine ex_call (robj := [(0, .box 50 [.d (.sl (bytesRows (l))), .d (.i (p))])]) (rl := [(0, 0)]) (bor := []) (s_pick (l) (p) _ (by omega) hl) rfl rfl rfl rfl ⟨mL_pt rfl rfl rfl rfl (mL_d rfl rfl (mL_box rfl (mCs_d rfl (mCs_d rfl mCs_nil0)) trivial)), rfl⟩ rfl (.inl rfl) (robjOk_spec ⟨rfl, trivial⟩) (fun _ hj => nomatch hj) ?_
  refine And.intro (ixS (by omega) (by omega)) (And.intro (ldS (by omega) (by omega)) (And.intro trivial ?_))
  refine SW.ret ?_
  refine retQE _ ⟨rs.getD (pickV l p ((strRows rs).length : Int)).toNat [], ?_, rfl⟩ (retOk _ [] [] rfl ?_ rfl rfl)
  · rw [List.getD_eq_getElem?_getD, List.getElem?_eq_getElem (by omega)]; exact List.getElem_mem _
  repeat' first | exact trivial | refine mL_nil rfl ?_ | refine mL_d rfl ?_ ?_ | refine mL_own rfl rfl ?_ rfl ?_ | refine mL_row rfl ?_ ?_ | refine mL_pt rfl rfl rfl rfl ?_ | refine mL_box rfl ?_ ?_ | refine mL_agg rfl ?_ ?_ | exact mCs_nil0 | refine mCs_d ?_ ?_ | refine mCs_nil ?_ | refine mCs_own rfl ?_ rfl ?_ | refine mCs_pt rfl rfl rfl ?_
  all_goals first | with_reducible rfl | exact congrArg D.s (valS (by omega) (by omega))

theorem s_spec_l6Many (a : List UInt8) (n : Int) (ha : a.length = 1) (hn : 0 ≤ n ∧ n ≤ 25) : Ab.SpecE Try.prog 39 2 [(.t 0, .v (Dv (.s a))), (.t 1, .v (I n))] (fun s => ∃ x : List UInt8, x.length ≤ 25 ∧ s = [(.t 0, .v (Dv (.s x)))]) := by
  refine specE_of_body tabOk Try.func39 rfl (by kernel_rfl) (by decide) (by kernel_rfl) rfl ?_
  refine SW.seq ?_
  refine SW.regT tabOk [0, 1] ?_
  refine And.intro trivial ?_
  refine SW.seq ?_
  refine SW.regT tabOk [0, 1, 5] ?_
  refine And.intro trivial ?_
  refine SW.seq ?_
  refine SW.block ?_
  -- live at the head: [0, 1, 5]
  refine SW.loopW (n := n.toNat) (fun m s => ∃ (x b : List UInt8) (k : Nat), m = k ∧ (x.length + b.length * k ≤ 25 ∧ b.length ≤ 50 ∧ k ≤ 25) ∧ s = [(.t 0, .v (Dv (.s b))), (.t 1, .v (I (k))), (.t 5, .v (Dv (.s x)))]) ?_ ?_
  · skip
    refine wk [(.t 0, .v (Dv (.s a))), (.t 1, .v (I ((n.toNat : Nat)))), (.t 5, .v (Dv (.s [])))] [] [] (⟨[], a, n.toNat, rfl, ⟨by simp [ha]; omega, by omega, by omega⟩, rfl⟩) ?_ rfl rfl
    repeat' first | exact trivial | refine mL_nil rfl ?_ | refine mL_d rfl ?_ ?_ | refine mL_own rfl rfl ?_ rfl ?_ | refine mL_row rfl ?_ ?_ | refine mL_pt rfl rfl rfl rfl ?_ | refine mL_box rfl ?_ ?_ | refine mL_agg rfl ?_ ?_ | exact mCs_nil0 | refine mCs_d ?_ ?_ | refine mCs_nil ?_ | refine mCs_own rfl ?_ rfl ?_ | refine mCs_pt rfl rfl rfl ?_
    all_goals first | with_reducible rfl | (first | (refine congrArg D.i ?_; omega) | (simp; done))
  rintro n s ⟨x, b, k, hmk, hk, rfl⟩
  refine SW.seq ?_
  refine SW.seq ?_
  refine SW.regT tabOk [0, 1, 5, 7] ?_
  refine And.intro trivial (And.intro trivial ?_)
  refine SW.cond rfl (fun c7 => ?_) (fun c7 => ?_)
  · skip
    have hk1 : 0 < k := by simpa using c7
    have h11 : b.length ≤ b.length * k := Nat.le_mul_of_pos_right _ hk1
    refine SW.skip ?_
    refine SW.block ?_
    refine SW.seq ?_
    refine SW.seq ?_
    refine SW.regT tabOk [0, 1, 5, 10] ?_
    refine And.intro trivial (And.intro (by decide) (And.intro trivial ?_))
    refine SW.cond rfl (fun c10 => ?_) (fun c10 => ?_)
    · skip
      refine SW.regT tabOk [0, 1, 5] ?_
      refine And.intro trivial (And.intro trivial (And.intro (by show _ ≤ 9223372036854775807; omega) (And.intro trivial ?_)))
      refine SW.seq ?_
      refine SW.regT tabOk [0, 1, 5] ?_
      refine And.intro trivial (And.intro trivial (And.intro (by show _ ≤ 9223372036854775807; omega) (And.intro trivial ?_)))
      refine SW.regT tabOk [0, 1, 5] ?_
      refine And.intro trivial (And.intro (by decide) (And.intro trivial ?_))
      have hm : Int.tmod (k : Int) 2 = ((k % 2 : Nat) : Int) := by rw [Int.tmod_eq_emod_of_nonneg (by omega)]; omega
      have hd : Int.tdiv (k : Int) 2 = ((k / 2 : Nat) : Int) := by rw [Int.tdiv_eq_ediv_of_nonneg (by omega)]; omega
      obtain ⟨j, hj⟩ : ∃ j, k = 2 * j ∨ k = 2 * j + 1 := ⟨k / 2, by omega⟩
      have h8 : b.length * k = 2 * (b.length * j) ∨ b.length * k = 2 * (b.length * j) + b.length := by
        rcases hj with h | h
        · left; rw [h, Nat.mul_left_comm]
        · right; rw [h, Nat.mul_add, Nat.mul_left_comm, Nat.mul_one]
      have h9 : (b ++ b).length * (k / 2) = 2 * (b.length * j) := by
        rw [List.length_append, show k / 2 = j by omega, Nat.add_mul]; omega
      have h10 : b.length ≤ b.length * k := Nat.le_mul_of_pos_right _ (by omega)
      first
      | (refine wk [(.t 0, .v (Dv (.s (b ++ b)))), (.t 1, .v (I ((k / 2 : Nat)))), (.t 5, .v (Dv (.s (x ++ b))))] [] [] (⟨k / 2, by omega, x ++ b, b ++ b, k / 2, rfl, ⟨by rw [h9, List.length_append]; have : k % 2 = 1 := (by simp [hm] at c10; omega); have := congrArg (b.length * ·) (show k = 2 * j + 1 by omega); simp only [Nat.mul_add, Nat.mul_one, Nat.mul_left_comm b.length 2 j] at this; omega, by rw [List.length_append]; omega, by omega⟩, rfl⟩) ?_ rfl rfl
         repeat' first | exact trivial | refine mL_nil rfl ?_ | refine mL_d rfl ?_ ?_ | refine mL_own rfl rfl ?_ rfl ?_ | refine mL_row rfl ?_ ?_ | refine mL_pt rfl rfl rfl rfl ?_ | refine mL_box rfl ?_ ?_ | refine mL_agg rfl ?_ ?_ | exact mCs_nil0 | refine mCs_d ?_ ?_ | refine mCs_nil ?_ | refine mCs_own rfl ?_ rfl ?_ | refine mCs_pt rfl rfl rfl ?_
         all_goals first | with_reducible rfl | (first | (refine congrArg D.i ?_; rw [hd, wrap64_of (by omega)])); done)
      | (refine wk [(.t 0, .v (Dv (.s (b ++ b)))), (.t 1, .v (I ((k / 2 : Nat)))), (.t 5, .v (Dv (.s x)))] [] [] (⟨k / 2, by omega, x, b ++ b, k / 2, rfl, ⟨by rw [h9]; omega, by rw [List.length_append]; omega, by omega⟩, rfl⟩) ?_ rfl rfl
         repeat' first | exact trivial | refine mL_nil rfl ?_ | refine mL_d rfl ?_ ?_ | refine mL_own rfl rfl ?_ rfl ?_ | refine mL_row rfl ?_ ?_ | refine mL_pt rfl rfl rfl rfl ?_ | refine mL_box rfl ?_ ?_ | refine mL_agg rfl ?_ ?_ | exact mCs_nil0 | refine mCs_d ?_ ?_ | refine mCs_nil ?_ | refine mCs_own rfl ?_ rfl ?_ | refine mCs_pt rfl rfl rfl ?_
         all_goals first | with_reducible rfl | (first | (refine congrArg D.i ?_; rw [hd, wrap64_of (by omega)])))
    · skip
      refine SW.skip ?_
      refine SW.seq ?_
      refine SW.regT tabOk [0, 1, 5] ?_
      refine And.intro trivial (And.intro trivial (And.intro (by show _ ≤ 9223372036854775807; omega) (And.intro trivial ?_)))
      refine SW.regT tabOk [0, 1, 5] ?_
      refine And.intro trivial (And.intro (by decide) (And.intro trivial ?_))
      have hm : Int.tmod (k : Int) 2 = ((k % 2 : Nat) : Int) := by rw [Int.tmod_eq_emod_of_nonneg (by omega)]; omega
      have hd : Int.tdiv (k : Int) 2 = ((k / 2 : Nat) : Int) := by rw [Int.tdiv_eq_ediv_of_nonneg (by omega)]; omega
      obtain ⟨j, hj⟩ : ∃ j, k = 2 * j ∨ k = 2 * j + 1 := ⟨k / 2, by omega⟩
      have h8 : b.length * k = 2 * (b.length * j) ∨ b.length * k = 2 * (b.length * j) + b.length := by
        rcases hj with h | h
        · left; rw [h, Nat.mul_left_comm]
        · right; rw [h, Nat.mul_add, Nat.mul_left_comm, Nat.mul_one]
      have h9 : (b ++ b).length * (k / 2) = 2 * (b.length * j) := by
        rw [List.length_append, show k / 2 = j by omega, Nat.add_mul]; omega
      have h10 : b.length ≤ b.length * k := Nat.le_mul_of_pos_right _ (by omega)
      first
      | (refine wk [(.t 0, .v (Dv (.s (b ++ b)))), (.t 1, .v (I ((k / 2 : Nat)))), (.t 5, .v (Dv (.s (x ++ b))))] [] [] (⟨k / 2, by omega, x ++ b, b ++ b, k / 2, rfl, ⟨by rw [h9, List.length_append]; have : k % 2 = 1 := (by simp [hm] at c10; omega); have := congrArg (b.length * ·) (show k = 2 * j + 1 by omega); simp only [Nat.mul_add, Nat.mul_one, Nat.mul_left_comm b.length 2 j] at this; omega, by rw [List.length_append]; omega, by omega⟩, rfl⟩) ?_ rfl rfl
         repeat' first | exact trivial | refine mL_nil rfl ?_ | refine mL_d rfl ?_ ?_ | refine mL_own rfl rfl ?_ rfl ?_ | refine mL_row rfl ?_ ?_ | refine mL_pt rfl rfl rfl rfl ?_ | refine mL_box rfl ?_ ?_ | refine mL_agg rfl ?_ ?_ | exact mCs_nil0 | refine mCs_d ?_ ?_ | refine mCs_nil ?_ | refine mCs_own rfl ?_ rfl ?_ | refine mCs_pt rfl rfl rfl ?_
         all_goals first | with_reducible rfl | (first | (refine congrArg D.i ?_; rw [hd, wrap64_of (by omega)])); done)
      | (refine wk [(.t 0, .v (Dv (.s (b ++ b)))), (.t 1, .v (I ((k / 2 : Nat)))), (.t 5, .v (Dv (.s x)))] [] [] (⟨k / 2, by omega, x, b ++ b, k / 2, rfl, ⟨by rw [h9]; omega, by rw [List.length_append]; omega, by omega⟩, rfl⟩) ?_ rfl rfl
         repeat' first | exact trivial | refine mL_nil rfl ?_ | refine mL_d rfl ?_ ?_ | refine mL_own rfl rfl ?_ rfl ?_ | refine mL_row rfl ?_ ?_ | refine mL_pt rfl rfl rfl rfl ?_ | refine mL_box rfl ?_ ?_ | refine mL_agg rfl ?_ ?_ | exact mCs_nil0 | refine mCs_d ?_ ?_ | refine mCs_nil ?_ | refine mCs_own rfl ?_ rfl ?_ | refine mCs_pt rfl rfl rfl ?_
         all_goals first | with_reducible rfl | (first | (refine congrArg D.i ?_; rw [hd, wrap64_of (by omega)])))
  · skip
    refine SW.exit ?_
    refine SW.seq ?_
    refine SW.regT tabOk [4] ?_
    refine And.intro trivial (And.intro trivial ?_)
    refine SW.ret ?_
    exact retQE _ ⟨x, by omega, rfl⟩ (retOk1 rfl rfl)

end Go.Proofs.Ytlkfibmjdigmiaa
