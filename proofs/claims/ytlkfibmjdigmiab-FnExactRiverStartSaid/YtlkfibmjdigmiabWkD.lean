import Derived.Test.YtlkfibmjdigmiabTab
import Derived.Test.YtlkfibmjdigmiabWkC
import Derived.Test.YtlkfibmjdigmiabAbDn
import Derived.Test.YtlkfibmjdigmiabAbBr
namespace Go.Proofs.Ytlkfibmjdigmiab
open Go Go.Ab Go.RowKit
set_option linter.unusedVariables false
set_option linter.unusedSimpArgs false

theorem s_copied_K (R : List (List D)) (hR0 : ∀ r ∈ R, isK r) (hl : 1 ≤ R.length ∧ R.length ≤ 1000) : Ab.Spec Try.prog 26 1 [(.t 0, .v (Dv (.sl R)))] [(.t 0, .v (.e (.c (.own 0 (R.length))))), (.o 0, .row 36 5 (R))] := by
  refine spec_of_body tabOk Try.func26 rfl (by kernel_rfl) (by decide) (by kernel_rfl) rfl ?_
  refine SW.seq ?_
  refine SW.regT tabOk [0] ?_
  refine And.intro trivial ?_
  refine SW.seq ?_
  refine SW.seq ?_
  refine SW.regT tabOk [0, 6] ?_
  refine And.intro trivial (And.intro (by first | trivial | exact Nat.le_of_ble_eq_true rfl | exact ⟨rfl, Nat.le_of_ble_eq_true rfl⟩ | omega | ((repeat' apply And.intro) <;> first | trivial | rfl | exact Nat.le_of_ble_eq_true rfl | omega) | (simp; done) | (simp; omega)) (And.intro trivial ?_))
  refine SW.cond rfl (fun c6 => ?_) (fun c6 => ?_)
  · skip
    simp at c6
    subst c6
    simp at hl
  · skip
    refine SW.skip ?_
    refine SW.seq ?_
    refine SW.regT tabOk [0, 3] ?_
    refine And.intro trivial (And.intro (by first | trivial | exact Nat.le_of_ble_eq_true rfl | exact ⟨rfl, Nat.le_of_ble_eq_true rfl⟩ | omega | ((repeat' apply And.intro) <;> first | trivial | rfl | exact Nat.le_of_ble_eq_true rfl | omega) | (simp; done) | (simp; omega)) (And.intro (by refine ⟨rfl, by omega, ?_⟩; show ((64 : Nat) : Int) * _ ≤ _; omega) (And.intro trivial ?_)))
    refine SW.seq ?_
    refine SW.regT tabOk [3] ?_
    refine And.intro trivial (And.intro trivial (And.intro (by refine ⟨trivial, by simp, isK_len hR0⟩) ?_))
    refine SW.seq ?_
    refine SW.regT tabOk [2] ?_
    refine And.intro trivial (And.intro trivial ?_)
    refine SW.ret ?_
    refine retOk _ [(0, 9)] [] rfl ?_ rfl rfl
    repeat' first | exact trivial | refine mL_nil rfl ?_ | refine mL_d rfl ?_ ?_ | refine mL_own rfl rfl ?_ rfl ?_ | refine mL_row rfl ?_ ?_ | refine mL_pt rfl rfl rfl rfl ?_ | refine mL_box rfl ?_ ?_ | refine mL_agg rfl ?_ ?_ | exact mCs_nil0 | refine mCs_d ?_ ?_ | refine mCs_nil ?_ | refine mCs_own rfl ?_ rfl ?_ | refine mCs_pt rfl rfl rfl ?_
    all_goals first | (simp; done) | rfl

theorem s_copied_B (R : List (List D)) (hR0 : ∀ r ∈ R, r.length = 1) (hl : 1 ≤ R.length ∧ R.length ≤ 1000) : Ab.Spec Try.prog 27 1 [(.t 0, .v (Dv (.sl R)))] [(.t 0, .v (.e (.c (.own 0 (R.length))))), (.o 0, .row 4 1 (R))] := by
  refine spec_of_body tabOk Try.func27 rfl (by kernel_rfl) (by decide) (by kernel_rfl) rfl ?_
  refine SW.seq ?_
  refine SW.regT tabOk [0] ?_
  refine And.intro trivial ?_
  refine SW.seq ?_
  refine SW.seq ?_
  refine SW.regT tabOk [0, 6] ?_
  refine And.intro trivial (And.intro (by first | trivial | exact Nat.le_of_ble_eq_true rfl | exact ⟨rfl, Nat.le_of_ble_eq_true rfl⟩ | omega | ((repeat' apply And.intro) <;> first | trivial | rfl | exact Nat.le_of_ble_eq_true rfl | omega) | (simp; done) | (simp; omega)) (And.intro trivial ?_))
  refine SW.cond rfl (fun c6 => ?_) (fun c6 => ?_)
  · skip
    simp at c6
    subst c6
    simp at hl
  · skip
    refine SW.skip ?_
    refine SW.seq ?_
    refine SW.regT tabOk [0, 3] ?_
    refine And.intro trivial (And.intro (by first | trivial | exact Nat.le_of_ble_eq_true rfl | exact ⟨rfl, Nat.le_of_ble_eq_true rfl⟩ | omega | ((repeat' apply And.intro) <;> first | trivial | rfl | exact Nat.le_of_ble_eq_true rfl | omega) | (simp; done) | (simp; omega)) (And.intro (by refine ⟨rfl, by omega, ?_⟩; show ((1 : Nat) : Int) * _ ≤ _; omega) (And.intro trivial ?_)))
    refine SW.seq ?_
    refine SW.regT tabOk [3] ?_
    refine And.intro trivial (And.intro trivial (And.intro (by refine ⟨trivial, by simp, hR0⟩) ?_))
    refine SW.seq ?_
    refine SW.regT tabOk [2] ?_
    refine And.intro trivial (And.intro trivial ?_)
    refine SW.ret ?_
    refine retOk _ [(0, 9)] [] rfl ?_ rfl rfl
    repeat' first | exact trivial | refine mL_nil rfl ?_ | refine mL_d rfl ?_ ?_ | refine mL_own rfl rfl ?_ rfl ?_ | refine mL_row rfl ?_ ?_ | refine mL_pt rfl rfl rfl rfl ?_ | refine mL_box rfl ?_ ?_ | refine mL_agg rfl ?_ ?_ | exact mCs_nil0 | refine mCs_d ?_ ?_ | refine mCs_nil ?_ | refine mCs_own rfl ?_ rfl ?_ | refine mCs_pt rfl rfl rfl ?_
    all_goals first | (simp; done) | rfl

theorem s_copied_P  : Ab.Spec Try.prog 28 1 [(.t 0, .v (.e (.c .nil)))] [(.t 0, .v (.e (.c .nil)))] := by
  refine spec_of_body tabOk Try.func28 rfl (by kernel_rfl) (by decide) (by kernel_rfl) rfl ?_
  refine SW.seq ?_
  refine SW.regT tabOk [0] ?_
  refine And.intro trivial ?_
  refine SW.seq ?_
  refine SW.seq ?_
  refine SW.regT tabOk [0, 6] ?_
  refine And.intro trivial (And.intro (by first | trivial | exact Nat.le_of_ble_eq_true rfl | exact ⟨rfl, Nat.le_of_ble_eq_true rfl⟩ | omega | ((repeat' apply And.intro) <;> first | trivial | rfl | exact Nat.le_of_ble_eq_true rfl | omega) | (simp; done) | (simp; omega)) (And.intro trivial ?_))
  refine SW.cond rfl (fun c6 => ?_) (fun c6 => ?_)
  · skip
    refine SW.seq ?_
    refine SW.regT tabOk [2] ?_
    refine And.intro trivial ?_
    refine SW.ret ?_
    refine retOkP rfl rfl ?_
    rfl
  · skip
    exact absurd c6 (by decide)

theorem s_copied_N  : Ab.Spec Try.prog 29 1 [(.t 0, .v (.e (.c .nil)))] [(.t 0, .v (.e (.c .nil)))] := by
  refine spec_of_body tabOk Try.func29 rfl (by kernel_rfl) (by decide) (by kernel_rfl) rfl ?_
  refine SW.seq ?_
  refine SW.regT tabOk [0] ?_
  refine And.intro trivial ?_
  refine SW.seq ?_
  refine SW.seq ?_
  refine SW.regT tabOk [0, 6] ?_
  refine And.intro trivial (And.intro (by first | trivial | exact Nat.le_of_ble_eq_true rfl | exact ⟨rfl, Nat.le_of_ble_eq_true rfl⟩ | omega | ((repeat' apply And.intro) <;> first | trivial | rfl | exact Nat.le_of_ble_eq_true rfl | omega) | (simp; done) | (simp; omega)) (And.intro trivial ?_))
  refine SW.cond rfl (fun c6 => ?_) (fun c6 => ?_)
  · skip
    refine SW.seq ?_
    refine SW.regT tabOk [2] ?_
    refine And.intro trivial ?_
    refine SW.ret ?_
    refine retOkP rfl rfl ?_
    rfl
  · skip
    exact absurd c6 (by decide)

theorem s_copied_H  : Ab.Spec Try.prog 39 1 [(.t 0, .v (Dv (.sl [])))] [(.t 0, .v (.e (.c .nil)))] := by
  refine spec_of_body tabOk Try.func39 rfl (by kernel_rfl) (by decide) (by kernel_rfl) rfl ?_
  refine SW.seq ?_
  refine SW.regT tabOk [0] ?_
  refine And.intro trivial ?_
  refine SW.seq ?_
  refine SW.seq ?_
  refine SW.regT tabOk [0, 6] ?_
  refine And.intro trivial (And.intro (by first | trivial | exact Nat.le_of_ble_eq_true rfl | exact ⟨rfl, Nat.le_of_ble_eq_true rfl⟩ | omega | ((repeat' apply And.intro) <;> first | trivial | rfl | exact Nat.le_of_ble_eq_true rfl | omega) | (simp; done) | (simp; omega)) (And.intro trivial ?_))
  refine SW.cond rfl (fun c6 => ?_) (fun c6 => ?_)
  · skip
    refine SW.seq ?_
    refine SW.regT tabOk [2] ?_
    refine And.intro trivial ?_
    refine SW.ret ?_
    refine retOkP rfl rfl ?_
    rfl
  · skip
    exact absurd c6 (by decide)

theorem s_impl_keeperCopy (a : Int) (b : Bool) (c : List UInt8) (d : Int) : Ab.Spec Try.prog 30 1 [(.t 0, .v (.e (.agg [.d (.i (a)), .d (.b (b)), .d (.s (c)), .d (.i (d)), .d (.sl [])])))] [(.t 0, .v (.e (.agg [.d (.i (a)), .d (.b (b)), .d (.s (c)), .d (.i (d)), .nil])))] := by
  refine spec_of_body tabOk Try.func30 rfl (by kernel_rfl) (by decide) (by kernel_rfl) rfl ?_
  refine SW.seq ?_
  refine SW.regT tabOk [1, 2] ?_
  refine And.intro trivial (And.intro trivial ?_)
  refine SW.seq ?_
  refine SW.regT tabOk [1, 2, 3] ?_
  refine And.intro (by first | trivial | exact Nat.le_of_ble_eq_true rfl | exact ⟨rfl, Nat.le_of_ble_eq_true rfl⟩ | omega | ((repeat' apply And.intro) <;> first | trivial | rfl | exact Nat.le_of_ble_eq_true rfl | omega) | (simp; done) | (simp; omega)) (And.intro trivial (And.intro ⟨by kernel_rfl, Nat.le_of_ble_eq_true (by kernel_rfl)⟩ ?_))
  refine SW.seq ?_
  refine SW.regT tabOk [2, 3] ?_
  refine And.intro (by first | trivial | rfl) (And.intro (by first | trivial | exact Nat.le_of_ble_eq_true rfl | exact ⟨rfl, Nat.le_of_ble_eq_true rfl⟩ | omega | ((repeat' apply And.intro) <;> first | trivial | rfl | exact Nat.le_of_ble_eq_true rfl | omega) | (simp; done) | (simp; omega)) ?_)
  refine ex_pure s_copied_H rfl rfl rfl rfl rfl rfl rfl rfl ?_
  refine And.intro (by first | trivial | rfl) (And.intro ⟨by kernel_rfl, Nat.le_of_ble_eq_true (by kernel_rfl)⟩ ?_)
  refine SW.seq ?_
  refine SW.seq ?_
  refine SW.regT tabOk [2, 3, 12, 13] ?_
  refine And.intro (by first | trivial | rfl) (And.intro (by first | trivial | exact Nat.le_of_ble_eq_true rfl | exact ⟨rfl, Nat.le_of_ble_eq_true rfl⟩ | omega | ((repeat' apply And.intro) <;> first | trivial | rfl | exact Nat.le_of_ble_eq_true rfl | omega) | (simp; done) | (simp; omega)) (And.intro (by first | trivial | exact Nat.le_of_ble_eq_true rfl | exact ⟨rfl, Nat.le_of_ble_eq_true rfl⟩ | omega | ((repeat' apply And.intro) <;> first | trivial | rfl | exact Nat.le_of_ble_eq_true rfl | omega) | (simp; done) | (simp; omega)) (And.intro trivial ?_)))
  refine SW.block ?_
  -- live at the head: [2, 3, 12, 13]
  refine SW.loopW (n := 0) (fun _ s => s = [(.t 2, .v (.e (.c (.pt 2 0)))), (.t 3, .v (.e (.c (.pt 3 0)))), (.t 12, .v (I 0)), (.t 13, .v (I 0)), (.o 2, .box 36 [.d (.i 0), .d (.b false), .d (.s []), .d (.i 0), .nil]), (.o 3, .box 36 [.d (.i a), .d (.b b), .d (.s c), .d (.i d), .nil])]) ?_ ?_
  · skip
    refine wk [(.t 2, .v (.e (.c (.pt 2 0)))), (.t 3, .v (.e (.c (.pt 3 0)))), (.t 12, .v (I 0)), (.t 13, .v (I 0)), (.o 2, .box 36 [.d (.i 0), .d (.b false), .d (.s []), .d (.i 0), .nil]), (.o 3, .box 36 [.d (.i a), .d (.b b), .d (.s c), .d (.i d), .nil])] [] [] (rfl) ?_ rfl rfl
    repeat' first | exact trivial | refine mL_nil rfl ?_ | refine mL_d rfl ?_ ?_ | refine mL_own rfl rfl ?_ rfl ?_ | refine mL_row rfl ?_ ?_ | refine mL_pt rfl rfl rfl rfl ?_ | refine mL_box rfl ?_ ?_ | refine mL_agg rfl ?_ ?_ | exact mCs_nil0 | refine mCs_d ?_ ?_ | refine mCs_nil ?_ | refine mCs_own rfl ?_ rfl ?_ | refine mCs_pt rfl rfl rfl ?_
    all_goals first | with_reducible rfl | (first | rfl | (simp; done) | omega)
  rintro n s rfl
  refine SW.seq ?_
  refine SW.regT tabOk [2, 3, 12, 13, 14] ?_
  refine And.intro trivial ?_
  refine SW.seq ?_
  refine SW.cond rfl (fun c14 => ?_) (fun c14 => ?_)
  · skip
    simp at c14
  · skip
    refine SW.exit ?_
    refine SW.seq ?_
    refine SW.regT tabOk [2] ?_
    refine And.intro (by first | trivial | exact Nat.le_of_ble_eq_true rfl | exact ⟨rfl, Nat.le_of_ble_eq_true rfl⟩ | omega | ((repeat' apply And.intro) <;> first | trivial | rfl | exact Nat.le_of_ble_eq_true rfl | omega) | (simp; done) | (simp; omega)) (And.intro ⟨by kernel_rfl, Nat.le_of_ble_eq_true (by kernel_rfl)⟩ ?_)
    refine SW.ret ?_
    refine retOkP rfl rfl ?_
    rfl

set_option maxHeartbeats 800000 in
theorem s_impl_riverCopy (R L : List (List D)) (hR0 : ∀ r ∈ R, isK r) (hl : 1 ≤ R.length ∧ R.length ≤ 1000) (hL0 : ∀ r ∈ L, r.length = 1) (hL : 1 ≤ L.length ∧ L.length ≤ 1000) : Ab.Spec Try.prog 11 1 [(.t 0, .v (.e (.agg [.d (.i 0), .d (.sl R), .d (.sl L), .nil, .nil, .nil])))] [(.t 0, .v (.e (.agg [.d (.i 0), .own 0 (R.length), .own 1 (L.length), .nil, .nil, .nil]))), (.o 0, .row 36 5 (R)), (.o 1, .row 4 1 (L))] := by
  refine spec_of_body tabOk Try.func11 rfl (by kernel_rfl) (by decide) (by kernel_rfl) rfl ?_
  refine SW.seq ?_
  refine SW.regT tabOk [1, 2] ?_
  refine And.intro trivial (And.intro trivial ?_)
  refine SW.seq ?_
  refine SW.regD tabOk mo [2, 3] ?_
  refine And.intro (by first | trivial | rfl) (And.intro (by first | trivial | exact Nat.le_of_ble_eq_true rfl | exact ⟨rfl, Nat.le_of_ble_eq_true rfl⟩ | omega | ((repeat' apply And.intro) <;> first | trivial | rfl | exact Nat.le_of_ble_eq_true rfl | omega) | (simp; done) | (simp; omega)) (And.intro (by first | trivial | rfl) (And.intro (by first | trivial | exact Nat.le_of_ble_eq_true rfl | exact ⟨rfl, Nat.le_of_ble_eq_true rfl⟩ | omega | ((repeat' apply And.intro) <;> first | trivial | rfl | exact Nat.le_of_ble_eq_true rfl | omega) | (simp; done) | (simp; omega)) ?_)))
  refine ex_callP [(0, 9)] (s_copied_K R hR0 hl) rfl rfl rfl rfl rfl rfl rfl (fun j hj => by (obtain rfl : j = 0 := by simpa [newIds, objIds, memN] using hj); rfl) ?_
  refine And.intro (by first | trivial | rfl) (And.intro (by first | trivial | exact Nat.le_of_ble_eq_true rfl | exact ⟨rfl, Nat.le_of_ble_eq_true rfl⟩ | omega | ((repeat' apply And.intro) <;> first | trivial | rfl | exact Nat.le_of_ble_eq_true rfl | omega) | (simp; done) | (simp; omega)) ?_)
  refine ex_callP [(0, 12)] (s_copied_B L hL0 hL) rfl rfl rfl rfl rfl rfl rfl (fun j hj => by (obtain rfl : j = 0 := by simpa [newIds, objIds, memN] using hj); rfl) ?_
  refine And.intro (by first | trivial | rfl) (And.intro (by first | trivial | exact Nat.le_of_ble_eq_true rfl | exact ⟨rfl, Nat.le_of_ble_eq_true rfl⟩ | omega | ((repeat' apply And.intro) <;> first | trivial | rfl | exact Nat.le_of_ble_eq_true rfl | omega) | (simp; done) | (simp; omega)) ?_)
  refine ex_pure s_copied_P rfl rfl rfl rfl rfl rfl rfl rfl ?_
  refine And.intro (by first | trivial | rfl) (And.intro (by first | trivial | exact Nat.le_of_ble_eq_true rfl | exact ⟨rfl, Nat.le_of_ble_eq_true rfl⟩ | omega | ((repeat' apply And.intro) <;> first | trivial | rfl | exact Nat.le_of_ble_eq_true rfl | omega) | (simp; done) | (simp; omega)) ?_)
  refine ex_pure s_copied_N rfl rfl rfl rfl rfl rfl rfl rfl ?_
  refine And.intro (by first | trivial | rfl) (And.intro (by first | trivial | exact Nat.le_of_ble_eq_true rfl | exact ⟨rfl, Nat.le_of_ble_eq_true rfl⟩ | omega | ((repeat' apply And.intro) <;> first | trivial | rfl | exact Nat.le_of_ble_eq_true rfl | omega) | (simp; done) | (simp; omega)) ?_)
  refine ex_pure s_copied_N rfl rfl rfl rfl rfl rfl rfl rfl ?_
  refine And.intro (by first | trivial | exact Nat.le_of_ble_eq_true rfl | exact ⟨rfl, Nat.le_of_ble_eq_true rfl⟩ | omega | ((repeat' apply And.intro) <;> first | trivial | rfl | exact Nat.le_of_ble_eq_true rfl | omega) | (simp; done) | (simp; omega)) (And.intro trivial (And.intro ⟨by kernel_rfl, Nat.le_of_ble_eq_true (by kernel_rfl)⟩ (And.intro (by kernel_rfl) ?_)))
  refine SW.seq ?_
  refine SW.seq ?_
  refine SW.regT tabOk [2, 3, 25, 26] ?_
  refine And.intro (by first | trivial | rfl) (And.intro (by first | trivial | exact Nat.le_of_ble_eq_true rfl | exact ⟨rfl, Nat.le_of_ble_eq_true rfl⟩ | omega | ((repeat' apply And.intro) <;> first | trivial | rfl | exact Nat.le_of_ble_eq_true rfl | omega) | (simp; done) | (simp; omega)) (And.intro (by first | trivial | exact Nat.le_of_ble_eq_true rfl | exact ⟨rfl, Nat.le_of_ble_eq_true rfl⟩ | omega | ((repeat' apply And.intro) <;> first | trivial | rfl | exact Nat.le_of_ble_eq_true rfl | omega) | (simp; done) | (simp; omega)) (And.intro trivial ?_)))
  refine SW.block ?_
  -- live at the head: [2, 3, 25, 26]
  refine SW.loopW (n := R.length) (fun n s => ∃ i : Nat, n = R.length - i ∧ i ≤ R.length ∧ s = [(.t 2, .v (.e (.c (.pt 2 0)))), (.t 3, .v (.e (.c (.pt 3 0)))), (.t 25, .v (I (R.length : Nat))), (.t 26, .v (I (i : Nat))), (.o 2, .box 27 [.d (.i 0), .nil, .nil, .nil, .nil, .nil]), (.o 3, .box 27 [.d (.i 0), .own 9 R.length, .own 12 L.length, .nil, .nil, .nil]), (.o 9, .row 36 5 (R)), (.o 12, .row 4 1 (L))]) ?_ ?_
  · skip
    refine wk [(.t 2, .v (.e (.c (.pt 2 0)))), (.t 3, .v (.e (.c (.pt 3 0)))), (.t 25, .v (I (R.length : Nat))), (.t 26, .v (I (0 : Nat))), (.o 2, .box 27 [.d (.i 0), .nil, .nil, .nil, .nil, .nil]), (.o 3, .box 27 [.d (.i 0), .own 9 R.length, .own 12 L.length, .nil, .nil, .nil]), (.o 9, .row 36 5 (R)), (.o 12, .row 4 1 (L))] [] [] (⟨0, rfl, Nat.zero_le _, rfl⟩) ?_ rfl rfl
    repeat' first | exact trivial | refine mL_nil rfl ?_ | refine mL_d rfl ?_ ?_ | refine mL_own rfl rfl ?_ rfl ?_ | refine mL_row rfl ?_ ?_ | refine mL_pt rfl rfl rfl rfl ?_ | refine mL_box rfl ?_ ?_ | refine mL_agg rfl ?_ ?_ | exact mCs_nil0 | refine mCs_d ?_ ?_ | refine mCs_nil ?_ | refine mCs_own rfl ?_ rfl ?_ | refine mCs_pt rfl rfl rfl ?_
    all_goals first | with_reducible rfl | (first | rfl | (simp; done) | omega)
  rintro n s ⟨i, rfl, hi, rfl⟩
  refine SW.seq ?_
  refine SW.regT tabOk [2, 3, 25, 26, 27] ?_
  refine And.intro trivial ?_
  refine SW.seq ?_
  refine SW.cond rfl (fun c27 => ?_) (fun c27 => ?_)
  · skip
    have hi2 : i < R.length := by simpa using c27
    obtain ⟨r, B, hB, hB2, hr, hR, hA⟩ := split_at hi2
    have hg : R.getD i [] = r := by rw [hR]; exact at_get hA
    obtain ⟨a, b, c, d, rfl⟩ := hR0 r hr
    refine SW.skip ?_
    refine SW.seq ?_
    refine SW.block ?_
    refine SW.seq ?_
    refine SW.regT tabOk [2, 3, 4, 25, 26] ?_
    refine And.intro trivial (And.intro trivial ?_)
    refine SW.regD tabOk mo [2, 3, 25, 26] ?_
    refine And.intro (by first | trivial | rfl) (And.intro (by first | trivial | exact Nat.le_of_ble_eq_true rfl | exact ⟨rfl, Nat.le_of_ble_eq_true rfl⟩ | omega | ((repeat' apply And.intro) <;> first | trivial | rfl | exact Nat.le_of_ble_eq_true rfl | omega) | (simp; done) | (simp; omega)) (And.intro trivial (And.intro (by first | trivial | rfl) (And.intro (by first | trivial | exact Nat.le_of_ble_eq_true rfl | exact ⟨rfl, Nat.le_of_ble_eq_true rfl⟩ | omega | ((repeat' apply And.intro) <;> first | trivial | rfl | exact Nat.le_of_ble_eq_true rfl | omega) | (simp; done) | (simp; omega)) (And.intro trivial (And.intro (by exact ⟨rfl, by omega, by omega⟩) (And.intro (by rw [Int.toNat_natCast, hg]; exact ⟨⟨rfl, hi2⟩, Nat.le_of_ble_eq_true rfl, rfl⟩) ?_)))))))
    refine ex_pure (s_impl_keeperCopy a b c d) rfl rfl rfl rfl rfl (by rw [Int.toNat_natCast, hg]; rfl) rfl rfl ?_
    refine And.intro (by exact ⟨rfl, by omega, by omega⟩) (And.intro (by rw [Int.toNat_natCast, hg]; exact ⟨rfl, hi2, rfl, Nat.le_of_ble_eq_true rfl⟩) (And.intro (by kernel_rfl) ?_))
    refine SW.regT tabOk [2, 3, 25, 26] ?_
    refine And.intro trivial (And.intro trivial ?_)
    refine wk [(.t 2, .v (.e (.c (.pt 2 0)))), (.t 3, .v (.e (.c (.pt 3 0)))), (.t 25, .v (I (R.length : Nat))), (.t 26, .v (I ((i + 1) : Nat))), (.o 2, .box 27 [.d (.i 0), .nil, .nil, .nil, .nil, .nil]), (.o 3, .box 27 [.d (.i 0), .own 9 R.length, .own 12 L.length, .nil, .nil, .nil]), (.o 9, .row 36 5 (R)), (.o 12, .row 4 1 (L))] [] [] (⟨R.length - (i + 1), by omega, i + 1, rfl, by omega, rfl⟩) ?_ rfl rfl
    repeat' first | exact trivial | refine mL_nil rfl ?_ | refine mL_d rfl ?_ ?_ | refine mL_own rfl rfl ?_ rfl ?_ | refine mL_row rfl ?_ ?_ | refine mL_pt rfl rfl rfl rfl ?_ | refine mL_box rfl ?_ ?_ | refine mL_agg rfl ?_ ?_ | exact mCs_nil0 | refine mCs_d ?_ ?_ | refine mCs_nil ?_ | refine mCs_own rfl ?_ rfl ?_ | refine mCs_pt rfl rfl rfl ?_
    all_goals first | with_reducible rfl | (first | with_reducible rfl | exact congrArg D.i (wrap64_of (by omega)) | (rw [Int.toNat_natCast, hg]; exact set_same hi2 hg))
  · skip
    refine SW.exit ?_
    refine SW.seq ?_
    refine SW.regT tabOk [2] ?_
    refine And.intro (by first | trivial | exact Nat.le_of_ble_eq_true rfl | exact ⟨rfl, Nat.le_of_ble_eq_true rfl⟩ | omega | ((repeat' apply And.intro) <;> first | trivial | rfl | exact Nat.le_of_ble_eq_true rfl | omega) | (simp; done) | (simp; omega)) (And.intro ⟨by kernel_rfl, Nat.le_of_ble_eq_true (by kernel_rfl)⟩ ?_)
    refine SW.ret ?_
    refine retOk _ [(0, 9), (1, 12)] [] rfl ?_ rfl rfl
    repeat' first | exact trivial | refine mL_nil rfl ?_ | refine mL_d rfl ?_ ?_ | refine mL_own rfl rfl ?_ rfl ?_ | refine mL_row rfl ?_ ?_ | refine mL_pt rfl rfl rfl rfl ?_ | refine mL_box rfl ?_ ?_ | refine mL_agg rfl ?_ ?_ | exact mCs_nil0 | refine mCs_d ?_ ?_ | refine mCs_nil ?_ | refine mCs_own rfl ?_ rfl ?_ | refine mCs_pt rfl rfl rfl ?_
    all_goals rfl

end Go.Proofs.Ytlkfibmjdigmiab
