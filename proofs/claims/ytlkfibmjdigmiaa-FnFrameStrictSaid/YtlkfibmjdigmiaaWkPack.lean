import Derived.Test.YtlkfibmjdigmiaaTab
import Derived.Test.YtlkfibmjdigmiaaWkFrame
import Derived.Test.YtlkfibmjdigmiaaAbDb
import Derived.Test.YtlkfibmjdigmiaaAbBr
namespace Go.Proofs.Ytlkfibmjdigmiaa
open Go Go.Ab Go.RowKit
set_option linter.unusedVariables false
set_option linter.unusedSimpArgs false

theorem s_impl_FrameSum (l : List UInt8) (hl : l.length ≤ 140737488355328) : Ab.Spec Try.prog 26 1 [(.t 0, .v (Dv (.sl (bytesRows l))))] [(.t 0, .v (I (fsum l l.length : Nat)))] := by
  refine spec_of_body tabOk Try.func26 rfl (by kernel_rfl) (by decide) (by kernel_rfl) rfl ?_
  refine SW.seq ?_
  refine SW.regT tabOk [0] ?_
  refine And.intro trivial ?_
  refine SW.seq ?_
  refine SW.regT tabOk [0, 3] ?_
  refine And.intro trivial ?_
  refine SW.seq ?_
  refine SW.seq ?_
  refine SW.regT tabOk [3, 6, 7, 8] ?_
  refine And.intro trivial (And.intro (by first | trivial | exact Nat.le_of_ble_eq_true rfl | exact ⟨rfl, Nat.le_of_ble_eq_true rfl⟩ | omega | ((repeat' apply And.intro) <;> first | trivial | rfl | exact Nat.le_of_ble_eq_true rfl | omega) | (simp; done) | (simp; omega)) (And.intro trivial ?_))
  refine SW.block ?_
  -- live at the head: [3, 6, 7, 8]
  refine SW.loopW (n := l.length) (fun n s => ∃ i : Nat, n = l.length - i ∧ i ≤ l.length ∧ s = [(.t 3, .v (I (fsum l i : Nat))), (.t 6, .v (Dv (.sl (bytesRows l)))), (.t 7, .v (I (l.length : Nat))), (.t 8, .v (I (i : Nat)))]) ?_ ?_
  · skip
    refine wk [(.t 3, .v (I (0 : Nat))), (.t 6, .v (Dv (.sl (bytesRows l)))), (.t 7, .v (I (l.length : Nat))), (.t 8, .v (I (0 : Nat)))] [] [] (⟨0, rfl, Nat.zero_le _, rfl⟩) ?_ rfl rfl
    repeat' first | exact trivial | refine mL_nil rfl ?_ | refine mL_d rfl ?_ ?_ | refine mL_own rfl rfl ?_ rfl ?_ | refine mL_row rfl ?_ ?_ | refine mL_pt rfl rfl rfl rfl ?_ | refine mL_box rfl ?_ ?_ | refine mL_agg rfl ?_ ?_ | exact mCs_nil0 | refine mCs_d ?_ ?_ | refine mCs_nil ?_ | refine mCs_own rfl ?_ rfl ?_ | refine mCs_pt rfl rfl rfl ?_
    all_goals first | with_reducible rfl | (simp [bytesRows_length])
  rintro n s ⟨i, rfl, hi, rfl⟩
  refine SW.seq ?_
  refine SW.regT tabOk [3, 6, 7, 8, 9] ?_
  refine And.intro trivial ?_
  refine SW.seq ?_
  refine SW.cond rfl (fun c9 => ?_) (fun c9 => ?_)
  · skip
    refine SW.skip ?_
    refine SW.seq ?_
    refine SW.block ?_
    refine SW.seq ?_
    refine SW.regT tabOk [3, 4, 5, 6, 7, 8] ?_
    refine And.intro trivial (And.intro (by have hb := bytesRows_getD (l := l) (i := i) (by simpa [bytesRows_length] using c9); refine ⟨⟨by omega, by simpa [bytesRows_length] using c9⟩, ?_⟩; simp only [Int.toNat_natCast]; rw [hb]; rfl) (And.intro (by have hb := bytesRows_getD (l := l) (i := i) (by simpa [bytesRows_length] using c9); simp only [Int.toNat_natCast]; rw [hb]; exact ⟨Nat.le_refl _, rfl⟩) (And.intro trivial (And.intro trivial ?_))))
    refine SW.regT tabOk [3, 6, 7, 8] ?_
    refine And.intro trivial (And.intro trivial (And.intro (by first | trivial | rfl) (And.intro trivial (And.intro (by decide) (And.intro trivial (And.intro trivial (And.intro trivial (And.intro (by decide) (And.intro trivial ?_)))))))))
    refine SW.regT tabOk [3, 6, 7, 8] ?_
    refine And.intro trivial (And.intro trivial ?_)
    have hi2 : i < l.length := by simpa using c9
    have hb := bytesRows_getD (l := l) (i := i) hi2
    refine wk [(.t 3, .v (I (fsum l (i + 1) : Nat))), (.t 6, .v (Dv (.sl (bytesRows l)))), (.t 7, .v (I (l.length : Nat))), (.t 8, .v (I ((i + 1) : Nat)))] [] [] (⟨l.length - (i + 1), by omega, i + 1, rfl, by omega, rfl⟩) ?_ rfl rfl
    repeat' first | exact trivial | refine mL_nil rfl ?_ | refine mL_d rfl ?_ ?_ | refine mL_own rfl rfl ?_ rfl ?_ | refine mL_row rfl ?_ ?_ | refine mL_pt rfl rfl rfl rfl ?_ | refine mL_box rfl ?_ ?_ | refine mL_agg rfl ?_ ?_ | exact mCs_nil0 | refine mCs_d ?_ ?_ | refine mCs_nil ?_ | refine mCs_own rfl ?_ rfl ?_ | refine mCs_pt rfl rfl rfl ?_
    all_goals first | with_reducible rfl | (first | (rw [Int.toNat_natCast, hb]; exact congrArg D.i (fsum_stepT l i)) | (rw [hb]; exact congrArg D.i (fsum_stepT l i)) | (exact congrArg D.i (wrap64_of (by omega))))
  · skip
    refine SW.exit ?_
    refine SW.seq ?_
    refine SW.regT tabOk [2] ?_
    refine And.intro trivial (And.intro trivial ?_)
    refine SW.ret ?_
    refine retOk1 rfl ?_
    have e : i = l.length := by simp at c9; omega
    subst e; rfl

theorem s_spec_FrameSum (l : List UInt8) (hl : l.length ≤ 140737488355328) : Ab.Spec Try.prog 29 1 [(.t 0, .v (Dv (.sl (bytesRows l))))] [(.t 0, .v (I (fsum l l.length : Nat)))] := by
  refine spec_of_body tabOk Try.func29 rfl (by kernel_rfl) (by decide) (by kernel_rfl) rfl ?_
  refine SW.seq ?_
  refine SW.regT tabOk [0] ?_
  refine And.intro trivial ?_
  refine SW.seq ?_
  refine SW.regT tabOk [0, 3] ?_
  refine And.intro trivial ?_
  refine SW.seq ?_
  refine SW.seq ?_
  refine SW.regT tabOk [0, 3, 4] ?_
  refine And.intro trivial ?_
  refine SW.block ?_
  -- live at the head: [0, 3, 4]
  refine SW.loopW (n := l.length) (fun n s => ∃ i : Nat, n = l.length - i ∧ i ≤ l.length ∧ s = [(.t 0, .v (Dv (.sl (bytesRows l)))), (.t 3, .v (I (fsum l i : Nat))), (.t 4, .v (I (i : Nat)))]) ?_ ?_
  · skip
    refine wk [(.t 0, .v (Dv (.sl (bytesRows l)))), (.t 3, .v (I (0 : Nat))), (.t 4, .v (I (0 : Nat)))] [] [] (⟨0, rfl, Nat.zero_le _, rfl⟩) ?_ rfl rfl
    repeat' first | exact trivial | refine mL_nil rfl ?_ | refine mL_d rfl ?_ ?_ | refine mL_own rfl rfl ?_ rfl ?_ | refine mL_row rfl ?_ ?_ | refine mL_pt rfl rfl rfl rfl ?_ | refine mL_box rfl ?_ ?_ | refine mL_agg rfl ?_ ?_ | exact mCs_nil0 | refine mCs_d ?_ ?_ | refine mCs_nil ?_ | refine mCs_own rfl ?_ rfl ?_ | refine mCs_pt rfl rfl rfl ?_
    all_goals first | with_reducible rfl | (simp [bytesRows_length])
  rintro n s ⟨i, rfl, hi, rfl⟩
  refine SW.seq ?_
  refine SW.seq ?_
  refine SW.regT tabOk [0, 3, 4, 8] ?_
  refine And.intro trivial (And.intro trivial (And.intro (by first | trivial | exact Nat.le_of_ble_eq_true rfl | exact ⟨rfl, Nat.le_of_ble_eq_true rfl⟩ | omega | ((repeat' apply And.intro) <;> first | trivial | rfl | exact Nat.le_of_ble_eq_true rfl | omega) | (simp; done) | (simp; omega)) (And.intro trivial ?_)))
  refine SW.cond rfl (fun c8 => ?_) (fun c8 => ?_)
  · skip
    refine SW.skip ?_
    refine SW.seq ?_
    refine SW.block ?_
    refine SW.regT tabOk [0, 3, 4] ?_
    refine And.intro trivial (And.intro trivial (And.intro (by decide) (And.intro trivial (And.intro trivial (And.intro trivial (And.intro (by have hb := bytesRows_getD (l := l) (i := i) (by simpa [bytesRows_length] using c8); refine ⟨⟨by omega, by simpa [bytesRows_length] using c8⟩, ?_⟩; simp only [Int.toNat_natCast]; rw [hb]; rfl) (And.intro (by have hb := bytesRows_getD (l := l) (i := i) (by simpa [bytesRows_length] using c8); simp only [Int.toNat_natCast]; rw [hb]; exact ⟨Nat.le_refl _, rfl⟩) (And.intro (by first | trivial | rfl) (And.intro trivial (And.intro trivial (And.intro (by decide) (And.intro trivial ?_))))))))))))
    refine SW.regT tabOk [0, 3, 4] ?_
    refine And.intro trivial (And.intro trivial (And.intro trivial ?_))
    have hi2 : i < l.length := by simpa [bytesRows_length] using c8
    have hb := bytesRows_getD (l := l) (i := i) hi2
    refine wk [(.t 0, .v (Dv (.sl (bytesRows l)))), (.t 3, .v (I (fsum l (i + 1) : Nat))), (.t 4, .v (I ((i + 1) : Nat)))] [] [] (⟨l.length - (i + 1), by omega, i + 1, rfl, by omega, rfl⟩) ?_ rfl rfl
    repeat' first | exact trivial | refine mL_nil rfl ?_ | refine mL_d rfl ?_ ?_ | refine mL_own rfl rfl ?_ rfl ?_ | refine mL_row rfl ?_ ?_ | refine mL_pt rfl rfl rfl rfl ?_ | refine mL_box rfl ?_ ?_ | refine mL_agg rfl ?_ ?_ | exact mCs_nil0 | refine mCs_d ?_ ?_ | refine mCs_nil ?_ | refine mCs_own rfl ?_ rfl ?_ | refine mCs_pt rfl rfl rfl ?_
    all_goals first | with_reducible rfl | (first | (rw [Int.toNat_natCast, hb]; exact congrArg D.i (fsum_stepS l i)) | (rw [hb]; exact congrArg D.i (fsum_stepS l i)) | (exact congrArg D.i (wrap64_of (by omega))))
  · skip
    refine SW.exit ?_
    refine SW.seq ?_
    refine SW.regT tabOk [2] ?_
    refine And.intro trivial (And.intro trivial ?_)
    refine SW.ret ?_
    refine retOk1 rfl ?_
    have e : i = l.length := by simp [bytesRows_length] at c8; omega
    subst e; rfl

theorem bytesRows_len1 (l : List UInt8) : ∀ r ∈ bytesRows l, r.length = 1 := by
  intro r hr
  obtain ⟨b, _, rfl⟩ := List.mem_map.1 hr
  rfl
theorem s_impl_copied_byte (l : List UInt8) (hl : l.length ≤ 140737488355328) : Ab.Spec Try.prog 27 1 [(.t 0, .v (Dv (.sl (bytesRows l))))] [(.t 0, .v (.e (.c (.own 0 (l).length)))), (.o 0, .row 5 1 (bytesRows (l)))] := by
  refine spec_of_body tabOk Try.func27 rfl (by kernel_rfl) (by decide) (by kernel_rfl) rfl ?_
  refine SW.seq ?_
  refine SW.regT tabOk [0] ?_
  refine And.intro trivial ?_
  refine SW.seq ?_
  refine SW.seq ?_
  refine SW.regT tabOk [0, 6] ?_
  refine And.intro trivial (And.intro (by first | trivial | exact Nat.le_of_ble_eq_true rfl | exact ⟨rfl, Nat.le_of_ble_eq_true rfl⟩ | omega | ((repeat' apply And.intro) <;> first | trivial | rfl | exact Nat.le_of_ble_eq_true rfl | omega) | (simp; done) | (simp; omega)) (And.intro trivial ?_))
  refine SW.cond rfl (fun c6 => ?_) (fun c6 => ?_)
  · skip
    refine SW.seq ?_
    refine SW.regT tabOk [2] ?_
    refine And.intro trivial ?_
    refine SW.nilOwn 2 0 5 1 rfl rfl ?_
    refine SW.ret ?_
    refine retOk _ [] [] rfl ?_ rfl rfl
    repeat' first | exact trivial | refine mL_nil rfl ?_ | refine mL_d rfl ?_ ?_ | refine mL_own rfl rfl ?_ rfl ?_ | refine mL_row rfl ?_ ?_ | refine mL_pt rfl rfl rfl rfl ?_ | refine mL_box rfl ?_ ?_ | refine mL_agg rfl ?_ ?_ | exact mCs_nil0 | refine mCs_d ?_ ?_ | refine mCs_nil ?_ | refine mCs_own rfl ?_ rfl ?_ | refine mCs_pt rfl rfl rfl ?_
    all_goals (simp [bytesRows_length] at c6; simp [c6, bytesRows])
  · skip
    refine SW.skip ?_
    refine SW.seq ?_
    refine SW.regT tabOk [0, 3] ?_
    refine And.intro trivial (And.intro (by first | trivial | exact Nat.le_of_ble_eq_true rfl | exact ⟨rfl, Nat.le_of_ble_eq_true rfl⟩ | omega | ((repeat' apply And.intro) <;> first | trivial | rfl | exact Nat.le_of_ble_eq_true rfl | omega) | (simp; done) | (simp; omega)) (And.intro (by refine ⟨rfl, by omega, ?_⟩; rw [bytesRows_length]; show ((1 : Nat) : Int) * _ ≤ _; omega) (And.intro trivial ?_)))
    refine SW.seq ?_
    refine SW.regT tabOk [3] ?_
    refine And.intro trivial (And.intro trivial (And.intro (by refine ⟨trivial, by simp, bytesRows_len1 l⟩) ?_))
    refine SW.seq ?_
    refine SW.regT tabOk [2] ?_
    refine And.intro trivial (And.intro trivial ?_)
    refine SW.ret ?_
    refine retOk _ [(0, 9)] [] rfl ?_ rfl rfl
    repeat' first | exact trivial | refine mL_nil rfl ?_ | refine mL_d rfl ?_ ?_ | refine mL_own rfl rfl ?_ rfl ?_ | refine mL_row rfl ?_ ?_ | refine mL_pt rfl rfl rfl rfl ?_ | refine mL_box rfl ?_ ?_ | refine mL_agg rfl ?_ ?_ | exact mCs_nil0 | refine mCs_d ?_ ?_ | refine mCs_nil ?_ | refine mCs_own rfl ?_ rfl ?_ | refine mCs_pt rfl rfl rfl ?_
    all_goals first | (simp [bytesRows_length]; done) | (simp; done)

theorem s_spec_l21Two (l : List UInt8) (n : Int) (hl : l.length ≤ 1073741824) (hn : 0 ≤ n ∧ n < 65536) : Ab.Spec Try.prog 28 2 [(.t 0, .v (.e (.c (.own 0 l.length)))), (.t 1, .v (I n)), (.o 0, .row 5 1 (bytesRows l))] [(.t 0, .v (.e (.c (.own 0 (l ++ two n).length)))), (.o 0, .row 5 1 (bytesRows (l ++ two n)))] := by
  refine spec_of_body tabOk Try.func28 rfl (by kernel_rfl) (by decide) (by kernel_rfl) rfl ?_
  refine SW.seq ?_
  refine SW.regT tabOk [0, 1] ?_
  refine And.intro trivial ?_
  refine SW.seq ?_
  refine SW.regT tabOk [4] ?_
  refine And.intro trivial (And.intro trivial (And.intro (by first | trivial | exact Nat.le_of_ble_eq_true rfl | exact ⟨rfl, Nat.le_of_ble_eq_true rfl⟩ | omega | ((repeat' apply And.intro) <;> first | trivial | rfl | exact Nat.le_of_ble_eq_true rfl | omega) | (simp; done) | (simp; omega)) (And.intro (by first | trivial | rfl) (And.intro trivial (And.intro (by first | trivial | exact Nat.le_of_ble_eq_true rfl | exact ⟨rfl, Nat.le_of_ble_eq_true rfl⟩ | omega | ((repeat' apply And.intro) <;> first | trivial | rfl | exact Nat.le_of_ble_eq_true rfl | omega) | (simp; done) | (simp; omega)) (And.intro (by first | trivial | rfl) (And.intro (by first | trivial | exact Nat.le_of_ble_eq_true rfl | exact ⟨rfl, Nat.le_of_ble_eq_true rfl⟩ | omega | ((repeat' apply And.intro) <;> first | trivial | rfl | exact Nat.le_of_ble_eq_true rfl | omega) | (simp; done) | (simp; omega)) (And.intro (by refine ⟨rfl, by simp [bytesRows_length], by simp, ?_⟩; show (_ + 2) * 1 ≤ _; omega) (And.intro trivial ?_)))))))))
  refine SW.ret ?_
  refine retOk _ [] [] rfl ?_ rfl rfl
  repeat' first | exact trivial | refine mL_nil rfl ?_ | refine mL_d rfl ?_ ?_ | refine mL_own rfl rfl ?_ rfl ?_ | refine mL_row rfl ?_ ?_ | refine mL_pt rfl rfl rfl rfl ?_ | refine mL_box rfl ?_ ?_ | refine mL_agg rfl ?_ ?_ | exact mCs_nil0 | refine mCs_d ?_ ?_ | refine mCs_nil ?_ | refine mCs_own rfl ?_ rfl ?_ | refine mCs_pt rfl rfl rfl ?_
  all_goals first | (simp [bytesRows_length, two]; done) | (rw [two_rows hn, bytesRows_append])

theorem s_impl_FramePack (f : FrameR) : Ab.Spec Try.prog 14 1 [(.t 0, .v (f.V))] [(.t 0, .v (.e (.c (.own 0 (framePack f).length)))), (.o 0, .row 5 1 (bytesRows (framePack f)))] := by
  refine spec_of_body tabOk Try.func14 rfl (by kernel_rfl) (by decide) (by kernel_rfl) rfl ?_
  refine SW.seq ?_
  refine SW.regT tabOk [1] ?_
  refine And.intro trivial (And.intro trivial ?_)
  refine SW.seq ?_
  refine SW.seq ?_
  refine SW.regT tabOk [1, 7] ?_
  refine And.intro (by first | trivial | exact Nat.le_of_ble_eq_true rfl | exact ⟨rfl, Nat.le_of_ble_eq_true rfl⟩ | omega | ((repeat' apply And.intro) <;> first | trivial | rfl | exact Nat.le_of_ble_eq_true rfl | omega) | (simp; done) | (simp; omega)) ?_
  refine ex_pure (s_impl_FrameOk _) rfl rfl rfl rfl rfl rfl rfl rfl ?_
  refine And.intro trivial ?_
  refine SW.cond rfl (fun c7 => ?_) (fun c7 => ?_)
  · skip
    refine SW.seq ?_
    refine SW.regT tabOk [2] ?_
    refine And.intro trivial ?_
    refine SW.nilOwn 2 0 5 1 rfl rfl ?_
    refine SW.ret ?_
    refine retOk _ [] [] rfl ?_ rfl rfl
    repeat' first | exact trivial | refine mL_nil rfl ?_ | refine mL_d rfl ?_ ?_ | refine mL_own rfl rfl ?_ rfl ?_ | refine mL_row rfl ?_ ?_ | refine mL_pt rfl rfl rfl rfl ?_ | refine mL_box rfl ?_ ?_ | refine mL_agg rfl ?_ ?_ | exact mCs_nil0 | refine mCs_d ?_ ?_ | refine mCs_nil ?_ | refine mCs_own rfl ?_ rfl ?_ | refine mCs_pt rfl rfl rfl ?_
    all_goals (simp at c7; simp [framePack, c7, bytesRows])
  · skip
    have hok : frameOk f = true := by simpa using c7
    obtain ⟨k1, k2, k3, k4, k5, k6, k7, k8⟩ := frameOk_spec hok
    have hlen := packBody_len hok
    have hsum := fsum_lt (packBody f) (packBody f).length
    refine SW.skip ?_
    refine SW.seq ?_
    refine SW.regT tabOk [1, 3] ?_
    refine And.intro (by first | trivial | rfl) (And.intro (by first | trivial | exact Nat.le_of_ble_eq_true rfl | exact ⟨rfl, Nat.le_of_ble_eq_true rfl⟩ | omega | ((repeat' apply And.intro) <;> first | trivial | rfl | exact Nat.le_of_ble_eq_true rfl | omega) | (simp; done) | (simp; omega)) (And.intro (by first | trivial | rfl) (And.intro (by first | trivial | rfl) (And.intro (by first | trivial | exact Nat.le_of_ble_eq_true rfl | exact ⟨rfl, Nat.le_of_ble_eq_true rfl⟩ | omega | ((repeat' apply And.intro) <;> first | trivial | rfl | exact Nat.le_of_ble_eq_true rfl | omega) | (simp; done) | (simp; omega)) (And.intro (by first | trivial | rfl) (And.intro (by first | trivial | rfl) (And.intro (by first | trivial | exact Nat.le_of_ble_eq_true rfl | exact ⟨rfl, Nat.le_of_ble_eq_true rfl⟩ | omega | ((repeat' apply And.intro) <;> first | trivial | rfl | exact Nat.le_of_ble_eq_true rfl | omega) | (simp; done) | (simp; omega)) (And.intro (by first | trivial | rfl) (And.intro (by first | trivial | rfl) (And.intro (by first | trivial | exact Nat.le_of_ble_eq_true rfl | exact ⟨rfl, Nat.le_of_ble_eq_true rfl⟩ | omega | ((repeat' apply And.intro) <;> first | trivial | rfl | exact Nat.le_of_ble_eq_true rfl | omega) | (simp; done) | (simp; omega)) (And.intro (by first | trivial | rfl) (And.intro (by first | trivial | rfl) (And.intro (by first | trivial | exact Nat.le_of_ble_eq_true rfl | exact ⟨rfl, Nat.le_of_ble_eq_true rfl⟩ | omega | ((repeat' apply And.intro) <;> first | trivial | rfl | exact Nat.le_of_ble_eq_true rfl | omega) | (simp; done) | (simp; omega)) (And.intro (by first | trivial | rfl) (And.intro (by first | trivial | rfl) (And.intro (by first | trivial | exact Nat.le_of_ble_eq_true rfl | exact ⟨rfl, Nat.le_of_ble_eq_true rfl⟩ | omega | ((repeat' apply And.intro) <;> first | trivial | rfl | exact Nat.le_of_ble_eq_true rfl | omega) | (simp; done) | (simp; omega)) (And.intro (by first | trivial | rfl) (And.intro (by first | trivial | rfl) (And.intro (by first | trivial | exact Nat.le_of_ble_eq_true rfl | exact ⟨rfl, Nat.le_of_ble_eq_true rfl⟩ | omega | ((repeat' apply And.intro) <;> first | trivial | rfl | exact Nat.le_of_ble_eq_true rfl | omega) | (simp; done) | (simp; omega)) (And.intro (by first | trivial | exact Nat.le_of_ble_eq_true rfl | exact ⟨rfl, Nat.le_of_ble_eq_true rfl⟩ | omega | ((repeat' apply And.intro) <;> first | trivial | rfl | exact Nat.le_of_ble_eq_true rfl | omega) | (simp; done) | (simp; omega)) (And.intro (by first | trivial | rfl) (And.intro (by first | trivial | rfl) (And.intro (by first | trivial | exact Nat.le_of_ble_eq_true rfl | exact ⟨rfl, Nat.le_of_ble_eq_true rfl⟩ | omega | ((repeat' apply And.intro) <;> first | trivial | rfl | exact Nat.le_of_ble_eq_true rfl | omega) | (simp; done) | (simp; omega)) (And.intro (by first | trivial | exact Nat.le_of_ble_eq_true rfl | exact ⟨rfl, Nat.le_of_ble_eq_true rfl⟩ | omega | ((repeat' apply And.intro) <;> first | trivial | rfl | exact Nat.le_of_ble_eq_true rfl | omega) | (simp; done) | (simp; omega)) (And.intro (by first | trivial | rfl) (And.intro (by first | trivial | exact Nat.le_of_ble_eq_true rfl | exact ⟨rfl, Nat.le_of_ble_eq_true rfl⟩ | omega | ((repeat' apply And.intro) <;> first | trivial | rfl | exact Nat.le_of_ble_eq_true rfl | omega) | (simp; done) | (simp; omega)) (And.intro trivial ?_)))))))))))))))))))))))))))
    refine SW.seq ?_
    refine SW.seq ?_
    refine SW.wk (J := fun s => s = [(.t 1, .v (.e (.c (.pt 1 0)))), (.t 3, .v (.e (.c (.own 34 (packHead f).length)))), (.o 1, .box 24 [.d (.i f.kind), .d (.i f.src), .d (.i f.dst), .d (.i f.frm), .d (.i f.num), .d (.i f.to), .d (.i f.til), .d (.i f.size), .d (.i f.mix), .d (.s f.data)]), (.o 34, .row 5 1 (bytesRows (packHead f)))]) ?_ ?_
    · skip
      refine wk [(.t 1, .v (.e (.c (.pt 1 0)))), (.t 3, .v (.e (.c (.own 34 (packHead f).length)))), (.o 1, .box 24 [.d (.i f.kind), .d (.i f.src), .d (.i f.dst), .d (.i f.frm), .d (.i f.num), .d (.i f.to), .d (.i f.til), .d (.i f.size), .d (.i f.mix), .d (.s f.data)]), (.o 34, .row 5 1 (bytesRows (packHead f)))] [] [] (rfl) ?_ rfl rfl
      repeat' first | exact trivial | refine mL_nil rfl ?_ | refine mL_d rfl ?_ ?_ | refine mL_own rfl rfl ?_ rfl ?_ | refine mL_row rfl ?_ ?_ | refine mL_pt rfl rfl rfl rfl ?_ | refine mL_box rfl ?_ ?_ | refine mL_agg rfl ?_ ?_ | exact mCs_nil0 | refine mCs_d ?_ ?_ | refine mCs_nil ?_ | refine mCs_own rfl ?_ rfl ?_ | refine mCs_pt rfl rfl rfl ?_
      all_goals first | with_reducible rfl | (first | (simp [packHead, two]; done) | exact packHead_rows hok)
    rintro s rfl
    refine SW.regT tabOk [1, 3, 37] ?_
    refine And.intro (by first | trivial | rfl) (And.intro (by first | trivial | exact Nat.le_of_ble_eq_true rfl | exact ⟨rfl, Nat.le_of_ble_eq_true rfl⟩ | omega | ((repeat' apply And.intro) <;> first | trivial | rfl | exact Nat.le_of_ble_eq_true rfl | omega) | (simp; done) | (simp; omega)) (And.intro trivial ?_))
    refine SW.cond rfl (fun c37 => ?_) (fun c37 => ?_)
    · skip
      have hk : f.kind = 1 := by simpa using c37
      obtain ⟨m1, m2, m3⟩ := k8 hk
      refine SW.seq ?_
      refine SW.regT tabOk [1, 3] ?_
      refine And.intro trivial (And.intro (by first | trivial | rfl) (And.intro (by first | trivial | exact Nat.le_of_ble_eq_true rfl | exact ⟨rfl, Nat.le_of_ble_eq_true rfl⟩ | omega | ((repeat' apply And.intro) <;> first | trivial | rfl | exact Nat.le_of_ble_eq_true rfl | omega) | (simp; done) | (simp; omega)) (And.intro (by first | trivial | rfl) (And.intro (by first | trivial | rfl) (And.intro (by first | trivial | exact Nat.le_of_ble_eq_true rfl | exact ⟨rfl, Nat.le_of_ble_eq_true rfl⟩ | omega | ((repeat' apply And.intro) <;> first | trivial | rfl | exact Nat.le_of_ble_eq_true rfl | omega) | (simp; done) | (simp; omega)) (And.intro (by first | trivial | exact Nat.le_of_ble_eq_true rfl | exact ⟨rfl, Nat.le_of_ble_eq_true rfl⟩ | omega | ((repeat' apply And.intro) <;> first | trivial | rfl | exact Nat.le_of_ble_eq_true rfl | omega) | (simp; done) | (simp; omega)) (And.intro (by first | trivial | rfl) (And.intro (by first | trivial | rfl) (And.intro (by first | trivial | exact Nat.le_of_ble_eq_true rfl | exact ⟨rfl, Nat.le_of_ble_eq_true rfl⟩ | omega | ((repeat' apply And.intro) <;> first | trivial | rfl | exact Nat.le_of_ble_eq_true rfl | omega) | (simp; done) | (simp; omega)) (And.intro (by first | trivial | exact Nat.le_of_ble_eq_true rfl | exact ⟨rfl, Nat.le_of_ble_eq_true rfl⟩ | omega | ((repeat' apply And.intro) <;> first | trivial | rfl | exact Nat.le_of_ble_eq_true rfl | omega) | (simp; done) | (simp; omega)) (And.intro (by first | trivial | rfl) (And.intro (by first | trivial | exact Nat.le_of_ble_eq_true rfl | exact ⟨rfl, Nat.le_of_ble_eq_true rfl⟩ | omega | ((repeat' apply And.intro) <;> first | trivial | rfl | exact Nat.le_of_ble_eq_true rfl | omega) | (simp; done) | (simp; omega)) (And.intro (by refine ⟨rfl, bytesRows_length _, by simp, ?_⟩; show (_ + 3) * 1 ≤ _; simp [packHead, two]) (And.intro trivial ?_))))))))))))))
      refine SW.regT tabOk [3] ?_
      refine And.intro trivial (And.intro (by first | trivial | rfl) (And.intro (by first | trivial | exact Nat.le_of_ble_eq_true rfl | exact ⟨rfl, Nat.le_of_ble_eq_true rfl⟩ | omega | ((repeat' apply And.intro) <;> first | trivial | rfl | exact Nat.le_of_ble_eq_true rfl | omega) | (simp; done) | (simp; omega)) (And.intro (by refine ⟨trivial, by simp [bytesRows_length], by simp, ?_⟩; simp [bytesRows_length, m3, packHead, two]) (And.intro trivial ?_))))
      refine SW.seq ?_
      refine SW.wk (J := fun s => s = [(.t 3, .v (.e (.c (.own 34 (packBody f).length)))), (.o 34, .row 5 1 (bytesRows (packBody f)))]) ?_ ?_
      · skip
        refine wk [(.t 3, .v (.e (.c (.own 34 (packBody f).length)))), (.o 34, .row 5 1 (bytesRows (packBody f)))] [] [] (rfl) ?_ rfl rfl
        repeat' first | exact trivial | refine mL_nil rfl ?_ | refine mL_d rfl ?_ ?_ | refine mL_own rfl rfl ?_ rfl ?_ | refine mL_row rfl ?_ ?_ | refine mL_pt rfl rfl rfl rfl ?_ | refine mL_box rfl ?_ ?_ | refine mL_agg rfl ?_ ?_ | exact mCs_nil0 | refine mCs_d ?_ ?_ | refine mCs_nil ?_ | refine mCs_own rfl ?_ rfl ?_ | refine mCs_pt rfl rfl rfl ?_
        all_goals first | with_reducible rfl | (first | exact packTail_rows hok hk | (rw [packBody_plain hk]; done) | (rw [packBody_plain hk]) | (rw [← packTail_rows hok hk]; rfl) | (simp [packBody, packHead, two, hk, bytesRows_length, m3]; done) | (simp [packBody, packHead, two, hk, bytesRows_length]; done))
      rintro s rfl
      refine SW.regT tabOk [3, 4] ?_
      refine And.intro trivial ?_
      refine ex_call (robj := [(34, .row 5 1 (bytesRows (packBody f)))]) (rl := []) (bor := [34]) (s_impl_FrameSum (packBody f) (by omega)) rfl rfl rfl rfl ⟨mL_froze rfl rfl rfl ?_ rfl trivial, rfl⟩ rfl (.inr (scalarSt_i _)) (fun p hp => by simp at hp; subst hp; rfl) (fun _ hj => nomatch hj) ?_
      · exact bytesRows_length _
      refine And.intro trivial ?_
      refine SW.seq ?_
      refine SW.regT tabOk [2] ?_
      refine And.intro trivial (And.intro trivial (And.intro (by first | trivial | exact Nat.le_of_ble_eq_true rfl | exact ⟨rfl, Nat.le_of_ble_eq_true rfl⟩ | omega | ((repeat' apply And.intro) <;> first | trivial | rfl | exact Nat.le_of_ble_eq_true rfl | omega) | (simp; done) | (simp; omega)) (And.intro (by first | trivial | rfl) (And.intro trivial (And.intro (by first | trivial | exact Nat.le_of_ble_eq_true rfl | exact ⟨rfl, Nat.le_of_ble_eq_true rfl⟩ | omega | ((repeat' apply And.intro) <;> first | trivial | rfl | exact Nat.le_of_ble_eq_true rfl | omega) | (simp; done) | (simp; omega)) (And.intro (by first | trivial | rfl) (And.intro (by first | trivial | exact Nat.le_of_ble_eq_true rfl | exact ⟨rfl, Nat.le_of_ble_eq_true rfl⟩ | omega | ((repeat' apply And.intro) <;> first | trivial | rfl | exact Nat.le_of_ble_eq_true rfl | omega) | (simp; done) | (simp; omega)) (And.intro (by refine ⟨rfl, bytesRows_length _, by simp, ?_⟩; show (_ + 2) * 1 ≤ _; omega) ?_))))))))
      refine ex_call (robj := [(34, .row 5 1 (bytesRows (packBody f) ++ [[.u (wrap8 (wrap64 (Int.tdiv ((fsum (packBody f) (packBody f).length : Nat) : Int) 256)))], [.u (wrap8 (Int.tmod ((fsum (packBody f) (packBody f).length : Nat) : Int) 256))]]))]) (rl := [(0, 67)]) (bor := [34]) (s_impl_copied_byte (packBody f ++ two ((fsum (packBody f) (packBody f).length : Nat) : Int)) (by simp [two]; omega)) rfl rfl rfl rfl ⟨mL_froze rfl rfl rfl ?_ (congrArg D.sl (by rw [← bytesRows_append, two_rows (by omega)])) trivial, rfl⟩ rfl (.inr (scalarSt_own _ _ _)) (fun p hp => by simp at hp; subst hp; rfl) (fun j hj => by (obtain rfl : j = 0 := by simpa [newIds, objIds, memN] using hj); rfl) ?_
      · simp [bytesRows_length]
      refine And.intro trivial ?_
      refine SW.ret ?_
      refine retOk _ [(0, 67)] [] rfl ?_ rfl rfl
      repeat' first | exact trivial | refine mL_nil rfl ?_ | refine mL_d rfl ?_ ?_ | refine mL_own rfl rfl ?_ rfl ?_ | refine mL_row rfl ?_ ?_ | refine mL_pt rfl rfl rfl rfl ?_ | refine mL_box rfl ?_ ?_ | refine mL_agg rfl ?_ ?_ | exact mCs_nil0 | refine mCs_d ?_ ?_ | refine mCs_nil ?_ | refine mCs_own rfl ?_ rfl ?_ | refine mCs_pt rfl rfl rfl ?_
      all_goals (rw [framePack_eq, if_pos hok])
    · skip
      have hk : ¬ f.kind = 1 := by simpa using c37
      refine SW.skip ?_
      refine SW.seq ?_
      refine SW.wk (J := fun s => s = [(.t 3, .v (.e (.c (.own 34 (packBody f).length)))), (.o 34, .row 5 1 (bytesRows (packBody f)))]) ?_ ?_
      · skip
        refine wk [(.t 3, .v (.e (.c (.own 34 (packBody f).length)))), (.o 34, .row 5 1 (bytesRows (packBody f)))] [] [] (rfl) ?_ rfl rfl
        repeat' first | exact trivial | refine mL_nil rfl ?_ | refine mL_d rfl ?_ ?_ | refine mL_own rfl rfl ?_ rfl ?_ | refine mL_row rfl ?_ ?_ | refine mL_pt rfl rfl rfl rfl ?_ | refine mL_box rfl ?_ ?_ | refine mL_agg rfl ?_ ?_ | exact mCs_nil0 | refine mCs_d ?_ ?_ | refine mCs_nil ?_ | refine mCs_own rfl ?_ rfl ?_ | refine mCs_pt rfl rfl rfl ?_
        all_goals first | with_reducible rfl | (first | exact packTail_rows hok hk | (rw [packBody_plain hk]; done) | (rw [packBody_plain hk]) | (rw [← packTail_rows hok hk]; rfl) | (simp [packBody, packHead, two, hk, bytesRows_length, m3]; done) | (simp [packBody, packHead, two, hk, bytesRows_length]; done))
      rintro s rfl
      refine SW.regT tabOk [3, 4] ?_
      refine And.intro trivial ?_
      refine ex_call (robj := [(34, .row 5 1 (bytesRows (packBody f)))]) (rl := []) (bor := [34]) (s_impl_FrameSum (packBody f) (by omega)) rfl rfl rfl rfl ⟨mL_froze rfl rfl rfl ?_ rfl trivial, rfl⟩ rfl (.inr (scalarSt_i _)) (fun p hp => by simp at hp; subst hp; rfl) (fun _ hj => nomatch hj) ?_
      · exact bytesRows_length _
      refine And.intro trivial ?_
      refine SW.seq ?_
      refine SW.regT tabOk [2] ?_
      refine And.intro trivial (And.intro trivial (And.intro (by first | trivial | exact Nat.le_of_ble_eq_true rfl | exact ⟨rfl, Nat.le_of_ble_eq_true rfl⟩ | omega | ((repeat' apply And.intro) <;> first | trivial | rfl | exact Nat.le_of_ble_eq_true rfl | omega) | (simp; done) | (simp; omega)) (And.intro (by first | trivial | rfl) (And.intro trivial (And.intro (by first | trivial | exact Nat.le_of_ble_eq_true rfl | exact ⟨rfl, Nat.le_of_ble_eq_true rfl⟩ | omega | ((repeat' apply And.intro) <;> first | trivial | rfl | exact Nat.le_of_ble_eq_true rfl | omega) | (simp; done) | (simp; omega)) (And.intro (by first | trivial | rfl) (And.intro (by first | trivial | exact Nat.le_of_ble_eq_true rfl | exact ⟨rfl, Nat.le_of_ble_eq_true rfl⟩ | omega | ((repeat' apply And.intro) <;> first | trivial | rfl | exact Nat.le_of_ble_eq_true rfl | omega) | (simp; done) | (simp; omega)) (And.intro (by refine ⟨rfl, bytesRows_length _, by simp, ?_⟩; show (_ + 2) * 1 ≤ _; omega) ?_))))))))
      refine ex_call (robj := [(34, .row 5 1 (bytesRows (packBody f) ++ [[.u (wrap8 (wrap64 (Int.tdiv ((fsum (packBody f) (packBody f).length : Nat) : Int) 256)))], [.u (wrap8 (Int.tmod ((fsum (packBody f) (packBody f).length : Nat) : Int) 256))]]))]) (rl := [(0, 67)]) (bor := [34]) (s_impl_copied_byte (packBody f ++ two ((fsum (packBody f) (packBody f).length : Nat) : Int)) (by simp [two]; omega)) rfl rfl rfl rfl ⟨mL_froze rfl rfl rfl ?_ (congrArg D.sl (by rw [← bytesRows_append, two_rows (by omega)])) trivial, rfl⟩ rfl (.inr (scalarSt_own _ _ _)) (fun p hp => by simp at hp; subst hp; rfl) (fun j hj => by (obtain rfl : j = 0 := by simpa [newIds, objIds, memN] using hj); rfl) ?_
      · simp [bytesRows_length]
      refine And.intro trivial ?_
      refine SW.ret ?_
      refine retOk _ [(0, 67)] [] rfl ?_ rfl rfl
      repeat' first | exact trivial | refine mL_nil rfl ?_ | refine mL_d rfl ?_ ?_ | refine mL_own rfl rfl ?_ rfl ?_ | refine mL_row rfl ?_ ?_ | refine mL_pt rfl rfl rfl rfl ?_ | refine mL_box rfl ?_ ?_ | refine mL_agg rfl ?_ ?_ | exact mCs_nil0 | refine mCs_d ?_ ?_ | refine mCs_nil ?_ | refine mCs_own rfl ?_ rfl ?_ | refine mCs_pt rfl rfl rfl ?_
      all_goals (rw [framePack_eq, if_pos hok])

theorem s_spec_FramePack (f : FrameR) : Ab.Spec Try.prog 15 1 [(.t 0, .v (f.V))] [(.t 0, .v (.e (.c (.own 0 (framePack f).length)))), (.o 0, .row 5 1 (bytesRows (framePack f)))] := by
  refine spec_of_body tabOk Try.func15 rfl (by kernel_rfl) (by decide) (by kernel_rfl) rfl ?_
  refine SW.seq ?_
  refine SW.regT tabOk [1] ?_
  refine And.intro trivial (And.intro trivial ?_)
  refine SW.seq ?_
  refine SW.regT tabOk [1, 3] ?_
  refine And.intro (by first | trivial | exact Nat.le_of_ble_eq_true rfl | exact ⟨rfl, Nat.le_of_ble_eq_true rfl⟩ | omega | ((repeat' apply And.intro) <;> first | trivial | rfl | exact Nat.le_of_ble_eq_true rfl | omega) | (simp; done) | (simp; omega)) (And.intro trivial ?_)
  refine SW.seq ?_
  refine SW.seq ?_
  refine SW.regT tabOk [1, 3, 7] ?_
  refine And.intro (by first | trivial | exact Nat.le_of_ble_eq_true rfl | exact ⟨rfl, Nat.le_of_ble_eq_true rfl⟩ | omega | ((repeat' apply And.intro) <;> first | trivial | rfl | exact Nat.le_of_ble_eq_true rfl | omega) | (simp; done) | (simp; omega)) ?_
  refine ex_pure (s_spec_FrameOk _) rfl rfl rfl rfl rfl rfl rfl rfl ?_
  refine And.intro trivial ?_
  refine SW.cond rfl (fun c7 => ?_) (fun c7 => ?_)
  · skip
    refine SW.seq ?_
    refine SW.regT tabOk [2] ?_
    refine And.intro trivial (And.intro trivial ?_)
    refine SW.ret ?_
    refine retOk _ [(0, 4)] [] rfl ?_ rfl rfl
    repeat' first | exact trivial | refine mL_nil rfl ?_ | refine mL_d rfl ?_ ?_ | refine mL_own rfl rfl ?_ rfl ?_ | refine mL_row rfl ?_ ?_ | refine mL_pt rfl rfl rfl rfl ?_ | refine mL_box rfl ?_ ?_ | refine mL_agg rfl ?_ ?_ | exact mCs_nil0 | refine mCs_d ?_ ?_ | refine mCs_nil ?_ | refine mCs_own rfl ?_ rfl ?_ | refine mCs_pt rfl rfl rfl ?_
    all_goals (simp at c7; simp [framePack, c7, bytesRows])
  · skip
    have hok : frameOk f = true := by simpa using c7
    obtain ⟨k1, k2, k3, k4, k5, k6, k7, k8⟩ := frameOk_spec hok
    have hlen := packBody_len hok
    have hsum := fsum_lt (packBody f) (packBody f).length
    refine SW.skip ?_
    refine SW.seq ?_
    refine SW.regT tabOk [1, 3] ?_
    refine And.intro trivial (And.intro (by first | trivial | rfl) (And.intro (by first | trivial | exact Nat.le_of_ble_eq_true rfl | exact ⟨rfl, Nat.le_of_ble_eq_true rfl⟩ | omega | ((repeat' apply And.intro) <;> first | trivial | rfl | exact Nat.le_of_ble_eq_true rfl | omega) | (simp; done) | (simp; omega)) (And.intro (by first | trivial | rfl) (And.intro (by first | trivial | rfl) (And.intro (by first | trivial | exact Nat.le_of_ble_eq_true rfl | exact ⟨rfl, Nat.le_of_ble_eq_true rfl⟩ | omega | ((repeat' apply And.intro) <;> first | trivial | rfl | exact Nat.le_of_ble_eq_true rfl | omega) | (simp; done) | (simp; omega)) (And.intro (by first | trivial | rfl) (And.intro (by first | trivial | rfl) (And.intro (by first | trivial | exact Nat.le_of_ble_eq_true rfl | exact ⟨rfl, Nat.le_of_ble_eq_true rfl⟩ | omega | ((repeat' apply And.intro) <;> first | trivial | rfl | exact Nat.le_of_ble_eq_true rfl | omega) | (simp; done) | (simp; omega)) (And.intro (by first | trivial | rfl) (And.intro (by first | trivial | rfl) (And.intro (by first | trivial | exact Nat.le_of_ble_eq_true rfl | exact ⟨rfl, Nat.le_of_ble_eq_true rfl⟩ | omega | ((repeat' apply And.intro) <;> first | trivial | rfl | exact Nat.le_of_ble_eq_true rfl | omega) | (simp; done) | (simp; omega)) (And.intro (by first | trivial | rfl) (And.intro (by first | trivial | rfl) (And.intro (by first | trivial | exact Nat.le_of_ble_eq_true rfl | exact ⟨rfl, Nat.le_of_ble_eq_true rfl⟩ | omega | ((repeat' apply And.intro) <;> first | trivial | rfl | exact Nat.le_of_ble_eq_true rfl | omega) | (simp; done) | (simp; omega)) (And.intro (by first | trivial | rfl) (And.intro (by first | trivial | rfl) (And.intro (by first | trivial | exact Nat.le_of_ble_eq_true rfl | exact ⟨rfl, Nat.le_of_ble_eq_true rfl⟩ | omega | ((repeat' apply And.intro) <;> first | trivial | rfl | exact Nat.le_of_ble_eq_true rfl | omega) | (simp; done) | (simp; omega)) (And.intro (by first | trivial | rfl) (And.intro (by first | trivial | exact Nat.le_of_ble_eq_true rfl | exact ⟨rfl, Nat.le_of_ble_eq_true rfl⟩ | omega | ((repeat' apply And.intro) <;> first | trivial | rfl | exact Nat.le_of_ble_eq_true rfl | omega) | (simp; done) | (simp; omega)) (And.intro (by first | trivial | exact Nat.le_of_ble_eq_true rfl | exact ⟨rfl, Nat.le_of_ble_eq_true rfl⟩ | omega | ((repeat' apply And.intro) <;> first | trivial | rfl | exact Nat.le_of_ble_eq_true rfl | omega) | (simp; done) | (simp; omega)) (And.intro trivial ?_)))))))))))))))))))))
    refine SW.seq ?_
    refine SW.wk (J := fun s => s = [(.t 1, .v (.e (.c (.pt 1 0)))), (.t 3, .v (.e (.c (.own 4 (packSix f).length)))), (.o 1, .box 24 [.d (.i f.kind), .d (.i f.src), .d (.i f.dst), .d (.i f.frm), .d (.i f.num), .d (.i f.to), .d (.i f.til), .d (.i f.size), .d (.i f.mix), .d (.s f.data)]), (.o 4, .row 5 1 (bytesRows (packSix f)))]) ?_ ?_
    · skip
      refine wk [(.t 1, .v (.e (.c (.pt 1 0)))), (.t 3, .v (.e (.c (.own 4 (packSix f).length)))), (.o 1, .box 24 [.d (.i f.kind), .d (.i f.src), .d (.i f.dst), .d (.i f.frm), .d (.i f.num), .d (.i f.to), .d (.i f.til), .d (.i f.size), .d (.i f.mix), .d (.s f.data)]), (.o 4, .row 5 1 (bytesRows (packSix f)))] [] [] (rfl) ?_ rfl rfl
      repeat' first | exact trivial | refine mL_nil rfl ?_ | refine mL_d rfl ?_ ?_ | refine mL_own rfl rfl ?_ rfl ?_ | refine mL_row rfl ?_ ?_ | refine mL_pt rfl rfl rfl rfl ?_ | refine mL_box rfl ?_ ?_ | refine mL_agg rfl ?_ ?_ | exact mCs_nil0 | refine mCs_d ?_ ?_ | refine mCs_nil ?_ | refine mCs_own rfl ?_ rfl ?_ | refine mCs_pt rfl rfl rfl ?_
      all_goals first | with_reducible rfl | (first | exact packSix_rows hok | rfl)
    rintro s rfl
    refine SW.regT tabOk [1, 3] ?_
    refine And.intro trivial (And.intro (by first | trivial | rfl) (And.intro (by first | trivial | exact Nat.le_of_ble_eq_true rfl | exact ⟨rfl, Nat.le_of_ble_eq_true rfl⟩ | omega | ((repeat' apply And.intro) <;> first | trivial | rfl | exact Nat.le_of_ble_eq_true rfl | omega) | (simp; done) | (simp; omega)) ?_))
    refine ex_call (robj := [(4, _)]) (rl := [(0, 4)]) (bor := []) (s_spec_l21Two (packSix f) f.til (by simp [packSix]) (by omega)) rfl rfl rfl rfl ⟨mL_own rfl rfl rfl rfl (mL_d rfl rfl (mL_row rfl rfl trivial)), rfl⟩ rfl (.inl rfl) (fun p hp => by simp at hp; subst hp; rfl) (fun _ hj => nomatch hj) ?_
    refine And.intro trivial ?_
    refine SW.seq ?_
    refine SW.seq ?_
    refine SW.wk (J := fun s => s = [(.t 1, .v (.e (.c (.pt 1 0)))), (.t 3, .v (.e (.c (.own 4 (packHead f).length)))), (.o 1, .box 24 [.d (.i f.kind), .d (.i f.src), .d (.i f.dst), .d (.i f.frm), .d (.i f.num), .d (.i f.to), .d (.i f.til), .d (.i f.size), .d (.i f.mix), .d (.s f.data)]), (.o 4, .row 5 1 (bytesRows (packHead f)))]) ?_ ?_
    · skip
      refine wk [(.t 1, .v (.e (.c (.pt 1 0)))), (.t 3, .v (.e (.c (.own 4 (packHead f).length)))), (.o 1, .box 24 [.d (.i f.kind), .d (.i f.src), .d (.i f.dst), .d (.i f.frm), .d (.i f.num), .d (.i f.to), .d (.i f.til), .d (.i f.size), .d (.i f.mix), .d (.s f.data)]), (.o 4, .row 5 1 (bytesRows (packHead f)))] [] [] (rfl) ?_ rfl rfl
      repeat' first | exact trivial | refine mL_nil rfl ?_ | refine mL_d rfl ?_ ?_ | refine mL_own rfl rfl ?_ rfl ?_ | refine mL_row rfl ?_ ?_ | refine mL_pt rfl rfl rfl rfl ?_ | refine mL_box rfl ?_ ?_ | refine mL_agg rfl ?_ ?_ | exact mCs_nil0 | refine mCs_d ?_ ?_ | refine mCs_nil ?_ | refine mCs_own rfl ?_ rfl ?_ | refine mCs_pt rfl rfl rfl ?_
      all_goals first | with_reducible rfl | (rfl)
    rintro s rfl
    refine SW.regT tabOk [1, 3, 36] ?_
    refine And.intro (by first | trivial | rfl) (And.intro (by first | trivial | exact Nat.le_of_ble_eq_true rfl | exact ⟨rfl, Nat.le_of_ble_eq_true rfl⟩ | omega | ((repeat' apply And.intro) <;> first | trivial | rfl | exact Nat.le_of_ble_eq_true rfl | omega) | (simp; done) | (simp; omega)) (And.intro trivial ?_))
    refine SW.cond rfl (fun c36 => ?_) (fun c36 => ?_)
    · skip
      have hk : f.kind = 1 := by simpa using c36
      obtain ⟨m1, m2, m3⟩ := k8 hk
      refine SW.seq ?_
      refine SW.regT tabOk [1, 3] ?_
      refine And.intro trivial (And.intro (by first | trivial | rfl) (And.intro (by first | trivial | exact Nat.le_of_ble_eq_true rfl | exact ⟨rfl, Nat.le_of_ble_eq_true rfl⟩ | omega | ((repeat' apply And.intro) <;> first | trivial | rfl | exact Nat.le_of_ble_eq_true rfl | omega) | (simp; done) | (simp; omega)) (And.intro (by first | trivial | rfl) (And.intro (by first | trivial | exact Nat.le_of_ble_eq_true rfl | exact ⟨rfl, Nat.le_of_ble_eq_true rfl⟩ | omega | ((repeat' apply And.intro) <;> first | trivial | rfl | exact Nat.le_of_ble_eq_true rfl | omega) | (simp; done) | (simp; omega)) (And.intro (by refine ⟨rfl, bytesRows_length _, by simp, ?_⟩; show (_ + 1) * 1 ≤ _; simp [packHead, two]) (And.intro trivial ?_))))))
      refine SW.seq ?_
      refine SW.wk (J := fun s => s = [(.t 1, .v (.e (.c (.pt 1 0)))), (.t 3, .v (.e (.c (.own 4 (packHead f ++ [b8 f.size]).length)))), (.o 1, .box 24 [.d (.i f.kind), .d (.i f.src), .d (.i f.dst), .d (.i f.frm), .d (.i f.num), .d (.i f.to), .d (.i f.til), .d (.i f.size), .d (.i f.mix), .d (.s f.data)]), (.o 4, .row 5 1 (bytesRows (packHead f ++ [b8 f.size])))]) ?_ ?_
      · skip
        refine wk [(.t 1, .v (.e (.c (.pt 1 0)))), (.t 3, .v (.e (.c (.own 4 (packHead f ++ [b8 f.size]).length)))), (.o 1, .box 24 [.d (.i f.kind), .d (.i f.src), .d (.i f.dst), .d (.i f.frm), .d (.i f.num), .d (.i f.to), .d (.i f.til), .d (.i f.size), .d (.i f.mix), .d (.s f.data)]), (.o 4, .row 5 1 (bytesRows (packHead f ++ [b8 f.size])))] [] [] (rfl) ?_ rfl rfl
        repeat' first | exact trivial | refine mL_nil rfl ?_ | refine mL_d rfl ?_ ?_ | refine mL_own rfl rfl ?_ rfl ?_ | refine mL_row rfl ?_ ?_ | refine mL_pt rfl rfl rfl rfl ?_ | refine mL_box rfl ?_ ?_ | refine mL_agg rfl ?_ ?_ | exact mCs_nil0 | refine mCs_d ?_ ?_ | refine mCs_nil ?_ | refine mCs_own rfl ?_ rfl ?_ | refine mCs_pt rfl rfl rfl ?_
        all_goals first | with_reducible rfl | (first | rfl | (simp [bytesRows_length]; done) | (rw [← bytesRows_append, b8_row (by omega)]; rfl))
      rintro s rfl
      refine SW.regT tabOk [1, 3] ?_
      refine And.intro trivial (And.intro (by first | trivial | rfl) (And.intro (by first | trivial | exact Nat.le_of_ble_eq_true rfl | exact ⟨rfl, Nat.le_of_ble_eq_true rfl⟩ | omega | ((repeat' apply And.intro) <;> first | trivial | rfl | exact Nat.le_of_ble_eq_true rfl | omega) | (simp; done) | (simp; omega)) ?_))
      refine ex_call (robj := [(4, _)]) (rl := [(0, 4)]) (bor := []) (s_spec_l21Two (packHead f ++ [b8 f.size]) f.mix (by simp [packHead, two]) (by omega)) rfl rfl rfl rfl ⟨mL_own rfl rfl rfl rfl (mL_d rfl rfl (mL_row rfl rfl trivial)), rfl⟩ rfl (.inl rfl) (fun p hp => by simp at hp; subst hp; rfl) (fun _ hj => nomatch hj) ?_
      refine And.intro trivial ?_
      refine SW.wk (J := fun s => s = [(.t 1, .v (.e (.c (.pt 1 0)))), (.t 3, .v (.e (.c (.own 4 (packHead f ++ [b8 f.size] ++ two f.mix).length)))), (.o 1, .box 24 [.d (.i f.kind), .d (.i f.src), .d (.i f.dst), .d (.i f.frm), .d (.i f.num), .d (.i f.to), .d (.i f.til), .d (.i f.size), .d (.i f.mix), .d (.s f.data)]), (.o 4, .row 5 1 (bytesRows (packHead f ++ [b8 f.size] ++ two f.mix)))]) ?_ ?_
      · skip
        refine wk [(.t 1, .v (.e (.c (.pt 1 0)))), (.t 3, .v (.e (.c (.own 4 (packHead f ++ [b8 f.size] ++ two f.mix).length)))), (.o 1, .box 24 [.d (.i f.kind), .d (.i f.src), .d (.i f.dst), .d (.i f.frm), .d (.i f.num), .d (.i f.to), .d (.i f.til), .d (.i f.size), .d (.i f.mix), .d (.s f.data)]), (.o 4, .row 5 1 (bytesRows (packHead f ++ [b8 f.size] ++ two f.mix)))] [] [] (rfl) ?_ rfl rfl
        repeat' first | exact trivial | refine mL_nil rfl ?_ | refine mL_d rfl ?_ ?_ | refine mL_own rfl rfl ?_ rfl ?_ | refine mL_row rfl ?_ ?_ | refine mL_pt rfl rfl rfl rfl ?_ | refine mL_box rfl ?_ ?_ | refine mL_agg rfl ?_ ?_ | exact mCs_nil0 | refine mCs_d ?_ ?_ | refine mCs_nil ?_ | refine mCs_own rfl ?_ rfl ?_ | refine mCs_pt rfl rfl rfl ?_
        all_goals first | with_reducible rfl | (rfl)
      rintro s rfl
      refine SW.regT tabOk [3] ?_
      refine And.intro trivial (And.intro (by first | trivial | rfl) (And.intro (by first | trivial | exact Nat.le_of_ble_eq_true rfl | exact ⟨rfl, Nat.le_of_ble_eq_true rfl⟩ | omega | ((repeat' apply And.intro) <;> first | trivial | rfl | exact Nat.le_of_ble_eq_true rfl | omega) | (simp; done) | (simp; omega)) (And.intro (by rw [m3]; decide) (And.intro (by refine ⟨bytesRows_length _, bytesRows_length _, bytesRows_len1 _, ?_⟩; show (_ + _) * 1 ≤ _; simp [bytesRows_length, m3, packHead, two]) (And.intro trivial ?_)))))
      refine SW.seq ?_
      refine SW.wk (J := fun s => s = [(.t 3, .v (.e (.c (.own 4 (packBody f).length)))), (.o 4, .row 5 1 (bytesRows (packBody f)))]) ?_ ?_
      · skip
        refine wk [(.t 3, .v (.e (.c (.own 4 (packBody f).length)))), (.o 4, .row 5 1 (bytesRows (packBody f)))] [] [] (rfl) ?_ rfl rfl
        repeat' first | exact trivial | refine mL_nil rfl ?_ | refine mL_d rfl ?_ ?_ | refine mL_own rfl rfl ?_ rfl ?_ | refine mL_row rfl ?_ ?_ | refine mL_pt rfl rfl rfl rfl ?_ | refine mL_box rfl ?_ ?_ | refine mL_agg rfl ?_ ?_ | exact mCs_nil0 | refine mCs_d ?_ ?_ | refine mCs_nil ?_ | refine mCs_own rfl ?_ rfl ?_ | refine mCs_pt rfl rfl rfl ?_
        all_goals first | with_reducible rfl | (first | (rw [packBody_plain hk]; done) | (rw [bytesRows_append]; simp [packBody, hk]; done) | (simp [packBody, hk, bytesRows_length]; omega))
      rintro s rfl
      refine SW.regT tabOk [2] ?_
      refine And.intro trivial (And.intro trivial ?_)
      refine ex_call (robj := [(4, .row 5 1 (bytesRows (packBody f)))]) (rl := []) (bor := [4]) (s_spec_FrameSum (packBody f) (by omega)) rfl rfl rfl rfl ⟨mL_froze rfl rfl rfl ?_ rfl trivial, rfl⟩ rfl (.inr (scalarSt_i _)) (fun p hp => by simp at hp; subst hp; rfl) (fun _ hj => nomatch hj) ?_
      · exact bytesRows_length _
      refine ex_call (robj := [(4, _)]) (rl := [(0, 4)]) (bor := []) (s_spec_l21Two (packBody f) (fsum (packBody f) (packBody f).length) (by omega) (by omega)) rfl rfl rfl rfl ⟨mL_own rfl rfl rfl rfl (mL_d rfl rfl (mL_row rfl rfl trivial)), rfl⟩ rfl (.inl rfl) (fun p hp => by simp at hp; subst hp; rfl) (fun _ hj => nomatch hj) ?_
      refine And.intro trivial ?_
      refine SW.ret ?_
      refine retOk _ [(0, 4)] [] rfl ?_ rfl rfl
      repeat' first | exact trivial | refine mL_nil rfl ?_ | refine mL_d rfl ?_ ?_ | refine mL_own rfl rfl ?_ rfl ?_ | refine mL_row rfl ?_ ?_ | refine mL_pt rfl rfl rfl rfl ?_ | refine mL_box rfl ?_ ?_ | refine mL_agg rfl ?_ ?_ | exact mCs_nil0 | refine mCs_d ?_ ?_ | refine mCs_nil ?_ | refine mCs_own rfl ?_ rfl ?_ | refine mCs_pt rfl rfl rfl ?_
      all_goals first | (rw [framePack_eq, if_pos hok]; done) | (rw [framePack_eq, if_pos hok])
    · skip
      have hk : ¬ f.kind = 1 := by simpa using c36
      refine SW.skip ?_
      refine SW.seq ?_
      refine SW.wk (J := fun s => s = [(.t 3, .v (.e (.c (.own 4 (packBody f).length)))), (.o 4, .row 5 1 (bytesRows (packBody f)))]) ?_ ?_
      · skip
        refine wk [(.t 3, .v (.e (.c (.own 4 (packBody f).length)))), (.o 4, .row 5 1 (bytesRows (packBody f)))] [] [] (rfl) ?_ rfl rfl
        repeat' first | exact trivial | refine mL_nil rfl ?_ | refine mL_d rfl ?_ ?_ | refine mL_own rfl rfl ?_ rfl ?_ | refine mL_row rfl ?_ ?_ | refine mL_pt rfl rfl rfl rfl ?_ | refine mL_box rfl ?_ ?_ | refine mL_agg rfl ?_ ?_ | exact mCs_nil0 | refine mCs_d ?_ ?_ | refine mCs_nil ?_ | refine mCs_own rfl ?_ rfl ?_ | refine mCs_pt rfl rfl rfl ?_
        all_goals first | with_reducible rfl | (first | (rw [packBody_plain hk]; done) | (rw [bytesRows_append]; simp [packBody, hk]; done) | (simp [packBody, hk, bytesRows_length]; omega))
      rintro s rfl
      refine SW.regT tabOk [2] ?_
      refine And.intro trivial (And.intro trivial ?_)
      refine ex_call (robj := [(4, .row 5 1 (bytesRows (packBody f)))]) (rl := []) (bor := [4]) (s_spec_FrameSum (packBody f) (by omega)) rfl rfl rfl rfl ⟨mL_froze rfl rfl rfl ?_ rfl trivial, rfl⟩ rfl (.inr (scalarSt_i _)) (fun p hp => by simp at hp; subst hp; rfl) (fun _ hj => nomatch hj) ?_
      · exact bytesRows_length _
      refine ex_call (robj := [(4, _)]) (rl := [(0, 4)]) (bor := []) (s_spec_l21Two (packBody f) (fsum (packBody f) (packBody f).length) (by omega) (by omega)) rfl rfl rfl rfl ⟨mL_own rfl rfl rfl rfl (mL_d rfl rfl (mL_row rfl rfl trivial)), rfl⟩ rfl (.inl rfl) (fun p hp => by simp at hp; subst hp; rfl) (fun _ hj => nomatch hj) ?_
      refine And.intro trivial ?_
      refine SW.ret ?_
      refine retOk _ [(0, 4)] [] rfl ?_ rfl rfl
      repeat' first | exact trivial | refine mL_nil rfl ?_ | refine mL_d rfl ?_ ?_ | refine mL_own rfl rfl ?_ rfl ?_ | refine mL_row rfl ?_ ?_ | refine mL_pt rfl rfl rfl rfl ?_ | refine mL_box rfl ?_ ?_ | refine mL_agg rfl ?_ ?_ | exact mCs_nil0 | refine mCs_d ?_ ?_ | refine mCs_nil ?_ | refine mCs_own rfl ?_ rfl ?_ | refine mCs_pt rfl rfl rfl ?_
      all_goals first | (rw [framePack_eq, if_pos hok]; done) | (rw [framePack_eq, if_pos hok])

end Go.Proofs.Ytlkfibmjdigmiaa
