import Derived.Test.YtlkfibmjdigmiaaTab
import Derived.Test.YtlkfibmjdigmiaaWkMixB
import Derived.Test.YtlkfibmjdigmiaaAbDk
import Derived.Test.YtlkfibmjdigmiaaAbBr
namespace Go.Proofs.Ytlkfibmjdigmiaa
open Go Go.Ab Go.RowKit
set_option linter.unusedVariables false
set_option linter.unusedSimpArgs false

theorem s_spec_l2Xor (a c : List UInt8) (ha : a.length = 4) (hc : c.length = 4) : Ab.SpecE Try.prog 38 2 [(.t 0, .v (Dv (.s a))), (.t 1, .v (Dv (.s c)))] (fun s => ∃ x : List UInt8, x.length = 4 ∧ s = [(.t 0, .v (Dv (.s x)))]) := by
  refine specE_of_body tabOk Try.func38 rfl (by kernel_rfl) (by decide) (by kernel_rfl) rfl ?_
  refine SW.seq ?_
  refine SW.regT tabOk [0, 1] ?_
  refine And.intro trivial ?_
  refine SW.seq ?_
  refine SW.regT tabOk [0, 1, 5] ?_
  refine And.intro (by first | trivial | exact Nat.le_of_ble_eq_true rfl | exact ⟨rfl, Nat.le_of_ble_eq_true rfl⟩ | omega | ((repeat' apply And.intro) <;> first | trivial | rfl | exact Nat.le_of_ble_eq_true rfl | omega) | (simp; done) | (simp; omega)) (And.intro trivial ?_)
  refine SW.seq ?_
  refine SW.seq ?_
  refine SW.regT tabOk [0, 1, 5, 6] ?_
  refine And.intro trivial ?_
  refine SW.block ?_
  -- live at the head: [0, 1, 5, 6]
  refine SW.loopW (n := 4) (fun m s => ∃ (i : Int) (o : List UInt8), m = (4 - i).toNat ∧ (0 ≤ i ∧ i ≤ 4 ∧ (o.length : Int) = i) ∧ s = [(.t 0, .v (Dv (.s a))), (.t 1, .v (Dv (.s c))), (.t 5, .v (.e (.c (.own 7 (o).length)))), (.t 6, .v (I (i))), (.o 7, .row 5 1 (bytesRows (o)))]) ?_ ?_
  · skip
    refine wk [(.t 0, .v (Dv (.s a))), (.t 1, .v (Dv (.s c))), (.t 5, .v (.e (.c (.own 7 ([]).length)))), (.t 6, .v (I (0))), (.o 7, .row 5 1 (bytesRows ([])))] [] [] (⟨0, [], by omega, by simp, rfl⟩) ?_ rfl rfl
    repeat' first | exact trivial | refine mL_nil rfl ?_ | refine mL_d rfl ?_ ?_ | refine mL_own rfl rfl ?_ rfl ?_ | refine mL_row rfl ?_ ?_ | refine mL_pt rfl rfl rfl rfl ?_ | refine mL_box rfl ?_ ?_ | refine mL_agg rfl ?_ ?_ | exact mCs_nil0 | refine mCs_d ?_ ?_ | refine mCs_nil ?_ | refine mCs_own rfl ?_ rfl ?_ | refine mCs_pt rfl rfl rfl ?_
    all_goals first | with_reducible rfl | (first | rfl | (simp; done) | omega)
  rintro n s ⟨i, o, rfl, hi, rfl⟩
  refine SW.seq ?_
  refine SW.seq ?_
  refine SW.regT tabOk [0, 1, 5, 6, 9] ?_
  refine And.intro trivial (And.intro trivial ?_)
  refine SW.cond rfl (fun c9 => ?_) (fun c9 => ?_)
  · skip
    have hi2 : i < 4 := by simpa using c9
    refine SW.skip ?_
    refine SW.seq ?_
    refine SW.block ?_
    refine SW.regD tabOk mo [0, 1, 5, 6] ?_
    refine And.intro trivial (And.intro trivial (And.intro trivial (And.intro (by omega) (And.intro trivial (And.intro trivial (And.intro (by omega) (And.intro trivial (And.intro (by first | trivial | exact Nat.le_of_ble_eq_true rfl | exact ⟨rfl, Nat.le_of_ble_eq_true rfl⟩ | omega | ((repeat' apply And.intro) <;> first | trivial | rfl | exact Nat.le_of_ble_eq_true rfl | omega) | (simp; done) | (simp; omega)) (And.intro (by refine ⟨rfl, bytesRows_length _, by simp, ?_⟩; show (_ + 1) * 1 ≤ _; omega) (And.intro trivial (And.intro (by kernel_rfl) ?_)))))))))))
    refine SW.regT tabOk [0, 1, 5, 6] ?_
    refine And.intro trivial (And.intro trivial (And.intro trivial ?_))
    refine wk [(.t 0, .v (Dv (.s a))), (.t 1, .v (Dv (.s c))), (.t 5, .v (.e (.c (.own 7 (o ++ [u8 (xor8 ((a.getD i.toNat 0).toNat : Int) ((c.getD i.toNat 0).toNat : Int))]).length)))), (.t 6, .v (I (i + 1))), (.o 7, .row 5 1 (bytesRows (o ++ [u8 (xor8 ((a.getD i.toNat 0).toNat : Int) ((c.getD i.toNat 0).toNat : Int))])))] [] [] (⟨(4 - (i + 1)).toNat, by omega, i + 1, _, rfl, ⟨by omega, by omega, by rw [List.length_append]; simp; omega⟩, rfl⟩) ?_ rfl rfl
    repeat' first | exact trivial | refine mL_nil rfl ?_ | refine mL_d rfl ?_ ?_ | refine mL_own rfl rfl ?_ rfl ?_ | refine mL_row rfl ?_ ?_ | refine mL_pt rfl rfl rfl rfl ?_ | refine mL_box rfl ?_ ?_ | refine mL_agg rfl ?_ ?_ | exact mCs_nil0 | refine mCs_d ?_ ?_ | refine mCs_nil ?_ | refine mCs_own rfl ?_ rfl ?_ | refine mCs_pt rfl rfl rfl ?_
    all_goals first | with_reducible rfl | (first | (simp [bytesRows]; done) | with_reducible rfl | exact congrArg D.i (wrap64_of (by omega)) | omega | (simp [bytesRows_length, strRows_length]; done) | exact xor8_push _ _ _ | exact rows_push _ _)
  · skip
    have hi2 : ¬ i < 4 := by simpa using c9
    refine SW.exit ?_
    refine SW.seq ?_
    refine SW.regT tabOk [4] ?_
    refine And.intro trivial (And.intro (by exact ⟨bytesRows_length _, (congrArg bytesRows (rowsBytes_bytesRows _)).symm⟩) (And.intro trivial ?_))
    refine SW.ret ?_
    refine retQE _ ⟨o, by omega, rfl⟩ (retOk1 rfl (congrArg D.s (rowsBytes_bytesRows o)))

theorem s_spec_MixCut (l : List UInt8) (hl : l.length ≤ 140737488355328) : Ab.SpecE Try.prog 35 1 [(.t 0, .v (Dv (.s l)))] (fun s => ∃ o : List (List UInt8), (o.length ≤ 6 ∧ ∀ x ∈ o, x.length = 4) ∧ s = [(.t 0, .v (.e (.c (.own 0 o.length)))), (.o 0, .row 9 1 (strRows o))]) := by
  refine specE_of_body tabOk Try.func35 rfl (by kernel_rfl) (by decide) (by kernel_rfl) rfl ?_
  refine SW.seq ?_
  refine SW.regT tabOk [0, 12, 13, 14] ?_
  refine And.intro trivial ?_
  refine SW.seq ?_
  refine SW.regT tabOk [0, 3, 12, 13, 14] ?_
  refine And.intro (by first | trivial | exact Nat.le_of_ble_eq_true rfl | exact ⟨rfl, Nat.le_of_ble_eq_true rfl⟩ | omega | ((repeat' apply And.intro) <;> first | trivial | rfl | exact Nat.le_of_ble_eq_true rfl | omega) | (simp; done) | (simp; omega)) (And.intro trivial ?_)
  refine SW.seq ?_
  refine SW.seq ?_
  refine SW.regT tabOk [0, 3, 15] ?_
  refine And.intro trivial (And.intro (by first | trivial | exact Nat.le_of_ble_eq_true rfl | exact ⟨rfl, Nat.le_of_ble_eq_true rfl⟩ | omega | ((repeat' apply And.intro) <;> first | trivial | rfl | exact Nat.le_of_ble_eq_true rfl | omega) | (simp; done) | (simp; omega)) (And.intro trivial (And.intro trivial (And.intro (fun h => trivial) (And.intro (by intro h; (repeat' apply And.intro) <;> first | exact h | trivial) (And.intro (fun h => (by first | trivial | exact Nat.le_of_ble_eq_true rfl | exact ⟨rfl, Nat.le_of_ble_eq_true rfl⟩ | omega | ((repeat' apply And.intro) <;> first | trivial | rfl | exact Nat.le_of_ble_eq_true rfl | omega) | (simp; done) | (simp; omega))) (And.intro (by intro h; (repeat' apply And.intro) <;> first | exact h | trivial) (And.intro (fun h => trivial) (And.intro (by intro h; (repeat' apply And.intro) <;> first | exact h | trivial) (And.intro (by constructor <;> intro h <;> first | trivial | exact h | (simp [gb, condOf]; done) | (simpa [gb, condOf] using h)) ?_))))))))))
  refine SW.cond rfl (fun c15 => ?_) (fun c15 => ?_)
  · skip
    refine SW.seq ?_
    refine SW.regT tabOk [2] ?_
    refine And.intro trivial (And.intro trivial ?_)
    refine SW.ret ?_
    refine retQE _ ⟨[], ⟨by simp, by simp⟩, rfl⟩ (retOk _ [(0, 7)] [] rfl ?_ rfl rfl)
    repeat' first | exact trivial | refine mL_nil rfl ?_ | refine mL_d rfl ?_ ?_ | refine mL_own rfl rfl ?_ rfl ?_ | refine mL_row rfl ?_ ?_ | refine mL_pt rfl rfl rfl rfl ?_ | refine mL_box rfl ?_ ?_ | refine mL_agg rfl ?_ ?_ | exact mCs_nil0 | refine mCs_d ?_ ?_ | refine mCs_nil ?_ | refine mCs_own rfl ?_ rfl ?_ | refine mCs_pt rfl rfl rfl ?_
    all_goals rfl
  · skip
    have hl2 : 1 ≤ l.length ∧ l.length ≤ 24 := by
      have h1 : ¬ (l.length : Int) < 1 ∧ ¬ (l.length : Int) > 24 := by simpa only [Bool.or_eq_false_iff, decide_eq_false_iff_not] using c15
      omega
    refine SW.skip ?_
    refine SW.seq ?_
    refine SW.seq ?_
    refine SW.regT tabOk [0, 3, 4] ?_
    refine And.intro trivial ?_
    refine SW.block ?_
    -- live at the head: [0, 3, 4]
    refine SW.loopW (n := 6) (fun m s => ∃ (i : Int) (o : List (List UInt8)), m = (6 - i).toNat ∧ (0 ≤ i ∧ i ≤ 6 ∧ (o.length : Int) = i ∧ ∀ x ∈ o, x.length = 4) ∧ s = [(.t 0, .v (Dv (.s l))), (.t 3, .v (.e (.c (.own 7 (o).length)))), (.t 4, .v (I (i))), (.o 7, .row 9 1 (strRows (o)))]) ?_ ?_
    · skip
      refine wk [(.t 0, .v (Dv (.s l))), (.t 3, .v (.e (.c (.own 7 ([]).length)))), (.t 4, .v (I (0))), (.o 7, .row 9 1 (strRows ([])))] [] [] (⟨0, [], by omega, by simp, rfl⟩) ?_ rfl rfl
      repeat' first | exact trivial | refine mL_nil rfl ?_ | refine mL_d rfl ?_ ?_ | refine mL_own rfl rfl ?_ rfl ?_ | refine mL_row rfl ?_ ?_ | refine mL_pt rfl rfl rfl rfl ?_ | refine mL_box rfl ?_ ?_ | refine mL_agg rfl ?_ ?_ | exact mCs_nil0 | refine mCs_d ?_ ?_ | refine mCs_nil ?_ | refine mCs_own rfl ?_ rfl ?_ | refine mCs_pt rfl rfl rfl ?_
      all_goals first | with_reducible rfl | (first | rfl | (simp; done) | omega)
    rintro n s ⟨i, o, rfl, hi, rfl⟩
    refine SW.seq ?_
    refine SW.seq ?_
    refine SW.regT tabOk [0, 3, 4, 21] ?_
    refine And.intro trivial (And.intro trivial (And.intro (by first | trivial | exact Nat.le_of_ble_eq_true rfl | exact ⟨rfl, Nat.le_of_ble_eq_true rfl⟩ | omega | ((repeat' apply And.intro) <;> first | trivial | rfl | exact Nat.le_of_ble_eq_true rfl | omega) | (simp; done) | (simp; omega)) ?_))
    refine ex_pure (s_spec_l2Blocks _ (by omega)) rfl rfl rfl rfl rfl rfl rfl rfl ?_
    refine And.intro trivial ?_
    refine SW.cond rfl (fun c21 => ?_) (fun c21 => ?_)
    · skip
      have hi2 : i < ((l.length : Int) + 3) / 4 := by simpa using c21
      refine SW.skip ?_
      refine SW.seq ?_
      refine SW.block ?_
      refine SW.seq ?_
      refine SW.regT tabOk [0, 3, 4, 5] ?_
      refine And.intro (by first | trivial | exact Nat.le_of_ble_eq_true rfl | exact ⟨rfl, Nat.le_of_ble_eq_true rfl⟩ | omega | ((repeat' apply And.intro) <;> first | trivial | rfl | exact Nat.le_of_ble_eq_true rfl | omega) | (simp; done) | (simp; omega)) (And.intro trivial ?_)
      refine SW.seq ?_
      refine SW.seq ?_
      refine SW.regT tabOk [0, 3, 4, 5, 6] ?_
      refine And.intro trivial (And.intro trivial (And.intro trivial ?_))
      refine SW.block ?_
      -- live at the head: [0, 3, 4, 5, 6]
      refine SW.loopW (n := 4) (fun m s => ∃ (k : Int) (q : List UInt8), m = (i * 4 + 4 - k).toNat ∧ (i * 4 ≤ k ∧ k ≤ i * 4 + 4 ∧ (q.length : Int) = k - i * 4) ∧ s = [(.t 0, .v (Dv (.s l))), (.t 3, .v (.e (.c (.own 7 (o).length)))), (.t 4, .v (I i)), (.t 5, .v (.e (.c (.own 24 (q).length)))), (.t 6, .v (I (k))), (.o 7, .row 9 1 (strRows (o))), (.o 24, .row 5 1 (bytesRows (q)))]) ?_ ?_
      · skip
        refine wk [(.t 0, .v (Dv (.s l))), (.t 3, .v (.e (.c (.own 7 (o).length)))), (.t 4, .v (I i)), (.t 5, .v (.e (.c (.own 24 ([]).length)))), (.t 6, .v (I (i * 4))), (.o 7, .row 9 1 (strRows (o))), (.o 24, .row 5 1 (bytesRows ([])))] [] [] (⟨i * 4, [], by omega, ⟨by omega, by omega, by simp⟩, rfl⟩) ?_ rfl rfl
        repeat' first | exact trivial | refine mL_nil rfl ?_ | refine mL_d rfl ?_ ?_ | refine mL_own rfl rfl ?_ rfl ?_ | refine mL_row rfl ?_ ?_ | refine mL_pt rfl rfl rfl rfl ?_ | refine mL_box rfl ?_ ?_ | refine mL_agg rfl ?_ ?_ | exact mCs_nil0 | refine mCs_d ?_ ?_ | refine mCs_nil ?_ | refine mCs_own rfl ?_ rfl ?_ | refine mCs_pt rfl rfl rfl ?_
        all_goals first | with_reducible rfl | (first | (simp [bytesRows]; done) | (simp [strRows]; done) | with_reducible rfl | exact congrArg D.i (wrap64_of (by omega)) | omega | (simp [bytesRows_length, strRows_length]; done) | exact rows_push _ _ | exact strRows_push _ _ | (refine congrArg D.i ?_; rw [wrap64_of (by omega)]; omega))
      rintro n s ⟨k, q, rfl, hk, rfl⟩
      refine SW.seq ?_
      refine SW.seq ?_
      refine SW.regT tabOk [0, 3, 4, 5, 6, 31] ?_
      refine And.intro trivial (And.intro trivial (And.intro trivial (And.intro trivial (And.intro trivial ?_))))
      refine SW.cond rfl (fun c31 => ?_) (fun c31 => ?_)
      · skip
        have hk2 : k < i * 4 + 4 := by
          have h := c31
          rw [wrap64_of (n := i + 1) (by omega), wrap64_of (by omega)] at h
          simp at h; omega
        refine SW.skip ?_
        refine SW.seq ?_
        refine SW.block ?_
        refine SW.seq ?_
        refine SW.regT tabOk [0, 3, 4, 5, 6, 37] ?_
        refine And.intro trivial (And.intro trivial (And.intro (by first | trivial | exact Nat.le_of_ble_eq_true rfl | exact ⟨rfl, Nat.le_of_ble_eq_true rfl⟩ | omega | ((repeat' apply And.intro) <;> first | trivial | rfl | exact Nat.le_of_ble_eq_true rfl | omega) | (simp; done) | (simp; omega)) (And.intro trivial ?_)))
        refine SW.cond rfl (fun c37 => ?_) (fun c37 => ?_)
        · skip
          have hk3 : k < l.length := by simpa using c37
          refine SW.regT tabOk [0, 3, 4, 5, 6] ?_
          refine And.intro trivial (And.intro trivial (And.intro trivial (And.intro (by omega) (And.intro (by first | trivial | exact Nat.le_of_ble_eq_true rfl | exact ⟨rfl, Nat.le_of_ble_eq_true rfl⟩ | omega | ((repeat' apply And.intro) <;> first | trivial | rfl | exact Nat.le_of_ble_eq_true rfl | omega) | (simp; done) | (simp; omega)) (And.intro (by refine ⟨rfl, bytesRows_length _, by simp, ?_⟩; show (_ + 1) * 1 ≤ _; omega) (And.intro trivial ?_))))))
          refine SW.regT tabOk [0, 3, 4, 5, 6] ?_
          refine And.intro trivial (And.intro trivial (And.intro trivial ?_))
          first
          | (refine wk [(.t 0, .v (Dv (.s l))), (.t 3, .v (.e (.c (.own 7 (o).length)))), (.t 4, .v (I i)), (.t 5, .v (.e (.c (.own 24 (q ++ [l.getD k.toNat 0]).length)))), (.t 6, .v (I (k + 1))), (.o 7, .row 9 1 (strRows (o))), (.o 24, .row 5 1 (bytesRows (q ++ [l.getD k.toNat 0])))] [] [] (⟨(i * 4 + 4 - (k + 1)).toNat, by omega, k + 1, _, rfl, ⟨by omega, by omega, by rw [List.length_append]; simp; omega⟩, rfl⟩) ?_ rfl rfl
             repeat' first | exact trivial | refine mL_nil rfl ?_ | refine mL_d rfl ?_ ?_ | refine mL_own rfl rfl ?_ rfl ?_ | refine mL_row rfl ?_ ?_ | refine mL_pt rfl rfl rfl rfl ?_ | refine mL_box rfl ?_ ?_ | refine mL_agg rfl ?_ ?_ | exact mCs_nil0 | refine mCs_d ?_ ?_ | refine mCs_nil ?_ | refine mCs_own rfl ?_ rfl ?_ | refine mCs_pt rfl rfl rfl ?_
             all_goals first | with_reducible rfl | (first | exact bytesRows_append q [l.getD k.toNat 0] | first | (simp [bytesRows]; done) | (simp [strRows]; done) | with_reducible rfl | exact congrArg D.i (wrap64_of (by omega)) | omega | (simp [bytesRows_length, strRows_length]; done) | exact rows_push _ _ | exact strRows_push _ _ | (refine congrArg D.i ?_; rw [wrap64_of (by omega)]; omega)); done)
          | (refine wk [(.t 0, .v (Dv (.s l))), (.t 3, .v (.e (.c (.own 7 (o).length)))), (.t 4, .v (I i)), (.t 5, .v (.e (.c (.own 24 (q ++ [0]).length)))), (.t 6, .v (I (k + 1))), (.o 7, .row 9 1 (strRows (o))), (.o 24, .row 5 1 (bytesRows (q ++ [0])))] [] [] (⟨(i * 4 + 4 - (k + 1)).toNat, by omega, k + 1, _, rfl, ⟨by omega, by omega, by rw [List.length_append]; simp; omega⟩, rfl⟩) ?_ rfl rfl
             repeat' first | exact trivial | refine mL_nil rfl ?_ | refine mL_d rfl ?_ ?_ | refine mL_own rfl rfl ?_ rfl ?_ | refine mL_row rfl ?_ ?_ | refine mL_pt rfl rfl rfl rfl ?_ | refine mL_box rfl ?_ ?_ | refine mL_agg rfl ?_ ?_ | exact mCs_nil0 | refine mCs_d ?_ ?_ | refine mCs_nil ?_ | refine mCs_own rfl ?_ rfl ?_ | refine mCs_pt rfl rfl rfl ?_
             all_goals first | with_reducible rfl | (first | exact bytesRows_append q [0] | first | (simp [bytesRows]; done) | (simp [strRows]; done) | with_reducible rfl | exact congrArg D.i (wrap64_of (by omega)) | omega | (simp [bytesRows_length, strRows_length]; done) | exact rows_push _ _ | exact strRows_push _ _ | (refine congrArg D.i ?_; rw [wrap64_of (by omega)]; omega)))
        · skip
          refine SW.regT tabOk [0, 3, 4, 5, 6] ?_
          refine And.intro trivial (And.intro (by first | trivial | exact Nat.le_of_ble_eq_true rfl | exact ⟨rfl, Nat.le_of_ble_eq_true rfl⟩ | omega | ((repeat' apply And.intro) <;> first | trivial | rfl | exact Nat.le_of_ble_eq_true rfl | omega) | (simp; done) | (simp; omega)) (And.intro (by refine ⟨rfl, bytesRows_length _, by simp, ?_⟩; show (_ + 1) * 1 ≤ _; omega) (And.intro trivial ?_)))
          refine SW.regT tabOk [0, 3, 4, 5, 6] ?_
          refine And.intro trivial (And.intro trivial (And.intro trivial ?_))
          first
          | (refine wk [(.t 0, .v (Dv (.s l))), (.t 3, .v (.e (.c (.own 7 (o).length)))), (.t 4, .v (I i)), (.t 5, .v (.e (.c (.own 24 (q ++ [l.getD k.toNat 0]).length)))), (.t 6, .v (I (k + 1))), (.o 7, .row 9 1 (strRows (o))), (.o 24, .row 5 1 (bytesRows (q ++ [l.getD k.toNat 0])))] [] [] (⟨(i * 4 + 4 - (k + 1)).toNat, by omega, k + 1, _, rfl, ⟨by omega, by omega, by rw [List.length_append]; simp; omega⟩, rfl⟩) ?_ rfl rfl
             repeat' first | exact trivial | refine mL_nil rfl ?_ | refine mL_d rfl ?_ ?_ | refine mL_own rfl rfl ?_ rfl ?_ | refine mL_row rfl ?_ ?_ | refine mL_pt rfl rfl rfl rfl ?_ | refine mL_box rfl ?_ ?_ | refine mL_agg rfl ?_ ?_ | exact mCs_nil0 | refine mCs_d ?_ ?_ | refine mCs_nil ?_ | refine mCs_own rfl ?_ rfl ?_ | refine mCs_pt rfl rfl rfl ?_
             all_goals first | with_reducible rfl | (first | exact bytesRows_append q [l.getD k.toNat 0] | first | (simp [bytesRows]; done) | (simp [strRows]; done) | with_reducible rfl | exact congrArg D.i (wrap64_of (by omega)) | omega | (simp [bytesRows_length, strRows_length]; done) | exact rows_push _ _ | exact strRows_push _ _ | (refine congrArg D.i ?_; rw [wrap64_of (by omega)]; omega)); done)
          | (refine wk [(.t 0, .v (Dv (.s l))), (.t 3, .v (.e (.c (.own 7 (o).length)))), (.t 4, .v (I i)), (.t 5, .v (.e (.c (.own 24 (q ++ [0]).length)))), (.t 6, .v (I (k + 1))), (.o 7, .row 9 1 (strRows (o))), (.o 24, .row 5 1 (bytesRows (q ++ [0])))] [] [] (⟨(i * 4 + 4 - (k + 1)).toNat, by omega, k + 1, _, rfl, ⟨by omega, by omega, by rw [List.length_append]; simp; omega⟩, rfl⟩) ?_ rfl rfl
             repeat' first | exact trivial | refine mL_nil rfl ?_ | refine mL_d rfl ?_ ?_ | refine mL_own rfl rfl ?_ rfl ?_ | refine mL_row rfl ?_ ?_ | refine mL_pt rfl rfl rfl rfl ?_ | refine mL_box rfl ?_ ?_ | refine mL_agg rfl ?_ ?_ | exact mCs_nil0 | refine mCs_d ?_ ?_ | refine mCs_nil ?_ | refine mCs_own rfl ?_ rfl ?_ | refine mCs_pt rfl rfl rfl ?_
             all_goals first | with_reducible rfl | (first | exact bytesRows_append q [0] | first | (simp [bytesRows]; done) | (simp [strRows]; done) | with_reducible rfl | exact congrArg D.i (wrap64_of (by omega)) | omega | (simp [bytesRows_length, strRows_length]; done) | exact rows_push _ _ | exact strRows_push _ _ | (refine congrArg D.i ?_; rw [wrap64_of (by omega)]; omega)))
      · skip
        have hk2 : ¬ k < i * 4 + 4 := by
          have h := c31
          rw [wrap64_of (n := i + 1) (by omega), wrap64_of (by omega)] at h
          simp at h; omega
        refine SW.exit ?_
        refine SW.regT tabOk [0, 3, 4] ?_
        refine And.intro trivial (And.intro trivial (And.intro (by exact ⟨bytesRows_length _, (congrArg bytesRows (rowsBytes_bytesRows _)).symm⟩) (And.intro (by first | trivial | exact Nat.le_of_ble_eq_true rfl | exact ⟨rfl, Nat.le_of_ble_eq_true rfl⟩ | omega | ((repeat' apply And.intro) <;> first | trivial | rfl | exact Nat.le_of_ble_eq_true rfl | omega) | (simp; done) | (simp; omega)) (And.intro (by refine ⟨rfl, strRows_length _, by simp, ?_⟩; show (_ + 1) * 16 ≤ _; omega) (And.intro trivial ?_)))))
        refine SW.regT tabOk [0, 3, 4] ?_
        refine And.intro trivial (And.intro trivial (And.intro trivial ?_))
        refine wk [(.t 0, .v (Dv (.s l))), (.t 3, .v (.e (.c (.own 7 (o ++ [q]).length)))), (.t 4, .v (I (i + 1))), (.o 7, .row 9 1 (strRows (o ++ [q])))] [] [] (⟨(6 - (i + 1)).toNat, by omega, i + 1, _, rfl, ⟨by omega, by omega, by rw [List.length_append]; simp; omega, fun y hy => by rcases List.mem_append.1 hy with h | h; exact hi.2.2.2 y h; simp at h; subst h; omega⟩, rfl⟩) ?_ rfl rfl
        repeat' first | exact trivial | refine mL_nil rfl ?_ | refine mL_d rfl ?_ ?_ | refine mL_own rfl rfl ?_ rfl ?_ | refine mL_row rfl ?_ ?_ | refine mL_pt rfl rfl rfl rfl ?_ | refine mL_box rfl ?_ ?_ | refine mL_agg rfl ?_ ?_ | exact mCs_nil0 | refine mCs_d ?_ ?_ | refine mCs_nil ?_ | refine mCs_own rfl ?_ rfl ?_ | refine mCs_pt rfl rfl rfl ?_
        all_goals first | with_reducible rfl | (first | (rw [rowsBytes_bytesRows]; exact strRows_push _ _) | first | (simp [bytesRows]; done) | (simp [strRows]; done) | with_reducible rfl | exact congrArg D.i (wrap64_of (by omega)) | omega | (simp [bytesRows_length, strRows_length]; done) | exact rows_push _ _ | exact strRows_push _ _ | (refine congrArg D.i ?_; rw [wrap64_of (by omega)]; omega))
    · skip
      refine SW.exit ?_
      refine SW.seq ?_
      refine SW.regT tabOk [2] ?_
      refine And.intro trivial (And.intro trivial ?_)
      refine SW.ret ?_
      refine retQE _ ⟨o, ⟨by omega, hi.2.2.2⟩, rfl⟩ (retOk _ [(0, 7)] [] rfl ?_ rfl rfl)
      repeat' first | exact trivial | refine mL_nil rfl ?_ | refine mL_d rfl ?_ ?_ | refine mL_own rfl rfl ?_ rfl ?_ | refine mL_row rfl ?_ ?_ | refine mL_pt rfl rfl rfl rfl ?_ | refine mL_box rfl ?_ ?_ | refine mL_agg rfl ?_ ?_ | exact mCs_nil0 | refine mCs_d ?_ ?_ | refine mCs_nil ?_ | refine mCs_own rfl ?_ rfl ?_ | refine mCs_pt rfl rfl rfl ?_
      all_goals rfl

theorem s_spec_MixMake (l : List UInt8) (n : Int) (hl : l.length ≤ 140737488355328) : Ab.SpecE Try.prog 32 2 [(.t 0, .v (Dv (.s l))), (.t 1, .v (I n))] (fun s => ∃ x : List UInt8, x.length ≤ 4 ∧ s = [(.t 0, .v (Dv (.s x)))]) := by
  refine specE_of_body tabOk Try.func32 rfl (by kernel_rfl) (by decide) (by kernel_rfl) rfl ?_
  refine SW.seq ?_
  refine SW.regT tabOk [0, 1, 19, 20, 21] ?_
  refine And.intro trivial ?_
  refine SW.seq ?_
  refine SW.regE tabOk [1, 5, 19, 20, 21] ?_
  refine And.intro trivial ?_
  refine ee_call (robj := []) (rl := [(0, 10)]) (bor := []) (news := [0]) (s_spec_MixCut l hl) rfl rfl rfl rfl ⟨mL_d rfl rfl (trivial), rfl⟩ (by rintro _ ⟨bs, hbs, rfl⟩; exact ⟨rfl, .inl rfl, fun j hj => hj⟩) (fun p hp => nomatch hp) (fun j hj => by (obtain rfl : j = 0 := by simpa using hj); rfl) ?_
  rintro _ ⟨bs, hbs, rfl⟩
  refine And.intro trivial ?_
  refine SW.seq ?_
  refine SW.regE tabOk [5, 6, 19, 20, 21] ?_
  refine And.intro trivial (And.intro (strRows_length _) (And.intro trivial ?_))
  refine ee_call (robj := []) (rl := [(0, 14)]) (bor := []) (news := [0]) (s_spec_MixOf _ _) rfl rfl rfl rfl ⟨mL_d rfl rfl (mL_d rfl rfl (trivial)), rfl⟩ (by rintro _ ⟨o, ho, rfl⟩; exact ⟨rfl, .inl rfl, fun j hj => hj⟩) (fun p hp => nomatch hp) (fun j hj => by (obtain rfl : j = 0 := by simpa using hj); rfl) ?_
  rintro _ ⟨o, ho, rfl⟩
  refine And.intro trivial ?_
  refine SW.seq ?_
  refine SW.seq ?_
  refine SW.regT tabOk [5, 6, 22] ?_
  refine And.intro trivial (And.intro (strRows_length _) (And.intro trivial (And.intro trivial (And.intro (fun h => trivial) (And.intro (by intro h; (repeat' apply And.intro) <;> first | exact h | trivial) (And.intro (fun h => (intRows_length _)) (And.intro (by intro h; (repeat' apply And.intro) <;> first | exact h | trivial) (And.intro (fun h => trivial) (And.intro (by intro h; (repeat' apply And.intro) <;> first | exact h | trivial) (And.intro (by constructor <;> intro h <;> first | trivial | exact h | (simp [gb, condOf]; done) | (simpa [gb, condOf] using h)) ?_))))))))))
  refine SW.cond rfl (fun c22 => ?_) (fun c22 => ?_)
  · skip
    refine SW.seq ?_
    refine SW.regT tabOk [4] ?_
    refine And.intro trivial ?_
    refine SW.ret ?_
    exact retQE _ ⟨[], by simp, rfl⟩ (retOk1 rfl rfl)
  · skip
    refine SW.skip ?_
    refine SW.seq ?_
    refine SW.regT tabOk [5, 6, 7] ?_
    refine ex_pure s_spec_l2None rfl rfl rfl rfl rfl rfl rfl rfl ?_
    refine And.intro trivial ?_
    refine SW.seq ?_
    refine SW.seq ?_
    refine SW.regT tabOk [5, 6, 7, 8] ?_
    refine And.intro trivial ?_
    refine SW.block ?_
    -- live at the head: [5, 6, 7, 8]
    refine SW.loopW (n := o.length) (fun m s => ∃ (i : Int) (x : List UInt8), m = ((o.length : Int) - i).toNat ∧ (0 ≤ i ∧ i ≤ o.length) ∧ x.length = 4 ∧ s = [(.t 5, .v (.e (.c (.own 10 (bs).length)))), (.t 6, .v (.e (.c (.own 14 (o).length)))), (.t 7, .v (Dv (.s x))), (.t 8, .v (I (i))), (.o 10, .row 9 1 (strRows (bs))), (.o 14, .row 3 1 (intRows (o)))]) ?_ ?_
    · skip
      refine wk [(.t 5, .v (.e (.c (.own 10 (bs).length)))), (.t 6, .v (.e (.c (.own 14 (o).length)))), (.t 7, .v (Dv (.s [0, 0, 0, 0]))), (.t 8, .v (I (0))), (.o 10, .row 9 1 (strRows (bs))), (.o 14, .row 3 1 (intRows (o)))] [] [] (⟨0, [0, 0, 0, 0], by omega, by omega, rfl, rfl⟩) ?_ rfl rfl
      repeat' first | exact trivial | refine mL_nil rfl ?_ | refine mL_d rfl ?_ ?_ | refine mL_own rfl rfl ?_ rfl ?_ | refine mL_row rfl ?_ ?_ | refine mL_pt rfl rfl rfl rfl ?_ | refine mL_box rfl ?_ ?_ | refine mL_agg rfl ?_ ?_ | exact mCs_nil0 | refine mCs_d ?_ ?_ | refine mCs_nil ?_ | refine mCs_own rfl ?_ rfl ?_ | refine mCs_pt rfl rfl rfl ?_
      all_goals first | with_reducible rfl | (first | rfl | (simp; done) | omega)
    rintro n s ⟨i, x, rfl, hi, hx, rfl⟩
    refine SW.seq ?_
    refine SW.seq ?_
    refine SW.regT tabOk [5, 6, 7, 8, 27] ?_
    refine And.intro trivial (And.intro trivial (And.intro (intRows_length _) (And.intro trivial ?_)))
    refine SW.cond rfl (fun c27 => ?_) (fun c27 => ?_)
    · skip
      have hi2 : i < o.length := by simpa using c27
      have hio := intRows_getD (l := o) (i := i.toNat) (by omega)
      have hj := ho.2 (o.getD i.toNat 0) (by rw [List.getD_eq_getElem?_getD, List.getElem?_eq_getElem (by omega)]; exact List.getElem_mem _)
      have hbj := strRows_getD (l := bs) (i := (o.getD i.toNat 0).toNat) (by omega)
      have hmem : bs.getD (o.getD i.toNat 0).toNat [] ∈ bs := by
        rw [List.getD_eq_getElem?_getD, List.getElem?_eq_getElem (by omega)]; exact List.getElem_mem _
      refine SW.skip ?_
      refine SW.seq ?_
      refine SW.block ?_
      refine SW.regE tabOk [5, 6, 7, 8] ?_
      refine And.intro trivial (And.intro trivial (And.intro trivial (And.intro trivial (And.intro (oixI (by omega) (by omega) rfl) (And.intro (oldI (by omega) rfl) (And.intro (by rw [hio]; exact oixS hj.1 hj.2 rfl) (And.intro (by rw [hio]; exact oldS (show (o.getD i.toNat 0).toNat < bs.length by omega) rfl) ?_)))))))
      refine ee_call (robj := []) (rl := []) (bor := []) (news := []) (s_spec_l2Xor x (bs.getD (o.getD i.toNat 0).toNat []) hx (by exact hbs.2 _ hmem)) rfl rfl rfl rfl ⟨mL_d rfl rfl (mL_d rfl (by show D.s (toS (((strRows bs).getD (toI (((intRows o).getD i.toNat []).getD 0 (.i 0))).toNat []).getD 0 (.i 0))) = _; rw [hio]; exact congrArg D.s (valS hj.1 hj.2)) trivial), rfl⟩ (by rintro _ ⟨y, hy, rfl⟩; exact ⟨rfl, .inl rfl, fun j hj => nomatch hj⟩) (fun p hp => nomatch hp) (fun j hj => nomatch hj) ?_
      rintro _ ⟨y, hy, rfl⟩
      refine And.intro trivial ?_
      refine SW.regT tabOk [5, 6, 7, 8] ?_
      refine And.intro trivial (And.intro trivial (And.intro trivial ?_))
      refine wk [(.t 5, .v (.e (.c (.own 10 (bs).length)))), (.t 6, .v (.e (.c (.own 14 (o).length)))), (.t 7, .v (Dv (.s y))), (.t 8, .v (I (i + 1))), (.o 10, .row 9 1 (strRows (bs))), (.o 14, .row 3 1 (intRows (o)))] [] [] (⟨((o.length : Int) - (i + 1)).toNat, by omega, i + 1, y, rfl, by omega, hy, rfl⟩) ?_ rfl rfl
      repeat' first | exact trivial | refine mL_nil rfl ?_ | refine mL_d rfl ?_ ?_ | refine mL_own rfl rfl ?_ rfl ?_ | refine mL_row rfl ?_ ?_ | refine mL_pt rfl rfl rfl rfl ?_ | refine mL_box rfl ?_ ?_ | refine mL_agg rfl ?_ ?_ | exact mCs_nil0 | refine mCs_d ?_ ?_ | refine mCs_nil ?_ | refine mCs_own rfl ?_ rfl ?_ | refine mCs_pt rfl rfl rfl ?_
      all_goals first | with_reducible rfl | (first | with_reducible rfl | exact congrArg D.i (wrap64_of (by omega)) | omega | (simp [intRows_length, boolRows_length, strRows_length]; done) | (simp [intRows]; done) | exact intRows_push _ _ | exact rows_setT (by omega))
    · skip
      refine SW.exit ?_
      refine SW.seq ?_
      refine SW.regT tabOk [4] ?_
      refine And.intro trivial (And.intro trivial ?_)
      refine SW.ret ?_
      exact retQE _ ⟨x, by omega, rfl⟩ (retOk1 rfl rfl)

end Go.Proofs.Ytlkfibmjdigmiaa
