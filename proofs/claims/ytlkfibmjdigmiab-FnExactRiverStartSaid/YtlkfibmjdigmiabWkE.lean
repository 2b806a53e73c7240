import Derived.Test.YtlkfibmjdigmiabTab
import Derived.Test.YtlkfibmjdigmiabWkD
import Derived.Test.YtlkfibmjdigmiabAbDn
import Derived.Test.YtlkfibmjdigmiabAbBr
namespace Go.Proofs.Ytlkfibmjdigmiab
open Go Go.Ab Go.RowKit
set_option linter.unusedVariables false
set_option linter.unusedSimpArgs false

set_option maxHeartbeats 1600000 in
theorem s_spec_RiverStart  : Ab.Spec Try.prog 4 0 [] [(.t 0, .v (.e (.agg [.d (.i 0), .own 0 (4), .own 1 (3), .nil, .nil, .nil]))), (.o 0, .row 36 5 (krows 4)), (.o 1, .row 4 1 (trues 3))] := by
  refine spec_of_body tabOk Try.func4 rfl (by kernel_rfl) (by decide) (by kernel_rfl) rfl ?_
  refine SW.seq ?_
  refine SW.regT tabOk [0] ?_
  refine And.intro trivial ?_
  refine SW.seq ?_
  refine SW.regT tabOk [0, 1] ?_
  refine And.intro (by first | trivial | exact Nat.le_of_ble_eq_true rfl | exact ⟨rfl, Nat.le_of_ble_eq_true rfl⟩ | omega | ((repeat' apply And.intro) <;> first | trivial | rfl | exact Nat.le_of_ble_eq_true rfl | omega) | (simp; done) | (simp; omega)) (And.intro trivial (And.intro ⟨by kernel_rfl, Nat.le_of_ble_eq_true (by kernel_rfl)⟩ ?_))
  refine SW.seq ?_
  refine SW.seq ?_
  refine SW.regT tabOk [0, 1, 2] ?_
  refine And.intro trivial ?_
  refine SW.block ?_
  -- live at the head: [0, 1, 2]
  refine SW.loopW (n := 4) (fun m s => ∃ i : Nat, m = 4 - i ∧ i ≤ 4 ∧ (i = 0 ∧ s = [(.t 0, .v (.e (.c (.pt 0 0)))), (.t 1, .v (.e (.c (.pt 1 0)))), (.t 2, .v (I 0)), (.o 0, .box 27 [.d (.i 0), .nil, .nil, .nil, .nil, .nil]), (.o 1, .box 27 [.d (.i 0), .nil, .nil, .nil, .nil, .nil])] ∨ 1 ≤ i ∧ s = [(.t 0, .v (.e (.c (.pt 0 0)))), (.t 1, .v (.e (.c (.pt 1 0)))), (.t 2, .v (I (i : Nat))), (.o 0, .box 27 [.d (.i 0), .nil, .nil, .nil, .nil, .nil]), (.o 1, .box 27 [.d (.i 0), .own 14 (i), .nil, .nil, .nil, .nil]), (.o 14, .row 36 5 (krows (i)))])) ?_ ?_
  · skip
    refine wk [(.t 0, .v (.e (.c (.pt 0 0)))), (.t 1, .v (.e (.c (.pt 1 0)))), (.t 2, .v (I 0)), (.o 0, .box 27 [.d (.i 0), .nil, .nil, .nil, .nil, .nil]), (.o 1, .box 27 [.d (.i 0), .nil, .nil, .nil, .nil, .nil])] [] [] (⟨0, rfl, by omega, .inl ⟨rfl, rfl⟩⟩) ?_ rfl rfl
    repeat' first | exact trivial | refine mL_nil rfl ?_ | refine mL_d rfl ?_ ?_ | refine mL_own rfl rfl ?_ rfl ?_ | refine mL_row rfl ?_ ?_ | refine mL_pt rfl rfl rfl rfl ?_ | refine mL_box rfl ?_ ?_ | refine mL_agg rfl ?_ ?_ | exact mCs_nil0 | refine mCs_d ?_ ?_ | refine mCs_nil ?_ | refine mCs_own rfl ?_ rfl ?_ | refine mCs_pt rfl rfl rfl ?_
    all_goals first | with_reducible rfl | (first | rfl | (simp; done) | omega)
  rintro n s ⟨i, rfl, hi, hs⟩
  rcases hs with ⟨h0, rfl⟩ | ⟨h0, rfl⟩
  · skip
    refine SW.seq ?_
    refine SW.seq ?_
    refine SW.regT tabOk [0, 1, 2, 6] ?_
    refine And.intro trivial (And.intro trivial ?_)
    refine SW.cond rfl (fun c6 => ?_) (fun c6 => ?_)
    · skip
      have hi2 : i < 4 := by omega
      refine SW.skip ?_
      refine SW.seq ?_
      refine SW.block ?_
      refine SW.regD tabOk mo [0, 1, 2] ?_
      refine And.intro (by first | trivial | rfl) (And.intro (by first | trivial | exact Nat.le_of_ble_eq_true rfl | exact ⟨rfl, Nat.le_of_ble_eq_true rfl⟩ | omega | ((repeat' apply And.intro) <;> first | trivial | rfl | exact Nat.le_of_ble_eq_true rfl | omega) | (simp; done) | (simp; omega)) (And.intro trivial ?_))
      refine ex_pure (s_spec_KeeperStart _ (by first | rfl | (simp [isNode, inB]; omega))) rfl rfl rfl rfl rfl rfl rfl rfl ?_
      refine And.intro (by first | trivial | exact Nat.le_of_ble_eq_true rfl | exact ⟨rfl, Nat.le_of_ble_eq_true rfl⟩ | omega | ((repeat' apply And.intro) <;> first | trivial | rfl | exact Nat.le_of_ble_eq_true rfl | omega) | (simp; done) | (simp; omega)) (And.intro (by first | trivial | exact Nat.le_of_ble_eq_true rfl | exact ⟨rfl, Nat.le_of_ble_eq_true rfl⟩ | omega | ((repeat' apply And.intro) <;> first | trivial | rfl | exact Nat.le_of_ble_eq_true rfl | omega) | (simp; done) | (simp; omega)) (And.intro (by first | trivial | rfl) (And.intro ⟨by kernel_rfl, Nat.le_of_ble_eq_true (by kernel_rfl)⟩ (And.intro (by kernel_rfl) ?_))))
      refine SW.regT tabOk [0, 1, 2] ?_
      refine And.intro trivial (And.intro trivial (And.intro trivial ?_))
      refine wk [(.t 0, .v (.e (.c (.pt 0 0)))), (.t 1, .v (.e (.c (.pt 1 0)))), (.t 2, .v (I (1 : Nat))), (.o 0, .box 27 [.d (.i 0), .nil, .nil, .nil, .nil, .nil]), (.o 1, .box 27 [.d (.i 0), .own 14 (1), .nil, .nil, .nil, .nil]), (.o 14, .row 36 5 (krows (1)))] [] [] (⟨4 - 1, by omega, 1, rfl, by omega, .inr ⟨by omega, rfl⟩⟩) ?_ rfl rfl
      repeat' first | exact trivial | refine mL_nil rfl ?_ | refine mL_d rfl ?_ ?_ | refine mL_own rfl rfl ?_ rfl ?_ | refine mL_row rfl ?_ ?_ | refine mL_pt rfl rfl rfl rfl ?_ | refine mL_box rfl ?_ ?_ | refine mL_agg rfl ?_ ?_ | exact mCs_nil0 | refine mCs_d ?_ ?_ | refine mCs_nil ?_ | refine mCs_own rfl ?_ rfl ?_ | refine mCs_pt rfl rfl rfl ?_
      all_goals first | with_reducible rfl | (first | with_reducible rfl | exact congrArg D.i (wrap64_of (by omega)) | (refine congrArg D.i ?_; rw [wrap64_of (by omega)]; omega) | (simp [krows_length, trues_length]; done) | exact (krows_succ _).symm | exact (trues_succ _).symm | exact rfl)
    · skip
      exact absurd c6 (by decide)
  · skip
    refine SW.seq ?_
    refine SW.seq ?_
    refine SW.regT tabOk [0, 1, 2, 6] ?_
    refine And.intro trivial (And.intro trivial ?_)
    refine SW.cond rfl (fun c6 => ?_) (fun c6 => ?_)
    · skip
      have hi2 : i < 4 := by simp at c6; omega
      refine SW.skip ?_
      refine SW.seq ?_
      refine SW.block ?_
      refine SW.regD tabOk mo [0, 1, 2] ?_
      refine And.intro (by first | trivial | rfl) (And.intro (by first | trivial | exact Nat.le_of_ble_eq_true rfl | exact ⟨rfl, Nat.le_of_ble_eq_true rfl⟩ | omega | ((repeat' apply And.intro) <;> first | trivial | rfl | exact Nat.le_of_ble_eq_true rfl | omega) | (simp; done) | (simp; omega)) (And.intro trivial ?_))
      refine ex_pure (s_spec_KeeperStart _ (by first | rfl | (simp [isNode, inB]; omega))) rfl rfl rfl rfl rfl rfl rfl rfl ?_
      refine And.intro (by first | trivial | exact Nat.le_of_ble_eq_true rfl | exact ⟨rfl, Nat.le_of_ble_eq_true rfl⟩ | omega | ((repeat' apply And.intro) <;> first | trivial | rfl | exact Nat.le_of_ble_eq_true rfl | omega) | (simp; done) | (simp; omega)) (And.intro (by refine ⟨rfl, krows_length _, by simp, ?_⟩; show (_ + 1) * 64 ≤ _; omega) (And.intro (by first | trivial | rfl) (And.intro ⟨by kernel_rfl, Nat.le_of_ble_eq_true (by kernel_rfl)⟩ (And.intro (by kernel_rfl) ?_))))
      refine SW.regT tabOk [0, 1, 2] ?_
      refine And.intro trivial (And.intro trivial (And.intro trivial ?_))
      refine wk [(.t 0, .v (.e (.c (.pt 0 0)))), (.t 1, .v (.e (.c (.pt 1 0)))), (.t 2, .v (I ((i + 1) : Nat))), (.o 0, .box 27 [.d (.i 0), .nil, .nil, .nil, .nil, .nil]), (.o 1, .box 27 [.d (.i 0), .own 14 ((i + 1)), .nil, .nil, .nil, .nil]), (.o 14, .row 36 5 (krows ((i + 1))))] [] [] (⟨4 - (i + 1), by omega, i + 1, rfl, by omega, .inr ⟨by omega, rfl⟩⟩) ?_ rfl rfl
      repeat' first | exact trivial | refine mL_nil rfl ?_ | refine mL_d rfl ?_ ?_ | refine mL_own rfl rfl ?_ rfl ?_ | refine mL_row rfl ?_ ?_ | refine mL_pt rfl rfl rfl rfl ?_ | refine mL_box rfl ?_ ?_ | refine mL_agg rfl ?_ ?_ | exact mCs_nil0 | refine mCs_d ?_ ?_ | refine mCs_nil ?_ | refine mCs_own rfl ?_ rfl ?_ | refine mCs_pt rfl rfl rfl ?_
      all_goals first | with_reducible rfl | (first | with_reducible rfl | exact congrArg D.i (wrap64_of (by omega)) | (refine congrArg D.i ?_; rw [wrap64_of (by omega)]; omega) | (simp [krows_length, trues_length]; done) | exact (krows_succ _).symm | exact (trues_succ _).symm | exact rfl)
    · skip
      have hi4 : i = 4 := by simp at c6; omega
      subst hi4
      refine SW.exit ?_
      refine SW.seq ?_
      refine SW.seq ?_
      refine SW.regT tabOk [0, 1, 3] ?_
      refine And.intro trivial ?_
      refine SW.block ?_
      -- live at the head: [0, 1, 3]
      refine SW.loopW (n := 3) (fun m s => ∃ i : Nat, m = 3 - i ∧ i ≤ 3 ∧ (i = 0 ∧ s = [(.t 0, .v (.e (.c (.pt 0 0)))), (.t 1, .v (.e (.c (.pt 1 0)))), (.t 3, .v (I 0)), (.o 0, .box 27 [.d (.i 0), .nil, .nil, .nil, .nil, .nil]), (.o 1, .box 27 [.d (.i 0), .own 14 (4), .nil, .nil, .nil, .nil]), (.o 14, .row 36 5 (krows 4))] ∨ 1 ≤ i ∧ s = [(.t 0, .v (.e (.c (.pt 0 0)))), (.t 1, .v (.e (.c (.pt 1 0)))), (.t 3, .v (I (i : Nat))), (.o 0, .box 27 [.d (.i 0), .nil, .nil, .nil, .nil, .nil]), (.o 1, .box 27 [.d (.i 0), .own 14 (4), .own 24 (i), .nil, .nil, .nil]), (.o 14, .row 36 5 (krows 4)), (.o 24, .row 4 1 (trues (i)))])) ?_ ?_
      · skip
        refine wk [(.t 0, .v (.e (.c (.pt 0 0)))), (.t 1, .v (.e (.c (.pt 1 0)))), (.t 3, .v (I 0)), (.o 0, .box 27 [.d (.i 0), .nil, .nil, .nil, .nil, .nil]), (.o 1, .box 27 [.d (.i 0), .own 14 (4), .nil, .nil, .nil, .nil]), (.o 14, .row 36 5 (krows 4))] [] [] (⟨0, rfl, by omega, .inl ⟨rfl, rfl⟩⟩) ?_ rfl rfl
        repeat' first | exact trivial | refine mL_nil rfl ?_ | refine mL_d rfl ?_ ?_ | refine mL_own rfl rfl ?_ rfl ?_ | refine mL_row rfl ?_ ?_ | refine mL_pt rfl rfl rfl rfl ?_ | refine mL_box rfl ?_ ?_ | refine mL_agg rfl ?_ ?_ | exact mCs_nil0 | refine mCs_d ?_ ?_ | refine mCs_nil ?_ | refine mCs_own rfl ?_ rfl ?_ | refine mCs_pt rfl rfl rfl ?_
        all_goals first | with_reducible rfl | (first | with_reducible rfl | exact congrArg D.i (wrap64_of (by omega)) | (refine congrArg D.i ?_; rw [wrap64_of (by omega)]; omega) | (simp [krows_length, trues_length]; done) | exact (krows_succ _).symm | exact (trues_succ _).symm | exact rfl)
      rintro n s ⟨j, rfl, hj, hs⟩
      rcases hs with ⟨g0, rfl⟩ | ⟨g0, rfl⟩
      · skip
        refine SW.seq ?_
        refine SW.seq ?_
        refine SW.regT tabOk [0, 1, 3, 18] ?_
        refine And.intro trivial (And.intro trivial (And.intro trivial ?_))
        refine SW.cond rfl (fun c18 => ?_) (fun c18 => ?_)
        · skip
          refine SW.skip ?_
          refine SW.seq ?_
          refine SW.block ?_
          refine SW.regT tabOk [0, 1, 3] ?_
          refine And.intro (by first | trivial | rfl) (And.intro (by first | trivial | exact Nat.le_of_ble_eq_true rfl | exact ⟨rfl, Nat.le_of_ble_eq_true rfl⟩ | omega | ((repeat' apply And.intro) <;> first | trivial | rfl | exact Nat.le_of_ble_eq_true rfl | omega) | (simp; done) | (simp; omega)) (And.intro (by first | trivial | exact Nat.le_of_ble_eq_true rfl | exact ⟨rfl, Nat.le_of_ble_eq_true rfl⟩ | omega | ((repeat' apply And.intro) <;> first | trivial | rfl | exact Nat.le_of_ble_eq_true rfl | omega) | (simp; done) | (simp; omega)) (And.intro (by first | trivial | exact Nat.le_of_ble_eq_true rfl | exact ⟨rfl, Nat.le_of_ble_eq_true rfl⟩ | omega | ((repeat' apply And.intro) <;> first | trivial | rfl | exact Nat.le_of_ble_eq_true rfl | omega) | (simp; done) | (simp; omega)) (And.intro (by first | trivial | rfl) (And.intro ⟨by kernel_rfl, Nat.le_of_ble_eq_true (by kernel_rfl)⟩ ?_)))))
          refine SW.regT tabOk [0, 1, 3] ?_
          refine And.intro trivial (And.intro trivial (And.intro trivial ?_))
          refine wk [(.t 0, .v (.e (.c (.pt 0 0)))), (.t 1, .v (.e (.c (.pt 1 0)))), (.t 3, .v (I (1 : Nat))), (.o 0, .box 27 [.d (.i 0), .nil, .nil, .nil, .nil, .nil]), (.o 1, .box 27 [.d (.i 0), .own 14 (4), .own 24 (1), .nil, .nil, .nil]), (.o 14, .row 36 5 (krows 4)), (.o 24, .row 4 1 (trues (1)))] [] [] (⟨3 - 1, by omega, 1, rfl, by omega, .inr ⟨by omega, rfl⟩⟩) ?_ rfl rfl
          repeat' first | exact trivial | refine mL_nil rfl ?_ | refine mL_d rfl ?_ ?_ | refine mL_own rfl rfl ?_ rfl ?_ | refine mL_row rfl ?_ ?_ | refine mL_pt rfl rfl rfl rfl ?_ | refine mL_box rfl ?_ ?_ | refine mL_agg rfl ?_ ?_ | exact mCs_nil0 | refine mCs_d ?_ ?_ | refine mCs_nil ?_ | refine mCs_own rfl ?_ rfl ?_ | refine mCs_pt rfl rfl rfl ?_
          all_goals first | with_reducible rfl | (first | with_reducible rfl | exact congrArg D.i (wrap64_of (by omega)) | (refine congrArg D.i ?_; rw [wrap64_of (by omega)]; omega) | (simp [krows_length, trues_length]; done) | exact (krows_succ _).symm | exact (trues_succ _).symm | exact rfl)
        · skip
          exact absurd c18 (by decide)
      · skip
        refine SW.seq ?_
        refine SW.seq ?_
        refine SW.regT tabOk [0, 1, 3, 18] ?_
        refine And.intro trivial (And.intro trivial (And.intro trivial ?_))
        refine SW.cond rfl (fun c18 => ?_) (fun c18 => ?_)
        · skip
          have hj2 : j < 3 := by rw [wrap64_of (by omega)] at c18; simp at c18; omega
          refine SW.skip ?_
          refine SW.seq ?_
          refine SW.block ?_
          refine SW.regT tabOk [0, 1, 3] ?_
          refine And.intro (by first | trivial | rfl) (And.intro (Nat.le_of_ble_eq_true (by kernel_rfl)) (And.intro (by first | trivial | exact Nat.le_of_ble_eq_true rfl | exact ⟨rfl, Nat.le_of_ble_eq_true rfl⟩ | omega | ((repeat' apply And.intro) <;> first | trivial | rfl | exact Nat.le_of_ble_eq_true rfl | omega) | (simp; done) | (simp; omega)) (And.intro (by refine ⟨rfl, trues_length _, by simp, ?_⟩; show (_ + 1) * 1 ≤ _; omega) (And.intro (by first | trivial | rfl) (And.intro ⟨by kernel_rfl, Nat.le_of_ble_eq_true (by kernel_rfl)⟩ ?_)))))
          refine SW.regT tabOk [0, 1, 3] ?_
          refine And.intro trivial (And.intro trivial (And.intro trivial ?_))
          refine wk [(.t 0, .v (.e (.c (.pt 0 0)))), (.t 1, .v (.e (.c (.pt 1 0)))), (.t 3, .v (I ((j + 1) : Nat))), (.o 0, .box 27 [.d (.i 0), .nil, .nil, .nil, .nil, .nil]), (.o 1, .box 27 [.d (.i 0), .own 14 (4), .own 24 ((j + 1)), .nil, .nil, .nil]), (.o 14, .row 36 5 (krows 4)), (.o 24, .row 4 1 (trues ((j + 1))))] [] [] (⟨3 - (j + 1), by omega, j + 1, rfl, by omega, .inr ⟨by omega, rfl⟩⟩) ?_ rfl rfl
          repeat' first | exact trivial | refine mL_nil rfl ?_ | refine mL_d rfl ?_ ?_ | refine mL_own rfl rfl ?_ rfl ?_ | refine mL_row rfl ?_ ?_ | refine mL_pt rfl rfl rfl rfl ?_ | refine mL_box rfl ?_ ?_ | refine mL_agg rfl ?_ ?_ | exact mCs_nil0 | refine mCs_d ?_ ?_ | refine mCs_nil ?_ | refine mCs_own rfl ?_ rfl ?_ | refine mCs_pt rfl rfl rfl ?_
          all_goals first | with_reducible rfl | (first | with_reducible rfl | exact congrArg D.i (wrap64_of (by omega)) | (refine congrArg D.i ?_; rw [wrap64_of (by omega)]; omega) | (simp [krows_length, trues_length]; done) | exact (krows_succ _).symm | exact (trues_succ _).symm | exact rfl)
        · skip
          have hj4 : j = 3 := by rw [wrap64_of (by omega)] at c18; simp at c18; omega
          subst hj4
          refine SW.exit ?_
          refine SW.seq ?_
          refine SW.regT tabOk [0] ?_
          refine And.intro (by first | trivial | exact Nat.le_of_ble_eq_true rfl | exact ⟨rfl, Nat.le_of_ble_eq_true rfl⟩ | omega | ((repeat' apply And.intro) <;> first | trivial | rfl | exact Nat.le_of_ble_eq_true rfl | omega) | (simp; done) | (simp; omega)) (And.intro ⟨by kernel_rfl, Nat.le_of_ble_eq_true (by kernel_rfl)⟩ ?_)
          refine SW.ret ?_
          refine retOk _ [(0, 14), (1, 24)] [] rfl ?_ rfl rfl
          repeat' first | exact trivial | refine mL_nil rfl ?_ | refine mL_d rfl ?_ ?_ | refine mL_own rfl rfl ?_ rfl ?_ | refine mL_row rfl ?_ ?_ | refine mL_pt rfl rfl rfl rfl ?_ | refine mL_box rfl ?_ ?_ | refine mL_agg rfl ?_ ?_ | exact mCs_nil0 | refine mCs_d ?_ ?_ | refine mCs_nil ?_ | refine mCs_own rfl ?_ rfl ?_ | refine mCs_pt rfl rfl rfl ?_
          all_goals rfl

theorem sc_river : scalarSt [(.t 0, .v (.e (.agg [.d (.i 0), .own 0 ((krows 4).length), .own 1 ((trues 3).length), .nil, .nil, .nil]))), (.o 0, .row 36 5 (krows 4)), (.o 1, .row 4 1 (trues 3))] := by
  intro p hp
  simp at hp
  rcases hp with rfl | rfl | rfl
  · intro c hc
    simp at hc
    rcases hc with rfl | rfl | rfl | rfl <;> trivial
  · exact isK_scalar (krows_isK 4)
  · intro r hr d hd
    rw [List.eq_of_mem_replicate hr] at hd
    simp at hd; subst hd; trivial
set_option maxHeartbeats 1600000 in
theorem s_impl_RiverStart  : Ab.Spec Try.prog 5 0 [] [(.t 0, .v (.e (.agg [.d (.i 0), .own 0 (4), .own 1 (3), .nil, .nil, .nil]))), (.o 0, .row 36 5 (krows 4)), (.o 1, .row 4 1 (trues 3))] := by
  refine spec_of_body tabOk Try.func5 rfl (by kernel_rfl) (by decide) (by kernel_rfl) rfl ?_
  refine SW.seq ?_
  refine SW.regT tabOk [0] ?_
  refine And.intro trivial ?_
  refine SW.seq ?_
  refine SW.regT tabOk [0, 1] ?_
  refine And.intro (by first | trivial | exact Nat.le_of_ble_eq_true rfl | exact ⟨rfl, Nat.le_of_ble_eq_true rfl⟩ | omega | ((repeat' apply And.intro) <;> first | trivial | rfl | exact Nat.le_of_ble_eq_true rfl | omega) | (simp; done) | (simp; omega)) (And.intro trivial (And.intro ⟨by kernel_rfl, Nat.le_of_ble_eq_true (by kernel_rfl)⟩ ?_))
  refine SW.seq ?_
  refine SW.seq ?_
  refine SW.regT tabOk [0, 1, 2] ?_
  refine And.intro trivial ?_
  refine SW.block ?_
  -- live at the head: [0, 1, 2]
  refine SW.loopW (n := 4) (fun m s => ∃ i : Nat, m = 4 - i ∧ i ≤ 4 ∧ (i = 0 ∧ s = [(.t 0, .v (.e (.c (.pt 0 0)))), (.t 1, .v (.e (.c (.pt 1 0)))), (.t 2, .v (I 0)), (.o 0, .box 27 [.d (.i 0), .nil, .nil, .nil, .nil, .nil]), (.o 1, .box 27 [.d (.i 0), .nil, .nil, .nil, .nil, .nil])] ∨ i = 1 ∧ s = [(.t 0, .v (.e (.c (.pt 0 0)))), (.t 1, .v (.e (.c (.pt 1 0)))), (.t 2, .v (I (1 : Nat))), (.o 0, .box 27 [.d (.i 0), .nil, .nil, .nil, .nil, .nil]), (.o 1, .box 27 [.d (.i 0), .own 13 (1), .nil, .nil, .nil, .nil]), (.o 13, .row 36 5 (krows 1))] ∨ ∃ j : Nat, (i = j + 1 ∧ 1 ≤ j) ∧ s = [(.t 0, .v (.e (.c (.pt 0 0)))), (.t 1, .v (.e (.c (.pt 1 0)))), (.t 2, .v (I ((j + 1 : Nat) : Int))), (.o 0, .box 27 [.d (.i 0), .nil, .nil, .nil, .nil, .nil]), (.o 1, .box 27 [.d (.i 0), .own 13 (j + 1), .own 20 (j), .nil, .nil, .nil]), (.o 13, .row 36 5 (krows (j + 1))), (.o 20, .row 4 1 (trues (j)))])) ?_ ?_
  · skip
    refine wk [(.t 0, .v (.e (.c (.pt 0 0)))), (.t 1, .v (.e (.c (.pt 1 0)))), (.t 2, .v (I 0)), (.o 0, .box 27 [.d (.i 0), .nil, .nil, .nil, .nil, .nil]), (.o 1, .box 27 [.d (.i 0), .nil, .nil, .nil, .nil, .nil])] [] [] (⟨0, rfl, by omega, .inl ⟨rfl, rfl⟩⟩) ?_ rfl rfl
    repeat' first | exact trivial | refine mL_nil rfl ?_ | refine mL_d rfl ?_ ?_ | refine mL_own rfl rfl ?_ rfl ?_ | refine mL_row rfl ?_ ?_ | refine mL_pt rfl rfl rfl rfl ?_ | refine mL_box rfl ?_ ?_ | refine mL_agg rfl ?_ ?_ | exact mCs_nil0 | refine mCs_d ?_ ?_ | refine mCs_nil ?_ | refine mCs_own rfl ?_ rfl ?_ | refine mCs_pt rfl rfl rfl ?_
    all_goals first | with_reducible rfl | (first | rfl | (simp; done) | omega)
  rintro n s ⟨i, rfl, hi, hs⟩
  rcases hs with ⟨h0, rfl⟩ | ⟨h0, rfl⟩ | ⟨j, ⟨h0, hj⟩, rfl⟩
  · skip
    subst h0
    refine SW.seq ?_
    refine SW.seq ?_
    refine SW.regT tabOk [0, 1, 2, 5] ?_
    refine And.intro trivial (And.intro trivial ?_)
    refine SW.cond rfl (fun c5 => ?_) (fun c5 => ?_)
    · skip
      refine SW.skip ?_
      refine SW.seq ?_
      refine SW.block ?_
      refine SW.seq ?_
      refine SW.regD tabOk mo [0, 1, 2] ?_
      refine And.intro (by first | trivial | rfl) (And.intro (by first | trivial | exact Nat.le_of_ble_eq_true rfl | exact ⟨rfl, Nat.le_of_ble_eq_true rfl⟩ | omega | ((repeat' apply And.intro) <;> first | trivial | rfl | exact Nat.le_of_ble_eq_true rfl | omega) | (simp; done) | (simp; omega)) (And.intro trivial ?_))
      refine ex_pure (s_impl_KeeperStart _ (by first | rfl | (simp [isNode, inB]; omega))) rfl rfl rfl rfl rfl rfl rfl rfl ?_
      refine And.intro (by first | trivial | exact Nat.le_of_ble_eq_true rfl | exact ⟨rfl, Nat.le_of_ble_eq_true rfl⟩ | omega | ((repeat' apply And.intro) <;> first | trivial | rfl | exact Nat.le_of_ble_eq_true rfl | omega) | (simp; done) | (simp; omega)) (And.intro (by first | trivial | exact Nat.le_of_ble_eq_true rfl | exact ⟨rfl, Nat.le_of_ble_eq_true rfl⟩ | omega | ((repeat' apply And.intro) <;> first | trivial | rfl | exact Nat.le_of_ble_eq_true rfl | omega) | (simp; done) | (simp; omega)) (And.intro (by first | trivial | rfl) (And.intro ⟨by kernel_rfl, Nat.le_of_ble_eq_true (by kernel_rfl)⟩ (And.intro (by kernel_rfl) ?_))))
      refine SW.seq ?_
      refine SW.regT tabOk [0, 1, 2, 16] ?_
      refine And.intro trivial (And.intro trivial ?_)
      refine SW.cond rfl (fun c16 => ?_) (fun c16 => ?_)
      · skip
        exact absurd c16 (by decide)
      · skip
        refine SW.skip ?_
        refine SW.regT tabOk [0, 1, 2] ?_
        refine And.intro trivial (And.intro trivial (And.intro trivial ?_))
        refine wk [(.t 0, .v (.e (.c (.pt 0 0)))), (.t 1, .v (.e (.c (.pt 1 0)))), (.t 2, .v (I (1 : Nat))), (.o 0, .box 27 [.d (.i 0), .nil, .nil, .nil, .nil, .nil]), (.o 1, .box 27 [.d (.i 0), .own 13 (1), .nil, .nil, .nil, .nil]), (.o 13, .row 36 5 (krows 1))] [] [] (⟨4 - 1, by omega, 1, rfl, by omega, .inr (.inl ⟨rfl, rfl⟩)⟩) ?_ rfl rfl
        repeat' first | exact trivial | refine mL_nil rfl ?_ | refine mL_d rfl ?_ ?_ | refine mL_own rfl rfl ?_ rfl ?_ | refine mL_row rfl ?_ ?_ | refine mL_pt rfl rfl rfl rfl ?_ | refine mL_box rfl ?_ ?_ | refine mL_agg rfl ?_ ?_ | exact mCs_nil0 | refine mCs_d ?_ ?_ | refine mCs_nil ?_ | refine mCs_own rfl ?_ rfl ?_ | refine mCs_pt rfl rfl rfl ?_
        all_goals first | with_reducible rfl | (first | with_reducible rfl | exact congrArg D.i (wrap64_of (by omega)) | (refine congrArg D.i ?_; rw [wrap64_of (by omega)]; omega) | (simp [krows_length, trues_length]; done) | exact (krows_succ _).symm | exact (trues_succ _).symm | exact rfl)
    · skip
      exact absurd c5 (by decide)
  · skip
    subst h0
    refine SW.seq ?_
    refine SW.seq ?_
    refine SW.regT tabOk [0, 1, 2, 5] ?_
    refine And.intro trivial (And.intro trivial ?_)
    refine SW.cond rfl (fun c5 => ?_) (fun c5 => ?_)
    · skip
      refine SW.skip ?_
      refine SW.seq ?_
      refine SW.block ?_
      refine SW.seq ?_
      refine SW.regD tabOk mo [0, 1, 2] ?_
      refine And.intro (by first | trivial | rfl) (And.intro (Nat.le_of_ble_eq_true (by kernel_rfl)) (And.intro trivial ?_))
      refine ex_pure (s_impl_KeeperStart _ (by first | rfl | (simp [isNode, inB]; omega))) rfl rfl rfl rfl rfl rfl rfl rfl ?_
      refine And.intro (by first | trivial | exact Nat.le_of_ble_eq_true rfl | exact ⟨rfl, Nat.le_of_ble_eq_true rfl⟩ | omega | ((repeat' apply And.intro) <;> first | trivial | rfl | exact Nat.le_of_ble_eq_true rfl | omega) | (simp; done) | (simp; omega)) (And.intro (by refine ⟨rfl, krows_length _, by simp, ?_⟩; show (_ + 1) * 64 ≤ _; omega) (And.intro (by first | trivial | rfl) (And.intro ⟨by kernel_rfl, Nat.le_of_ble_eq_true (by kernel_rfl)⟩ (And.intro (by kernel_rfl) ?_))))
      refine SW.seq ?_
      refine SW.regT tabOk [0, 1, 2, 16] ?_
      refine And.intro trivial (And.intro trivial ?_)
      refine SW.cond rfl (fun c16 => ?_) (fun c16 => ?_)
      · skip
        refine SW.regT tabOk [0, 1, 2] ?_
        refine And.intro (by first | trivial | rfl) (And.intro (Nat.le_of_ble_eq_true (by kernel_rfl)) (And.intro (by first | trivial | exact Nat.le_of_ble_eq_true rfl | exact ⟨rfl, Nat.le_of_ble_eq_true rfl⟩ | omega | ((repeat' apply And.intro) <;> first | trivial | rfl | exact Nat.le_of_ble_eq_true rfl | omega) | (simp; done) | (simp; omega)) (And.intro (by first | trivial | exact Nat.le_of_ble_eq_true rfl | exact ⟨rfl, Nat.le_of_ble_eq_true rfl⟩ | omega | ((repeat' apply And.intro) <;> first | trivial | rfl | exact Nat.le_of_ble_eq_true rfl | omega) | (simp; done) | (simp; omega)) (And.intro (by first | trivial | rfl) (And.intro ⟨by kernel_rfl, Nat.le_of_ble_eq_true (by kernel_rfl)⟩ ?_)))))
        refine SW.regT tabOk [0, 1, 2] ?_
        refine And.intro trivial (And.intro trivial (And.intro trivial ?_))
        refine wk [(.t 0, .v (.e (.c (.pt 0 0)))), (.t 1, .v (.e (.c (.pt 1 0)))), (.t 2, .v (I ((1 + 1 : Nat) : Int))), (.o 0, .box 27 [.d (.i 0), .nil, .nil, .nil, .nil, .nil]), (.o 1, .box 27 [.d (.i 0), .own 13 (1 + 1), .own 20 (1), .nil, .nil, .nil]), (.o 13, .row 36 5 (krows (1 + 1))), (.o 20, .row 4 1 (trues (1)))] [] [] (⟨4 - 2, by omega, 2, rfl, by omega, .inr (.inr ⟨1, ⟨rfl, by omega⟩, rfl⟩)⟩) ?_ rfl rfl
        repeat' first | exact trivial | refine mL_nil rfl ?_ | refine mL_d rfl ?_ ?_ | refine mL_own rfl rfl ?_ rfl ?_ | refine mL_row rfl ?_ ?_ | refine mL_pt rfl rfl rfl rfl ?_ | refine mL_box rfl ?_ ?_ | refine mL_agg rfl ?_ ?_ | exact mCs_nil0 | refine mCs_d ?_ ?_ | refine mCs_nil ?_ | refine mCs_own rfl ?_ rfl ?_ | refine mCs_pt rfl rfl rfl ?_
        all_goals first | with_reducible rfl | (first | with_reducible rfl | exact congrArg D.i (wrap64_of (by omega)) | (refine congrArg D.i ?_; rw [wrap64_of (by omega)]; omega) | (simp [krows_length, trues_length]; done) | exact (krows_succ _).symm | exact (trues_succ _).symm | exact rfl)
      · skip
        exact absurd c16 (by decide)
    · skip
      exact absurd c5 (by decide)
  · skip
    subst h0
    refine SW.seq ?_
    refine SW.seq ?_
    refine SW.regT tabOk [0, 1, 2, 5] ?_
    refine And.intro trivial (And.intro trivial ?_)
    refine SW.cond rfl (fun c5 => ?_) (fun c5 => ?_)
    · skip
      have hj2 : j < 3 := by simp at c5; omega
      refine SW.skip ?_
      refine SW.seq ?_
      refine SW.block ?_
      refine SW.seq ?_
      refine SW.regD tabOk mo [0, 1, 2] ?_
      refine And.intro (by first | trivial | rfl) (And.intro (Nat.le_of_ble_eq_true (by kernel_rfl)) (And.intro trivial ?_))
      refine ex_pure (s_impl_KeeperStart _ (by first | rfl | (simp [isNode, inB]; omega))) rfl rfl rfl rfl rfl rfl rfl rfl ?_
      refine And.intro (by first | trivial | exact Nat.le_of_ble_eq_true rfl | exact ⟨rfl, Nat.le_of_ble_eq_true rfl⟩ | omega | ((repeat' apply And.intro) <;> first | trivial | rfl | exact Nat.le_of_ble_eq_true rfl | omega) | (simp; done) | (simp; omega)) (And.intro (by refine ⟨rfl, krows_length _, by simp, ?_⟩; show (_ + 1) * 64 ≤ _; omega) (And.intro (by first | trivial | rfl) (And.intro ⟨by kernel_rfl, Nat.le_of_ble_eq_true (by kernel_rfl)⟩ (And.intro (by kernel_rfl) ?_))))
      refine SW.seq ?_
      refine SW.regT tabOk [0, 1, 2, 16] ?_
      refine And.intro trivial (And.intro trivial ?_)
      refine SW.cond rfl (fun c16 => ?_) (fun c16 => ?_)
      · skip
        refine SW.regT tabOk [0, 1, 2] ?_
        refine And.intro (by first | trivial | rfl) (And.intro (Nat.le_of_ble_eq_true (by kernel_rfl)) (And.intro (by first | trivial | exact Nat.le_of_ble_eq_true rfl | exact ⟨rfl, Nat.le_of_ble_eq_true rfl⟩ | omega | ((repeat' apply And.intro) <;> first | trivial | rfl | exact Nat.le_of_ble_eq_true rfl | omega) | (simp; done) | (simp; omega)) (And.intro (by refine ⟨rfl, trues_length _, by simp, ?_⟩; show (_ + 1) * 1 ≤ _; omega) (And.intro (by first | trivial | rfl) (And.intro ⟨by kernel_rfl, Nat.le_of_ble_eq_true (by kernel_rfl)⟩ ?_)))))
        refine SW.regT tabOk [0, 1, 2] ?_
        refine And.intro trivial (And.intro trivial (And.intro trivial ?_))
        refine wk [(.t 0, .v (.e (.c (.pt 0 0)))), (.t 1, .v (.e (.c (.pt 1 0)))), (.t 2, .v (I (((j + 1) + 1 : Nat) : Int))), (.o 0, .box 27 [.d (.i 0), .nil, .nil, .nil, .nil, .nil]), (.o 1, .box 27 [.d (.i 0), .own 13 ((j + 1) + 1), .own 20 ((j + 1)), .nil, .nil, .nil]), (.o 13, .row 36 5 (krows ((j + 1) + 1))), (.o 20, .row 4 1 (trues ((j + 1))))] [] [] (⟨4 - (j + 1 + 1), by omega, j + 1 + 1, rfl, by omega, .inr (.inr ⟨j + 1, ⟨rfl, by omega⟩, rfl⟩)⟩) ?_ rfl rfl
        repeat' first | exact trivial | refine mL_nil rfl ?_ | refine mL_d rfl ?_ ?_ | refine mL_own rfl rfl ?_ rfl ?_ | refine mL_row rfl ?_ ?_ | refine mL_pt rfl rfl rfl rfl ?_ | refine mL_box rfl ?_ ?_ | refine mL_agg rfl ?_ ?_ | exact mCs_nil0 | refine mCs_d ?_ ?_ | refine mCs_nil ?_ | refine mCs_own rfl ?_ rfl ?_ | refine mCs_pt rfl rfl rfl ?_
        all_goals first | with_reducible rfl | (first | with_reducible rfl | exact congrArg D.i (wrap64_of (by omega)) | (refine congrArg D.i ?_; rw [wrap64_of (by omega)]; omega) | (simp [krows_length, trues_length]; done) | exact (krows_succ _).symm | exact (trues_succ _).symm | exact rfl)
      · skip
        first | (simp at c16; done) | (simp at c16; omega)
    · skip
      have hj4 : j = 3 := by simp at c5; omega
      subst hj4
      refine SW.exit ?_
      refine SW.seq ?_
      refine SW.regT tabOk [0] ?_
      refine And.intro (by first | trivial | exact Nat.le_of_ble_eq_true rfl | exact ⟨rfl, Nat.le_of_ble_eq_true rfl⟩ | omega | ((repeat' apply And.intro) <;> first | trivial | rfl | exact Nat.le_of_ble_eq_true rfl | omega) | (simp; done) | (simp; omega)) ?_
      refine ex_call (robj := [(13, .row 36 5 (krows 4)), (20, .row 4 1 (trues 3))]) (rl := [(0, 30), (1, 31)]) (bor := [13, 20]) (s_impl_riverCopy (krows 4) (trues 3) (krows_isK 4) (by rw [krows_length]; decide) (trues_len1 3) (by rw [trues_length]; decide)) rfl rfl rfl rfl ⟨mL_agg rfl (mCs_d rfl (mCs_froze rfl rfl (krows_length 4) rfl (mCs_froze rfl rfl (trues_length 3) rfl (mCs_nil (mCs_nil (mCs_nil mCs_nil0)))))) trivial, rfl⟩ rfl (.inr sc_river) (robjOk_spec ⟨rfl, rfl, trivial⟩) (fun j hj => by simp [newIds, objIds, memN] at hj; rcases hj with rfl | rfl <;> rfl) ?_
      refine And.intro ⟨by kernel_rfl, Nat.le_of_ble_eq_true (by kernel_rfl)⟩ ?_
      refine SW.ret ?_
      refine retOk _ [(0, 30), (1, 31)] [] rfl ?_ rfl rfl
      repeat' first | exact trivial | refine mL_nil rfl ?_ | refine mL_d rfl ?_ ?_ | refine mL_own rfl rfl ?_ rfl ?_ | refine mL_row rfl ?_ ?_ | refine mL_pt rfl rfl rfl rfl ?_ | refine mL_box rfl ?_ ?_ | refine mL_agg rfl ?_ ?_ | exact mCs_nil0 | refine mCs_d ?_ ?_ | refine mCs_nil ?_ | refine mCs_own rfl ?_ rfl ?_ | refine mCs_pt rfl rfl rfl ?_
      all_goals first | with_reducible rfl | exact krows_length 4 | exact trues_length 3 | rfl

set_option maxHeartbeats 1600000 in
theorem s_laws_FnExactRiverStart  : Ab.Spec Try.prog 3 0 [] [(.t 0, .v (B true))] := by
  refine spec_of_body tabOk Try.func3 rfl (by kernel_rfl) (by decide) (by kernel_rfl) rfl ?_
  refine SW.seq ?_
  refine SW.regT tabOk [] ?_
  refine And.intro trivial ?_
  refine SW.seq ?_
  refine SW.regT tabOk [1] ?_
  refine ex_callP [(0, 60), (1, 61)] s_spec_RiverStart rfl rfl rfl rfl rfl rfl rfl (fun j hj => by simp [newIds, objIds, memN] at hj; rcases hj with rfl | rfl <;> rfl) ?_
  refine And.intro trivial (And.intro ⟨by kernel_rfl, Nat.le_of_ble_eq_true (by kernel_rfl)⟩ ?_)
  refine SW.seq ?_
  refine SW.regT tabOk [1, 2] ?_
  refine ex_callP [(0, 62), (1, 63)] s_impl_RiverStart rfl rfl rfl rfl rfl rfl rfl (fun j hj => by simp [newIds, objIds, memN] at hj; rcases hj with rfl | rfl <;> rfl) ?_
  refine And.intro trivial (And.intro ⟨by kernel_rfl, Nat.le_of_ble_eq_true (by kernel_rfl)⟩ ?_)
  refine SW.seq ?_
  refine SW.seq ?_
  refine SW.regT tabOk [1, 2, 11] ?_
  refine And.intro (by first | trivial | exact Nat.le_of_ble_eq_true rfl | exact ⟨rfl, Nat.le_of_ble_eq_true rfl⟩ | omega | ((repeat' apply And.intro) <;> first | trivial | rfl | exact Nat.le_of_ble_eq_true rfl | omega) | (simp; done) | (simp; omega)) (And.intro (by first | trivial | exact Nat.le_of_ble_eq_true rfl | exact ⟨rfl, Nat.le_of_ble_eq_true rfl⟩ | omega | ((repeat' apply And.intro) <;> first | trivial | rfl | exact Nat.le_of_ble_eq_true rfl | omega) | (simp; done) | (simp; omega)) ?_)
  refine ex_call (robj := [(62, .row 36 5 (krows 4)), (63, .row 4 1 (trues 3)), (60, .row 36 5 (krows 4)), (61, .row 4 1 (trues 3))]) (rl := []) (bor := [62, 63, 60, 61]) (s_laws_eqRiver (krows 4) (krows_isK 4) (by rw [krows_length]; decide) (List.replicate 3 true) (by simp)) rfl rfl rfl rfl ⟨mL_agg rfl (mCs_d rfl (mCs_froze rfl rfl (krows_length 4) rfl (mCs_froze rfl rfl (trues_length 3) (congrArg D.sl (trues_bool 3).symm) (mCs_nil (mCs_nil (mCs_nil mCs_nil0)))))) (mL_agg rfl (mCs_d rfl (mCs_froze rfl rfl (krows_length 4) rfl (mCs_froze rfl rfl (trues_length 3) (congrArg D.sl (trues_bool 3).symm) (mCs_nil (mCs_nil (mCs_nil mCs_nil0)))))) trivial), rfl⟩ rfl (.inr (scalarSt_v rfl)) (robjOk_spec ⟨rfl, rfl, rfl, rfl, trivial⟩) (fun _ hj => nomatch hj) ?_
  refine And.intro trivial ?_
  refine SW.cond rfl (fun c11 => ?_) (fun c11 => ?_)
  · skip
    exact absurd c11 (by decide)
  · skip
    refine SW.skip ?_
    refine SW.seq ?_
    refine SW.regT tabOk [1, 2, 3] ?_
    refine And.intro trivial ?_
    refine SW.seq ?_
    refine SW.regT tabOk [1, 2, 3] ?_
    refine And.intro (by first | trivial | exact Nat.le_of_ble_eq_true rfl | exact ⟨rfl, Nat.le_of_ble_eq_true rfl⟩ | omega | ((repeat' apply And.intro) <;> first | trivial | rfl | exact Nat.le_of_ble_eq_true rfl | omega) | (simp; done) | (simp; omega)) (And.intro trivial ?_)
    refine ex_call (robj := [(62, .row 36 5 (krows 4)), (63, .row 4 1 (trues 3))]) (rl := [(0, 62), (1, 63)]) (bor := []) (s_laws_markRiver (krows 4) (trues 3) 1 (krows_isK 4) (by rw [krows_length]; decide) (trues_len1 3) (by rw [trues_length]; decide) (by omega)) rfl rfl rfl rfl ⟨mL_agg rfl (mCs_d rfl (mCs_own rfl (krows_length 4).symm rfl (mCs_own rfl (trues_length 3).symm rfl (mCs_nil (mCs_nil (mCs_nil mCs_nil0)))))) (mL_d rfl rfl (mL_row rfl rfl (mL_row rfl rfl trivial))), rfl⟩ rfl (.inl rfl) (robjOk_spec ⟨rfl, rfl, trivial⟩) (fun _ hj => nomatch hj) ?_
    refine And.intro trivial ?_
    refine SW.seq ?_
    refine SW.wk (J := fun s => s = [(.t 1, .v (.e (.c (.pt 1 0)))), (.t 2, .v (.e (.c (.pt 2 0)))), (.t 3, .v (I (1 + 4 * ((4 : Nat) : Int) + ((3 : Nat) : Int)))), (.o 1, .box 27 [.d (.i 0), .own 60 (4), .own 61 (3), .nil, .nil, .nil]), (.o 2, .box 27 [.d (.i 0), .own 62 (4), .own 63 (3), .nil, .nil, .nil]), (.o 60, .row 36 5 (krows 4)), (.o 61, .row 4 1 (trues 3)), (.o 62, .row 36 5 (mrows 1 4)), (.o 63, .row 4 1 (mbits (1 + 4 * ((4 : Nat) : Int)) 3))]) ?_ ?_
    · skip
      refine wk [(.t 1, .v (.e (.c (.pt 1 0)))), (.t 2, .v (.e (.c (.pt 2 0)))), (.t 3, .v (I (1 + 4 * ((4 : Nat) : Int) + ((3 : Nat) : Int)))), (.o 1, .box 27 [.d (.i 0), .own 60 (4), .own 61 (3), .nil, .nil, .nil]), (.o 2, .box 27 [.d (.i 0), .own 62 (4), .own 63 (3), .nil, .nil, .nil]), (.o 60, .row 36 5 (krows 4)), (.o 61, .row 4 1 (trues 3)), (.o 62, .row 36 5 (mrows 1 4)), (.o 63, .row 4 1 (mbits (1 + 4 * ((4 : Nat) : Int)) 3))] [] [] (rfl) ?_ rfl rfl
      repeat' first | exact trivial | refine mL_nil rfl ?_ | refine mL_d rfl ?_ ?_ | refine mL_own rfl rfl ?_ rfl ?_ | refine mL_row rfl ?_ ?_ | refine mL_pt rfl rfl rfl rfl ?_ | refine mL_box rfl ?_ ?_ | refine mL_agg rfl ?_ ?_ | exact mCs_nil0 | refine mCs_d ?_ ?_ | refine mCs_nil ?_ | refine mCs_own rfl ?_ rfl ?_ | refine mCs_pt rfl rfl rfl ?_
      all_goals first | with_reducible rfl | (first | with_reducible rfl | (rw [krows_length, trues_length]; done) | (rw [krows_length]; done) | rfl)
    rintro s rfl
    refine SW.regT tabOk [1, 2, 3, 4] ?_
    refine And.intro trivial ?_
    refine SW.seq ?_
    refine SW.regT tabOk [1, 2, 3, 4] ?_
    refine And.intro (by first | trivial | exact Nat.le_of_ble_eq_true rfl | exact ⟨rfl, Nat.le_of_ble_eq_true rfl⟩ | omega | ((repeat' apply And.intro) <;> first | trivial | rfl | exact Nat.le_of_ble_eq_true rfl | omega) | (simp; done) | (simp; omega)) (And.intro trivial ?_)
    refine ex_call (robj := [(62, .row 36 5 (mrows 1 4)), (63, .row 4 1 (mbits (1 + 4 * ((4 : Nat) : Int)) 3))]) (rl := []) (bor := [62, 63]) (s_laws_heldRiver 1 4 3 (by decide) (by decide) (by omega)) rfl rfl rfl rfl ⟨mL_agg rfl (mCs_d rfl (mCs_froze rfl rfl (mrows_length 1 4) rfl (mCs_froze rfl rfl (mbits_length _ 3) rfl (mCs_nil (mCs_nil (mCs_nil mCs_nil0)))))) (mL_d rfl rfl trivial), rfl⟩ rfl (.inr (scalarSt_v rfl)) (robjOk_spec ⟨rfl, rfl, trivial⟩) (fun _ hj => nomatch hj) ?_
    refine And.intro trivial ?_
    refine SW.seq ?_
    refine SW.seq ?_
    refine SW.regT tabOk [1, 2, 3, 4, 19] ?_
    refine And.intro trivial (And.intro trivial ?_)
    refine SW.cond rfl (fun c19 => ?_) (fun c19 => ?_)
    · skip
      exact absurd c19 (by decide)
    · skip
      refine SW.skip ?_
      refine SW.seq ?_
      refine SW.seq ?_
      refine SW.regT tabOk [1, 2, 3, 22] ?_
      refine And.intro trivial (And.intro trivial (And.intro trivial ?_))
      refine SW.cond rfl (fun c22 => ?_) (fun c22 => ?_)
      · skip
        exact absurd c22 (by decide)
      · skip
        refine SW.skip ?_
        refine SW.seq ?_
        refine SW.regT tabOk [1, 2, 3, 5] ?_
        refine ex_callP [(0, 64), (1, 65)] s_impl_RiverStart rfl rfl rfl rfl rfl rfl rfl (fun j hj => by simp [newIds, objIds, memN] at hj; rcases hj with rfl | rfl <;> rfl) ?_
        refine And.intro trivial (And.intro ⟨by kernel_rfl, Nat.le_of_ble_eq_true (by kernel_rfl)⟩ ?_)
        refine SW.seq ?_
        refine SW.seq ?_
        refine SW.regT tabOk [2, 3, 27] ?_
        refine And.intro (by first | trivial | exact Nat.le_of_ble_eq_true rfl | exact ⟨rfl, Nat.le_of_ble_eq_true rfl⟩ | omega | ((repeat' apply And.intro) <;> first | trivial | rfl | exact Nat.le_of_ble_eq_true rfl | omega) | (simp; done) | (simp; omega)) (And.intro (by first | trivial | exact Nat.le_of_ble_eq_true rfl | exact ⟨rfl, Nat.le_of_ble_eq_true rfl⟩ | omega | ((repeat' apply And.intro) <;> first | trivial | rfl | exact Nat.le_of_ble_eq_true rfl | omega) | (simp; done) | (simp; omega)) ?_)
        refine ex_call (robj := [(64, .row 36 5 (krows 4)), (65, .row 4 1 (trues 3)), (60, .row 36 5 (krows 4)), (61, .row 4 1 (trues 3))]) (rl := []) (bor := [64, 65, 60, 61]) (s_laws_eqRiver (krows 4) (krows_isK 4) (by rw [krows_length]; decide) (List.replicate 3 true) (by simp)) rfl rfl rfl rfl ⟨mL_agg rfl (mCs_d rfl (mCs_froze rfl rfl (krows_length 4) rfl (mCs_froze rfl rfl (trues_length 3) (congrArg D.sl (trues_bool 3).symm) (mCs_nil (mCs_nil (mCs_nil mCs_nil0)))))) (mL_agg rfl (mCs_d rfl (mCs_froze rfl rfl (krows_length 4) rfl (mCs_froze rfl rfl (trues_length 3) (congrArg D.sl (trues_bool 3).symm) (mCs_nil (mCs_nil (mCs_nil mCs_nil0)))))) trivial), rfl⟩ rfl (.inr (scalarSt_v rfl)) (robjOk_spec ⟨rfl, rfl, rfl, rfl, trivial⟩) (fun _ hj => nomatch hj) ?_
        refine And.intro trivial ?_
        refine SW.cond rfl (fun c27 => ?_) (fun c27 => ?_)
        · skip
          exact absurd c27 (by decide)
        · skip
          refine SW.skip ?_
          refine SW.seq ?_
          refine SW.regT tabOk [2, 3, 4] ?_
          refine And.intro trivial ?_
          refine SW.seq ?_
          refine SW.regT tabOk [3, 4] ?_
          refine And.intro (by first | trivial | exact Nat.le_of_ble_eq_true rfl | exact ⟨rfl, Nat.le_of_ble_eq_true rfl⟩ | omega | ((repeat' apply And.intro) <;> first | trivial | rfl | exact Nat.le_of_ble_eq_true rfl | omega) | (simp; done) | (simp; omega)) (And.intro trivial ?_)
          refine ex_call (robj := [(62, .row 36 5 (mrows 1 4)), (63, .row 4 1 (mbits (1 + 4 * ((4 : Nat) : Int)) 3))]) (rl := []) (bor := [62, 63]) (s_laws_heldRiver 1 4 3 (by decide) (by decide) (by omega)) rfl rfl rfl rfl ⟨mL_agg rfl (mCs_d rfl (mCs_froze rfl rfl (mrows_length 1 4) rfl (mCs_froze rfl rfl (mbits_length _ 3) rfl (mCs_nil (mCs_nil (mCs_nil mCs_nil0)))))) (mL_d rfl rfl trivial), rfl⟩ rfl (.inr (scalarSt_v rfl)) (robjOk_spec ⟨rfl, rfl, trivial⟩) (fun _ hj => nomatch hj) ?_
          refine And.intro trivial ?_
          refine SW.seq ?_
          refine SW.seq ?_
          refine SW.regT tabOk [3, 4, 32] ?_
          refine And.intro trivial (And.intro trivial ?_)
          refine SW.cond rfl (fun c32 => ?_) (fun c32 => ?_)
          · skip
            exact absurd c32 (by decide)
          · skip
            refine SW.skip ?_
            refine SW.seq ?_
            refine SW.seq ?_
            refine SW.regT tabOk [35] ?_
            refine And.intro trivial (And.intro trivial (And.intro trivial ?_))
            refine SW.cond rfl (fun c35 => ?_) (fun c35 => ?_)
            · skip
              exact absurd c35 (by decide)
            · skip
              refine SW.skip ?_
              refine SW.seq ?_
              refine SW.regT tabOk [0] ?_
              refine And.intro trivial ?_
              refine SW.ret ?_
              refine retOk1 rfl ?_
              rfl

end Go.Proofs.Ytlkfibmjdigmiab
