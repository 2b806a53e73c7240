import Derived.Test.YtlkfibmjdigmiabTab
import Derived.Test.YtlkfibmjdigmiabAbDn
import Derived.Test.YtlkfibmjdigmiabAbBr
namespace Go.Proofs.Ytlkfibmjdigmiab
open Go Go.Ab Go.RowKit
set_option linter.unusedVariables false
set_option linter.unusedSimpArgs false
theorem mo : Try.prog.follows .mixedOrders = true := by kernel_rfl

theorem s_impl_in (n lo hi : Int) : Ab.Spec Try.prog 38 3 [(.t 0, .v (I n)), (.t 1, .v (I lo)), (.t 2, .v (I hi))] [(.t 0, .v (B (inB n lo hi)))] := by
  refine spec_of_body tabOk Try.func38 rfl (by kernel_rfl) (by decide) (by kernel_rfl) rfl ?_
  refine SW.seq ?_
  refine SW.regT tabOk [0, 1, 2, 11, 12, 13] ?_
  refine And.intro trivial ?_
  refine SW.seq ?_
  refine SW.regT tabOk [6] ?_
  refine And.intro trivial (And.intro trivial (And.intro trivial (And.intro trivial (And.intro (fun h => trivial) (And.intro (by intro h; (repeat' apply And.intro) <;> first | exact h | trivial) (And.intro (fun h => trivial) (And.intro (by intro h; (repeat' apply And.intro) <;> first | exact h | trivial) (And.intro (fun h => trivial) (And.intro (by intro h; (repeat' apply And.intro) <;> first | exact h | trivial) (And.intro (by constructor <;> intro h <;> first | trivial | exact h | (simp [gb, condOf]; done) | (simpa [gb, condOf] using h) | (simp only [gb, condOf] at *; grind) | (simp_all [gb, condOf]; done)) (And.intro trivial ?_)))))))))))
  refine SW.ret ?_
  refine retOk1 rfl ?_
  simp [inB, gb]

theorem s_spec_l6In (n lo hi : Int) : Ab.Spec Try.prog 37 3 [(.t 0, .v (I n)), (.t 1, .v (I lo)), (.t 2, .v (I hi))] [(.t 0, .v (B (inB n lo hi)))] := by
  refine spec_of_body tabOk Try.func37 rfl (by kernel_rfl) (by decide) (by kernel_rfl) rfl ?_
  refine SW.seq ?_
  refine SW.regT tabOk [0, 1, 2, 11, 12, 13] ?_
  refine And.intro trivial ?_
  refine SW.seq ?_
  refine SW.regT tabOk [6] ?_
  refine And.intro trivial (And.intro trivial (And.intro trivial (And.intro trivial (And.intro (fun h => trivial) (And.intro (by intro h; (repeat' apply And.intro) <;> first | exact h | trivial) (And.intro (fun h => trivial) (And.intro (by intro h; (repeat' apply And.intro) <;> first | exact h | trivial) (And.intro (fun h => trivial) (And.intro (by intro h; (repeat' apply And.intro) <;> first | exact h | trivial) (And.intro (by constructor <;> intro h <;> first | trivial | exact h | (simp [gb, condOf]; done) | (simpa [gb, condOf] using h) | (simp only [gb, condOf] at *; grind) | (simp_all [gb, condOf]; done)) (And.intro trivial ?_)))))))))))
  refine SW.ret ?_
  refine retOk1 rfl ?_
  simp [inB, gb]

theorem s_impl_isNode (n : Int) : Ab.Spec Try.prog 25 1 [(.t 0, .v (I n))] [(.t 0, .v (B (isNode n)))] := by
  refine spec_of_body tabOk Try.func25 rfl (by kernel_rfl) (by decide) (by kernel_rfl) rfl ?_
  refine SW.seq ?_
  refine SW.regT tabOk [0] ?_
  refine And.intro trivial ?_
  refine SW.seq ?_
  refine SW.regT tabOk [2] ?_
  refine And.intro trivial ?_
  refine ex_pure (s_impl_in _ _ _) rfl rfl rfl rfl rfl rfl rfl rfl ?_
  refine And.intro trivial ?_
  refine SW.ret ?_
  refine retOk1 rfl ?_
  first | rfl | (simp; done) | (simp_all; done)

theorem s_spec_l3Keeper (n : Int) : Ab.Spec Try.prog 24 1 [(.t 0, .v (I n))] [(.t 0, .v (B (isNode n)))] := by
  refine spec_of_body tabOk Try.func24 rfl (by kernel_rfl) (by decide) (by kernel_rfl) rfl ?_
  refine SW.seq ?_
  refine SW.regT tabOk [0] ?_
  refine And.intro trivial ?_
  refine SW.seq ?_
  refine SW.regT tabOk [2] ?_
  refine And.intro trivial ?_
  refine ex_pure (s_spec_l6In _ _ _) rfl rfl rfl rfl rfl rfl rfl rfl ?_
  refine And.intro trivial ?_
  refine SW.ret ?_
  refine retOk1 rfl ?_
  first | rfl | (simp; done) | (simp_all; done)

theorem s_impl_KeeperStart (n : Int) (hn : isNode n = true) : Ab.Spec Try.prog 10 1 [(.t 0, .v (I n))] [(.t 0, .v (.e (.agg [.d (.i (n)), .d (.b (true)), .d (.s ([])), .d (.i (0)), .nil])))] := by
  refine spec_of_body tabOk Try.func10 rfl (by kernel_rfl) (by decide) (by kernel_rfl) rfl ?_
  refine SW.seq ?_
  refine SW.regT tabOk [0, 2] ?_
  refine And.intro trivial ?_
  refine SW.seq ?_
  refine SW.seq ?_
  refine SW.regT tabOk [0, 2, 5] ?_
  refine And.intro trivial ?_
  refine ex_pure (s_impl_isNode _) rfl rfl rfl rfl rfl rfl rfl rfl ?_
  refine And.intro trivial ?_
  refine SW.cond rfl (fun c5 => ?_) (fun c5 => ?_)
  · skip
    rw [hn] at c5
    cases c5
  · skip
    refine SW.skip ?_
    refine SW.seq ?_
    refine SW.regT tabOk [2] ?_
    refine And.intro trivial (And.intro (by first | trivial | exact Nat.le_of_ble_eq_true rfl | exact ⟨rfl, Nat.le_of_ble_eq_true rfl⟩ | omega | ((repeat' apply And.intro) <;> first | trivial | rfl | exact Nat.le_of_ble_eq_true rfl | omega) | (simp; done) | (simp; omega)) (And.intro (by first | trivial | exact Nat.le_of_ble_eq_true rfl | exact ⟨rfl, Nat.le_of_ble_eq_true rfl⟩ | omega | ((repeat' apply And.intro) <;> first | trivial | rfl | exact Nat.le_of_ble_eq_true rfl | omega) | (simp; done) | (simp; omega)) ?_))
    refine SW.ret ?_
    refine retOkP rfl rfl ?_
    rfl

theorem s_spec_KeeperStart (n : Int) (hn : isNode n = true) : Ab.Spec Try.prog 9 1 [(.t 0, .v (I n))] [(.t 0, .v (.e (.agg [.d (.i (n)), .d (.b (true)), .d (.s ([])), .d (.i (0)), .nil])))] := by
  refine spec_of_body tabOk Try.func9 rfl (by kernel_rfl) (by decide) (by kernel_rfl) rfl ?_
  refine SW.seq ?_
  refine SW.regT tabOk [0, 2] ?_
  refine And.intro trivial ?_
  refine SW.seq ?_
  refine SW.seq ?_
  refine SW.regT tabOk [0, 2, 5] ?_
  refine And.intro trivial ?_
  refine ex_pure (s_spec_l3Keeper _) rfl rfl rfl rfl rfl rfl rfl rfl ?_
  refine And.intro trivial ?_
  refine SW.cond rfl (fun c5 => ?_) (fun c5 => ?_)
  · skip
    rw [hn] at c5
    cases c5
  · skip
    refine SW.skip ?_
    refine SW.seq ?_
    refine SW.regT tabOk [2] ?_
    refine And.intro trivial (And.intro (by first | trivial | exact Nat.le_of_ble_eq_true rfl | exact ⟨rfl, Nat.le_of_ble_eq_true rfl⟩ | omega | ((repeat' apply And.intro) <;> first | trivial | rfl | exact Nat.le_of_ble_eq_true rfl | omega) | (simp; done) | (simp; omega)) (And.intro (by first | trivial | exact Nat.le_of_ble_eq_true rfl | exact ⟨rfl, Nat.le_of_ble_eq_true rfl⟩ | omega | ((repeat' apply And.intro) <;> first | trivial | rfl | exact Nat.le_of_ble_eq_true rfl | omega) | (simp; done) | (simp; omega)) ?_))
    refine SW.ret ?_
    refine retOkP rfl rfl ?_
    rfl

theorem s_laws_eqShelf (l : List UInt8) (a : Int) : Ab.Spec Try.prog 41 2 [(.t 0, .v (.e (.agg [.d (.s l), .d (.i a)]))), (.t 1, .v (.e (.agg [.d (.s l), .d (.i a)])))] [(.t 0, .v (B true))] := by
  refine spec_of_body tabOk Try.func41 rfl (by kernel_rfl) (by decide) (by kernel_rfl) rfl ?_
  refine SW.seq ?_
  refine SW.regT tabOk [2, 3] ?_
  refine And.intro trivial (And.intro trivial (And.intro trivial ?_))
  refine SW.seq ?_
  refine SW.seq ?_
  refine SW.regT tabOk [2, 3, 9] ?_
  refine And.intro (by first | trivial | rfl) (And.intro (by first | trivial | exact Nat.le_of_ble_eq_true rfl | exact ⟨rfl, Nat.le_of_ble_eq_true rfl⟩ | omega | ((repeat' apply And.intro) <;> first | trivial | rfl | exact Nat.le_of_ble_eq_true rfl | omega) | (simp; done) | (simp; omega)) (And.intro (by first | trivial | rfl) (And.intro (by first | trivial | exact Nat.le_of_ble_eq_true rfl | exact ⟨rfl, Nat.le_of_ble_eq_true rfl⟩ | omega | ((repeat' apply And.intro) <;> first | trivial | rfl | exact Nat.le_of_ble_eq_true rfl | omega) | (simp; done) | (simp; omega)) (And.intro (by first | trivial | exact Nat.le_of_ble_eq_true rfl | exact ⟨rfl, Nat.le_of_ble_eq_true rfl⟩ | omega | ((repeat' apply And.intro) <;> first | trivial | rfl | exact Nat.le_of_ble_eq_true rfl | omega) | (simp; done) | (simp; omega)) ?_))))
  refine SW.cond rfl (fun c9 => ?_) (fun c9 => ?_)
  · skip
    simp at c9
  · skip
    refine SW.skip ?_
    refine SW.seq ?_
    refine SW.seq ?_
    refine SW.regT tabOk [14] ?_
    refine And.intro (by first | trivial | rfl) (And.intro (by first | trivial | exact Nat.le_of_ble_eq_true rfl | exact ⟨rfl, Nat.le_of_ble_eq_true rfl⟩ | omega | ((repeat' apply And.intro) <;> first | trivial | rfl | exact Nat.le_of_ble_eq_true rfl | omega) | (simp; done) | (simp; omega)) (And.intro (by first | trivial | rfl) (And.intro (by first | trivial | exact Nat.le_of_ble_eq_true rfl | exact ⟨rfl, Nat.le_of_ble_eq_true rfl⟩ | omega | ((repeat' apply And.intro) <;> first | trivial | rfl | exact Nat.le_of_ble_eq_true rfl | omega) | (simp; done) | (simp; omega)) (And.intro trivial ?_))))
    refine SW.cond rfl (fun c14 => ?_) (fun c14 => ?_)
    · skip
      simp at c14
    · skip
      refine SW.skip ?_
      refine SW.seq ?_
      refine SW.regT tabOk [4] ?_
      refine And.intro trivial ?_
      refine SW.ret ?_
      refine retOk1 rfl ?_
      rfl

theorem s_eqHalfS_0  : Ab.Spec Try.prog 42 2 [(.t 0, .v (Dv (.sl []))), (.t 1, .v (Dv (.sl [])))] [(.t 0, .v (B true))] := by
  refine spec_of_body tabOk Try.func42 rfl (by kernel_rfl) (by decide) (by kernel_rfl) rfl ?_
  refine SW.seq ?_
  refine SW.regT tabOk [0, 1] ?_
  refine And.intro trivial ?_
  refine SW.seq ?_
  refine SW.seq ?_
  refine SW.regT tabOk [0, 1, 10] ?_
  refine And.intro trivial (And.intro (by first | trivial | exact Nat.le_of_ble_eq_true rfl | exact ⟨rfl, Nat.le_of_ble_eq_true rfl⟩ | omega | ((repeat' apply And.intro) <;> first | trivial | rfl | exact Nat.le_of_ble_eq_true rfl | omega) | (simp; done) | (simp; omega)) (And.intro trivial (And.intro (by first | trivial | exact Nat.le_of_ble_eq_true rfl | exact ⟨rfl, Nat.le_of_ble_eq_true rfl⟩ | omega | ((repeat' apply And.intro) <;> first | trivial | rfl | exact Nat.le_of_ble_eq_true rfl | omega) | (simp; done) | (simp; omega)) (And.intro trivial ?_))))
  refine SW.cond rfl (fun c10 => ?_) (fun c10 => ?_)
  · skip
    simp at c10
  · skip
    refine SW.skip ?_
    refine SW.seq ?_
    refine SW.seq ?_
    refine SW.regT tabOk [0, 1, 5] ?_
    refine And.intro trivial ?_
    refine SW.block ?_
    -- live at the head: [0, 1, 5]
    refine SW.loopW (n := 0) (fun _ s => s = [(.t 0, .v (Dv (.sl []))), (.t 1, .v (Dv (.sl []))), (.t 5, .v (I 0))]) ?_ ?_
    · skip
      refine wk [(.t 0, .v (Dv (.sl []))), (.t 1, .v (Dv (.sl []))), (.t 5, .v (I 0))] [] [] (rfl) ?_ rfl rfl
      repeat' first | exact trivial | refine mL_nil rfl ?_ | refine mL_d rfl ?_ ?_ | refine mL_own rfl rfl ?_ rfl ?_ | refine mL_row rfl ?_ ?_ | refine mL_pt rfl rfl rfl rfl ?_ | refine mL_box rfl ?_ ?_ | refine mL_agg rfl ?_ ?_ | exact mCs_nil0 | refine mCs_d ?_ ?_ | refine mCs_nil ?_ | refine mCs_own rfl ?_ rfl ?_ | refine mCs_pt rfl rfl rfl ?_
      all_goals first | with_reducible rfl | (first | rfl | (simp; done) | omega)
    rintro n s rfl
    refine SW.seq ?_
    refine SW.seq ?_
    refine SW.regT tabOk [0, 1, 5, 14] ?_
    refine And.intro trivial (And.intro trivial (And.intro (by first | trivial | exact Nat.le_of_ble_eq_true rfl | exact ⟨rfl, Nat.le_of_ble_eq_true rfl⟩ | omega | ((repeat' apply And.intro) <;> first | trivial | rfl | exact Nat.le_of_ble_eq_true rfl | omega) | (simp; done) | (simp; omega)) (And.intro trivial ?_)))
    refine SW.cond rfl (fun c14 => ?_) (fun c14 => ?_)
    · skip
      simp at c14
    · skip
      refine SW.exit ?_
      refine SW.seq ?_
      refine SW.regT tabOk [4] ?_
      refine And.intro trivial ?_
      refine SW.ret ?_
      refine retOk1 rfl ?_
      rfl

theorem s_eqKeeper_0 (i : Int) (u : Bool) (l : List UInt8) (a : Int) : Ab.Spec Try.prog 31 2 [(.t 0, .v (.e (.agg [.d (.i (i)), .d (.b (u)), .d (.s (l)), .d (.i (a)), .d (.sl [])]))), (.t 1, .v (.e (.agg [.d (.i (i)), .d (.b (u)), .d (.s (l)), .d (.i (a)), .d (.sl [])])))] [(.t 0, .v (B true))] := by
  refine spec_of_body tabOk Try.func31 rfl (by kernel_rfl) (by decide) (by kernel_rfl) rfl ?_
  refine SW.seq ?_
  refine SW.regT tabOk [2, 3] ?_
  refine And.intro trivial (And.intro trivial (And.intro trivial ?_))
  refine SW.seq ?_
  refine SW.seq ?_
  refine SW.regT tabOk [2, 3, 9] ?_
  refine And.intro (by first | trivial | rfl) (And.intro (by first | trivial | exact Nat.le_of_ble_eq_true rfl | exact ⟨rfl, Nat.le_of_ble_eq_true rfl⟩ | omega | ((repeat' apply And.intro) <;> first | trivial | rfl | exact Nat.le_of_ble_eq_true rfl | omega) | (simp; done) | (simp; omega)) (And.intro (by first | trivial | rfl) (And.intro (by first | trivial | exact Nat.le_of_ble_eq_true rfl | exact ⟨rfl, Nat.le_of_ble_eq_true rfl⟩ | omega | ((repeat' apply And.intro) <;> first | trivial | rfl | exact Nat.le_of_ble_eq_true rfl | omega) | (simp; done) | (simp; omega)) (And.intro trivial ?_))))
  refine SW.cond rfl (fun c9 => ?_) (fun c9 => ?_)
  · skip
    simp at c9
  · skip
    refine SW.skip ?_
    refine SW.seq ?_
    refine SW.seq ?_
    refine SW.regT tabOk [2, 3, 14] ?_
    refine And.intro (by first | trivial | rfl) (And.intro (by first | trivial | exact Nat.le_of_ble_eq_true rfl | exact ⟨rfl, Nat.le_of_ble_eq_true rfl⟩ | omega | ((repeat' apply And.intro) <;> first | trivial | rfl | exact Nat.le_of_ble_eq_true rfl | omega) | (simp; done) | (simp; omega)) (And.intro (by first | trivial | rfl) (And.intro (by first | trivial | exact Nat.le_of_ble_eq_true rfl | exact ⟨rfl, Nat.le_of_ble_eq_true rfl⟩ | omega | ((repeat' apply And.intro) <;> first | trivial | rfl | exact Nat.le_of_ble_eq_true rfl | omega) | (simp; done) | (simp; omega)) (And.intro trivial ?_))))
    refine SW.cond rfl (fun c14 => ?_) (fun c14 => ?_)
    · skip
      simp at c14
    · skip
      refine SW.skip ?_
      refine SW.seq ?_
      refine SW.seq ?_
      refine SW.regT tabOk [2, 3, 20] ?_
      refine And.intro (by first | trivial | rfl) (And.intro (by first | trivial | exact Nat.le_of_ble_eq_true rfl | exact ⟨rfl, Nat.le_of_ble_eq_true rfl⟩ | omega | ((repeat' apply And.intro) <;> first | trivial | rfl | exact Nat.le_of_ble_eq_true rfl | omega) | (simp; done) | (simp; omega)) (And.intro (by first | trivial | rfl) (And.intro (by first | trivial | exact Nat.le_of_ble_eq_true rfl | exact ⟨rfl, Nat.le_of_ble_eq_true rfl⟩ | omega | ((repeat' apply And.intro) <;> first | trivial | rfl | exact Nat.le_of_ble_eq_true rfl | omega) | (simp; done) | (simp; omega)) ?_)))
      refine ex_pure (s_laws_eqShelf l a) rfl rfl rfl rfl rfl rfl rfl rfl ?_
      refine And.intro trivial ?_
      refine SW.cond rfl (fun c20 => ?_) (fun c20 => ?_)
      · skip
        simp at c20
      · skip
        refine SW.skip ?_
        refine SW.seq ?_
        refine SW.seq ?_
        refine SW.regT tabOk [26] ?_
        refine And.intro (by first | trivial | rfl) (And.intro (by first | trivial | exact Nat.le_of_ble_eq_true rfl | exact ⟨rfl, Nat.le_of_ble_eq_true rfl⟩ | omega | ((repeat' apply And.intro) <;> first | trivial | rfl | exact Nat.le_of_ble_eq_true rfl | omega) | (simp; done) | (simp; omega)) (And.intro (by first | trivial | rfl) (And.intro (by first | trivial | exact Nat.le_of_ble_eq_true rfl | exact ⟨rfl, Nat.le_of_ble_eq_true rfl⟩ | omega | ((repeat' apply And.intro) <;> first | trivial | rfl | exact Nat.le_of_ble_eq_true rfl | omega) | (simp; done) | (simp; omega)) ?_)))
        refine ex_pure s_eqHalfS_0 rfl rfl rfl rfl rfl rfl rfl rfl ?_
        refine And.intro trivial ?_
        refine SW.cond rfl (fun c26 => ?_) (fun c26 => ?_)
        · skip
          simp at c26
        · skip
          refine SW.skip ?_
          refine SW.seq ?_
          refine SW.regT tabOk [4] ?_
          refine And.intro trivial ?_
          refine SW.ret ?_
          refine retOk1 rfl ?_
          rfl

theorem s_laws_eqKeeperS (R : List (List D)) (hR0 : ∀ r ∈ R, isK r) (hl : R.length ≤ 1000) : Ab.Spec Try.prog 12 2 [(.t 0, .v (Dv (.sl R))), (.t 1, .v (Dv (.sl R)))] [(.t 0, .v (B true))] := by
  refine spec_of_body tabOk Try.func12 rfl (by kernel_rfl) (by decide) (by kernel_rfl) rfl ?_
  refine SW.seq ?_
  refine SW.regT tabOk [0, 1] ?_
  refine And.intro trivial ?_
  refine SW.seq ?_
  refine SW.seq ?_
  refine SW.regT tabOk [0, 1, 10] ?_
  refine And.intro trivial (And.intro (by first | trivial | exact Nat.le_of_ble_eq_true rfl | exact ⟨rfl, Nat.le_of_ble_eq_true rfl⟩ | omega | ((repeat' apply And.intro) <;> first | trivial | rfl | exact Nat.le_of_ble_eq_true rfl | omega) | (simp; done) | (simp; omega)) (And.intro trivial (And.intro (by first | trivial | exact Nat.le_of_ble_eq_true rfl | exact ⟨rfl, Nat.le_of_ble_eq_true rfl⟩ | omega | ((repeat' apply And.intro) <;> first | trivial | rfl | exact Nat.le_of_ble_eq_true rfl | omega) | (simp; done) | (simp; omega)) (And.intro trivial ?_))))
  refine SW.cond rfl (fun c10 => ?_) (fun c10 => ?_)
  · skip
    simp at c10
  · skip
    refine SW.skip ?_
    refine SW.seq ?_
    refine SW.seq ?_
    refine SW.regT tabOk [0, 1, 5] ?_
    refine And.intro trivial ?_
    refine SW.block ?_
    -- live at the head: [0, 1, 5]
    refine SW.loopW (n := R.length) (fun n s => ∃ i : Nat, n = R.length - i ∧ i ≤ R.length ∧ s = [(.t 0, .v (Dv (.sl R))), (.t 1, .v (Dv (.sl R))), (.t 5, .v (I (i : Nat)))]) ?_ ?_
    · skip
      refine wk [(.t 0, .v (Dv (.sl R))), (.t 1, .v (Dv (.sl R))), (.t 5, .v (I (0 : Nat)))] [] [] (⟨0, rfl, Nat.zero_le _, rfl⟩) ?_ rfl rfl
      repeat' first | exact trivial | refine mL_nil rfl ?_ | refine mL_d rfl ?_ ?_ | refine mL_own rfl rfl ?_ rfl ?_ | refine mL_row rfl ?_ ?_ | refine mL_pt rfl rfl rfl rfl ?_ | refine mL_box rfl ?_ ?_ | refine mL_agg rfl ?_ ?_ | exact mCs_nil0 | refine mCs_d ?_ ?_ | refine mCs_nil ?_ | refine mCs_own rfl ?_ rfl ?_ | refine mCs_pt rfl rfl rfl ?_
      all_goals first | with_reducible rfl | (first | rfl | (simp; done) | omega)
    rintro n s ⟨i, rfl, hi, rfl⟩
    refine SW.seq ?_
    refine SW.seq ?_
    refine SW.regT tabOk [0, 1, 5, 14] ?_
    refine And.intro trivial (And.intro trivial (And.intro (by first | trivial | exact Nat.le_of_ble_eq_true rfl | exact ⟨rfl, Nat.le_of_ble_eq_true rfl⟩ | omega | ((repeat' apply And.intro) <;> first | trivial | rfl | exact Nat.le_of_ble_eq_true rfl | omega) | (simp; done) | (simp; omega)) (And.intro trivial ?_)))
    refine SW.cond rfl (fun c14 => ?_) (fun c14 => ?_)
    · skip
      have hi2 : i < R.length := by simpa using c14
      obtain ⟨r, B, hB, hB2, hr, hR, hA⟩ := split_at hi2
      have hg : R.getD i [] = r := by rw [hR]; exact at_get hA
      obtain ⟨a, b, c, d, rfl⟩ := hR0 r hr
      refine SW.skip ?_
      refine SW.seq ?_
      refine SW.block ?_
      refine SW.seq ?_
      refine SW.regD tabOk mo [0, 1, 5, 26] ?_
      refine And.intro trivial (And.intro trivial (And.intro (by rw [Int.toNat_natCast, hg]; exact ⟨⟨by omega, by omega⟩, rfl⟩) (And.intro (by rw [Int.toNat_natCast, hg]; exact ⟨Nat.le_refl _, rfl⟩) (And.intro trivial (And.intro trivial (And.intro (by rw [Int.toNat_natCast, hg]; exact ⟨⟨by omega, by omega⟩, rfl⟩) (And.intro (by rw [Int.toNat_natCast, hg]; exact ⟨Nat.le_refl _, rfl⟩) ?_)))))))
      refine ex_pure (s_eqKeeper_0 a b c d) rfl rfl rfl rfl rfl (by rw [Int.toNat_natCast, hg]; rfl) rfl rfl ?_
      refine And.intro trivial (And.intro (by kernel_rfl) ?_)
      refine SW.cond rfl (fun c26 => ?_) (fun c26 => ?_)
      · skip
        simp at c26
      · skip
        refine SW.skip ?_
        refine SW.regT tabOk [0, 1, 5] ?_
        refine And.intro trivial (And.intro trivial (And.intro trivial ?_))
        refine wk [(.t 0, .v (Dv (.sl R))), (.t 1, .v (Dv (.sl R))), (.t 5, .v (I ((i + 1) : Nat)))] [] [] (⟨R.length - (i + 1), by omega, i + 1, rfl, by omega, rfl⟩) ?_ rfl rfl
        repeat' first | exact trivial | refine mL_nil rfl ?_ | refine mL_d rfl ?_ ?_ | refine mL_own rfl rfl ?_ rfl ?_ | refine mL_row rfl ?_ ?_ | refine mL_pt rfl rfl rfl rfl ?_ | refine mL_box rfl ?_ ?_ | refine mL_agg rfl ?_ ?_ | exact mCs_nil0 | refine mCs_d ?_ ?_ | refine mCs_nil ?_ | refine mCs_own rfl ?_ rfl ?_ | refine mCs_pt rfl rfl rfl ?_
        all_goals first | with_reducible rfl | (first | with_reducible rfl | exact congrArg D.i (wrap64_of (by omega)) | (simp; done))
    · skip
      refine SW.exit ?_
      refine SW.seq ?_
      refine SW.regT tabOk [4] ?_
      refine And.intro trivial ?_
      refine SW.ret ?_
      refine retOk1 rfl ?_
      rfl

theorem s_laws_eqBoolS (R : List Bool) (hl : R.length ≤ 1000) : Ab.Spec Try.prog 13 2 [(.t 0, .v (Dv (.sl (boolRows R)))), (.t 1, .v (Dv (.sl (boolRows R))))] [(.t 0, .v (B true))] := by
  refine spec_of_body tabOk Try.func13 rfl (by kernel_rfl) (by decide) (by kernel_rfl) rfl ?_
  refine SW.seq ?_
  refine SW.regT tabOk [0, 1] ?_
  refine And.intro trivial ?_
  refine SW.seq ?_
  refine SW.seq ?_
  refine SW.regT tabOk [0, 1, 10] ?_
  refine And.intro trivial (And.intro (by first | trivial | exact Nat.le_of_ble_eq_true rfl | exact ⟨rfl, Nat.le_of_ble_eq_true rfl⟩ | omega | ((repeat' apply And.intro) <;> first | trivial | rfl | exact Nat.le_of_ble_eq_true rfl | omega) | (simp; done) | (simp; omega)) (And.intro trivial (And.intro (by first | trivial | exact Nat.le_of_ble_eq_true rfl | exact ⟨rfl, Nat.le_of_ble_eq_true rfl⟩ | omega | ((repeat' apply And.intro) <;> first | trivial | rfl | exact Nat.le_of_ble_eq_true rfl | omega) | (simp; done) | (simp; omega)) (And.intro trivial ?_))))
  refine SW.cond rfl (fun c10 => ?_) (fun c10 => ?_)
  · skip
    simp at c10
  · skip
    refine SW.skip ?_
    refine SW.seq ?_
    refine SW.seq ?_
    refine SW.regT tabOk [0, 1, 5] ?_
    refine And.intro trivial ?_
    refine SW.block ?_
    -- live at the head: [0, 1, 5]
    refine SW.loopW (n := R.length) (fun n s => ∃ i : Nat, n = R.length - i ∧ i ≤ R.length ∧ s = [(.t 0, .v (Dv (.sl (boolRows R)))), (.t 1, .v (Dv (.sl (boolRows R)))), (.t 5, .v (I (i : Nat)))]) ?_ ?_
    · skip
      refine wk [(.t 0, .v (Dv (.sl (boolRows R)))), (.t 1, .v (Dv (.sl (boolRows R)))), (.t 5, .v (I (0 : Nat)))] [] [] (⟨0, rfl, Nat.zero_le _, rfl⟩) ?_ rfl rfl
      repeat' first | exact trivial | refine mL_nil rfl ?_ | refine mL_d rfl ?_ ?_ | refine mL_own rfl rfl ?_ rfl ?_ | refine mL_row rfl ?_ ?_ | refine mL_pt rfl rfl rfl rfl ?_ | refine mL_box rfl ?_ ?_ | refine mL_agg rfl ?_ ?_ | exact mCs_nil0 | refine mCs_d ?_ ?_ | refine mCs_nil ?_ | refine mCs_own rfl ?_ rfl ?_ | refine mCs_pt rfl rfl rfl ?_
      all_goals first | with_reducible rfl | (first | rfl | (simp; done) | omega)
    rintro n s ⟨i, rfl, hi, rfl⟩
    refine SW.seq ?_
    refine SW.seq ?_
    refine SW.regT tabOk [0, 1, 5, 14] ?_
    refine And.intro trivial (And.intro trivial (And.intro (by first | trivial | exact Nat.le_of_ble_eq_true rfl | exact ⟨rfl, Nat.le_of_ble_eq_true rfl⟩ | omega | ((repeat' apply And.intro) <;> first | trivial | rfl | exact Nat.le_of_ble_eq_true rfl | omega) | (simp; done) | (simp; omega)) (And.intro trivial ?_)))
    refine SW.cond rfl (fun c14 => ?_) (fun c14 => ?_)
    · skip
      have hi2 : i < R.length := by simpa [boolRows_length] using c14
      have hg := boolRows_getD (l := R) hi2
      have hlen := boolRows_length R
      refine SW.skip ?_
      refine SW.seq ?_
      refine SW.block ?_
      refine SW.seq ?_
      refine SW.regD tabOk mo [0, 1, 5, 25] ?_
      refine And.intro trivial (And.intro trivial (And.intro (by rw [Int.toNat_natCast, hg]; exact ⟨⟨by omega, by omega⟩, rfl⟩) (And.intro (by rw [Int.toNat_natCast, hg]; exact ⟨Nat.le_refl _, rfl⟩) (And.intro trivial (And.intro trivial (And.intro (by rw [Int.toNat_natCast, hg]; exact ⟨⟨by omega, by omega⟩, rfl⟩) (And.intro (by rw [Int.toNat_natCast, hg]; exact ⟨Nat.le_refl _, rfl⟩) (And.intro trivial (And.intro (by kernel_rfl) ?_)))))))))
      refine SW.cond rfl (fun c25 => ?_) (fun c25 => ?_)
      · skip
        simp at c25
      · skip
        refine SW.skip ?_
        refine SW.regT tabOk [0, 1, 5] ?_
        refine And.intro trivial (And.intro trivial (And.intro trivial ?_))
        refine wk [(.t 0, .v (Dv (.sl (boolRows R)))), (.t 1, .v (Dv (.sl (boolRows R)))), (.t 5, .v (I ((i + 1) : Nat)))] [] [] (⟨R.length - (i + 1), by omega, i + 1, rfl, by omega, rfl⟩) ?_ rfl rfl
        repeat' first | exact trivial | refine mL_nil rfl ?_ | refine mL_d rfl ?_ ?_ | refine mL_own rfl rfl ?_ rfl ?_ | refine mL_row rfl ?_ ?_ | refine mL_pt rfl rfl rfl rfl ?_ | refine mL_box rfl ?_ ?_ | refine mL_agg rfl ?_ ?_ | exact mCs_nil0 | refine mCs_d ?_ ?_ | refine mCs_nil ?_ | refine mCs_own rfl ?_ rfl ?_ | refine mCs_pt rfl rfl rfl ?_
        all_goals first | with_reducible rfl | (first | with_reducible rfl | exact congrArg D.i (wrap64_of (by omega)) | (simp; done))
    · skip
      refine SW.exit ?_
      refine SW.seq ?_
      refine SW.regT tabOk [4] ?_
      refine And.intro trivial ?_
      refine SW.ret ?_
      refine retOk1 rfl ?_
      rfl

theorem s_eqParcelS_nil  : Ab.Spec Try.prog 14 2 [(.t 0, .v (.e (.c .nil))), (.t 1, .v (.e (.c .nil)))] [(.t 0, .v (B true))] := by
  refine spec_of_body tabOk Try.func14 rfl (by kernel_rfl) (by decide) (by kernel_rfl) rfl ?_
  refine SW.seq ?_
  refine SW.regT tabOk [0, 1] ?_
  refine And.intro trivial ?_
  refine SW.seq ?_
  refine SW.seq ?_
  refine SW.regT tabOk [0, 1, 10] ?_
  refine And.intro trivial (And.intro (by first | trivial | exact Nat.le_of_ble_eq_true rfl | exact ⟨rfl, Nat.le_of_ble_eq_true rfl⟩ | omega | ((repeat' apply And.intro) <;> first | trivial | rfl | exact Nat.le_of_ble_eq_true rfl | omega) | (simp; done) | (simp; omega)) (And.intro trivial (And.intro (by first | trivial | exact Nat.le_of_ble_eq_true rfl | exact ⟨rfl, Nat.le_of_ble_eq_true rfl⟩ | omega | ((repeat' apply And.intro) <;> first | trivial | rfl | exact Nat.le_of_ble_eq_true rfl | omega) | (simp; done) | (simp; omega)) (And.intro trivial ?_))))
  refine SW.cond rfl (fun c10 => ?_) (fun c10 => ?_)
  · skip
    simp at c10
  · skip
    refine SW.skip ?_
    refine SW.seq ?_
    refine SW.seq ?_
    refine SW.regT tabOk [0, 1, 5] ?_
    refine And.intro trivial ?_
    refine SW.block ?_
    -- live at the head: [0, 1, 5]
    refine SW.loopW (n := 0) (fun _ s => s = [(.t 0, .v (.e (.c .nil))), (.t 1, .v (.e (.c .nil))), (.t 5, .v (I 0))]) ?_ ?_
    · skip
      refine wk [(.t 0, .v (.e (.c .nil))), (.t 1, .v (.e (.c .nil))), (.t 5, .v (I 0))] [] [] (rfl) ?_ rfl rfl
      repeat' first | exact trivial | refine mL_nil rfl ?_ | refine mL_d rfl ?_ ?_ | refine mL_own rfl rfl ?_ rfl ?_ | refine mL_row rfl ?_ ?_ | refine mL_pt rfl rfl rfl rfl ?_ | refine mL_box rfl ?_ ?_ | refine mL_agg rfl ?_ ?_ | exact mCs_nil0 | refine mCs_d ?_ ?_ | refine mCs_nil ?_ | refine mCs_own rfl ?_ rfl ?_ | refine mCs_pt rfl rfl rfl ?_
      all_goals first | with_reducible rfl | (first | rfl | (simp; done) | omega)
    rintro n s rfl
    refine SW.seq ?_
    refine SW.seq ?_
    refine SW.regT tabOk [0, 1, 5, 14] ?_
    refine And.intro trivial (And.intro trivial (And.intro (by first | trivial | exact Nat.le_of_ble_eq_true rfl | exact ⟨rfl, Nat.le_of_ble_eq_true rfl⟩ | omega | ((repeat' apply And.intro) <;> first | trivial | rfl | exact Nat.le_of_ble_eq_true rfl | omega) | (simp; done) | (simp; omega)) (And.intro trivial ?_)))
    refine SW.cond rfl (fun c14 => ?_) (fun c14 => ?_)
    · skip
      simp at c14
    · skip
      refine SW.exit ?_
      refine SW.seq ?_
      refine SW.regT tabOk [4] ?_
      refine And.intro trivial ?_
      refine SW.ret ?_
      refine retOk1 rfl ?_
      rfl

theorem s_eqNoteS_nil  : Ab.Spec Try.prog 15 2 [(.t 0, .v (.e (.c .nil))), (.t 1, .v (.e (.c .nil)))] [(.t 0, .v (B true))] := by
  refine spec_of_body tabOk Try.func15 rfl (by kernel_rfl) (by decide) (by kernel_rfl) rfl ?_
  refine SW.seq ?_
  refine SW.regT tabOk [0, 1] ?_
  refine And.intro trivial ?_
  refine SW.seq ?_
  refine SW.seq ?_
  refine SW.regT tabOk [0, 1, 10] ?_
  refine And.intro trivial (And.intro (by first | trivial | exact Nat.le_of_ble_eq_true rfl | exact ⟨rfl, Nat.le_of_ble_eq_true rfl⟩ | omega | ((repeat' apply And.intro) <;> first | trivial | rfl | exact Nat.le_of_ble_eq_true rfl | omega) | (simp; done) | (simp; omega)) (And.intro trivial (And.intro (by first | trivial | exact Nat.le_of_ble_eq_true rfl | exact ⟨rfl, Nat.le_of_ble_eq_true rfl⟩ | omega | ((repeat' apply And.intro) <;> first | trivial | rfl | exact Nat.le_of_ble_eq_true rfl | omega) | (simp; done) | (simp; omega)) (And.intro trivial ?_))))
  refine SW.cond rfl (fun c10 => ?_) (fun c10 => ?_)
  · skip
    simp at c10
  · skip
    refine SW.skip ?_
    refine SW.seq ?_
    refine SW.seq ?_
    refine SW.regT tabOk [0, 1, 5] ?_
    refine And.intro trivial ?_
    refine SW.block ?_
    -- live at the head: [0, 1, 5]
    refine SW.loopW (n := 0) (fun _ s => s = [(.t 0, .v (.e (.c .nil))), (.t 1, .v (.e (.c .nil))), (.t 5, .v (I 0))]) ?_ ?_
    · skip
      refine wk [(.t 0, .v (.e (.c .nil))), (.t 1, .v (.e (.c .nil))), (.t 5, .v (I 0))] [] [] (rfl) ?_ rfl rfl
      repeat' first | exact trivial | refine mL_nil rfl ?_ | refine mL_d rfl ?_ ?_ | refine mL_own rfl rfl ?_ rfl ?_ | refine mL_row rfl ?_ ?_ | refine mL_pt rfl rfl rfl rfl ?_ | refine mL_box rfl ?_ ?_ | refine mL_agg rfl ?_ ?_ | exact mCs_nil0 | refine mCs_d ?_ ?_ | refine mCs_nil ?_ | refine mCs_own rfl ?_ rfl ?_ | refine mCs_pt rfl rfl rfl ?_
      all_goals first | with_reducible rfl | (first | rfl | (simp; done) | omega)
    rintro n s rfl
    refine SW.seq ?_
    refine SW.seq ?_
    refine SW.regT tabOk [0, 1, 5, 14] ?_
    refine And.intro trivial (And.intro trivial (And.intro (by first | trivial | exact Nat.le_of_ble_eq_true rfl | exact ⟨rfl, Nat.le_of_ble_eq_true rfl⟩ | omega | ((repeat' apply And.intro) <;> first | trivial | rfl | exact Nat.le_of_ble_eq_true rfl | omega) | (simp; done) | (simp; omega)) (And.intro trivial ?_)))
    refine SW.cond rfl (fun c14 => ?_) (fun c14 => ?_)
    · skip
      simp at c14
    · skip
      refine SW.exit ?_
      refine SW.seq ?_
      refine SW.regT tabOk [4] ?_
      refine And.intro trivial ?_
      refine SW.ret ?_
      refine retOk1 rfl ?_
      rfl

theorem s_laws_eqRiver (R : List (List D)) (hR0 : ∀ r ∈ R, isK r) (hl : R.length ≤ 1000) (L : List Bool) (hL : L.length ≤ 1000) : Ab.Spec Try.prog 6 2 [(.t 0, .v (.e (.agg [.d (.i 0), .d (.sl R), .d (.sl (boolRows L)), .nil, .nil, .nil]))), (.t 1, .v (.e (.agg [.d (.i 0), .d (.sl R), .d (.sl (boolRows L)), .nil, .nil, .nil])))] [(.t 0, .v (B true))] := by
  refine spec_of_body tabOk Try.func6 rfl (by kernel_rfl) (by decide) (by kernel_rfl) rfl ?_
  refine SW.seq ?_
  refine SW.regT tabOk [2, 3] ?_
  refine And.intro trivial (And.intro trivial (And.intro trivial ?_))
  refine SW.seq ?_
  refine SW.seq ?_
  refine SW.regT tabOk [2, 3, 9] ?_
  refine And.intro (by first | trivial | rfl) (And.intro (by first | trivial | exact Nat.le_of_ble_eq_true rfl | exact ⟨rfl, Nat.le_of_ble_eq_true rfl⟩ | omega | ((repeat' apply And.intro) <;> first | trivial | rfl | exact Nat.le_of_ble_eq_true rfl | omega) | (simp; done) | (simp; omega)) (And.intro (by first | trivial | rfl) (And.intro (by first | trivial | exact Nat.le_of_ble_eq_true rfl | exact ⟨rfl, Nat.le_of_ble_eq_true rfl⟩ | omega | ((repeat' apply And.intro) <;> first | trivial | rfl | exact Nat.le_of_ble_eq_true rfl | omega) | (simp; done) | (simp; omega)) (And.intro trivial ?_))))
  refine SW.cond rfl (fun c9 => ?_) (fun c9 => ?_)
  · skip
    simp at c9
  · skip
    refine SW.skip ?_
    refine SW.seq ?_
    refine SW.seq ?_
    refine SW.regT tabOk [2, 3, 15] ?_
    refine And.intro (by first | trivial | rfl) (And.intro (by first | trivial | exact Nat.le_of_ble_eq_true rfl | exact ⟨rfl, Nat.le_of_ble_eq_true rfl⟩ | omega | ((repeat' apply And.intro) <;> first | trivial | rfl | exact Nat.le_of_ble_eq_true rfl | omega) | (simp; done) | (simp; omega)) (And.intro (by first | trivial | rfl) (And.intro (by first | trivial | exact Nat.le_of_ble_eq_true rfl | exact ⟨rfl, Nat.le_of_ble_eq_true rfl⟩ | omega | ((repeat' apply And.intro) <;> first | trivial | rfl | exact Nat.le_of_ble_eq_true rfl | omega) | (simp; done) | (simp; omega)) ?_)))
    refine ex_pure (s_laws_eqKeeperS R hR0 hl) rfl rfl rfl rfl rfl rfl rfl rfl ?_
    refine And.intro trivial ?_
    refine SW.cond rfl (fun c15 => ?_) (fun c15 => ?_)
    · skip
      simp at c15
    · skip
      refine SW.skip ?_
      refine SW.seq ?_
      refine SW.seq ?_
      refine SW.regT tabOk [2, 3, 21] ?_
      refine And.intro (by first | trivial | rfl) (And.intro (by first | trivial | exact Nat.le_of_ble_eq_true rfl | exact ⟨rfl, Nat.le_of_ble_eq_true rfl⟩ | omega | ((repeat' apply And.intro) <;> first | trivial | rfl | exact Nat.le_of_ble_eq_true rfl | omega) | (simp; done) | (simp; omega)) (And.intro (by first | trivial | rfl) (And.intro (by first | trivial | exact Nat.le_of_ble_eq_true rfl | exact ⟨rfl, Nat.le_of_ble_eq_true rfl⟩ | omega | ((repeat' apply And.intro) <;> first | trivial | rfl | exact Nat.le_of_ble_eq_true rfl | omega) | (simp; done) | (simp; omega)) ?_)))
      refine ex_pure (s_laws_eqBoolS L hL) rfl rfl rfl rfl rfl rfl rfl rfl ?_
      refine And.intro trivial ?_
      refine SW.cond rfl (fun c21 => ?_) (fun c21 => ?_)
      · skip
        simp at c21
      · skip
        refine SW.skip ?_
        refine SW.seq ?_
        refine SW.seq ?_
        refine SW.regT tabOk [2, 3, 27] ?_
        refine And.intro (by first | trivial | rfl) (And.intro (by first | trivial | exact Nat.le_of_ble_eq_true rfl | exact ⟨rfl, Nat.le_of_ble_eq_true rfl⟩ | omega | ((repeat' apply And.intro) <;> first | trivial | rfl | exact Nat.le_of_ble_eq_true rfl | omega) | (simp; done) | (simp; omega)) (And.intro (by first | trivial | rfl) (And.intro (by first | trivial | exact Nat.le_of_ble_eq_true rfl | exact ⟨rfl, Nat.le_of_ble_eq_true rfl⟩ | omega | ((repeat' apply And.intro) <;> first | trivial | rfl | exact Nat.le_of_ble_eq_true rfl | omega) | (simp; done) | (simp; omega)) ?_)))
        refine ex_pure s_eqParcelS_nil rfl rfl rfl rfl rfl rfl rfl rfl ?_
        refine And.intro trivial ?_
        refine SW.cond rfl (fun c27 => ?_) (fun c27 => ?_)
        · skip
          simp at c27
        · skip
          refine SW.skip ?_
          refine SW.seq ?_
          refine SW.seq ?_
          refine SW.regT tabOk [2, 3, 33] ?_
          refine And.intro (by first | trivial | rfl) (And.intro (by first | trivial | exact Nat.le_of_ble_eq_true rfl | exact ⟨rfl, Nat.le_of_ble_eq_true rfl⟩ | omega | ((repeat' apply And.intro) <;> first | trivial | rfl | exact Nat.le_of_ble_eq_true rfl | omega) | (simp; done) | (simp; omega)) (And.intro (by first | trivial | rfl) (And.intro (by first | trivial | exact Nat.le_of_ble_eq_true rfl | exact ⟨rfl, Nat.le_of_ble_eq_true rfl⟩ | omega | ((repeat' apply And.intro) <;> first | trivial | rfl | exact Nat.le_of_ble_eq_true rfl | omega) | (simp; done) | (simp; omega)) ?_)))
          refine ex_pure s_eqNoteS_nil rfl rfl rfl rfl rfl rfl rfl rfl ?_
          refine And.intro trivial ?_
          refine SW.cond rfl (fun c33 => ?_) (fun c33 => ?_)
          · skip
            simp at c33
          · skip
            refine SW.skip ?_
            refine SW.seq ?_
            refine SW.seq ?_
            refine SW.regT tabOk [39] ?_
            refine And.intro (by first | trivial | rfl) (And.intro (by first | trivial | exact Nat.le_of_ble_eq_true rfl | exact ⟨rfl, Nat.le_of_ble_eq_true rfl⟩ | omega | ((repeat' apply And.intro) <;> first | trivial | rfl | exact Nat.le_of_ble_eq_true rfl | omega) | (simp; done) | (simp; omega)) (And.intro (by first | trivial | rfl) (And.intro (by first | trivial | exact Nat.le_of_ble_eq_true rfl | exact ⟨rfl, Nat.le_of_ble_eq_true rfl⟩ | omega | ((repeat' apply And.intro) <;> first | trivial | rfl | exact Nat.le_of_ble_eq_true rfl | omega) | (simp; done) | (simp; omega)) ?_)))
            refine ex_pure s_eqNoteS_nil rfl rfl rfl rfl rfl rfl rfl rfl ?_
            refine And.intro trivial ?_
            refine SW.cond rfl (fun c39 => ?_) (fun c39 => ?_)
            · skip
              simp at c39
            · skip
              refine SW.skip ?_
              refine SW.seq ?_
              refine SW.regT tabOk [4] ?_
              refine And.intro trivial ?_
              refine SW.ret ?_
              refine retOk1 rfl ?_
              rfl

end Go.Proofs.Ytlkfibmjdigmiab
