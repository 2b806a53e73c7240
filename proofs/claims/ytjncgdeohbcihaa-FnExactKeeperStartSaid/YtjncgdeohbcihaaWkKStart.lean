import Derived.Test.YtjncgdeohbcihaaTab
import Derived.Test.YtjncgdeohbcihaaWkFrame
import Derived.Test.YtjncgdeohbcihaaAbDat
import Derived.Test.YtjncgdeohbcihaaAbBr
namespace Go.Proofs.Ytjncgdeohbcihaa
open Go Go.Ab Go.RowKit
set_option linter.unusedVariables false
set_option linter.unusedSimpArgs false

theorem s_impl_KeeperStart (n : Int) : Ab.Spec Try.prog 26 1 [(.t 0, .v (I n))] [(.t 0, .v (.e (.agg [.d (.i (if isNode n then n else 0)), .d (.b (isNode n)), .d (.s []), .d (.i 0), .nil])))] := by
  refine spec_of_body tabOk Try.func26 rfl (by kernel_rfl) (by decide) (by kernel_rfl) rfl ?_
  refine SW.seq ?_
  refine SW.regT tabOk [0, 2] ?_
  refine And.intro trivial ?_
  refine SW.seq ?_
  refine SW.seq ?_
  refine SW.regT tabOk [0, 2, 5] ?_
  refine And.intro trivial ?_
  refine ex_pure (s_impl_isNode _) rfl rfl rfl rfl rfl rfl rfl rfl ?_
  refine And.intro trivial ?_
  refine SW.cond rfl (fun c5 => ?_) (fun c5 => ?_)
  · skip
    refine SW.seq ?_
    refine SW.regT tabOk [2] ?_
    refine And.intro (by first | trivial | exact Nat.le_of_ble_eq_true rfl | exact ⟨rfl, Nat.le_of_ble_eq_true rfl⟩ | omega | ((repeat' apply And.intro) <;> first | trivial | rfl | exact Nat.le_of_ble_eq_true rfl | omega) | (simp; done) | (simp; omega)) (And.intro (by first | trivial | exact Nat.le_of_ble_eq_true rfl | exact ⟨rfl, Nat.le_of_ble_eq_true rfl⟩ | omega | ((repeat' apply And.intro) <;> first | trivial | rfl | exact Nat.le_of_ble_eq_true rfl | omega) | (simp; done) | (simp; omega)) ?_)
    refine SW.ret ?_
    refine retOkP rfl rfl ?_
    simp at c5
    first | (simp [c5]; done) | (simp [c5]; rfl)
  · skip
    refine SW.skip ?_
    refine SW.seq ?_
    refine SW.regT tabOk [2] ?_
    refine And.intro trivial (And.intro (by first | trivial | exact Nat.le_of_ble_eq_true rfl | exact ⟨rfl, Nat.le_of_ble_eq_true rfl⟩ | omega | ((repeat' apply And.intro) <;> first | trivial | rfl | exact Nat.le_of_ble_eq_true rfl | omega) | (simp; done) | (simp; omega)) (And.intro (by first | trivial | exact Nat.le_of_ble_eq_true rfl | exact ⟨rfl, Nat.le_of_ble_eq_true rfl⟩ | omega | ((repeat' apply And.intro) <;> first | trivial | rfl | exact Nat.le_of_ble_eq_true rfl | omega) | (simp; done) | (simp; omega)) ?_))
    refine SW.ret ?_
    refine retOkP rfl rfl ?_
    simp at c5
    first | (simp [c5]; done) | (simp [c5]; rfl)

theorem s_spec_KeeperStart (n : Int) : Ab.Spec Try.prog 25 1 [(.t 0, .v (I n))] [(.t 0, .v (.e (.agg [.d (.i (if isNode n then n else 0)), .d (.b (isNode n)), .d (.s []), .d (.i 0), .nil])))] := by
  refine spec_of_body tabOk Try.func25 rfl (by kernel_rfl) (by decide) (by kernel_rfl) rfl ?_
  refine SW.seq ?_
  refine SW.regT tabOk [0, 2] ?_
  refine And.intro trivial ?_
  refine SW.seq ?_
  refine SW.seq ?_
  refine SW.regT tabOk [0, 2, 5] ?_
  refine And.intro trivial ?_
  refine ex_pure (s_spec_l3Keeper _) rfl rfl rfl rfl rfl rfl rfl rfl ?_
  refine And.intro trivial ?_
  refine SW.cond rfl (fun c5 => ?_) (fun c5 => ?_)
  · skip
    refine SW.seq ?_
    refine SW.regT tabOk [2] ?_
    refine And.intro (by first | trivial | exact Nat.le_of_ble_eq_true rfl | exact ⟨rfl, Nat.le_of_ble_eq_true rfl⟩ | omega | ((repeat' apply And.intro) <;> first | trivial | rfl | exact Nat.le_of_ble_eq_true rfl | omega) | (simp; done) | (simp; omega)) (And.intro (by first | trivial | exact Nat.le_of_ble_eq_true rfl | exact ⟨rfl, Nat.le_of_ble_eq_true rfl⟩ | omega | ((repeat' apply And.intro) <;> first | trivial | rfl | exact Nat.le_of_ble_eq_true rfl | omega) | (simp; done) | (simp; omega)) ?_)
    refine SW.ret ?_
    refine retOkP rfl rfl ?_
    simp at c5
    first | (simp [c5]; done) | (simp [c5]; rfl)
  · skip
    refine SW.skip ?_
    refine SW.seq ?_
    refine SW.regT tabOk [2] ?_
    refine And.intro trivial (And.intro (by first | trivial | exact Nat.le_of_ble_eq_true rfl | exact ⟨rfl, Nat.le_of_ble_eq_true rfl⟩ | omega | ((repeat' apply And.intro) <;> first | trivial | rfl | exact Nat.le_of_ble_eq_true rfl | omega) | (simp; done) | (simp; omega)) (And.intro (by first | trivial | exact Nat.le_of_ble_eq_true rfl | exact ⟨rfl, Nat.le_of_ble_eq_true rfl⟩ | omega | ((repeat' apply And.intro) <;> first | trivial | rfl | exact Nat.le_of_ble_eq_true rfl | omega) | (simp; done) | (simp; omega)) ?_))
    refine SW.ret ?_
    refine retOkP rfl rfl ?_
    simp at c5
    first | (simp [c5]; done) | (simp [c5]; rfl)

theorem s_laws_eqShelf (l m : List UInt8) (a b : Int) : Ab.Spec Try.prog 40 2 [(.t 0, .v (.e (.agg [.d (.s l), .d (.i a)]))), (.t 1, .v (.e (.agg [.d (.s m), .d (.i b)])))] [(.t 0, .v (B (l == m && a == b)))] := by
  refine spec_of_body tabOk Try.func40 rfl (by kernel_rfl) (by decide) (by kernel_rfl) rfl ?_
  refine SW.seq ?_
  refine SW.regT tabOk [2, 3] ?_
  refine And.intro trivial (And.intro trivial (And.intro trivial ?_))
  refine SW.seq ?_
  refine SW.seq ?_
  refine SW.regT tabOk [2, 3, 9] ?_
  refine And.intro (by first | trivial | rfl) (And.intro (by first | trivial | exact Nat.le_of_ble_eq_true rfl | exact ⟨rfl, Nat.le_of_ble_eq_true rfl⟩ | omega | ((repeat' apply And.intro) <;> first | trivial | rfl | exact Nat.le_of_ble_eq_true rfl | omega) | (simp; done) | (simp; omega)) (And.intro (by first | trivial | rfl) (And.intro (by first | trivial | exact Nat.le_of_ble_eq_true rfl | exact ⟨rfl, Nat.le_of_ble_eq_true rfl⟩ | omega | ((repeat' apply And.intro) <;> first | trivial | rfl | exact Nat.le_of_ble_eq_true rfl | omega) | (simp; done) | (simp; omega)) (And.intro (by first | trivial | exact Nat.le_of_ble_eq_true rfl | exact ⟨rfl, Nat.le_of_ble_eq_true rfl⟩ | omega | ((repeat' apply And.intro) <;> first | trivial | rfl | exact Nat.le_of_ble_eq_true rfl | omega) | (simp; done) | (simp; omega)) ?_))))
  refine SW.cond rfl (fun c9 => ?_) (fun c9 => ?_)
  · skip
    refine SW.seq ?_
    refine SW.regT tabOk [4] ?_
    refine And.intro trivial ?_
    refine SW.ret ?_
    refine retOk1 rfl (congrArg D.b ?_)
    first | rfl | (simp at *; done) | (simp_all; done) | grind
  · skip
    refine SW.skip ?_
    refine SW.seq ?_
    refine SW.seq ?_
    refine SW.regT tabOk [14] ?_
    refine And.intro (by first | trivial | rfl) (And.intro (by first | trivial | exact Nat.le_of_ble_eq_true rfl | exact ⟨rfl, Nat.le_of_ble_eq_true rfl⟩ | omega | ((repeat' apply And.intro) <;> first | trivial | rfl | exact Nat.le_of_ble_eq_true rfl | omega) | (simp; done) | (simp; omega)) (And.intro (by first | trivial | rfl) (And.intro (by first | trivial | exact Nat.le_of_ble_eq_true rfl | exact ⟨rfl, Nat.le_of_ble_eq_true rfl⟩ | omega | ((repeat' apply And.intro) <;> first | trivial | rfl | exact Nat.le_of_ble_eq_true rfl | omega) | (simp; done) | (simp; omega)) (And.intro trivial ?_))))
    refine SW.cond rfl (fun c14 => ?_) (fun c14 => ?_)
    · skip
      refine SW.seq ?_
      refine SW.regT tabOk [4] ?_
      refine And.intro trivial ?_
      refine SW.ret ?_
      refine retOk1 rfl (congrArg D.b ?_)
      first | rfl | (simp at *; done) | (simp_all; done) | grind
    · skip
      refine SW.skip ?_
      refine SW.seq ?_
      refine SW.regT tabOk [4] ?_
      refine And.intro trivial ?_
      refine SW.ret ?_
      refine retOk1 rfl (congrArg D.b ?_)
      first | rfl | (simp at *; done) | (simp_all; done) | grind

theorem s_eqHalfS_nil  : Ab.Spec Try.prog 41 2 [(.t 0, .v (.e (.c .nil))), (.t 1, .v (.e (.c .nil)))] [(.t 0, .v (B true))] := by
  refine spec_of_body tabOk Try.func41 rfl (by kernel_rfl) (by decide) (by kernel_rfl) rfl ?_
  refine SW.seq ?_
  refine SW.regT tabOk [0, 1] ?_
  refine And.intro trivial ?_
  refine SW.seq ?_
  refine SW.seq ?_
  refine SW.regT tabOk [0, 1, 10] ?_
  refine And.intro trivial (And.intro (by first | trivial | exact Nat.le_of_ble_eq_true rfl | exact ⟨rfl, Nat.le_of_ble_eq_true rfl⟩ | omega | ((repeat' apply And.intro) <;> first | trivial | rfl | exact Nat.le_of_ble_eq_true rfl | omega) | (simp; done) | (simp; omega)) (And.intro trivial (And.intro (by first | trivial | exact Nat.le_of_ble_eq_true rfl | exact ⟨rfl, Nat.le_of_ble_eq_true rfl⟩ | omega | ((repeat' apply And.intro) <;> first | trivial | rfl | exact Nat.le_of_ble_eq_true rfl | omega) | (simp; done) | (simp; omega)) (And.intro trivial ?_))))
  refine SW.cond rfl (fun c10 => ?_) (fun c10 => ?_)
  · skip
    refine SW.seq ?_
    refine SW.regT tabOk [4] ?_
    refine And.intro trivial ?_
    refine SW.ret ?_
    refine retOk1 rfl (congrArg D.b ?_)
    first | rfl | (simp at *; done) | (simp_all; done) | grind
  · skip
    refine SW.skip ?_
    refine SW.seq ?_
    refine SW.seq ?_
    refine SW.regT tabOk [0, 1, 5] ?_
    refine And.intro trivial ?_
    refine SW.block ?_
    -- live at the head: [0, 1, 5]
    refine SW.loopW (n := 0) (fun _ s => s = [(.t 0, .v (.e (.c .nil))), (.t 1, .v (.e (.c .nil))), (.t 5, .v (I 0))]) ?_ ?_
    · skip
      refine wk [(.t 0, .v (.e (.c .nil))), (.t 1, .v (.e (.c .nil))), (.t 5, .v (I 0))] [] [] (rfl) ?_ rfl rfl
      repeat' first | exact trivial | refine mL_nil rfl ?_ | refine mL_d rfl ?_ ?_ | refine mL_own rfl rfl ?_ rfl ?_ | refine mL_row rfl ?_ ?_ | refine mL_pt rfl rfl rfl rfl ?_ | refine mL_box rfl ?_ ?_ | refine mL_agg rfl ?_ ?_ | exact mCs_nil0 | refine mCs_d ?_ ?_ | refine mCs_nil ?_ | refine mCs_own rfl ?_ rfl ?_ | refine mCs_pt rfl rfl rfl ?_
      all_goals first | rfl | (first | rfl | (simp; done) | omega)
    rintro n s rfl
    refine SW.seq ?_
    refine SW.seq ?_
    refine SW.regT tabOk [0, 1, 5, 14] ?_
    refine And.intro trivial (And.intro trivial (And.intro (by first | trivial | exact Nat.le_of_ble_eq_true rfl | exact ⟨rfl, Nat.le_of_ble_eq_true rfl⟩ | omega | ((repeat' apply And.intro) <;> first | trivial | rfl | exact Nat.le_of_ble_eq_true rfl | omega) | (simp; done) | (simp; omega)) (And.intro trivial ?_)))
    refine SW.cond rfl (fun c14 => ?_) (fun c14 => ?_)
    · skip
      simp at c14
    · skip
      refine SW.exit ?_
      refine SW.seq ?_
      refine SW.regT tabOk [4] ?_
      refine And.intro trivial ?_
      refine SW.ret ?_
      refine retOk1 rfl (congrArg D.b ?_)
      first | rfl | (simp at *; done) | (simp_all; done) | grind

theorem s_eqKeeper_nil (i j : Int) (u v : Bool) (l m : List UInt8) (a b : Int) : Ab.Spec Try.prog 27 2 [(.t 0, .v (.e (.agg [.d (.i i), .d (.b u), .d (.s l), .d (.i a), .nil]))), (.t 1, .v (.e (.agg [.d (.i j), .d (.b v), .d (.s m), .d (.i b), .nil])))] [(.t 0, .v (B (i == j && u == v && (l == m && a == b))))] := by
  refine spec_of_body tabOk Try.func27 rfl (by kernel_rfl) (by decide) (by kernel_rfl) rfl ?_
  refine SW.seq ?_
  refine SW.regT tabOk [2, 3] ?_
  refine And.intro trivial (And.intro trivial (And.intro trivial ?_))
  refine SW.seq ?_
  refine SW.seq ?_
  refine SW.regT tabOk [2, 3, 9] ?_
  refine And.intro (by first | trivial | rfl) (And.intro (by first | trivial | exact Nat.le_of_ble_eq_true rfl | exact ⟨rfl, Nat.le_of_ble_eq_true rfl⟩ | omega | ((repeat' apply And.intro) <;> first | trivial | rfl | exact Nat.le_of_ble_eq_true rfl | omega) | (simp; done) | (simp; omega)) (And.intro (by first | trivial | rfl) (And.intro (by first | trivial | exact Nat.le_of_ble_eq_true rfl | exact ⟨rfl, Nat.le_of_ble_eq_true rfl⟩ | omega | ((repeat' apply And.intro) <;> first | trivial | rfl | exact Nat.le_of_ble_eq_true rfl | omega) | (simp; done) | (simp; omega)) (And.intro trivial ?_))))
  refine SW.cond rfl (fun c9 => ?_) (fun c9 => ?_)
  · skip
    refine SW.seq ?_
    refine SW.regT tabOk [4] ?_
    refine And.intro trivial ?_
    refine SW.ret ?_
    refine retOk1 rfl (congrArg D.b ?_)
    first | rfl | (simp at *; done) | (simp_all; done) | grind
  · skip
    refine SW.skip ?_
    refine SW.seq ?_
    refine SW.seq ?_
    refine SW.regT tabOk [2, 3, 14] ?_
    refine And.intro (by first | trivial | rfl) (And.intro (by first | trivial | exact Nat.le_of_ble_eq_true rfl | exact ⟨rfl, Nat.le_of_ble_eq_true rfl⟩ | omega | ((repeat' apply And.intro) <;> first | trivial | rfl | exact Nat.le_of_ble_eq_true rfl | omega) | (simp; done) | (simp; omega)) (And.intro (by first | trivial | rfl) (And.intro (by first | trivial | exact Nat.le_of_ble_eq_true rfl | exact ⟨rfl, Nat.le_of_ble_eq_true rfl⟩ | omega | ((repeat' apply And.intro) <;> first | trivial | rfl | exact Nat.le_of_ble_eq_true rfl | omega) | (simp; done) | (simp; omega)) (And.intro trivial ?_))))
    refine SW.cond rfl (fun c14 => ?_) (fun c14 => ?_)
    · skip
      refine SW.seq ?_
      refine SW.regT tabOk [4] ?_
      refine And.intro trivial ?_
      refine SW.ret ?_
      refine retOk1 rfl (congrArg D.b ?_)
      first | rfl | (simp at *; done) | (simp_all; done) | grind
    · skip
      refine SW.skip ?_
      refine SW.seq ?_
      refine SW.seq ?_
      refine SW.regT tabOk [2, 3, 20] ?_
      refine And.intro (by first | trivial | rfl) (And.intro (by first | trivial | exact Nat.le_of_ble_eq_true rfl | exact ⟨rfl, Nat.le_of_ble_eq_true rfl⟩ | omega | ((repeat' apply And.intro) <;> first | trivial | rfl | exact Nat.le_of_ble_eq_true rfl | omega) | (simp; done) | (simp; omega)) (And.intro (by first | trivial | rfl) (And.intro (by first | trivial | exact Nat.le_of_ble_eq_true rfl | exact ⟨rfl, Nat.le_of_ble_eq_true rfl⟩ | omega | ((repeat' apply And.intro) <;> first | trivial | rfl | exact Nat.le_of_ble_eq_true rfl | omega) | (simp; done) | (simp; omega)) ?_)))
      refine ex_pure (s_laws_eqShelf _ _ _ _) rfl rfl rfl rfl rfl rfl rfl rfl ?_
      refine And.intro trivial ?_
      refine SW.cond rfl (fun c20 => ?_) (fun c20 => ?_)
      · skip
        refine SW.seq ?_
        refine SW.regT tabOk [4] ?_
        refine And.intro trivial ?_
        refine SW.ret ?_
        refine retOk1 rfl (congrArg D.b ?_)
        first | rfl | (simp at *; done) | (simp_all; done) | grind
      · skip
        refine SW.skip ?_
        refine SW.seq ?_
        refine SW.seq ?_
        refine SW.regT tabOk [26] ?_
        refine And.intro (by first | trivial | rfl) (And.intro (by first | trivial | exact Nat.le_of_ble_eq_true rfl | exact ⟨rfl, Nat.le_of_ble_eq_true rfl⟩ | omega | ((repeat' apply And.intro) <;> first | trivial | rfl | exact Nat.le_of_ble_eq_true rfl | omega) | (simp; done) | (simp; omega)) (And.intro (by first | trivial | rfl) (And.intro (by first | trivial | exact Nat.le_of_ble_eq_true rfl | exact ⟨rfl, Nat.le_of_ble_eq_true rfl⟩ | omega | ((repeat' apply And.intro) <;> first | trivial | rfl | exact Nat.le_of_ble_eq_true rfl | omega) | (simp; done) | (simp; omega)) ?_)))
        refine ex_pure s_eqHalfS_nil rfl rfl rfl rfl rfl rfl rfl rfl ?_
        refine And.intro trivial ?_
        refine SW.cond rfl (fun c26 => ?_) (fun c26 => ?_)
        · skip
          refine SW.seq ?_
          refine SW.regT tabOk [4] ?_
          refine And.intro trivial ?_
          refine SW.ret ?_
          refine retOk1 rfl (congrArg D.b ?_)
          first | rfl | (simp at *; done) | (simp_all; done) | grind
        · skip
          refine SW.skip ?_
          refine SW.seq ?_
          refine SW.regT tabOk [4] ?_
          refine And.intro trivial ?_
          refine SW.ret ?_
          refine retOk1 rfl (congrArg D.b ?_)
          first | rfl | (simp at *; done) | (simp_all; done) | grind

theorem s_markHalfS_nil (k : Int) : Ab.Spec Try.prog 42 2 [(.t 0, .v (.e (.c .nil))), (.t 1, .v (I k))] [(.t 0, .v (I k))] := by
  refine spec_of_body tabOk Try.func42 rfl (by kernel_rfl) (by decide) (by kernel_rfl) rfl ?_
  refine SW.seq ?_
  refine SW.regT tabOk [0, 1] ?_
  refine And.intro trivial ?_
  refine SW.seq ?_
  refine SW.seq ?_
  refine SW.regT tabOk [0, 1, 5] ?_
  refine And.intro trivial ?_
  refine SW.block ?_
  -- live at the head: [0, 1, 5]
  refine SW.loopW (n := 0) (fun _ s => s = [(.t 0, .v (.e (.c .nil))), (.t 1, .v (I k)), (.t 5, .v (I 0))]) ?_ ?_
  · skip
    refine wk [(.t 0, .v (.e (.c .nil))), (.t 1, .v (I k)), (.t 5, .v (I 0))] [] [] (rfl) ?_ rfl rfl
    repeat' first | exact trivial | refine mL_nil rfl ?_ | refine mL_d rfl ?_ ?_ | refine mL_own rfl rfl ?_ rfl ?_ | refine mL_row rfl ?_ ?_ | refine mL_pt rfl rfl rfl rfl ?_ | refine mL_box rfl ?_ ?_ | refine mL_agg rfl ?_ ?_ | exact mCs_nil0 | refine mCs_d ?_ ?_ | refine mCs_nil ?_ | refine mCs_own rfl ?_ rfl ?_ | refine mCs_pt rfl rfl rfl ?_
    all_goals first | rfl | (first | rfl | (simp; done) | omega)
  rintro n s rfl
  refine SW.seq ?_
  refine SW.seq ?_
  refine SW.regT tabOk [0, 1, 5, 9] ?_
  refine And.intro trivial (And.intro trivial (And.intro (by first | trivial | exact Nat.le_of_ble_eq_true rfl | exact ⟨rfl, Nat.le_of_ble_eq_true rfl⟩ | omega | ((repeat' apply And.intro) <;> first | trivial | rfl | exact Nat.le_of_ble_eq_true rfl | omega) | (simp; done) | (simp; omega)) (And.intro trivial ?_)))
  refine SW.cond rfl (fun c9 => ?_) (fun c9 => ?_)
  · skip
    simp at c9
  · skip
    refine SW.exit ?_
    refine SW.seq ?_
    refine SW.regT tabOk [4] ?_
    refine And.intro trivial (And.intro trivial ?_)
    refine SW.ret ?_
    refine retOk1 rfl ?_
    first | rfl | (simp; done) | (simp_all; done)

theorem s_heldHalfS_nil (k : Int) : Ab.Spec Try.prog 43 2 [(.t 0, .v (.e (.c .nil))), (.t 1, .v (I k))] [(.t 0, .v (I k))] := by
  refine spec_of_body tabOk Try.func43 rfl (by kernel_rfl) (by decide) (by kernel_rfl) rfl ?_
  refine SW.seq ?_
  refine SW.regT tabOk [0, 1] ?_
  refine And.intro trivial ?_
  refine SW.seq ?_
  refine SW.seq ?_
  refine SW.regT tabOk [0, 1, 5] ?_
  refine And.intro trivial ?_
  refine SW.block ?_
  -- live at the head: [0, 1, 5]
  refine SW.loopW (n := 0) (fun _ s => s = [(.t 0, .v (.e (.c .nil))), (.t 1, .v (I k)), (.t 5, .v (I 0))]) ?_ ?_
  · skip
    refine wk [(.t 0, .v (.e (.c .nil))), (.t 1, .v (I k)), (.t 5, .v (I 0))] [] [] (rfl) ?_ rfl rfl
    repeat' first | exact trivial | refine mL_nil rfl ?_ | refine mL_d rfl ?_ ?_ | refine mL_own rfl rfl ?_ rfl ?_ | refine mL_row rfl ?_ ?_ | refine mL_pt rfl rfl rfl rfl ?_ | refine mL_box rfl ?_ ?_ | refine mL_agg rfl ?_ ?_ | exact mCs_nil0 | refine mCs_d ?_ ?_ | refine mCs_nil ?_ | refine mCs_own rfl ?_ rfl ?_ | refine mCs_pt rfl rfl rfl ?_
    all_goals first | rfl | (first | rfl | (simp; done) | omega)
  rintro n s rfl
  refine SW.seq ?_
  refine SW.seq ?_
  refine SW.regT tabOk [0, 1, 5, 9] ?_
  refine And.intro trivial (And.intro trivial (And.intro (by first | trivial | exact Nat.le_of_ble_eq_true rfl | exact ⟨rfl, Nat.le_of_ble_eq_true rfl⟩ | omega | ((repeat' apply And.intro) <;> first | trivial | rfl | exact Nat.le_of_ble_eq_true rfl | omega) | (simp; done) | (simp; omega)) (And.intro trivial ?_)))
  refine SW.cond rfl (fun c9 => ?_) (fun c9 => ?_)
  · skip
    simp at c9
  · skip
    refine SW.exit ?_
    refine SW.seq ?_
    refine SW.regT tabOk [4] ?_
    refine And.intro trivial (And.intro trivial ?_)
    refine SW.ret ?_
    refine retOk1 rfl ?_
    first | rfl | (simp; done) | (simp_all; done)

theorem s_markKeeper_nil (i : Int) (u : Bool) (l : List UInt8) (a k : Int) : Ab.Spec Try.prog 28 2 [(.t 0, .v (.e (.agg [.d (.i i), .d (.b u), .d (.s l), .d (.i a), .nil]))), (.t 1, .v (I k))] [(.t 0, .v (I k))] := by
  refine spec_of_body tabOk Try.func28 rfl (by kernel_rfl) (by decide) (by kernel_rfl) rfl ?_
  refine SW.seq ?_
  refine SW.regT tabOk [1, 2] ?_
  refine And.intro trivial (And.intro trivial ?_)
  refine SW.seq ?_
  refine SW.regT tabOk [1] ?_
  refine And.intro (by first | trivial | rfl) (And.intro (by first | trivial | exact Nat.le_of_ble_eq_true rfl | exact ⟨rfl, Nat.le_of_ble_eq_true rfl⟩ | omega | ((repeat' apply And.intro) <;> first | trivial | rfl | exact Nat.le_of_ble_eq_true rfl | omega) | (simp; done) | (simp; omega)) (And.intro trivial ?_))
  refine ex_pure (s_markHalfS_nil _) rfl rfl rfl rfl rfl rfl rfl rfl ?_
  refine And.intro trivial ?_
  refine SW.seq ?_
  refine SW.regT tabOk [4] ?_
  refine And.intro trivial (And.intro trivial ?_)
  refine SW.ret ?_
  refine retOk1 rfl ?_
  first | rfl | (simp; done) | (simp_all; done)

theorem s_heldKeeper_nil (i : Int) (u : Bool) (l : List UInt8) (a k : Int) : Ab.Spec Try.prog 29 2 [(.t 0, .v (.e (.agg [.d (.i i), .d (.b u), .d (.s l), .d (.i a), .nil]))), (.t 1, .v (I k))] [(.t 0, .v (I (if k < 0 then -1 else k)))] := by
  refine spec_of_body tabOk Try.func29 rfl (by kernel_rfl) (by decide) (by kernel_rfl) rfl ?_
  refine SW.seq ?_
  refine SW.regT tabOk [1, 2] ?_
  refine And.intro trivial (And.intro trivial ?_)
  refine SW.seq ?_
  refine SW.regT tabOk [1] ?_
  refine And.intro (by first | trivial | rfl) (And.intro (by first | trivial | exact Nat.le_of_ble_eq_true rfl | exact ⟨rfl, Nat.le_of_ble_eq_true rfl⟩ | omega | ((repeat' apply And.intro) <;> first | trivial | rfl | exact Nat.le_of_ble_eq_true rfl | omega) | (simp; done) | (simp; omega)) (And.intro trivial ?_))
  refine ex_pure (s_heldHalfS_nil _) rfl rfl rfl rfl rfl rfl rfl rfl ?_
  refine And.intro trivial ?_
  refine SW.seq ?_
  refine SW.seq ?_
  refine SW.regT tabOk [1, 10] ?_
  refine And.intro trivial (And.intro trivial ?_)
  refine SW.cond rfl (fun c10 => ?_) (fun c10 => ?_)
  · skip
    refine SW.seq ?_
    refine SW.regT tabOk [4] ?_
    refine And.intro trivial ?_
    refine SW.ret ?_
    refine retOk1 rfl (congrArg D.i ?_)
    simp only [decide_eq_true_eq, decide_eq_false_iff_not] at *
    simp [*]
  · skip
    refine SW.skip ?_
    refine SW.seq ?_
    refine SW.regT tabOk [4] ?_
    refine And.intro trivial (And.intro trivial ?_)
    refine SW.ret ?_
    refine retOk1 rfl (congrArg D.i ?_)
    simp only [decide_eq_true_eq, decide_eq_false_iff_not] at *
    simp [*]

theorem s_laws_FnExactKeeperStart (n : Int) : Ab.Spec Try.prog 8 1 [(.t 0, .v (I n))] [(.t 0, .v (B true))] := by
  refine spec_of_body tabOk Try.func8 rfl (by kernel_rfl) (by decide) (by kernel_rfl) rfl ?_
  refine SW.seq ?_
  refine SW.regT tabOk [0] ?_
  refine And.intro trivial ?_
  refine SW.seq ?_
  refine SW.regT tabOk [0, 3] ?_
  refine And.intro trivial ?_
  refine ex_pure (s_spec_KeeperStart _) rfl rfl rfl rfl rfl rfl rfl rfl ?_
  refine And.intro trivial (And.intro (by first | trivial | exact Nat.le_of_ble_eq_true rfl | exact ⟨rfl, Nat.le_of_ble_eq_true rfl⟩ | omega | ((repeat' apply And.intro) <;> first | trivial | rfl | exact Nat.le_of_ble_eq_true rfl | omega) | (simp; done) | (simp; omega)) ?_)
  refine SW.seq ?_
  refine SW.regT tabOk [0, 3, 4] ?_
  refine And.intro trivial ?_
  refine ex_pure (s_impl_KeeperStart _) rfl rfl rfl rfl rfl rfl rfl rfl ?_
  refine And.intro trivial (And.intro (by first | trivial | exact Nat.le_of_ble_eq_true rfl | exact ⟨rfl, Nat.le_of_ble_eq_true rfl⟩ | omega | ((repeat' apply And.intro) <;> first | trivial | rfl | exact Nat.le_of_ble_eq_true rfl | omega) | (simp; done) | (simp; omega)) ?_)
  refine SW.seq ?_
  refine SW.seq ?_
  refine SW.regT tabOk [0, 3, 4, 15] ?_
  refine And.intro (by first | trivial | exact Nat.le_of_ble_eq_true rfl | exact ⟨rfl, Nat.le_of_ble_eq_true rfl⟩ | omega | ((repeat' apply And.intro) <;> first | trivial | rfl | exact Nat.le_of_ble_eq_true rfl | omega) | (simp; done) | (simp; omega)) (And.intro (by first | trivial | exact Nat.le_of_ble_eq_true rfl | exact ⟨rfl, Nat.le_of_ble_eq_true rfl⟩ | omega | ((repeat' apply And.intro) <;> first | trivial | rfl | exact Nat.le_of_ble_eq_true rfl | omega) | (simp; done) | (simp; omega)) ?_)
  refine ex_pure (s_eqKeeper_nil _ _ _ _ _ _ _ _) rfl rfl rfl rfl rfl rfl rfl rfl ?_
  refine And.intro trivial ?_
  refine SW.cond rfl (fun c15 => ?_) (fun c15 => ?_)
  · skip
    refine SW.seq ?_
    refine SW.regT tabOk [2] ?_
    refine And.intro trivial ?_
    refine SW.ret ?_
    refine retOk1 rfl (congrArg D.b ?_)
    first | rfl | (simp at *; done) | (simp_all; done) | grind
  · skip
    refine SW.skip ?_
    refine SW.seq ?_
    refine SW.regT tabOk [0, 3, 4, 5] ?_
    refine And.intro trivial ?_
    refine SW.seq ?_
    refine SW.regT tabOk [0, 3, 4, 5] ?_
    refine And.intro (by first | trivial | exact Nat.le_of_ble_eq_true rfl | exact ⟨rfl, Nat.le_of_ble_eq_true rfl⟩ | omega | ((repeat' apply And.intro) <;> first | trivial | rfl | exact Nat.le_of_ble_eq_true rfl | omega) | (simp; done) | (simp; omega)) (And.intro trivial ?_)
    refine ex_pure (s_markKeeper_nil _ _ _ _ _) rfl rfl rfl rfl rfl rfl rfl rfl ?_
    refine And.intro trivial ?_
    refine SW.seq ?_
    refine SW.regT tabOk [0, 3, 4, 5, 6] ?_
    refine And.intro trivial ?_
    refine SW.seq ?_
    refine SW.regT tabOk [0, 3, 4, 5, 6] ?_
    refine And.intro (by first | trivial | exact Nat.le_of_ble_eq_true rfl | exact ⟨rfl, Nat.le_of_ble_eq_true rfl⟩ | omega | ((repeat' apply And.intro) <;> first | trivial | rfl | exact Nat.le_of_ble_eq_true rfl | omega) | (simp; done) | (simp; omega)) (And.intro trivial ?_)
    refine ex_pure (s_heldKeeper_nil _ _ _ _ _) rfl rfl rfl rfl rfl rfl rfl rfl ?_
    refine And.intro trivial ?_
    refine SW.seq ?_
    refine SW.seq ?_
    refine SW.regT tabOk [0, 3, 4, 5, 6, 23] ?_
    refine And.intro trivial (And.intro trivial ?_)
    refine SW.cond rfl (fun c23 => ?_) (fun c23 => ?_)
    · skip
      refine SW.seq ?_
      refine SW.regT tabOk [2] ?_
      refine And.intro trivial ?_
      refine SW.ret ?_
      refine retOk1 rfl (congrArg D.b ?_)
      first | rfl | (simp at *; done) | (simp_all; done) | grind
    · skip
      refine SW.skip ?_
      refine SW.seq ?_
      refine SW.seq ?_
      refine SW.regT tabOk [0, 3, 4, 5, 26] ?_
      refine And.intro trivial (And.intro trivial (And.intro trivial ?_))
      refine SW.cond rfl (fun c26 => ?_) (fun c26 => ?_)
      · skip
        refine SW.seq ?_
        refine SW.regT tabOk [2] ?_
        refine And.intro trivial ?_
        refine SW.ret ?_
        refine retOk1 rfl (congrArg D.b ?_)
        first | rfl | (simp at *; done) | (simp_all; done) | grind
      · skip
        refine SW.skip ?_
        refine SW.seq ?_
        refine SW.regT tabOk [3, 4, 5, 7] ?_
        refine And.intro trivial ?_
        refine ex_pure (s_impl_KeeperStart _) rfl rfl rfl rfl rfl rfl rfl rfl ?_
        refine And.intro trivial (And.intro (by first | trivial | exact Nat.le_of_ble_eq_true rfl | exact ⟨rfl, Nat.le_of_ble_eq_true rfl⟩ | omega | ((repeat' apply And.intro) <;> first | trivial | rfl | exact Nat.le_of_ble_eq_true rfl | omega) | (simp; done) | (simp; omega)) ?_)
        refine SW.seq ?_
        refine SW.seq ?_
        refine SW.regT tabOk [4, 5, 32] ?_
        refine And.intro (by first | trivial | exact Nat.le_of_ble_eq_true rfl | exact ⟨rfl, Nat.le_of_ble_eq_true rfl⟩ | omega | ((repeat' apply And.intro) <;> first | trivial | rfl | exact Nat.le_of_ble_eq_true rfl | omega) | (simp; done) | (simp; omega)) (And.intro (by first | trivial | exact Nat.le_of_ble_eq_true rfl | exact ⟨rfl, Nat.le_of_ble_eq_true rfl⟩ | omega | ((repeat' apply And.intro) <;> first | trivial | rfl | exact Nat.le_of_ble_eq_true rfl | omega) | (simp; done) | (simp; omega)) ?_)
        refine ex_pure (s_eqKeeper_nil _ _ _ _ _ _ _ _) rfl rfl rfl rfl rfl rfl rfl rfl ?_
        refine And.intro trivial ?_
        refine SW.cond rfl (fun c32 => ?_) (fun c32 => ?_)
        · skip
          refine SW.seq ?_
          refine SW.regT tabOk [2] ?_
          refine And.intro trivial ?_
          refine SW.ret ?_
          refine retOk1 rfl (congrArg D.b ?_)
          first | rfl | (simp at *; done) | (simp_all; done) | grind
        · skip
          refine SW.skip ?_
          refine SW.seq ?_
          refine SW.regT tabOk [4, 5, 6] ?_
          refine And.intro trivial ?_
          refine SW.seq ?_
          refine SW.regT tabOk [5, 6] ?_
          refine And.intro (by first | trivial | exact Nat.le_of_ble_eq_true rfl | exact ⟨rfl, Nat.le_of_ble_eq_true rfl⟩ | omega | ((repeat' apply And.intro) <;> first | trivial | rfl | exact Nat.le_of_ble_eq_true rfl | omega) | (simp; done) | (simp; omega)) (And.intro trivial ?_)
          refine ex_pure (s_heldKeeper_nil _ _ _ _ _) rfl rfl rfl rfl rfl rfl rfl rfl ?_
          refine And.intro trivial ?_
          refine SW.seq ?_
          refine SW.seq ?_
          refine SW.regT tabOk [5, 6, 37] ?_
          refine And.intro trivial (And.intro trivial ?_)
          refine SW.cond rfl (fun c37 => ?_) (fun c37 => ?_)
          · skip
            refine SW.seq ?_
            refine SW.regT tabOk [2] ?_
            refine And.intro trivial ?_
            refine SW.ret ?_
            refine retOk1 rfl (congrArg D.b ?_)
            first | rfl | (simp at *; done) | (simp_all; done) | grind
          · skip
            refine SW.skip ?_
            refine SW.seq ?_
            refine SW.seq ?_
            refine SW.regT tabOk [40] ?_
            refine And.intro trivial (And.intro trivial (And.intro trivial ?_))
            refine SW.cond rfl (fun c40 => ?_) (fun c40 => ?_)
            · skip
              refine SW.seq ?_
              refine SW.regT tabOk [2] ?_
              refine And.intro trivial ?_
              refine SW.ret ?_
              refine retOk1 rfl (congrArg D.b ?_)
              first | rfl | (simp at *; done) | (simp_all; done) | grind
            · skip
              refine SW.skip ?_
              refine SW.seq ?_
              refine SW.regT tabOk [2] ?_
              refine And.intro trivial ?_
              refine SW.ret ?_
              refine retOk1 rfl (congrArg D.b ?_)
              first | rfl | (simp at *; done) | (simp_all; done) | grind

end Go.Proofs.Ytjncgdeohbcihaa
