import Derived.Test.YtlkfibmjdigmiaaTab
import Derived.Test.YtlkfibmjdigmiaaAbDat
import Derived.Test.YtlkfibmjdigmiaaAbBr
namespace Go.Proofs.Ytlkfibmjdigmiaa
open Go Go.Ab Go.RowKit
set_option linter.unusedVariables false
set_option linter.unusedSimpArgs false
theorem mo : Try.prog.follows .mixedOrders = true := by kernel_rfl

theorem s_impl_in (n lo hi : Int) : Ab.Spec Try.prog 22 3 [(.t 0, .v (I n)), (.t 1, .v (I lo)), (.t 2, .v (I hi))] [(.t 0, .v (B (inB n lo hi)))] := by
  refine spec_of_body tabOk Try.func22 rfl (by kernel_rfl) (by decide) (by kernel_rfl) rfl ?_
  refine SW.seq ?_
  refine SW.regT tabOk [0, 1, 2, 11, 12, 13] ?_
  refine And.intro trivial ?_
  refine SW.seq ?_
  refine SW.regT tabOk [6] ?_
  refine And.intro trivial (And.intro trivial (And.intro trivial (And.intro trivial (And.intro (fun h => trivial) (And.intro (by intro h; (repeat' apply And.intro) <;> first | exact h | trivial) (And.intro (fun h => trivial) (And.intro (by intro h; (repeat' apply And.intro) <;> first | exact h | trivial) (And.intro (fun h => trivial) (And.intro (by intro h; (repeat' apply And.intro) <;> first | exact h | trivial) (And.intro (by constructor <;> intro h <;> first | trivial | exact h | (simpa [gb, condOf] using h)) (And.intro trivial ?_)))))))))))
  refine SW.ret ?_
  refine retOk1 rfl ?_
  simp [inB, gb]

theorem s_spec_l6In (n lo hi : Int) : Ab.Spec Try.prog 23 3 [(.t 0, .v (I n)), (.t 1, .v (I lo)), (.t 2, .v (I hi))] [(.t 0, .v (B (inB n lo hi)))] := by
  refine spec_of_body tabOk Try.func23 rfl (by kernel_rfl) (by decide) (by kernel_rfl) rfl ?_
  refine SW.seq ?_
  refine SW.regT tabOk [0, 1, 2, 11, 12, 13] ?_
  refine And.intro trivial ?_
  refine SW.seq ?_
  refine SW.regT tabOk [6] ?_
  refine And.intro trivial (And.intro trivial (And.intro trivial (And.intro trivial (And.intro (fun h => trivial) (And.intro (by intro h; (repeat' apply And.intro) <;> first | exact h | trivial) (And.intro (fun h => trivial) (And.intro (by intro h; (repeat' apply And.intro) <;> first | exact h | trivial) (And.intro (fun h => trivial) (And.intro (by intro h; (repeat' apply And.intro) <;> first | exact h | trivial) (And.intro (by constructor <;> intro h <;> first | trivial | exact h | (simpa [gb, condOf] using h)) (And.intro trivial ?_)))))))))))
  refine SW.ret ?_
  refine retOk1 rfl ?_
  simp [inB, gb]

theorem s_impl_isNode (n : Int) : Ab.Spec Try.prog 21 1 [(.t 0, .v (I n))] [(.t 0, .v (B (isNode n)))] := by
  refine spec_of_body tabOk Try.func21 rfl (by kernel_rfl) (by decide) (by kernel_rfl) rfl ?_
  refine SW.seq ?_
  refine SW.regT tabOk [0] ?_
  refine And.intro trivial ?_
  refine SW.seq ?_
  refine SW.regT tabOk [2] ?_
  refine And.intro trivial ?_
  refine ex_pure (s_impl_in _ _ _) rfl rfl rfl rfl rfl rfl rfl rfl ?_
  refine And.intro trivial ?_
  refine SW.ret ?_
  refine retOk1 rfl ?_
  first | rfl | (simp; done) | (simp_all; done)

theorem s_spec_l3Keeper (n : Int) : Ab.Spec Try.prog 24 1 [(.t 0, .v (I n))] [(.t 0, .v (B (isNode n)))] := by
  refine spec_of_body tabOk Try.func24 rfl (by kernel_rfl) (by decide) (by kernel_rfl) rfl ?_
  refine SW.seq ?_
  refine SW.regT tabOk [0] ?_
  refine And.intro trivial ?_
  refine SW.seq ?_
  refine SW.regT tabOk [2] ?_
  refine And.intro trivial ?_
  refine ex_pure (s_spec_l6In _ _ _) rfl rfl rfl rfl rfl rfl rfl rfl ?_
  refine And.intro trivial ?_
  refine SW.ret ?_
  refine retOk1 rfl ?_
  first | rfl | (simp; done) | (simp_all; done)

theorem s_impl_NoteNext (a b : Int) : Ab.Spec Try.prog 12 2 [(.t 0, .v (I a)), (.t 1, .v (I b))] [(.t 0, .v (I (noteNext a b)))] := by
  refine spec_of_body tabOk Try.func12 rfl (by kernel_rfl) (by decide) (by kernel_rfl) rfl ?_
  refine SW.seq ?_
  refine SW.regT tabOk [0, 1, 10, 11, 12, 15, 16, 17] ?_
  refine And.intro trivial ?_
  refine SW.seq ?_
  refine SW.block ?_
  refine SW.seq ?_
  refine SW.regT tabOk [0, 1, 5] ?_
  refine And.intro trivial ?_
  refine ex_pure (s_impl_isNode _) rfl rfl rfl rfl rfl rfl rfl rfl ?_
  refine And.intro trivial (And.intro trivial (And.intro (fun h => trivial) (And.intro (by intro h; (repeat' apply And.intro) <;> first | exact h | trivial) ?_)))
  refine exc_pure (fun h => (s_impl_isNode _)) rfl rfl rfl rfl rfl rfl rfl rfl (by intro h; (repeat' apply And.intro) <;> first | exact h | trivial) ?_
  refine And.intro (fun h => trivial) (And.intro (by intro h; (repeat' apply And.intro) <;> first | exact h | trivial) (And.intro (by constructor <;> intro h <;> first | trivial | exact h | (simpa [gb, condOf] using h)) (And.intro trivial (And.intro (fun h => trivial) (And.intro (by intro h; (repeat' apply And.intro) <;> first | exact h | trivial) (And.intro (fun h => trivial) (And.intro (by intro h; (repeat' apply And.intro) <;> first | exact h | trivial) (And.intro (fun h => trivial) (And.intro (by intro h; (repeat' apply And.intro) <;> first | exact h | trivial) (And.intro (by constructor <;> intro h <;> first | trivial | exact h | (simpa [gb, condOf] using h)) (And.intro trivial ?_)))))))))))
  refine SW.cond rfl (fun c5 => ?_) (fun c5 => ?_)
  · skip
    refine SW.seq ?_
    refine SW.regT tabOk [4] ?_
    refine And.intro trivial ?_
    refine SW.ret ?_
    refine retOk1 rfl ?_
    simp only [noteNext, wrap64, isNode, inB, gb] at *
    grind
  · skip
    refine SW.seq ?_
    refine SW.regT tabOk [0, 19] ?_
    refine And.intro trivial (And.intro trivial (And.intro trivial (And.intro trivial ?_)))
    refine SW.cond rfl (fun c19 => ?_) (fun c19 => ?_)
    · skip
      refine SW.seq ?_
      refine SW.regT tabOk [4] ?_
      refine And.intro trivial (And.intro trivial (And.intro trivial ?_))
      refine SW.ret ?_
      refine retOk1 rfl ?_
      simp only [noteNext, wrap64, isNode, inB, gb] at *
      grind
    · skip
      refine SW.skip ?_
      refine SW.seq ?_
      refine SW.regT tabOk [4] ?_
      refine And.intro trivial (And.intro trivial (And.intro trivial ?_))
      refine SW.ret ?_
      refine retOk1 rfl ?_
      simp only [noteNext, wrap64, isNode, inB, gb] at *
      grind

theorem s_spec_NoteNext (a b : Int) : Ab.Spec Try.prog 25 2 [(.t 0, .v (I a)), (.t 1, .v (I b))] [(.t 0, .v (I (noteNext a b)))] := by
  refine spec_of_body tabOk Try.func25 rfl (by kernel_rfl) (by decide) (by kernel_rfl) rfl ?_
  refine SW.seq ?_
  refine SW.regT tabOk [0, 1, 10, 11, 12, 15, 16, 17] ?_
  refine And.intro trivial ?_
  refine SW.seq ?_
  refine SW.block ?_
  refine SW.seq ?_
  refine SW.regT tabOk [0, 1, 5] ?_
  refine And.intro trivial ?_
  refine ex_pure (s_spec_l3Keeper _) rfl rfl rfl rfl rfl rfl rfl rfl ?_
  refine And.intro trivial (And.intro trivial (And.intro (fun h => trivial) (And.intro (by intro h; (repeat' apply And.intro) <;> first | exact h | trivial) ?_)))
  refine exc_pure (fun h => (s_spec_l3Keeper _)) rfl rfl rfl rfl rfl rfl rfl rfl (by intro h; (repeat' apply And.intro) <;> first | exact h | trivial) ?_
  refine And.intro (fun h => trivial) (And.intro (by intro h; (repeat' apply And.intro) <;> first | exact h | trivial) (And.intro (by constructor <;> intro h <;> first | trivial | exact h | (simpa [gb, condOf] using h)) (And.intro trivial (And.intro (fun h => trivial) (And.intro (by intro h; (repeat' apply And.intro) <;> first | exact h | trivial) (And.intro (fun h => trivial) (And.intro (by intro h; (repeat' apply And.intro) <;> first | exact h | trivial) (And.intro (fun h => trivial) (And.intro (by intro h; (repeat' apply And.intro) <;> first | exact h | trivial) (And.intro (by constructor <;> intro h <;> first | trivial | exact h | (simpa [gb, condOf] using h)) (And.intro trivial ?_)))))))))))
  refine SW.cond rfl (fun c5 => ?_) (fun c5 => ?_)
  · skip
    refine SW.seq ?_
    refine SW.regT tabOk [4] ?_
    refine And.intro trivial ?_
    refine SW.ret ?_
    refine retOk1 rfl ?_
    simp only [noteNext, wrap64, isNode, inB, gb] at *
    grind
  · skip
    refine SW.seq ?_
    refine SW.regT tabOk [0, 19] ?_
    refine And.intro trivial (And.intro trivial (And.intro trivial (And.intro trivial ?_)))
    refine SW.cond rfl (fun c19 => ?_) (fun c19 => ?_)
    · skip
      refine SW.seq ?_
      refine SW.regT tabOk [4] ?_
      refine And.intro trivial (And.intro trivial (And.intro trivial ?_))
      refine SW.ret ?_
      refine retOk1 rfl ?_
      simp only [noteNext, wrap64, isNode, inB, gb] at *
      grind
    · skip
      refine SW.skip ?_
      refine SW.seq ?_
      refine SW.regT tabOk [4] ?_
      refine And.intro trivial (And.intro trivial (And.intro trivial ?_))
      refine SW.ret ?_
      refine retOk1 rfl ?_
      simp only [noteNext, wrap64, isNode, inB, gb] at *
      grind

theorem s_impl_FrameOk (f : FrameR) : Ab.Spec Try.prog 10 1 [(.t 0, .v (f.V))] [(.t 0, .v (B (frameOk f)))] := by
  refine spec_of_body tabOk Try.func10 rfl (by kernel_rfl) (by decide) (by kernel_rfl) rfl ?_
  refine SW.seq ?_
  refine SW.regT tabOk [1, 8, 9, 10, 11, 14, 15, 16, 17, 20, 21, 22, 23, 26, 27, 28, 29, 32, 33, 34, 35, 45, 46, 47, 50, 51, 52, 53, 56, 57, 58, 59, 60, 61, 62, 63, 72, 73, 74, 77, 78, 79, 82, 83, 84, 85, 86, 87, 88, 89] ?_
  refine And.intro trivial (And.intro trivial ?_)
  refine SW.seq ?_
  refine SW.seq ?_
  refine SW.regT tabOk [1, 36, 45, 46, 47, 50, 51, 52, 53, 56, 57, 58, 59, 60, 61, 62, 63, 72, 73, 74, 77, 78, 79, 82, 83, 84, 85, 86, 87, 88, 89] ?_
  refine And.intro (by first | trivial | rfl) (And.intro (by first | trivial | exact Nat.le_of_ble_eq_true rfl | exact ⟨rfl, Nat.le_of_ble_eq_true rfl⟩ | omega | ((repeat' apply And.intro) <;> first | trivial | rfl | exact Nat.le_of_ble_eq_true rfl | omega) | (simp; done) | (simp; omega)) ?_)
  refine ex_pure (s_impl_isNode _) rfl rfl rfl rfl rfl rfl rfl rfl ?_
  refine And.intro trivial (And.intro trivial (And.intro (fun h => (by first | trivial | rfl)) (And.intro (by intro h; (repeat' apply And.intro) <;> first | exact h | trivial) (And.intro (fun h => (by first | trivial | exact Nat.le_of_ble_eq_true rfl | exact ⟨rfl, Nat.le_of_ble_eq_true rfl⟩ | omega | ((repeat' apply And.intro) <;> first | trivial | rfl | exact Nat.le_of_ble_eq_true rfl | omega) | (simp; done) | (simp; omega))) (And.intro (by intro h; (repeat' apply And.intro) <;> first | exact h | trivial) ?_)))))
  refine exc_pure (fun h => (s_impl_isNode _)) rfl rfl rfl rfl rfl rfl rfl rfl (by intro h; (repeat' apply And.intro) <;> first | exact h | trivial) ?_
  refine And.intro (fun h => trivial) (And.intro (by intro h; (repeat' apply And.intro) <;> first | exact h | trivial) (And.intro (by constructor <;> intro h <;> first | trivial | exact h | (simpa [gb, condOf] using h)) (And.intro trivial (And.intro (fun h => (by first | trivial | rfl)) (And.intro (by intro h; (repeat' apply And.intro) <;> first | exact h | trivial) (And.intro (fun h => (by first | trivial | exact Nat.le_of_ble_eq_true rfl | exact ⟨rfl, Nat.le_of_ble_eq_true rfl⟩ | omega | ((repeat' apply And.intro) <;> first | trivial | rfl | exact Nat.le_of_ble_eq_true rfl | omega) | (simp; done) | (simp; omega))) (And.intro (by intro h; (repeat' apply And.intro) <;> first | exact h | trivial) ?_)))))))
  refine exc_pure (fun h => (s_impl_isNode _)) rfl rfl rfl rfl rfl rfl rfl rfl (by intro h; (repeat' apply And.intro) <;> first | exact h | trivial) ?_
  refine And.intro (fun h => trivial) (And.intro (by intro h; (repeat' apply And.intro) <;> first | exact h | trivial) (And.intro (by constructor <;> intro h <;> first | trivial | exact h | (simpa [gb, condOf] using h)) (And.intro trivial (And.intro (fun h => (by first | trivial | rfl)) (And.intro (by intro h; (repeat' apply And.intro) <;> first | exact h | trivial) (And.intro (fun h => (by first | trivial | exact Nat.le_of_ble_eq_true rfl | exact ⟨rfl, Nat.le_of_ble_eq_true rfl⟩ | omega | ((repeat' apply And.intro) <;> first | trivial | rfl | exact Nat.le_of_ble_eq_true rfl | omega) | (simp; done) | (simp; omega))) (And.intro (by intro h; (repeat' apply And.intro) <;> first | exact h | trivial) ?_)))))))
  refine exc_pure (fun h => (s_impl_isNode _)) rfl rfl rfl rfl rfl rfl rfl rfl (by intro h; (repeat' apply And.intro) <;> first | exact h | trivial) ?_
  refine And.intro (fun h => trivial) (And.intro (by intro h; (repeat' apply And.intro) <;> first | exact h | trivial) (And.intro (by constructor <;> intro h <;> first | trivial | exact h | (simpa [gb, condOf] using h)) (And.intro trivial (And.intro (fun h => (by first | trivial | rfl)) (And.intro (by intro h; (repeat' apply And.intro) <;> first | exact h | trivial) (And.intro (fun h => (by first | trivial | exact Nat.le_of_ble_eq_true rfl | exact ⟨rfl, Nat.le_of_ble_eq_true rfl⟩ | omega | ((repeat' apply And.intro) <;> first | trivial | rfl | exact Nat.le_of_ble_eq_true rfl | omega) | (simp; done) | (simp; omega))) (And.intro (by intro h; (repeat' apply And.intro) <;> first | exact h | trivial) ?_)))))))
  refine exc_pure (fun h => (s_impl_in _ _ _)) rfl rfl rfl rfl rfl rfl rfl rfl (by intro h; (repeat' apply And.intro) <;> first | exact h | trivial) ?_
  refine And.intro (fun h => trivial) (And.intro (by intro h; (repeat' apply And.intro) <;> first | exact h | trivial) (And.intro (by constructor <;> intro h <;> first | trivial | exact h | (simpa [gb, condOf] using h)) (And.intro trivial (And.intro (fun h => (by first | trivial | rfl)) (And.intro (by intro h; (repeat' apply And.intro) <;> first | exact h | trivial) (And.intro (fun h => (by first | trivial | exact Nat.le_of_ble_eq_true rfl | exact ⟨rfl, Nat.le_of_ble_eq_true rfl⟩ | omega | ((repeat' apply And.intro) <;> first | trivial | rfl | exact Nat.le_of_ble_eq_true rfl | omega) | (simp; done) | (simp; omega))) (And.intro (by intro h; (repeat' apply And.intro) <;> first | exact h | trivial) ?_)))))))
  refine exc_pure (fun h => (s_impl_in _ _ _)) rfl rfl rfl rfl rfl rfl rfl rfl (by intro h; (repeat' apply And.intro) <;> first | exact h | trivial) ?_
  refine And.intro (fun h => trivial) (And.intro (by intro h; (repeat' apply And.intro) <;> first | exact h | trivial) (And.intro (by constructor <;> intro h <;> first | trivial | exact h | (simpa [gb, condOf] using h)) ?_))
  refine SW.cond rfl (fun c36 => ?_) (fun c36 => ?_)
  · skip
    refine SW.seq ?_
    refine SW.regT tabOk [2] ?_
    refine And.intro trivial ?_
    refine SW.ret ?_
    refine retOk1 rfl (congrArg D.b (Bool.eq_iff_iff.2 ?_))
    simp only [frameOk, gb, Bool.and_eq_true, Bool.or_eq_false_iff, Bool.not_eq_false, Bool.or_eq_true, Bool.not_eq_true, beq_iff_eq, decide_eq_true_eq, bne_iff_ne, Bool.not_eq_true, List.length_eq_zero_iff, beq_eq_false_iff_ne, bne_eq_false_iff_eq] at *
    grind [inB]
  · skip
    refine SW.skip ?_
    refine SW.seq ?_
    refine SW.seq ?_
    refine SW.regT tabOk [1, 38, 45, 46, 47, 50, 51, 52, 53, 56, 57, 58, 59, 60, 61, 62, 63, 72, 73, 74, 77, 78, 79, 82, 83, 84, 85, 86, 87, 88, 89] ?_
    refine And.intro (by first | trivial | rfl) (And.intro (by first | trivial | exact Nat.le_of_ble_eq_true rfl | exact ⟨rfl, Nat.le_of_ble_eq_true rfl⟩ | omega | ((repeat' apply And.intro) <;> first | trivial | rfl | exact Nat.le_of_ble_eq_true rfl | omega) | (simp; done) | (simp; omega)) ?_)
    refine SW.block ?_
    refine SW.seq ?_
    refine SW.regT tabOk [1, 38, 39, 45, 46, 47, 50, 51, 52, 53, 56, 57, 58, 59, 60, 61, 62, 63, 72, 73, 74, 77, 78, 79, 82, 83, 84, 85, 86, 87, 88, 89] ?_
    refine And.intro trivial (And.intro trivial ?_)
    refine SW.cond rfl (fun c39 => ?_) (fun c39 => ?_)
    · skip
      refine SW.seq ?_
      refine SW.regD tabOk mo [2] ?_
      refine And.intro (by first | trivial | rfl) (And.intro (by first | trivial | exact Nat.le_of_ble_eq_true rfl | exact ⟨rfl, Nat.le_of_ble_eq_true rfl⟩ | omega | ((repeat' apply And.intro) <;> first | trivial | rfl | exact Nat.le_of_ble_eq_true rfl | omega) | (simp; done) | (simp; omega)) ?_)
      refine ex_pure (s_impl_in _ _ _) rfl rfl rfl rfl rfl rfl rfl rfl ?_
      refine And.intro trivial (And.intro (fun h => (by first | trivial | rfl)) (And.intro (by intro h; (repeat' apply And.intro) <;> first | exact h | trivial) (And.intro (fun h => (by first | trivial | exact Nat.le_of_ble_eq_true rfl | exact ⟨rfl, Nat.le_of_ble_eq_true rfl⟩ | omega | ((repeat' apply And.intro) <;> first | trivial | rfl | exact Nat.le_of_ble_eq_true rfl | omega) | (simp; done) | (simp; omega))) (And.intro (by intro h; (repeat' apply And.intro) <;> first | exact h | trivial) ?_))))
      refine exc_pure (fun h => (s_impl_in _ _ _)) rfl rfl rfl rfl rfl rfl rfl rfl (by intro h; (repeat' apply And.intro) <;> first | exact h | trivial) ?_
      refine And.intro (by constructor <;> intro h <;> first | trivial | exact h | (simpa [gb, condOf] using h)) (And.intro trivial (And.intro (fun h => (by first | trivial | rfl)) (And.intro (by intro h; (repeat' apply And.intro) <;> first | exact h | trivial) (And.intro (fun h => (by first | trivial | exact Nat.le_of_ble_eq_true rfl | exact ⟨rfl, Nat.le_of_ble_eq_true rfl⟩ | omega | ((repeat' apply And.intro) <;> first | trivial | rfl | exact Nat.le_of_ble_eq_true rfl | omega) | (simp; done) | (simp; omega))) (And.intro (by intro h; (repeat' apply And.intro) <;> first | exact h | trivial) (And.intro (fun h => (by first | trivial | exact Nat.le_of_ble_eq_true rfl | exact ⟨rfl, Nat.le_of_ble_eq_true rfl⟩ | omega | ((repeat' apply And.intro) <;> first | trivial | rfl | exact Nat.le_of_ble_eq_true rfl | omega) | (simp; done) | (simp; omega))) (And.intro (by intro h; (repeat' apply And.intro) <;> first | exact h | trivial) (And.intro (fun h => trivial) (And.intro (by intro h; (repeat' apply And.intro) <;> first | exact h | trivial) (And.intro (by constructor <;> intro h <;> first | trivial | exact h | (simpa [gb, condOf] using h)) (And.intro trivial (And.intro (fun h => (by first | trivial | rfl)) (And.intro (by intro h; (repeat' apply And.intro) <;> first | exact h | trivial) (And.intro (fun h => (by first | trivial | exact Nat.le_of_ble_eq_true rfl | exact ⟨rfl, Nat.le_of_ble_eq_true rfl⟩ | omega | ((repeat' apply And.intro) <;> first | trivial | rfl | exact Nat.le_of_ble_eq_true rfl | omega) | (simp; done) | (simp; omega))) (And.intro (by intro h; (repeat' apply And.intro) <;> first | exact h | trivial) (And.intro (fun h => (by first | trivial | rfl)) (And.intro (by intro h; (repeat' apply And.intro) <;> first | exact h | trivial) (And.intro (fun h => (by first | trivial | exact Nat.le_of_ble_eq_true rfl | exact ⟨rfl, Nat.le_of_ble_eq_true rfl⟩ | omega | ((repeat' apply And.intro) <;> first | trivial | rfl | exact Nat.le_of_ble_eq_true rfl | omega) | (simp; done) | (simp; omega))) (And.intro (by intro h; (repeat' apply And.intro) <;> first | exact h | trivial) (And.intro (fun h => (by first | trivial | rfl)) (And.intro (by intro h; (repeat' apply And.intro) <;> first | exact h | trivial) (And.intro (fun h => (by first | trivial | exact Nat.le_of_ble_eq_true rfl | exact ⟨rfl, Nat.le_of_ble_eq_true rfl⟩ | omega | ((repeat' apply And.intro) <;> first | trivial | rfl | exact Nat.le_of_ble_eq_true rfl | omega) | (simp; done) | (simp; omega))) (And.intro (by intro h; (repeat' apply And.intro) <;> first | exact h | trivial) ?_)))))))))))))))))))))))
      refine exc_pure (fun h => (s_impl_NoteNext _ _)) rfl rfl rfl rfl rfl rfl rfl rfl (by intro h; (repeat' apply And.intro) <;> first | exact h | trivial) ?_
      refine And.intro (fun h => trivial) (And.intro (by intro h; (repeat' apply And.intro) <;> first | exact h | trivial) (And.intro (by constructor <;> intro h <;> first | trivial | exact h | (simpa [gb, condOf] using h)) (And.intro trivial (And.intro (by kernel_rfl) ?_))))
      refine SW.ret ?_
      refine retOk1 rfl (congrArg D.b (Bool.eq_iff_iff.2 ?_))
      simp only [frameOk, gb, Bool.and_eq_true, Bool.or_eq_false_iff, Bool.not_eq_false, Bool.or_eq_true, Bool.not_eq_true, beq_iff_eq, decide_eq_true_eq, bne_iff_ne, Bool.not_eq_true, List.length_eq_zero_iff, beq_eq_false_iff_ne, bne_eq_false_iff_eq] at *
      grind [inB]
    · skip
      refine SW.seq ?_
      refine SW.seq ?_
      refine SW.regT tabOk [1, 38, 65, 72, 73, 74, 77, 78, 79, 82, 83, 84, 85, 86, 87, 88, 89] ?_
      refine And.intro trivial (And.intro trivial ?_)
      refine SW.cond rfl (fun c65 => ?_) (fun c65 => ?_)
      · skip
        refine SW.skip ?_
        refine SW.cond rfl (fun c65 => ?_) (fun c65 => ?_)
        · skip
          refine SW.seq ?_
          refine SW.regD tabOk mo [2] ?_
          refine And.intro (by first | trivial | rfl) (And.intro (by first | trivial | exact Nat.le_of_ble_eq_true rfl | exact ⟨rfl, Nat.le_of_ble_eq_true rfl⟩ | omega | ((repeat' apply And.intro) <;> first | trivial | rfl | exact Nat.le_of_ble_eq_true rfl | omega) | (simp; done) | (simp; omega)) (And.intro trivial (And.intro trivial (And.intro (fun h => (by first | trivial | rfl)) (And.intro (by intro h; (repeat' apply And.intro) <;> first | exact h | trivial) (And.intro (fun h => (by first | trivial | exact Nat.le_of_ble_eq_true rfl | exact ⟨rfl, Nat.le_of_ble_eq_true rfl⟩ | omega | ((repeat' apply And.intro) <;> first | trivial | rfl | exact Nat.le_of_ble_eq_true rfl | omega) | (simp; done) | (simp; omega))) (And.intro (by intro h; (repeat' apply And.intro) <;> first | exact h | trivial) (And.intro (fun h => trivial) (And.intro (by intro h; (repeat' apply And.intro) <;> first | exact h | trivial) (And.intro (by constructor <;> intro h <;> first | trivial | exact h | (simpa [gb, condOf] using h)) (And.intro trivial (And.intro (fun h => (by first | trivial | rfl)) (And.intro (by intro h; (repeat' apply And.intro) <;> first | exact h | trivial) (And.intro (fun h => (by first | trivial | exact Nat.le_of_ble_eq_true rfl | exact ⟨rfl, Nat.le_of_ble_eq_true rfl⟩ | omega | ((repeat' apply And.intro) <;> first | trivial | rfl | exact Nat.le_of_ble_eq_true rfl | omega) | (simp; done) | (simp; omega))) (And.intro (by intro h; (repeat' apply And.intro) <;> first | exact h | trivial) (And.intro (fun h => (by first | trivial | exact Nat.le_of_ble_eq_true rfl | exact ⟨rfl, Nat.le_of_ble_eq_true rfl⟩ | omega | ((repeat' apply And.intro) <;> first | trivial | rfl | exact Nat.le_of_ble_eq_true rfl | omega) | (simp; done) | (simp; omega))) (And.intro (by intro h; (repeat' apply And.intro) <;> first | exact h | trivial) (And.intro (by constructor <;> intro h <;> first | trivial | exact h | (simpa [gb, condOf] using h)) (And.intro trivial (And.intro (fun h => (by first | trivial | rfl)) (And.intro (by intro h; (repeat' apply And.intro) <;> first | exact h | trivial) (And.intro (fun h => (by first | trivial | exact Nat.le_of_ble_eq_true rfl | exact ⟨rfl, Nat.le_of_ble_eq_true rfl⟩ | omega | ((repeat' apply And.intro) <;> first | trivial | rfl | exact Nat.le_of_ble_eq_true rfl | omega) | (simp; done) | (simp; omega))) (And.intro (by intro h; (repeat' apply And.intro) <;> first | exact h | trivial) (And.intro (fun h => (by first | trivial | rfl)) (And.intro (by intro h; (repeat' apply And.intro) <;> first | exact h | trivial) (And.intro (fun h => (by first | trivial | exact Nat.le_of_ble_eq_true rfl | exact ⟨rfl, Nat.le_of_ble_eq_true rfl⟩ | omega | ((repeat' apply And.intro) <;> first | trivial | rfl | exact Nat.le_of_ble_eq_true rfl | omega) | (simp; done) | (simp; omega))) (And.intro (by intro h; (repeat' apply And.intro) <;> first | exact h | trivial) (And.intro (fun h => (by first | trivial | rfl)) (And.intro (by intro h; (repeat' apply And.intro) <;> first | exact h | trivial) (And.intro (fun h => (by first | trivial | exact Nat.le_of_ble_eq_true rfl | exact ⟨rfl, Nat.le_of_ble_eq_true rfl⟩ | omega | ((repeat' apply And.intro) <;> first | trivial | rfl | exact Nat.le_of_ble_eq_true rfl | omega) | (simp; done) | (simp; omega))) (And.intro (by intro h; (repeat' apply And.intro) <;> first | exact h | trivial) ?_)))))))))))))))))))))))))))))))
          refine exc_pure (fun h => (s_impl_NoteNext _ _)) rfl rfl rfl rfl rfl rfl rfl rfl (by intro h; (repeat' apply And.intro) <;> first | exact h | trivial) ?_
          refine And.intro (fun h => trivial) (And.intro (by intro h; (repeat' apply And.intro) <;> first | exact h | trivial) (And.intro (by constructor <;> intro h <;> first | trivial | exact h | (simpa [gb, condOf] using h)) (And.intro trivial (And.intro (by kernel_rfl) ?_))))
          refine SW.ret ?_
          refine retOk1 rfl (congrArg D.b (Bool.eq_iff_iff.2 ?_))
          simp only [frameOk, gb, Bool.and_eq_true, Bool.or_eq_false_iff, Bool.not_eq_false, Bool.or_eq_true, Bool.not_eq_true, beq_iff_eq, decide_eq_true_eq, bne_iff_ne, Bool.not_eq_true, List.length_eq_zero_iff, beq_eq_false_iff_ne, bne_eq_false_iff_eq] at *
          grind [inB]
        · skip
          refine SW.skip ?_
          refine SW.seq ?_
          refine SW.regT tabOk [2] ?_
          refine And.intro trivial ?_
          refine SW.ret ?_
          refine retOk1 rfl (congrArg D.b (Bool.eq_iff_iff.2 ?_))
          simp only [frameOk, gb, Bool.and_eq_true, Bool.or_eq_false_iff, Bool.not_eq_false, Bool.or_eq_true, Bool.not_eq_true, beq_iff_eq, decide_eq_true_eq, bne_iff_ne, Bool.not_eq_true, List.length_eq_zero_iff, beq_eq_false_iff_ne, bne_eq_false_iff_eq] at *
          grind [inB]
      · skip
        refine SW.regT tabOk [1, 65, 72, 73, 74, 77, 78, 79, 82, 83, 84, 85, 86, 87, 88, 89] ?_
        refine And.intro trivial (And.intro trivial ?_)
        refine SW.cond rfl (fun c65 => ?_) (fun c65 => ?_)
        · skip
          refine SW.seq ?_
          refine SW.regD tabOk mo [2] ?_
          refine And.intro (by first | trivial | rfl) (And.intro (by first | trivial | exact Nat.le_of_ble_eq_true rfl | exact ⟨rfl, Nat.le_of_ble_eq_true rfl⟩ | omega | ((repeat' apply And.intro) <;> first | trivial | rfl | exact Nat.le_of_ble_eq_true rfl | omega) | (simp; done) | (simp; omega)) (And.intro trivial (And.intro trivial (And.intro (fun h => (by first | trivial | rfl)) (And.intro (by intro h; (repeat' apply And.intro) <;> first | exact h | trivial) (And.intro (fun h => (by first | trivial | exact Nat.le_of_ble_eq_true rfl | exact ⟨rfl, Nat.le_of_ble_eq_true rfl⟩ | omega | ((repeat' apply And.intro) <;> first | trivial | rfl | exact Nat.le_of_ble_eq_true rfl | omega) | (simp; done) | (simp; omega))) (And.intro (by intro h; (repeat' apply And.intro) <;> first | exact h | trivial) (And.intro (fun h => trivial) (And.intro (by intro h; (repeat' apply And.intro) <;> first | exact h | trivial) (And.intro (by constructor <;> intro h <;> first | trivial | exact h | (simpa [gb, condOf] using h)) (And.intro trivial (And.intro (fun h => (by first | trivial | rfl)) (And.intro (by intro h; (repeat' apply And.intro) <;> first | exact h | trivial) (And.intro (fun h => (by first | trivial | exact Nat.le_of_ble_eq_true rfl | exact ⟨rfl, Nat.le_of_ble_eq_true rfl⟩ | omega | ((repeat' apply And.intro) <;> first | trivial | rfl | exact Nat.le_of_ble_eq_true rfl | omega) | (simp; done) | (simp; omega))) (And.intro (by intro h; (repeat' apply And.intro) <;> first | exact h | trivial) (And.intro (fun h => (by first | trivial | exact Nat.le_of_ble_eq_true rfl | exact ⟨rfl, Nat.le_of_ble_eq_true rfl⟩ | omega | ((repeat' apply And.intro) <;> first | trivial | rfl | exact Nat.le_of_ble_eq_true rfl | omega) | (simp; done) | (simp; omega))) (And.intro (by intro h; (repeat' apply And.intro) <;> first | exact h | trivial) (And.intro (by constructor <;> intro h <;> first | trivial | exact h | (simpa [gb, condOf] using h)) (And.intro trivial (And.intro (fun h => (by first | trivial | rfl)) (And.intro (by intro h; (repeat' apply And.intro) <;> first | exact h | trivial) (And.intro (fun h => (by first | trivial | exact Nat.le_of_ble_eq_true rfl | exact ⟨rfl, Nat.le_of_ble_eq_true rfl⟩ | omega | ((repeat' apply And.intro) <;> first | trivial | rfl | exact Nat.le_of_ble_eq_true rfl | omega) | (simp; done) | (simp; omega))) (And.intro (by intro h; (repeat' apply And.intro) <;> first | exact h | trivial) (And.intro (fun h => (by first | trivial | rfl)) (And.intro (by intro h; (repeat' apply And.intro) <;> first | exact h | trivial) (And.intro (fun h => (by first | trivial | exact Nat.le_of_ble_eq_true rfl | exact ⟨rfl, Nat.le_of_ble_eq_true rfl⟩ | omega | ((repeat' apply And.intro) <;> first | trivial | rfl | exact Nat.le_of_ble_eq_true rfl | omega) | (simp; done) | (simp; omega))) (And.intro (by intro h; (repeat' apply And.intro) <;> first | exact h | trivial) (And.intro (fun h => (by first | trivial | rfl)) (And.intro (by intro h; (repeat' apply And.intro) <;> first | exact h | trivial) (And.intro (fun h => (by first | trivial | exact Nat.le_of_ble_eq_true rfl | exact ⟨rfl, Nat.le_of_ble_eq_true rfl⟩ | omega | ((repeat' apply And.intro) <;> first | trivial | rfl | exact Nat.le_of_ble_eq_true rfl | omega) | (simp; done) | (simp; omega))) (And.intro (by intro h; (repeat' apply And.intro) <;> first | exact h | trivial) ?_)))))))))))))))))))))))))))))))
          refine exc_pure (fun h => (s_impl_NoteNext _ _)) rfl rfl rfl rfl rfl rfl rfl rfl (by intro h; (repeat' apply And.intro) <;> first | exact h | trivial) ?_
          refine And.intro (fun h => trivial) (And.intro (by intro h; (repeat' apply And.intro) <;> first | exact h | trivial) (And.intro (by constructor <;> intro h <;> first | trivial | exact h | (simpa [gb, condOf] using h)) (And.intro trivial (And.intro (by kernel_rfl) ?_))))
          refine SW.ret ?_
          refine retOk1 rfl (congrArg D.b (Bool.eq_iff_iff.2 ?_))
          simp only [frameOk, gb, Bool.and_eq_true, Bool.or_eq_false_iff, Bool.not_eq_false, Bool.or_eq_true, Bool.not_eq_true, beq_iff_eq, decide_eq_true_eq, bne_iff_ne, Bool.not_eq_true, List.length_eq_zero_iff, beq_eq_false_iff_ne, bne_eq_false_iff_eq] at *
          grind [inB]
        · skip
          refine SW.skip ?_
          refine SW.seq ?_
          refine SW.regT tabOk [2] ?_
          refine And.intro trivial ?_
          refine SW.ret ?_
          refine retOk1 rfl (congrArg D.b (Bool.eq_iff_iff.2 ?_))
          simp only [frameOk, gb, Bool.and_eq_true, Bool.or_eq_false_iff, Bool.not_eq_false, Bool.or_eq_true, Bool.not_eq_true, beq_iff_eq, decide_eq_true_eq, bne_iff_ne, Bool.not_eq_true, List.length_eq_zero_iff, beq_eq_false_iff_ne, bne_eq_false_iff_eq] at *
          grind [inB]

theorem s_spec_FrameOk (f : FrameR) : Ab.Spec Try.prog 11 1 [(.t 0, .v (f.V))] [(.t 0, .v (B (frameOk f)))] := by
  refine spec_of_body tabOk Try.func11 rfl (by kernel_rfl) (by decide) (by kernel_rfl) rfl ?_
  refine SW.seq ?_
  refine SW.regT tabOk [1, 8, 9, 10, 11, 14, 15, 16, 17, 20, 21, 22, 23, 26, 27, 28, 29, 32, 33, 34, 35, 38, 39, 40, 41, 55, 56, 57, 60, 61, 62, 65, 66, 67, 78, 79, 80, 83, 84, 85, 88, 89, 90, 91] ?_
  refine And.intro trivial (And.intro trivial ?_)
  refine SW.seq ?_
  refine SW.seq ?_
  refine SW.regT tabOk [1, 42, 55, 56, 57, 60, 61, 62, 65, 66, 67, 78, 79, 80, 83, 84, 85, 88, 89, 90, 91] ?_
  refine And.intro (by first | trivial | rfl) (And.intro (by first | trivial | exact Nat.le_of_ble_eq_true rfl | exact ⟨rfl, Nat.le_of_ble_eq_true rfl⟩ | omega | ((repeat' apply And.intro) <;> first | trivial | rfl | exact Nat.le_of_ble_eq_true rfl | omega) | (simp; done) | (simp; omega)) ?_)
  refine ex_pure (s_spec_l6In _ _ _) rfl rfl rfl rfl rfl rfl rfl rfl ?_
  refine And.intro trivial (And.intro trivial (And.intro (fun h => (by first | trivial | rfl)) (And.intro (by intro h; (repeat' apply And.intro) <;> first | exact h | trivial) (And.intro (fun h => (by first | trivial | exact Nat.le_of_ble_eq_true rfl | exact ⟨rfl, Nat.le_of_ble_eq_true rfl⟩ | omega | ((repeat' apply And.intro) <;> first | trivial | rfl | exact Nat.le_of_ble_eq_true rfl | omega) | (simp; done) | (simp; omega))) (And.intro (by intro h; (repeat' apply And.intro) <;> first | exact h | trivial) ?_)))))
  refine exc_pure (fun h => (s_spec_l3Keeper _)) rfl rfl rfl rfl rfl rfl rfl rfl (by intro h; (repeat' apply And.intro) <;> first | exact h | trivial) ?_
  refine And.intro (fun h => trivial) (And.intro (by intro h; (repeat' apply And.intro) <;> first | exact h | trivial) (And.intro (by constructor <;> intro h <;> first | trivial | exact h | (simpa [gb, condOf] using h)) (And.intro trivial (And.intro (fun h => (by first | trivial | rfl)) (And.intro (by intro h; (repeat' apply And.intro) <;> first | exact h | trivial) (And.intro (fun h => (by first | trivial | exact Nat.le_of_ble_eq_true rfl | exact ⟨rfl, Nat.le_of_ble_eq_true rfl⟩ | omega | ((repeat' apply And.intro) <;> first | trivial | rfl | exact Nat.le_of_ble_eq_true rfl | omega) | (simp; done) | (simp; omega))) (And.intro (by intro h; (repeat' apply And.intro) <;> first | exact h | trivial) ?_)))))))
  refine exc_pure (fun h => (s_spec_l3Keeper _)) rfl rfl rfl rfl rfl rfl rfl rfl (by intro h; (repeat' apply And.intro) <;> first | exact h | trivial) ?_
  refine And.intro (fun h => trivial) (And.intro (by intro h; (repeat' apply And.intro) <;> first | exact h | trivial) (And.intro (by constructor <;> intro h <;> first | trivial | exact h | (simpa [gb, condOf] using h)) (And.intro trivial (And.intro (fun h => (by first | trivial | rfl)) (And.intro (by intro h; (repeat' apply And.intro) <;> first | exact h | trivial) (And.intro (fun h => (by first | trivial | exact Nat.le_of_ble_eq_true rfl | exact ⟨rfl, Nat.le_of_ble_eq_true rfl⟩ | omega | ((repeat' apply And.intro) <;> first | trivial | rfl | exact Nat.le_of_ble_eq_true rfl | omega) | (simp; done) | (simp; omega))) (And.intro (by intro h; (repeat' apply And.intro) <;> first | exact h | trivial) ?_)))))))
  refine exc_pure (fun h => (s_spec_l3Keeper _)) rfl rfl rfl rfl rfl rfl rfl rfl (by intro h; (repeat' apply And.intro) <;> first | exact h | trivial) ?_
  refine And.intro (fun h => trivial) (And.intro (by intro h; (repeat' apply And.intro) <;> first | exact h | trivial) (And.intro (by constructor <;> intro h <;> first | trivial | exact h | (simpa [gb, condOf] using h)) (And.intro trivial (And.intro (fun h => (by first | trivial | rfl)) (And.intro (by intro h; (repeat' apply And.intro) <;> first | exact h | trivial) (And.intro (fun h => (by first | trivial | exact Nat.le_of_ble_eq_true rfl | exact ⟨rfl, Nat.le_of_ble_eq_true rfl⟩ | omega | ((repeat' apply And.intro) <;> first | trivial | rfl | exact Nat.le_of_ble_eq_true rfl | omega) | (simp; done) | (simp; omega))) (And.intro (by intro h; (repeat' apply And.intro) <;> first | exact h | trivial) ?_)))))))
  refine exc_pure (fun h => (s_spec_l3Keeper _)) rfl rfl rfl rfl rfl rfl rfl rfl (by intro h; (repeat' apply And.intro) <;> first | exact h | trivial) ?_
  refine And.intro (fun h => trivial) (And.intro (by intro h; (repeat' apply And.intro) <;> first | exact h | trivial) (And.intro (by constructor <;> intro h <;> first | trivial | exact h | (simpa [gb, condOf] using h)) (And.intro trivial (And.intro (fun h => (by first | trivial | rfl)) (And.intro (by intro h; (repeat' apply And.intro) <;> first | exact h | trivial) (And.intro (fun h => (by first | trivial | exact Nat.le_of_ble_eq_true rfl | exact ⟨rfl, Nat.le_of_ble_eq_true rfl⟩ | omega | ((repeat' apply And.intro) <;> first | trivial | rfl | exact Nat.le_of_ble_eq_true rfl | omega) | (simp; done) | (simp; omega))) (And.intro (by intro h; (repeat' apply And.intro) <;> first | exact h | trivial) ?_)))))))
  refine exc_pure (fun h => (s_spec_l6In _ _ _)) rfl rfl rfl rfl rfl rfl rfl rfl (by intro h; (repeat' apply And.intro) <;> first | exact h | trivial) ?_
  refine And.intro (fun h => trivial) (And.intro (by intro h; (repeat' apply And.intro) <;> first | exact h | trivial) (And.intro (by constructor <;> intro h <;> first | trivial | exact h | (simpa [gb, condOf] using h)) (And.intro trivial (And.intro (fun h => (by first | trivial | rfl)) (And.intro (by intro h; (repeat' apply And.intro) <;> first | exact h | trivial) (And.intro (fun h => (by first | trivial | exact Nat.le_of_ble_eq_true rfl | exact ⟨rfl, Nat.le_of_ble_eq_true rfl⟩ | omega | ((repeat' apply And.intro) <;> first | trivial | rfl | exact Nat.le_of_ble_eq_true rfl | omega) | (simp; done) | (simp; omega))) (And.intro (by intro h; (repeat' apply And.intro) <;> first | exact h | trivial) ?_)))))))
  refine exc_pure (fun h => (s_spec_l6In _ _ _)) rfl rfl rfl rfl rfl rfl rfl rfl (by intro h; (repeat' apply And.intro) <;> first | exact h | trivial) ?_
  refine And.intro (fun h => trivial) (And.intro (by intro h; (repeat' apply And.intro) <;> first | exact h | trivial) (And.intro (by constructor <;> intro h <;> first | trivial | exact h | (simpa [gb, condOf] using h)) ?_))
  refine SW.cond rfl (fun c42 => ?_) (fun c42 => ?_)
  · skip
    refine SW.seq ?_
    refine SW.regT tabOk [2] ?_
    refine And.intro trivial ?_
    refine SW.ret ?_
    refine retOk1 rfl (congrArg D.b (Bool.eq_iff_iff.2 ?_))
    simp only [frameOk, gb, Bool.and_eq_true, Bool.or_eq_false_iff, Bool.not_eq_false, Bool.or_eq_true, Bool.not_eq_true, beq_iff_eq, decide_eq_true_eq, bne_iff_ne, Bool.not_eq_true, List.length_eq_zero_iff, beq_eq_false_iff_ne, bne_eq_false_iff_eq] at *
    grind [inB]
  · skip
    refine SW.skip ?_
    refine SW.seq ?_
    refine SW.seq ?_
    refine SW.regT tabOk [1, 45, 55, 56, 57, 60, 61, 62, 65, 66, 67, 78, 79, 80, 83, 84, 85, 88, 89, 90, 91] ?_
    refine And.intro (by first | trivial | rfl) (And.intro (by first | trivial | exact Nat.le_of_ble_eq_true rfl | exact ⟨rfl, Nat.le_of_ble_eq_true rfl⟩ | omega | ((repeat' apply And.intro) <;> first | trivial | rfl | exact Nat.le_of_ble_eq_true rfl | omega) | (simp; done) | (simp; omega)) (And.intro trivial ?_))
    refine SW.cond rfl (fun c45 => ?_) (fun c45 => ?_)
    · skip
      refine SW.seq ?_
      refine SW.regD tabOk mo [2] ?_
      refine And.intro (by first | trivial | rfl) (And.intro (by first | trivial | exact Nat.le_of_ble_eq_true rfl | exact ⟨rfl, Nat.le_of_ble_eq_true rfl⟩ | omega | ((repeat' apply And.intro) <;> first | trivial | rfl | exact Nat.le_of_ble_eq_true rfl | omega) | (simp; done) | (simp; omega)) (And.intro (by first | trivial | rfl) (And.intro (by first | trivial | exact Nat.le_of_ble_eq_true rfl | exact ⟨rfl, Nat.le_of_ble_eq_true rfl⟩ | omega | ((repeat' apply And.intro) <;> first | trivial | rfl | exact Nat.le_of_ble_eq_true rfl | omega) | (simp; done) | (simp; omega)) ?_)))
      refine ex_pure (s_spec_NoteNext _ _) rfl rfl rfl rfl rfl rfl rfl rfl ?_
      refine And.intro (by first | trivial | rfl) (And.intro (by first | trivial | exact Nat.le_of_ble_eq_true rfl | exact ⟨rfl, Nat.le_of_ble_eq_true rfl⟩ | omega | ((repeat' apply And.intro) <;> first | trivial | rfl | exact Nat.le_of_ble_eq_true rfl | omega) | (simp; done) | (simp; omega)) (And.intro trivial (And.intro trivial (And.intro (fun h => (by first | trivial | rfl)) (And.intro (by intro h; (repeat' apply And.intro) <;> first | exact h | trivial) (And.intro (fun h => (by first | trivial | exact Nat.le_of_ble_eq_true rfl | exact ⟨rfl, Nat.le_of_ble_eq_true rfl⟩ | omega | ((repeat' apply And.intro) <;> first | trivial | rfl | exact Nat.le_of_ble_eq_true rfl | omega) | (simp; done) | (simp; omega))) (And.intro (by intro h; (repeat' apply And.intro) <;> first | exact h | trivial) (And.intro (fun h => trivial) (And.intro (by intro h; (repeat' apply And.intro) <;> first | exact h | trivial) (And.intro (by constructor <;> intro h <;> first | trivial | exact h | (simpa [gb, condOf] using h)) (And.intro trivial (And.intro (fun h => (by first | trivial | rfl)) (And.intro (by intro h; (repeat' apply And.intro) <;> first | exact h | trivial) (And.intro (fun h => (by first | trivial | exact Nat.le_of_ble_eq_true rfl | exact ⟨rfl, Nat.le_of_ble_eq_true rfl⟩ | omega | ((repeat' apply And.intro) <;> first | trivial | rfl | exact Nat.le_of_ble_eq_true rfl | omega) | (simp; done) | (simp; omega))) (And.intro (by intro h; (repeat' apply And.intro) <;> first | exact h | trivial) (And.intro (fun h => trivial) (And.intro (by intro h; (repeat' apply And.intro) <;> first | exact h | trivial) (And.intro (by constructor <;> intro h <;> first | trivial | exact h | (simpa [gb, condOf] using h)) (And.intro trivial (And.intro (fun h => (by first | trivial | rfl)) (And.intro (by intro h; (repeat' apply And.intro) <;> first | exact h | trivial) (And.intro (fun h => (by first | trivial | exact Nat.le_of_ble_eq_true rfl | exact ⟨rfl, Nat.le_of_ble_eq_true rfl⟩ | omega | ((repeat' apply And.intro) <;> first | trivial | rfl | exact Nat.le_of_ble_eq_true rfl | omega) | (simp; done) | (simp; omega))) (And.intro (by intro h; (repeat' apply And.intro) <;> first | exact h | trivial) (And.intro (fun h => (by first | trivial | exact Nat.le_of_ble_eq_true rfl | exact ⟨rfl, Nat.le_of_ble_eq_true rfl⟩ | omega | ((repeat' apply And.intro) <;> first | trivial | rfl | exact Nat.le_of_ble_eq_true rfl | omega) | (simp; done) | (simp; omega))) (And.intro (by intro h; (repeat' apply And.intro) <;> first | exact h | trivial) (And.intro (by constructor <;> intro h <;> first | trivial | exact h | (simpa [gb, condOf] using h)) (And.intro trivial (And.intro (by kernel_rfl) ?_))))))))))))))))))))))))))))
      refine SW.ret ?_
      refine retOk1 rfl (congrArg D.b (Bool.eq_iff_iff.2 ?_))
      simp only [frameOk, gb, Bool.and_eq_true, Bool.or_eq_false_iff, Bool.not_eq_false, Bool.or_eq_true, Bool.not_eq_true, beq_iff_eq, decide_eq_true_eq, bne_iff_ne, Bool.not_eq_true, List.length_eq_zero_iff, beq_eq_false_iff_ne, bne_eq_false_iff_eq] at *
      grind [inB]
    · skip
      refine SW.skip ?_
      refine SW.seq ?_
      refine SW.regD tabOk mo [2] ?_
      refine And.intro (by first | trivial | rfl) (And.intro (by first | trivial | exact Nat.le_of_ble_eq_true rfl | exact ⟨rfl, Nat.le_of_ble_eq_true rfl⟩ | omega | ((repeat' apply And.intro) <;> first | trivial | rfl | exact Nat.le_of_ble_eq_true rfl | omega) | (simp; done) | (simp; omega)) (And.intro (by first | trivial | rfl) (And.intro (by first | trivial | exact Nat.le_of_ble_eq_true rfl | exact ⟨rfl, Nat.le_of_ble_eq_true rfl⟩ | omega | ((repeat' apply And.intro) <;> first | trivial | rfl | exact Nat.le_of_ble_eq_true rfl | omega) | (simp; done) | (simp; omega)) ?_)))
      refine ex_pure (s_spec_NoteNext _ _) rfl rfl rfl rfl rfl rfl rfl rfl ?_
      refine And.intro (by first | trivial | rfl) (And.intro (by first | trivial | exact Nat.le_of_ble_eq_true rfl | exact ⟨rfl, Nat.le_of_ble_eq_true rfl⟩ | omega | ((repeat' apply And.intro) <;> first | trivial | rfl | exact Nat.le_of_ble_eq_true rfl | omega) | (simp; done) | (simp; omega)) (And.intro trivial (And.intro trivial (And.intro (fun h => (by first | trivial | rfl)) (And.intro (by intro h; (repeat' apply And.intro) <;> first | exact h | trivial) (And.intro (fun h => (by first | trivial | exact Nat.le_of_ble_eq_true rfl | exact ⟨rfl, Nat.le_of_ble_eq_true rfl⟩ | omega | ((repeat' apply And.intro) <;> first | trivial | rfl | exact Nat.le_of_ble_eq_true rfl | omega) | (simp; done) | (simp; omega))) (And.intro (by intro h; (repeat' apply And.intro) <;> first | exact h | trivial) ?_)))))))
      refine exc_pure (fun h => (s_spec_l6In _ _ _)) rfl rfl rfl rfl rfl rfl rfl rfl (by intro h; (repeat' apply And.intro) <;> first | exact h | trivial) ?_
      refine And.intro (by constructor <;> intro h <;> first | trivial | exact h | (simpa [gb, condOf] using h)) (And.intro trivial (And.intro (fun h => (by first | trivial | rfl)) (And.intro (by intro h; (repeat' apply And.intro) <;> first | exact h | trivial) (And.intro (fun h => (by first | trivial | exact Nat.le_of_ble_eq_true rfl | exact ⟨rfl, Nat.le_of_ble_eq_true rfl⟩ | omega | ((repeat' apply And.intro) <;> first | trivial | rfl | exact Nat.le_of_ble_eq_true rfl | omega) | (simp; done) | (simp; omega))) (And.intro (by intro h; (repeat' apply And.intro) <;> first | exact h | trivial) ?_)))))
      refine exc_pure (fun h => (s_spec_l6In _ _ _)) rfl rfl rfl rfl rfl rfl rfl rfl (by intro h; (repeat' apply And.intro) <;> first | exact h | trivial) ?_
      refine And.intro (by constructor <;> intro h <;> first | trivial | exact h | (simpa [gb, condOf] using h)) (And.intro trivial (And.intro (fun h => (by first | trivial | rfl)) (And.intro (by intro h; (repeat' apply And.intro) <;> first | exact h | trivial) (And.intro (fun h => (by first | trivial | exact Nat.le_of_ble_eq_true rfl | exact ⟨rfl, Nat.le_of_ble_eq_true rfl⟩ | omega | ((repeat' apply And.intro) <;> first | trivial | rfl | exact Nat.le_of_ble_eq_true rfl | omega) | (simp; done) | (simp; omega))) (And.intro (by intro h; (repeat' apply And.intro) <;> first | exact h | trivial) (And.intro (fun h => (by first | trivial | exact Nat.le_of_ble_eq_true rfl | exact ⟨rfl, Nat.le_of_ble_eq_true rfl⟩ | omega | ((repeat' apply And.intro) <;> first | trivial | rfl | exact Nat.le_of_ble_eq_true rfl | omega) | (simp; done) | (simp; omega))) (And.intro (by intro h; (repeat' apply And.intro) <;> first | exact h | trivial) (And.intro (fun h => trivial) (And.intro (by intro h; (repeat' apply And.intro) <;> first | exact h | trivial) (And.intro (by constructor <;> intro h <;> first | trivial | exact h | (simpa [gb, condOf] using h)) (And.intro trivial (And.intro (by kernel_rfl) ?_))))))))))))
      refine SW.ret ?_
      refine retOk1 rfl (congrArg D.b (Bool.eq_iff_iff.2 ?_))
      simp only [frameOk, gb, Bool.and_eq_true, Bool.or_eq_false_iff, Bool.not_eq_false, Bool.or_eq_true, Bool.not_eq_true, beq_iff_eq, decide_eq_true_eq, bne_iff_ne, Bool.not_eq_true, List.length_eq_zero_iff, beq_eq_false_iff_ne, bne_eq_false_iff_eq] at *
      grind [inB]

theorem typed_int {B : Nat} {ds : List D} (h : Typed tab B 8 3 ds) : ∃ n : Int, ds = [.i n] ∧ (Lit.int .i64 n).wf = true := h
theorem typed_bytes {B : Nat} {ds : List D} (h : Typed tab B 8 22 ds) : ∃ l : List UInt8, ds = [.sl (bytesRows l)] ∧ l.length ≤ B := by
  obtain ⟨rows, rfl, h1, h2⟩ := h
  have h3 : ∀ r ∈ rows, r = [.u (Ab.byteOf r).toNat] := fun r hr => by
    obtain ⟨n, rfl, hn⟩ := h2 r hr
    simp [Lit.wf, IntKind.min, IntKind.max, IntKind.signed, IntKind.bits] at hn
    simp [Ab.byteOf]
    omega
  refine ⟨rowsBytes rows, ?_, ?_⟩
  · congr 2
    unfold rowsBytes bytesRows
    rw [List.map_map]
    conv => lhs; rw [← List.map_id rows]
    exact List.map_congr_left fun r hr => h3 r hr
  · have h1 : rows.length * 1 ≤ B := h1
    simpa [rowsBytes] using h1
end Go.Proofs.Ytlkfibmjdigmiaa
