import Derived.Test.YtjncgdeohbcihaaTab
import Derived.Test.YtjncgdeohbcihaaAbDat
import Derived.Test.YtjncgdeohbcihaaAbBr
namespace Go.Proofs.Ytjncgdeohbcihaa
open Go Go.Ab Go.RowKit
set_option linter.unusedVariables false
set_option linter.unusedSimpArgs false
theorem mo : Try.prog.follows .mixedOrders = true := by kernel_rfl

theorem s_impl_in (n lo hi : Int) : Ab.Spec Try.prog 36 3 [(.t 0, .v (I n)), (.t 1, .v (I lo)), (.t 2, .v (I hi))] [(.t 0, .v (B (inB n lo hi)))] := by
  refine spec_of_body tabOk Try.func36 rfl (by kernel_rfl) (by decide) (by kernel_rfl) rfl ?_
  refine SW.seq ?_
  refine SW.regT tabOk [0, 1, 2, 11, 12, 13] ?_
  refine And.intro trivial ?_
  refine SW.seq ?_
  refine SW.regT tabOk [6] ?_
  refine And.intro trivial (And.intro trivial (And.intro trivial (And.intro trivial (And.intro (fun h => trivial) (And.intro (by intro h; (repeat' apply And.intro) <;> first | exact h | trivial) (And.intro (fun h => trivial) (And.intro (by intro h; (repeat' apply And.intro) <;> first | exact h | trivial) (And.intro (fun h => trivial) (And.intro (by intro h; (repeat' apply And.intro) <;> first | exact h | trivial) (And.intro (by constructor <;> intro h <;> first | trivial | exact h | (simpa [gb, condOf] using h)) (And.intro trivial ?_)))))))))))
  refine SW.ret ?_
  refine retOk1 rfl ?_
  simp [inB, gb]

theorem s_spec_l6In (n lo hi : Int) : Ab.Spec Try.prog 32 3 [(.t 0, .v (I n)), (.t 1, .v (I lo)), (.t 2, .v (I hi))] [(.t 0, .v (B (inB n lo hi)))] := by
  refine spec_of_body tabOk Try.func32 rfl (by kernel_rfl) (by decide) (by kernel_rfl) rfl ?_
  refine SW.seq ?_
  refine SW.regT tabOk [0, 1, 2, 11, 12, 13] ?_
  refine And.intro trivial ?_
  refine SW.seq ?_
  refine SW.regT tabOk [6] ?_
  refine And.intro trivial (And.intro trivial (And.intro trivial (And.intro trivial (And.intro (fun h => trivial) (And.intro (by intro h; (repeat' apply And.intro) <;> first | exact h | trivial) (And.intro (fun h => trivial) (And.intro (by intro h; (repeat' apply And.intro) <;> first | exact h | trivial) (And.intro (fun h => trivial) (And.intro (by intro h; (repeat' apply And.intro) <;> first | exact h | trivial) (And.intro (by constructor <;> intro h <;> first | trivial | exact h | (simpa [gb, condOf] using h)) (And.intro trivial ?_)))))))))))
  refine SW.ret ?_
  refine retOk1 rfl ?_
  simp [inB, gb]

theorem s_impl_isNode (n : Int) : Ab.Spec Try.prog 35 1 [(.t 0, .v (I n))] [(.t 0, .v (B (isNode n)))] := by
  refine spec_of_body tabOk Try.func35 rfl (by kernel_rfl) (by decide) (by kernel_rfl) rfl ?_
  refine SW.seq ?_
  refine SW.regT tabOk [0] ?_
  refine And.intro trivial ?_
  refine SW.seq ?_
  refine SW.regT tabOk [2] ?_
  refine And.intro trivial ?_
  refine ex_pure (s_impl_in _ _ _) rfl rfl rfl rfl rfl rfl rfl rfl ?_
  refine And.intro trivial ?_
  refine SW.ret ?_
  refine retOk1 rfl ?_
  first | rfl | (simp; done) | (simp_all; done)

theorem s_spec_l3Keeper (n : Int) : Ab.Spec Try.prog 33 1 [(.t 0, .v (I n))] [(.t 0, .v (B (isNode n)))] := by
  refine spec_of_body tabOk Try.func33 rfl (by kernel_rfl) (by decide) (by kernel_rfl) rfl ?_
  refine SW.seq ?_
  refine SW.regT tabOk [0] ?_
  refine And.intro trivial ?_
  refine SW.seq ?_
  refine SW.regT tabOk [2] ?_
  refine And.intro trivial ?_
  refine ex_pure (s_spec_l6In _ _ _) rfl rfl rfl rfl rfl rfl rfl rfl ?_
  refine And.intro trivial ?_
  refine SW.ret ?_
  refine retOk1 rfl ?_
  first | rfl | (simp; done) | (simp_all; done)

theorem s_impl_NoteNext (a b : Int) : Ab.Spec Try.prog 37 2 [(.t 0, .v (I a)), (.t 1, .v (I b))] [(.t 0, .v (I (noteNext a b)))] := by
  refine spec_of_body tabOk Try.func37 rfl (by kernel_rfl) (by decide) (by kernel_rfl) rfl ?_
  refine SW.seq ?_
  refine SW.regT tabOk [0, 1, 10, 11, 12, 15, 16, 17] ?_
  refine And.intro trivial ?_
  refine SW.seq ?_
  refine SW.block ?_
  refine SW.seq ?_
  refine SW.regT tabOk [0, 1, 5] ?_
  refine And.intro trivial ?_
  refine ex_pure (s_impl_isNode _) rfl rfl rfl rfl rfl rfl rfl rfl ?_
  refine And.intro trivial (And.intro trivial (And.intro (fun h => trivial) (And.intro (by intro h; (repeat' apply And.intro) <;> first | exact h | trivial) ?_)))
  refine exc_pure (fun h => (s_impl_isNode _)) rfl rfl rfl rfl rfl rfl rfl rfl (by intro h; (repeat' apply And.intro) <;> first | exact h | trivial) ?_
  refine And.intro (fun h => trivial) (And.intro (by intro h; (repeat' apply And.intro) <;> first | exact h | trivial) (And.intro (by constructor <;> intro h <;> first | trivial | exact h | (simpa [gb, condOf] using h)) (And.intro trivial (And.intro (fun h => trivial) (And.intro (by intro h; (repeat' apply And.intro) <;> first | exact h | trivial) (And.intro (fun h => trivial) (And.intro (by intro h; (repeat' apply And.intro) <;> first | exact h | trivial) (And.intro (fun h => trivial) (And.intro (by intro h; (repeat' apply And.intro) <;> first | exact h | trivial) (And.intro (by constructor <;> intro h <;> first | trivial | exact h | (simpa [gb, condOf] using h)) (And.intro trivial ?_)))))))))))
  refine SW.cond rfl (fun c5 => ?_) (fun c5 => ?_)
  · skip
    refine SW.seq ?_
    refine SW.regT tabOk [4] ?_
    refine And.intro trivial ?_
    refine SW.ret ?_
    refine retOk1 rfl ?_
    simp only [noteNext, wrap64, isNode, inB, gb] at *
    grind
  · skip
    refine SW.seq ?_
    refine SW.regT tabOk [0, 19] ?_
    refine And.intro trivial (And.intro trivial (And.intro trivial (And.intro trivial ?_)))
    refine SW.cond rfl (fun c19 => ?_) (fun c19 => ?_)
    · skip
      refine SW.seq ?_
      refine SW.regT tabOk [4] ?_
      refine And.intro trivial (And.intro trivial (And.intro trivial ?_))
      refine SW.ret ?_
      refine retOk1 rfl ?_
      simp only [noteNext, wrap64, isNode, inB, gb] at *
      grind
    · skip
      refine SW.skip ?_
      refine SW.seq ?_
      refine SW.regT tabOk [4] ?_
      refine And.intro trivial (And.intro trivial (And.intro trivial ?_))
      refine SW.ret ?_
      refine retOk1 rfl ?_
      simp only [noteNext, wrap64, isNode, inB, gb] at *
      grind

theorem s_spec_NoteNext (a b : Int) : Ab.Spec Try.prog 34 2 [(.t 0, .v (I a)), (.t 1, .v (I b))] [(.t 0, .v (I (noteNext a b)))] := by
  refine spec_of_body tabOk Try.func34 rfl (by kernel_rfl) (by decide) (by kernel_rfl) rfl ?_
  refine SW.seq ?_
  refine SW.regT tabOk [0, 1, 10, 11, 12, 15, 16, 17] ?_
  refine And.intro trivial ?_
  refine SW.seq ?_
  refine SW.block ?_
  refine SW.seq ?_
  refine SW.regT tabOk [0, 1, 5] ?_
  refine And.intro trivial ?_
  refine ex_pure (s_spec_l3Keeper _) rfl rfl rfl rfl rfl rfl rfl rfl ?_
  refine And.intro trivial (And.intro trivial (And.intro (fun h => trivial) (And.intro (by intro h; (repeat' apply And.intro) <;> first | exact h | trivial) ?_)))
  refine exc_pure (fun h => (s_spec_l3Keeper _)) rfl rfl rfl rfl rfl rfl rfl rfl (by intro h; (repeat' apply And.intro) <;> first | exact h | trivial) ?_
  refine And.intro (fun h => trivial) (And.intro (by intro h; (repeat' apply And.intro) <;> first | exact h | trivial) (And.intro (by constructor <;> intro h <;> first | trivial | exact h | (simpa [gb, condOf] using h)) (And.intro trivial (And.intro (fun h => trivial) (And.intro (by intro h; (repeat' apply And.intro) <;> first | exact h | trivial) (And.intro (fun h => trivial) (And.intro (by intro h; (repeat' apply And.intro) <;> first | exact h | trivial) (And.intro (fun h => trivial) (And.intro (by intro h; (repeat' apply And.intro) <;> first | exact h | trivial) (And.intro (by constructor <;> intro h <;> first | trivial | exact h | (simpa [gb, condOf] using h)) (And.intro trivial ?_)))))))))))
  refine SW.cond rfl (fun c5 => ?_) (fun c5 => ?_)
  · skip
    refine SW.seq ?_
    refine SW.regT tabOk [4] ?_
    refine And.intro trivial ?_
    refine SW.ret ?_
    refine retOk1 rfl ?_
    simp only [noteNext, wrap64, isNode, inB, gb] at *
    grind
  · skip
    refine SW.seq ?_
    refine SW.regT tabOk [0, 19] ?_
    refine And.intro trivial (And.intro trivial (And.intro trivial (And.intro trivial ?_)))
    refine SW.cond rfl (fun c19 => ?_) (fun c19 => ?_)
    · skip
      refine SW.seq ?_
      refine SW.regT tabOk [4] ?_
      refine And.intro trivial (And.intro trivial (And.intro trivial ?_))
      refine SW.ret ?_
      refine retOk1 rfl ?_
      simp only [noteNext, wrap64, isNode, inB, gb] at *
      grind
    · skip
      refine SW.skip ?_
      refine SW.seq ?_
      refine SW.regT tabOk [4] ?_
      refine And.intro trivial (And.intro trivial (And.intro trivial ?_))
      refine SW.ret ?_
      refine retOk1 rfl ?_
      simp only [noteNext, wrap64, isNode, inB, gb] at *
      grind

theorem s_impl_FrameOk (f : FrameR) : Ab.Spec Try.prog 17 1 [(.t 0, .v (f.V))] [(.t 0, .v (B (frameOk f)))] := by
  refine spec_of_body tabOk Try.func17 rfl (by kernel_rfl) (by decide) (by kernel_rfl) rfl ?_
  refine SW.seq ?_
  refine SW.regT tabOk [1, 8, 9, 10, 11, 14, 15, 16, 17, 20, 21, 22, 23, 26, 27, 28, 29, 32, 33, 34, 35, 45, 46, 47, 50, 51, 52, 53, 56, 57, 58, 59, 60, 61, 62, 63, 72, 73, 74, 77, 78, 79, 82, 83, 84, 85, 86, 87, 88, 89] ?_
  refine And.intro trivial (And.intro trivial ?_)
  refine SW.seq ?_
  refine SW.seq ?_
  refine SW.regT tabOk [1, 36, 45, 46, 47, 50, 51, 52, 53, 56, 57, 58, 59, 60, 61, 62, 63, 72, 73, 74, 77, 78, 79, 82, 83, 84, 85, 86, 87, 88, 89] ?_
  refine And.intro (by first | trivial | rfl) (And.intro (by first | trivial | exact Nat.le_of_ble_eq_true rfl | exact ⟨rfl, Nat.le_of_ble_eq_true rfl⟩ | omega | ((repeat' apply And.intro) <;> first | trivial | rfl | exact Nat.le_of_ble_eq_true rfl | omega) | (simp; done) | (simp; omega)) ?_)
  refine ex_pure (s_impl_isNode _) rfl rfl rfl rfl rfl rfl rfl rfl ?_
  refine And.intro trivial (And.intro trivial (And.intro (fun h => (by first | trivial | rfl)) (And.intro (by intro h; (repeat' apply And.intro) <;> first | exact h | trivial) (And.intro (fun h => (by first | trivial | exact Nat.le_of_ble_eq_true rfl | exact ⟨rfl, Nat.le_of_ble_eq_true rfl⟩ | omega | ((repeat' apply And.intro) <;> first | trivial | rfl | exact Nat.le_of_ble_eq_true rfl | omega) | (simp; done) | (simp; omega))) (And.intro (by intro h; (repeat' apply And.intro) <;> first | exact h | trivial) ?_)))))
  refine exc_pure (fun h => (s_impl_isNode _)) rfl rfl rfl rfl rfl rfl rfl rfl (by intro h; (repeat' apply And.intro) <;> first | exact h | trivial) ?_
  refine And.intro (fun h => trivial) (And.intro (by intro h; (repeat' apply And.intro) <;> first | exact h | trivial) (And.intro (by constructor <;> intro h <;> first | trivial | exact h | (simpa [gb, condOf] using h)) (And.intro trivial (And.intro (fun h => (by first | trivial | rfl)) (And.intro (by intro h; (repeat' apply And.intro) <;> first | exact h | trivial) (And.intro (fun h => (by first | trivial | exact Nat.le_of_ble_eq_true rfl | exact ⟨rfl, Nat.le_of_ble_eq_true rfl⟩ | omega | ((repeat' apply And.intro) <;> first | trivial | rfl | exact Nat.le_of_ble_eq_true rfl | omega) | (simp; done) | (simp; omega))) (And.intro (by intro h; (repeat' apply And.intro) <;> first | exact h | trivial) ?_)))))))
  refine exc_pure (fun h => (s_impl_isNode _)) rfl rfl rfl rfl rfl rfl rfl rfl (by intro h; (repeat' apply And.intro) <;> first | exact h | trivial) ?_
  refine And.intro (fun h => trivial) (And.intro (by intro h; (repeat' apply And.intro) <;> first | exact h | trivial) (And.intro (by constructor <;> intro h <;> first | trivial | exact h | (simpa [gb, condOf] using h)) (And.intro trivial (And.intro (fun h => (by first | trivial | rfl)) (And.intro (by intro h; (repeat' apply And.intro) <;> first | exact h | trivial) (And.intro (fun h => (by first | trivial | exact Nat.le_of_ble_eq_true rfl | exact ⟨rfl, Nat.le_of_ble_eq_true rfl⟩ | omega | ((repeat' apply And.intro) <;> first | trivial | rfl | exact Nat.le_of_ble_eq_true rfl | omega) | (simp; done) | (simp; omega))) (And.intro (by intro h; (repeat' apply And.intro) <;> first | exact h | trivial) ?_)))))))
  refine exc_pure (fun h => (s_impl_isNode _)) rfl rfl rfl rfl rfl rfl rfl rfl (by intro h; (repeat' apply And.intro) <;> first | exact h | trivial) ?_
  refine And.intro (fun h => trivial) (And.intro (by intro h; (repeat' apply And.intro) <;> first | exact h | trivial) (And.intro (by constructor <;> intro h <;> first | trivial | exact h | (simpa [gb, condOf] using h)) (And.intro trivial (And.intro (fun h => (by first | trivial | rfl)) (And.intro (by intro h; (repeat' apply And.intro) <;> first | exact h | trivial) (And.intro (fun h => (by first | trivial | exact Nat.le_of_ble_eq_true rfl | exact ⟨rfl, Nat.le_of_ble_eq_true rfl⟩ | omega | ((repeat' apply And.intro) <;> first | trivial | rfl | exact Nat.le_of_ble_eq_true rfl | omega) | (simp; done) | (simp; omega))) (And.intro (by intro h; (repeat' apply And.intro) <;> first | exact h | trivial) ?_)))))))
  refine exc_pure (fun h => (s_impl_in _ _ _)) rfl rfl rfl rfl rfl rfl rfl rfl (by intro h; (repeat' apply And.intro) <;> first | exact h | trivial) ?_
  refine And.intro (fun h => trivial) (And.intro (by intro h; (repeat' apply And.intro) <;> first | exact h | trivial) (And.intro (by constructor <;> intro h <;> first | trivial | exact h | (simpa [gb, condOf] using h)) (And.intro trivial (And.intro (fun h => (by first | trivial | rfl)) (And.intro (by intro h; (repeat' apply And.intro) <;> first | exact h | trivial) (And.intro (fun h => (by first | trivial | exact Nat.le_of_ble_eq_true rfl | exact ⟨rfl, Nat.le_of_ble_eq_true rfl⟩ | omega | ((repeat' apply And.intro) <;> first | trivial | rfl | exact Nat.le_of_ble_eq_true rfl | omega) | (simp; done) | (simp; omega))) (And.intro (by intro h; (repeat' apply And.intro) <;> first | exact h | trivial) ?_)))))))
  refine exc_pure (fun h => (s_impl_in _ _ _)) rfl rfl rfl rfl rfl rfl rfl rfl (by intro h; (repeat' apply And.intro) <;> first | exact h | trivial) ?_
  refine And.intro (fun h => trivial) (And.intro (by intro h; (repeat' apply And.intro) <;> first | exact h | trivial) (And.intro (by constructor <;> intro h <;> first | trivial | exact h | (simpa [gb, condOf] using h)) ?_))
  refine SW.cond rfl (fun c36 => ?_) (fun c36 => ?_)
  · skip
    refine SW.seq ?_
    refine SW.regT tabOk [2] ?_
    refine And.intro trivial ?_
    refine SW.ret ?_
    refine retOk1 rfl (congrArg D.b (Bool.eq_iff_iff.2 ?_))
    simp only [frameOk, gb, Bool.and_eq_true, Bool.or_eq_false_iff, Bool.not_eq_false, Bool.or_eq_true, Bool.not_eq_true, beq_iff_eq, decide_eq_true_eq, bne_iff_ne, Bool.not_eq_true, List.length_eq_zero_iff, beq_eq_false_iff_ne, bne_eq_false_iff_eq] at *
    grind [inB]
  · skip
    refine SW.skip ?_
    refine SW.seq ?_
    refine SW.seq ?_
    refine SW.regT tabOk [1, 38, 45, 46, 47, 50, 51, 52, 53, 56, 57, 58, 59, 60, 61, 62, 63, 72, 73, 74, 77, 78, 79, 82, 83, 84, 85, 86, 87, 88, 89] ?_
    refine And.intro (by first | trivial | rfl) (And.intro (by first | trivial | exact Nat.le_of_ble_eq_true rfl | exact ⟨rfl, Nat.le_of_ble_eq_true rfl⟩ | omega | ((repeat' apply And.intro) <;> first | trivial | rfl | exact Nat.le_of_ble_eq_true rfl | omega) | (simp; done) | (simp; omega)) ?_)
    refine SW.block ?_
    refine SW.seq ?_
    refine SW.regT tabOk [1, 38, 39, 45, 46, 47, 50, 51, 52, 53, 56, 57, 58, 59, 60, 61, 62, 63, 72, 73, 74, 77, 78, 79, 82, 83, 84, 85, 86, 87, 88, 89] ?_
    refine And.intro trivial (And.intro trivial ?_)
    refine SW.cond rfl (fun c39 => ?_) (fun c39 => ?_)
    · skip
      refine SW.seq ?_
      refine SW.regD tabOk mo [2] ?_
      refine And.intro (by first | trivial | rfl) (And.intro (by first | trivial | exact Nat.le_of_ble_eq_true rfl | exact ⟨rfl, Nat.le_of_ble_eq_true rfl⟩ | omega | ((repeat' apply And.intro) <;> first | trivial | rfl | exact Nat.le_of_ble_eq_true rfl | omega) | (simp; done) | (simp; omega)) ?_)
      refine ex_pure (s_impl_in _ _ _) rfl rfl rfl rfl rfl rfl rfl rfl ?_
      refine And.intro trivial (And.intro (fun h => (by first | trivial | rfl)) (And.intro (by intro h; (repeat' apply And.intro) <;> first | exact h | trivial) (And.intro (fun h => (by first | trivial | exact Nat.le_of_ble_eq_true rfl | exact ⟨rfl, Nat.le_of_ble_eq_true rfl⟩ | omega | ((repeat' apply And.intro) <;> first | trivial | rfl | exact Nat.le_of_ble_eq_true rfl | omega) | (simp; done) | (simp; omega))) (And.intro (by intro h; (repeat' apply And.intro) <;> first | exact h | trivial) ?_))))
      refine exc_pure (fun h => (s_impl_in _ _ _)) rfl rfl rfl rfl rfl rfl rfl rfl (by intro h; (repeat' apply And.intro) <;> first | exact h | trivial) ?_
      refine And.intro (by constructor <;> intro h <;> first | trivial | exact h | (simpa [gb, condOf] using h)) (And.intro trivial (And.intro (fun h => (by first | trivial | rfl)) (And.intro (by intro h; (repeat' apply And.intro) <;> first | exact h | trivial) (And.intro (fun h => (by first | trivial | exact Nat.le_of_ble_eq_true rfl | exact ⟨rfl, Nat.le_of_ble_eq_true rfl⟩ | omega | ((repeat' apply And.intro) <;> first | trivial | rfl | exact Nat.le_of_ble_eq_true rfl | omega) | (simp; done) | (simp; omega))) (And.intro (by intro h; (repeat' apply And.intro) <;> first | exact h | trivial) (And.intro (fun h => (by first | trivial | exact Nat.le_of_ble_eq_true rfl | exact ⟨rfl, Nat.le_of_ble_eq_true rfl⟩ | omega | ((repeat' apply And.intro) <;> first | trivial | rfl | exact Nat.le_of_ble_eq_true rfl | omega) | (simp; done) | (simp; omega))) (And.intro (by intro h; (repeat' apply And.intro) <;> first | exact h | trivial) (And.intro (fun h => trivial) (And.intro (by intro h; (repeat' apply And.intro) <;> first | exact h | trivial) (And.intro (by constructor <;> intro h <;> first | trivial | exact h | (simpa [gb, condOf] using h)) (And.intro trivial (And.intro (fun h => (by first | trivial | rfl)) (And.intro (by intro h; (repeat' apply And.intro) <;> first | exact h | trivial) (And.intro (fun h => (by first | trivial | exact Nat.le_of_ble_eq_true rfl | exact ⟨rfl, Nat.le_of_ble_eq_true rfl⟩ | omega | ((repeat' apply And.intro) <;> first | trivial | rfl | exact Nat.le_of_ble_eq_true rfl | omega) | (simp; done) | (simp; omega))) (And.intro (by intro h; (repeat' apply And.intro) <;> first | exact h | trivial) (And.intro (fun h => (by first | trivial | rfl)) (And.intro (by intro h; (repeat' apply And.intro) <;> first | exact h | trivial) (And.intro (fun h => (by first | trivial | exact Nat.le_of_ble_eq_true rfl | exact ⟨rfl, Nat.le_of_ble_eq_true rfl⟩ | omega | ((repeat' apply And.intro) <;> first | trivial | rfl | exact Nat.le_of_ble_eq_true rfl | omega) | (simp; done) | (simp; omega))) (And.intro (by intro h; (repeat' apply And.intro) <;> first | exact h | trivial) (And.intro (fun h => (by first | trivial | rfl)) (And.intro (by intro h; (repeat' apply And.intro) <;> first | exact h | trivial) (And.intro (fun h => (by first | trivial | exact Nat.le_of_ble_eq_true rfl | exact ⟨rfl, Nat.le_of_ble_eq_true rfl⟩ | omega | ((repeat' apply And.intro) <;> first | trivial | rfl | exact Nat.le_of_ble_eq_true rfl | omega) | (simp; done) | (simp; omega))) (And.intro (by intro h; (repeat' apply And.intro) <;> first | exact h | trivial) ?_)))))))))))))))))))))))
      refine exc_pure (fun h => (s_impl_NoteNext _ _)) rfl rfl rfl rfl rfl rfl rfl rfl (by intro h; (repeat' apply And.intro) <;> first | exact h | trivial) ?_
      refine And.intro (fun h => trivial) (And.intro (by intro h; (repeat' apply And.intro) <;> first | exact h | trivial) (And.intro (by constructor <;> intro h <;> first | trivial | exact h | (simpa [gb, condOf] using h)) (And.intro trivial (And.intro (by kernel_rfl) ?_))))
      refine SW.ret ?_
      refine retOk1 rfl (congrArg D.b (Bool.eq_iff_iff.2 ?_))
      simp only [frameOk, gb, Bool.and_eq_true, Bool.or_eq_false_iff, Bool.not_eq_false, Bool.or_eq_true, Bool.not_eq_true, beq_iff_eq, decide_eq_true_eq, bne_iff_ne, Bool.not_eq_true, List.length_eq_zero_iff, beq_eq_false_iff_ne, bne_eq_false_iff_eq] at *
      grind [inB]
    · skip
      refine SW.seq ?_
      refine SW.seq ?_
      refine SW.regT tabOk [1, 38, 65, 72, 73, 74, 77, 78, 79, 82, 83, 84, 85, 86, 87, 88, 89] ?_
      refine And.intro trivial (And.intro trivial ?_)
      refine SW.cond rfl (fun c65 => ?_) (fun c65 => ?_)
      · skip
        refine SW.skip ?_
        refine SW.cond rfl (fun c65 => ?_) (fun c65 => ?_)
        · skip
          refine SW.seq ?_
          refine SW.regD tabOk mo [2] ?_
          refine And.intro (by first | trivial | rfl) (And.intro (by first | trivial | exact Nat.le_of_ble_eq_true rfl | exact ⟨rfl, Nat.le_of_ble_eq_true rfl⟩ | omega | ((repeat' apply And.intro) <;> first | trivial | rfl | exact Nat.le_of_ble_eq_true rfl | omega) | (simp; done) | (simp; omega)) (And.intro trivial (And.intro trivial (And.intro (fun h => (by first | trivial | rfl)) (And.intro (by intro h; (repeat' apply And.intro) <;> first | exact h | trivial) (And.intro (fun h => (by first | trivial | exact Nat.le_of_ble_eq_true rfl | exact ⟨rfl, Nat.le_of_ble_eq_true rfl⟩ | omega | ((repeat' apply And.intro) <;> first | trivial | rfl | exact Nat.le_of_ble_eq_true rfl | omega) | (simp; done) | (simp; omega))) (And.intro (by intro h; (repeat' apply And.intro) <;> first | exact h | trivial) (And.intro (fun h => trivial) (And.intro (by intro h; (repeat' apply And.intro) <;> first | exact h | trivial) (And.intro (by constructor <;> intro h <;> first | trivial | exact h | (simpa [gb, condOf] using h)) (And.intro trivial (And.intro (fun h => (by first | trivial | rfl)) (And.intro (by intro h; (repeat' apply And.intro) <;> first | exact h | trivial) (And.intro (fun h => (by first | trivial | exact Nat.le_of_ble_eq_true rfl | exact ⟨rfl, Nat.le_of_ble_eq_true rfl⟩ | omega | ((repeat' apply And.intro) <;> first | trivial | rfl | exact Nat.le_of_ble_eq_true rfl | omega) | (simp; done) | (simp; omega))) (And.intro (by intro h; (repeat' apply And.intro) <;> first | exact h | trivial) (And.intro (fun h => (by first | trivial | exact Nat.le_of_ble_eq_true rfl | exact ⟨rfl, Nat.le_of_ble_eq_true rfl⟩ | omega | ((repeat' apply And.intro) <;> first | trivial | rfl | exact Nat.le_of_ble_eq_true rfl | omega) | (simp; done) | (simp; omega))) (And.intro (by intro h; (repeat' apply And.intro) <;> first | exact h | trivial) (And.intro (by constructor <;> intro h <;> first | trivial | exact h | (simpa [gb, condOf] using h)) (And.intro trivial (And.intro (fun h => (by first | trivial | rfl)) (And.intro (by intro h; (repeat' apply And.intro) <;> first | exact h | trivial) (And.intro (fun h => (by first | trivial | exact Nat.le_of_ble_eq_true rfl | exact ⟨rfl, Nat.le_of_ble_eq_true rfl⟩ | omega | ((repeat' apply And.intro) <;> first | trivial | rfl | exact Nat.le_of_ble_eq_true rfl | omega) | (simp; done) | (simp; omega))) (And.intro (by intro h; (repeat' apply And.intro) <;> first | exact h | trivial) (And.intro (fun h => (by first | trivial | rfl)) (And.intro (by intro h; (repeat' apply And.intro) <;> first | exact h | trivial) (And.intro (fun h => (by first | trivial | exact Nat.le_of_ble_eq_true rfl | exact ⟨rfl, Nat.le_of_ble_eq_true rfl⟩ | omega | ((repeat' apply And.intro) <;> first | trivial | rfl | exact Nat.le_of_ble_eq_true rfl | omega) | (simp; done) | (simp; omega))) (And.intro (by intro h; (repeat' apply And.intro) <;> first | exact h | trivial) (And.intro (fun h => (by first | trivial | rfl)) (And.intro (by intro h; (repeat' apply And.intro) <;> first | exact h | trivial) (And.intro (fun h => (by first | trivial | exact Nat.le_of_ble_eq_true rfl | exact ⟨rfl, Nat.le_of_ble_eq_true rfl⟩ | omega | ((repeat' apply And.intro) <;> first | trivial | rfl | exact Nat.le_of_ble_eq_true rfl | omega) | (simp; done) | (simp; omega))) (And.intro (by intro h; (repeat' apply And.intro) <;> first | exact h | trivial) ?_)))))))))))))))))))))))))))))))
          refine exc_pure (fun h => (s_impl_NoteNext _ _)) rfl rfl rfl rfl rfl rfl rfl rfl (by intro h; (repeat' apply And.intro) <;> first | exact h | trivial) ?_
          refine And.intro (fun h => trivial) (And.intro (by intro h; (repeat' apply And.intro) <;> first | exact h | trivial) (And.intro (by constructor <;> intro h <;> first | trivial | exact h | (simpa [gb, condOf] using h)) (And.intro trivial (And.intro (by kernel_rfl) ?_))))
          refine SW.ret ?_
          refine retOk1 rfl (congrArg D.b (Bool.eq_iff_iff.2 ?_))
          simp only [frameOk, gb, Bool.and_eq_true, Bool.or_eq_false_iff, Bool.not_eq_false, Bool.or_eq_true, Bool.not_eq_true, beq_iff_eq, decide_eq_true_eq, bne_iff_ne, Bool.not_eq_true, List.length_eq_zero_iff, beq_eq_false_iff_ne, bne_eq_false_iff_eq] at *
          grind [inB]
        · skip
          refine SW.skip ?_
          refine SW.seq ?_
          refine SW.regT tabOk [2] ?_
          refine And.intro trivial ?_
          refine SW.ret ?_
          refine retOk1 rfl (congrArg D.b (Bool.eq_iff_iff.2 ?_))
          simp only [frameOk, gb, Bool.and_eq_true, Bool.or_eq_false_iff, Bool.not_eq_false, Bool.or_eq_true, Bool.not_eq_true, beq_iff_eq, decide_eq_true_eq, bne_iff_ne, Bool.not_eq_true, List.length_eq_zero_iff, beq_eq_false_iff_ne, bne_eq_false_iff_eq] at *
          grind [inB]
      · skip
        refine SW.regT tabOk [1, 65, 72, 73, 74, 77, 78, 79, 82, 83, 84, 85, 86, 87, 88, 89] ?_
        refine And.intro trivial (And.intro trivial ?_)
        refine SW.cond rfl (fun c65 => ?_) (fun c65 => ?_)
        · skip
          refine SW.seq ?_
          refine SW.regD tabOk mo [2] ?_
          refine And.intro (by first | trivial | rfl) (And.intro (by first | trivial | exact Nat.le_of_ble_eq_true rfl | exact ⟨rfl, Nat.le_of_ble_eq_true rfl⟩ | omega | ((repeat' apply And.intro) <;> first | trivial | rfl | exact Nat.le_of_ble_eq_true rfl | omega) | (simp; done) | (simp; omega)) (And.intro trivial (And.intro trivial (And.intro (fun h => (by first | trivial | rfl)) (And.intro (by intro h; (repeat' apply And.intro) <;> first | exact h | trivial) (And.intro (fun h => (by first | trivial | exact Nat.le_of_ble_eq_true rfl | exact ⟨rfl, Nat.le_of_ble_eq_true rfl⟩ | omega | ((repeat' apply And.intro) <;> first | trivial | rfl | exact Nat.le_of_ble_eq_true rfl | omega) | (simp; done) | (simp; omega))) (And.intro (by intro h; (repeat' apply And.intro) <;> first | exact h | trivial) (And.intro (fun h => trivial) (And.intro (by intro h; (repeat' apply And.intro) <;> first | exact h | trivial) (And.intro (by constructor <;> intro h <;> first | trivial | exact h | (simpa [gb, condOf] using h)) (And.intro trivial (And.intro (fun h => (by first | trivial | rfl)) (And.intro (by intro h; (repeat' apply And.intro) <;> first | exact h | trivial) (And.intro (fun h => (by first | trivial | exact Nat.le_of_ble_eq_true rfl | exact ⟨rfl, Nat.le_of_ble_eq_true rfl⟩ | omega | ((repeat' apply And.intro) <;> first | trivial | rfl | exact Nat.le_of_ble_eq_true rfl | omega) | (simp; done) | (simp; omega))) (And.intro (by intro h; (repeat' apply And.intro) <;> first | exact h | trivial) (And.intro (fun h => (by first | trivial | exact Nat.le_of_ble_eq_true rfl | exact ⟨rfl, Nat.le_of_ble_eq_true rfl⟩ | omega | ((repeat' apply And.intro) <;> first | trivial | rfl | exact Nat.le_of_ble_eq_true rfl | omega) | (simp; done) | (simp; omega))) (And.intro (by intro h; (repeat' apply And.intro) <;> first | exact h | trivial) (And.intro (by constructor <;> intro h <;> first | trivial | exact h | (simpa [gb, condOf] using h)) (And.intro trivial (And.intro (fun h => (by first | trivial | rfl)) (And.intro (by intro h; (repeat' apply And.intro) <;> first | exact h | trivial) (And.intro (fun h => (by first | trivial | exact Nat.le_of_ble_eq_true rfl | exact ⟨rfl, Nat.le_of_ble_eq_true rfl⟩ | omega | ((repeat' apply And.intro) <;> first | trivial | rfl | exact Nat.le_of_ble_eq_true rfl | omega) | (simp; done) | (simp; omega))) (And.intro (by intro h; (repeat' apply And.intro) <;> first | exact h | trivial) (And.intro (fun h => (by first | trivial | rfl)) (And.intro (by intro h; (repeat' apply And.intro) <;> first | exact h | trivial) (And.intro (fun h => (by first | trivial | exact Nat.le_of_ble_eq_true rfl | exact ⟨rfl, Nat.le_of_ble_eq_true rfl⟩ | omega | ((repeat' apply And.intro) <;> first | trivial | rfl | exact Nat.le_of_ble_eq_true rfl | omega) | (simp; done) | (simp; omega))) (And.intro (by intro h; (repeat' apply And.intro) <;> first | exact h | trivial) (And.intro (fun h => (by first | trivial | rfl)) (And.intro (by intro h; (repeat' apply And.intro) <;> first | exact h | trivial) (And.intro (fun h => (by first | trivial | exact Nat.le_of_ble_eq_true rfl | exact ⟨rfl, Nat.le_of_ble_eq_true rfl⟩ | omega | ((repeat' apply And.intro) <;> first | trivial | rfl | exact Nat.le_of_ble_eq_true rfl | omega) | (simp; done) | (simp; omega))) (And.intro (by intro h; (repeat' apply And.intro) <;> first | exact h | trivial) ?_)))))))))))))))))))))))))))))))
          refine exc_pure (fun h => (s_impl_NoteNext _ _)) rfl rfl rfl rfl rfl rfl rfl rfl (by intro h; (repeat' apply And.intro) <;> first | exact h | trivial) ?_
          refine And.intro (fun h => trivial) (And.intro (by intro h; (repeat' apply And.intro) <;> first | exact h | trivial) (And.intro (by constructor <;> intro h <;> first | trivial | exact h | (simpa [gb, condOf] using h)) (And.intro trivial (And.intro (by kernel_rfl) ?_))))
          refine SW.ret ?_
          refine retOk1 rfl (congrArg D.b (Bool.eq_iff_iff.2 ?_))
          simp only [frameOk, gb, Bool.and_eq_true, Bool.or_eq_false_iff, Bool.not_eq_false, Bool.or_eq_true, Bool.not_eq_true, beq_iff_eq, decide_eq_true_eq, bne_iff_ne, Bool.not_eq_true, List.length_eq_zero_iff, beq_eq_false_iff_ne, bne_eq_false_iff_eq] at *
          grind [inB]
        · skip
          refine SW.skip ?_
          refine SW.seq ?_
          refine SW.regT tabOk [2] ?_
          refine And.intro trivial ?_
          refine SW.ret ?_
          refine retOk1 rfl (congrArg D.b (Bool.eq_iff_iff.2 ?_))
          simp only [frameOk, gb, Bool.and_eq_true, Bool.or_eq_false_iff, Bool.not_eq_false, Bool.or_eq_true, Bool.not_eq_true, beq_iff_eq, decide_eq_true_eq, bne_iff_ne, Bool.not_eq_true, List.length_eq_zero_iff, beq_eq_false_iff_ne, bne_eq_false_iff_eq] at *
          grind [inB]

theorem s_spec_FrameOk (f : FrameR) : Ab.Spec Try.prog 15 1 [(.t 0, .v (f.V))] [(.t 0, .v (B (frameOk f)))] := by
  refine spec_of_body tabOk Try.func15 rfl (by kernel_rfl) (by decide) (by kernel_rfl) rfl ?_
  refine SW.seq ?_
  refine SW.regT tabOk [1, 8, 9, 10, 11, 14, 15, 16, 17, 20, 21, 22, 23, 26, 27, 28, 29, 32, 33, 34, 35, 38, 39, 40, 41, 55, 56, 57, 60, 61, 62, 65, 66, 67, 78, 79, 80, 83, 84, 85, 88, 89, 90, 91] ?_
  refine And.intro trivial (And.intro trivial ?_)
  refine SW.seq ?_
  refine SW.seq ?_
  refine SW.regT tabOk [1, 42, 55, 56, 57, 60, 61, 62, 65, 66, 67, 78, 79, 80, 83, 84, 85, 88, 89, 90, 91] ?_
  refine And.intro (by first | trivial | rfl) (And.intro (by first | trivial | exact Nat.le_of_ble_eq_true rfl | exact ⟨rfl, Nat.le_of_ble_eq_true rfl⟩ | omega | ((repeat' apply And.intro) <;> first | trivial | rfl | exact Nat.le_of_ble_eq_true rfl | omega) | (simp; done) | (simp; omega)) ?_)
  refine ex_pure (s_spec_l6In _ _ _) rfl rfl rfl rfl rfl rfl rfl rfl ?_
  refine And.intro trivial (And.intro trivial (And.intro (fun h => (by first | trivial | rfl)) (And.intro (by intro h; (repeat' apply And.intro) <;> first | exact h | trivial) (And.intro (fun h => (by first | trivial | exact Nat.le_of_ble_eq_true rfl | exact ⟨rfl, Nat.le_of_ble_eq_true rfl⟩ | omega | ((repeat' apply And.intro) <;> first | trivial | rfl | exact Nat.le_of_ble_eq_true rfl | omega) | (simp; done) | (simp; omega))) (And.intro (by intro h; (repeat' apply And.intro) <;> first | exact h | trivial) ?_)))))
  refine exc_pure (fun h => (s_spec_l3Keeper _)) rfl rfl rfl rfl rfl rfl rfl rfl (by intro h; (repeat' apply And.intro) <;> first | exact h | trivial) ?_
  refine And.intro (fun h => trivial) (And.intro (by intro h; (repeat' apply And.intro) <;> first | exact h | trivial) (And.intro (by constructor <;> intro h <;> first | trivial | exact h | (simpa [gb, condOf] using h)) (And.intro trivial (And.intro (fun h => (by first | trivial | rfl)) (And.intro (by intro h; (repeat' apply And.intro) <;> first | exact h | trivial) (And.intro (fun h => (by first | trivial | exact Nat.le_of_ble_eq_true rfl | exact ⟨rfl, Nat.le_of_ble_eq_true rfl⟩ | omega | ((repeat' apply And.intro) <;> first | trivial | rfl | exact Nat.le_of_ble_eq_true rfl | omega) | (simp; done) | (simp; omega))) (And.intro (by intro h; (repeat' apply And.intro) <;> first | exact h | trivial) ?_)))))))
  refine exc_pure (fun h => (s_spec_l3Keeper _)) rfl rfl rfl rfl rfl rfl rfl rfl (by intro h; (repeat' apply And.intro) <;> first | exact h | trivial) ?_
  refine And.intro (fun h => trivial) (And.intro (by intro h; (repeat' apply And.intro) <;> first | exact h | trivial) (And.intro (by constructor <;> intro h <;> first | trivial | exact h | (simpa [gb, condOf] using h)) (And.intro trivial (And.intro (fun h => (by first | trivial | rfl)) (And.intro (by intro h; (repeat' apply And.intro) <;> first | exact h | trivial) (And.intro (fun h => (by first | trivial | exact Nat.le_of_ble_eq_true rfl | exact ⟨rfl, Nat.le_of_ble_eq_true rfl⟩ | omega | ((repeat' apply And.intro) <;> first | trivial | rfl | exact Nat.le_of_ble_eq_true rfl | omega) | (simp; done) | (simp; omega))) (And.intro (by intro h; (repeat' apply And.intro) <;> first | exact h | trivial) ?_)))))))
  refine exc_pure (fun h => (s_spec_l3Keeper _)) rfl rfl rfl rfl rfl rfl rfl rfl (by intro h; (repeat' apply And.intro) <;> first | exact h | trivial) ?_
  refine And.intro (fun h => trivial) (And.intro (by intro h; (repeat' apply And.intro) <;> first | exact h | trivial) (And.intro (by constructor <;> intro h <;> first | trivial | exact h | (simpa [gb, condOf] using h)) (And.intro trivial (And.intro (fun h => (by first | trivial | rfl)) (And.intro (by intro h; (repeat' apply And.intro) <;> first | exact h | trivial) (And.intro (fun h => (by first | trivial | exact Nat.le_of_ble_eq_true rfl | exact ⟨rfl, Nat.le_of_ble_eq_true rfl⟩ | omega | ((repeat' apply And.intro) <;> first | trivial | rfl | exact Nat.le_of_ble_eq_true rfl | omega) | (simp; done) | (simp; omega))) (And.intro (by intro h; (repeat' apply And.intro) <;> first | exact h | trivial) ?_)))))))
  refine exc_pure (fun h => (s_spec_l3Keeper _)) rfl rfl rfl rfl rfl rfl rfl rfl (by intro h; (repeat' apply And.intro) <;> first | exact h | trivial) ?_
  refine And.intro (fun h => trivial) (And.intro (by intro h; (repeat' apply And.intro) <;> first | exact h | trivial) (And.intro (by constructor <;> intro h <;> first | trivial | exact h | (simpa [gb, condOf] using h)) (And.intro trivial (And.intro (fun h => (by first | trivial | rfl)) (And.intro (by intro h; (repeat' apply And.intro) <;> first | exact h | trivial) (And.intro (fun h => (by first | trivial | exact Nat.le_of_ble_eq_true rfl | exact ⟨rfl, Nat.le_of_ble_eq_true rfl⟩ | omega | ((repeat' apply And.intro) <;> first | trivial | rfl | exact Nat.le_of_ble_eq_true rfl | omega) | (simp; done) | (simp; omega))) (And.intro (by intro h; (repeat' apply And.intro) <;> first | exact h | trivial) ?_)))))))
  refine exc_pure (fun h => (s_spec_l6In _ _ _)) rfl rfl rfl rfl rfl rfl rfl rfl (by intro h; (repeat' apply And.intro) <;> first | exact h | trivial) ?_
  refine And.intro (fun h => trivial) (And.intro (by intro h; (repeat' apply And.intro) <;> first | exact h | trivial) (And.intro (by constructor <;> intro h <;> first | trivial | exact h | (simpa [gb, condOf] using h)) (And.intro trivial (And.intro (fun h => (by first | trivial | rfl)) (And.intro (by intro h; (repeat' apply And.intro) <;> first | exact h | trivial) (And.intro (fun h => (by first | trivial | exact Nat.le_of_ble_eq_true rfl | exact ⟨rfl, Nat.le_of_ble_eq_true rfl⟩ | omega | ((repeat' apply And.intro) <;> first | trivial | rfl | exact Nat.le_of_ble_eq_true rfl | omega) | (simp; done) | (simp; omega))) (And.intro (by intro h; (repeat' apply And.intro) <;> first | exact h | trivial) ?_)))))))
  refine exc_pure (fun h => (s_spec_l6In _ _ _)) rfl rfl rfl rfl rfl rfl rfl rfl (by intro h; (repeat' apply And.intro) <;> first | exact h | trivial) ?_
  refine And.intro (fun h => trivial) (And.intro (by intro h; (repeat' apply And.intro) <;> first | exact h | trivial) (And.intro (by constructor <;> intro h <;> first | trivial | exact h | (simpa [gb, condOf] using h)) ?_))
  refine SW.cond rfl (fun c42 => ?_) (fun c42 => ?_)
  · skip
    refine SW.seq ?_
    refine SW.regT tabOk [2] ?_
    refine And.intro trivial ?_
    refine SW.ret ?_
    refine retOk1 rfl (congrArg D.b (Bool.eq_iff_iff.2 ?_))
    simp only [frameOk, gb, Bool.and_eq_true, Bool.or_eq_false_iff, Bool.not_eq_false, Bool.or_eq_true, Bool.not_eq_true, beq_iff_eq, decide_eq_true_eq, bne_iff_ne, Bool.not_eq_true, List.length_eq_zero_iff, beq_eq_false_iff_ne, bne_eq_false_iff_eq] at *
    grind [inB]
  · skip
    refine SW.skip ?_
    refine SW.seq ?_
    refine SW.seq ?_
    refine SW.regT tabOk [1, 45, 55, 56, 57, 60, 61, 62, 65, 66, 67, 78, 79, 80, 83, 84, 85, 88, 89, 90, 91] ?_
    refine And.intro (by first | trivial | rfl) (And.intro (by first | trivial | exact Nat.le_of_ble_eq_true rfl | exact ⟨rfl, Nat.le_of_ble_eq_true rfl⟩ | omega | ((repeat' apply And.intro) <;> first | trivial | rfl | exact Nat.le_of_ble_eq_true rfl | omega) | (simp; done) | (simp; omega)) (And.intro trivial ?_))
    refine SW.cond rfl (fun c45 => ?_) (fun c45 => ?_)
    · skip
      refine SW.seq ?_
      refine SW.regD tabOk mo [2] ?_
      refine And.intro (by first | trivial | rfl) (And.intro (by first | trivial | exact Nat.le_of_ble_eq_true rfl | exact ⟨rfl, Nat.le_of_ble_eq_true rfl⟩ | omega | ((repeat' apply And.intro) <;> first | trivial | rfl | exact Nat.le_of_ble_eq_true rfl | omega) | (simp; done) | (simp; omega)) (And.intro (by first | trivial | rfl) (And.intro (by first | trivial | exact Nat.le_of_ble_eq_true rfl | exact ⟨rfl, Nat.le_of_ble_eq_true rfl⟩ | omega | ((repeat' apply And.intro) <;> first | trivial | rfl | exact Nat.le_of_ble_eq_true rfl | omega) | (simp; done) | (simp; omega)) ?_)))
      refine ex_pure (s_spec_NoteNext _ _) rfl rfl rfl rfl rfl rfl rfl rfl ?_
      refine And.intro (by first | trivial | rfl) (And.intro (by first | trivial | exact Nat.le_of_ble_eq_true rfl | exact ⟨rfl, Nat.le_of_ble_eq_true rfl⟩ | omega | ((repeat' apply And.intro) <;> first | trivial | rfl | exact Nat.le_of_ble_eq_true rfl | omega) | (simp; done) | (simp; omega)) (And.intro trivial (And.intro trivial (And.intro (fun h => (by first | trivial | rfl)) (And.intro (by intro h; (repeat' apply And.intro) <;> first | exact h | trivial) (And.intro (fun h => (by first | trivial | exact Nat.le_of_ble_eq_true rfl | exact ⟨rfl, Nat.le_of_ble_eq_true rfl⟩ | omega | ((repeat' apply And.intro) <;> first | trivial | rfl | exact Nat.le_of_ble_eq_true rfl | omega) | (simp; done) | (simp; omega))) (And.intro (by intro h; (repeat' apply And.intro) <;> first | exact h | trivial) (And.intro (fun h => trivial) (And.intro (by intro h; (repeat' apply And.intro) <;> first | exact h | trivial) (And.intro (by constructor <;> intro h <;> first | trivial | exact h | (simpa [gb, condOf] using h)) (And.intro trivial (And.intro (fun h => (by first | trivial | rfl)) (And.intro (by intro h; (repeat' apply And.intro) <;> first | exact h | trivial) (And.intro (fun h => (by first | trivial | exact Nat.le_of_ble_eq_true rfl | exact ⟨rfl, Nat.le_of_ble_eq_true rfl⟩ | omega | ((repeat' apply And.intro) <;> first | trivial | rfl | exact Nat.le_of_ble_eq_true rfl | omega) | (simp; done) | (simp; omega))) (And.intro (by intro h; (repeat' apply And.intro) <;> first | exact h | trivial) (And.intro (fun h => trivial) (And.intro (by intro h; (repeat' apply And.intro) <;> first | exact h | trivial) (And.intro (by constructor <;> intro h <;> first | trivial | exact h | (simpa [gb, condOf] using h)) (And.intro trivial (And.intro (fun h => (by first | trivial | rfl)) (And.intro (by intro h; (repeat' apply And.intro) <;> first | exact h | trivial) (And.intro (fun h => (by first | trivial | exact Nat.le_of_ble_eq_true rfl | exact ⟨rfl, Nat.le_of_ble_eq_true rfl⟩ | omega | ((repeat' apply And.intro) <;> first | trivial | rfl | exact Nat.le_of_ble_eq_true rfl | omega) | (simp; done) | (simp; omega))) (And.intro (by intro h; (repeat' apply And.intro) <;> first | exact h | trivial) (And.intro (fun h => (by first | trivial | exact Nat.le_of_ble_eq_true rfl | exact ⟨rfl, Nat.le_of_ble_eq_true rfl⟩ | omega | ((repeat' apply And.intro) <;> first | trivial | rfl | exact Nat.le_of_ble_eq_true rfl | omega) | (simp; done) | (simp; omega))) (And.intro (by intro h; (repeat' apply And.intro) <;> first | exact h | trivial) (And.intro (by constructor <;> intro h <;> first | trivial | exact h | (simpa [gb, condOf] using h)) (And.intro trivial (And.intro (by kernel_rfl) ?_))))))))))))))))))))))))))))
      refine SW.ret ?_
      refine retOk1 rfl (congrArg D.b (Bool.eq_iff_iff.2 ?_))
      simp only [frameOk, gb, Bool.and_eq_true, Bool.or_eq_false_iff, Bool.not_eq_false, Bool.or_eq_true, Bool.not_eq_true, beq_iff_eq, decide_eq_true_eq, bne_iff_ne, Bool.not_eq_true, List.length_eq_zero_iff, beq_eq_false_iff_ne, bne_eq_false_iff_eq] at *
      grind [inB]
    · skip
      refine SW.skip ?_
      refine SW.seq ?_
      refine SW.regD tabOk mo [2] ?_
      refine And.intro (by first | trivial | rfl) (And.intro (by first | trivial | exact Nat.le_of_ble_eq_true rfl | exact ⟨rfl, Nat.le_of_ble_eq_true rfl⟩ | omega | ((repeat' apply And.intro) <;> first | trivial | rfl | exact Nat.le_of_ble_eq_true rfl | omega) | (simp; done) | (simp; omega)) (And.intro (by first | trivial | rfl) (And.intro (by first | trivial | exact Nat.le_of_ble_eq_true rfl | exact ⟨rfl, Nat.le_of_ble_eq_true rfl⟩ | omega | ((repeat' apply And.intro) <;> first | trivial | rfl | exact Nat.le_of_ble_eq_true rfl | omega) | (simp; done) | (simp; omega)) ?_)))
      refine ex_pure (s_spec_NoteNext _ _) rfl rfl rfl rfl rfl rfl rfl rfl ?_
      refine And.intro (by first | trivial | rfl) (And.intro (by first | trivial | exact Nat.le_of_ble_eq_true rfl | exact ⟨rfl, Nat.le_of_ble_eq_true rfl⟩ | omega | ((repeat' apply And.intro) <;> first | trivial | rfl | exact Nat.le_of_ble_eq_true rfl | omega) | (simp; done) | (simp; omega)) (And.intro trivial (And.intro trivial (And.intro (fun h => (by first | trivial | rfl)) (And.intro (by intro h; (repeat' apply And.intro) <;> first | exact h | trivial) (And.intro (fun h => (by first | trivial | exact Nat.le_of_ble_eq_true rfl | exact ⟨rfl, Nat.le_of_ble_eq_true rfl⟩ | omega | ((repeat' apply And.intro) <;> first | trivial | rfl | exact Nat.le_of_ble_eq_true rfl | omega) | (simp; done) | (simp; omega))) (And.intro (by intro h; (repeat' apply And.intro) <;> first | exact h | trivial) ?_)))))))
      refine exc_pure (fun h => (s_spec_l6In _ _ _)) rfl rfl rfl rfl rfl rfl rfl rfl (by intro h; (repeat' apply And.intro) <;> first | exact h | trivial) ?_
      refine And.intro (by constructor <;> intro h <;> first | trivial | exact h | (simpa [gb, condOf] using h)) (And.intro trivial (And.intro (fun h => (by first | trivial | rfl)) (And.intro (by intro h; (repeat' apply And.intro) <;> first | exact h | trivial) (And.intro (fun h => (by first | trivial | exact Nat.le_of_ble_eq_true rfl | exact ⟨rfl, Nat.le_of_ble_eq_true rfl⟩ | omega | ((repeat' apply And.intro) <;> first | trivial | rfl | exact Nat.le_of_ble_eq_true rfl | omega) | (simp; done) | (simp; omega))) (And.intro (by intro h; (repeat' apply And.intro) <;> first | exact h | trivial) ?_)))))
      refine exc_pure (fun h => (s_spec_l6In _ _ _)) rfl rfl rfl rfl rfl rfl rfl rfl (by intro h; (repeat' apply And.intro) <;> first | exact h | trivial) ?_
      refine And.intro (by constructor <;> intro h <;> first | trivial | exact h | (simpa [gb, condOf] using h)) (And.intro trivial (And.intro (fun h => (by first | trivial | rfl)) (And.intro (by intro h; (repeat' apply And.intro) <;> first | exact h | trivial) (And.intro (fun h => (by first | trivial | exact Nat.le_of_ble_eq_true rfl | exact ⟨rfl, Nat.le_of_ble_eq_true rfl⟩ | omega | ((repeat' apply And.intro) <;> first | trivial | rfl | exact Nat.le_of_ble_eq_true rfl | omega) | (simp; done) | (simp; omega))) (And.intro (by intro h; (repeat' apply And.intro) <;> first | exact h | trivial) (And.intro (fun h => (by first | trivial | exact Nat.le_of_ble_eq_true rfl | exact ⟨rfl, Nat.le_of_ble_eq_true rfl⟩ | omega | ((repeat' apply And.intro) <;> first | trivial | rfl | exact Nat.le_of_ble_eq_true rfl | omega) | (simp; done) | (simp; omega))) (And.intro (by intro h; (repeat' apply And.intro) <;> first | exact h | trivial) (And.intro (fun h => trivial) (And.intro (by intro h; (repeat' apply And.intro) <;> first | exact h | trivial) (And.intro (by constructor <;> intro h <;> first | trivial | exact h | (simpa [gb, condOf] using h)) (And.intro trivial (And.intro (by kernel_rfl) ?_))))))))))))
      refine SW.ret ?_
      refine retOk1 rfl (congrArg D.b (Bool.eq_iff_iff.2 ?_))
      simp only [frameOk, gb, Bool.and_eq_true, Bool.or_eq_false_iff, Bool.not_eq_false, Bool.or_eq_true, Bool.not_eq_true, beq_iff_eq, decide_eq_true_eq, bne_iff_ne, Bool.not_eq_true, List.length_eq_zero_iff, beq_eq_false_iff_ne, bne_eq_false_iff_eq] at *
      grind [inB]

theorem s_laws_toFrame (f : FrameR) : Ab.Spec Try.prog 16 1 [(.t 0, .v (f.V))] [(.t 0, .v (f.V))] := by
  refine spec_of_body tabOk Try.func16 rfl (by kernel_rfl) (by decide) (by kernel_rfl) rfl ?_
  refine SW.seq ?_
  refine SW.regT tabOk [1, 2] ?_
  refine And.intro trivial (And.intro trivial ?_)
  refine SW.seq ?_
  refine SW.regT tabOk [1, 2, 3] ?_
  refine And.intro trivial ?_
  refine SW.seq ?_
  refine SW.regT tabOk [1, 2, 3] ?_
  refine And.intro (by first | trivial | rfl) (And.intro (by first | trivial | exact Nat.le_of_ble_eq_true rfl | exact ⟨rfl, Nat.le_of_ble_eq_true rfl⟩ | omega | ((repeat' apply And.intro) <;> first | trivial | rfl | exact Nat.le_of_ble_eq_true rfl | omega) | (simp; done) | (simp; omega)) (And.intro (by first | trivial | rfl) (And.intro (by first | trivial | exact Nat.le_of_ble_eq_true rfl | exact ⟨rfl, Nat.le_of_ble_eq_true rfl⟩ | omega | ((repeat' apply And.intro) <;> first | trivial | rfl | exact Nat.le_of_ble_eq_true rfl | omega) | (simp; done) | (simp; omega)) ?_)))
  refine SW.seq ?_
  refine SW.regT tabOk [1, 2, 3] ?_
  refine And.intro (by first | trivial | rfl) (And.intro (by first | trivial | exact Nat.le_of_ble_eq_true rfl | exact ⟨rfl, Nat.le_of_ble_eq_true rfl⟩ | omega | ((repeat' apply And.intro) <;> first | trivial | rfl | exact Nat.le_of_ble_eq_true rfl | omega) | (simp; done) | (simp; omega)) (And.intro (by first | trivial | rfl) (And.intro (by first | trivial | exact Nat.le_of_ble_eq_true rfl | exact ⟨rfl, Nat.le_of_ble_eq_true rfl⟩ | omega | ((repeat' apply And.intro) <;> first | trivial | rfl | exact Nat.le_of_ble_eq_true rfl | omega) | (simp; done) | (simp; omega)) ?_)))
  refine SW.seq ?_
  refine SW.regT tabOk [1, 2, 3] ?_
  refine And.intro (by first | trivial | rfl) (And.intro (by first | trivial | exact Nat.le_of_ble_eq_true rfl | exact ⟨rfl, Nat.le_of_ble_eq_true rfl⟩ | omega | ((repeat' apply And.intro) <;> first | trivial | rfl | exact Nat.le_of_ble_eq_true rfl | omega) | (simp; done) | (simp; omega)) (And.intro (by first | trivial | rfl) (And.intro (by first | trivial | exact Nat.le_of_ble_eq_true rfl | exact ⟨rfl, Nat.le_of_ble_eq_true rfl⟩ | omega | ((repeat' apply And.intro) <;> first | trivial | rfl | exact Nat.le_of_ble_eq_true rfl | omega) | (simp; done) | (simp; omega)) ?_)))
  refine SW.seq ?_
  refine SW.regT tabOk [1, 2, 3] ?_
  refine And.intro (by first | trivial | rfl) (And.intro (by first | trivial | exact Nat.le_of_ble_eq_true rfl | exact ⟨rfl, Nat.le_of_ble_eq_true rfl⟩ | omega | ((repeat' apply And.intro) <;> first | trivial | rfl | exact Nat.le_of_ble_eq_true rfl | omega) | (simp; done) | (simp; omega)) (And.intro (by first | trivial | rfl) (And.intro (by first | trivial | exact Nat.le_of_ble_eq_true rfl | exact ⟨rfl, Nat.le_of_ble_eq_true rfl⟩ | omega | ((repeat' apply And.intro) <;> first | trivial | rfl | exact Nat.le_of_ble_eq_true rfl | omega) | (simp; done) | (simp; omega)) ?_)))
  refine SW.seq ?_
  refine SW.regT tabOk [1, 2, 3] ?_
  refine And.intro (by first | trivial | rfl) (And.intro (by first | trivial | exact Nat.le_of_ble_eq_true rfl | exact ⟨rfl, Nat.le_of_ble_eq_true rfl⟩ | omega | ((repeat' apply And.intro) <;> first | trivial | rfl | exact Nat.le_of_ble_eq_true rfl | omega) | (simp; done) | (simp; omega)) (And.intro (by first | trivial | rfl) (And.intro (by first | trivial | exact Nat.le_of_ble_eq_true rfl | exact ⟨rfl, Nat.le_of_ble_eq_true rfl⟩ | omega | ((repeat' apply And.intro) <;> first | trivial | rfl | exact Nat.le_of_ble_eq_true rfl | omega) | (simp; done) | (simp; omega)) ?_)))
  refine SW.seq ?_
  refine SW.regT tabOk [1, 2, 3] ?_
  refine And.intro (by first | trivial | rfl) (And.intro (by first | trivial | exact Nat.le_of_ble_eq_true rfl | exact ⟨rfl, Nat.le_of_ble_eq_true rfl⟩ | omega | ((repeat' apply And.intro) <;> first | trivial | rfl | exact Nat.le_of_ble_eq_true rfl | omega) | (simp; done) | (simp; omega)) (And.intro (by first | trivial | rfl) (And.intro (by first | trivial | exact Nat.le_of_ble_eq_true rfl | exact ⟨rfl, Nat.le_of_ble_eq_true rfl⟩ | omega | ((repeat' apply And.intro) <;> first | trivial | rfl | exact Nat.le_of_ble_eq_true rfl | omega) | (simp; done) | (simp; omega)) ?_)))
  refine SW.seq ?_
  refine SW.regT tabOk [1, 2, 3] ?_
  refine And.intro (by first | trivial | rfl) (And.intro (by first | trivial | exact Nat.le_of_ble_eq_true rfl | exact ⟨rfl, Nat.le_of_ble_eq_true rfl⟩ | omega | ((repeat' apply And.intro) <;> first | trivial | rfl | exact Nat.le_of_ble_eq_true rfl | omega) | (simp; done) | (simp; omega)) (And.intro (by first | trivial | rfl) (And.intro (by first | trivial | exact Nat.le_of_ble_eq_true rfl | exact ⟨rfl, Nat.le_of_ble_eq_true rfl⟩ | omega | ((repeat' apply And.intro) <;> first | trivial | rfl | exact Nat.le_of_ble_eq_true rfl | omega) | (simp; done) | (simp; omega)) ?_)))
  refine SW.seq ?_
  refine SW.regT tabOk [1, 2, 3] ?_
  refine And.intro (by first | trivial | rfl) (And.intro (by first | trivial | exact Nat.le_of_ble_eq_true rfl | exact ⟨rfl, Nat.le_of_ble_eq_true rfl⟩ | omega | ((repeat' apply And.intro) <;> first | trivial | rfl | exact Nat.le_of_ble_eq_true rfl | omega) | (simp; done) | (simp; omega)) (And.intro (by first | trivial | rfl) (And.intro (by first | trivial | exact Nat.le_of_ble_eq_true rfl | exact ⟨rfl, Nat.le_of_ble_eq_true rfl⟩ | omega | ((repeat' apply And.intro) <;> first | trivial | rfl | exact Nat.le_of_ble_eq_true rfl | omega) | (simp; done) | (simp; omega)) ?_)))
  refine SW.seq ?_
  refine SW.regT tabOk [1, 2, 3] ?_
  refine And.intro (by first | trivial | rfl) (And.intro (by first | trivial | exact Nat.le_of_ble_eq_true rfl | exact ⟨rfl, Nat.le_of_ble_eq_true rfl⟩ | omega | ((repeat' apply And.intro) <;> first | trivial | rfl | exact Nat.le_of_ble_eq_true rfl | omega) | (simp; done) | (simp; omega)) (And.intro (by first | trivial | rfl) (And.intro (by first | trivial | exact Nat.le_of_ble_eq_true rfl | exact ⟨rfl, Nat.le_of_ble_eq_true rfl⟩ | omega | ((repeat' apply And.intro) <;> first | trivial | rfl | exact Nat.le_of_ble_eq_true rfl | omega) | (simp; done) | (simp; omega)) ?_)))
  refine SW.seq ?_
  refine SW.regT tabOk [2, 3] ?_
  refine And.intro (by first | trivial | rfl) (And.intro (by first | trivial | exact Nat.le_of_ble_eq_true rfl | exact ⟨rfl, Nat.le_of_ble_eq_true rfl⟩ | omega | ((repeat' apply And.intro) <;> first | trivial | rfl | exact Nat.le_of_ble_eq_true rfl | omega) | (simp; done) | (simp; omega)) (And.intro (by first | trivial | rfl) (And.intro (by first | trivial | exact Nat.le_of_ble_eq_true rfl | exact ⟨rfl, Nat.le_of_ble_eq_true rfl⟩ | omega | ((repeat' apply And.intro) <;> first | trivial | rfl | exact Nat.le_of_ble_eq_true rfl | omega) | (simp; done) | (simp; omega)) ?_)))
  refine SW.seq ?_
  refine SW.regT tabOk [2] ?_
  refine And.intro (by first | trivial | exact Nat.le_of_ble_eq_true rfl | exact ⟨rfl, Nat.le_of_ble_eq_true rfl⟩ | omega | ((repeat' apply And.intro) <;> first | trivial | rfl | exact Nat.le_of_ble_eq_true rfl | omega) | (simp; done) | (simp; omega)) (And.intro (by first | trivial | exact Nat.le_of_ble_eq_true rfl | exact ⟨rfl, Nat.le_of_ble_eq_true rfl⟩ | omega | ((repeat' apply And.intro) <;> first | trivial | rfl | exact Nat.le_of_ble_eq_true rfl | omega) | (simp; done) | (simp; omega)) ?_)
  refine SW.ret ?_
  refine retOkP rfl rfl ?_
  rfl

theorem s_laws_szFrame (f : FrameR) (n : Int) (h : f.data.length ≤ 140737488355328 ∧ 0 ≤ n ∧ n ≤ 1048576) : Ab.Spec Try.prog 14 2 [(.t 0, .v (f.V)), (.t 1, .v (I n))] [(.t 0, .v (I (if n - f.data.length < 0 then -1 else n - f.data.length)))] := by
  refine spec_of_body tabOk Try.func14 rfl (by kernel_rfl) (by decide) (by kernel_rfl) rfl ?_
  refine SW.seq ?_
  refine SW.regT tabOk [1, 2] ?_
  refine And.intro trivial (And.intro trivial ?_)
  refine SW.seq ?_
  refine SW.regT tabOk [1] ?_
  refine And.intro trivial (And.intro (by first | trivial | rfl) (And.intro (by first | trivial | exact Nat.le_of_ble_eq_true rfl | exact ⟨rfl, Nat.le_of_ble_eq_true rfl⟩ | omega | ((repeat' apply And.intro) <;> first | trivial | rfl | exact Nat.le_of_ble_eq_true rfl | omega) | (simp; done) | (simp; omega)) (And.intro (by first | trivial | exact Nat.le_of_ble_eq_true rfl | exact ⟨rfl, Nat.le_of_ble_eq_true rfl⟩ | omega | ((repeat' apply And.intro) <;> first | trivial | rfl | exact Nat.le_of_ble_eq_true rfl | omega) | (simp; done) | (simp; omega)) (And.intro trivial (And.intro trivial ?_)))))
  refine SW.seq ?_
  refine SW.seq ?_
  refine SW.regT tabOk [1, 11] ?_
  refine And.intro trivial (And.intro trivial ?_)
  refine SW.cond rfl (fun c11 => ?_) (fun c11 => ?_)
  · skip
    refine SW.seq ?_
    refine SW.regT tabOk [4] ?_
    refine And.intro trivial ?_
    refine SW.ret ?_
    refine retOk1 rfl (congrArg D.i ?_)
    rw [wrap64_of (by omega)] at *
    simp only [decide_eq_true_eq, decide_eq_false_iff_not] at *
    simp [*]
  · skip
    refine SW.skip ?_
    refine SW.seq ?_
    refine SW.regT tabOk [4] ?_
    refine And.intro trivial (And.intro trivial ?_)
    refine SW.ret ?_
    refine retOk1 rfl (congrArg D.i ?_)
    rw [wrap64_of (by omega)] at *
    simp only [decide_eq_true_eq, decide_eq_false_iff_not] at *
    simp [*]

theorem s_laws_FnExactFrameOk (f : FrameR) (hf : f.data.length ≤ 140737488355328) : Ab.Spec Try.prog 5 1 [(.t 0, .v (f.V))] [(.t 0, .v (B true))] := by
  refine spec_of_body tabOk Try.func5 rfl (by kernel_rfl) (by decide) (by kernel_rfl) rfl ?_
  refine SW.seq ?_
  refine SW.regT tabOk [1] ?_
  refine And.intro trivial (And.intro trivial ?_)
  refine SW.seq ?_
  refine SW.regT tabOk [1, 3] ?_
  refine And.intro trivial ?_
  refine SW.seq ?_
  refine SW.regT tabOk [1, 3] ?_
  refine And.intro (by first | trivial | exact Nat.le_of_ble_eq_true rfl | exact ⟨rfl, Nat.le_of_ble_eq_true rfl⟩ | omega | ((repeat' apply And.intro) <;> first | trivial | rfl | exact Nat.le_of_ble_eq_true rfl | omega) | (simp; done) | (simp; omega)) (And.intro trivial ?_)
  refine ex_pure (s_laws_szFrame _ _ (by first | trivial | exact Nat.le_of_ble_eq_true rfl | exact ⟨rfl, Nat.le_of_ble_eq_true rfl⟩ | omega | ((repeat' apply And.intro) <;> first | trivial | rfl | exact Nat.le_of_ble_eq_true rfl | omega) | (simp; done) | (simp; omega))) rfl rfl rfl rfl rfl rfl rfl rfl ?_
  refine And.intro trivial ?_
  refine SW.seq ?_
  refine SW.seq ?_
  refine SW.regT tabOk [1, 10] ?_
  refine And.intro trivial (And.intro trivial ?_)
  refine SW.cond rfl (fun c10 => ?_) (fun c10 => ?_)
  · skip
    refine SW.seq ?_
    refine SW.regT tabOk [2] ?_
    refine And.intro trivial ?_
    refine SW.ret ?_
    refine retOk1 rfl ?_
    first | rfl | (simp at *)
  · skip
    refine SW.skip ?_
    refine SW.seq ?_
    refine SW.regT tabOk [1, 4] ?_
    refine And.intro (by first | trivial | exact Nat.le_of_ble_eq_true rfl | exact ⟨rfl, Nat.le_of_ble_eq_true rfl⟩ | omega | ((repeat' apply And.intro) <;> first | trivial | rfl | exact Nat.le_of_ble_eq_true rfl | omega) | (simp; done) | (simp; omega)) ?_
    refine ex_pure (s_laws_toFrame _) rfl rfl rfl rfl rfl rfl rfl rfl ?_
    refine ex_pure (s_spec_FrameOk _) rfl rfl rfl rfl rfl rfl rfl rfl ?_
    refine And.intro trivial ?_
    refine SW.seq ?_
    refine SW.regT tabOk [4, 5] ?_
    refine And.intro (by first | trivial | exact Nat.le_of_ble_eq_true rfl | exact ⟨rfl, Nat.le_of_ble_eq_true rfl⟩ | omega | ((repeat' apply And.intro) <;> first | trivial | rfl | exact Nat.le_of_ble_eq_true rfl | omega) | (simp; done) | (simp; omega)) ?_
    refine ex_pure (s_laws_toFrame _) rfl rfl rfl rfl rfl rfl rfl rfl ?_
    refine ex_pure (s_impl_FrameOk _) rfl rfl rfl rfl rfl rfl rfl rfl ?_
    refine And.intro trivial ?_
    refine SW.seq ?_
    refine SW.seq ?_
    refine SW.regT tabOk [19] ?_
    refine And.intro trivial (And.intro trivial (And.intro trivial ?_))
    refine SW.cond rfl (fun c19 => ?_) (fun c19 => ?_)
    · skip
      refine SW.seq ?_
      refine SW.regT tabOk [2] ?_
      refine And.intro trivial ?_
      refine SW.ret ?_
      refine retOk1 rfl ?_
      first | rfl | (simp at *)
    · skip
      refine SW.skip ?_
      refine SW.seq ?_
      refine SW.regT tabOk [2] ?_
      refine And.intro trivial ?_
      refine SW.ret ?_
      refine retOk1 rfl ?_
      first | rfl | (simp at *)

theorem typed_frame {B : Nat} {ds : List D} (h : Typed tab B 8 28 ds) : ∃ f : FrameR, ds = f.row ∧ (Lit.int .i64 f.kind).wf = true ∧ (Lit.int .i64 f.src).wf = true ∧ (Lit.int .i64 f.dst).wf = true ∧ (Lit.int .i64 f.frm).wf = true ∧ (Lit.int .i64 f.num).wf = true ∧ (Lit.int .i64 f.to).wf = true ∧ (Lit.int .i64 f.til).wf = true ∧ (Lit.int .i64 f.size).wf = true ∧ (Lit.int .i64 f.mix).wf = true ∧ f.data.length ≤ B := by
  obtain ⟨hl, hf⟩ := h
  match ds, hl with
  | [a0, a1, a2, a3, a4, a5, a6, a7, a8, a9], _ =>
  obtain ⟨x0, e0, w0⟩ := hf (0, 3) (by decide)
  obtain ⟨x1, e1, w1⟩ := hf (1, 3) (by decide)
  obtain ⟨x2, e2, w2⟩ := hf (2, 3) (by decide)
  obtain ⟨x3, e3, w3⟩ := hf (3, 3) (by decide)
  obtain ⟨x4, e4, w4⟩ := hf (4, 3) (by decide)
  obtain ⟨x5, e5, w5⟩ := hf (5, 3) (by decide)
  obtain ⟨x6, e6, w6⟩ := hf (6, 3) (by decide)
  obtain ⟨x7, e7, w7⟩ := hf (7, 3) (by decide)
  obtain ⟨x8, e8, w8⟩ := hf (8, 3) (by decide)
  obtain ⟨x9, e9, w9⟩ := hf (9, 9) (by decide)
  cases e0
  cases e1
  cases e2
  cases e3
  cases e4
  cases e5
  cases e6
  cases e7
  cases e8
  cases e9
  exact ⟨⟨x0, x1, x2, x3, x4, x5, x6, x7, x8, x9⟩, rfl, w0, w1, w2, w3, w4, w5, w6, w7, w8, w9⟩
theorem typed_int {B : Nat} {ds : List D} (h : Typed tab B 8 3 ds) : ∃ n : Int, ds = [.i n] ∧ (Lit.int .i64 n).wf = true := h
theorem typed_bytes {B : Nat} {ds : List D} (h : Typed tab B 8 22 ds) : ∃ l : List UInt8, ds = [.sl (bytesRows l)] ∧ l.length ≤ B := by
  obtain ⟨rows, rfl, h1, h2⟩ := h
  have h3 : ∀ r ∈ rows, r = [.u (Ab.byteOf r).toNat] := fun r hr => by
    obtain ⟨n, rfl, hn⟩ := h2 r hr
    simp [Lit.wf, IntKind.min, IntKind.max, IntKind.signed, IntKind.bits] at hn
    simp [Ab.byteOf]
    omega
  refine ⟨rowsBytes rows, ?_, ?_⟩
  · congr 2
    unfold rowsBytes bytesRows
    rw [List.map_map]
    conv => lhs; rw [← List.map_id rows]
    exact List.map_congr_left fun r hr => h3 r hr
  · have h1 : rows.length * 1 ≤ B := h1
    simpa [rowsBytes] using h1
end Go.Proofs.Ytjncgdeohbcihaa
