import Derived.Test.YtlkfibmjdigmiaaTab
import Derived.Test.YtlkfibmjdigmiaaWkDrawC
import Derived.Test.YtlkfibmjdigmiaaAbDm
import Derived.Test.YtlkfibmjdigmiaaAbBr
namespace Go.Proofs.Ytlkfibmjdigmiaa
open Go Go.Ab Go.RowKit
set_option linter.unusedVariables false
set_option linter.unusedSimpArgs false

theorem s_impl_FramePack_d (f : FrameR) : Ab.Spec Try.prog 14 1 [(.t 0, .v (f.V))] [(.t 0, .v (Dv (.sl (bytesRows (framePack f)))))] := (s_impl_FramePack f).freeze (bytesRows_length _) rfl
theorem s_spec_FramePack_d (f : FrameR) : Ab.Spec Try.prog 15 1 [(.t 0, .v (f.V))] [(.t 0, .v (Dv (.sl (bytesRows (framePack f)))))] := (s_spec_FramePack f).freeze (bytesRows_length _) rfl
theorem s_laws_FnFrameShort (l : List UInt8) (hl : l.length ≤ 140737488355328) : Ab.Spec Try.prog 6 1 [(.t 0, .v (Dv (.sl (bytesRows l))))] [(.t 0, .v (B true))] := by
  refine spec_of_body tabOk Try.func6 rfl (by kernel_rfl) (by decide) (by kernel_rfl) rfl ?_
  refine SW.seq ?_
  refine SW.regT tabOk [0, 24, 25, 26] ?_
  refine And.intro trivial ?_
  refine SW.seq ?_
  refine SW.seq ?_
  refine SW.regT tabOk [0, 12, 24, 25, 26] ?_
  refine And.intro trivial (And.intro (by first | trivial | exact Nat.le_of_ble_eq_true rfl | exact ⟨rfl, Nat.le_of_ble_eq_true rfl⟩ | omega | ((repeat' apply And.intro) <;> first | trivial | rfl | exact Nat.le_of_ble_eq_true rfl | omega) | (simp; done) | (simp; omega)) (And.intro trivial ?_))
  refine SW.cond rfl (fun c12 => ?_) (fun c12 => ?_)
  · skip
    refine SW.seq ?_
    refine SW.regT tabOk [2] ?_
    refine And.intro trivial ?_
    refine SW.ret ?_
    refine retOk1 rfl ?_
    rfl
  · skip
    refine SW.skip ?_
    refine SW.seq ?_
    refine SW.regE tabOk [3, 24, 25, 26] ?_
    refine And.intro trivial ?_
    refine ee_call (robj := []) (rl := []) (bor := []) (news := []) (s_spec_DrawFramePack l hl) rfl rfl rfl rfl ⟨mL_d rfl rfl (trivial), rfl⟩ (by rintro _ ⟨f, hf, rfl⟩; exact ⟨rfl, .inl rfl, fun j hj => nomatch hj⟩) (fun p hp => nomatch hp) (fun j hj => nomatch hj) ?_
    rintro _ ⟨f, hf, rfl⟩
    refine And.intro trivial (And.intro ⟨by kernel_rfl, Nat.le_of_ble_eq_true (by kernel_rfl)⟩ ?_)
    refine SW.seq ?_
    refine SW.regT tabOk [3, 4, 24, 25, 26] ?_
    refine And.intro (by first | trivial | exact Nat.le_of_ble_eq_true rfl | exact ⟨rfl, Nat.le_of_ble_eq_true rfl⟩ | omega | ((repeat' apply And.intro) <;> first | trivial | rfl | exact Nat.le_of_ble_eq_true rfl | omega) | (simp; done) | (simp; omega)) ?_
    refine ex_pure (s_impl_FramePack_d f) rfl rfl rfl rfl rfl rfl rfl rfl ?_
    refine And.intro trivial ?_
    refine SW.seq ?_
    refine SW.seq ?_
    refine SW.regD tabOk mo [3, 4, 27] ?_
    refine And.intro trivial (And.intro (by exact (congrArg bytesRows (rowsBytes_bytesRows _)).symm) (And.intro (by first | trivial | exact Nat.le_of_ble_eq_true rfl | exact ⟨rfl, Nat.le_of_ble_eq_true rfl⟩ | omega | ((repeat' apply And.intro) <;> first | trivial | rfl | exact Nat.le_of_ble_eq_true rfl | omega) | (simp; done) | (simp; omega)) ?_))
    refine ex_pure (s_spec_FramePack_d f) rfl rfl rfl rfl rfl rfl rfl rfl ?_
    refine And.intro (by exact (congrArg bytesRows (rowsBytes_bytesRows _)).symm) (And.intro (by first | trivial | exact Nat.le_of_ble_eq_true rfl | exact ⟨rfl, Nat.le_of_ble_eq_true rfl⟩ | omega | ((repeat' apply And.intro) <;> first | trivial | rfl | exact Nat.le_of_ble_eq_true rfl | omega) | (simp; done) | (simp; omega)) (And.intro trivial (And.intro (fun h => trivial) (And.intro (by intro h; (repeat' apply And.intro) <;> first | exact h | trivial) (And.intro (fun h => (by first | trivial | exact Nat.le_of_ble_eq_true rfl | exact ⟨rfl, Nat.le_of_ble_eq_true rfl⟩ | omega | ((repeat' apply And.intro) <;> first | trivial | rfl | exact Nat.le_of_ble_eq_true rfl | omega) | (simp; done) | (simp; omega))) (And.intro (by intro h; (repeat' apply And.intro) <;> first | exact h | trivial) (And.intro (fun h => trivial) (And.intro (by intro h; (repeat' apply And.intro) <;> first | exact h | trivial) (And.intro (by constructor <;> intro h <;> first | trivial | exact h | (simp [gb, condOf]; done) | (simpa [gb, condOf] using h) | (simp only [gb, condOf] at *; grind) | (simp_all [gb, condOf]; done)) (And.intro (by kernel_rfl) ?_))))))))))
    refine SW.cond rfl (fun c27 => ?_) (fun c27 => ?_)
    · skip
      refine SW.seq ?_
      refine SW.regD tabOk mo [2] ?_
      refine And.intro trivial (And.intro (by exact (congrArg bytesRows (rowsBytes_bytesRows _)).symm) (And.intro (by first | trivial | exact Nat.le_of_ble_eq_true rfl | exact ⟨rfl, Nat.le_of_ble_eq_true rfl⟩ | omega | ((repeat' apply And.intro) <;> first | trivial | rfl | exact Nat.le_of_ble_eq_true rfl | omega) | (simp; done) | (simp; omega)) ?_))
      refine ex_pure (s_spec_FramePack_d f) rfl rfl rfl rfl rfl rfl rfl rfl ?_
      refine And.intro (by exact (congrArg bytesRows (rowsBytes_bytesRows _)).symm) (And.intro (by first | trivial | exact Nat.le_of_ble_eq_true rfl | exact ⟨rfl, Nat.le_of_ble_eq_true rfl⟩ | omega | ((repeat' apply And.intro) <;> first | trivial | rfl | exact Nat.le_of_ble_eq_true rfl | omega) | (simp; done) | (simp; omega)) (And.intro trivial (And.intro (by kernel_rfl) ?_)))
      refine SW.ret ?_
      refine retOk1 rfl (congrArg D.b ?_)
      simp
    · skip
      have hlen := framePack_len f
      have hne : framePack f ≠ [] := by
        intro e
        simp [e, gb, bytesRows] at c27
      have hok := ok_of_pack hne
      refine SW.skip ?_
      refine SW.seq ?_
      refine SW.seq ?_
      refine SW.regT tabOk [4, 5] ?_
      refine And.intro trivial ?_
      refine SW.block ?_
      -- live at the head: [4, 5]
      refine SW.loopW (n := (framePack f).length) (fun n s => ∃ i : Nat, n = (framePack f).length - i ∧ i ≤ (framePack f).length ∧ s = [(.t 4, .v (Dv (.sl (bytesRows (framePack f))))), (.t 5, .v (I (i : Nat)))]) ?_ ?_
      · skip
        refine wk [(.t 4, .v (Dv (.sl (bytesRows (framePack f))))), (.t 5, .v (I (0 : Nat)))] [] [] (⟨0, rfl, Nat.zero_le _, rfl⟩) ?_ rfl rfl
        repeat' first | exact trivial | refine mL_nil rfl ?_ | refine mL_d rfl ?_ ?_ | refine mL_own rfl rfl ?_ rfl ?_ | refine mL_row rfl ?_ ?_ | refine mL_pt rfl rfl rfl rfl ?_ | refine mL_box rfl ?_ ?_ | refine mL_agg rfl ?_ ?_ | exact mCs_nil0 | refine mCs_d ?_ ?_ | refine mCs_nil ?_ | refine mCs_own rfl ?_ rfl ?_ | refine mCs_pt rfl rfl rfl ?_
        all_goals first | with_reducible rfl | (first | rfl | (simp; done) | omega)
      rintro n s ⟨i, rfl, hi, rfl⟩
      refine SW.seq ?_
      refine SW.seq ?_
      refine SW.regT tabOk [4, 5, 37] ?_
      refine And.intro trivial (And.intro trivial (And.intro (by first | trivial | exact Nat.le_of_ble_eq_true rfl | exact ⟨rfl, Nat.le_of_ble_eq_true rfl⟩ | omega | ((repeat' apply And.intro) <;> first | trivial | rfl | exact Nat.le_of_ble_eq_true rfl | omega) | (simp; done) | (simp; omega)) (And.intro trivial ?_)))
      refine SW.cond rfl (fun c37 => ?_) (fun c37 => ?_)
      · skip
        have hi2 : i < (framePack f).length := by simpa [bytesRows_length] using c37
        refine SW.skip ?_
        refine SW.seq ?_
        refine SW.block ?_
        refine SW.seq ?_
        refine SW.regT tabOk [4, 5, 7] ?_
        refine And.intro trivial (And.intro trivial (And.intro (by refine ⟨by simp [bnd, loOf, hiOf, bytesRows_length]; omega, bytesRows_len1 _⟩) ?_))
        refine ex_pure (s_impl_FrameUnpack ((framePack f).take i)) rfl rfl rfl rfl rfl (congrArg (fun r => [(Loc.t 0, K.v (Dv (D.sl r)))]) (bytesRows_cut (framePack f) 0 i).symm) rfl rfl ?_
        refine And.intro trivial (And.intro trivial (And.intro trivial (And.intro trivial (And.intro ⟨by kernel_rfl, Nat.le_of_ble_eq_true (by kernel_rfl)⟩ (And.intro trivial ?_)))))
        refine SW.seq ?_
        refine SW.regT tabOk [4, 5, 47] ?_
        refine And.intro trivial ?_
        refine SW.cond rfl (fun c47 => ?_) (fun c47 => ?_)
        · skip
          have hno := unpack_take hok hi2
          have h9 : unpackOk ((framePack f).take i) = true := c47
          rw [hno] at h9
          cases h9
        · skip
          refine SW.skip ?_
          refine SW.regT tabOk [4, 5] ?_
          refine And.intro trivial (And.intro trivial (And.intro trivial ?_))
          refine wk [(.t 4, .v (Dv (.sl (bytesRows (framePack f))))), (.t 5, .v (I ((i + 1) : Nat)))] [] [] (⟨(framePack f).length - (i + 1), by omega, i + 1, rfl, by omega, rfl⟩) ?_ rfl rfl
          repeat' first | exact trivial | refine mL_nil rfl ?_ | refine mL_d rfl ?_ ?_ | refine mL_own rfl rfl ?_ rfl ?_ | refine mL_row rfl ?_ ?_ | refine mL_pt rfl rfl rfl rfl ?_ | refine mL_box rfl ?_ ?_ | refine mL_agg rfl ?_ ?_ | exact mCs_nil0 | refine mCs_d ?_ ?_ | refine mCs_nil ?_ | refine mCs_own rfl ?_ rfl ?_ | refine mCs_pt rfl rfl rfl ?_
          all_goals first | with_reducible rfl | (exact congrArg D.i (wrap64_of (by omega)))
      · skip
        refine SW.exit ?_
        refine SW.seq ?_
        refine SW.regT tabOk [9] ?_
        refine And.intro (by first | trivial | exact Nat.le_of_ble_eq_true rfl | exact ⟨rfl, Nat.le_of_ble_eq_true rfl⟩ | omega | ((repeat' apply And.intro) <;> first | trivial | rfl | exact Nat.le_of_ble_eq_true rfl | omega) | (simp; done) | (simp; omega)) (And.intro trivial (And.intro (by refine ⟨trivial, rfl, bytesRows_len1 _, ?_⟩; show (_ + _) * 1 ≤ _; simp [bytesRows_length]; omega) (And.intro (by first | trivial | exact Nat.le_of_ble_eq_true rfl | exact ⟨rfl, Nat.le_of_ble_eq_true rfl⟩ | omega | ((repeat' apply And.intro) <;> first | trivial | rfl | exact Nat.le_of_ble_eq_true rfl | omega) | (simp; done) | (simp; omega)) (And.intro (by refine ⟨rfl, by simp [bytesRows_length], by simp, ?_⟩; show (_ + 1) * 1 ≤ _; simp [bytesRows_length]; omega) ?_))))
        refine ex_call (robj := [(49, .row 5 1 (bytesRows (framePack f) ++ [[.u 0]]))]) (rl := []) (bor := [49]) (s_impl_FrameUnpack (framePack f ++ [0])) rfl rfl rfl rfl ⟨mL_froze rfl rfl rfl (by simp [bytesRows_length]) (congrArg D.sl (bytesRows_append (framePack f) [0]).symm) trivial, rfl⟩ rfl (.inr (scalarSt_v rfl)) (robjOk_spec ⟨rfl, trivial⟩) (fun _ hj => nomatch hj) ?_
        refine And.intro trivial (And.intro trivial (And.intro trivial (And.intro trivial (And.intro ⟨by kernel_rfl, Nat.le_of_ble_eq_true (by kernel_rfl)⟩ (And.intro trivial ?_)))))
        refine SW.seq ?_
        refine SW.regT tabOk [2] ?_
        refine And.intro trivial (And.intro trivial (And.intro trivial ?_))
        refine SW.ret ?_
        refine retOk1 rfl (congrArg D.b ?_)
        rw [unpack_more hok]
        rfl

set_option maxHeartbeats 800000 in
theorem s_laws_FnFrameSpoilt (l m : List UInt8) (hl : l.length ≤ 140737488355328) (hm : m.length ≤ 140737488355328) : Ab.Spec Try.prog 7 2 [(.t 0, .v (Dv (.sl (bytesRows l)))), (.t 1, .v (Dv (.sl (bytesRows m))))] [(.t 0, .v (B true))] := by
  refine spec_of_body tabOk Try.func7 rfl (by kernel_rfl) (by decide) (by kernel_rfl) rfl ?_
  refine SW.seq ?_
  refine SW.regT tabOk [0, 1, 17, 18, 19, 33, 34, 35, 72, 73, 74] ?_
  refine And.intro trivial ?_
  refine SW.seq ?_
  refine SW.seq ?_
  refine SW.regT tabOk [0, 1, 20, 33, 34, 35, 72, 73, 74] ?_
  refine And.intro trivial (And.intro (by first | trivial | exact Nat.le_of_ble_eq_true rfl | exact ⟨rfl, Nat.le_of_ble_eq_true rfl⟩ | omega | ((repeat' apply And.intro) <;> first | trivial | rfl | exact Nat.le_of_ble_eq_true rfl | omega) | (simp; done) | (simp; omega)) (And.intro trivial (And.intro trivial (And.intro (fun h => trivial) (And.intro (by intro h; (repeat' apply And.intro) <;> first | exact h | trivial) (And.intro (fun h => (by first | trivial | exact Nat.le_of_ble_eq_true rfl | exact ⟨rfl, Nat.le_of_ble_eq_true rfl⟩ | omega | ((repeat' apply And.intro) <;> first | trivial | rfl | exact Nat.le_of_ble_eq_true rfl | omega) | (simp; done) | (simp; omega))) (And.intro (by intro h; (repeat' apply And.intro) <;> first | exact h | trivial) (And.intro (fun h => trivial) (And.intro (by intro h; (repeat' apply And.intro) <;> first | exact h | trivial) (And.intro (by constructor <;> intro h <;> first | trivial | exact h | (simp [gb, condOf]; done) | (simpa [gb, condOf] using h) | (simp only [gb, condOf] at *; grind) | (simp_all [gb, condOf]; done)) ?_))))))))))
  refine SW.cond rfl (fun c20 => ?_) (fun c20 => ?_)
  · skip
    refine SW.seq ?_
    refine SW.regT tabOk [4] ?_
    refine And.intro trivial ?_
    refine SW.ret ?_
    refine retOk1 rfl ?_
    rfl
  · skip
    refine SW.skip ?_
    refine SW.seq ?_
    refine SW.regE tabOk [1, 5, 33, 34, 35, 72, 73, 74] ?_
    refine And.intro trivial ?_
    refine ee_call (robj := []) (rl := []) (bor := []) (news := []) (s_spec_DrawFramePack l hl) rfl rfl rfl rfl ⟨mL_d rfl rfl (trivial), rfl⟩ (by rintro _ ⟨f, hf, rfl⟩; exact ⟨rfl, .inl rfl, fun j hj => nomatch hj⟩) (fun p hp => nomatch hp) (fun j hj => nomatch hj) ?_
    rintro _ ⟨f, hf, rfl⟩
    refine And.intro trivial (And.intro ⟨by kernel_rfl, Nat.le_of_ble_eq_true (by kernel_rfl)⟩ ?_)
    refine SW.seq ?_
    refine SW.regT tabOk [1, 5, 6, 33, 34, 35, 72, 73, 74] ?_
    refine And.intro (by first | trivial | exact Nat.le_of_ble_eq_true rfl | exact ⟨rfl, Nat.le_of_ble_eq_true rfl⟩ | omega | ((repeat' apply And.intro) <;> first | trivial | rfl | exact Nat.le_of_ble_eq_true rfl | omega) | (simp; done) | (simp; omega)) ?_
    refine ex_pure (s_spec_FramePack_d f) rfl rfl rfl rfl rfl rfl rfl rfl ?_
    refine And.intro trivial ?_
    refine SW.seq ?_
    refine SW.regT tabOk [1, 6, 7, 33, 34, 35, 72, 73, 74] ?_
    refine And.intro (by first | trivial | exact Nat.le_of_ble_eq_true rfl | exact ⟨rfl, Nat.le_of_ble_eq_true rfl⟩ | omega | ((repeat' apply And.intro) <;> first | trivial | rfl | exact Nat.le_of_ble_eq_true rfl | omega) | (simp; done) | (simp; omega)) ?_
    refine ex_pure (s_impl_FramePack_d f) rfl rfl rfl rfl rfl rfl rfl rfl ?_
    refine And.intro trivial ?_
    refine SW.seq ?_
    refine SW.seq ?_
    refine SW.regT tabOk [1, 6, 7, 36, 72, 73, 74] ?_
    refine And.intro trivial (And.intro (by exact (congrArg bytesRows (rowsBytes_bytesRows _)).symm) (And.intro trivial (And.intro (by exact (congrArg bytesRows (rowsBytes_bytesRows _)).symm) (And.intro (by first | trivial | exact Nat.le_of_ble_eq_true rfl | exact ⟨rfl, Nat.le_of_ble_eq_true rfl⟩ | omega | ((repeat' apply And.intro) <;> first | trivial | rfl | exact Nat.le_of_ble_eq_true rfl | omega) | (simp; done) | (simp; omega)) (And.intro trivial (And.intro (fun h => trivial) (And.intro (by intro h; (repeat' apply And.intro) <;> first | exact h | trivial) (And.intro (fun h => (by first | trivial | exact Nat.le_of_ble_eq_true rfl | exact ⟨rfl, Nat.le_of_ble_eq_true rfl⟩ | omega | ((repeat' apply And.intro) <;> first | trivial | rfl | exact Nat.le_of_ble_eq_true rfl | omega) | (simp; done) | (simp; omega))) (And.intro (by intro h; (repeat' apply And.intro) <;> first | exact h | trivial) (And.intro (fun h => trivial) (And.intro (by intro h; (repeat' apply And.intro) <;> first | exact h | trivial) (And.intro (by constructor <;> intro h <;> first | trivial | exact h | (simp [gb, condOf]; done) | (simpa [gb, condOf] using h) | (simp only [gb, condOf] at *; grind) | (simp_all [gb, condOf]; done)) ?_))))))))))))
    refine SW.cond rfl (fun c36 => ?_) (fun c36 => ?_)
    · skip
      refine SW.seq ?_
      refine SW.regT tabOk [4] ?_
      refine And.intro trivial (And.intro (by exact (congrArg bytesRows (rowsBytes_bytesRows _)).symm) (And.intro trivial (And.intro (by exact (congrArg bytesRows (rowsBytes_bytesRows _)).symm) (And.intro (by first | trivial | exact Nat.le_of_ble_eq_true rfl | exact ⟨rfl, Nat.le_of_ble_eq_true rfl⟩ | omega | ((repeat' apply And.intro) <;> first | trivial | rfl | exact Nat.le_of_ble_eq_true rfl | omega) | (simp; done) | (simp; omega)) (And.intro trivial ?_)))))
      refine SW.ret ?_
      refine retOk1 rfl (congrArg D.b ?_)
      simp
    · skip
      have hlen := framePack_len f
      have hne : framePack f ≠ [] := by
        intro e
        simp [e, gb, bytesRows] at c36
      have hok := ok_of_pack hne
      refine SW.skip ?_
      refine SW.seq ?_
      refine SW.regT tabOk [7, 8, 72, 73, 74] ?_
      refine And.intro trivial (And.intro (by first | trivial | exact Nat.le_of_ble_eq_true rfl | exact ⟨rfl, Nat.le_of_ble_eq_true rfl⟩ | omega | ((repeat' apply And.intro) <;> first | trivial | rfl | exact Nat.le_of_ble_eq_true rfl | omega) | (simp; done) | (simp; omega)) (And.intro (by decide) (And.intro trivial (And.intro (by first | trivial | rfl) (And.intro trivial ?_)))))
      refine SW.seq ?_
      refine SW.seq ?_
      obtain ⟨y, hyv, hy⟩ : ∃ y : Int, y = wrap8 (wrap64 (1 + Int.tmod ((bytesRows m).length : Int) 255)) ∧ 1 ≤ y ∧ y ≤ 255 := ⟨_, rfl, by
        have := tmod_range (x := ((bytesRows m).length : Int)) (n := 255) (by omega) (by omega)
        rw [wrap64_of (by omega)]; unfold wrap8; omega⟩
      refine SW.regT tabOk [7, 8, 9, 72, 73, 74] ?_
      refine And.intro trivial ?_
      refine SW.block ?_
      -- live at the head: [7, 8, 9, 72, 73, 74]
      refine SW.loopW (n := (framePack f).length) (fun n s => ∃ i : Nat, n = (framePack f).length - i ∧ i ≤ (framePack f).length ∧ s = [(.t 7, .v (Dv (.sl (bytesRows (framePack f))))), (.t 8, .v (Dv (.u y))), (.t 9, .v (I (i : Nat)))]) ?_ ?_
      · skip
        refine wk [(.t 7, .v (Dv (.sl (bytesRows (framePack f))))), (.t 8, .v (Dv (.u y))), (.t 9, .v (I (0 : Nat)))] [] [] (⟨0, rfl, Nat.zero_le _, rfl⟩) ?_ rfl rfl
        repeat' first | exact trivial | refine mL_nil rfl ?_ | refine mL_d rfl ?_ ?_ | refine mL_own rfl rfl ?_ rfl ?_ | refine mL_row rfl ?_ ?_ | refine mL_pt rfl rfl rfl rfl ?_ | refine mL_box rfl ?_ ?_ | refine mL_agg rfl ?_ ?_ | exact mCs_nil0 | refine mCs_d ?_ ?_ | refine mCs_nil ?_ | refine mCs_own rfl ?_ rfl ?_ | refine mCs_pt rfl rfl rfl ?_
        all_goals first | with_reducible rfl | (first | exact congrArg D.u hyv.symm | rfl)
      rintro n s ⟨i, rfl, hi, rfl⟩
      refine SW.seq ?_
      refine SW.seq ?_
      refine SW.regT tabOk [7, 8, 9, 50, 72, 73, 74] ?_
      refine And.intro trivial (And.intro trivial (And.intro (by first | trivial | exact Nat.le_of_ble_eq_true rfl | exact ⟨rfl, Nat.le_of_ble_eq_true rfl⟩ | omega | ((repeat' apply And.intro) <;> first | trivial | rfl | exact Nat.le_of_ble_eq_true rfl | omega) | (simp; done) | (simp; omega)) (And.intro trivial ?_)))
      refine SW.cond rfl (fun c50 => ?_) (fun c50 => ?_)
      · skip
        have hi2 : i < (framePack f).length := by simpa [bytesRows_length] using c50
        have hgb := bytesRows_getD (l := framePack f) (i := i) hi2
        have hno := unpack_set hok hi2 (y := u8 (xor8 (((framePack f).getD i 0).toNat : Int) y)) (u8_spoil hy)
        refine SW.skip ?_
        refine SW.seq ?_
        refine SW.block ?_
        refine SW.seq ?_
        refine SW.regT tabOk [7, 8, 9, 10, 72, 73, 74] ?_
        refine And.intro (by first | trivial | exact Nat.le_of_ble_eq_true rfl | exact ⟨rfl, Nat.le_of_ble_eq_true rfl⟩ | omega | ((repeat' apply And.intro) <;> first | trivial | rfl | exact Nat.le_of_ble_eq_true rfl | omega) | (simp; done) | (simp; omega)) (And.intro trivial (And.intro (by refine ⟨trivial, rfl, bytesRows_len1 _, ?_⟩; show (_ + _) * 1 ≤ _; simp [bytesRows_length]; omega) (And.intro trivial ?_)))
        refine SW.seq ?_
        refine SW.wk (J := fun s => s = [(.t 7, .v (Dv (.sl (bytesRows (framePack f))))), (.t 8, .v (Dv (.u y))), (.t 9, .v (I (i : Nat))), (.t 10, .v (.e (.c (.own 53 (framePack f).length)))), (.o 53, .row 5 1 (bytesRows (framePack f)))]) ?_ ?_
        · skip
          refine wk [(.t 7, .v (Dv (.sl (bytesRows (framePack f))))), (.t 8, .v (Dv (.u y))), (.t 9, .v (I (i : Nat))), (.t 10, .v (.e (.c (.own 53 (framePack f).length)))), (.o 53, .row 5 1 (bytesRows (framePack f)))] [] [] (rfl) ?_ rfl rfl
          repeat' first | exact trivial | refine mL_nil rfl ?_ | refine mL_d rfl ?_ ?_ | refine mL_own rfl rfl ?_ rfl ?_ | refine mL_row rfl ?_ ?_ | refine mL_pt rfl rfl rfl rfl ?_ | refine mL_box rfl ?_ ?_ | refine mL_agg rfl ?_ ?_ | exact mCs_nil0 | refine mCs_d ?_ ?_ | refine mCs_nil ?_ | refine mCs_own rfl ?_ rfl ?_ | refine mCs_pt rfl rfl rfl ?_
          all_goals first | with_reducible rfl | (first | rfl | (simp [bytesRows_length]; done))
        rintro s rfl
        refine SW.regT tabOk [7, 8, 9, 10, 72, 73, 74] ?_
        refine And.intro trivial (And.intro trivial (And.intro trivial (And.intro trivial (And.intro (oixB (by omega) (by omega) rfl) (And.intro (by rw [Int.toNat_natCast, hgb, bytesRows_length]; exact ⟨⟨rfl, hi2⟩, Nat.le_refl _, rfl⟩) (And.intro trivial (And.intro trivial (And.intro (oixB (by omega) (by omega) rfl) (And.intro (by rw [Int.toNat_natCast, hgb, bytesRows_length]; exact ⟨rfl, hi2, rfl, Nat.le_refl _⟩) ?_)))))))))
        refine SW.seq ?_
        refine SW.wk (J := fun s => s = [(.t 7, .v (Dv (.sl (bytesRows (framePack f))))), (.t 8, .v (Dv (.u y))), (.t 9, .v (I (i : Nat))), (.t 10, .v (.e (.c (.own 53 ((framePack f).set i (u8 (xor8 (((framePack f).getD i 0).toNat : Int) y))).length)))), (.o 53, .row 5 1 (bytesRows (((framePack f).set i (u8 (xor8 (((framePack f).getD i 0).toNat : Int) y))))))]) ?_ ?_
        · skip
          refine wk [(.t 7, .v (Dv (.sl (bytesRows (framePack f))))), (.t 8, .v (Dv (.u y))), (.t 9, .v (I (i : Nat))), (.t 10, .v (.e (.c (.own 53 ((framePack f).set i (u8 (xor8 (((framePack f).getD i 0).toNat : Int) y))).length)))), (.o 53, .row 5 1 (bytesRows (((framePack f).set i (u8 (xor8 (((framePack f).getD i 0).toNat : Int) y))))))] [] [] (rfl) ?_ rfl rfl
          repeat' first | exact trivial | refine mL_nil rfl ?_ | refine mL_d rfl ?_ ?_ | refine mL_own rfl rfl ?_ rfl ?_ | refine mL_row rfl ?_ ?_ | refine mL_pt rfl rfl rfl rfl ?_ | refine mL_box rfl ?_ ?_ | refine mL_agg rfl ?_ ?_ | exact mCs_nil0 | refine mCs_d ?_ ?_ | refine mCs_nil ?_ | refine mCs_own rfl ?_ rfl ?_ | refine mCs_pt rfl rfl rfl ?_
          all_goals first | with_reducible rfl | (first | (rw [List.length_set]; done) | (rw [List.length_set]; simp [bytesRows_length]; done) | (rw [Int.toNat_natCast, hgb]; refine Eq.trans ?_ (rows_set hi2 (xor8_range _ _)); rw [hgb]; rfl))
        rintro s rfl
        refine SW.regT tabOk [7, 8, 9, 11, 12, 72, 73, 74] ?_
        refine And.intro trivial ?_
        refine ex_call (robj := [(53, .row 5 1 (bytesRows (((framePack f).set i (u8 (xor8 (((framePack f).getD i 0).toNat : Int) y))))))]) (rl := []) (bor := [53]) (s_impl_FrameUnpack ((framePack f).set i (u8 (xor8 (((framePack f).getD i 0).toNat : Int) y)))) rfl rfl rfl rfl ⟨mL_froze rfl rfl rfl (by first | exact bytesRows_length _ | (simp [bytesRows_length, markB_length]; done)) rfl (trivial), rfl⟩ rfl (.inr (scalarSt_v rfl)) (robjOk_spec ⟨rfl, trivial⟩) (fun _ hj => nomatch hj) ?_
        refine And.intro trivial (And.intro trivial (And.intro trivial (And.intro trivial (And.intro ⟨by kernel_rfl, Nat.le_of_ble_eq_true (by kernel_rfl)⟩ (And.intro trivial ?_)))))
        refine SW.seq ?_
        refine SW.regT tabOk [7, 8, 9, 72, 73, 74, 75] ?_
        refine And.intro trivial (And.intro trivial (And.intro (fun h => (by first | trivial | exact Nat.le_of_ble_eq_true rfl | exact ⟨rfl, Nat.le_of_ble_eq_true rfl⟩ | omega | ((repeat' apply And.intro) <;> first | trivial | rfl | exact Nat.le_of_ble_eq_true rfl | omega) | (simp; done) | (simp; omega))) (And.intro (by intro h; (repeat' apply And.intro) <;> first | exact h | trivial) (And.intro (fun h => (by first | trivial | exact Nat.le_of_ble_eq_true rfl | exact ⟨rfl, Nat.le_of_ble_eq_true rfl⟩ | omega | ((repeat' apply And.intro) <;> first | trivial | rfl | exact Nat.le_of_ble_eq_true rfl | omega) | (simp; done) | (simp; omega))) (And.intro (by intro h; (repeat' apply And.intro) <;> first | exact h | trivial) ?_)))))
        refine exc_eqS tabOk (unpackF ((framePack f).set i (u8 (xor8 (((framePack f).getD i 0).toNat : Int) y)))).row zeroFrame.row rfl rfl rfl (by kernel_rfl) (by kernel_rfl) (by kernel_rfl) rfl rfl rfl (by intro h; (repeat' apply And.intro) <;> first | exact h | trivial) ?_
        refine And.intro (by constructor <;> intro h <;> first | trivial | exact h | (simp [gb, condOf]; done) | (simpa [gb, condOf] using h) | (simp only [gb, condOf] at *; grind) | (simp_all [gb, condOf]; done)) ?_
        refine SW.cond rfl (fun c75 => ?_) (fun c75 => ?_)
        · skip
          have h9 : unpackF ((framePack f).set i (u8 (xor8 (((framePack f).getD i 0).toNat : Int) y))) = zeroFrame := by rw [unpackF, hno]; rfl
          rw [hno, h9] at c75
          simp [gb, eqDs, eqD, FrameR.row, zeroFrame] at c75
        · skip
          refine SW.skip ?_
          refine SW.regT tabOk [7, 8, 9, 72, 73, 74] ?_
          refine And.intro trivial (And.intro trivial (And.intro trivial ?_))
          refine wk [(.t 7, .v (Dv (.sl (bytesRows (framePack f))))), (.t 8, .v (Dv (.u y))), (.t 9, .v (I ((i + 1) : Nat)))] [] [] (⟨(framePack f).length - (i + 1), by omega, i + 1, rfl, by omega, rfl⟩) ?_ rfl rfl
          repeat' first | exact trivial | refine mL_nil rfl ?_ | refine mL_d rfl ?_ ?_ | refine mL_own rfl rfl ?_ rfl ?_ | refine mL_row rfl ?_ ?_ | refine mL_pt rfl rfl rfl rfl ?_ | refine mL_box rfl ?_ ?_ | refine mL_agg rfl ?_ ?_ | exact mCs_nil0 | refine mCs_d ?_ ?_ | refine mCs_nil ?_ | refine mCs_own rfl ?_ rfl ?_ | refine mCs_pt rfl rfl rfl ?_
          all_goals first | with_reducible rfl | (exact congrArg D.i (wrap64_of (by omega)))
      · skip
        refine SW.exit ?_
        refine SW.seq ?_
        refine SW.regT tabOk [4] ?_
        refine And.intro trivial ?_
        refine SW.ret ?_
        refine retOk1 rfl ?_
        rfl

end Go.Proofs.Ytlkfibmjdigmiaa
