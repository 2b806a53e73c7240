import Derived.Test.YtlkfibmjdigmiabTab
import Derived.Test.YtlkfibmjdigmiabWkA
import Derived.Test.YtlkfibmjdigmiabAbDn
import Derived.Test.YtlkfibmjdigmiabAbBr
namespace Go.Proofs.Ytlkfibmjdigmiab
open Go Go.Ab Go.RowKit
set_option linter.unusedVariables false
set_option linter.unusedSimpArgs false

theorem s_laws_markText (k : Int) (hk : 1 ≤ k ∧ k ≤ 1000000) : Ab.Spec Try.prog 34 1 [(.t 0, .v (I k))] [(.t 0, .v (Dv (.s (mkText k))))] := by
  refine spec_of_body tabOk Try.func34 rfl (by kernel_rfl) (by decide) (by kernel_rfl) rfl ?_
  refine SW.seq ?_
  refine SW.regT tabOk [0] ?_
  refine And.intro trivial ?_
  refine SW.seq ?_
  refine SW.seq ?_
  refine SW.regT tabOk [0, 5] ?_
  refine And.intro trivial (And.intro trivial ?_)
  refine SW.cond rfl (fun c5 => ?_) (fun c5 => ?_)
  · skip
    simp at c5
    omega
  · skip
    refine SW.skip ?_
    refine SW.seq ?_
    refine SW.regT tabOk [0, 3] ?_
    refine And.intro trivial ?_
    refine SW.seq ?_
    refine SW.block ?_
    -- live at the head: [0, 3]
    refine SW.loopW (n := k.toNat) (fun m s => ∃ (j f : Nat) (o : List UInt8), m = j ∧ (j ≤ f ∧ decG f j o = decG k.toNat k.toNat [] ∧ j ≤ 1000000 ∧ o.length + j ≤ 1000000) ∧ s = [(.t 0, .v (I (j : Nat))), (.t 3, .v (Dv (.s o)))]) ?_ ?_
    · skip
      refine wk [(.t 0, .v (I (k.toNat : Nat))), (.t 3, .v (Dv (.s [])))] [] [] (⟨k.toNat, k.toNat, [], rfl, ⟨Nat.le_refl _, rfl, by omega, by simp; omega⟩, rfl⟩) ?_ rfl rfl
      repeat' first | exact trivial | refine mL_nil rfl ?_ | refine mL_d rfl ?_ ?_ | refine mL_own rfl rfl ?_ rfl ?_ | refine mL_row rfl ?_ ?_ | refine mL_pt rfl rfl rfl rfl ?_ | refine mL_box rfl ?_ ?_ | refine mL_agg rfl ?_ ?_ | exact mCs_nil0 | refine mCs_d ?_ ?_ | refine mCs_nil ?_ | refine mCs_own rfl ?_ rfl ?_ | refine mCs_pt rfl rfl rfl ?_
      all_goals first | with_reducible rfl | (first | with_reducible rfl | (refine congrArg D.i ?_; omega) | exact rfl)
    rintro n s ⟨j, f, o, hm, hj, rfl⟩
    refine SW.seq ?_
    refine SW.seq ?_
    refine SW.regT tabOk [0, 3, 7] ?_
    refine And.intro trivial (And.intro trivial ?_)
    refine SW.cond rfl (fun c7 => ?_) (fun c7 => ?_)
    · skip
      have hj1 : 0 < j := by simpa using c7
      obtain ⟨g, hg1, hg2⟩ := decG_step (acc := o) hj1 hj.1
      refine SW.skip ?_
      refine SW.block ?_
      refine SW.seq ?_
      refine SW.regT tabOk [0, 3] ?_
      refine And.intro trivial (And.intro (by decide) (And.intro trivial (And.intro (by first | trivial | rfl) (And.intro (by first | trivial | exact Nat.le_of_ble_eq_true rfl | exact ⟨rfl, Nat.le_of_ble_eq_true rfl⟩ | omega | ((repeat' apply And.intro) <;> first | trivial | rfl | exact Nat.le_of_ble_eq_true rfl | omega) | (simp; done) | (simp; omega)) (And.intro (by exact ⟨rfl, congrArg (fun r => [r]) (u8_row _)⟩) (And.intro trivial (And.intro (by show _ ≤ 9223372036854775807; simp [rowsBytes]; omega) (And.intro trivial ?_))))))))
      refine SW.regT tabOk [0, 3] ?_
      refine And.intro trivial (And.intro (by decide) (And.intro trivial ?_))
      refine wk [(.t 0, .v (I ((j / 10 : Nat) : Nat))), (.t 3, .v (Dv (.s (u8 (wrap64 (48 + Int.tmod (j : Int) 10)) :: o))))] [] [] (⟨j / 10, by omega, j / 10, g, _, rfl, ⟨hg2, hg1.symm.trans hj.2.1, by omega, by rw [List.length_cons]; omega⟩, rfl⟩) ?_ rfl rfl
      repeat' first | exact trivial | refine mL_nil rfl ?_ | refine mL_d rfl ?_ ?_ | refine mL_own rfl rfl ?_ rfl ?_ | refine mL_row rfl ?_ ?_ | refine mL_pt rfl rfl rfl rfl ?_ | refine mL_box rfl ?_ ?_ | refine mL_agg rfl ?_ ?_ | exact mCs_nil0 | refine mCs_d ?_ ?_ | refine mCs_nil ?_ | refine mCs_own rfl ?_ rfl ?_ | refine mCs_pt rfl rfl rfl ?_
      all_goals first | with_reducible rfl | (first | (refine congrArg D.i ?_; rw [Int.tdiv_eq_ediv_of_nonneg (by omega), wrap64_of (by omega)]; omega) | (refine congrArg D.s ?_; exact rfl))
    · skip
      have hj1 : j = 0 := by simp at c7; omega
      refine SW.exit ?_
      refine SW.seq ?_
      refine SW.regT tabOk [2] ?_
      refine And.intro trivial (And.intro (by show _ ≤ 9223372036854775807; simp; omega) (And.intro trivial ?_))
      refine SW.ret ?_
      refine retOk1 rfl (congrArg D.s ?_)
      subst hj1
      rw [mkText, ← hj.2.1, decG_zero]

theorem s_markHalfS_0 (k : Int) : Ab.Spec Try.prog 35 2 [(.t 0, .v (Dv (.sl []))), (.t 1, .v (I k))] [(.t 0, .v (I k))] := by
  refine spec_of_body tabOk Try.func35 rfl (by kernel_rfl) (by decide) (by kernel_rfl) rfl ?_
  refine SW.seq ?_
  refine SW.regT tabOk [0, 1] ?_
  refine And.intro trivial ?_
  refine SW.seq ?_
  refine SW.seq ?_
  refine SW.regT tabOk [0, 1, 5] ?_
  refine And.intro trivial ?_
  refine SW.block ?_
  -- live at the head: [0, 1, 5]
  refine SW.loopW (n := 0) (fun _ s => s = [(.t 0, .v (Dv (.sl []))), (.t 1, .v (I k)), (.t 5, .v (I 0))]) ?_ ?_
  · skip
    refine wk [(.t 0, .v (Dv (.sl []))), (.t 1, .v (I k)), (.t 5, .v (I 0))] [] [] (rfl) ?_ rfl rfl
    repeat' first | exact trivial | refine mL_nil rfl ?_ | refine mL_d rfl ?_ ?_ | refine mL_own rfl rfl ?_ rfl ?_ | refine mL_row rfl ?_ ?_ | refine mL_pt rfl rfl rfl rfl ?_ | refine mL_box rfl ?_ ?_ | refine mL_agg rfl ?_ ?_ | exact mCs_nil0 | refine mCs_d ?_ ?_ | refine mCs_nil ?_ | refine mCs_own rfl ?_ rfl ?_ | refine mCs_pt rfl rfl rfl ?_
    all_goals first | with_reducible rfl | (first | rfl | (simp; done) | omega)
  rintro n s rfl
  refine SW.seq ?_
  refine SW.seq ?_
  refine SW.regT tabOk [0, 1, 5, 9] ?_
  refine And.intro trivial (And.intro trivial (And.intro (by first | trivial | exact Nat.le_of_ble_eq_true rfl | exact ⟨rfl, Nat.le_of_ble_eq_true rfl⟩ | omega | ((repeat' apply And.intro) <;> first | trivial | rfl | exact Nat.le_of_ble_eq_true rfl | omega) | (simp; done) | (simp; omega)) (And.intro trivial ?_)))
  refine SW.cond rfl (fun c9 => ?_) (fun c9 => ?_)
  · skip
    simp at c9
  · skip
    refine SW.exit ?_
    refine SW.seq ?_
    refine SW.regT tabOk [4] ?_
    refine And.intro trivial (And.intro trivial ?_)
    refine SW.ret ?_
    refine retOk1 rfl ?_
    rfl

theorem s_heldHalfS_0 (k : Int) : Ab.Spec Try.prog 36 2 [(.t 0, .v (Dv (.sl []))), (.t 1, .v (I k))] [(.t 0, .v (I k))] := by
  refine spec_of_body tabOk Try.func36 rfl (by kernel_rfl) (by decide) (by kernel_rfl) rfl ?_
  refine SW.seq ?_
  refine SW.regT tabOk [0, 1] ?_
  refine And.intro trivial ?_
  refine SW.seq ?_
  refine SW.seq ?_
  refine SW.regT tabOk [0, 1, 5] ?_
  refine And.intro trivial ?_
  refine SW.block ?_
  -- live at the head: [0, 1, 5]
  refine SW.loopW (n := 0) (fun _ s => s = [(.t 0, .v (Dv (.sl []))), (.t 1, .v (I k)), (.t 5, .v (I 0))]) ?_ ?_
  · skip
    refine wk [(.t 0, .v (Dv (.sl []))), (.t 1, .v (I k)), (.t 5, .v (I 0))] [] [] (rfl) ?_ rfl rfl
    repeat' first | exact trivial | refine mL_nil rfl ?_ | refine mL_d rfl ?_ ?_ | refine mL_own rfl rfl ?_ rfl ?_ | refine mL_row rfl ?_ ?_ | refine mL_pt rfl rfl rfl rfl ?_ | refine mL_box rfl ?_ ?_ | refine mL_agg rfl ?_ ?_ | exact mCs_nil0 | refine mCs_d ?_ ?_ | refine mCs_nil ?_ | refine mCs_own rfl ?_ rfl ?_ | refine mCs_pt rfl rfl rfl ?_
    all_goals first | with_reducible rfl | (first | rfl | (simp; done) | omega)
  rintro n s rfl
  refine SW.seq ?_
  refine SW.seq ?_
  refine SW.regT tabOk [0, 1, 5, 9] ?_
  refine And.intro trivial (And.intro trivial (And.intro (by first | trivial | exact Nat.le_of_ble_eq_true rfl | exact ⟨rfl, Nat.le_of_ble_eq_true rfl⟩ | omega | ((repeat' apply And.intro) <;> first | trivial | rfl | exact Nat.le_of_ble_eq_true rfl | omega) | (simp; done) | (simp; omega)) (And.intro trivial ?_)))
  refine SW.cond rfl (fun c9 => ?_) (fun c9 => ?_)
  · skip
    simp at c9
  · skip
    refine SW.exit ?_
    refine SW.seq ?_
    refine SW.regT tabOk [4] ?_
    refine And.intro trivial (And.intro trivial ?_)
    refine SW.ret ?_
    refine retOk1 rfl ?_
    rfl

theorem s_markParcelS_nil (k : Int) : Ab.Spec Try.prog 18 2 [(.t 0, .v (.e (.c .nil))), (.t 1, .v (I k))] [(.t 0, .v (I k))] := by
  refine spec_of_body tabOk Try.func18 rfl (by kernel_rfl) (by decide) (by kernel_rfl) rfl ?_
  refine SW.seq ?_
  refine SW.regT tabOk [0, 1] ?_
  refine And.intro trivial ?_
  refine SW.seq ?_
  refine SW.seq ?_
  refine SW.regT tabOk [0, 1, 5] ?_
  refine And.intro trivial ?_
  refine SW.block ?_
  -- live at the head: [0, 1, 5]
  refine SW.loopW (n := 0) (fun _ s => s = [(.t 0, .v (.e (.c .nil))), (.t 1, .v (I k)), (.t 5, .v (I 0))]) ?_ ?_
  · skip
    refine wk [(.t 0, .v (.e (.c .nil))), (.t 1, .v (I k)), (.t 5, .v (I 0))] [] [] (rfl) ?_ rfl rfl
    repeat' first | exact trivial | refine mL_nil rfl ?_ | refine mL_d rfl ?_ ?_ | refine mL_own rfl rfl ?_ rfl ?_ | refine mL_row rfl ?_ ?_ | refine mL_pt rfl rfl rfl rfl ?_ | refine mL_box rfl ?_ ?_ | refine mL_agg rfl ?_ ?_ | exact mCs_nil0 | refine mCs_d ?_ ?_ | refine mCs_nil ?_ | refine mCs_own rfl ?_ rfl ?_ | refine mCs_pt rfl rfl rfl ?_
    all_goals first | with_reducible rfl | (first | rfl | (simp; done) | omega)
  rintro n s rfl
  refine SW.seq ?_
  refine SW.seq ?_
  refine SW.regT tabOk [0, 1, 5, 9] ?_
  refine And.intro trivial (And.intro trivial (And.intro (by first | trivial | exact Nat.le_of_ble_eq_true rfl | exact ⟨rfl, Nat.le_of_ble_eq_true rfl⟩ | omega | ((repeat' apply And.intro) <;> first | trivial | rfl | exact Nat.le_of_ble_eq_true rfl | omega) | (simp; done) | (simp; omega)) (And.intro trivial ?_)))
  refine SW.cond rfl (fun c9 => ?_) (fun c9 => ?_)
  · skip
    simp at c9
  · skip
    refine SW.exit ?_
    refine SW.seq ?_
    refine SW.regT tabOk [4] ?_
    refine And.intro trivial (And.intro trivial ?_)
    refine SW.ret ?_
    refine retOk1 rfl ?_
    rfl

theorem s_markNoteS_nil (k : Int) : Ab.Spec Try.prog 19 2 [(.t 0, .v (.e (.c .nil))), (.t 1, .v (I k))] [(.t 0, .v (I k))] := by
  refine spec_of_body tabOk Try.func19 rfl (by kernel_rfl) (by decide) (by kernel_rfl) rfl ?_
  refine SW.seq ?_
  refine SW.regT tabOk [0, 1] ?_
  refine And.intro trivial ?_
  refine SW.seq ?_
  refine SW.seq ?_
  refine SW.regT tabOk [0, 1, 5] ?_
  refine And.intro trivial ?_
  refine SW.block ?_
  -- live at the head: [0, 1, 5]
  refine SW.loopW (n := 0) (fun _ s => s = [(.t 0, .v (.e (.c .nil))), (.t 1, .v (I k)), (.t 5, .v (I 0))]) ?_ ?_
  · skip
    refine wk [(.t 0, .v (.e (.c .nil))), (.t 1, .v (I k)), (.t 5, .v (I 0))] [] [] (rfl) ?_ rfl rfl
    repeat' first | exact trivial | refine mL_nil rfl ?_ | refine mL_d rfl ?_ ?_ | refine mL_own rfl rfl ?_ rfl ?_ | refine mL_row rfl ?_ ?_ | refine mL_pt rfl rfl rfl rfl ?_ | refine mL_box rfl ?_ ?_ | refine mL_agg rfl ?_ ?_ | exact mCs_nil0 | refine mCs_d ?_ ?_ | refine mCs_nil ?_ | refine mCs_own rfl ?_ rfl ?_ | refine mCs_pt rfl rfl rfl ?_
    all_goals first | with_reducible rfl | (first | rfl | (simp; done) | omega)
  rintro n s rfl
  refine SW.seq ?_
  refine SW.seq ?_
  refine SW.regT tabOk [0, 1, 5, 9] ?_
  refine And.intro trivial (And.intro trivial (And.intro (by first | trivial | exact Nat.le_of_ble_eq_true rfl | exact ⟨rfl, Nat.le_of_ble_eq_true rfl⟩ | omega | ((repeat' apply And.intro) <;> first | trivial | rfl | exact Nat.le_of_ble_eq_true rfl | omega) | (simp; done) | (simp; omega)) (And.intro trivial ?_)))
  refine SW.cond rfl (fun c9 => ?_) (fun c9 => ?_)
  · skip
    simp at c9
  · skip
    refine SW.exit ?_
    refine SW.seq ?_
    refine SW.regT tabOk [4] ?_
    refine And.intro trivial (And.intro trivial ?_)
    refine SW.ret ?_
    refine retOk1 rfl ?_
    rfl

theorem s_heldParcelS_nil (k : Int) : Ab.Spec Try.prog 22 2 [(.t 0, .v (.e (.c .nil))), (.t 1, .v (I k))] [(.t 0, .v (I k))] := by
  refine spec_of_body tabOk Try.func22 rfl (by kernel_rfl) (by decide) (by kernel_rfl) rfl ?_
  refine SW.seq ?_
  refine SW.regT tabOk [0, 1] ?_
  refine And.intro trivial ?_
  refine SW.seq ?_
  refine SW.seq ?_
  refine SW.regT tabOk [0, 1, 5] ?_
  refine And.intro trivial ?_
  refine SW.block ?_
  -- live at the head: [0, 1, 5]
  refine SW.loopW (n := 0) (fun _ s => s = [(.t 0, .v (.e (.c .nil))), (.t 1, .v (I k)), (.t 5, .v (I 0))]) ?_ ?_
  · skip
    refine wk [(.t 0, .v (.e (.c .nil))), (.t 1, .v (I k)), (.t 5, .v (I 0))] [] [] (rfl) ?_ rfl rfl
    repeat' first | exact trivial | refine mL_nil rfl ?_ | refine mL_d rfl ?_ ?_ | refine mL_own rfl rfl ?_ rfl ?_ | refine mL_row rfl ?_ ?_ | refine mL_pt rfl rfl rfl rfl ?_ | refine mL_box rfl ?_ ?_ | refine mL_agg rfl ?_ ?_ | exact mCs_nil0 | refine mCs_d ?_ ?_ | refine mCs_nil ?_ | refine mCs_own rfl ?_ rfl ?_ | refine mCs_pt rfl rfl rfl ?_
    all_goals first | with_reducible rfl | (first | rfl | (simp; done) | omega)
  rintro n s rfl
  refine SW.seq ?_
  refine SW.seq ?_
  refine SW.regT tabOk [0, 1, 5, 9] ?_
  refine And.intro trivial (And.intro trivial (And.intro (by first | trivial | exact Nat.le_of_ble_eq_true rfl | exact ⟨rfl, Nat.le_of_ble_eq_true rfl⟩ | omega | ((repeat' apply And.intro) <;> first | trivial | rfl | exact Nat.le_of_ble_eq_true rfl | omega) | (simp; done) | (simp; omega)) (And.intro trivial ?_)))
  refine SW.cond rfl (fun c9 => ?_) (fun c9 => ?_)
  · skip
    simp at c9
  · skip
    refine SW.exit ?_
    refine SW.seq ?_
    refine SW.regT tabOk [4] ?_
    refine And.intro trivial (And.intro trivial ?_)
    refine SW.ret ?_
    refine retOk1 rfl ?_
    rfl

theorem s_heldNoteS_nil (k : Int) : Ab.Spec Try.prog 23 2 [(.t 0, .v (.e (.c .nil))), (.t 1, .v (I k))] [(.t 0, .v (I k))] := by
  refine spec_of_body tabOk Try.func23 rfl (by kernel_rfl) (by decide) (by kernel_rfl) rfl ?_
  refine SW.seq ?_
  refine SW.regT tabOk [0, 1] ?_
  refine And.intro trivial ?_
  refine SW.seq ?_
  refine SW.seq ?_
  refine SW.regT tabOk [0, 1, 5] ?_
  refine And.intro trivial ?_
  refine SW.block ?_
  -- live at the head: [0, 1, 5]
  refine SW.loopW (n := 0) (fun _ s => s = [(.t 0, .v (.e (.c .nil))), (.t 1, .v (I k)), (.t 5, .v (I 0))]) ?_ ?_
  · skip
    refine wk [(.t 0, .v (.e (.c .nil))), (.t 1, .v (I k)), (.t 5, .v (I 0))] [] [] (rfl) ?_ rfl rfl
    repeat' first | exact trivial | refine mL_nil rfl ?_ | refine mL_d rfl ?_ ?_ | refine mL_own rfl rfl ?_ rfl ?_ | refine mL_row rfl ?_ ?_ | refine mL_pt rfl rfl rfl rfl ?_ | refine mL_box rfl ?_ ?_ | refine mL_agg rfl ?_ ?_ | exact mCs_nil0 | refine mCs_d ?_ ?_ | refine mCs_nil ?_ | refine mCs_own rfl ?_ rfl ?_ | refine mCs_pt rfl rfl rfl ?_
    all_goals first | with_reducible rfl | (first | rfl | (simp; done) | omega)
  rintro n s rfl
  refine SW.seq ?_
  refine SW.seq ?_
  refine SW.regT tabOk [0, 1, 5, 9] ?_
  refine And.intro trivial (And.intro trivial (And.intro (by first | trivial | exact Nat.le_of_ble_eq_true rfl | exact ⟨rfl, Nat.le_of_ble_eq_true rfl⟩ | omega | ((repeat' apply And.intro) <;> first | trivial | rfl | exact Nat.le_of_ble_eq_true rfl | omega) | (simp; done) | (simp; omega)) (And.intro trivial ?_)))
  refine SW.cond rfl (fun c9 => ?_) (fun c9 => ?_)
  · skip
    simp at c9
  · skip
    refine SW.exit ?_
    refine SW.seq ?_
    refine SW.regT tabOk [4] ?_
    refine And.intro trivial (And.intro trivial ?_)
    refine SW.ret ?_
    refine retOk1 rfl ?_
    rfl

set_option maxHeartbeats 800000 in
theorem s_laws_markKeeperS (R : List (List D)) (k : Int) (hR0 : ∀ r ∈ R, isK r) (hl : R.length ≤ 1000) (hk : 1 ≤ k ∧ k ≤ 100000) : Ab.Spec Try.prog 16 2 [(.t 0, .v (.e (.c (.own 0 (R.length))))), (.t 1, .v (I k)), (.o 0, .row 36 5 (R))] [(.t 0, .v (I (k + 4 * (R.length : Nat)))), (.o 0, .row 36 5 (mrows k R.length))] := by
  refine spec_of_body tabOk Try.func16 rfl (by kernel_rfl) (by decide) (by kernel_rfl) rfl ?_
  refine SW.seq ?_
  refine SW.regT tabOk [0, 1] ?_
  refine And.intro trivial ?_
  refine SW.seq ?_
  refine SW.seq ?_
  refine SW.regT tabOk [0, 1, 5] ?_
  refine And.intro trivial ?_
  refine SW.block ?_
  -- live at the head: [0, 1, 5]
  refine SW.loopW (n := R.length) (fun n s => ∃ (i : Nat), n = R.length - i ∧ i ≤ R.length ∧ s = [(.t 0, .v (.e (.c (.own 0 (R.length))))), (.t 1, .v (I (k + 4 * (i : Nat)))), (.t 5, .v (I (i : Nat))), (.o 0, .row 36 5 (mrows k i ++ R.drop i))]) ?_ ?_
  · skip
    refine wk [(.t 0, .v (.e (.c (.own 0 (R.length))))), (.t 1, .v (I (k + 4 * (0 : Nat)))), (.t 5, .v (I (0 : Nat))), (.o 0, .row 36 5 (mrows k 0 ++ R.drop 0))] [] [] (⟨0, rfl, Nat.zero_le _, rfl⟩) ?_ rfl rfl
    repeat' first | exact trivial | refine mL_nil rfl ?_ | refine mL_d rfl ?_ ?_ | refine mL_own rfl rfl ?_ rfl ?_ | refine mL_row rfl ?_ ?_ | refine mL_pt rfl rfl rfl rfl ?_ | refine mL_box rfl ?_ ?_ | refine mL_agg rfl ?_ ?_ | exact mCs_nil0 | refine mCs_d ?_ ?_ | refine mCs_nil ?_ | refine mCs_own rfl ?_ rfl ?_ | refine mCs_pt rfl rfl rfl ?_
    all_goals first | with_reducible rfl | (first | rfl | (refine congrArg D.i ?_; omega))
  rintro n s ⟨i, rfl, hi, rfl⟩
  refine SW.seq ?_
  refine SW.seq ?_
  refine SW.regT tabOk [0, 1, 5, 9] ?_
  refine And.intro trivial (And.intro trivial (And.intro (by first | exact at_len (mrows_length k i) (by rw [List.length_drop]; omega) | (simp [mrows_length]; omega)) (And.intro trivial ?_)))
  refine SW.cond rfl (fun c9 => ?_) (fun c9 => ?_)
  · skip
    have hi2 : i < R.length := by simpa using c9
    obtain ⟨r, B, hB, hB2, hr, hR, hA0⟩ := split_at hi2
    obtain ⟨a, b, c, d, rfl⟩ := hR0 r hr
    rw [hB]
    have hA := mrows_length k i
    have hlen : i + (B.length + 1) = R.length := by have := congrArg List.length hR; simp at this; omega
    refine SW.skip ?_
    refine SW.seq ?_
    refine SW.block ?_
    refine SW.seq ?_
    refine SW.regT tabOk [0, 1, 5] ?_
    refine And.intro trivial (And.intro trivial (And.intro trivial (And.intro (by exact ⟨at_len hA hlen, by omega, by omega⟩) (And.intro (by first | trivial | exact Nat.le_of_ble_eq_true rfl | exact ⟨rfl, Nat.le_of_ble_eq_true rfl⟩ | omega | ((repeat' apply And.intro) <;> first | trivial | rfl | exact Nat.le_of_ble_eq_true rfl | omega) | (simp; done) | (simp; omega)) (And.intro (by rw [Int.toNat_natCast, at_get hA]; exact ⟨at_len hA hlen, by omega, rfl, Nat.le_of_ble_eq_true rfl⟩) ?_)))))
    refine SW.seq ?_
    refine SW.wk (J := fun s => s = [(.t 0, .v (.e (.c (.own 0 (R.length))))), (.t 1, .v (I (k + 4 * i))), (.t 5, .v (I (i : Nat))), (.o 0, .row 36 5 (mrows k i ++ kRow (k + 4 * i) b c d :: B))]) ?_ ?_
    · skip
      refine wk [(.t 0, .v (.e (.c (.own 0 (R.length))))), (.t 1, .v (I (k + 4 * i))), (.t 5, .v (I (i : Nat))), (.o 0, .row 36 5 (mrows k i ++ kRow (k + 4 * i) b c d :: B))] [] [] (rfl) ?_ rfl rfl
      repeat' first | exact trivial | refine mL_nil rfl ?_ | refine mL_d rfl ?_ ?_ | refine mL_own rfl rfl ?_ rfl ?_ | refine mL_row rfl ?_ ?_ | refine mL_pt rfl rfl rfl rfl ?_ | refine mL_box rfl ?_ ?_ | refine mL_agg rfl ?_ ?_ | exact mCs_nil0 | refine mCs_d ?_ ?_ | refine mCs_nil ?_ | refine mCs_own rfl ?_ rfl ?_ | refine mCs_pt rfl rfl rfl ?_
      all_goals first | with_reducible rfl | (first | with_reducible rfl | (rw [Int.toNat_natCast, at_get hA, at_set hA]; rfl) | exact congrArg D.i (wrap64_of (by omega)) | (refine congrArg D.i ?_; rw [wrap64_of (by omega)]; omega) | omega)
    rintro s rfl
    refine SW.regT tabOk [0, 1, 5] ?_
    refine And.intro trivial (And.intro trivial (And.intro trivial ?_))
    refine SW.seq ?_
    refine SW.wk (J := fun s => s = [(.t 0, .v (.e (.c (.own 0 (R.length))))), (.t 1, .v (I (k + 4 * i + 1))), (.t 5, .v (I (i : Nat))), (.o 0, .row 36 5 (mrows k i ++ kRow (k + 4 * i) b c d :: B))]) ?_ ?_
    · skip
      refine wk [(.t 0, .v (.e (.c (.own 0 (R.length))))), (.t 1, .v (I (k + 4 * i + 1))), (.t 5, .v (I (i : Nat))), (.o 0, .row 36 5 (mrows k i ++ kRow (k + 4 * i) b c d :: B))] [] [] (rfl) ?_ rfl rfl
      repeat' first | exact trivial | refine mL_nil rfl ?_ | refine mL_d rfl ?_ ?_ | refine mL_own rfl rfl ?_ rfl ?_ | refine mL_row rfl ?_ ?_ | refine mL_pt rfl rfl rfl rfl ?_ | refine mL_box rfl ?_ ?_ | refine mL_agg rfl ?_ ?_ | exact mCs_nil0 | refine mCs_d ?_ ?_ | refine mCs_nil ?_ | refine mCs_own rfl ?_ rfl ?_ | refine mCs_pt rfl rfl rfl ?_
      all_goals first | with_reducible rfl | (first | with_reducible rfl | (rw [Int.toNat_natCast, at_get hA, at_set hA]; rfl) | exact congrArg D.i (wrap64_of (by omega)) | (refine congrArg D.i ?_; rw [wrap64_of (by omega)]; omega) | omega)
    rintro s rfl
    refine SW.regT tabOk [0, 1, 5] ?_
    refine And.intro trivial (And.intro trivial (And.intro trivial (And.intro (by decide) (And.intro trivial (And.intro (by exact ⟨at_len hA hlen, by omega, by omega⟩) (And.intro (by first | trivial | exact Nat.le_of_ble_eq_true rfl | exact ⟨rfl, Nat.le_of_ble_eq_true rfl⟩ | omega | ((repeat' apply And.intro) <;> first | trivial | rfl | exact Nat.le_of_ble_eq_true rfl | omega) | (simp; done) | (simp; omega)) (And.intro (by rw [Int.toNat_natCast, at_get hA]; exact ⟨at_len hA hlen, by omega, rfl, Nat.le_of_ble_eq_true rfl⟩) ?_)))))))
    refine SW.seq ?_
    refine SW.wk (J := fun s => s = [(.t 0, .v (.e (.c (.own 0 (R.length))))), (.t 1, .v (I (k + 4 * i + 1))), (.t 5, .v (I (i : Nat))), (.o 0, .row 36 5 (mrows k i ++ kRow (k + 4 * i) (Int.tmod (k + 4 * i + 1) 3 == 0) c d :: B))]) ?_ ?_
    · skip
      refine wk [(.t 0, .v (.e (.c (.own 0 (R.length))))), (.t 1, .v (I (k + 4 * i + 1))), (.t 5, .v (I (i : Nat))), (.o 0, .row 36 5 (mrows k i ++ kRow (k + 4 * i) (Int.tmod (k + 4 * i + 1) 3 == 0) c d :: B))] [] [] (rfl) ?_ rfl rfl
      repeat' first | exact trivial | refine mL_nil rfl ?_ | refine mL_d rfl ?_ ?_ | refine mL_own rfl rfl ?_ rfl ?_ | refine mL_row rfl ?_ ?_ | refine mL_pt rfl rfl rfl rfl ?_ | refine mL_box rfl ?_ ?_ | refine mL_agg rfl ?_ ?_ | exact mCs_nil0 | refine mCs_d ?_ ?_ | refine mCs_nil ?_ | refine mCs_own rfl ?_ rfl ?_ | refine mCs_pt rfl rfl rfl ?_
      all_goals first | with_reducible rfl | (first | with_reducible rfl | (rw [Int.toNat_natCast, at_get hA, at_set hA]; rfl) | exact congrArg D.i (wrap64_of (by omega)) | (refine congrArg D.i ?_; rw [wrap64_of (by omega)]; omega) | omega)
    rintro s rfl
    refine SW.regT tabOk [0, 1, 5] ?_
    refine And.intro trivial (And.intro trivial (And.intro trivial ?_))
    refine SW.seq ?_
    refine SW.wk (J := fun s => s = [(.t 0, .v (.e (.c (.own 0 (R.length))))), (.t 1, .v (I (k + 4 * i + 2))), (.t 5, .v (I (i : Nat))), (.o 0, .row 36 5 (mrows k i ++ kRow (k + 4 * i) (Int.tmod (k + 4 * i + 1) 3 == 0) c d :: B))]) ?_ ?_
    · skip
      refine wk [(.t 0, .v (.e (.c (.own 0 (R.length))))), (.t 1, .v (I (k + 4 * i + 2))), (.t 5, .v (I (i : Nat))), (.o 0, .row 36 5 (mrows k i ++ kRow (k + 4 * i) (Int.tmod (k + 4 * i + 1) 3 == 0) c d :: B))] [] [] (rfl) ?_ rfl rfl
      repeat' first | exact trivial | refine mL_nil rfl ?_ | refine mL_d rfl ?_ ?_ | refine mL_own rfl rfl ?_ rfl ?_ | refine mL_row rfl ?_ ?_ | refine mL_pt rfl rfl rfl rfl ?_ | refine mL_box rfl ?_ ?_ | refine mL_agg rfl ?_ ?_ | exact mCs_nil0 | refine mCs_d ?_ ?_ | refine mCs_nil ?_ | refine mCs_own rfl ?_ rfl ?_ | refine mCs_pt rfl rfl rfl ?_
      all_goals first | with_reducible rfl | (first | with_reducible rfl | (rw [Int.toNat_natCast, at_get hA, at_set hA]; rfl) | exact congrArg D.i (wrap64_of (by omega)) | (refine congrArg D.i ?_; rw [wrap64_of (by omega)]; omega) | omega)
    rintro s rfl
    refine SW.regT tabOk [0, 1, 5] ?_
    refine And.intro trivial (And.intro trivial (And.intro trivial ?_))
    refine ex_pure (s_laws_markText _ (by omega)) rfl rfl rfl rfl rfl rfl rfl rfl ?_
    refine And.intro (by exact ⟨at_len hA hlen, by omega, by omega⟩) (And.intro (by first | trivial | exact Nat.le_of_ble_eq_true rfl | exact ⟨rfl, Nat.le_of_ble_eq_true rfl⟩ | omega | ((repeat' apply And.intro) <;> first | trivial | rfl | exact Nat.le_of_ble_eq_true rfl | omega) | (simp; done) | (simp; omega)) (And.intro (by first | trivial | exact Nat.le_of_ble_eq_true rfl | exact ⟨rfl, Nat.le_of_ble_eq_true rfl⟩ | omega | ((repeat' apply And.intro) <;> first | trivial | rfl | exact Nat.le_of_ble_eq_true rfl | omega) | (simp; done) | (simp; omega)) (And.intro (by rw [Int.toNat_natCast, at_get hA]; exact ⟨at_len hA hlen, by omega, rfl, Nat.le_of_ble_eq_true rfl⟩) ?_)))
    refine SW.seq ?_
    refine SW.wk (J := fun s => s = [(.t 0, .v (.e (.c (.own 0 (R.length))))), (.t 1, .v (I (k + 4 * i + 2))), (.t 5, .v (I (i : Nat))), (.o 0, .row 36 5 (mrows k i ++ kRow (k + 4 * i) (Int.tmod (k + 4 * i + 1) 3 == 0) (mkText (k + 4 * i + 2)) d :: B))]) ?_ ?_
    · skip
      refine wk [(.t 0, .v (.e (.c (.own 0 (R.length))))), (.t 1, .v (I (k + 4 * i + 2))), (.t 5, .v (I (i : Nat))), (.o 0, .row 36 5 (mrows k i ++ kRow (k + 4 * i) (Int.tmod (k + 4 * i + 1) 3 == 0) (mkText (k + 4 * i + 2)) d :: B))] [] [] (rfl) ?_ rfl rfl
      repeat' first | exact trivial | refine mL_nil rfl ?_ | refine mL_d rfl ?_ ?_ | refine mL_own rfl rfl ?_ rfl ?_ | refine mL_row rfl ?_ ?_ | refine mL_pt rfl rfl rfl rfl ?_ | refine mL_box rfl ?_ ?_ | refine mL_agg rfl ?_ ?_ | exact mCs_nil0 | refine mCs_d ?_ ?_ | refine mCs_nil ?_ | refine mCs_own rfl ?_ rfl ?_ | refine mCs_pt rfl rfl rfl ?_
      all_goals first | with_reducible rfl | (first | with_reducible rfl | (rw [Int.toNat_natCast, at_get hA, at_set hA]; rfl) | exact congrArg D.i (wrap64_of (by omega)) | (refine congrArg D.i ?_; rw [wrap64_of (by omega)]; omega) | omega)
    rintro s rfl
    refine SW.regT tabOk [0, 1, 5] ?_
    refine And.intro trivial (And.intro trivial (And.intro trivial ?_))
    refine SW.seq ?_
    refine SW.wk (J := fun s => s = [(.t 0, .v (.e (.c (.own 0 (R.length))))), (.t 1, .v (I (k + 4 * i + 3))), (.t 5, .v (I (i : Nat))), (.o 0, .row 36 5 (mrows k i ++ kRow (k + 4 * i) (Int.tmod (k + 4 * i + 1) 3 == 0) (mkText (k + 4 * i + 2)) d :: B))]) ?_ ?_
    · skip
      refine wk [(.t 0, .v (.e (.c (.own 0 (R.length))))), (.t 1, .v (I (k + 4 * i + 3))), (.t 5, .v (I (i : Nat))), (.o 0, .row 36 5 (mrows k i ++ kRow (k + 4 * i) (Int.tmod (k + 4 * i + 1) 3 == 0) (mkText (k + 4 * i + 2)) d :: B))] [] [] (rfl) ?_ rfl rfl
      repeat' first | exact trivial | refine mL_nil rfl ?_ | refine mL_d rfl ?_ ?_ | refine mL_own rfl rfl ?_ rfl ?_ | refine mL_row rfl ?_ ?_ | refine mL_pt rfl rfl rfl rfl ?_ | refine mL_box rfl ?_ ?_ | refine mL_agg rfl ?_ ?_ | exact mCs_nil0 | refine mCs_d ?_ ?_ | refine mCs_nil ?_ | refine mCs_own rfl ?_ rfl ?_ | refine mCs_pt rfl rfl rfl ?_
      all_goals first | with_reducible rfl | (first | with_reducible rfl | (rw [Int.toNat_natCast, at_get hA, at_set hA]; rfl) | exact congrArg D.i (wrap64_of (by omega)) | (refine congrArg D.i ?_; rw [wrap64_of (by omega)]; omega) | omega)
    rintro s rfl
    refine SW.regT tabOk [0, 1, 5] ?_
    refine And.intro trivial (And.intro trivial (And.intro trivial (And.intro (by exact ⟨at_len hA hlen, by omega, by omega⟩) (And.intro (by first | trivial | exact Nat.le_of_ble_eq_true rfl | exact ⟨rfl, Nat.le_of_ble_eq_true rfl⟩ | omega | ((repeat' apply And.intro) <;> first | trivial | rfl | exact Nat.le_of_ble_eq_true rfl | omega) | (simp; done) | (simp; omega)) (And.intro (by first | trivial | exact Nat.le_of_ble_eq_true rfl | exact ⟨rfl, Nat.le_of_ble_eq_true rfl⟩ | omega | ((repeat' apply And.intro) <;> first | trivial | rfl | exact Nat.le_of_ble_eq_true rfl | omega) | (simp; done) | (simp; omega)) (And.intro (by rw [Int.toNat_natCast, at_get hA]; exact ⟨at_len hA hlen, by omega, rfl, Nat.le_of_ble_eq_true rfl⟩) ?_))))))
    refine SW.seq ?_
    refine SW.wk (J := fun s => s = [(.t 0, .v (.e (.c (.own 0 (R.length))))), (.t 1, .v (I (k + 4 * i + 3))), (.t 5, .v (I (i : Nat))), (.o 0, .row 36 5 (mrows k i ++ mrow k i :: B))]) ?_ ?_
    · skip
      refine wk [(.t 0, .v (.e (.c (.own 0 (R.length))))), (.t 1, .v (I (k + 4 * i + 3))), (.t 5, .v (I (i : Nat))), (.o 0, .row 36 5 (mrows k i ++ mrow k i :: B))] [] [] (rfl) ?_ rfl rfl
      repeat' first | exact trivial | refine mL_nil rfl ?_ | refine mL_d rfl ?_ ?_ | refine mL_own rfl rfl ?_ rfl ?_ | refine mL_row rfl ?_ ?_ | refine mL_pt rfl rfl rfl rfl ?_ | refine mL_box rfl ?_ ?_ | refine mL_agg rfl ?_ ?_ | exact mCs_nil0 | refine mCs_d ?_ ?_ | refine mCs_nil ?_ | refine mCs_own rfl ?_ rfl ?_ | refine mCs_pt rfl rfl rfl ?_
      all_goals first | with_reducible rfl | (first | with_reducible rfl | (rw [Int.toNat_natCast, at_get hA, at_set hA]; rfl) | exact congrArg D.i (wrap64_of (by omega)) | (refine congrArg D.i ?_; rw [wrap64_of (by omega)]; omega) | omega)
    rintro s rfl
    refine SW.regT tabOk [0, 1, 5] ?_
    refine And.intro trivial (And.intro trivial (And.intro trivial ?_))
    refine SW.wk (J := fun s => s = [(.t 0, .v (.e (.c (.own 0 (R.length))))), (.t 1, .v (I (k + 4 * i + 4))), (.t 5, .v (I (i : Nat))), (.o 0, .row 36 5 (mrows k i ++ mrow k i :: B))]) ?_ ?_
    · skip
      refine wk [(.t 0, .v (.e (.c (.own 0 (R.length))))), (.t 1, .v (I (k + 4 * i + 4))), (.t 5, .v (I (i : Nat))), (.o 0, .row 36 5 (mrows k i ++ mrow k i :: B))] [] [] (rfl) ?_ rfl rfl
      repeat' first | exact trivial | refine mL_nil rfl ?_ | refine mL_d rfl ?_ ?_ | refine mL_own rfl rfl ?_ rfl ?_ | refine mL_row rfl ?_ ?_ | refine mL_pt rfl rfl rfl rfl ?_ | refine mL_box rfl ?_ ?_ | refine mL_agg rfl ?_ ?_ | exact mCs_nil0 | refine mCs_d ?_ ?_ | refine mCs_nil ?_ | refine mCs_own rfl ?_ rfl ?_ | refine mCs_pt rfl rfl rfl ?_
      all_goals first | with_reducible rfl | (first | with_reducible rfl | (rw [Int.toNat_natCast, at_get hA, at_set hA]; rfl) | exact congrArg D.i (wrap64_of (by omega)) | (refine congrArg D.i ?_; rw [wrap64_of (by omega)]; omega) | omega)
    rintro s rfl
    refine SW.regT tabOk [0, 1, 5] ?_
    refine And.intro trivial (And.intro trivial (And.intro (by exact ⟨at_len hA hlen, by omega, by omega⟩) (And.intro (by first | trivial | exact Nat.le_of_ble_eq_true rfl | exact ⟨rfl, Nat.le_of_ble_eq_true rfl⟩ | omega | ((repeat' apply And.intro) <;> first | trivial | rfl | exact Nat.le_of_ble_eq_true rfl | omega) | (simp; done) | (simp; omega)) (And.intro (by rw [Int.toNat_natCast, at_get hA]; exact ⟨⟨at_len hA hlen, by omega⟩, Nat.le_of_ble_eq_true rfl, rfl⟩) (And.intro trivial ?_)))))
    refine ex_pure (s_markHalfS_0 (k + 4 * i + 4)) rfl rfl rfl rfl rfl (by rw [Int.toNat_natCast, at_get hA]; rfl) rfl rfl ?_
    refine And.intro trivial ?_
    refine SW.regT tabOk [0, 1, 5] ?_
    refine And.intro trivial (And.intro trivial (And.intro trivial ?_))
    have hB3 := hB2
    refine wk [(.t 0, .v (.e (.c (.own 0 (R.length))))), (.t 1, .v (I (k + 4 * ((i + 1) : Nat)))), (.t 5, .v (I ((i + 1) : Nat))), (.o 0, .row 36 5 (mrows k (i + 1) ++ R.drop (i + 1)))] [] [] (⟨R.length - (i + 1), by omega, i + 1, rfl, by omega, rfl⟩) ?_ rfl rfl
    repeat' first | exact trivial | refine mL_nil rfl ?_ | refine mL_d rfl ?_ ?_ | refine mL_own rfl rfl ?_ rfl ?_ | refine mL_row rfl ?_ ?_ | refine mL_pt rfl rfl rfl rfl ?_ | refine mL_box rfl ?_ ?_ | refine mL_agg rfl ?_ ?_ | exact mCs_nil0 | refine mCs_d ?_ ?_ | refine mCs_nil ?_ | refine mCs_own rfl ?_ rfl ?_ | refine mCs_pt rfl rfl rfl ?_
    all_goals first | with_reducible rfl | (first | with_reducible rfl | exact congrArg D.i (wrap64_of (by omega)) | (refine congrArg D.i ?_; omega) | (rw [mrows_succ, hB2, List.append_assoc]; rfl))
  · skip
    refine SW.exit ?_
    refine SW.seq ?_
    refine SW.regT tabOk [4] ?_
    refine And.intro trivial (And.intro trivial ?_)
    refine SW.ret ?_
    have e : i = R.length := by simp at c9; omega
    subst e
    refine retOk _ [] [] rfl ?_ rfl rfl
    repeat' first | exact trivial | refine mL_nil rfl ?_ | refine mL_d rfl ?_ ?_ | refine mL_own rfl rfl ?_ rfl ?_ | refine mL_row rfl ?_ ?_ | refine mL_pt rfl rfl rfl rfl ?_ | refine mL_box rfl ?_ ?_ | refine mL_agg rfl ?_ ?_ | exact mCs_nil0 | refine mCs_d ?_ ?_ | refine mCs_nil ?_ | refine mCs_own rfl ?_ rfl ?_ | refine mCs_pt rfl rfl rfl ?_
    all_goals first | with_reducible rfl | (simp; done)

end Go.Proofs.Ytlkfibmjdigmiab
