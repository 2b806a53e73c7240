import Derived.Test.YtlkfibmjdigmiaaTab
import Derived.Test.YtlkfibmjdigmiaaWkDraw
import Derived.Test.YtlkfibmjdigmiaaAbDk
import Derived.Test.YtlkfibmjdigmiaaAbBr
namespace Go.Proofs.Ytlkfibmjdigmiaa
open Go Go.Ab Go.RowKit
set_option linter.unusedVariables false
set_option linter.unusedSimpArgs false

theorem s_spec_RandNext (n : Int) : Ab.Spec Try.prog 42 1 [(.t 0, .v (I n))] [(.t 0, .v (I (randNext n)))] := by
  refine spec_of_body tabOk Try.func42 rfl (by kernel_rfl) (by decide) (by kernel_rfl) rfl ?_
  refine SW.seq ?_
  refine SW.regT tabOk [0] ?_
  refine And.intro trivial ?_
  refine SW.seq ?_
  refine SW.seq ?_
  refine SW.regT tabOk [0, 5] ?_
  refine And.intro trivial ?_
  refine ex_pure (s_spec_l6In _ _ _) rfl rfl rfl rfl rfl rfl rfl rfl ?_
  refine And.intro trivial ?_
  refine SW.cond rfl (fun c5 => ?_) (fun c5 => ?_)
  · skip
    refine SW.seq ?_
    refine SW.regT tabOk [2] ?_
    refine And.intro trivial ?_
    refine SW.ret ?_
    refine retOk1 rfl (congrArg D.i ?_)
    simp at c5
    simp [randNext, c5]
  · skip
    refine SW.skip ?_
    refine SW.seq ?_
    refine SW.regT tabOk [2] ?_
    refine And.intro trivial (And.intro trivial (And.intro trivial (And.intro (by first | trivial | exact Nat.le_of_ble_eq_true rfl | exact ⟨rfl, Nat.le_of_ble_eq_true rfl⟩ | omega | ((repeat' apply And.intro) <;> first | trivial | rfl | exact Nat.le_of_ble_eq_true rfl | omega) | (simp; done) | (simp; omega)) (And.intro trivial ?_))))
    refine SW.ret ?_
    refine retOk1 rfl (congrArg D.i ?_)
    simp at c5
    simp [randNext, c5]

theorem s_spec_l1Ok (b n : Int) : Ab.Spec Try.prog 41 2 [(.t 0, .v (I b)), (.t 1, .v (I n))] [(.t 0, .v (B (l1Ok b n)))] := by
  refine spec_of_body tabOk Try.func41 rfl (by kernel_rfl) (by decide) (by kernel_rfl) rfl ?_
  refine SW.seq ?_
  refine SW.regT tabOk [0, 1, 8, 9] ?_
  refine And.intro trivial ?_
  refine SW.seq ?_
  refine SW.regT tabOk [4] ?_
  refine And.intro trivial ?_
  refine ex_pure (s_spec_l6In _ _ _) rfl rfl rfl rfl rfl rfl rfl rfl ?_
  refine And.intro trivial (And.intro (fun h => trivial) (And.intro (by intro h; (repeat' apply And.intro) <;> first | exact h | trivial) ?_))
  refine exc_pure (fun h => (s_spec_l6In _ _ _)) rfl rfl rfl rfl rfl rfl rfl rfl (by intro h; (repeat' apply And.intro) <;> first | exact h | trivial) ?_
  refine And.intro (by constructor <;> intro h <;> first | trivial | exact h | (simpa [gb, condOf] using h)) (And.intro trivial ?_)
  refine SW.ret ?_
  refine retOk1 rfl ?_
  rfl

theorem s_spec_l1Weight (b d : Int) (hb : 1 ≤ b ∧ b ≤ 6) (hd : 1 ≤ d ∧ d ≤ 6) : Ab.Spec Try.prog 44 2 [(.t 0, .v (I b)), (.t 1, .v (I d))] [(.t 0, .v (I (l1Weight b d)))] := by
  refine spec_of_body tabOk Try.func44 rfl (by kernel_rfl) (by decide) (by kernel_rfl) rfl ?_
  refine SW.seq ?_
  refine SW.regT tabOk [0, 1] ?_
  refine And.intro trivial ?_
  refine SW.seq ?_
  refine SW.seq ?_
  refine SW.regT tabOk [0, 1, 6] ?_
  refine And.intro trivial (And.intro trivial ?_)
  refine SW.cond rfl (fun c6 => ?_) (fun c6 => ?_)
  · skip
    have h1 : d = 1 := by simpa using c6
    refine SW.seq ?_
    refine SW.regT tabOk [4] ?_
    refine And.intro trivial (And.intro (by omega) (And.intro trivial (And.intro trivial ?_)))
    refine SW.ret ?_
    refine retOk1 rfl (congrArg D.i ?_)
    exact (if_pos h1).symm
  · skip
    have h1 : ¬ d = 1 := by simpa using c6
    have h2 : wrap64 (d * wrap64 (d - 1)) ≠ 0 := by
      rw [wrap64_of (n := d - 1) (by omega)]
      have : d = 2 ∨ d = 3 ∨ d = 4 ∨ d = 5 ∨ d = 6 := by omega
      rcases this with rfl | rfl | rfl | rfl | rfl <;> decide
    refine SW.skip ?_
    refine SW.seq ?_
    refine SW.regT tabOk [4] ?_
    refine And.intro trivial (And.intro trivial (And.intro trivial (And.intro trivial (And.intro (h2) (And.intro trivial ?_)))))
    refine SW.ret ?_
    refine retOk1 rfl (congrArg D.i ?_)
    exact (if_neg h1).symm

theorem s_spec_l2Blocks (n : Int) (hn : 0 ≤ n ∧ n ≤ 140737488355328) : Ab.Spec Try.prog 40 1 [(.t 0, .v (I n))] [(.t 0, .v (I ((n + 3) / 4)))] := by
  refine spec_of_body tabOk Try.func40 rfl (by kernel_rfl) (by decide) (by kernel_rfl) rfl ?_
  refine SW.seq ?_
  refine SW.regT tabOk [0] ?_
  refine And.intro trivial ?_
  refine SW.seq ?_
  refine SW.regT tabOk [2] ?_
  refine And.intro trivial (And.intro trivial (And.intro trivial (And.intro (by decide) (And.intro trivial ?_))))
  refine SW.ret ?_
  refine retOk1 rfl (congrArg D.i ?_)
  rw [wrap64_of (n := n + 4) (by omega), wrap64_of (n := n + 4 - 1) (by omega), Int.tdiv_eq_ediv_of_nonneg (by omega), wrap64_of (by omega)]
  congr 1; omega

theorem s_spec_l2None  : Ab.Spec Try.prog 37 0 [] [(.t 0, .v (Dv (.s [0, 0, 0, 0])))] := by
  refine spec_of_body tabOk Try.func37 rfl (by kernel_rfl) (by decide) (by kernel_rfl) rfl ?_
  refine SW.seq ?_
  refine SW.regT tabOk [] ?_
  refine And.intro trivial ?_
  refine SW.seq ?_
  refine SW.regT tabOk [0] ?_
  refine And.intro (by exact ⟨rfl, by decide, by decide⟩) (And.intro (by exact ⟨rfl, rfl⟩) (And.intro trivial ?_))
  refine SW.ret ?_
  refine retOk1 rfl (congrArg D.s ?_)
  rfl

theorem s_spec_MixDegree (b n : Int) (hb : 1 ≤ b ∧ b ≤ 6) (hn : 0 ≤ n ∧ n ≤ 999) : Ab.SpecE Try.prog 43 2 [(.t 0, .v (I b)), (.t 1, .v (I n))] (fun s => ∃ v : Int, (1 ≤ v ∧ v ≤ b) ∧ s = [(.t 0, .v (I v))]) := by
  refine specE_of_body tabOk Try.func43 rfl (by kernel_rfl) (by decide) (by kernel_rfl) rfl ?_
  refine SW.seq ?_
  refine SW.regT tabOk [0, 1] ?_
  refine And.intro trivial ?_
  refine SW.seq ?_
  refine SW.seq ?_
  refine SW.regT tabOk [0, 1, 12] ?_
  refine And.intro trivial (And.intro trivial ?_)
  refine ex_pure (s_spec_l1Ok _ _) rfl rfl rfl rfl rfl rfl rfl rfl ?_
  refine And.intro trivial ?_
  refine SW.cond rfl (fun c12 => ?_) (fun c12 => ?_)
  · skip
    simp [l1Ok, inB] at c12
    omega
  · skip
    refine SW.skip ?_
    refine SW.seq ?_
    refine SW.seq ?_
    refine SW.regT tabOk [0, 1, 15] ?_
    refine And.intro trivial (And.intro trivial (And.intro trivial ?_))
    refine SW.cond rfl (fun c15 => ?_) (fun c15 => ?_)
    · skip
      refine SW.seq ?_
      refine SW.regT tabOk [4] ?_
      refine And.intro trivial ?_
      refine SW.ret ?_
      exact retQE _ ⟨1, by omega, rfl⟩ (retOk1 rfl rfl)
    · skip
      refine SW.skip ?_
      refine SW.seq ?_
      refine SW.regT tabOk [0, 1, 5] ?_
      refine And.intro trivial ?_
      refine SW.seq ?_
      refine SW.seq ?_
      refine SW.regT tabOk [0, 1, 5, 6] ?_
      refine And.intro trivial ?_
      refine SW.block ?_
      -- live at the head: [0, 1, 5, 6]
      refine SW.loopW (n := 6) (fun m s => ∃ d q : Int, m = (7 - d).toNat ∧ ((1 ≤ d ∧ d ≤ b + 1) ∧ (0 ≤ q ∧ q ≤ 70 * (d - 1)) ∧ (1 < d → 10 ≤ q)) ∧ s = [(.t 0, .v (I b)), (.t 1, .v (I n)), (.t 5, .v (I (q))), (.t 6, .v (I (d)))]) ?_ ?_
      · skip
        refine wk [(.t 0, .v (I b)), (.t 1, .v (I n)), (.t 5, .v (I (0))), (.t 6, .v (I (1)))] [] [] (⟨1, 0, by omega, ⟨by omega, by omega, fun h => by omega⟩, rfl⟩) ?_ rfl rfl
        repeat' first | exact trivial | refine mL_nil rfl ?_ | refine mL_d rfl ?_ ?_ | refine mL_own rfl rfl ?_ rfl ?_ | refine mL_row rfl ?_ ?_ | refine mL_pt rfl rfl rfl rfl ?_ | refine mL_box rfl ?_ ?_ | refine mL_agg rfl ?_ ?_ | exact mCs_nil0 | refine mCs_d ?_ ?_ | refine mCs_nil ?_ | refine mCs_own rfl ?_ rfl ?_ | refine mCs_pt rfl rfl rfl ?_
        all_goals first | with_reducible rfl | (first | rfl | (simp; done) | omega)
      rintro n s ⟨d, q, rfl, hd, rfl⟩
      refine SW.seq ?_
      refine SW.seq ?_
      refine SW.regT tabOk [0, 1, 5, 6, 18] ?_
      refine And.intro trivial (And.intro trivial (And.intro trivial ?_))
      refine SW.cond rfl (fun c18 => ?_) (fun c18 => ?_)
      · skip
        have hd2 : d ≤ b := by simpa using c18
        have hw := l1Weight_range (b := b) (d := d) hb (by omega)
        refine SW.skip ?_
        refine SW.seq ?_
        refine SW.block ?_
        refine SW.regT tabOk [0, 1, 5, 6] ?_
        refine And.intro trivial (And.intro trivial (And.intro trivial ?_))
        refine ex_pure (s_spec_l1Weight b d (by omega) (by omega)) rfl rfl rfl rfl rfl rfl rfl rfl ?_
        refine And.intro trivial (And.intro trivial ?_)
        refine SW.regT tabOk [0, 1, 5, 6] ?_
        refine And.intro trivial (And.intro trivial (And.intro trivial ?_))
        refine wk [(.t 0, .v (I b)), (.t 1, .v (I n)), (.t 5, .v (I (q + l1Weight b d))), (.t 6, .v (I (d + 1)))] [] [] (⟨(7 - (d + 1)).toNat, by omega, d + 1, q + l1Weight b d, rfl, ⟨by omega, by omega, fun _ => by by_cases h1 : d = 1 <;> omega⟩, rfl⟩) ?_ rfl rfl
        repeat' first | exact trivial | refine mL_nil rfl ?_ | refine mL_d rfl ?_ ?_ | refine mL_own rfl rfl ?_ rfl ?_ | refine mL_row rfl ?_ ?_ | refine mL_pt rfl rfl rfl rfl ?_ | refine mL_box rfl ?_ ?_ | refine mL_agg rfl ?_ ?_ | exact mCs_nil0 | refine mCs_d ?_ ?_ | refine mCs_nil ?_ | refine mCs_own rfl ?_ rfl ?_ | refine mCs_pt rfl rfl rfl ?_
        all_goals first | with_reducible rfl | (first | with_reducible rfl | exact congrArg D.i (wrap64_of (by omega)) | omega | (simp; done))
      · skip
        have hd2 : ¬ d ≤ b := by simpa using c18
        refine SW.exit ?_
        refine SW.seq ?_
        refine SW.regT tabOk [0, 7] ?_
        refine And.intro trivial (And.intro trivial (And.intro trivial (And.intro trivial ?_)))
        refine ex_pure (s_spec_RandNext _) rfl rfl rfl rfl rfl rfl rfl rfl ?_
        refine ex_pure (s_spec_RandNext _) rfl rfl rfl rfl rfl rfl rfl rfl ?_
        refine And.intro (by decide) (And.intro trivial (And.intro (by have := hd.2.2 (by omega); omega) (And.intro trivial ?_)))
        refine SW.seq ?_
        refine SW.seq ?_
        refine SW.regT tabOk [0, 7, 8] ?_
        refine And.intro trivial ?_
        refine SW.block ?_
        -- live at the head: [0, 7, 8]
        have hq0 : q ≠ 0 := by have := hd.2.2 (by omega); omega
        have hq1 := hd.2.2 (by omega)
        have hr := randNext_range (randNext (wrap64 (wrap64 (n * 31) + b)))
        have hx := tmod_range (x := wrap64 (Int.tdiv (randNext (randNext (wrap64 (wrap64 (n * 31) + b)))) 16)) (n := q) (by rw [wrap64_of (by have := tdiv_range hr.1 (n := 16) (by omega); omega)]; exact (tdiv_range hr.1 (by omega)).1) (by omega)
        refine SW.loopW (n := 6) (fun m s => ∃ d x : Int, m = (7 - d).toNat ∧ ((1 ≤ d ∧ d ≤ b) ∧ 0 ≤ x ∧ x ≤ 1000) ∧ s = [(.t 0, .v (I b)), (.t 7, .v (I (x))), (.t 8, .v (I (d)))]) ?_ ?_
        · skip
          refine wk [(.t 0, .v (I b)), (.t 7, .v (I (_))), (.t 8, .v (I (1)))] [] [] (⟨1, _, by omega, ⟨by omega, hx.1, by omega⟩, rfl⟩) ?_ rfl rfl
          repeat' first | exact trivial | refine mL_nil rfl ?_ | refine mL_d rfl ?_ ?_ | refine mL_own rfl rfl ?_ rfl ?_ | refine mL_row rfl ?_ ?_ | refine mL_pt rfl rfl rfl rfl ?_ | refine mL_box rfl ?_ ?_ | refine mL_agg rfl ?_ ?_ | exact mCs_nil0 | refine mCs_d ?_ ?_ | refine mCs_nil ?_ | refine mCs_own rfl ?_ rfl ?_ | refine mCs_pt rfl rfl rfl ?_
          all_goals first | with_reducible rfl | (first | rfl | (simp; done) | omega)
        rintro n s ⟨d, x, rfl, hd, rfl⟩
        refine SW.seq ?_
        refine SW.seq ?_
        refine SW.regT tabOk [0, 7, 8, 37] ?_
        refine And.intro trivial (And.intro trivial (And.intro trivial ?_))
        refine SW.cond rfl (fun c37 => ?_) (fun c37 => ?_)
        · skip
          have hd2 : d < b := by simpa using c37
          have hw := l1Weight_range (b := b) (d := d) hb (by omega)
          refine SW.skip ?_
          refine SW.seq ?_
          refine SW.block ?_
          refine SW.seq ?_
          refine SW.regT tabOk [0, 7, 8] ?_
          refine And.intro trivial (And.intro trivial (And.intro trivial ?_))
          refine ex_pure (s_spec_l1Weight b d (by omega) (by omega)) rfl rfl rfl rfl rfl rfl rfl rfl ?_
          refine And.intro trivial (And.intro trivial ?_)
          refine SW.seq ?_
          refine SW.regT tabOk [0, 7, 8, 46] ?_
          refine And.intro trivial (And.intro trivial ?_)
          refine SW.cond rfl (fun c46 => ?_) (fun c46 => ?_)
          · skip
            refine SW.seq ?_
            refine SW.regT tabOk [4] ?_
            refine And.intro trivial (And.intro trivial ?_)
            refine SW.ret ?_
            exact retQE _ ⟨d, by omega, rfl⟩ (retOk1 rfl rfl)
          · skip
            refine SW.skip ?_
            refine SW.regT tabOk [0, 7, 8] ?_
            refine And.intro trivial (And.intro trivial (And.intro trivial ?_))
            have hx1 : ¬ wrap64 (x - l1Weight b d) < 0 := by simpa using c46
            rw [wrap64_of (by omega)] at hx1
            refine wk [(.t 0, .v (I b)), (.t 7, .v (I (x - l1Weight b d))), (.t 8, .v (I (d + 1)))] [] [] (⟨(7 - (d + 1)).toNat, by omega, d + 1, x - l1Weight b d, rfl, by omega, rfl⟩) ?_ rfl rfl
            repeat' first | exact trivial | refine mL_nil rfl ?_ | refine mL_d rfl ?_ ?_ | refine mL_own rfl rfl ?_ rfl ?_ | refine mL_row rfl ?_ ?_ | refine mL_pt rfl rfl rfl rfl ?_ | refine mL_box rfl ?_ ?_ | refine mL_agg rfl ?_ ?_ | exact mCs_nil0 | refine mCs_d ?_ ?_ | refine mCs_nil ?_ | refine mCs_own rfl ?_ rfl ?_ | refine mCs_pt rfl rfl rfl ?_
            all_goals first | with_reducible rfl | (first | with_reducible rfl | exact congrArg D.i (wrap64_of (by omega)) | omega | (simp; done))
        · skip
          refine SW.exit ?_
          refine SW.seq ?_
          refine SW.regT tabOk [4] ?_
          refine And.intro trivial (And.intro trivial ?_)
          refine SW.ret ?_
          exact retQE _ ⟨b, by omega, rfl⟩ (retOk1 rfl rfl)

end Go.Proofs.Ytlkfibmjdigmiaa
