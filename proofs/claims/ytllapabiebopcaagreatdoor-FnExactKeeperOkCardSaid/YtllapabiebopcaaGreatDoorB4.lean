/- Plain functions, and contracts of the functions that the law reaches. -/
import Derived.Shelf.Vars
import Derived.Stop.LaidErr
import Derived.MakeChecks
import Derived.Test.YtllapabiebopcaaGreatDoorB3
namespace Go.Proofs.YtllapabiebopcaaGreatDoor
open Go Go.Ab Go.RowKit
set_option linter.unusedVariables false
set_option linter.unusedSimpArgs false

set_option maxHeartbeats 1600000 in
theorem s_spec_l22HalfOk (h : HalfR) : Ab.Spec Tryz.prog 33 1 [(.t 0, .v (h.V))] [(.t 0, .v (B (halfOk h)))] := by
  refine spec_of_body tabOk Tryz.func33 rfl (by kernel_rfl) (by decide) (by kernel_rfl) rfl ?_
  refine SW.seq ?_
  refine SW.regT tabOk [1, 10, 11, 12, 13, 16, 17, 18, 19, 22, 23, 24, 25, 28, 29, 30, 31, 34, 35, 36, 37] ?_
  refine ai trivial (ai trivial ?_)
  refine SW.seq ?_
  refine SW.seq ?_
  refine SW.regT tabOk [1, 38] ?_
  refine ai (by first | trivial | rfl) (ai vc ?_)
  refine ex_pure (s_spec_l3Keeper _) rfl rfl rfl rfl rfl rfl rfl rfl ?_
  refine ai trivial (ai trivial (ai (fun h => (by first | trivial | rfl)) (ai rk (ai (fun h => vc) (ai rk ?_)))))
  refine exc_pure (fun h => (s_spec_l3Keeper _)) rfl rfl rfl rfl rfl rfl rfl rfl rk ?_
  refine ai (fun h => trivial) (ai rk (ai pk (ai trivial (ai (fun h => (by first | trivial | rfl)) (ai rk (ai (fun h => vc) (ai rk ?_)))))))
  refine exc_pure (fun h => (s_spec_l6In _ _ _)) rfl rfl rfl rfl rfl rfl rfl rfl rk ?_
  refine ai (fun h => trivial) (ai rk (ai pk (ai trivial (ai (fun h => (by first | trivial | rfl)) (ai rk (ai (fun h => vc) (ai rk ?_)))))))
  refine exc_pure (fun h => (s_spec_l6In _ _ _)) rfl rfl rfl rfl rfl rfl rfl rfl rk ?_
  refine ai (fun h => trivial) (ai rk (ai pk (ai trivial (ai (fun h => (by first | trivial | rfl)) (ai rk (ai (fun h => vc) (ai rk ?_)))))))
  refine exc_pure (fun h => (s_spec_l6In _ _ _)) rfl rfl rfl rfl rfl rfl rfl rfl rk ?_
  refine ai (fun h => trivial) (ai rk (ai pk (ai trivial (ai (fun h => (by first | trivial | rfl)) (ai rk (ai (fun h => vc) (ai rk (ai (fun h => vc) (ai rk (ai (fun h => trivial) (ai rk (ai pk ?_))))))))))))
  refine SW.cond rfl (fun c38 => ?_) (fun c38 => ?_)
  · skip
    have hh := half_gen c38
    refine SW.seq ?_
    refine SW.regT tabOk [2] ?_
    refine ai trivial ?_
    refine SW.ret ?_
    refine retOk1 rfl (congrArg D.b ?_)
    rw [halfOk, hh]; rfl
  · skip
    have hh := half_gen c38
    obtain ⟨p1, p2, p3, p4, p5, p6⟩ := halfHead_parts hh
    have hb1 : inB ((h.size + 3) / 4) 1 6 = true := by simp only [inB, Bool.and_eq_true, decide_eq_true_eq]; omega
    refine SW.skip ?_
    refine SW.seq ?_
    refine SW.seq ?_
    refine SW.regT tabOk [1, 3] ?_
    refine ai trivial ?_
    refine SW.block ?_
    -- live at the head: [1, 3]
    refine SW.loopW (n := h.got.length) (fun m q => ∃ i : Nat, m = h.got.length - i ∧ i ≤ h.got.length ∧ (∀ k, k < i → gotStep h.got k = true) ∧ q = [(.t 1, .v (.e (.c (.pt 1 0)))), (.t 3, .v (I (i : Nat))), (.o 1, .box 62 [.d (.i (h).frm), .d (.i (h).num), .d (.i (h).to), .d (.i (h).til), .d (.i (h).size), .d (.sl (mixRows (h).got))])]) ?_ ?_
    · skip
      refine wk [(.t 1, .v (.e (.c (.pt 1 0)))), (.t 3, .v (I (0 : Nat))), (.o 1, .box 62 [.d (.i (h).frm), .d (.i (h).num), .d (.i (h).to), .d (.i (h).til), .d (.i (h).size), .d (.sl (mixRows (h).got))])] [] [] (⟨0, rfl, Nat.zero_le _, fun k h => absurd h (by omega), rfl⟩) ?_ rfl rfl
      repeat' first | exact trivial | refine mL_nil rfl ?_ | refine mL_d rfl ?_ ?_ | refine mL_own rfl rfl ?_ rfl ?_ | refine mL_row rfl ?_ ?_ | refine mL_pt rfl rfl rfl rfl ?_ | refine mL_box rfl ?_ ?_ | refine mL_agg rfl ?_ ?_ | exact mCs_nil0 | refine mCs_d ?_ ?_ | refine mCs_nil ?_ | refine mCs_own rfl ?_ rfl ?_ | refine mCs_pt rfl rfl rfl ?_
      all_goals first | with_reducible rfl | (first | rfl | (simp; done) | omega)
    rintro n s ⟨i, rfl, hi, hk, rfl⟩
    refine SW.seq ?_
    refine SW.seq ?_
    refine SW.regT tabOk [1, 3, 43] ?_
    refine ai trivial (ai (by first | trivial | rfl) (ai vc (ai vc (ai trivial ?_))))
    refine SW.cond rfl (fun c43 => ?_) (fun c43 => ?_)
    · skip
      have hi2 : i < h.got.length := by simpa [mixRows_length] using c43
      have hg := mixRows_getD (l := h.got) hi2
      refine SW.skip ?_
      refine SW.seq ?_
      refine SW.block ?_
      refine SW.seq ?_
      refine SW.seq ?_
      refine SW.regD tabOk mo [1, 3, 55] ?_
      refine ai (by first | trivial | rfl) (ai vc ?_)
      refine ex_pure (s_spec_l2Blocks h.size (by omega)) rfl rfl rfl rfl rfl rfl rfl rfl ?_
      refine ai (by first | trivial | rfl) (ai vc (ai trivial (ai (by rw [Int.toNat_natCast, hg]; exact ⟨⟨by omega, by rw [mixRows_length]; omega⟩, rfl⟩) (ai (by rw [Int.toNat_natCast, hg]; exact ⟨Nat.le_of_ble_eq_true rfl, rfl⟩) ?_))))
      refine ex_pure (s_spec_l2Mixed ((h.size + 3) / 4) (h.got.getD i .zero)) rfl rfl rfl rfl rfl (by rw [Int.toNat_natCast, hg]; rfl) rfl rfl ?_
      refine ai trivial (ai (by kernel_rfl) ?_)
      refine SW.cond rfl (fun c55 => ?_) (fun c55 => ?_)
      · skip
        have hm : mixOk (h.got.getD i .zero) = false := by
          have h9 := c55
          rw [l1Ok, hb1, Bool.true_and] at h9
          simpa only [mixOk, Bool.not_eq_true'] using h9
        have hs := gotStep_bad hm
        refine SW.seq ?_
        refine SW.regT tabOk [2] ?_
        refine ai trivial ?_
        refine SW.ret ?_
        refine retOk1 rfl (congrArg D.b ?_)
        rw [halfOk, hh, Bool.not_false, Bool.true_and, all_false hi2 hs]
      · skip
        have hm : mixOk (h.got.getD i .zero) = true := by
          have h9 := c55
          rw [l1Ok, hb1, Bool.true_and] at h9
          simpa only [mixOk, Bool.not_eq_false'] using h9
        refine SW.skip ?_
        refine SW.seq ?_
        refine SW.regT tabOk [1, 3, 4] ?_
        refine ai trivial ?_
        refine SW.block ?_
        -- live at the head: [1, 3, 4]
        refine SW.loopW (n := i) (fun m q => ∃ j : Nat, m = i - j ∧ j ≤ i ∧ (∀ k, k < j → ((h.got.getD k .zero).num == (h.got.getD i .zero).num) = false) ∧ q = [(.t 1, .v (.e (.c (.pt 1 0)))), (.t 3, .v (I (i : Nat))), (.t 4, .v (I (j : Nat))), (.o 1, .box 62 [.d (.i (h).frm), .d (.i (h).num), .d (.i (h).to), .d (.i (h).til), .d (.i (h).size), .d (.sl (mixRows (h).got))])]) ?_ ?_
        · skip
          refine wk [(.t 1, .v (.e (.c (.pt 1 0)))), (.t 3, .v (I (i : Nat))), (.t 4, .v (I (0 : Nat))), (.o 1, .box 62 [.d (.i (h).frm), .d (.i (h).num), .d (.i (h).to), .d (.i (h).til), .d (.i (h).size), .d (.sl (mixRows (h).got))])] [] [] (⟨0, rfl, Nat.zero_le _, fun k h => absurd h (by omega), rfl⟩) ?_ rfl rfl
          repeat' first | exact trivial | refine mL_nil rfl ?_ | refine mL_d rfl ?_ ?_ | refine mL_own rfl rfl ?_ rfl ?_ | refine mL_row rfl ?_ ?_ | refine mL_pt rfl rfl rfl rfl ?_ | refine mL_box rfl ?_ ?_ | refine mL_agg rfl ?_ ?_ | exact mCs_nil0 | refine mCs_d ?_ ?_ | refine mCs_nil ?_ | refine mCs_own rfl ?_ rfl ?_ | refine mCs_pt rfl rfl rfl ?_
          all_goals first | with_reducible rfl | (first | rfl | (simp; done) | omega)
        rintro n s ⟨j, rfl, hj, hkj, rfl⟩
        refine SW.seq ?_
        refine SW.seq ?_
        refine SW.regT tabOk [1, 3, 4, 58] ?_
        refine ai trivial (ai trivial (ai trivial ?_))
        refine SW.cond rfl (fun c58 => ?_) (fun c58 => ?_)
        · skip
          have hj2 : j < i := by simpa using c58
          have hg2 := mixRows_getD (l := h.got) (i := j) (by omega)
          refine SW.skip ?_
          refine SW.seq ?_
          refine SW.block ?_
          refine SW.seq ?_
          refine SW.regD tabOk mo [1, 3, 4, 73] ?_
          refine ai (by first | trivial | rfl) (ai vc (ai trivial (ai (by rw [Int.toNat_natCast, hg2]; exact ⟨⟨by omega, by rw [mixRows_length]; omega⟩, rfl⟩) (ai (by first | trivial | rfl) (ai (by rw [Int.toNat_natCast, hg2]; exact ⟨Nat.le_of_ble_eq_true rfl, rfl⟩) (ai (by first | trivial | rfl) (ai vc (ai trivial (ai (by rw [Int.toNat_natCast, hg]; exact ⟨⟨by omega, by rw [mixRows_length]; omega⟩, rfl⟩) (ai (by first | trivial | rfl) (ai (by rw [Int.toNat_natCast, hg]; exact ⟨Nat.le_of_ble_eq_true rfl, rfl⟩) (ai trivial (ai (by kernel_rfl) ?_)))))))))))))
          refine SW.cond rfl (fun c73 => ?_) (fun c73 => ?_)
          · skip
            have hq : ((h.got.getD j .zero).num == (h.got.getD i .zero).num) = true := by
              have h9 := c73
              rw [Int.toNat_natCast, Int.toNat_natCast, hg2, hg] at h9
              exact h9
            have hs := gotStep_no hj2 hq
            refine SW.seq ?_
            refine SW.regT tabOk [2] ?_
            refine ai trivial ?_
            refine SW.ret ?_
            refine retOk1 rfl (congrArg D.b ?_)
            rw [halfOk, hh, Bool.not_false, Bool.true_and, all_false hi2 hs]
          · skip
            refine SW.skip ?_
            refine SW.regT tabOk [1, 3, 4] ?_
            refine ai trivial (ai trivial (ai trivial ?_))
            have hq : ((h.got.getD j .zero).num == (h.got.getD i .zero).num) = false := by
              have h9 := c73
              rw [Int.toNat_natCast, Int.toNat_natCast, hg2, hg] at h9
              exact h9
            refine wk [(.t 1, .v (.e (.c (.pt 1 0)))), (.t 3, .v (I (i : Nat))), (.t 4, .v (I ((j + 1) : Nat))), (.o 1, .box 62 [.d (.i (h).frm), .d (.i (h).num), .d (.i (h).to), .d (.i (h).til), .d (.i (h).size), .d (.sl (mixRows (h).got))])] [] [] (⟨i - (j + 1), by omega, j + 1, rfl, by omega, fun k h => by by_cases e : k = j; exact e ▸ hq; exact hkj k (by omega), rfl⟩) ?_ rfl rfl
            repeat' first | exact trivial | refine mL_nil rfl ?_ | refine mL_d rfl ?_ ?_ | refine mL_own rfl rfl ?_ rfl ?_ | refine mL_row rfl ?_ ?_ | refine mL_pt rfl rfl rfl rfl ?_ | refine mL_box rfl ?_ ?_ | refine mL_agg rfl ?_ ?_ | exact mCs_nil0 | refine mCs_d ?_ ?_ | refine mCs_nil ?_ | refine mCs_own rfl ?_ rfl ?_ | refine mCs_pt rfl rfl rfl ?_
            all_goals first | with_reducible rfl | (first | with_reducible rfl | exact congrArg D.i (wrap64_of (by omega)))
        · skip
          have hj3 : j = i := by simp at c58; omega
          subst hj3
          have hs := gotStep_yes hm hkj
          refine SW.exit ?_
          refine SW.regT tabOk [1, 3] ?_
          refine ai trivial (ai trivial (ai trivial ?_))
          refine wk [(.t 1, .v (.e (.c (.pt 1 0)))), (.t 3, .v (I ((j + 1) : Nat))), (.o 1, .box 62 [.d (.i (h).frm), .d (.i (h).num), .d (.i (h).to), .d (.i (h).til), .d (.i (h).size), .d (.sl (mixRows (h).got))])] [] [] (⟨h.got.length - (j + 1), by omega, j + 1, rfl, by omega, fun k h => by by_cases e : k = j; exact e ▸ hs; exact hk k (by omega), rfl⟩) ?_ rfl rfl
          repeat' first | exact trivial | refine mL_nil rfl ?_ | refine mL_d rfl ?_ ?_ | refine mL_own rfl rfl ?_ rfl ?_ | refine mL_row rfl ?_ ?_ | refine mL_pt rfl rfl rfl rfl ?_ | refine mL_box rfl ?_ ?_ | refine mL_agg rfl ?_ ?_ | exact mCs_nil0 | refine mCs_d ?_ ?_ | refine mCs_nil ?_ | refine mCs_own rfl ?_ rfl ?_ | refine mCs_pt rfl rfl rfl ?_
          all_goals first | with_reducible rfl | (first | with_reducible rfl | exact congrArg D.i (wrap64_of (by omega)))
    · skip
      have hi3 : i = h.got.length := by simp [mixRows_length] at c43; omega
      refine SW.exit ?_
      refine SW.seq ?_
      refine SW.regT tabOk [2] ?_
      refine ai trivial ?_
      refine SW.ret ?_
      refine retOk1 rfl (congrArg D.b ?_)
      rw [halfOk, hh, Bool.not_false, Bool.true_and]
      subst hi3
      exact (all_true hk).symm

theorem s_impl_halfAt (l : List HalfR) (f m : Int) (hl : l.length ≤ 1000000) : Ab.Spec Tryz.prog 40 3 [(.t 0, .v (Dv (.sl (halfRows l)))), (.t 1, .v (I f)), (.t 2, .v (I m))] [(.t 0, .v (I (halfAt l f m)))] := by
  refine spec_of_body tabOk Tryz.func40 rfl (by kernel_rfl) (by decide) (by kernel_rfl) rfl ?_
  refine SW.seq ?_
  refine SW.regT tabOk [0, 1, 2, 21, 22, 23, 24] ?_
  refine ai trivial ?_
  refine SW.seq ?_
  refine SW.seq ?_
  refine SW.regT tabOk [1, 2, 9, 10, 11, 21, 22, 23, 24] ?_
  refine ai trivial (ai vc (ai trivial ?_))
  refine SW.block ?_
  -- live at the head: [1, 2, 9, 10, 11, 21, 22, 23, 24]
  refine SW.loopW (n := l.length) (fun n q => ∃ i : Nat, n = l.length - i ∧ i ≤ l.length ∧ (∀ k, k < i → halfIs l f m k = false) ∧ q = [(.t 1, .v (I f)), (.t 2, .v (I m)), (.t 9, .v (Dv (.sl (halfRows l)))), (.t 10, .v (I (l.length : Nat))), (.t 11, .v (I (i : Nat)))]) ?_ ?_
  · skip
    refine wk [(.t 1, .v (I f)), (.t 2, .v (I m)), (.t 9, .v (Dv (.sl (halfRows l)))), (.t 10, .v (I (l.length : Nat))), (.t 11, .v (I (0 : Nat)))] [] [] (⟨0, rfl, Nat.zero_le _, fun k h => absurd h (by omega), rfl⟩) ?_ rfl rfl
    repeat' first | exact trivial | refine mL_nil rfl ?_ | refine mL_d rfl ?_ ?_ | refine mL_own rfl rfl ?_ rfl ?_ | refine mL_row rfl ?_ ?_ | refine mL_pt rfl rfl rfl rfl ?_ | refine mL_box rfl ?_ ?_ | refine mL_agg rfl ?_ ?_ | exact mCs_nil0 | refine mCs_d ?_ ?_ | refine mCs_nil ?_ | refine mCs_own rfl ?_ rfl ?_ | refine mCs_pt rfl rfl rfl ?_
    all_goals first | with_reducible rfl | (first | with_reducible rfl | (rw [halfRows_length]; done) | rfl)
  rintro n s ⟨i, rfl, hi, hk, rfl⟩
  refine SW.seq ?_
  refine SW.regT tabOk [1, 2, 9, 10, 11, 12, 21, 22, 23, 24] ?_
  refine ai trivial ?_
  refine SW.seq ?_
  refine SW.cond rfl (fun c12 => ?_) (fun c12 => ?_)
  · skip
    have hi2 : i < l.length := by simpa using c12
    have hg := halfRows_getD (l := l) hi2
    refine SW.skip ?_
    refine SW.seq ?_
    refine SW.block ?_
    refine SW.seq ?_
    refine SW.regT tabOk [1, 2, 7, 8, 9, 10, 11, 21, 22, 23, 24] ?_
    refine ai trivial (ai (by rw [Int.toNat_natCast, hg]; exact ⟨⟨by omega, by rw [halfRows_length]; omega⟩, rfl⟩) (ai (by rw [Int.toNat_natCast, hg]; exact ⟨Nat.le_of_ble_eq_true rfl, rfl⟩) (ai trivial (ai trivial (ai ⟨by kernel_rfl, Nat.le_of_ble_eq_true (by kernel_rfl)⟩ ?_)))))
    refine SW.seq ?_
    refine SW.regT tabOk [1, 2, 7, 9, 10, 11, 21, 22, 23, 24, 25] ?_
    refine ai (by first | trivial | rfl) (ai vc (ai trivial (ai trivial (ai trivial (ai (fun h => (by first | trivial | rfl)) (ai rk (ai (fun h => vc) (ai rk (ai (fun h => trivial) (ai rk (ai (fun h => trivial) (ai rk (ai pk ?_)))))))))))))
    refine SW.cond rfl (fun c25 => ?_) (fun c25 => ?_)
    · skip
      refine SW.seq ?_
      refine SW.regT tabOk [6] ?_
      refine ai trivial (ai trivial ?_)
      refine SW.ret ?_
      refine retOk1 rfl (congrArg D.i ?_)
      have hs : halfIs l f m i = true := by
        have h9 := c25
        rw [Int.toNat_natCast, hg] at h9
        exact h9
      exact (placeOf_hit (Nat.zero_le _) (by omega) (fun j _ h => hk j h) hs).symm
    · skip
      refine SW.skip ?_
      refine SW.regT tabOk [1, 2, 9, 10, 11, 21, 22, 23, 24] ?_
      refine ai trivial (ai trivial ?_)
      have hs : halfIs l f m i = false := by
        have h9 := c25
        rw [Int.toNat_natCast, hg] at h9
        exact h9
      refine wk [(.t 1, .v (I f)), (.t 2, .v (I m)), (.t 9, .v (Dv (.sl (halfRows l)))), (.t 10, .v (I (l.length : Nat))), (.t 11, .v (I ((i + 1) : Nat)))] [] [] (⟨l.length - (i + 1), by omega, i + 1, rfl, by omega, fun k h => by by_cases e : k = i; exact e ▸ hs; exact hk k (by omega), rfl⟩) ?_ rfl rfl
      repeat' first | exact trivial | refine mL_nil rfl ?_ | refine mL_d rfl ?_ ?_ | refine mL_own rfl rfl ?_ rfl ?_ | refine mL_row rfl ?_ ?_ | refine mL_pt rfl rfl rfl rfl ?_ | refine mL_box rfl ?_ ?_ | refine mL_agg rfl ?_ ?_ | exact mCs_nil0 | refine mCs_d ?_ ?_ | refine mCs_nil ?_ | refine mCs_own rfl ?_ rfl ?_ | refine mCs_pt rfl rfl rfl ?_
      all_goals first | with_reducible rfl | (first | with_reducible rfl | exact congrArg D.i (wrap64_of (by omega)))
  · skip
    have hi3 : i = l.length := by simp at c12; omega
    refine SW.exit ?_
    refine SW.seq ?_
    refine SW.regT tabOk [6] ?_
    refine ai trivial ?_
    refine SW.ret ?_
    refine retOk1 rfl (congrArg D.i ?_)
    exact (placeOf_none (fun j _ h => hk j (by omega))).symm

set_option maxHeartbeats 3200000 in
theorem s_impl_KeeperOk (k : KeeperR) (hl : k.log.length ≤ 140737488355328) : Ab.Spec Tryz.prog 11 1 [(.t 0, .v (k.V))] [(.t 0, .v (B (keeperOk k)))] := by
  refine spec_of_body tabOk Tryz.func11 rfl (by kernel_rfl) (by decide) (by kernel_rfl) rfl ?_
  refine SW.seq ?_
  refine SW.regT tabOk [1, 14, 15, 16, 17, 20, 21, 22, 23, 26, 27, 28, 29, 30, 31, 32, 33, 34, 61, 62, 76, 77, 78, 79, 80, 81, 82, 83, 84] ?_
  refine ai trivial (ai trivial ?_)
  refine SW.seq ?_
  refine SW.seq ?_
  refine SW.regT tabOk [1, 35, 61, 62, 76, 77, 78, 79, 80, 81, 82, 83, 84] ?_
  refine ai (by first | trivial | rfl) (ai vc ?_)
  refine ex_pure (s_impl_isNode _) rfl rfl rfl rfl rfl rfl rfl rfl ?_
  refine ai trivial (ai trivial (ai (fun h => (by first | trivial | rfl)) (ai rk (ai (fun h => vc) (ai rk ?_)))))
  refine exc_pure (fun h => (s_impl_ShelfOk k.log k.forced hl)) rfl rfl rfl rfl rfl rfl rfl rfl rk ?_
  refine ai (fun h => trivial) (ai rk (ai pk (ai trivial (ai (fun h => (by first | trivial | rfl)) (ai rk (ai (fun h => vc) (ai rk (ai (fun h => vc) (ai rk (ai (fun h => trivial) (ai rk (ai pk (ai trivial (ai (fun h => (by first | trivial | rfl)) (ai rk (ai (fun h => vc) (ai rk (ai (fun h => trivial) (ai rk (ai (fun h => trivial) (ai rk (ai (fun h => (by first | trivial | rfl)) (ai rk (ai (fun h => vc) (ai rk (ai (fun h => vc) (ai rk (ai (fun h => trivial) (ai rk (ai (fun h => pk) (ai rk (ai pk ?_))))))))))))))))))))))))))))))))
  refine SW.cond rfl (fun c35 => ?_) (fun c35 => ?_)
  · skip
    have hh := keeper_gen c35
    refine SW.seq ?_
    refine SW.regT tabOk [2] ?_
    refine ai trivial ?_
    refine SW.ret ?_
    refine retOk1 rfl (congrArg D.b ?_)
    exact (keeperOk_head hh).symm
  · skip
    have hh := keeper_gen c35
    obtain ⟨p1, p2, p3, p4⟩ := keeperHead_parts hh
    obtain ⟨q1, q2, q3, q4⟩ := shelfOk_parts p2
    refine SW.skip ?_
    refine SW.seq ?_
    refine SW.regT tabOk [1, 4, 61, 62, 76, 77, 78, 79, 80, 81, 82, 83, 84] ?_
    refine ai (by first | trivial | rfl) (ai vc (ai (by first | trivial | rfl) (ai (by first | trivial | rfl) (ai vc ?_))))
    refine ex_pure (s_impl_stateOf k.id k.log (by omega)) rfl rfl rfl rfl rfl rfl rfl rfl ?_
    refine ai trivial (ai trivial (ai trivial (ai trivial (ai ⟨by kernel_rfl, Nat.le_of_ble_eq_true (by kernel_rfl)⟩ (ai trivial ?_)))))
    refine SW.seq ?_
    refine SW.regD tabOk mo [1, 4, 6, 61, 62, 76, 77, 78, 79, 80, 81, 82, 83, 84] ?_
    refine ai (by first | trivial | rfl) (ai vc (ai (by first | trivial | rfl) (ai (by first | trivial | rfl) (ai vc (ai (by first | trivial | rfl) (ai (by first | trivial | rfl) (ai vc (ai (by exact ⟨by simp, by simpa using q2.1, by simpa using q2.2⟩) ?_))))))))
    refine ex_pure (s_impl_stateOf k.id (k.log.take k.forced.toNat) (by rw [List.length_take]; omega)) rfl rfl rfl rfl rfl rfl rfl rfl ?_
    refine ai trivial (ai trivial (ai trivial (ai trivial (ai ⟨by kernel_rfl, Nat.le_of_ble_eq_true (by kernel_rfl)⟩ (ai trivial (ai (by kernel_rfl) ?_))))))
    refine SW.seq ?_
    refine SW.seq ?_
    refine SW.regT tabOk [1, 63, 76, 77, 78, 79, 80, 81, 82, 83, 84] ?_
    refine ai trivial (ai trivial (ai trivial (ai (fun h => trivial) (ai rk (ai (fun h => trivial) (ai rk (ai pk ?_)))))))
    refine SW.cond rfl (fun c63 => ?_) (fun c63 => ?_)
    · skip
      have hn := keeperOk_no (k := k) c63 (.inl ⟨rfl, rfl⟩)
      refine SW.seq ?_
      refine SW.regT tabOk [2] ?_
      refine ai trivial ?_
      refine SW.ret ?_
      refine retOk1 rfl (congrArg D.b ?_)
      exact hn.symm
    · skip
      have hy := keeperOk_yes (k := k) hh c63 (.inl ⟨rfl, rfl⟩)
      refine SW.skip ?_
      refine SW.seq ?_
      refine SW.seq ?_
      refine SW.regT tabOk [1, 65, 66, 67, 76, 77, 78, 79, 80, 81, 82, 83, 84] ?_
      refine ai (by first | trivial | rfl) (ai vc (ai vc (ai trivial ?_)))
      refine SW.block ?_
      -- live at the head: [1, 65, 66, 67, 76, 77, 78, 79, 80, 81, 82, 83, 84]
      refine SW.loopW (n := k.halves.length) (fun m q => ∃ i : Nat, m = k.halves.length - i ∧ i ≤ k.halves.length ∧ (∀ j, j < i → halfStep k.halves j = true) ∧ q = [(.t 1, .v (.e (.c (.pt 1 0)))), (.t 65, .v (Dv (.sl (halfRows k.halves)))), (.t 66, .v (I (k.halves.length : Nat))), (.t 67, .v (I (i : Nat))), (.o 1, .box 32 [.d (.i (k).id), .d (.b (k).up), .d (.s (k).log), .d (.i (k).forced), .d (.sl (halfRows (k).halves))])]) ?_ ?_
      · skip
        refine wk [(.t 1, .v (.e (.c (.pt 1 0)))), (.t 65, .v (Dv (.sl (halfRows k.halves)))), (.t 66, .v (I (k.halves.length : Nat))), (.t 67, .v (I (0 : Nat))), (.o 1, .box 32 [.d (.i (k).id), .d (.b (k).up), .d (.s (k).log), .d (.i (k).forced), .d (.sl (halfRows (k).halves))])] [] [] (⟨0, rfl, Nat.zero_le _, fun j h => absurd h (by omega), rfl⟩) ?_ rfl rfl
        repeat' first | exact trivial | refine mL_nil rfl ?_ | refine mL_d rfl ?_ ?_ | refine mL_own rfl rfl ?_ rfl ?_ | refine mL_row rfl ?_ ?_ | refine mL_pt rfl rfl rfl rfl ?_ | refine mL_box rfl ?_ ?_ | refine mL_agg rfl ?_ ?_ | exact mCs_nil0 | refine mCs_d ?_ ?_ | refine mCs_nil ?_ | refine mCs_own rfl ?_ rfl ?_ | refine mCs_pt rfl rfl rfl ?_
        all_goals first | with_reducible rfl | (first | with_reducible rfl | rfl | (rw [halfRows_length]; done))
      rintro n s ⟨i, rfl, hi, hk, rfl⟩
      refine SW.seq ?_
      refine SW.regT tabOk [1, 65, 66, 67, 68, 76, 77, 78, 79, 80, 81, 82, 83, 84] ?_
      refine ai trivial ?_
      refine SW.seq ?_
      refine SW.cond rfl (fun c68 => ?_) (fun c68 => ?_)
      · skip
        have hi2 : i < k.halves.length := by simpa using c68
        have hg := halfRows_getD (l := k.halves) hi2
        refine SW.skip ?_
        refine SW.seq ?_
        refine SW.block ?_
        refine SW.seq ?_
        refine SW.regT tabOk [1, 7, 8, 65, 66, 67, 76, 77, 78, 79, 80, 81, 82, 83, 84] ?_
        refine ai trivial (ai (by rw [Int.toNat_natCast, hg]; exact ⟨⟨by omega, by rw [halfRows_length]; omega⟩, rfl⟩) (ai (by rw [Int.toNat_natCast, hg]; exact ⟨Nat.le_of_ble_eq_true rfl, rfl⟩) (ai trivial (ai trivial (ai ⟨by kernel_rfl, Nat.le_of_ble_eq_true (by kernel_rfl)⟩ ?_)))))
        refine SW.seq ?_
        refine SW.wk (J := fun s => s = [(.t 1, .v (.e (.c (.pt 1 0)))), (.t 7, .v (I (i : Nat))), (.t 8, .v (.e (.c (.pt 8 0)))), (.t 65, .v (Dv (.sl (halfRows k.halves)))), (.t 66, .v (I (k.halves.length : Nat))), (.t 67, .v (I (i : Nat))), (.o 1, .box 32 [.d (.i (k).id), .d (.b (k).up), .d (.s (k).log), .d (.i (k).forced), .d (.sl (halfRows (k).halves))]), (.o 8, .box 62 [.d (.i (k.halves.getD i .zero).frm), .d (.i (k.halves.getD i .zero).num), .d (.i (k.halves.getD i .zero).to), .d (.i (k.halves.getD i .zero).til), .d (.i (k.halves.getD i .zero).size), .d (.sl (mixRows (k.halves.getD i .zero).got))])]) ?_ ?_
        · skip
          refine wk [(.t 1, .v (.e (.c (.pt 1 0)))), (.t 7, .v (I (i : Nat))), (.t 8, .v (.e (.c (.pt 8 0)))), (.t 65, .v (Dv (.sl (halfRows k.halves)))), (.t 66, .v (I (k.halves.length : Nat))), (.t 67, .v (I (i : Nat))), (.o 1, .box 32 [.d (.i (k).id), .d (.b (k).up), .d (.s (k).log), .d (.i (k).forced), .d (.sl (halfRows (k).halves))]), (.o 8, .box 62 [.d (.i (k.halves.getD i .zero).frm), .d (.i (k.halves.getD i .zero).num), .d (.i (k.halves.getD i .zero).to), .d (.i (k.halves.getD i .zero).til), .d (.i (k.halves.getD i .zero).size), .d (.sl (mixRows (k.halves.getD i .zero).got))])] [] [] (rfl) ?_ rfl rfl
          repeat' first | exact trivial | refine mL_nil rfl ?_ | refine mL_d rfl ?_ ?_ | refine mL_own rfl rfl ?_ rfl ?_ | refine mL_row rfl ?_ ?_ | refine mL_pt rfl rfl rfl rfl ?_ | refine mL_box rfl ?_ ?_ | refine mL_agg rfl ?_ ?_ | exact mCs_nil0 | refine mCs_d ?_ ?_ | refine mCs_nil ?_ | refine mCs_own rfl ?_ rfl ?_ | refine mCs_pt rfl rfl rfl ?_
          all_goals first | with_reducible rfl | (first | with_reducible rfl | (rw [Int.toNat_natCast, hg]; rfl))
        rintro s rfl
        refine SW.regT tabOk [1, 65, 66, 67, 76, 77, 78, 79, 80, 81, 82, 83, 84, 85] ?_
        refine ai vc ?_
        refine ex_pure (s_impl_halfOk (k.halves.getD i .zero)) rfl rfl rfl rfl rfl rfl rfl rfl ?_
        refine ai trivial (ai trivial (ai (fun h => (by first | trivial | rfl)) (ai rk (ai (fun h => vc) (ai rk (ai (fun h => (by first | trivial | rfl)) (ai rk (ai (fun h => vc) (ai rk (ai (fun h => (by first | trivial | rfl)) (ai rk (ai (fun h => vc) (ai rk ?_)))))))))))))
        refine exc_pure (fun h => (s_impl_halfAt k.halves _ _ (by omega))) rfl rfl rfl rfl rfl rfl rfl rfl rk ?_
        refine ai (fun h => trivial) (ai rk (ai (fun h => trivial) (ai rk (ai pk ?_))))
        refine SW.cond rfl (fun c85 => ?_) (fun c85 => ?_)
        · skip
          refine SW.seq ?_
          refine SW.regT tabOk [2] ?_
          refine ai trivial ?_
          refine SW.ret ?_
          refine retOk1 rfl (congrArg D.b ?_)
          have hs : halfStep k.halves i = false := halfStep_gen hi2 c85
          rw [hy, all_false hi2 hs]
        · skip
          refine SW.skip ?_
          refine SW.regT tabOk [1, 65, 66, 67, 76, 77, 78, 79, 80, 81, 82, 83, 84] ?_
          refine ai trivial (ai trivial ?_)
          have hs : halfStep k.halves i = true := halfStep_gen hi2 c85
          refine wk [(.t 1, .v (.e (.c (.pt 1 0)))), (.t 65, .v (Dv (.sl (halfRows k.halves)))), (.t 66, .v (I (k.halves.length : Nat))), (.t 67, .v (I ((i + 1) : Nat))), (.o 1, .box 32 [.d (.i (k).id), .d (.b (k).up), .d (.s (k).log), .d (.i (k).forced), .d (.sl (halfRows (k).halves))])] [] [] (⟨k.halves.length - (i + 1), by omega, i + 1, rfl, by omega, fun j h => by by_cases e : j = i; exact e ▸ hs; exact hk j (by omega), rfl⟩) ?_ rfl rfl
          repeat' first | exact trivial | refine mL_nil rfl ?_ | refine mL_d rfl ?_ ?_ | refine mL_own rfl rfl ?_ rfl ?_ | refine mL_row rfl ?_ ?_ | refine mL_pt rfl rfl rfl rfl ?_ | refine mL_box rfl ?_ ?_ | refine mL_agg rfl ?_ ?_ | exact mCs_nil0 | refine mCs_d ?_ ?_ | refine mCs_nil ?_ | refine mCs_own rfl ?_ rfl ?_ | refine mCs_pt rfl rfl rfl ?_
          all_goals first | with_reducible rfl | (first | with_reducible rfl | exact congrArg D.i (wrap64_of (by omega)))
      · skip
        have hi3 : i = k.halves.length := by simp at c68; omega
        refine SW.exit ?_
        refine SW.seq ?_
        refine SW.regT tabOk [2] ?_
        refine ai trivial ?_
        refine SW.ret ?_
        refine retOk1 rfl (congrArg D.b ?_)
        subst hi3
        rw [hy, all_true hk]

set_option maxHeartbeats 3200000 in
theorem s_spec_KeeperOk (k : KeeperR) (hl : k.log.length ≤ 140737488355328) : Ab.Spec Tryz.prog 9 1 [(.t 0, .v (k.V))] [(.t 0, .v (B (keeperOk k)))] := by
  refine spec_of_body tabOk Tryz.func9 rfl (by kernel_rfl) (by decide) (by kernel_rfl) rfl ?_
  refine SW.seq ?_
  refine SW.regT tabOk [1, 16, 17, 18, 19, 22, 23, 24, 25, 28, 29, 30, 31, 32, 33, 34, 35, 36, 64, 65, 100, 101, 102, 103, 104, 105, 106, 107, 108, 109, 110, 111, 112] ?_
  refine ai trivial (ai trivial ?_)
  refine SW.seq ?_
  refine SW.seq ?_
  refine SW.regT tabOk [1, 37, 64, 65, 100, 101, 102, 103, 104, 105, 106, 107, 108, 109, 110, 111, 112] ?_
  refine ai (by first | trivial | rfl) (ai vc ?_)
  refine ex_pure (s_spec_l3Keeper _) rfl rfl rfl rfl rfl rfl rfl rfl ?_
  refine ai trivial (ai trivial (ai (fun h => (by first | trivial | rfl)) (ai rk (ai (fun h => vc) (ai rk ?_)))))
  refine exc_pure (fun h => (s_spec_ShelfOk k.log k.forced hl)) rfl rfl rfl rfl rfl rfl rfl rfl rk ?_
  refine ai (fun h => trivial) (ai rk (ai pk (ai trivial (ai (fun h => (by first | trivial | rfl)) (ai rk (ai (fun h => vc) (ai rk (ai (fun h => vc) (ai rk (ai (fun h => trivial) (ai rk (ai pk (ai trivial (ai (fun h => (by first | trivial | rfl)) (ai rk (ai (fun h => vc) (ai rk (ai (fun h => trivial) (ai rk (ai (fun h => trivial) (ai rk (ai (fun h => (by first | trivial | rfl)) (ai rk (ai (fun h => vc) (ai rk (ai (fun h => vc) (ai rk (ai (fun h => trivial) (ai rk (ai (fun h => pk) (ai rk (ai pk ?_))))))))))))))))))))))))))))))))
  refine SW.cond rfl (fun c37 => ?_) (fun c37 => ?_)
  · skip
    have hh := keeper_gen c37
    refine SW.seq ?_
    refine SW.regT tabOk [2] ?_
    refine ai trivial ?_
    refine SW.ret ?_
    refine retOk1 rfl (congrArg D.b ?_)
    exact (keeperOk_head hh).symm
  · skip
    have hh := keeper_gen c37
    obtain ⟨p1, p2, p3, p4⟩ := keeperHead_parts hh
    obtain ⟨q1, q2, q3, q4⟩ := shelfOk_parts p2
    refine SW.skip ?_
    refine SW.seq ?_
    refine SW.regT tabOk [1, 3, 64, 65, 100, 101, 102, 103, 104, 105, 106, 107, 108, 109, 110, 111, 112] ?_
    refine ai (by first | trivial | rfl) (ai (by first | trivial | rfl) (ai vc (ai (by first | trivial | rfl) (ai (by first | trivial | rfl) (ai vc (ai (by exact ⟨by simp, by simpa using q2.1, by simpa using q2.2⟩) ?_))))))
    refine ex_pure (s_spec_ShelfReadF (k.log.take k.forced.toNat) (by rw [List.length_take]; omega)) rfl rfl rfl rfl rfl rfl rfl rfl ?_
    refine ai trivial (ai trivial (ai trivial (ai trivial (ai trivial ?_))))
    refine SW.seq ?_
    refine SW.regT tabOk [1, 6, 64, 65, 100, 101, 102, 103, 104, 105, 106, 107, 108, 109, 110, 111, 112] ?_
    refine ai (by first | trivial | rfl) (ai vc (ai trivial ?_))
    refine ex_pure (s_spec_KeepOf k.id (shelfRead (k.log.take k.forced.toNat)).1 (shelf_recs _ (by rw [List.length_take]; omega)).1 (shelf_recs _ (by rw [List.length_take]; omega)).2) rfl rfl rfl rfl rfl rfl rfl rfl ?_
    refine ai trivial (ai trivial (ai trivial (ai trivial (ai ⟨by kernel_rfl, Nat.le_of_ble_eq_true (by kernel_rfl)⟩ (ai trivial ?_)))))
    refine SW.seq ?_
    refine SW.regT tabOk [1, 6, 8, 64, 65, 100, 101, 102, 103, 104, 105, 106, 107, 108, 109, 110, 111, 112] ?_
    refine ai vc ?_
    refine ex_pure (s_spec_l22Has k (by omega)) rfl rfl rfl rfl rfl rfl rfl rfl ?_
    refine ai trivial (ai trivial (ai trivial (ai trivial (ai ⟨by kernel_rfl, Nat.le_of_ble_eq_true (by kernel_rfl)⟩ (ai trivial ?_)))))
    refine SW.seq ?_
    refine SW.seq ?_
    refine SW.regT tabOk [1, 66, 100, 101, 102, 103, 104, 105, 106, 107, 108, 109, 110, 111, 112] ?_
    refine ai trivial (ai trivial (ai trivial (ai (fun h => trivial) (ai rk (ai (fun h => trivial) (ai rk (ai pk ?_)))))))
    refine SW.cond rfl (fun c66 => ?_) (fun c66 => ?_)
    · skip
      have hn := keeperOk_no (k := k) c66 (.inl ⟨rfl, rfl⟩)
      refine SW.seq ?_
      refine SW.regT tabOk [2] ?_
      refine ai trivial ?_
      refine SW.ret ?_
      refine retOk1 rfl (congrArg D.b ?_)
      exact hn.symm
    · skip
      have hy := keeperOk_yes (k := k) hh c66 (.inl ⟨rfl, rfl⟩)
      refine SW.skip ?_
      refine SW.seq ?_
      refine SW.seq ?_
      refine SW.regT tabOk [1, 9, 100, 101, 102, 103, 104, 105, 106, 107, 108, 109, 110, 111, 112] ?_
      refine ai trivial ?_
      refine SW.block ?_
      -- live at the head: [1, 9, 100, 101, 102, 103, 104, 105, 106, 107, 108, 109, 110, 111, 112]
      refine SW.loopW (n := k.halves.length) (fun m q => ∃ i : Nat, m = k.halves.length - i ∧ i ≤ k.halves.length ∧ (∀ j, j < i → halfStep k.halves j = true) ∧ q = [(.t 1, .v (.e (.c (.pt 1 0)))), (.t 9, .v (I (i : Nat))), (.o 1, .box 32 [.d (.i (k).id), .d (.b (k).up), .d (.s (k).log), .d (.i (k).forced), .d (.sl (halfRows (k).halves))])]) ?_ ?_
      · skip
        refine wk [(.t 1, .v (.e (.c (.pt 1 0)))), (.t 9, .v (I (0 : Nat))), (.o 1, .box 32 [.d (.i (k).id), .d (.b (k).up), .d (.s (k).log), .d (.i (k).forced), .d (.sl (halfRows (k).halves))])] [] [] (⟨0, rfl, Nat.zero_le _, fun j h => absurd h (by omega), rfl⟩) ?_ rfl rfl
        repeat' first | exact trivial | refine mL_nil rfl ?_ | refine mL_d rfl ?_ ?_ | refine mL_own rfl rfl ?_ rfl ?_ | refine mL_row rfl ?_ ?_ | refine mL_pt rfl rfl rfl rfl ?_ | refine mL_box rfl ?_ ?_ | refine mL_agg rfl ?_ ?_ | exact mCs_nil0 | refine mCs_d ?_ ?_ | refine mCs_nil ?_ | refine mCs_own rfl ?_ rfl ?_ | refine mCs_pt rfl rfl rfl ?_
        all_goals first | with_reducible rfl | (first | rfl | (simp; done) | omega)
      rintro n s ⟨i, rfl, hi, hk, rfl⟩
      refine SW.seq ?_
      refine SW.seq ?_
      refine SW.regT tabOk [1, 9, 71, 100, 101, 102, 103, 104, 105, 106, 107, 108, 109, 110, 111, 112] ?_
      refine ai trivial (ai (by first | trivial | rfl) (ai vc (ai vc (ai trivial ?_))))
      refine SW.cond rfl (fun c71 => ?_) (fun c71 => ?_)
      · skip
        have hi2 : i < k.halves.length := by simpa [halfRows_length] using c71
        have hg := halfRows_getD (l := k.halves) hi2
        refine SW.skip ?_
        refine SW.seq ?_
        refine SW.block ?_
        refine SW.seq ?_
        refine SW.seq ?_
        refine SW.regT tabOk [1, 9, 80, 100, 101, 102, 103, 104, 105, 106, 107, 108, 109, 110, 111, 112] ?_
        refine ai (by first | trivial | rfl) (ai vc (ai trivial (ai (by rw [Int.toNat_natCast, hg]; exact ⟨⟨by omega, by rw [halfRows_length]; omega⟩, rfl⟩) (ai (by rw [Int.toNat_natCast, hg]; exact ⟨Nat.le_of_ble_eq_true rfl, rfl⟩) ?_))))
        refine ex_pure (s_spec_l22HalfOk (k.halves.getD i .zero)) rfl rfl rfl rfl rfl (by rw [Int.toNat_natCast, hg]; rfl) rfl rfl ?_
        refine ai trivial ?_
        refine SW.cond rfl (fun c80 => ?_) (fun c80 => ?_)
        · skip
          have hs := halfStep_bad (by simpa using c80)
          refine SW.seq ?_
          refine SW.regT tabOk [2] ?_
          refine ai trivial ?_
          refine SW.ret ?_
          refine retOk1 rfl (congrArg D.b ?_)
          rw [hy, all_false hi2 hs]
        · skip
          refine SW.skip ?_
          refine SW.seq ?_
          refine SW.regT tabOk [1, 9, 10, 100, 101, 102, 103, 104, 105, 106, 107, 108, 109, 110, 111, 112] ?_
          refine ai trivial ?_
          refine SW.block ?_
          -- live at the head: [1, 9, 10, 100, 101, 102, 103, 104, 105, 106, 107, 108, 109, 110, 111, 112]
          refine SW.loopW (n := i) (fun m q => ∃ j : Nat, m = i - j ∧ j ≤ i ∧ (∀ k1, k1 < j → halfIs k.halves (k.halves.getD i .zero).frm (k.halves.getD i .zero).num k1 = false) ∧ q = [(.t 1, .v (.e (.c (.pt 1 0)))), (.t 9, .v (I (i : Nat))), (.t 10, .v (I (j : Nat))), (.o 1, .box 32 [.d (.i (k).id), .d (.b (k).up), .d (.s (k).log), .d (.i (k).forced), .d (.sl (halfRows (k).halves))])]) ?_ ?_
          · skip
            refine wk [(.t 1, .v (.e (.c (.pt 1 0)))), (.t 9, .v (I (i : Nat))), (.t 10, .v (I (0 : Nat))), (.o 1, .box 32 [.d (.i (k).id), .d (.b (k).up), .d (.s (k).log), .d (.i (k).forced), .d (.sl (halfRows (k).halves))])] [] [] (⟨0, rfl, Nat.zero_le _, fun j h => absurd h (by omega), rfl⟩) ?_ rfl rfl
            repeat' first | exact trivial | refine mL_nil rfl ?_ | refine mL_d rfl ?_ ?_ | refine mL_own rfl rfl ?_ rfl ?_ | refine mL_row rfl ?_ ?_ | refine mL_pt rfl rfl rfl rfl ?_ | refine mL_box rfl ?_ ?_ | refine mL_agg rfl ?_ ?_ | exact mCs_nil0 | refine mCs_d ?_ ?_ | refine mCs_nil ?_ | refine mCs_own rfl ?_ rfl ?_ | refine mCs_pt rfl rfl rfl ?_
            all_goals first | with_reducible rfl | (first | rfl | (simp; done) | omega)
          rintro n s ⟨j, rfl, hj, hkj, rfl⟩
          refine SW.seq ?_
          refine SW.seq ?_
          refine SW.regT tabOk [1, 9, 10, 83, 100, 101, 102, 103, 104, 105, 106, 107, 108, 109, 110, 111, 112] ?_
          refine ai trivial (ai trivial (ai trivial ?_))
          refine SW.cond rfl (fun c83 => ?_) (fun c83 => ?_)
          · skip
            have hj2 : j < i := by simpa using c83
            have hg2 := halfRows_getD (l := k.halves) (i := j) (by omega)
            refine SW.skip ?_
            refine SW.seq ?_
            refine SW.block ?_
            refine SW.seq ?_
            refine SW.regD tabOk mo [1, 9, 10, 100, 101, 102, 103, 104, 105, 106, 107, 108, 109, 110, 111, 112, 113] ?_
            refine ai (by first | trivial | rfl) (ai vc (ai trivial (ai (by rw [Int.toNat_natCast, hg2]; exact ⟨⟨by omega, by rw [halfRows_length]; omega⟩, rfl⟩) (ai (by first | trivial | rfl) (ai (by rw [Int.toNat_natCast, hg2]; exact ⟨Nat.le_of_ble_eq_true rfl, rfl⟩) (ai (by first | trivial | rfl) (ai vc (ai trivial (ai (by rw [Int.toNat_natCast, hg]; exact ⟨⟨by omega, by rw [halfRows_length]; omega⟩, rfl⟩) (ai (by first | trivial | rfl) (ai (by rw [Int.toNat_natCast, hg]; exact ⟨Nat.le_of_ble_eq_true rfl, rfl⟩) (ai trivial (ai trivial (ai (fun h => (by first | trivial | rfl)) (ai rk (ai (fun h => vc) (ai rk (ai (fun h => trivial) (ai rk (ai (fun h => (by rw [Int.toNat_natCast, hg2]; exact ⟨⟨by omega, by rw [halfRows_length]; omega⟩, rfl⟩)) (ai rk (ai (fun h => (by first | trivial | rfl)) (ai rk (ai (fun h => (by rw [Int.toNat_natCast, hg2]; exact ⟨Nat.le_of_ble_eq_true rfl, rfl⟩)) (ai rk (ai (fun h => (by first | trivial | rfl)) (ai rk (ai (fun h => vc) (ai rk (ai (fun h => trivial) (ai rk (ai (fun h => (by rw [Int.toNat_natCast, hg]; exact ⟨⟨by omega, by rw [halfRows_length]; omega⟩, rfl⟩)) (ai rk (ai (fun h => (by first | trivial | rfl)) (ai rk (ai (fun h => (by rw [Int.toNat_natCast, hg]; exact ⟨Nat.le_of_ble_eq_true rfl, rfl⟩)) (ai rk (ai (fun h => trivial) (ai rk (ai pk (ai (by kernel_rfl) ?_)))))))))))))))))))))))))))))))))))))))))
            refine SW.cond rfl (fun c113 => ?_) (fun c113 => ?_)
            · skip
              have hq : halfIs k.halves (k.halves.getD i .zero).frm (k.halves.getD i .zero).num j = true := by
                have h9 := c113
                rw [Int.toNat_natCast, Int.toNat_natCast, hg2, hg] at h9
                exact h9
              have hs := halfStep_no hj2 hq
              refine SW.seq ?_
              refine SW.regT tabOk [2] ?_
              refine ai trivial ?_
              refine SW.ret ?_
              refine retOk1 rfl (congrArg D.b ?_)
              rw [hy, all_false hi2 hs]
            · skip
              refine SW.skip ?_
              refine SW.regT tabOk [1, 9, 10, 100, 101, 102, 103, 104, 105, 106, 107, 108, 109, 110, 111, 112] ?_
              refine ai trivial (ai trivial (ai trivial ?_))
              have hq : halfIs k.halves (k.halves.getD i .zero).frm (k.halves.getD i .zero).num j = false := by
                have h9 := c113
                rw [Int.toNat_natCast, Int.toNat_natCast, hg2, hg] at h9
                exact h9
              refine wk [(.t 1, .v (.e (.c (.pt 1 0)))), (.t 9, .v (I (i : Nat))), (.t 10, .v (I ((j + 1) : Nat))), (.o 1, .box 32 [.d (.i (k).id), .d (.b (k).up), .d (.s (k).log), .d (.i (k).forced), .d (.sl (halfRows (k).halves))])] [] [] (⟨i - (j + 1), by omega, j + 1, rfl, by omega, fun m h => by by_cases e : m = j; exact e ▸ hq; exact hkj m (by omega), rfl⟩) ?_ rfl rfl
              repeat' first | exact trivial | refine mL_nil rfl ?_ | refine mL_d rfl ?_ ?_ | refine mL_own rfl rfl ?_ rfl ?_ | refine mL_row rfl ?_ ?_ | refine mL_pt rfl rfl rfl rfl ?_ | refine mL_box rfl ?_ ?_ | refine mL_agg rfl ?_ ?_ | exact mCs_nil0 | refine mCs_d ?_ ?_ | refine mCs_nil ?_ | refine mCs_own rfl ?_ rfl ?_ | refine mCs_pt rfl rfl rfl ?_
              all_goals first | with_reducible rfl | (first | with_reducible rfl | exact congrArg D.i (wrap64_of (by omega)))
          · skip
            have hj3 : j = i := by simp at c83; omega
            subst hj3
            have hs := halfStep_yes (by simpa using c80) hkj
            refine SW.exit ?_
            refine SW.regT tabOk [1, 9, 100, 101, 102, 103, 104, 105, 106, 107, 108, 109, 110, 111, 112] ?_
            refine ai trivial (ai trivial (ai trivial ?_))
            refine wk [(.t 1, .v (.e (.c (.pt 1 0)))), (.t 9, .v (I ((j + 1) : Nat))), (.o 1, .box 32 [.d (.i (k).id), .d (.b (k).up), .d (.s (k).log), .d (.i (k).forced), .d (.sl (halfRows (k).halves))])] [] [] (⟨k.halves.length - (j + 1), by omega, j + 1, rfl, by omega, fun m h => by by_cases e : m = j; exact e ▸ hs; exact hk m (by omega), rfl⟩) ?_ rfl rfl
            repeat' first | exact trivial | refine mL_nil rfl ?_ | refine mL_d rfl ?_ ?_ | refine mL_own rfl rfl ?_ rfl ?_ | refine mL_row rfl ?_ ?_ | refine mL_pt rfl rfl rfl rfl ?_ | refine mL_box rfl ?_ ?_ | refine mL_agg rfl ?_ ?_ | exact mCs_nil0 | refine mCs_d ?_ ?_ | refine mCs_nil ?_ | refine mCs_own rfl ?_ rfl ?_ | refine mCs_pt rfl rfl rfl ?_
            all_goals first | with_reducible rfl | (first | with_reducible rfl | exact congrArg D.i (wrap64_of (by omega)))
      · skip
        have hi3 : i = k.halves.length := by simp [halfRows_length] at c71; omega
        refine SW.exit ?_
        refine SW.seq ?_
        refine SW.regT tabOk [2] ?_
        refine ai trivial ?_
        refine SW.ret ?_
        refine retOk1 rfl (congrArg D.b ?_)
        subst hi3
        rw [hy, all_true hk]

end Go.Proofs.YtllapabiebopcaaGreatDoor

namespace Go.Ab
open Go Go.RowKit
set_option linter.unusedVariables false
set_option linter.unusedSimpArgs false

theorem exists_map {α : Type} {f : α → List D} {p : α → Prop} : ∀ {rows : List (List D)}, (∀ r ∈ rows, ∃ x, r = f x ∧ p x) → ∃ l : List α, rows = l.map f ∧ ∀ x ∈ l, p x
  | [], _ => ⟨[], rfl, fun x h => (by cases h)⟩
  | r :: rows, h => by
    obtain ⟨x, rfl, hp⟩ := h r (List.mem_cons_self ..)
    obtain ⟨l, rfl, hl⟩ := exists_map (rows := rows) fun r hr => h r (List.mem_cons_of_mem _ hr)
    exact ⟨x :: l, rfl, fun y hy => by rcases List.mem_cons.1 hy with rfl | hy; exact hp; exact hl y hy⟩
theorem eq_of_getD {α : Type} {z : α} {a b : List α} (hl : a.length = b.length) (h : ∀ j, j < a.length → a.getD j z = b.getD j z) : a = b := by
  apply List.ext_getElem hl
  intro i h1 h2
  have := h i h1
  rw [List.getD_eq_getElem?_getD, List.getD_eq_getElem?_getD, List.getElem?_eq_getElem h1, List.getElem?_eq_getElem h2] at this
  exact this
theorem ne_of_getD {α : Type} {z : α} {a b : List α} {j : Nat} (h : ¬ a.getD j z = b.getD j z) : ¬ a = b := fun e => h (by rw [e])
def KeeperR.row (k : KeeperR) : List D := [.i k.id, .b k.up, .s k.log, .i k.forced, .sl (halfRows k.halves)]
def KRB (k : KeeperR) : Prop := k.log.length ≤ 140737488355328 ∧ k.halves.length * 64 ≤ 140737488355328 ∧ ∀ h ∈ k.halves, h.got.length * 24 ≤ 140737488355328
theorem to_at_MixR {l : List MixR} {i : Nat} (h : i < l.length) : (mixRows ((l.take i) ++ List.replicate (l.length - i) MixR.zero)).getD i [] = MixR.zero.row := by
  rw [mixRows_getD (by simp; omega), List.getD_eq_getElem?_getD, List.getElem?_append_right (by simp; omega)]
  rw [List.getElem?_replicate, if_pos (by simp; omega)]
  rfl
theorem to_step_MixR {l : List MixR} {i : Nat} (h : i < l.length) : (mixRows ((l.take i) ++ List.replicate (l.length - i) MixR.zero)).set i (setSeg ((mixRows ((l.take i) ++ List.replicate (l.length - i) MixR.zero)).getD i []) 0 (l.getD i .zero).row) = mixRows ((l.take (i + 1)) ++ List.replicate (l.length - (i + 1)) .zero) := by
  rw [to_at_MixR h]
  show (mixRows _).set i (l.getD i .zero).row = _
  have e : l.length - i = (l.length - (i + 1)) + 1 := by omega
  rw [e, List.replicate_succ]
  unfold mixRows
  rw [List.map_append, List.map_cons, at_set (by simp; omega), take_succ (z := MixR.zero) h, List.append_assoc, List.map_append, List.map_append]
  rfl
theorem to_at_HalfR {l : List HalfR} {i : Nat} (h : i < l.length) : (halfRows ((l.take i) ++ List.replicate (l.length - i) HalfR.zero)).getD i [] = HalfR.zero.row := by
  rw [halfRows_getD (by simp; omega), List.getD_eq_getElem?_getD, List.getElem?_append_right (by simp; omega)]
  rw [List.getElem?_replicate, if_pos (by simp; omega)]
  rfl
theorem to_step_HalfR {l : List HalfR} {i : Nat} (h : i < l.length) : (halfRows ((l.take i) ++ List.replicate (l.length - i) HalfR.zero)).set i (setSeg ((halfRows ((l.take i) ++ List.replicate (l.length - i) HalfR.zero)).getD i []) 0 (l.getD i .zero).row) = halfRows ((l.take (i + 1)) ++ List.replicate (l.length - (i + 1)) .zero) := by
  rw [to_at_HalfR h]
  show (halfRows _).set i (l.getD i .zero).row = _
  have e : l.length - i = (l.length - (i + 1)) + 1 := by omega
  rw [e, List.replicate_succ]
  unfold halfRows
  rw [List.map_append, List.map_cons, at_set (by simp; omega), take_succ (z := HalfR.zero) h, List.append_assoc, List.map_append, List.map_append]
  rfl
end Go.Ab

namespace Go.Proofs.YtllapabiebopcaaGreatDoor
open Go Go.Ab Go.RowKit
set_option linter.unusedVariables false
set_option linter.unusedSimpArgs false

theorem s_laws_szMixed (m : MixR) (n : Int) : Ab.SpecE Tryz.prog 89 2 [(.t 0, .v (m.V)), (.t 1, .v (I n))] (fun s => ∃ r : Int, s = [(.t 0, .v (I r))]) := by
  refine specE_of_body tabOk Tryz.func89 rfl (by kernel_rfl) (by decide) (by kernel_rfl) rfl ?_
  refine SW.seq ?_
  refine SW.regT tabOk [1, 2] ?_
  refine ai trivial (ai trivial ?_)
  refine SW.seq ?_
  refine SW.regT tabOk [1] ?_
  refine ai trivial (ai (by first | trivial | rfl) (ai vc (ai vc (ai trivial (ai trivial ?_)))))
  refine SW.seq ?_
  refine SW.seq ?_
  refine SW.regT tabOk [1, 11] ?_
  refine ai trivial (ai trivial ?_)
  refine SW.cond rfl (fun c11 => ?_) (fun c11 => ?_)
  · skip
    refine SW.seq ?_
    refine SW.regT tabOk [4] ?_
    refine ai trivial ?_
    refine SW.ret ?_
    refine retQR _ ⟨_, rfl⟩ (retOk1 rfl rfl)
  · skip
    refine SW.skip ?_
    refine SW.seq ?_
    refine SW.regT tabOk [4] ?_
    refine ai trivial (ai trivial ?_)
    refine SW.ret ?_
    refine retQR _ ⟨_, rfl⟩ (retOk1 rfl rfl)

set_option maxHeartbeats 800000 in
theorem s_laws_szMixedS (l : List MixR) (n : Int) (hg : l.length * 24 ≤ 140737488355328) : Ab.SpecE Tryz.prog 77 2 [(.t 0, .v (Dv (.sl (mixRows l)))), (.t 1, .v (I n))] (fun s => ∃ r : Int, s = [(.t 0, .v (I r))]) := by
  refine specE_of_body tabOk Tryz.func77 rfl (by kernel_rfl) (by decide) (by kernel_rfl) rfl ?_
  refine SW.seq ?_
  refine SW.regT tabOk [0, 1] ?_
  refine ai trivial ?_
  refine SW.seq ?_
  refine SW.regT tabOk [0, 1] ?_
  refine ai trivial (ai trivial (ai vc (ai trivial (ai trivial ?_))))
  refine SW.seq ?_
  refine SW.seq ?_
  refine SW.regT tabOk [0, 1, 11] ?_
  refine ai trivial (ai trivial ?_)
  refine SW.cond rfl (fun c11 => ?_) (fun c11 => ?_)
  · skip
    refine SW.seq ?_
    refine SW.regT tabOk [4] ?_
    refine ai trivial ?_
    refine SW.ret ?_
    refine retQR _ ⟨_, rfl⟩ (retOk1 rfl rfl)
  · skip
    refine SW.skip ?_
    refine SW.seq ?_
    refine SW.seq ?_
    refine SW.regT tabOk [0, 1, 5] ?_
    refine ai trivial ?_
    refine SW.block ?_
    -- live at the head: [0, 1, 5]
    refine SW.loopW (n := l.length) (fun m q => ∃ (i : Nat) (x : Int), m = l.length - i ∧ i ≤ l.length ∧ q = [(.t 0, .v (Dv (.sl (mixRows l)))), (.t 1, .v (I x)), (.t 5, .v (I (i : Nat)))]) ?_ ?_
    · skip
      refine wk [(.t 0, .v (Dv (.sl (mixRows l)))), (.t 1, .v (I (wrap64 (n - ((mixRows l).length : Int))))), (.t 5, .v (I (0 : Nat)))] [] [] (⟨0, _, rfl, Nat.zero_le _, rfl⟩) ?_ rfl rfl
      repeat' first | exact trivial | refine mL_nil rfl ?_ | refine mL_d rfl ?_ ?_ | refine mL_own rfl rfl ?_ rfl ?_ | refine mL_row rfl ?_ ?_ | refine mL_pt rfl rfl rfl rfl ?_ | refine mL_box rfl ?_ ?_ | refine mL_agg rfl ?_ ?_ | exact mCs_nil0 | refine mCs_d ?_ ?_ | refine mCs_nil ?_ | refine mCs_own rfl ?_ rfl ?_ | refine mCs_pt rfl rfl rfl ?_
      all_goals first | with_reducible rfl | (first | rfl | (simp; done) | omega)
    rintro n s ⟨i, x, rfl, hi, rfl⟩
    refine SW.seq ?_
    refine SW.seq ?_
    refine SW.regT tabOk [0, 1, 5, 15] ?_
    refine ai trivial (ai trivial (ai vc (ai trivial ?_)))
    refine SW.cond rfl (fun c15 => ?_) (fun c15 => ?_)
    · skip
      have hi2 : i < l.length := by simpa [mixRows_length] using c15
      have hgg := mixRows_getD (l := l) hi2
      have hmem : l.getD i .zero ∈ l := mem_getD hi2
      refine SW.skip ?_
      refine SW.seq ?_
      refine SW.block ?_
      refine SW.seq ?_
      refine SW.regE tabOk [0, 1, 5] ?_
      refine ai trivial (ai trivial (ai (by rw [Int.toNat_natCast, hgg]; exact ⟨⟨by omega, by rw [mixRows_length]; omega⟩, rfl⟩) (ai (by rw [Int.toNat_natCast, hgg]; exact ⟨Nat.le_of_ble_eq_true rfl, rfl⟩) (ai trivial ?_))))
      refine ee_call (rl := []) (bor := []) (news := []) (robj := []) (s_laws_szMixed (l.getD i .zero) x) rfl rfl rfl rfl (by refine ⟨mL_agg rfl ?_ (mL_d rfl rfl trivial), rfl⟩; rw [Int.toNat_natCast, hgg]; exact mCs_d rfl (mCs_d rfl trivial)) (fun σ hσ => by obtain ⟨r, rfl⟩ := hσ; exact ⟨rfl, .inl rfl, fun j hj => by simp [newIds, objIds] at hj⟩) (fun p hp => nomatch hp) (fun j hj => nomatch hj) ?_
      rintro σ ⟨r, rfl⟩
      refine ai trivial ?_
      refine SW.seq ?_
      refine SW.regT tabOk [0, 1, 5, 25] ?_
      refine ai trivial (ai trivial ?_)
      refine SW.cond rfl (fun c25 => ?_) (fun c25 => ?_)
      · skip
        refine SW.seq ?_
        refine SW.regT tabOk [4] ?_
        refine ai trivial ?_
        refine SW.ret ?_
        refine retQR _ ⟨_, rfl⟩ (retOk1 rfl rfl)
      · skip
        refine SW.skip ?_
        refine SW.regT tabOk [0, 1, 5] ?_
        refine ai trivial (ai trivial (ai trivial ?_))
        refine wk [(.t 0, .v (Dv (.sl (mixRows l)))), (.t 1, .v (I r)), (.t 5, .v (I ((i + 1) : Nat)))] [] [] (⟨l.length - (i + 1), by omega, i + 1, r, rfl, by omega, rfl⟩) ?_ rfl rfl
        repeat' first | exact trivial | refine mL_nil rfl ?_ | refine mL_d rfl ?_ ?_ | refine mL_own rfl rfl ?_ rfl ?_ | refine mL_row rfl ?_ ?_ | refine mL_pt rfl rfl rfl rfl ?_ | refine mL_box rfl ?_ ?_ | refine mL_agg rfl ?_ ?_ | exact mCs_nil0 | refine mCs_d ?_ ?_ | refine mCs_nil ?_ | refine mCs_own rfl ?_ rfl ?_ | refine mCs_pt rfl rfl rfl ?_
        all_goals first | with_reducible rfl | (first | with_reducible rfl | exact congrArg D.i (wrap64_of (by omega)))
    · skip
      refine SW.exit ?_
      refine SW.seq ?_
      refine SW.regT tabOk [4] ?_
      refine ai trivial (ai trivial ?_)
      refine SW.ret ?_
      refine retQR _ ⟨_, rfl⟩ (retOk1 rfl rfl)

theorem s_laws_toMixed (m : MixR) : Ab.Spec Tryz.prog 105 1 [(.t 0, .v (m.V))] [(.t 0, .v (m.V))] := by
  refine spec_of_body tabOk Tryz.func105 rfl (by kernel_rfl) (by decide) (by kernel_rfl) rfl ?_
  refine SW.seq ?_
  refine SW.regT tabOk [1, 2] ?_
  refine ai trivial (ai trivial ?_)
  refine SW.seq ?_
  refine SW.regT tabOk [1, 2, 3] ?_
  refine ai trivial ?_
  refine SW.seq ?_
  refine SW.regT tabOk [1, 2, 3] ?_
  refine ai (by first | trivial | rfl) (ai vc (ai (by first | trivial | rfl) (ai ⟨by kernel_rfl, Nat.le_of_ble_eq_true (by kernel_rfl)⟩ ?_)))
  refine SW.seq ?_
  refine SW.regT tabOk [2, 3] ?_
  refine ai (by first | trivial | rfl) (ai vc (ai (by first | trivial | rfl) (ai ⟨by kernel_rfl, Nat.le_of_ble_eq_true (by kernel_rfl)⟩ ?_)))
  refine SW.seq ?_
  refine SW.regT tabOk [2] ?_
  refine ai vc (ai ⟨by kernel_rfl, Nat.le_of_ble_eq_true (by kernel_rfl)⟩ ?_)
  refine SW.ret ?_
  refine retOkP rfl rfl ?_
  rfl

set_option maxHeartbeats 800000 in
theorem s_laws_toMixedS (l : List MixR) (hg : l.length * 24 ≤ 140737488355328) : Ab.Spec Tryz.prog 83 1 [(.t 0, .v (Dv (.sl (mixRows l))))] [(.t 0, .v (Dv (.sl (mixRows l))))] := by
  refine spec_of_body tabOk Tryz.func83 rfl (by kernel_rfl) (by decide) (by kernel_rfl) rfl ?_
  refine SW.seq ?_
  refine SW.regT tabOk [0] ?_
  refine ai trivial ?_
  refine SW.seq ?_
  refine SW.regT tabOk [0, 3] ?_
  refine ai trivial (ai vc (ai (by refine ⟨rfl, by omega, ?_⟩; rw [mixRows_length]; show ((24 : Nat) : Int) * _ ≤ _; omega) (ai trivial ?_)))
  refine SW.seq ?_
  refine SW.seq ?_
  refine SW.regT tabOk [0, 3, 4] ?_
  refine ai trivial ?_
  refine SW.block ?_
  -- live at the head: [0, 3, 4]
  refine SW.loopW (n := l.length) (fun m q => ∃ i : Nat, m = l.length - i ∧ i ≤ l.length ∧ q = [(.t 0, .v (Dv (.sl (mixRows l)))), (.t 3, .v (.e (.c (.own 7 l.length)))), (.t 4, .v (I (i : Nat))), (.o 7, .row 88 2 (mixRows ((l.take i) ++ List.replicate (l.length - i) .zero)))]) ?_ ?_
  · skip
    refine wk [(.t 0, .v (Dv (.sl (mixRows l)))), (.t 3, .v (.e (.c (.own 7 l.length)))), (.t 4, .v (I (0 : Nat))), (.o 7, .row 88 2 (mixRows ((l.take 0) ++ List.replicate (l.length - 0) .zero)))] [] [] (⟨0, rfl, Nat.zero_le _, rfl⟩) ?_ rfl rfl
    repeat' first | exact trivial | refine mL_nil rfl ?_ | refine mL_d rfl ?_ ?_ | refine mL_own rfl rfl ?_ rfl ?_ | refine mL_row rfl ?_ ?_ | refine mL_pt rfl rfl rfl rfl ?_ | refine mL_box rfl ?_ ?_ | refine mL_agg rfl ?_ ?_ | exact mCs_nil0 | refine mCs_d ?_ ?_ | refine mCs_nil ?_ | refine mCs_own rfl ?_ rfl ?_ | refine mCs_pt rfl rfl rfl ?_
    all_goals first | with_reducible rfl | (first | with_reducible rfl | rfl | (rw [mixRows_length]; rfl) | (simp [mixRows, mixRows_length, MixR.row, MixR.zero]; done) | (simp [mixRows, halfRows, HalfR.row, HalfR.zero]; done))
  rintro n s ⟨i, rfl, hi, rfl⟩
  refine SW.seq ?_
  refine SW.seq ?_
  refine SW.regT tabOk [0, 3, 4, 11] ?_
  refine ai trivial (ai trivial (ai vc (ai trivial ?_)))
  refine SW.cond rfl (fun c11 => ?_) (fun c11 => ?_)
  · skip
    have hi2 : i < l.length := by simpa [mixRows_length] using c11
    have hgg := mixRows_getD (l := l) hi2
    have hmem : l.getD i .zero ∈ l := mem_getD hi2
    refine SW.skip ?_
    refine SW.seq ?_
    refine SW.block ?_
    refine SW.regT tabOk [0, 3, 4] ?_
    refine ai trivial (ai trivial (ai trivial (ai trivial (ai (by rw [Int.toNat_natCast, hgg]; exact ⟨⟨by omega, by rw [mixRows_length]; omega⟩, rfl⟩) (ai (by rw [Int.toNat_natCast, hgg]; exact ⟨Nat.le_of_ble_eq_true rfl, rfl⟩) ?_)))))
    refine ex_pure (s_laws_toMixed (l.getD i .zero)) rfl rfl rfl rfl rfl (by rw [Int.toNat_natCast, hgg]; rfl) rfl rfl ?_
    refine ai (by refine ⟨?_, by omega, by omega⟩; simp [mixRows_length]; omega) (ai (by rw [Int.toNat_natCast, to_at_MixR hi2]; exact ⟨by simp [mixRows_length]; omega, by omega, rfl, Nat.le_refl _⟩) ?_)
    refine SW.regT tabOk [0, 3, 4] ?_
    refine ai trivial (ai trivial (ai trivial ?_))
    refine wk [(.t 0, .v (Dv (.sl (mixRows l)))), (.t 3, .v (.e (.c (.own 7 l.length)))), (.t 4, .v (I ((i + 1) : Nat))), (.o 7, .row 88 2 (mixRows ((l.take (i + 1)) ++ List.replicate (l.length - (i + 1)) .zero)))] [] [] (⟨l.length - (i + 1), by omega, i + 1, rfl, by omega, rfl⟩) ?_ rfl rfl
    repeat' first | exact trivial | refine mL_nil rfl ?_ | refine mL_d rfl ?_ ?_ | refine mL_own rfl rfl ?_ rfl ?_ | refine mL_row rfl ?_ ?_ | refine mL_pt rfl rfl rfl rfl ?_ | refine mL_box rfl ?_ ?_ | refine mL_agg rfl ?_ ?_ | exact mCs_nil0 | refine mCs_d ?_ ?_ | refine mCs_nil ?_ | refine mCs_own rfl ?_ rfl ?_ | refine mCs_pt rfl rfl rfl ?_
    all_goals first | with_reducible rfl | (first | with_reducible rfl | exact congrArg D.i (by rw [wrap64_of (by omega)]; omega) | (rw [Int.toNat_natCast]; exact to_step_MixR hi2))
  · skip
    have hi3 : i = l.length := by simp [mixRows_length] at c11; omega
    subst hi3
    refine SW.exit ?_
    refine SW.seq ?_
    refine SW.regT tabOk [2] ?_
    refine ai trivial (ai trivial ?_)
    refine SW.ret ?_
    refine retOk _ [] [7] rfl (mL_froze rfl rfl rfl ?_ (congrArg D.sl ?_) trivial) rfl rfl
    · simp [mixRows_length]
    · simp

theorem s_laws_eqMixed (a b : MixR) : Ab.Spec Tryz.prog 109 2 [(.t 0, .v (a.V)), (.t 1, .v (b.V))] [(.t 0, .v (B (decide (a = b))))] := by
  refine spec_of_body tabOk Tryz.func109 rfl (by kernel_rfl) (by decide) (by kernel_rfl) rfl ?_
  refine SW.seq ?_
  refine SW.regT tabOk [2, 3] ?_
  refine ai trivial (ai trivial (ai trivial ?_))
  refine SW.seq ?_
  refine SW.seq ?_
  refine SW.regT tabOk [2, 3, 9] ?_
  refine ai (by first | trivial | rfl) (ai vc (ai (by first | trivial | rfl) (ai vc (ai trivial ?_))))
  refine SW.cond rfl (fun c9 => ?_) (fun c9 => ?_)
  · skip
    refine SW.seq ?_
    refine SW.regT tabOk [4] ?_
    refine ai trivial ?_
    refine SW.ret ?_
    refine retOk1 rfl (congrArg D.b ?_)
    cases a; cases b; simp_all
  · skip
    refine SW.skip ?_
    refine SW.seq ?_
    refine SW.seq ?_
    refine SW.regT tabOk [14] ?_
    refine ai (by first | trivial | rfl) (ai vc (ai (by first | trivial | rfl) (ai vc (ai vc ?_))))
    refine SW.cond rfl (fun c14 => ?_) (fun c14 => ?_)
    · skip
      refine SW.seq ?_
      refine SW.regT tabOk [4] ?_
      refine ai trivial ?_
      refine SW.ret ?_
      refine retOk1 rfl (congrArg D.b ?_)
      cases a; cases b; simp_all
    · skip
      refine SW.skip ?_
      refine SW.seq ?_
      refine SW.regT tabOk [4] ?_
      refine ai trivial ?_
      refine SW.ret ?_
      refine retOk1 rfl (congrArg D.b ?_)
      cases a; cases b; simp_all

set_option maxHeartbeats 800000 in
theorem s_laws_eqMixedS (a b : List MixR) (hg : a.length * 24 ≤ 140737488355328) : Ab.Spec Tryz.prog 88 2 [(.t 0, .v (Dv (.sl (mixRows a)))), (.t 1, .v (Dv (.sl (mixRows b))))] [(.t 0, .v (B (decide (a = b))))] := by
  refine spec_of_body tabOk Tryz.func88 rfl (by kernel_rfl) (by decide) (by kernel_rfl) rfl ?_
  refine SW.seq ?_
  refine SW.regT tabOk [0, 1] ?_
  refine ai trivial ?_
  refine SW.seq ?_
  refine SW.seq ?_
  refine SW.regT tabOk [0, 1, 10] ?_
  refine ai trivial (ai vc (ai trivial (ai vc (ai trivial ?_))))
  refine SW.cond rfl (fun c10 => ?_) (fun c10 => ?_)
  · skip
    refine SW.seq ?_
    refine SW.regT tabOk [4] ?_
    refine ai trivial ?_
    refine SW.ret ?_
    refine retOk1 rfl (congrArg D.b ?_)
    symm
    apply decide_eq_false
    intro e
    rw [e] at c10
    simp at c10
  · skip
    have hlen : a.length = b.length := by simp [mixRows_length] at c10; omega
    refine SW.skip ?_
    refine SW.seq ?_
    refine SW.seq ?_
    refine SW.regT tabOk [0, 1, 5] ?_
    refine ai trivial ?_
    refine SW.block ?_
    -- live at the head: [0, 1, 5]
    refine SW.loopW (n := a.length) (fun m q => ∃ i : Nat, m = a.length - i ∧ i ≤ a.length ∧ (∀ j, j < i → a.getD j .zero = b.getD j .zero) ∧ q = [(.t 0, .v (Dv (.sl (mixRows a)))), (.t 1, .v (Dv (.sl (mixRows b)))), (.t 5, .v (I (i : Nat)))]) ?_ ?_
    · skip
      refine wk [(.t 0, .v (Dv (.sl (mixRows a)))), (.t 1, .v (Dv (.sl (mixRows b)))), (.t 5, .v (I (0 : Nat)))] [] [] (⟨0, rfl, Nat.zero_le _, fun j h => absurd h (by omega), rfl⟩) ?_ rfl rfl
      repeat' first | exact trivial | refine mL_nil rfl ?_ | refine mL_d rfl ?_ ?_ | refine mL_own rfl rfl ?_ rfl ?_ | refine mL_row rfl ?_ ?_ | refine mL_pt rfl rfl rfl rfl ?_ | refine mL_box rfl ?_ ?_ | refine mL_agg rfl ?_ ?_ | exact mCs_nil0 | refine mCs_d ?_ ?_ | refine mCs_nil ?_ | refine mCs_own rfl ?_ rfl ?_ | refine mCs_pt rfl rfl rfl ?_
      all_goals first | with_reducible rfl | (first | rfl | (simp; done) | omega)
    rintro n s ⟨i, rfl, hi, hk, rfl⟩
    refine SW.seq ?_
    refine SW.seq ?_
    refine SW.regT tabOk [0, 1, 5, 14] ?_
    refine ai trivial (ai trivial (ai vc (ai trivial ?_)))
    refine SW.cond rfl (fun c14 => ?_) (fun c14 => ?_)
    · skip
      have hi2 : i < a.length := by simpa [mixRows_length] using c14
      have hga := mixRows_getD (l := a) hi2
      have hgb := mixRows_getD (l := b) (i := i) (by omega)
      have hmem : a.getD i .zero ∈ a := mem_getD hi2
      refine SW.skip ?_
      refine SW.seq ?_
      refine SW.block ?_
      refine SW.seq ?_
      refine SW.regD tabOk mo [0, 1, 5, 26] ?_
      refine ai trivial (ai trivial (ai (by rw [Int.toNat_natCast, hga]; exact ⟨⟨by omega, by rw [mixRows_length]; omega⟩, rfl⟩) (ai (by rw [Int.toNat_natCast, hga]; exact ⟨Nat.le_of_ble_eq_true rfl, rfl⟩) (ai trivial (ai trivial (ai (by rw [Int.toNat_natCast, hgb]; exact ⟨⟨by omega, by rw [mixRows_length]; omega⟩, rfl⟩) (ai (by rw [Int.toNat_natCast, hgb]; exact ⟨Nat.le_of_ble_eq_true rfl, rfl⟩) ?_)))))))
      refine ex_pure (s_laws_eqMixed (a.getD i .zero) (b.getD i .zero)) rfl rfl rfl rfl rfl (by rw [Int.toNat_natCast, hga, hgb]; rfl) rfl rfl ?_
      refine ai trivial (ai (by kernel_rfl) ?_)
      refine SW.cond rfl (fun c26 => ?_) (fun c26 => ?_)
      · skip
        refine SW.seq ?_
        refine SW.regT tabOk [4] ?_
        refine ai trivial ?_
        refine SW.ret ?_
        refine retOk1 rfl (congrArg D.b ?_)
        exact (decide_eq_false (ne_of_getD (z := MixR.zero) (j := i) (by simpa using c26))).symm
      · skip
        refine SW.skip ?_
        refine SW.regT tabOk [0, 1, 5] ?_
        refine ai trivial (ai trivial (ai trivial ?_))
        have hs : a.getD i .zero = b.getD i .zero := by simpa using c26
        refine wk [(.t 0, .v (Dv (.sl (mixRows a)))), (.t 1, .v (Dv (.sl (mixRows b)))), (.t 5, .v (I ((i + 1) : Nat)))] [] [] (⟨a.length - (i + 1), by omega, i + 1, rfl, by omega, fun j h => by by_cases e : j = i; exact e ▸ hs; exact hk j (by omega), rfl⟩) ?_ rfl rfl
        repeat' first | exact trivial | refine mL_nil rfl ?_ | refine mL_d rfl ?_ ?_ | refine mL_own rfl rfl ?_ rfl ?_ | refine mL_row rfl ?_ ?_ | refine mL_pt rfl rfl rfl rfl ?_ | refine mL_box rfl ?_ ?_ | refine mL_agg rfl ?_ ?_ | exact mCs_nil0 | refine mCs_d ?_ ?_ | refine mCs_nil ?_ | refine mCs_own rfl ?_ rfl ?_ | refine mCs_pt rfl rfl rfl ?_
        all_goals first | with_reducible rfl | (first | with_reducible rfl | exact congrArg D.i (wrap64_of (by omega)))
    · skip
      have hi3 : i = a.length := by simp [mixRows_length] at c14; omega
      refine SW.exit ?_
      refine SW.seq ?_
      refine SW.regT tabOk [4] ?_
      refine ai trivial ?_
      refine SW.ret ?_
      refine retOk1 rfl (congrArg D.b ?_)
      subst hi3
      exact (decide_eq_true (eq_of_getD (z := MixR.zero) hlen hk)).symm

theorem s_laws_szHalf (h : HalfR) (n : Int) (hg : h.got.length * 24 ≤ 140737488355328) : Ab.SpecE Tryz.prog 57 2 [(.t 0, .v (h.V)), (.t 1, .v (I n))] (fun s => ∃ r : Int, s = [(.t 0, .v (I r))]) := by
  refine specE_of_body tabOk Tryz.func57 rfl (by kernel_rfl) (by decide) (by kernel_rfl) rfl ?_
  refine SW.seq ?_
  refine SW.regT tabOk [1, 2] ?_
  refine ai trivial (ai trivial ?_)
  refine SW.seq ?_
  refine SW.regE tabOk [1] ?_
  refine ai (by first | trivial | rfl) (ai vc (ai trivial ?_))
  refine ee_call (rl := []) (bor := []) (news := []) (robj := []) (s_laws_szMixedS h.got _ hg) rfl rfl rfl rfl (match_plain rfl) (fun σ hσ => by obtain ⟨r, rfl⟩ := hσ; exact ⟨rfl, .inl rfl, fun j hj => by simp [newIds, objIds] at hj⟩) (fun p hp => nomatch hp) (fun j hj => nomatch hj) ?_
  rintro σ ⟨r, rfl⟩
  refine ai trivial ?_
  refine SW.seq ?_
  refine SW.seq ?_
  refine SW.regT tabOk [1, 10] ?_
  refine ai trivial (ai trivial ?_)
  refine SW.cond rfl (fun c10 => ?_) (fun c10 => ?_)
  · skip
    refine SW.seq ?_
    refine SW.regT tabOk [4] ?_
    refine ai trivial ?_
    refine SW.ret ?_
    refine retQR _ ⟨_, rfl⟩ (retOk1 rfl rfl)
  · skip
    refine SW.skip ?_
    refine SW.seq ?_
    refine SW.regT tabOk [4] ?_
    refine ai trivial (ai trivial ?_)
    refine SW.ret ?_
    refine retQR _ ⟨_, rfl⟩ (retOk1 rfl rfl)

set_option maxHeartbeats 800000 in
theorem s_laws_szHalfS (l : List HalfR) (n : Int) (hg : l.length * 64 ≤ 140737488355328) (hx : ∀ h ∈ l, h.got.length * 24 ≤ 140737488355328) : Ab.SpecE Tryz.prog 27 2 [(.t 0, .v (Dv (.sl (halfRows l)))), (.t 1, .v (I n))] (fun s => ∃ r : Int, s = [(.t 0, .v (I r))]) := by
  refine specE_of_body tabOk Tryz.func27 rfl (by kernel_rfl) (by decide) (by kernel_rfl) rfl ?_
  refine SW.seq ?_
  refine SW.regT tabOk [0, 1] ?_
  refine ai trivial ?_
  refine SW.seq ?_
  refine SW.regT tabOk [0, 1] ?_
  refine ai trivial (ai trivial (ai vc (ai trivial (ai trivial ?_))))
  refine SW.seq ?_
  refine SW.seq ?_
  refine SW.regT tabOk [0, 1, 11] ?_
  refine ai trivial (ai trivial ?_)
  refine SW.cond rfl (fun c11 => ?_) (fun c11 => ?_)
  · skip
    refine SW.seq ?_
    refine SW.regT tabOk [4] ?_
    refine ai trivial ?_
    refine SW.ret ?_
    refine retQR _ ⟨_, rfl⟩ (retOk1 rfl rfl)
  · skip
    refine SW.skip ?_
    refine SW.seq ?_
    refine SW.seq ?_
    refine SW.regT tabOk [0, 1, 5] ?_
    refine ai trivial ?_
    refine SW.block ?_
    -- live at the head: [0, 1, 5]
    refine SW.loopW (n := l.length) (fun m q => ∃ (i : Nat) (x : Int), m = l.length - i ∧ i ≤ l.length ∧ q = [(.t 0, .v (Dv (.sl (halfRows l)))), (.t 1, .v (I x)), (.t 5, .v (I (i : Nat)))]) ?_ ?_
    · skip
      refine wk [(.t 0, .v (Dv (.sl (halfRows l)))), (.t 1, .v (I (wrap64 (n - ((halfRows l).length : Int))))), (.t 5, .v (I (0 : Nat)))] [] [] (⟨0, _, rfl, Nat.zero_le _, rfl⟩) ?_ rfl rfl
      repeat' first | exact trivial | refine mL_nil rfl ?_ | refine mL_d rfl ?_ ?_ | refine mL_own rfl rfl ?_ rfl ?_ | refine mL_row rfl ?_ ?_ | refine mL_pt rfl rfl rfl rfl ?_ | refine mL_box rfl ?_ ?_ | refine mL_agg rfl ?_ ?_ | exact mCs_nil0 | refine mCs_d ?_ ?_ | refine mCs_nil ?_ | refine mCs_own rfl ?_ rfl ?_ | refine mCs_pt rfl rfl rfl ?_
      all_goals first | with_reducible rfl | (first | rfl | (simp; done) | omega)
    rintro n s ⟨i, x, rfl, hi, rfl⟩
    refine SW.seq ?_
    refine SW.seq ?_
    refine SW.regT tabOk [0, 1, 5, 15] ?_
    refine ai trivial (ai trivial (ai vc (ai trivial ?_)))
    refine SW.cond rfl (fun c15 => ?_) (fun c15 => ?_)
    · skip
      have hi2 : i < l.length := by simpa [halfRows_length] using c15
      have hgg := halfRows_getD (l := l) hi2
      have hmem : l.getD i .zero ∈ l := mem_getD hi2
      refine SW.skip ?_
      refine SW.seq ?_
      refine SW.block ?_
      refine SW.seq ?_
      refine SW.regE tabOk [0, 1, 5] ?_
      refine ai trivial (ai trivial (ai (by rw [Int.toNat_natCast, hgg]; exact ⟨⟨by omega, by rw [halfRows_length]; omega⟩, rfl⟩) (ai (by rw [Int.toNat_natCast, hgg]; exact ⟨Nat.le_of_ble_eq_true rfl, rfl⟩) (ai trivial ?_))))
      refine ee_call (rl := []) (bor := []) (news := []) (robj := []) (s_laws_szHalf (l.getD i .zero) x (hx _ hmem)) rfl rfl rfl rfl (by refine ⟨mL_agg rfl ?_ (mL_d rfl rfl trivial), rfl⟩; rw [Int.toNat_natCast, hgg]; exact mCs_d rfl (mCs_d rfl (mCs_d rfl (mCs_d rfl (mCs_d rfl (mCs_d rfl trivial)))))) (fun σ hσ => by obtain ⟨r, rfl⟩ := hσ; exact ⟨rfl, .inl rfl, fun j hj => by simp [newIds, objIds] at hj⟩) (fun p hp => nomatch hp) (fun j hj => nomatch hj) ?_
      rintro σ ⟨r, rfl⟩
      refine ai trivial ?_
      refine SW.seq ?_
      refine SW.regT tabOk [0, 1, 5, 25] ?_
      refine ai trivial (ai trivial ?_)
      refine SW.cond rfl (fun c25 => ?_) (fun c25 => ?_)
      · skip
        refine SW.seq ?_
        refine SW.regT tabOk [4] ?_
        refine ai trivial ?_
        refine SW.ret ?_
        refine retQR _ ⟨_, rfl⟩ (retOk1 rfl rfl)
      · skip
        refine SW.skip ?_
        refine SW.regT tabOk [0, 1, 5] ?_
        refine ai trivial (ai trivial (ai trivial ?_))
        refine wk [(.t 0, .v (Dv (.sl (halfRows l)))), (.t 1, .v (I r)), (.t 5, .v (I ((i + 1) : Nat)))] [] [] (⟨l.length - (i + 1), by omega, i + 1, r, rfl, by omega, rfl⟩) ?_ rfl rfl
        repeat' first | exact trivial | refine mL_nil rfl ?_ | refine mL_d rfl ?_ ?_ | refine mL_own rfl rfl ?_ rfl ?_ | refine mL_row rfl ?_ ?_ | refine mL_pt rfl rfl rfl rfl ?_ | refine mL_box rfl ?_ ?_ | refine mL_agg rfl ?_ ?_ | exact mCs_nil0 | refine mCs_d ?_ ?_ | refine mCs_nil ?_ | refine mCs_own rfl ?_ rfl ?_ | refine mCs_pt rfl rfl rfl ?_
        all_goals first | with_reducible rfl | (first | with_reducible rfl | exact congrArg D.i (wrap64_of (by omega)))
    · skip
      refine SW.exit ?_
      refine SW.seq ?_
      refine SW.regT tabOk [4] ?_
      refine ai trivial (ai trivial ?_)
      refine SW.ret ?_
      refine retQR _ ⟨_, rfl⟩ (retOk1 rfl rfl)

theorem s_laws_toHalf (h : HalfR) (hg : h.got.length * 24 ≤ 140737488355328) : Ab.Spec Tryz.prog 64 1 [(.t 0, .v (h.V))] [(.t 0, .v (h.V))] := by
  refine spec_of_body tabOk Tryz.func64 rfl (by kernel_rfl) (by decide) (by kernel_rfl) rfl ?_
  refine SW.seq ?_
  refine SW.regT tabOk [1, 2] ?_
  refine ai trivial (ai trivial ?_)
  refine SW.seq ?_
  refine SW.regT tabOk [1, 2, 3] ?_
  refine ai trivial ?_
  refine SW.seq ?_
  refine SW.regT tabOk [1, 2, 3] ?_
  refine ai (by first | trivial | rfl) (ai vc (ai (by first | trivial | rfl) (ai ⟨by kernel_rfl, Nat.le_of_ble_eq_true (by kernel_rfl)⟩ ?_)))
  refine SW.seq ?_
  refine SW.regT tabOk [1, 2, 3] ?_
  refine ai (by first | trivial | rfl) (ai vc (ai (by first | trivial | rfl) (ai ⟨by kernel_rfl, Nat.le_of_ble_eq_true (by kernel_rfl)⟩ ?_)))
  refine SW.seq ?_
  refine SW.regT tabOk [1, 2, 3] ?_
  refine ai (by first | trivial | rfl) (ai vc (ai (by first | trivial | rfl) (ai ⟨by kernel_rfl, Nat.le_of_ble_eq_true (by kernel_rfl)⟩ ?_)))
  refine SW.seq ?_
  refine SW.regT tabOk [1, 2, 3] ?_
  refine ai (by first | trivial | rfl) (ai vc (ai (by first | trivial | rfl) (ai ⟨by kernel_rfl, Nat.le_of_ble_eq_true (by kernel_rfl)⟩ ?_)))
  refine SW.seq ?_
  refine SW.regT tabOk [1, 2, 3] ?_
  refine ai (by first | trivial | rfl) (ai vc (ai (by first | trivial | rfl) (ai ⟨by kernel_rfl, Nat.le_of_ble_eq_true (by kernel_rfl)⟩ ?_)))
  refine SW.seq ?_
  refine SW.regT tabOk [2, 3] ?_
  refine ai (by first | trivial | rfl) (ai vc ?_)
  refine ex_pure (s_laws_toMixedS h.got hg) rfl rfl rfl rfl rfl rfl rfl rfl ?_
  refine ai (by first | trivial | rfl) (ai ⟨by kernel_rfl, Nat.le_of_ble_eq_true (by kernel_rfl)⟩ ?_)
  refine SW.seq ?_
  refine SW.regT tabOk [2] ?_
  refine ai vc (ai ⟨by kernel_rfl, Nat.le_of_ble_eq_true (by kernel_rfl)⟩ ?_)
  refine SW.ret ?_
  refine retOkP rfl rfl ?_
  rfl

set_option maxHeartbeats 800000 in
theorem s_laws_toHalfS (l : List HalfR) (hg : l.length * 64 ≤ 140737488355328) (hx : ∀ h ∈ l, h.got.length * 24 ≤ 140737488355328) : Ab.Spec Tryz.prog 35 1 [(.t 0, .v (Dv (.sl (halfRows l))))] [(.t 0, .v (Dv (.sl (halfRows l))))] := by
  refine spec_of_body tabOk Tryz.func35 rfl (by kernel_rfl) (by decide) (by kernel_rfl) rfl ?_
  refine SW.seq ?_
  refine SW.regT tabOk [0] ?_
  refine ai trivial ?_
  refine SW.seq ?_
  refine SW.regT tabOk [0, 3] ?_
  refine ai trivial (ai vc (ai (by refine ⟨rfl, by omega, ?_⟩; rw [halfRows_length]; show ((64 : Nat) : Int) * _ ≤ _; omega) (ai trivial ?_)))
  refine SW.seq ?_
  refine SW.seq ?_
  refine SW.regT tabOk [0, 3, 4] ?_
  refine ai trivial ?_
  refine SW.block ?_
  -- live at the head: [0, 3, 4]
  refine SW.loopW (n := l.length) (fun m q => ∃ i : Nat, m = l.length - i ∧ i ≤ l.length ∧ q = [(.t 0, .v (Dv (.sl (halfRows l)))), (.t 3, .v (.e (.c (.own 7 l.length)))), (.t 4, .v (I (i : Nat))), (.o 7, .row 62 6 (halfRows ((l.take i) ++ List.replicate (l.length - i) .zero)))]) ?_ ?_
  · skip
    refine wk [(.t 0, .v (Dv (.sl (halfRows l)))), (.t 3, .v (.e (.c (.own 7 l.length)))), (.t 4, .v (I (0 : Nat))), (.o 7, .row 62 6 (halfRows ((l.take 0) ++ List.replicate (l.length - 0) .zero)))] [] [] (⟨0, rfl, Nat.zero_le _, rfl⟩) ?_ rfl rfl
    repeat' first | exact trivial | refine mL_nil rfl ?_ | refine mL_d rfl ?_ ?_ | refine mL_own rfl rfl ?_ rfl ?_ | refine mL_row rfl ?_ ?_ | refine mL_pt rfl rfl rfl rfl ?_ | refine mL_box rfl ?_ ?_ | refine mL_agg rfl ?_ ?_ | exact mCs_nil0 | refine mCs_d ?_ ?_ | refine mCs_nil ?_ | refine mCs_own rfl ?_ rfl ?_ | refine mCs_pt rfl rfl rfl ?_
    all_goals first | with_reducible rfl | (first | with_reducible rfl | rfl | (rw [halfRows_length]; rfl) | (simp [halfRows, halfRows_length, HalfR.row, HalfR.zero]; done) | (simp [mixRows, halfRows, HalfR.row, HalfR.zero]; done))
  rintro n s ⟨i, rfl, hi, rfl⟩
  refine SW.seq ?_
  refine SW.seq ?_
  refine SW.regT tabOk [0, 3, 4, 11] ?_
  refine ai trivial (ai trivial (ai vc (ai trivial ?_)))
  refine SW.cond rfl (fun c11 => ?_) (fun c11 => ?_)
  · skip
    have hi2 : i < l.length := by simpa [halfRows_length] using c11
    have hgg := halfRows_getD (l := l) hi2
    have hmem : l.getD i .zero ∈ l := mem_getD hi2
    refine SW.skip ?_
    refine SW.seq ?_
    refine SW.block ?_
    refine SW.regT tabOk [0, 3, 4] ?_
    refine ai trivial (ai trivial (ai trivial (ai trivial (ai (by rw [Int.toNat_natCast, hgg]; exact ⟨⟨by omega, by rw [halfRows_length]; omega⟩, rfl⟩) (ai (by rw [Int.toNat_natCast, hgg]; exact ⟨Nat.le_of_ble_eq_true rfl, rfl⟩) ?_)))))
    refine ex_pure (s_laws_toHalf (l.getD i .zero) (hx _ hmem)) rfl rfl rfl rfl rfl (by rw [Int.toNat_natCast, hgg]; rfl) rfl rfl ?_
    refine ai (by refine ⟨?_, by omega, by omega⟩; simp [halfRows_length]; omega) (ai (by rw [Int.toNat_natCast, to_at_HalfR hi2]; exact ⟨by simp [halfRows_length]; omega, by omega, rfl, Nat.le_refl _⟩) ?_)
    refine SW.regT tabOk [0, 3, 4] ?_
    refine ai trivial (ai trivial (ai trivial ?_))
    refine wk [(.t 0, .v (Dv (.sl (halfRows l)))), (.t 3, .v (.e (.c (.own 7 l.length)))), (.t 4, .v (I ((i + 1) : Nat))), (.o 7, .row 62 6 (halfRows ((l.take (i + 1)) ++ List.replicate (l.length - (i + 1)) .zero)))] [] [] (⟨l.length - (i + 1), by omega, i + 1, rfl, by omega, rfl⟩) ?_ rfl rfl
    repeat' first | exact trivial | refine mL_nil rfl ?_ | refine mL_d rfl ?_ ?_ | refine mL_own rfl rfl ?_ rfl ?_ | refine mL_row rfl ?_ ?_ | refine mL_pt rfl rfl rfl rfl ?_ | refine mL_box rfl ?_ ?_ | refine mL_agg rfl ?_ ?_ | exact mCs_nil0 | refine mCs_d ?_ ?_ | refine mCs_nil ?_ | refine mCs_own rfl ?_ rfl ?_ | refine mCs_pt rfl rfl rfl ?_
    all_goals first | with_reducible rfl | (first | with_reducible rfl | exact congrArg D.i (by rw [wrap64_of (by omega)]; omega) | (rw [Int.toNat_natCast]; exact to_step_HalfR hi2))
  · skip
    have hi3 : i = l.length := by simp [halfRows_length] at c11; omega
    subst hi3
    refine SW.exit ?_
    refine SW.seq ?_
    refine SW.regT tabOk [2] ?_
    refine ai trivial (ai trivial ?_)
    refine SW.ret ?_
    refine retOk _ [] [7] rfl (mL_froze rfl rfl rfl ?_ (congrArg D.sl ?_) trivial) rfl rfl
    · simp [halfRows_length]
    · simp

theorem s_laws_eqHalf (a b : HalfR) (ha : a.got.length * 24 ≤ 140737488355328) : Ab.Spec Tryz.prog 68 2 [(.t 0, .v (a.V)), (.t 1, .v (b.V))] [(.t 0, .v (B (decide (a = b))))] := by
  refine spec_of_body tabOk Tryz.func68 rfl (by kernel_rfl) (by decide) (by kernel_rfl) rfl ?_
  refine SW.seq ?_
  refine SW.regT tabOk [2, 3] ?_
  refine ai trivial (ai trivial (ai trivial ?_))
  refine SW.seq ?_
  refine SW.seq ?_
  refine SW.regT tabOk [2, 3, 9] ?_
  refine ai (by first | trivial | rfl) (ai vc (ai (by first | trivial | rfl) (ai vc (ai trivial ?_))))
  refine SW.cond rfl (fun c9 => ?_) (fun c9 => ?_)
  · skip
    refine SW.seq ?_
    refine SW.regT tabOk [4] ?_
    refine ai trivial ?_
    refine SW.ret ?_
    refine retOk1 rfl (congrArg D.b ?_)
    cases a; cases b; simp_all
  · skip
    refine SW.skip ?_
    refine SW.seq ?_
    refine SW.seq ?_
    refine SW.regT tabOk [2, 3, 14] ?_
    refine ai (by first | trivial | rfl) (ai vc (ai (by first | trivial | rfl) (ai vc (ai trivial ?_))))
    refine SW.cond rfl (fun c14 => ?_) (fun c14 => ?_)
    · skip
      refine SW.seq ?_
      refine SW.regT tabOk [4] ?_
      refine ai trivial ?_
      refine SW.ret ?_
      refine retOk1 rfl (congrArg D.b ?_)
      cases a; cases b; simp_all
    · skip
      refine SW.skip ?_
      refine SW.seq ?_
      refine SW.seq ?_
      refine SW.regT tabOk [2, 3, 19] ?_
      refine ai (by first | trivial | rfl) (ai vc (ai (by first | trivial | rfl) (ai vc (ai trivial ?_))))
      refine SW.cond rfl (fun c19 => ?_) (fun c19 => ?_)
      · skip
        refine SW.seq ?_
        refine SW.regT tabOk [4] ?_
        refine ai trivial ?_
        refine SW.ret ?_
        refine retOk1 rfl (congrArg D.b ?_)
        cases a; cases b; simp_all
      · skip
        refine SW.skip ?_
        refine SW.seq ?_
        refine SW.seq ?_
        refine SW.regT tabOk [2, 3, 24] ?_
        refine ai (by first | trivial | rfl) (ai vc (ai (by first | trivial | rfl) (ai vc (ai trivial ?_))))
        refine SW.cond rfl (fun c24 => ?_) (fun c24 => ?_)
        · skip
          refine SW.seq ?_
          refine SW.regT tabOk [4] ?_
          refine ai trivial ?_
          refine SW.ret ?_
          refine retOk1 rfl (congrArg D.b ?_)
          cases a; cases b; simp_all
        · skip
          refine SW.skip ?_
          refine SW.seq ?_
          refine SW.seq ?_
          refine SW.regT tabOk [2, 3, 29] ?_
          refine ai (by first | trivial | rfl) (ai vc (ai (by first | trivial | rfl) (ai vc (ai trivial ?_))))
          refine SW.cond rfl (fun c29 => ?_) (fun c29 => ?_)
          · skip
            refine SW.seq ?_
            refine SW.regT tabOk [4] ?_
            refine ai trivial ?_
            refine SW.ret ?_
            refine retOk1 rfl (congrArg D.b ?_)
            cases a; cases b; simp_all
          · skip
            refine SW.skip ?_
            refine SW.seq ?_
            refine SW.seq ?_
            refine SW.regT tabOk [35] ?_
            refine ai (by first | trivial | rfl) (ai vc (ai (by first | trivial | rfl) (ai vc ?_)))
            refine ex_pure (s_laws_eqMixedS a.got b.got ha) rfl rfl rfl rfl rfl rfl rfl rfl ?_
            refine ai trivial ?_
            refine SW.cond rfl (fun c35 => ?_) (fun c35 => ?_)
            · skip
              refine SW.seq ?_
              refine SW.regT tabOk [4] ?_
              refine ai trivial ?_
              refine SW.ret ?_
              refine retOk1 rfl (congrArg D.b ?_)
              cases a; cases b; simp_all
            · skip
              refine SW.skip ?_
              refine SW.seq ?_
              refine SW.regT tabOk [4] ?_
              refine ai trivial ?_
              refine SW.ret ?_
              refine retOk1 rfl (congrArg D.b ?_)
              cases a; cases b; simp_all

set_option maxHeartbeats 800000 in
theorem s_laws_eqHalfS (a b : List HalfR) (hg : a.length * 64 ≤ 140737488355328) (hx : ∀ h ∈ a, h.got.length * 24 ≤ 140737488355328) : Ab.Spec Tryz.prog 42 2 [(.t 0, .v (Dv (.sl (halfRows a)))), (.t 1, .v (Dv (.sl (halfRows b))))] [(.t 0, .v (B (decide (a = b))))] := by
  refine spec_of_body tabOk Tryz.func42 rfl (by kernel_rfl) (by decide) (by kernel_rfl) rfl ?_
  refine SW.seq ?_
  refine SW.regT tabOk [0, 1] ?_
  refine ai trivial ?_
  refine SW.seq ?_
  refine SW.seq ?_
  refine SW.regT tabOk [0, 1, 10] ?_
  refine ai trivial (ai vc (ai trivial (ai vc (ai trivial ?_))))
  refine SW.cond rfl (fun c10 => ?_) (fun c10 => ?_)
  · skip
    refine SW.seq ?_
    refine SW.regT tabOk [4] ?_
    refine ai trivial ?_
    refine SW.ret ?_
    refine retOk1 rfl (congrArg D.b ?_)
    symm
    apply decide_eq_false
    intro e
    rw [e] at c10
    simp at c10
  · skip
    have hlen : a.length = b.length := by simp [halfRows_length] at c10; omega
    refine SW.skip ?_
    refine SW.seq ?_
    refine SW.seq ?_
    refine SW.regT tabOk [0, 1, 5] ?_
    refine ai trivial ?_
    refine SW.block ?_
    -- live at the head: [0, 1, 5]
    refine SW.loopW (n := a.length) (fun m q => ∃ i : Nat, m = a.length - i ∧ i ≤ a.length ∧ (∀ j, j < i → a.getD j .zero = b.getD j .zero) ∧ q = [(.t 0, .v (Dv (.sl (halfRows a)))), (.t 1, .v (Dv (.sl (halfRows b)))), (.t 5, .v (I (i : Nat)))]) ?_ ?_
    · skip
      refine wk [(.t 0, .v (Dv (.sl (halfRows a)))), (.t 1, .v (Dv (.sl (halfRows b)))), (.t 5, .v (I (0 : Nat)))] [] [] (⟨0, rfl, Nat.zero_le _, fun j h => absurd h (by omega), rfl⟩) ?_ rfl rfl
      repeat' first | exact trivial | refine mL_nil rfl ?_ | refine mL_d rfl ?_ ?_ | refine mL_own rfl rfl ?_ rfl ?_ | refine mL_row rfl ?_ ?_ | refine mL_pt rfl rfl rfl rfl ?_ | refine mL_box rfl ?_ ?_ | refine mL_agg rfl ?_ ?_ | exact mCs_nil0 | refine mCs_d ?_ ?_ | refine mCs_nil ?_ | refine mCs_own rfl ?_ rfl ?_ | refine mCs_pt rfl rfl rfl ?_
      all_goals first | with_reducible rfl | (first | rfl | (simp; done) | omega)
    rintro n s ⟨i, rfl, hi, hk, rfl⟩
    refine SW.seq ?_
    refine SW.seq ?_
    refine SW.regT tabOk [0, 1, 5, 14] ?_
    refine ai trivial (ai trivial (ai vc (ai trivial ?_)))
    refine SW.cond rfl (fun c14 => ?_) (fun c14 => ?_)
    · skip
      have hi2 : i < a.length := by simpa [halfRows_length] using c14
      have hga := halfRows_getD (l := a) hi2
      have hgb := halfRows_getD (l := b) (i := i) (by omega)
      have hmem : a.getD i .zero ∈ a := mem_getD hi2
      refine SW.skip ?_
      refine SW.seq ?_
      refine SW.block ?_
      refine SW.seq ?_
      refine SW.regD tabOk mo [0, 1, 5, 26] ?_
      refine ai trivial (ai trivial (ai (by rw [Int.toNat_natCast, hga]; exact ⟨⟨by omega, by rw [halfRows_length]; omega⟩, rfl⟩) (ai (by rw [Int.toNat_natCast, hga]; exact ⟨Nat.le_of_ble_eq_true rfl, rfl⟩) (ai trivial (ai trivial (ai (by rw [Int.toNat_natCast, hgb]; exact ⟨⟨by omega, by rw [halfRows_length]; omega⟩, rfl⟩) (ai (by rw [Int.toNat_natCast, hgb]; exact ⟨Nat.le_of_ble_eq_true rfl, rfl⟩) ?_)))))))
      refine ex_pure (s_laws_eqHalf (a.getD i .zero) (b.getD i .zero) (hx _ hmem)) rfl rfl rfl rfl rfl (by rw [Int.toNat_natCast, hga, hgb]; rfl) rfl rfl ?_
      refine ai trivial (ai (by kernel_rfl) ?_)
      refine SW.cond rfl (fun c26 => ?_) (fun c26 => ?_)
      · skip
        refine SW.seq ?_
        refine SW.regT tabOk [4] ?_
        refine ai trivial ?_
        refine SW.ret ?_
        refine retOk1 rfl (congrArg D.b ?_)
        exact (decide_eq_false (ne_of_getD (z := HalfR.zero) (j := i) (by simpa using c26))).symm
      · skip
        refine SW.skip ?_
        refine SW.regT tabOk [0, 1, 5] ?_
        refine ai trivial (ai trivial (ai trivial ?_))
        have hs : a.getD i .zero = b.getD i .zero := by simpa using c26
        refine wk [(.t 0, .v (Dv (.sl (halfRows a)))), (.t 1, .v (Dv (.sl (halfRows b)))), (.t 5, .v (I ((i + 1) : Nat)))] [] [] (⟨a.length - (i + 1), by omega, i + 1, rfl, by omega, fun j h => by by_cases e : j = i; exact e ▸ hs; exact hk j (by omega), rfl⟩) ?_ rfl rfl
        repeat' first | exact trivial | refine mL_nil rfl ?_ | refine mL_d rfl ?_ ?_ | refine mL_own rfl rfl ?_ rfl ?_ | refine mL_row rfl ?_ ?_ | refine mL_pt rfl rfl rfl rfl ?_ | refine mL_box rfl ?_ ?_ | refine mL_agg rfl ?_ ?_ | exact mCs_nil0 | refine mCs_d ?_ ?_ | refine mCs_nil ?_ | refine mCs_own rfl ?_ rfl ?_ | refine mCs_pt rfl rfl rfl ?_
        all_goals first | with_reducible rfl | (first | with_reducible rfl | exact congrArg D.i (wrap64_of (by omega)))
    · skip
      have hi3 : i = a.length := by simp [halfRows_length] at c14; omega
      refine SW.exit ?_
      refine SW.seq ?_
      refine SW.regT tabOk [4] ?_
      refine ai trivial ?_
      refine SW.ret ?_
      refine retOk1 rfl (congrArg D.b ?_)
      subst hi3
      exact (decide_eq_true (eq_of_getD (z := HalfR.zero) hlen hk)).symm

end Go.Proofs.YtllapabiebopcaaGreatDoor

namespace Go.Proofs.YtllapabiebopcaaGreatDoor
open Go Go.Ab Go.RowKit
set_option linter.unusedVariables false
set_option linter.unusedSimpArgs false

theorem s_laws_toShelf (l : List UInt8) (f : Int) : Ab.Spec Tryz.prog 34 1 [(.t 0, .v (.e (.agg [.d (.s l), .d (.i f)])))] [(.t 0, .v (.e (.agg [.d (.s l), .d (.i f)])))] := by
  refine spec_of_body tabOk Tryz.func34 rfl (by kernel_rfl) (by decide) (by kernel_rfl) rfl ?_
  refine SW.seq ?_
  refine SW.regT tabOk [1, 2] ?_
  refine ai trivial (ai trivial ?_)
  refine SW.seq ?_
  refine SW.regT tabOk [1, 2, 3] ?_
  refine ai trivial ?_
  refine SW.seq ?_
  refine SW.regT tabOk [1, 2, 3] ?_
  refine ai (by first | trivial | rfl) (ai vc (ai (by first | trivial | rfl) (ai ⟨by kernel_rfl, Nat.le_of_ble_eq_true (by kernel_rfl)⟩ ?_)))
  refine SW.seq ?_
  refine SW.regT tabOk [2, 3] ?_
  refine ai (by first | trivial | rfl) (ai vc (ai (by first | trivial | rfl) (ai ⟨by kernel_rfl, Nat.le_of_ble_eq_true (by kernel_rfl)⟩ ?_)))
  refine SW.seq ?_
  refine SW.regT tabOk [2] ?_
  refine ai vc (ai ⟨by kernel_rfl, Nat.le_of_ble_eq_true (by kernel_rfl)⟩ ?_)
  refine SW.ret ?_
  refine retOkP rfl rfl ?_
  rfl

set_option maxHeartbeats 800000 in
theorem s_laws_toKeeper (k : KeeperR) (hk : KRB k) : Ab.Spec Tryz.prog 10 1 [(.t 0, .v (k.V))] [(.t 0, .v (k.V))] := by
  refine spec_of_body tabOk Tryz.func10 rfl (by kernel_rfl) (by decide) (by kernel_rfl) rfl ?_
  refine SW.seq ?_
  refine SW.regT tabOk [1, 2] ?_
  refine ai trivial (ai trivial ?_)
  refine SW.seq ?_
  refine SW.regT tabOk [1, 2, 3] ?_
  refine ai trivial ?_
  refine SW.seq ?_
  refine SW.regT tabOk [1, 2, 3] ?_
  refine ai (by first | trivial | rfl) (ai vc (ai (by first | trivial | rfl) (ai ⟨by kernel_rfl, Nat.le_of_ble_eq_true (by kernel_rfl)⟩ ?_)))
  refine SW.seq ?_
  refine SW.regT tabOk [1, 2, 3] ?_
  refine ai (by first | trivial | rfl) (ai vc (ai (by first | trivial | rfl) (ai ⟨by kernel_rfl, Nat.le_of_ble_eq_true (by kernel_rfl)⟩ ?_)))
  refine SW.seq ?_
  refine SW.regT tabOk [1, 2, 3] ?_
  refine ai (by first | trivial | rfl) (ai vc ?_)
  refine ex_pure (s_laws_toShelf k.log k.forced) rfl rfl rfl rfl rfl rfl rfl rfl ?_
  refine ai (by first | trivial | rfl) (ai ⟨by kernel_rfl, Nat.le_of_ble_eq_true (by kernel_rfl)⟩ ?_)
  refine SW.seq ?_
  refine SW.regT tabOk [2, 3] ?_
  refine ai (by first | trivial | rfl) (ai vc ?_)
  refine ex_pure (s_laws_toHalfS k.halves hk.2.1 hk.2.2) rfl rfl rfl rfl rfl rfl rfl rfl ?_
  refine ai (by first | trivial | rfl) (ai ⟨by kernel_rfl, Nat.le_of_ble_eq_true (by kernel_rfl)⟩ ?_)
  refine SW.seq ?_
  refine SW.regT tabOk [2] ?_
  refine ai vc (ai ⟨by kernel_rfl, Nat.le_of_ble_eq_true (by kernel_rfl)⟩ ?_)
  refine SW.ret ?_
  refine retOkP rfl rfl ?_
  rfl

theorem s_laws_szShelf (l : List UInt8) (f n : Int) : Ab.SpecE Tryz.prog 26 2 [(.t 0, .v (.e (.agg [.d (.s l), .d (.i f)]))), (.t 1, .v (I n))] (fun s => ∃ r : Int, s = [(.t 0, .v (I r))]) := by
  refine specE_of_body tabOk Tryz.func26 rfl (by kernel_rfl) (by decide) (by kernel_rfl) rfl ?_
  refine SW.seq ?_
  refine SW.regT tabOk [1, 2] ?_
  refine ai trivial (ai trivial ?_)
  refine SW.seq ?_
  refine SW.regT tabOk [1] ?_
  refine ai trivial (ai (by first | trivial | rfl) (ai vc (ai vc (ai trivial (ai trivial ?_)))))
  refine SW.seq ?_
  refine SW.seq ?_
  refine SW.regT tabOk [1, 11] ?_
  refine ai trivial (ai trivial ?_)
  refine SW.cond rfl (fun c11 => ?_) (fun c11 => ?_)
  · skip
    refine SW.seq ?_
    refine SW.regT tabOk [4] ?_
    refine ai trivial ?_
    refine SW.ret ?_
    refine retQR _ ⟨_, rfl⟩ (retOk1 rfl rfl)
  · skip
    refine SW.skip ?_
    refine SW.seq ?_
    refine SW.regT tabOk [4] ?_
    refine ai trivial (ai trivial ?_)
    refine SW.ret ?_
    refine retQR _ ⟨_, rfl⟩ (retOk1 rfl rfl)

theorem s_laws_szKeeper (k : KeeperR) (n : Int) (hk : KRB k) : Ab.SpecE Tryz.prog 8 2 [(.t 0, .v (k.V)), (.t 1, .v (I n))] (fun s => ∃ r : Int, s = [(.t 0, .v (I r))]) := by
  refine specE_of_body tabOk Tryz.func8 rfl (by kernel_rfl) (by decide) (by kernel_rfl) rfl ?_
  refine SW.seq ?_
  refine SW.regT tabOk [1, 2] ?_
  refine ai trivial (ai trivial ?_)
  refine SW.seq ?_
  refine SW.regE tabOk [1, 2] ?_
  refine ai (by first | trivial | rfl) (ai vc (ai trivial ?_))
  refine ee_call (rl := []) (bor := []) (news := []) (robj := []) (s_laws_szShelf k.log k.forced n) rfl rfl rfl rfl (match_plain rfl) (fun σ hσ => by obtain ⟨r, rfl⟩ := hσ; exact ⟨rfl, .inl rfl, fun j hj => by simp [newIds, objIds] at hj⟩) (fun p hp => nomatch hp) (fun j hj => nomatch hj) ?_
  rintro σ ⟨x1, rfl⟩
  refine ai trivial ?_
  refine SW.seq ?_
  refine SW.seq ?_
  refine SW.regT tabOk [1, 2, 10] ?_
  refine ai trivial (ai trivial ?_)
  refine SW.cond rfl (fun c10 => ?_) (fun c10 => ?_)
  · skip
    refine SW.seq ?_
    refine SW.regT tabOk [4] ?_
    refine ai trivial ?_
    refine SW.ret ?_
    refine retQR _ ⟨_, rfl⟩ (retOk1 rfl rfl)
  · skip
    refine SW.skip ?_
    refine SW.seq ?_
    refine SW.regE tabOk [1] ?_
    refine ai (by first | trivial | rfl) (ai vc (ai trivial ?_))
    refine ee_call (rl := []) (bor := []) (news := []) (robj := []) (s_laws_szHalfS k.halves _ hk.2.1 hk.2.2) rfl rfl rfl rfl (match_plain rfl) (fun σ hσ => by obtain ⟨r, rfl⟩ := hσ; exact ⟨rfl, .inl rfl, fun j hj => by simp [newIds, objIds] at hj⟩) (fun p hp => nomatch hp) (fun j hj => nomatch hj) ?_
    rintro σ ⟨x2, rfl⟩
    refine ai trivial ?_
    refine SW.seq ?_
    refine SW.seq ?_
    refine SW.regT tabOk [1, 16] ?_
    refine ai trivial (ai trivial ?_)
    refine SW.cond rfl (fun c16 => ?_) (fun c16 => ?_)
    · skip
      refine SW.seq ?_
      refine SW.regT tabOk [4] ?_
      refine ai trivial ?_
      refine SW.ret ?_
      refine retQR _ ⟨_, rfl⟩ (retOk1 rfl rfl)
    · skip
      refine SW.skip ?_
      refine SW.seq ?_
      refine SW.regT tabOk [4] ?_
      refine ai trivial (ai trivial ?_)
      refine SW.ret ?_
      refine retQR _ ⟨_, rfl⟩ (retOk1 rfl rfl)

theorem s_laws_eqShelf (l m : List UInt8) (f g : Int) : Ab.Spec Tryz.prog 41 2 [(.t 0, .v (.e (.agg [.d (.s l), .d (.i f)]))), (.t 1, .v (.e (.agg [.d (.s m), .d (.i g)])))] [(.t 0, .v (B (decide (l = m ∧ f = g))))] := by
  refine spec_of_body tabOk Tryz.func41 rfl (by kernel_rfl) (by decide) (by kernel_rfl) rfl ?_
  refine SW.seq ?_
  refine SW.regT tabOk [2, 3] ?_
  refine ai trivial (ai trivial (ai trivial ?_))
  refine SW.seq ?_
  refine SW.seq ?_
  refine SW.regT tabOk [2, 3, 9] ?_
  refine ai (by first | trivial | rfl) (ai vc (ai (by first | trivial | rfl) (ai vc (ai vc ?_))))
  refine SW.cond rfl (fun c9 => ?_) (fun c9 => ?_)
  · skip
    refine SW.seq ?_
    refine SW.regT tabOk [4] ?_
    refine ai trivial ?_
    refine SW.ret ?_
    refine retOk1 rfl (congrArg D.b ?_)
    simp_all
  · skip
    refine SW.skip ?_
    refine SW.seq ?_
    refine SW.seq ?_
    refine SW.regT tabOk [14] ?_
    refine ai (by first | trivial | rfl) (ai vc (ai (by first | trivial | rfl) (ai vc (ai trivial ?_))))
    refine SW.cond rfl (fun c14 => ?_) (fun c14 => ?_)
    · skip
      refine SW.seq ?_
      refine SW.regT tabOk [4] ?_
      refine ai trivial ?_
      refine SW.ret ?_
      refine retOk1 rfl (congrArg D.b ?_)
      simp_all
    · skip
      refine SW.skip ?_
      refine SW.seq ?_
      refine SW.regT tabOk [4] ?_
      refine ai trivial ?_
      refine SW.ret ?_
      refine retOk1 rfl (congrArg D.b ?_)
      simp_all

set_option maxHeartbeats 800000 in
theorem s_laws_eqKeeper (a b : KeeperR) (ha : KRB a) : Ab.Spec Tryz.prog 12 2 [(.t 0, .v (a.V)), (.t 1, .v (b.V))] [(.t 0, .v (B (decide (a = b))))] := by
  refine spec_of_body tabOk Tryz.func12 rfl (by kernel_rfl) (by decide) (by kernel_rfl) rfl ?_
  refine SW.seq ?_
  refine SW.regT tabOk [2, 3] ?_
  refine ai trivial (ai trivial (ai trivial ?_))
  refine SW.seq ?_
  refine SW.seq ?_
  refine SW.regT tabOk [2, 3, 9] ?_
  refine ai (by first | trivial | rfl) (ai vc (ai (by first | trivial | rfl) (ai vc (ai trivial ?_))))
  refine SW.cond rfl (fun c9 => ?_) (fun c9 => ?_)
  · skip
    refine SW.seq ?_
    refine SW.regT tabOk [4] ?_
    refine ai trivial ?_
    refine SW.ret ?_
    refine retOk1 rfl (congrArg D.b ?_)
    cases a; cases b; first | (simp_all; done) | (simp_all; grind)
  · skip
    refine SW.skip ?_
    refine SW.seq ?_
    refine SW.seq ?_
    refine SW.regT tabOk [2, 3, 14] ?_
    refine ai (by first | trivial | rfl) (ai vc (ai (by first | trivial | rfl) (ai vc (ai trivial ?_))))
    refine SW.cond rfl (fun c14 => ?_) (fun c14 => ?_)
    · skip
      refine SW.seq ?_
      refine SW.regT tabOk [4] ?_
      refine ai trivial ?_
      refine SW.ret ?_
      refine retOk1 rfl (congrArg D.b ?_)
      cases a; cases b; first | (simp_all; done) | (simp_all; grind)
    · skip
      refine SW.skip ?_
      refine SW.seq ?_
      refine SW.seq ?_
      refine SW.regT tabOk [2, 3, 20] ?_
      refine ai (by first | trivial | rfl) (ai vc (ai (by first | trivial | rfl) (ai vc ?_)))
      refine ex_pure (s_laws_eqShelf a.log b.log a.forced b.forced) rfl rfl rfl rfl rfl rfl rfl rfl ?_
      refine ai trivial ?_
      refine SW.cond rfl (fun c20 => ?_) (fun c20 => ?_)
      · skip
        refine SW.seq ?_
        refine SW.regT tabOk [4] ?_
        refine ai trivial ?_
        refine SW.ret ?_
        refine retOk1 rfl (congrArg D.b ?_)
        cases a; cases b; first | (simp_all; done) | (simp_all; grind)
      · skip
        refine SW.skip ?_
        refine SW.seq ?_
        refine SW.seq ?_
        refine SW.regT tabOk [26] ?_
        refine ai (by first | trivial | rfl) (ai vc (ai (by first | trivial | rfl) (ai vc ?_)))
        refine ex_pure (s_laws_eqHalfS a.halves b.halves ha.2.1 ha.2.2) rfl rfl rfl rfl rfl rfl rfl rfl ?_
        refine ai trivial ?_
        refine SW.cond rfl (fun c26 => ?_) (fun c26 => ?_)
        · skip
          refine SW.seq ?_
          refine SW.regT tabOk [4] ?_
          refine ai trivial ?_
          refine SW.ret ?_
          refine retOk1 rfl (congrArg D.b ?_)
          cases a; cases b; first | (simp_all; done) | (simp_all; grind)
        · skip
          refine SW.skip ?_
          refine SW.seq ?_
          refine SW.regT tabOk [4] ?_
          refine ai trivial ?_
          refine SW.ret ?_
          refine retOk1 rfl (congrArg D.b ?_)
          cases a; cases b; first | (simp_all; done) | (simp_all; grind)

theorem typed_mixRow {B : Nat} {r : List D} (h : Typed tab B 4 113 r) : ∃ m : MixR, r = m.row ∧ True := by
  obtain ⟨hl, hf⟩ := h
  match r, hl with
  | [a0, a1], _ =>
  obtain ⟨x0, e0, w0⟩ := hf (0, 3) (by decide)
  obtain ⟨x1, e1, w1⟩ := hf (1, 9) (by decide)
  cases e0
  cases e1
  exact ⟨⟨x0, x1⟩, rfl, trivial⟩
theorem typed_halfRow {B : Nat} {r : List D} (h : Typed tab B 6 79 r) : ∃ x : HalfR, r = x.row ∧ x.got.length * 24 ≤ B := by
  obtain ⟨hl, hf⟩ := h
  match r, hl with
  | [a0, a1, a2, a3, a4, a5], _ =>
  obtain ⟨x0, e0, w0⟩ := hf (0, 3) (by decide)
  obtain ⟨x1, e1, w1⟩ := hf (1, 3) (by decide)
  obtain ⟨x2, e2, w2⟩ := hf (2, 3) (by decide)
  obtain ⟨x3, e3, w3⟩ := hf (3, 3) (by decide)
  obtain ⟨x4, e4, w4⟩ := hf (4, 3) (by decide)
  obtain ⟨rows, e5, w5, hr⟩ := hf (5, 77) (by decide)
  cases e0
  cases e1
  cases e2
  cases e3
  cases e4
  cases e5
  obtain ⟨l, rfl, _⟩ := exists_map (f := MixR.row) fun r hr' => typed_mixRow (hr r hr')
  refine ⟨⟨x0, x1, x2, x3, x4, l⟩, rfl, ?_⟩
  have w5 : (l.map MixR.row).length * 24 ≤ B := w5
  simpa using w5
theorem typed_keeper {B : Nat} {ds : List D} (h : Typed tab B 8 26 ds) : ∃ k : KeeperR, ds = k.row ∧ k.log.length ≤ B ∧ k.halves.length * 64 ≤ B ∧ ∀ h ∈ k.halves, h.got.length * 24 ≤ B := by
  obtain ⟨hl, hf⟩ := h
  match ds, hl with
  | [a0, a1, a2, a3, a4], _ =>
  obtain ⟨x0, e0, w0⟩ := hf (0, 3) (by decide)
  obtain ⟨x1, e1⟩ := hf (1, 4) (by decide)
  obtain ⟨_, hs⟩ := hf (2, 23) (by decide)
  obtain ⟨x2, e2, w2⟩ := hs (0, 9) (by decide)
  obtain ⟨x3, e3, w3⟩ := hs (1, 3) (by decide)
  obtain ⟨rows, e4, w4, hr⟩ := hf (4, 24) (by decide)
  cases e0
  cases e1
  cases e2
  cases e3
  cases e4
  obtain ⟨l, rfl, hg⟩ := exists_map (f := HalfR.row) fun r hr' => typed_halfRow (hr r hr')
  refine ⟨⟨x0, x1, x2, x3, l⟩, rfl, w2, ?_, hg⟩
  have w4 : (l.map HalfR.row).length * 64 ≤ B := w4
  simpa using w4
set_option maxHeartbeats 1600000 in
theorem s_laws_FnExactKeeperOk (k : KeeperR) (hk : KRB k) : Ab.Spec Tryz.prog 3 1 [(.t 0, .v (k.V))] [(.t 0, .v (B true))] := by
  refine spec_of_body tabOk Tryz.func3 rfl (by kernel_rfl) (by decide) (by kernel_rfl) rfl ?_
  refine SW.seq ?_
  refine SW.regT tabOk [1] ?_
  refine ai trivial (ai trivial ?_)
  refine SW.seq ?_
  refine SW.regT tabOk [1, 3] ?_
  refine ai trivial ?_
  refine SW.seq ?_
  refine SW.regE tabOk [1, 3] ?_
  refine ai vc (ai trivial ?_)
  refine ee_call (rl := []) (bor := []) (news := []) (robj := []) (s_laws_szKeeper k _ hk) rfl rfl rfl rfl (match_plain rfl) (fun σ hσ => by obtain ⟨r, rfl⟩ := hσ; exact ⟨rfl, .inl rfl, fun j hj => by simp [newIds, objIds] at hj⟩) (fun p hp => nomatch hp) (fun j hj => nomatch hj) ?_
  rintro σ ⟨x3, rfl⟩
  refine ai trivial ?_
  refine SW.seq ?_
  refine SW.seq ?_
  refine SW.regT tabOk [1, 11] ?_
  refine ai trivial (ai trivial ?_)
  refine SW.cond rfl (fun c11 => ?_) (fun c11 => ?_)
  · skip
    refine SW.seq ?_
    refine SW.regT tabOk [2] ?_
    refine ai trivial ?_
    refine SW.ret ?_
    refine retOk1 rfl (congrArg D.b ?_)
    first | rfl | (simp at *; done)
  · skip
    refine SW.skip ?_
    refine SW.seq ?_
    refine SW.regT tabOk [1, 4] ?_
    refine ai vc ?_
    refine ex_pure (s_laws_toKeeper k hk) rfl rfl rfl rfl rfl rfl rfl rfl ?_
    refine ex_pure (s_spec_KeeperOk k hk.1) rfl rfl rfl rfl rfl rfl rfl rfl ?_
    refine ai trivial ?_
    refine SW.seq ?_
    refine SW.regT tabOk [1, 4, 5] ?_
    refine ai vc ?_
    refine ex_pure (s_laws_toKeeper k hk) rfl rfl rfl rfl rfl rfl rfl rfl ?_
    refine ai trivial (ai ⟨by kernel_rfl, Nat.le_of_ble_eq_true (by kernel_rfl)⟩ ?_)
    refine SW.seq ?_
    refine SW.regT tabOk [1, 4, 5, 6] ?_
    refine ai vc ?_
    refine ex_pure (s_impl_KeeperOk k hk.1) rfl rfl rfl rfl rfl rfl rfl rfl ?_
    refine ai trivial ?_
    refine SW.seq ?_
    refine SW.seq ?_
    refine SW.regT tabOk [1, 5, 21] ?_
    refine ai trivial (ai trivial (ai trivial ?_))
    refine SW.cond rfl (fun c21 => ?_) (fun c21 => ?_)
    · skip
      refine SW.seq ?_
      refine SW.regT tabOk [2] ?_
      refine ai trivial ?_
      refine SW.ret ?_
      refine retOk1 rfl (congrArg D.b ?_)
      first | rfl | (simp at *; done)
    · skip
      refine SW.skip ?_
      refine SW.seq ?_
      refine SW.seq ?_
      refine SW.regD tabOk mo [26] ?_
      refine ai vc (ai vc ?_)
      refine ex_pure (s_laws_toKeeper k hk) rfl rfl rfl rfl rfl rfl rfl rfl ?_
      refine ex_pure (s_laws_eqKeeper k k hk) rfl rfl rfl rfl rfl rfl rfl rfl ?_
      refine ai trivial (ai (by kernel_rfl) ?_)
      refine SW.cond rfl (fun c26 => ?_) (fun c26 => ?_)
      · skip
        refine SW.seq ?_
        refine SW.regT tabOk [2] ?_
        refine ai trivial ?_
        refine SW.ret ?_
        refine retOk1 rfl (congrArg D.b ?_)
        first | rfl | (simp at *; done)
      · skip
        refine SW.skip ?_
        refine SW.seq ?_
        refine SW.regT tabOk [2] ?_
        refine ai trivial ?_
        refine SW.ret ?_
        refine retOk1 rfl (congrArg D.b ?_)
        first | rfl | (simp at *; done)

end Go.Proofs.YtllapabiebopcaaGreatDoor

namespace Go.Ab
open Go Go.RowKit
set_option linter.unusedVariables false

theorem var_fr {P : Program} {w w' : World} {name : String} {cs : Array Value} (h : w.var? P name = some cs) (hf : Fr (fun _ => False) w w') : w'.var? P name = some cs := by
  unfold World.var? at h ⊢
  cases hg : P.globalNamed name with
  | none => rw [hg] at h; cases h
  | some g =>
    rw [hg] at h
    simp only [Option.bind_some] at h ⊢
    cases hh : w.heap[g]? with
    | none => rw [hh] at h; cases h
    | some o =>
      have hlt : g < w.heap.size := (Array.getElem?_eq_some_iff.1 hh).1
      rw [hf.block g hlt (fun h => h), hh]
      rw [hh] at h
      exact h
theorem var_one {P : Program} {w : World} {name : String} {g : Nat} {cs : Array Value} {t : TypeId} {v : Value} (hg : P.globalNamed name = some g) (hh : w.heap[g]? = some (.cells cs t)) (hs : cs.size = 1) (hc : w.cell? ⟨g, 0, none⟩ = some v) : w.var? P name = some #[v] := by
  have e : cs = #[v] := by
    have h1 : w.cell? ⟨g, 0, none⟩ = cs[0]? := by rw [cell_of_row w g 0 cs t (0, 0) hh]
    rw [hc] at h1
    apply Array.ext
    · simpa using hs
    · intro i h2 h3
      have : i = 0 := by have : i < 1 := by simpa using h3
                         omega
      subst this
      rw [Array.getElem?_eq_getElem h2] at h1
      exact (Option.some.inj h1).symm
  subst e
  unfold World.var?
  rw [hg]
  simp only [Option.bind_some]
  rw [hh]
theorem gb_of {P : Program} {w : World} (h1 : Lib.TabIs P w "internal/strconv.uint64pow10" .u64 Lib.pow10Tab) (h2 : ∃ m, w.var? P "internal/bytealg.MaxLen" = some #[.int .i64 m]) : GB P w fun _ => False := fun w' hf => ⟨var_fr h1 hf, h2.imp fun m hm => var_fr hm hf⟩
end Go.Ab

