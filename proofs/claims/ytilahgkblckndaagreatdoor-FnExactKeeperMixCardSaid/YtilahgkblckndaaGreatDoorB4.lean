/- Plain functions, and contracts of the functions that the law reaches. -/
import Derived.Shelf.Vars
import Derived.Stop.LaidErr
import Derived.MakeChecks
import Derived.Test.YtilahgkblckndaaGreatDoorB3
namespace Go.Proofs.YtilahgkblckndaaGreatDoor
open Go Go.Ab Go.RowKit
set_option linter.unusedVariables false
set_option linter.unusedSimpArgs false

set_option maxHeartbeats 1600000 in
theorem s_spec_l22HalfOk (h : HalfR) : Ab.Spec Tryz.prog 99 1 [(.t 0, .v (h.V))] [(.t 0, .v (B (halfOk h)))] := by
  refine spec_of_body tabOk Tryz.func99 rfl (by kernel_rfl) (by decide) (by kernel_rfl) rfl ?_
  refine SW.seq ?_
  refine SW.regT tabOk [1, 10, 11, 12, 13, 16, 17, 18, 19, 22, 23, 24, 25, 28, 29, 30, 31, 34, 35, 36, 37] ?_
  refine ai trivial (ai trivial ?_)
  refine SW.seq ?_
  refine SW.seq ?_
  refine SW.regT tabOk [1, 38] ?_
  refine ai (by first | trivial | rfl) (ai vc ?_)
  refine ex_pure (s_spec_l3Keeper _) rfl rfl rfl rfl rfl rfl rfl rfl ?_
  refine ai trivial (ai trivial (ai (fun h => (by first | trivial | rfl)) (ai rk (ai (fun h => vc) (ai rk ?_)))))
  refine exc_pure (fun h => (s_spec_l3Keeper _)) rfl rfl rfl rfl rfl rfl rfl rfl rk ?_
  refine ai (fun h => trivial) (ai rk (ai pk (ai trivial (ai (fun h => (by first | trivial | rfl)) (ai rk (ai (fun h => vc) (ai rk ?_)))))))
  refine exc_pure (fun h => (s_spec_l6In _ _ _)) rfl rfl rfl rfl rfl rfl rfl rfl rk ?_
  refine ai (fun h => trivial) (ai rk (ai pk (ai trivial (ai (fun h => (by first | trivial | rfl)) (ai rk (ai (fun h => vc) (ai rk ?_)))))))
  refine exc_pure (fun h => (s_spec_l6In _ _ _)) rfl rfl rfl rfl rfl rfl rfl rfl rk ?_
  refine ai (fun h => trivial) (ai rk (ai pk (ai trivial (ai (fun h => (by first | trivial | rfl)) (ai rk (ai (fun h => vc) (ai rk ?_)))))))
  refine exc_pure (fun h => (s_spec_l6In _ _ _)) rfl rfl rfl rfl rfl rfl rfl rfl rk ?_
  refine ai (fun h => trivial) (ai rk (ai pk (ai trivial (ai (fun h => (by first | trivial | rfl)) (ai rk (ai (fun h => vc) (ai rk (ai (fun h => vc) (ai rk (ai (fun h => trivial) (ai rk (ai pk ?_))))))))))))
  refine SW.cond rfl (fun c38 => ?_) (fun c38 => ?_)
  · skip
    have hh := half_gen c38
    refine SW.seq ?_
    refine SW.regT tabOk [2] ?_
    refine ai trivial ?_
    refine SW.ret ?_
    refine retOk1 rfl (congrArg D.b ?_)
    rw [halfOk, hh]; rfl
  · skip
    have hh := half_gen c38
    obtain ⟨p1, p2, p3, p4, p5, p6⟩ := halfHead_parts hh
    have hb1 : inB ((h.size + 3) / 4) 1 6 = true := by simp only [inB, Bool.and_eq_true, decide_eq_true_eq]; omega
    refine SW.skip ?_
    refine SW.seq ?_
    refine SW.seq ?_
    refine SW.regT tabOk [1, 3] ?_
    refine ai trivial ?_
    refine SW.block ?_
    -- live at the head: [1, 3]
    refine SW.loopW (n := h.got.length) (fun m q => ∃ i : Nat, m = h.got.length - i ∧ i ≤ h.got.length ∧ (∀ k, k < i → gotStep h.got k = true) ∧ q = [(.t 1, .v (.e (.c (.pt 1 0)))), (.t 3, .v (I (i : Nat))), (.o 1, .box 136 [.d (.i (h).frm), .d (.i (h).num), .d (.i (h).to), .d (.i (h).til), .d (.i (h).size), .d (.sl (mixRows (h).got))])]) ?_ ?_
    · skip
      refine wk [(.t 1, .v (.e (.c (.pt 1 0)))), (.t 3, .v (I (0 : Nat))), (.o 1, .box 136 [.d (.i (h).frm), .d (.i (h).num), .d (.i (h).to), .d (.i (h).til), .d (.i (h).size), .d (.sl (mixRows (h).got))])] [] [] (⟨0, rfl, Nat.zero_le _, fun k h => absurd h (by omega), rfl⟩) ?_ rfl rfl
      repeat' first | exact trivial | refine mL_nil rfl ?_ | refine mL_d rfl ?_ ?_ | refine mL_own rfl rfl ?_ rfl ?_ | refine mL_row rfl ?_ ?_ | refine mL_pt rfl rfl rfl rfl ?_ | refine mL_box rfl ?_ ?_ | refine mL_agg rfl ?_ ?_ | exact mCs_nil0 | refine mCs_d ?_ ?_ | refine mCs_nil ?_ | refine mCs_own rfl ?_ rfl ?_ | refine mCs_pt rfl rfl rfl ?_
      all_goals first | with_reducible rfl | (first | rfl | (simp; done) | omega)
    rintro n s ⟨i, rfl, hi, hk, rfl⟩
    refine SW.seq ?_
    refine SW.seq ?_
    refine SW.regT tabOk [1, 3, 43] ?_
    refine ai trivial (ai (by first | trivial | rfl) (ai vc (ai vc (ai trivial ?_))))
    refine SW.cond rfl (fun c43 => ?_) (fun c43 => ?_)
    · skip
      have hi2 : i < h.got.length := by simpa [mixRows_length] using c43
      have hg := mixRows_getD (l := h.got) hi2
      refine SW.skip ?_
      refine SW.seq ?_
      refine SW.block ?_
      refine SW.seq ?_
      refine SW.seq ?_
      refine SW.regD tabOk mo [1, 3, 55] ?_
      refine ai (by first | trivial | rfl) (ai vc ?_)
      refine ex_pure (s_spec_l2Blocks h.size (by omega)) rfl rfl rfl rfl rfl rfl rfl rfl ?_
      refine ai (by first | trivial | rfl) (ai vc (ai trivial (ai (by rw [Int.toNat_natCast, hg]; exact ⟨⟨by omega, by rw [mixRows_length]; omega⟩, rfl⟩) (ai (by rw [Int.toNat_natCast, hg]; exact ⟨Nat.le_of_ble_eq_true rfl, rfl⟩) ?_))))
      refine ex_pure (s_spec_l2Mixed ((h.size + 3) / 4) (h.got.getD i .zero)) rfl rfl rfl rfl rfl (by rw [Int.toNat_natCast, hg]; rfl) rfl rfl ?_
      refine ai trivial (ai (by kernel_rfl) ?_)
      refine SW.cond rfl (fun c55 => ?_) (fun c55 => ?_)
      · skip
        have hm : mixOk (h.got.getD i .zero) = false := by
          have h9 := c55
          rw [l1Ok, hb1, Bool.true_and] at h9
          simpa only [mixOk, Bool.not_eq_true'] using h9
        have hs := gotStep_bad hm
        refine SW.seq ?_
        refine SW.regT tabOk [2] ?_
        refine ai trivial ?_
        refine SW.ret ?_
        refine retOk1 rfl (congrArg D.b ?_)
        rw [halfOk, hh, Bool.not_false, Bool.true_and, all_false hi2 hs]
      · skip
        have hm : mixOk (h.got.getD i .zero) = true := by
          have h9 := c55
          rw [l1Ok, hb1, Bool.true_and] at h9
          simpa only [mixOk, Bool.not_eq_false'] using h9
        refine SW.skip ?_
        refine SW.seq ?_
        refine SW.regT tabOk [1, 3, 4] ?_
        refine ai trivial ?_
        refine SW.block ?_
        -- live at the head: [1, 3, 4]
        refine SW.loopW (n := i) (fun m q => ∃ j : Nat, m = i - j ∧ j ≤ i ∧ (∀ k, k < j → ((h.got.getD k .zero).num == (h.got.getD i .zero).num) = false) ∧ q = [(.t 1, .v (.e (.c (.pt 1 0)))), (.t 3, .v (I (i : Nat))), (.t 4, .v (I (j : Nat))), (.o 1, .box 136 [.d (.i (h).frm), .d (.i (h).num), .d (.i (h).to), .d (.i (h).til), .d (.i (h).size), .d (.sl (mixRows (h).got))])]) ?_ ?_
        · skip
          refine wk [(.t 1, .v (.e (.c (.pt 1 0)))), (.t 3, .v (I (i : Nat))), (.t 4, .v (I (0 : Nat))), (.o 1, .box 136 [.d (.i (h).frm), .d (.i (h).num), .d (.i (h).to), .d (.i (h).til), .d (.i (h).size), .d (.sl (mixRows (h).got))])] [] [] (⟨0, rfl, Nat.zero_le _, fun k h => absurd h (by omega), rfl⟩) ?_ rfl rfl
          repeat' first | exact trivial | refine mL_nil rfl ?_ | refine mL_d rfl ?_ ?_ | refine mL_own rfl rfl ?_ rfl ?_ | refine mL_row rfl ?_ ?_ | refine mL_pt rfl rfl rfl rfl ?_ | refine mL_box rfl ?_ ?_ | refine mL_agg rfl ?_ ?_ | exact mCs_nil0 | refine mCs_d ?_ ?_ | refine mCs_nil ?_ | refine mCs_own rfl ?_ rfl ?_ | refine mCs_pt rfl rfl rfl ?_
          all_goals first | with_reducible rfl | (first | rfl | (simp; done) | omega)
        rintro n s ⟨j, rfl, hj, hkj, rfl⟩
        refine SW.seq ?_
        refine SW.seq ?_
        refine SW.regT tabOk [1, 3, 4, 58] ?_
        refine ai trivial (ai trivial (ai trivial ?_))
        refine SW.cond rfl (fun c58 => ?_) (fun c58 => ?_)
        · skip
          have hj2 : j < i := by simpa using c58
          have hg2 := mixRows_getD (l := h.got) (i := j) (by omega)
          refine SW.skip ?_
          refine SW.seq ?_
          refine SW.block ?_
          refine SW.seq ?_
          refine SW.regD tabOk mo [1, 3, 4, 73] ?_
          refine ai (by first | trivial | rfl) (ai vc (ai trivial (ai (by rw [Int.toNat_natCast, hg2]; exact ⟨⟨by omega, by rw [mixRows_length]; omega⟩, rfl⟩) (ai (by first | trivial | rfl) (ai (by rw [Int.toNat_natCast, hg2]; exact ⟨Nat.le_of_ble_eq_true rfl, rfl⟩) (ai (by first | trivial | rfl) (ai vc (ai trivial (ai (by rw [Int.toNat_natCast, hg]; exact ⟨⟨by omega, by rw [mixRows_length]; omega⟩, rfl⟩) (ai (by first | trivial | rfl) (ai (by rw [Int.toNat_natCast, hg]; exact ⟨Nat.le_of_ble_eq_true rfl, rfl⟩) (ai trivial (ai (by kernel_rfl) ?_)))))))))))))
          refine SW.cond rfl (fun c73 => ?_) (fun c73 => ?_)
          · skip
            have hq : ((h.got.getD j .zero).num == (h.got.getD i .zero).num) = true := by
              have h9 := c73
              rw [Int.toNat_natCast, Int.toNat_natCast, hg2, hg] at h9
              exact h9
            have hs := gotStep_no hj2 hq
            refine SW.seq ?_
            refine SW.regT tabOk [2] ?_
            refine ai trivial ?_
            refine SW.ret ?_
            refine retOk1 rfl (congrArg D.b ?_)
            rw [halfOk, hh, Bool.not_false, Bool.true_and, all_false hi2 hs]
          · skip
            refine SW.skip ?_
            refine SW.regT tabOk [1, 3, 4] ?_
            refine ai trivial (ai trivial (ai trivial ?_))
            have hq : ((h.got.getD j .zero).num == (h.got.getD i .zero).num) = false := by
              have h9 := c73
              rw [Int.toNat_natCast, Int.toNat_natCast, hg2, hg] at h9
              exact h9
            refine wk [(.t 1, .v (.e (.c (.pt 1 0)))), (.t 3, .v (I (i : Nat))), (.t 4, .v (I ((j + 1) : Nat))), (.o 1, .box 136 [.d (.i (h).frm), .d (.i (h).num), .d (.i (h).to), .d (.i (h).til), .d (.i (h).size), .d (.sl (mixRows (h).got))])] [] [] (⟨i - (j + 1), by omega, j + 1, rfl, by omega, fun k h => by by_cases e : k = j; exact e ▸ hq; exact hkj k (by omega), rfl⟩) ?_ rfl rfl
            repeat' first | exact trivial | refine mL_nil rfl ?_ | refine mL_d rfl ?_ ?_ | refine mL_own rfl rfl ?_ rfl ?_ | refine mL_row rfl ?_ ?_ | refine mL_pt rfl rfl rfl rfl ?_ | refine mL_box rfl ?_ ?_ | refine mL_agg rfl ?_ ?_ | exact mCs_nil0 | refine mCs_d ?_ ?_ | refine mCs_nil ?_ | refine mCs_own rfl ?_ rfl ?_ | refine mCs_pt rfl rfl rfl ?_
            all_goals first | with_reducible rfl | (first | with_reducible rfl | exact congrArg D.i (wrap64_of (by omega)))
        · skip
          have hj3 : j = i := by simp at c58; omega
          subst hj3
          have hs := gotStep_yes hm hkj
          refine SW.exit ?_
          refine SW.regT tabOk [1, 3] ?_
          refine ai trivial (ai trivial (ai trivial ?_))
          refine wk [(.t 1, .v (.e (.c (.pt 1 0)))), (.t 3, .v (I ((j + 1) : Nat))), (.o 1, .box 136 [.d (.i (h).frm), .d (.i (h).num), .d (.i (h).to), .d (.i (h).til), .d (.i (h).size), .d (.sl (mixRows (h).got))])] [] [] (⟨h.got.length - (j + 1), by omega, j + 1, rfl, by omega, fun k h => by by_cases e : k = j; exact e ▸ hs; exact hk k (by omega), rfl⟩) ?_ rfl rfl
          repeat' first | exact trivial | refine mL_nil rfl ?_ | refine mL_d rfl ?_ ?_ | refine mL_own rfl rfl ?_ rfl ?_ | refine mL_row rfl ?_ ?_ | refine mL_pt rfl rfl rfl rfl ?_ | refine mL_box rfl ?_ ?_ | refine mL_agg rfl ?_ ?_ | exact mCs_nil0 | refine mCs_d ?_ ?_ | refine mCs_nil ?_ | refine mCs_own rfl ?_ rfl ?_ | refine mCs_pt rfl rfl rfl ?_
          all_goals first | with_reducible rfl | (first | with_reducible rfl | exact congrArg D.i (wrap64_of (by omega)))
    · skip
      have hi3 : i = h.got.length := by simp [mixRows_length] at c43; omega
      refine SW.exit ?_
      refine SW.seq ?_
      refine SW.regT tabOk [2] ?_
      refine ai trivial ?_
      refine SW.ret ?_
      refine retOk1 rfl (congrArg D.b ?_)
      rw [halfOk, hh, Bool.not_false, Bool.true_and]
      subst hi3
      exact (all_true hk).symm

theorem s_impl_halfAt (l : List HalfR) (f m : Int) (hl : l.length ≤ 1000000) : Ab.Spec Tryz.prog 108 3 [(.t 0, .v (Dv (.sl (halfRows l)))), (.t 1, .v (I f)), (.t 2, .v (I m))] [(.t 0, .v (I (halfAt l f m)))] := by
  refine spec_of_body tabOk Tryz.func108 rfl (by kernel_rfl) (by decide) (by kernel_rfl) rfl ?_
  refine SW.seq ?_
  refine SW.regT tabOk [0, 1, 2, 21, 22, 23, 24] ?_
  refine ai trivial ?_
  refine SW.seq ?_
  refine SW.seq ?_
  refine SW.regT tabOk [1, 2, 9, 10, 11, 21, 22, 23, 24] ?_
  refine ai trivial (ai vc (ai trivial ?_))
  refine SW.block ?_
  -- live at the head: [1, 2, 9, 10, 11, 21, 22, 23, 24]
  refine SW.loopW (n := l.length) (fun n q => ∃ i : Nat, n = l.length - i ∧ i ≤ l.length ∧ (∀ k, k < i → halfIs l f m k = false) ∧ q = [(.t 1, .v (I f)), (.t 2, .v (I m)), (.t 9, .v (Dv (.sl (halfRows l)))), (.t 10, .v (I (l.length : Nat))), (.t 11, .v (I (i : Nat)))]) ?_ ?_
  · skip
    refine wk [(.t 1, .v (I f)), (.t 2, .v (I m)), (.t 9, .v (Dv (.sl (halfRows l)))), (.t 10, .v (I (l.length : Nat))), (.t 11, .v (I (0 : Nat)))] [] [] (⟨0, rfl, Nat.zero_le _, fun k h => absurd h (by omega), rfl⟩) ?_ rfl rfl
    repeat' first | exact trivial | refine mL_nil rfl ?_ | refine mL_d rfl ?_ ?_ | refine mL_own rfl rfl ?_ rfl ?_ | refine mL_row rfl ?_ ?_ | refine mL_pt rfl rfl rfl rfl ?_ | refine mL_box rfl ?_ ?_ | refine mL_agg rfl ?_ ?_ | exact mCs_nil0 | refine mCs_d ?_ ?_ | refine mCs_nil ?_ | refine mCs_own rfl ?_ rfl ?_ | refine mCs_pt rfl rfl rfl ?_
    all_goals first | with_reducible rfl | (first | with_reducible rfl | (rw [halfRows_length]; done) | rfl)
  rintro n s ⟨i, rfl, hi, hk, rfl⟩
  refine SW.seq ?_
  refine SW.regT tabOk [1, 2, 9, 10, 11, 12, 21, 22, 23, 24] ?_
  refine ai trivial ?_
  refine SW.seq ?_
  refine SW.cond rfl (fun c12 => ?_) (fun c12 => ?_)
  · skip
    have hi2 : i < l.length := by simpa using c12
    have hg := halfRows_getD (l := l) hi2
    refine SW.skip ?_
    refine SW.seq ?_
    refine SW.block ?_
    refine SW.seq ?_
    refine SW.regT tabOk [1, 2, 7, 8, 9, 10, 11, 21, 22, 23, 24] ?_
    refine ai trivial (ai (by rw [Int.toNat_natCast, hg]; exact ⟨⟨by omega, by rw [halfRows_length]; omega⟩, rfl⟩) (ai (by rw [Int.toNat_natCast, hg]; exact ⟨Nat.le_of_ble_eq_true rfl, rfl⟩) (ai trivial (ai trivial (ai ⟨by kernel_rfl, Nat.le_of_ble_eq_true (by kernel_rfl)⟩ ?_)))))
    refine SW.seq ?_
    refine SW.regT tabOk [1, 2, 7, 9, 10, 11, 21, 22, 23, 24, 25] ?_
    refine ai (by first | trivial | rfl) (ai vc (ai trivial (ai trivial (ai trivial (ai (fun h => (by first | trivial | rfl)) (ai rk (ai (fun h => vc) (ai rk (ai (fun h => trivial) (ai rk (ai (fun h => trivial) (ai rk (ai pk ?_)))))))))))))
    refine SW.cond rfl (fun c25 => ?_) (fun c25 => ?_)
    · skip
      refine SW.seq ?_
      refine SW.regT tabOk [6] ?_
      refine ai trivial (ai trivial ?_)
      refine SW.ret ?_
      refine retOk1 rfl (congrArg D.i ?_)
      have hs : halfIs l f m i = true := by
        have h9 := c25
        rw [Int.toNat_natCast, hg] at h9
        exact h9
      exact (placeOf_hit (Nat.zero_le _) (by omega) (fun j _ h => hk j h) hs).symm
    · skip
      refine SW.skip ?_
      refine SW.regT tabOk [1, 2, 9, 10, 11, 21, 22, 23, 24] ?_
      refine ai trivial (ai trivial ?_)
      have hs : halfIs l f m i = false := by
        have h9 := c25
        rw [Int.toNat_natCast, hg] at h9
        exact h9
      refine wk [(.t 1, .v (I f)), (.t 2, .v (I m)), (.t 9, .v (Dv (.sl (halfRows l)))), (.t 10, .v (I (l.length : Nat))), (.t 11, .v (I ((i + 1) : Nat)))] [] [] (⟨l.length - (i + 1), by omega, i + 1, rfl, by omega, fun k h => by by_cases e : k = i; exact e ▸ hs; exact hk k (by omega), rfl⟩) ?_ rfl rfl
      repeat' first | exact trivial | refine mL_nil rfl ?_ | refine mL_d rfl ?_ ?_ | refine mL_own rfl rfl ?_ rfl ?_ | refine mL_row rfl ?_ ?_ | refine mL_pt rfl rfl rfl rfl ?_ | refine mL_box rfl ?_ ?_ | refine mL_agg rfl ?_ ?_ | exact mCs_nil0 | refine mCs_d ?_ ?_ | refine mCs_nil ?_ | refine mCs_own rfl ?_ rfl ?_ | refine mCs_pt rfl rfl rfl ?_
      all_goals first | with_reducible rfl | (first | with_reducible rfl | exact congrArg D.i (wrap64_of (by omega)))
  · skip
    have hi3 : i = l.length := by simp at c12; omega
    refine SW.exit ?_
    refine SW.seq ?_
    refine SW.regT tabOk [6] ?_
    refine ai trivial ?_
    refine SW.ret ?_
    refine retOk1 rfl (congrArg D.i ?_)
    exact (placeOf_none (fun j _ h => hk j (by omega))).symm

set_option maxHeartbeats 3200000 in
theorem s_impl_KeeperOk (k : KeeperR) (hl : k.log.length ≤ 140737488355328) : Ab.Spec Tryz.prog 49 1 [(.t 0, .v (k.V))] [(.t 0, .v (B (keeperOk k)))] := by
  refine spec_of_body tabOk Tryz.func49 rfl (by kernel_rfl) (by decide) (by kernel_rfl) rfl ?_
  refine SW.seq ?_
  refine SW.regT tabOk [1, 14, 15, 16, 17, 20, 21, 22, 23, 26, 27, 28, 29, 30, 31, 32, 33, 34, 61, 62, 76, 77, 78, 79, 80, 81, 82, 83, 84] ?_
  refine ai trivial (ai trivial ?_)
  refine SW.seq ?_
  refine SW.seq ?_
  refine SW.regT tabOk [1, 35, 61, 62, 76, 77, 78, 79, 80, 81, 82, 83, 84] ?_
  refine ai (by first | trivial | rfl) (ai vc ?_)
  refine ex_pure (s_impl_isNode _) rfl rfl rfl rfl rfl rfl rfl rfl ?_
  refine ai trivial (ai trivial (ai (fun h => (by first | trivial | rfl)) (ai rk (ai (fun h => vc) (ai rk ?_)))))
  refine exc_pure (fun h => (s_impl_ShelfOk k.log k.forced hl)) rfl rfl rfl rfl rfl rfl rfl rfl rk ?_
  refine ai (fun h => trivial) (ai rk (ai pk (ai trivial (ai (fun h => (by first | trivial | rfl)) (ai rk (ai (fun h => vc) (ai rk (ai (fun h => vc) (ai rk (ai (fun h => trivial) (ai rk (ai pk (ai trivial (ai (fun h => (by first | trivial | rfl)) (ai rk (ai (fun h => vc) (ai rk (ai (fun h => trivial) (ai rk (ai (fun h => trivial) (ai rk (ai (fun h => (by first | trivial | rfl)) (ai rk (ai (fun h => vc) (ai rk (ai (fun h => vc) (ai rk (ai (fun h => trivial) (ai rk (ai (fun h => pk) (ai rk (ai pk ?_))))))))))))))))))))))))))))))))
  refine SW.cond rfl (fun c35 => ?_) (fun c35 => ?_)
  · skip
    have hh := keeper_gen c35
    refine SW.seq ?_
    refine SW.regT tabOk [2] ?_
    refine ai trivial ?_
    refine SW.ret ?_
    refine retOk1 rfl (congrArg D.b ?_)
    exact (keeperOk_head hh).symm
  · skip
    have hh := keeper_gen c35
    obtain ⟨p1, p2, p3, p4⟩ := keeperHead_parts hh
    obtain ⟨q1, q2, q3, q4⟩ := shelfOk_parts p2
    refine SW.skip ?_
    refine SW.seq ?_
    refine SW.regT tabOk [1, 4, 61, 62, 76, 77, 78, 79, 80, 81, 82, 83, 84] ?_
    refine ai (by first | trivial | rfl) (ai vc (ai (by first | trivial | rfl) (ai (by first | trivial | rfl) (ai vc ?_))))
    refine ex_pure (s_impl_stateOf k.id k.log (by omega)) rfl rfl rfl rfl rfl rfl rfl rfl ?_
    refine ai trivial (ai trivial (ai trivial (ai trivial (ai ⟨by kernel_rfl, Nat.le_of_ble_eq_true (by kernel_rfl)⟩ (ai trivial ?_)))))
    refine SW.seq ?_
    refine SW.regD tabOk mo [1, 4, 6, 61, 62, 76, 77, 78, 79, 80, 81, 82, 83, 84] ?_
    refine ai (by first | trivial | rfl) (ai vc (ai (by first | trivial | rfl) (ai (by first | trivial | rfl) (ai vc (ai (by first | trivial | rfl) (ai (by first | trivial | rfl) (ai vc (ai (by exact ⟨by simp, by simpa using q2.1, by simpa using q2.2⟩) ?_))))))))
    refine ex_pure (s_impl_stateOf k.id (k.log.take k.forced.toNat) (by rw [List.length_take]; omega)) rfl rfl rfl rfl rfl rfl rfl rfl ?_
    refine ai trivial (ai trivial (ai trivial (ai trivial (ai ⟨by kernel_rfl, Nat.le_of_ble_eq_true (by kernel_rfl)⟩ (ai trivial (ai (by kernel_rfl) ?_))))))
    refine SW.seq ?_
    refine SW.seq ?_
    refine SW.regT tabOk [1, 63, 76, 77, 78, 79, 80, 81, 82, 83, 84] ?_
    refine ai trivial (ai trivial (ai trivial (ai (fun h => trivial) (ai rk (ai (fun h => trivial) (ai rk (ai pk ?_)))))))
    refine SW.cond rfl (fun c63 => ?_) (fun c63 => ?_)
    · skip
      have hn := keeperOk_no (k := k) c63 (.inl ⟨rfl, rfl⟩)
      refine SW.seq ?_
      refine SW.regT tabOk [2] ?_
      refine ai trivial ?_
      refine SW.ret ?_
      refine retOk1 rfl (congrArg D.b ?_)
      exact hn.symm
    · skip
      have hy := keeperOk_yes (k := k) hh c63 (.inl ⟨rfl, rfl⟩)
      refine SW.skip ?_
      refine SW.seq ?_
      refine SW.seq ?_
      refine SW.regT tabOk [1, 65, 66, 67, 76, 77, 78, 79, 80, 81, 82, 83, 84] ?_
      refine ai (by first | trivial | rfl) (ai vc (ai vc (ai trivial ?_)))
      refine SW.block ?_
      -- live at the head: [1, 65, 66, 67, 76, 77, 78, 79, 80, 81, 82, 83, 84]
      refine SW.loopW (n := k.halves.length) (fun m q => ∃ i : Nat, m = k.halves.length - i ∧ i ≤ k.halves.length ∧ (∀ j, j < i → halfStep k.halves j = true) ∧ q = [(.t 1, .v (.e (.c (.pt 1 0)))), (.t 65, .v (Dv (.sl (halfRows k.halves)))), (.t 66, .v (I (k.halves.length : Nat))), (.t 67, .v (I (i : Nat))), (.o 1, .box 35 [.d (.i (k).id), .d (.b (k).up), .d (.s (k).log), .d (.i (k).forced), .d (.sl (halfRows (k).halves))])]) ?_ ?_
      · skip
        refine wk [(.t 1, .v (.e (.c (.pt 1 0)))), (.t 65, .v (Dv (.sl (halfRows k.halves)))), (.t 66, .v (I (k.halves.length : Nat))), (.t 67, .v (I (0 : Nat))), (.o 1, .box 35 [.d (.i (k).id), .d (.b (k).up), .d (.s (k).log), .d (.i (k).forced), .d (.sl (halfRows (k).halves))])] [] [] (⟨0, rfl, Nat.zero_le _, fun j h => absurd h (by omega), rfl⟩) ?_ rfl rfl
        repeat' first | exact trivial | refine mL_nil rfl ?_ | refine mL_d rfl ?_ ?_ | refine mL_own rfl rfl ?_ rfl ?_ | refine mL_row rfl ?_ ?_ | refine mL_pt rfl rfl rfl rfl ?_ | refine mL_box rfl ?_ ?_ | refine mL_agg rfl ?_ ?_ | exact mCs_nil0 | refine mCs_d ?_ ?_ | refine mCs_nil ?_ | refine mCs_own rfl ?_ rfl ?_ | refine mCs_pt rfl rfl rfl ?_
        all_goals first | with_reducible rfl | (first | with_reducible rfl | rfl | (rw [halfRows_length]; done))
      rintro n s ⟨i, rfl, hi, hk, rfl⟩
      refine SW.seq ?_
      refine SW.regT tabOk [1, 65, 66, 67, 68, 76, 77, 78, 79, 80, 81, 82, 83, 84] ?_
      refine ai trivial ?_
      refine SW.seq ?_
      refine SW.cond rfl (fun c68 => ?_) (fun c68 => ?_)
      · skip
        have hi2 : i < k.halves.length := by simpa using c68
        have hg := halfRows_getD (l := k.halves) hi2
        refine SW.skip ?_
        refine SW.seq ?_
        refine SW.block ?_
        refine SW.seq ?_
        refine SW.regT tabOk [1, 7, 8, 65, 66, 67, 76, 77, 78, 79, 80, 81, 82, 83, 84] ?_
        refine ai trivial (ai (by rw [Int.toNat_natCast, hg]; exact ⟨⟨by omega, by rw [halfRows_length]; omega⟩, rfl⟩) (ai (by rw [Int.toNat_natCast, hg]; exact ⟨Nat.le_of_ble_eq_true rfl, rfl⟩) (ai trivial (ai trivial (ai ⟨by kernel_rfl, Nat.le_of_ble_eq_true (by kernel_rfl)⟩ ?_)))))
        refine SW.seq ?_
        refine SW.wk (J := fun s => s = [(.t 1, .v (.e (.c (.pt 1 0)))), (.t 7, .v (I (i : Nat))), (.t 8, .v (.e (.c (.pt 8 0)))), (.t 65, .v (Dv (.sl (halfRows k.halves)))), (.t 66, .v (I (k.halves.length : Nat))), (.t 67, .v (I (i : Nat))), (.o 1, .box 35 [.d (.i (k).id), .d (.b (k).up), .d (.s (k).log), .d (.i (k).forced), .d (.sl (halfRows (k).halves))]), (.o 8, .box 136 [.d (.i (k.halves.getD i .zero).frm), .d (.i (k.halves.getD i .zero).num), .d (.i (k.halves.getD i .zero).to), .d (.i (k.halves.getD i .zero).til), .d (.i (k.halves.getD i .zero).size), .d (.sl (mixRows (k.halves.getD i .zero).got))])]) ?_ ?_
        · skip
          refine wk [(.t 1, .v (.e (.c (.pt 1 0)))), (.t 7, .v (I (i : Nat))), (.t 8, .v (.e (.c (.pt 8 0)))), (.t 65, .v (Dv (.sl (halfRows k.halves)))), (.t 66, .v (I (k.halves.length : Nat))), (.t 67, .v (I (i : Nat))), (.o 1, .box 35 [.d (.i (k).id), .d (.b (k).up), .d (.s (k).log), .d (.i (k).forced), .d (.sl (halfRows (k).halves))]), (.o 8, .box 136 [.d (.i (k.halves.getD i .zero).frm), .d (.i (k.halves.getD i .zero).num), .d (.i (k.halves.getD i .zero).to), .d (.i (k.halves.getD i .zero).til), .d (.i (k.halves.getD i .zero).size), .d (.sl (mixRows (k.halves.getD i .zero).got))])] [] [] (rfl) ?_ rfl rfl
          repeat' first | exact trivial | refine mL_nil rfl ?_ | refine mL_d rfl ?_ ?_ | refine mL_own rfl rfl ?_ rfl ?_ | refine mL_row rfl ?_ ?_ | refine mL_pt rfl rfl rfl rfl ?_ | refine mL_box rfl ?_ ?_ | refine mL_agg rfl ?_ ?_ | exact mCs_nil0 | refine mCs_d ?_ ?_ | refine mCs_nil ?_ | refine mCs_own rfl ?_ rfl ?_ | refine mCs_pt rfl rfl rfl ?_
          all_goals first | with_reducible rfl | (first | with_reducible rfl | (rw [Int.toNat_natCast, hg]; rfl))
        rintro s rfl
        refine SW.regT tabOk [1, 65, 66, 67, 76, 77, 78, 79, 80, 81, 82, 83, 84, 85] ?_
        refine ai vc ?_
        refine ex_pure (s_impl_halfOk (k.halves.getD i .zero)) rfl rfl rfl rfl rfl rfl rfl rfl ?_
        refine ai trivial (ai trivial (ai (fun h => (by first | trivial | rfl)) (ai rk (ai (fun h => vc) (ai rk (ai (fun h => (by first | trivial | rfl)) (ai rk (ai (fun h => vc) (ai rk (ai (fun h => (by first | trivial | rfl)) (ai rk (ai (fun h => vc) (ai rk ?_)))))))))))))
        refine exc_pure (fun h => (s_impl_halfAt k.halves _ _ (by omega))) rfl rfl rfl rfl rfl rfl rfl rfl rk ?_
        refine ai (fun h => trivial) (ai rk (ai (fun h => trivial) (ai rk (ai pk ?_))))
        refine SW.cond rfl (fun c85 => ?_) (fun c85 => ?_)
        · skip
          refine SW.seq ?_
          refine SW.regT tabOk [2] ?_
          refine ai trivial ?_
          refine SW.ret ?_
          refine retOk1 rfl (congrArg D.b ?_)
          have hs : halfStep k.halves i = false := halfStep_gen hi2 c85
          rw [hy, all_false hi2 hs]
        · skip
          refine SW.skip ?_
          refine SW.regT tabOk [1, 65, 66, 67, 76, 77, 78, 79, 80, 81, 82, 83, 84] ?_
          refine ai trivial (ai trivial ?_)
          have hs : halfStep k.halves i = true := halfStep_gen hi2 c85
          refine wk [(.t 1, .v (.e (.c (.pt 1 0)))), (.t 65, .v (Dv (.sl (halfRows k.halves)))), (.t 66, .v (I (k.halves.length : Nat))), (.t 67, .v (I ((i + 1) : Nat))), (.o 1, .box 35 [.d (.i (k).id), .d (.b (k).up), .d (.s (k).log), .d (.i (k).forced), .d (.sl (halfRows (k).halves))])] [] [] (⟨k.halves.length - (i + 1), by omega, i + 1, rfl, by omega, fun j h => by by_cases e : j = i; exact e ▸ hs; exact hk j (by omega), rfl⟩) ?_ rfl rfl
          repeat' first | exact trivial | refine mL_nil rfl ?_ | refine mL_d rfl ?_ ?_ | refine mL_own rfl rfl ?_ rfl ?_ | refine mL_row rfl ?_ ?_ | refine mL_pt rfl rfl rfl rfl ?_ | refine mL_box rfl ?_ ?_ | refine mL_agg rfl ?_ ?_ | exact mCs_nil0 | refine mCs_d ?_ ?_ | refine mCs_nil ?_ | refine mCs_own rfl ?_ rfl ?_ | refine mCs_pt rfl rfl rfl ?_
          all_goals first | with_reducible rfl | (first | with_reducible rfl | exact congrArg D.i (wrap64_of (by omega)))
      · skip
        have hi3 : i = k.halves.length := by simp at c68; omega
        refine SW.exit ?_
        refine SW.seq ?_
        refine SW.regT tabOk [2] ?_
        refine ai trivial ?_
        refine SW.ret ?_
        refine retOk1 rfl (congrArg D.b ?_)
        subst hi3
        rw [hy, all_true hk]

set_option maxHeartbeats 3200000 in
theorem s_spec_KeeperOk (k : KeeperR) (hl : k.log.length ≤ 140737488355328) : Ab.Spec Tryz.prog 41 1 [(.t 0, .v (k.V))] [(.t 0, .v (B (keeperOk k)))] := by
  refine spec_of_body tabOk Tryz.func41 rfl (by kernel_rfl) (by decide) (by kernel_rfl) rfl ?_
  refine SW.seq ?_
  refine SW.regT tabOk [1, 16, 17, 18, 19, 22, 23, 24, 25, 28, 29, 30, 31, 32, 33, 34, 35, 36, 64, 65, 100, 101, 102, 103, 104, 105, 106, 107, 108, 109, 110, 111, 112] ?_
  refine ai trivial (ai trivial ?_)
  refine SW.seq ?_
  refine SW.seq ?_
  refine SW.regT tabOk [1, 37, 64, 65, 100, 101, 102, 103, 104, 105, 106, 107, 108, 109, 110, 111, 112] ?_
  refine ai (by first | trivial | rfl) (ai vc ?_)
  refine ex_pure (s_spec_l3Keeper _) rfl rfl rfl rfl rfl rfl rfl rfl ?_
  refine ai trivial (ai trivial (ai (fun h => (by first | trivial | rfl)) (ai rk (ai (fun h => vc) (ai rk ?_)))))
  refine exc_pure (fun h => (s_spec_ShelfOk k.log k.forced hl)) rfl rfl rfl rfl rfl rfl rfl rfl rk ?_
  refine ai (fun h => trivial) (ai rk (ai pk (ai trivial (ai (fun h => (by first | trivial | rfl)) (ai rk (ai (fun h => vc) (ai rk (ai (fun h => vc) (ai rk (ai (fun h => trivial) (ai rk (ai pk (ai trivial (ai (fun h => (by first | trivial | rfl)) (ai rk (ai (fun h => vc) (ai rk (ai (fun h => trivial) (ai rk (ai (fun h => trivial) (ai rk (ai (fun h => (by first | trivial | rfl)) (ai rk (ai (fun h => vc) (ai rk (ai (fun h => vc) (ai rk (ai (fun h => trivial) (ai rk (ai (fun h => pk) (ai rk (ai pk ?_))))))))))))))))))))))))))))))))
  refine SW.cond rfl (fun c37 => ?_) (fun c37 => ?_)
  · skip
    have hh := keeper_gen c37
    refine SW.seq ?_
    refine SW.regT tabOk [2] ?_
    refine ai trivial ?_
    refine SW.ret ?_
    refine retOk1 rfl (congrArg D.b ?_)
    exact (keeperOk_head hh).symm
  · skip
    have hh := keeper_gen c37
    obtain ⟨p1, p2, p3, p4⟩ := keeperHead_parts hh
    obtain ⟨q1, q2, q3, q4⟩ := shelfOk_parts p2
    refine SW.skip ?_
    refine SW.seq ?_
    refine SW.regT tabOk [1, 3, 64, 65, 100, 101, 102, 103, 104, 105, 106, 107, 108, 109, 110, 111, 112] ?_
    refine ai (by first | trivial | rfl) (ai (by first | trivial | rfl) (ai vc (ai (by first | trivial | rfl) (ai (by first | trivial | rfl) (ai vc (ai (by exact ⟨by simp, by simpa using q2.1, by simpa using q2.2⟩) ?_))))))
    refine ex_pure (s_spec_ShelfReadF (k.log.take k.forced.toNat) (by rw [List.length_take]; omega)) rfl rfl rfl rfl rfl rfl rfl rfl ?_
    refine ai trivial (ai trivial (ai trivial (ai trivial (ai trivial ?_))))
    refine SW.seq ?_
    refine SW.regT tabOk [1, 6, 64, 65, 100, 101, 102, 103, 104, 105, 106, 107, 108, 109, 110, 111, 112] ?_
    refine ai (by first | trivial | rfl) (ai vc (ai trivial ?_))
    refine ex_pure (s_spec_KeepOf k.id (shelfRead (k.log.take k.forced.toNat)).1 (shelf_recs _ (by rw [List.length_take]; omega)).1 (shelf_recs _ (by rw [List.length_take]; omega)).2) rfl rfl rfl rfl rfl rfl rfl rfl ?_
    refine ai trivial (ai trivial (ai trivial (ai trivial (ai ⟨by kernel_rfl, Nat.le_of_ble_eq_true (by kernel_rfl)⟩ (ai trivial ?_)))))
    refine SW.seq ?_
    refine SW.regT tabOk [1, 6, 8, 64, 65, 100, 101, 102, 103, 104, 105, 106, 107, 108, 109, 110, 111, 112] ?_
    refine ai vc ?_
    refine ex_pure (s_spec_l22Has k (by omega)) rfl rfl rfl rfl rfl rfl rfl rfl ?_
    refine ai trivial (ai trivial (ai trivial (ai trivial (ai ⟨by kernel_rfl, Nat.le_of_ble_eq_true (by kernel_rfl)⟩ (ai trivial ?_)))))
    refine SW.seq ?_
    refine SW.seq ?_
    refine SW.regT tabOk [1, 66, 100, 101, 102, 103, 104, 105, 106, 107, 108, 109, 110, 111, 112] ?_
    refine ai trivial (ai trivial (ai trivial (ai (fun h => trivial) (ai rk (ai (fun h => trivial) (ai rk (ai pk ?_)))))))
    refine SW.cond rfl (fun c66 => ?_) (fun c66 => ?_)
    · skip
      have hn := keeperOk_no (k := k) c66 (.inl ⟨rfl, rfl⟩)
      refine SW.seq ?_
      refine SW.regT tabOk [2] ?_
      refine ai trivial ?_
      refine SW.ret ?_
      refine retOk1 rfl (congrArg D.b ?_)
      exact hn.symm
    · skip
      have hy := keeperOk_yes (k := k) hh c66 (.inl ⟨rfl, rfl⟩)
      refine SW.skip ?_
      refine SW.seq ?_
      refine SW.seq ?_
      refine SW.regT tabOk [1, 9, 100, 101, 102, 103, 104, 105, 106, 107, 108, 109, 110, 111, 112] ?_
      refine ai trivial ?_
      refine SW.block ?_
      -- live at the head: [1, 9, 100, 101, 102, 103, 104, 105, 106, 107, 108, 109, 110, 111, 112]
      refine SW.loopW (n := k.halves.length) (fun m q => ∃ i : Nat, m = k.halves.length - i ∧ i ≤ k.halves.length ∧ (∀ j, j < i → halfStep k.halves j = true) ∧ q = [(.t 1, .v (.e (.c (.pt 1 0)))), (.t 9, .v (I (i : Nat))), (.o 1, .box 35 [.d (.i (k).id), .d (.b (k).up), .d (.s (k).log), .d (.i (k).forced), .d (.sl (halfRows (k).halves))])]) ?_ ?_
      · skip
        refine wk [(.t 1, .v (.e (.c (.pt 1 0)))), (.t 9, .v (I (0 : Nat))), (.o 1, .box 35 [.d (.i (k).id), .d (.b (k).up), .d (.s (k).log), .d (.i (k).forced), .d (.sl (halfRows (k).halves))])] [] [] (⟨0, rfl, Nat.zero_le _, fun j h => absurd h (by omega), rfl⟩) ?_ rfl rfl
        repeat' first | exact trivial | refine mL_nil rfl ?_ | refine mL_d rfl ?_ ?_ | refine mL_own rfl rfl ?_ rfl ?_ | refine mL_row rfl ?_ ?_ | refine mL_pt rfl rfl rfl rfl ?_ | refine mL_box rfl ?_ ?_ | refine mL_agg rfl ?_ ?_ | exact mCs_nil0 | refine mCs_d ?_ ?_ | refine mCs_nil ?_ | refine mCs_own rfl ?_ rfl ?_ | refine mCs_pt rfl rfl rfl ?_
        all_goals first | with_reducible rfl | (first | rfl | (simp; done) | omega)
      rintro n s ⟨i, rfl, hi, hk, rfl⟩
      refine SW.seq ?_
      refine SW.seq ?_
      refine SW.regT tabOk [1, 9, 71, 100, 101, 102, 103, 104, 105, 106, 107, 108, 109, 110, 111, 112] ?_
      refine ai trivial (ai (by first | trivial | rfl) (ai vc (ai vc (ai trivial ?_))))
      refine SW.cond rfl (fun c71 => ?_) (fun c71 => ?_)
      · skip
        have hi2 : i < k.halves.length := by simpa [halfRows_length] using c71
        have hg := halfRows_getD (l := k.halves) hi2
        refine SW.skip ?_
        refine SW.seq ?_
        refine SW.block ?_
        refine SW.seq ?_
        refine SW.seq ?_
        refine SW.regT tabOk [1, 9, 80, 100, 101, 102, 103, 104, 105, 106, 107, 108, 109, 110, 111, 112] ?_
        refine ai (by first | trivial | rfl) (ai vc (ai trivial (ai (by rw [Int.toNat_natCast, hg]; exact ⟨⟨by omega, by rw [halfRows_length]; omega⟩, rfl⟩) (ai (by rw [Int.toNat_natCast, hg]; exact ⟨Nat.le_of_ble_eq_true rfl, rfl⟩) ?_))))
        refine ex_pure (s_spec_l22HalfOk (k.halves.getD i .zero)) rfl rfl rfl rfl rfl (by rw [Int.toNat_natCast, hg]; rfl) rfl rfl ?_
        refine ai trivial ?_
        refine SW.cond rfl (fun c80 => ?_) (fun c80 => ?_)
        · skip
          have hs := halfStep_bad (by simpa using c80)
          refine SW.seq ?_
          refine SW.regT tabOk [2] ?_
          refine ai trivial ?_
          refine SW.ret ?_
          refine retOk1 rfl (congrArg D.b ?_)
          rw [hy, all_false hi2 hs]
        · skip
          refine SW.skip ?_
          refine SW.seq ?_
          refine SW.regT tabOk [1, 9, 10, 100, 101, 102, 103, 104, 105, 106, 107, 108, 109, 110, 111, 112] ?_
          refine ai trivial ?_
          refine SW.block ?_
          -- live at the head: [1, 9, 10, 100, 101, 102, 103, 104, 105, 106, 107, 108, 109, 110, 111, 112]
          refine SW.loopW (n := i) (fun m q => ∃ j : Nat, m = i - j ∧ j ≤ i ∧ (∀ k1, k1 < j → halfIs k.halves (k.halves.getD i .zero).frm (k.halves.getD i .zero).num k1 = false) ∧ q = [(.t 1, .v (.e (.c (.pt 1 0)))), (.t 9, .v (I (i : Nat))), (.t 10, .v (I (j : Nat))), (.o 1, .box 35 [.d (.i (k).id), .d (.b (k).up), .d (.s (k).log), .d (.i (k).forced), .d (.sl (halfRows (k).halves))])]) ?_ ?_
          · skip
            refine wk [(.t 1, .v (.e (.c (.pt 1 0)))), (.t 9, .v (I (i : Nat))), (.t 10, .v (I (0 : Nat))), (.o 1, .box 35 [.d (.i (k).id), .d (.b (k).up), .d (.s (k).log), .d (.i (k).forced), .d (.sl (halfRows (k).halves))])] [] [] (⟨0, rfl, Nat.zero_le _, fun j h => absurd h (by omega), rfl⟩) ?_ rfl rfl
            repeat' first | exact trivial | refine mL_nil rfl ?_ | refine mL_d rfl ?_ ?_ | refine mL_own rfl rfl ?_ rfl ?_ | refine mL_row rfl ?_ ?_ | refine mL_pt rfl rfl rfl rfl ?_ | refine mL_box rfl ?_ ?_ | refine mL_agg rfl ?_ ?_ | exact mCs_nil0 | refine mCs_d ?_ ?_ | refine mCs_nil ?_ | refine mCs_own rfl ?_ rfl ?_ | refine mCs_pt rfl rfl rfl ?_
            all_goals first | with_reducible rfl | (first | rfl | (simp; done) | omega)
          rintro n s ⟨j, rfl, hj, hkj, rfl⟩
          refine SW.seq ?_
          refine SW.seq ?_
          refine SW.regT tabOk [1, 9, 10, 83, 100, 101, 102, 103, 104, 105, 106, 107, 108, 109, 110, 111, 112] ?_
          refine ai trivial (ai trivial (ai trivial ?_))
          refine SW.cond rfl (fun c83 => ?_) (fun c83 => ?_)
          · skip
            have hj2 : j < i := by simpa using c83
            have hg2 := halfRows_getD (l := k.halves) (i := j) (by omega)
            refine SW.skip ?_
            refine SW.seq ?_
            refine SW.block ?_
            refine SW.seq ?_
            refine SW.regD tabOk mo [1, 9, 10, 100, 101, 102, 103, 104, 105, 106, 107, 108, 109, 110, 111, 112, 113] ?_
            refine ai (by first | trivial | rfl) (ai vc (ai trivial (ai (by rw [Int.toNat_natCast, hg2]; exact ⟨⟨by omega, by rw [halfRows_length]; omega⟩, rfl⟩) (ai (by first | trivial | rfl) (ai (by rw [Int.toNat_natCast, hg2]; exact ⟨Nat.le_of_ble_eq_true rfl, rfl⟩) (ai (by first | trivial | rfl) (ai vc (ai trivial (ai (by rw [Int.toNat_natCast, hg]; exact ⟨⟨by omega, by rw [halfRows_length]; omega⟩, rfl⟩) (ai (by first | trivial | rfl) (ai (by rw [Int.toNat_natCast, hg]; exact ⟨Nat.le_of_ble_eq_true rfl, rfl⟩) (ai trivial (ai trivial (ai (fun h => (by first | trivial | rfl)) (ai rk (ai (fun h => vc) (ai rk (ai (fun h => trivial) (ai rk (ai (fun h => (by rw [Int.toNat_natCast, hg2]; exact ⟨⟨by omega, by rw [halfRows_length]; omega⟩, rfl⟩)) (ai rk (ai (fun h => (by first | trivial | rfl)) (ai rk (ai (fun h => (by rw [Int.toNat_natCast, hg2]; exact ⟨Nat.le_of_ble_eq_true rfl, rfl⟩)) (ai rk (ai (fun h => (by first | trivial | rfl)) (ai rk (ai (fun h => vc) (ai rk (ai (fun h => trivial) (ai rk (ai (fun h => (by rw [Int.toNat_natCast, hg]; exact ⟨⟨by omega, by rw [halfRows_length]; omega⟩, rfl⟩)) (ai rk (ai (fun h => (by first | trivial | rfl)) (ai rk (ai (fun h => (by rw [Int.toNat_natCast, hg]; exact ⟨Nat.le_of_ble_eq_true rfl, rfl⟩)) (ai rk (ai (fun h => trivial) (ai rk (ai pk (ai (by kernel_rfl) ?_)))))))))))))))))))))))))))))))))))))))))
            refine SW.cond rfl (fun c113 => ?_) (fun c113 => ?_)
            · skip
              have hq : halfIs k.halves (k.halves.getD i .zero).frm (k.halves.getD i .zero).num j = true := by
                have h9 := c113
                rw [Int.toNat_natCast, Int.toNat_natCast, hg2, hg] at h9
                exact h9
              have hs := halfStep_no hj2 hq
              refine SW.seq ?_
              refine SW.regT tabOk [2] ?_
              refine ai trivial ?_
              refine SW.ret ?_
              refine retOk1 rfl (congrArg D.b ?_)
              rw [hy, all_false hi2 hs]
            · skip
              refine SW.skip ?_
              refine SW.regT tabOk [1, 9, 10, 100, 101, 102, 103, 104, 105, 106, 107, 108, 109, 110, 111, 112] ?_
              refine ai trivial (ai trivial (ai trivial ?_))
              have hq : halfIs k.halves (k.halves.getD i .zero).frm (k.halves.getD i .zero).num j = false := by
                have h9 := c113
                rw [Int.toNat_natCast, Int.toNat_natCast, hg2, hg] at h9
                exact h9
              refine wk [(.t 1, .v (.e (.c (.pt 1 0)))), (.t 9, .v (I (i : Nat))), (.t 10, .v (I ((j + 1) : Nat))), (.o 1, .box 35 [.d (.i (k).id), .d (.b (k).up), .d (.s (k).log), .d (.i (k).forced), .d (.sl (halfRows (k).halves))])] [] [] (⟨i - (j + 1), by omega, j + 1, rfl, by omega, fun m h => by by_cases e : m = j; exact e ▸ hq; exact hkj m (by omega), rfl⟩) ?_ rfl rfl
              repeat' first | exact trivial | refine mL_nil rfl ?_ | refine mL_d rfl ?_ ?_ | refine mL_own rfl rfl ?_ rfl ?_ | refine mL_row rfl ?_ ?_ | refine mL_pt rfl rfl rfl rfl ?_ | refine mL_box rfl ?_ ?_ | refine mL_agg rfl ?_ ?_ | exact mCs_nil0 | refine mCs_d ?_ ?_ | refine mCs_nil ?_ | refine mCs_own rfl ?_ rfl ?_ | refine mCs_pt rfl rfl rfl ?_
              all_goals first | with_reducible rfl | (first | with_reducible rfl | exact congrArg D.i (wrap64_of (by omega)))
          · skip
            have hj3 : j = i := by simp at c83; omega
            subst hj3
            have hs := halfStep_yes (by simpa using c80) hkj
            refine SW.exit ?_
            refine SW.regT tabOk [1, 9, 100, 101, 102, 103, 104, 105, 106, 107, 108, 109, 110, 111, 112] ?_
            refine ai trivial (ai trivial (ai trivial ?_))
            refine wk [(.t 1, .v (.e (.c (.pt 1 0)))), (.t 9, .v (I ((j + 1) : Nat))), (.o 1, .box 35 [.d (.i (k).id), .d (.b (k).up), .d (.s (k).log), .d (.i (k).forced), .d (.sl (halfRows (k).halves))])] [] [] (⟨k.halves.length - (j + 1), by omega, j + 1, rfl, by omega, fun m h => by by_cases e : m = j; exact e ▸ hs; exact hk m (by omega), rfl⟩) ?_ rfl rfl
            repeat' first | exact trivial | refine mL_nil rfl ?_ | refine mL_d rfl ?_ ?_ | refine mL_own rfl rfl ?_ rfl ?_ | refine mL_row rfl ?_ ?_ | refine mL_pt rfl rfl rfl rfl ?_ | refine mL_box rfl ?_ ?_ | refine mL_agg rfl ?_ ?_ | exact mCs_nil0 | refine mCs_d ?_ ?_ | refine mCs_nil ?_ | refine mCs_own rfl ?_ rfl ?_ | refine mCs_pt rfl rfl rfl ?_
            all_goals first | with_reducible rfl | (first | with_reducible rfl | exact congrArg D.i (wrap64_of (by omega)))
      · skip
        have hi3 : i = k.halves.length := by simp [halfRows_length] at c71; omega
        refine SW.exit ?_
        refine SW.seq ?_
        refine SW.regT tabOk [2] ?_
        refine ai trivial ?_
        refine SW.ret ?_
        refine retOk1 rfl (congrArg D.b ?_)
        subst hi3
        rw [hy, all_true hk]

end Go.Proofs.YtilahgkblckndaaGreatDoor

namespace Go.Ab
open Go Go.RowKit
set_option linter.unusedVariables false
set_option linter.unusedSimpArgs false

theorem exists_map {α : Type} {f : α → List D} {p : α → Prop} : ∀ {rows : List (List D)}, (∀ r ∈ rows, ∃ x, r = f x ∧ p x) → ∃ l : List α, rows = l.map f ∧ ∀ x ∈ l, p x
  | [], _ => ⟨[], rfl, fun x h => (by cases h)⟩
  | r :: rows, h => by
    obtain ⟨x, rfl, hp⟩ := h r (List.mem_cons_self ..)
    obtain ⟨l, rfl, hl⟩ := exists_map (rows := rows) fun r hr => h r (List.mem_cons_of_mem _ hr)
    exact ⟨x :: l, rfl, fun y hy => by rcases List.mem_cons.1 hy with rfl | hy; exact hp; exact hl y hy⟩
theorem eq_of_getD {α : Type} {z : α} {a b : List α} (hl : a.length = b.length) (h : ∀ j, j < a.length → a.getD j z = b.getD j z) : a = b := by
  apply List.ext_getElem hl
  intro i h1 h2
  have := h i h1
  rw [List.getD_eq_getElem?_getD, List.getD_eq_getElem?_getD, List.getElem?_eq_getElem h1, List.getElem?_eq_getElem h2] at this
  exact this
theorem ne_of_getD {α : Type} {z : α} {a b : List α} {j : Nat} (h : ¬ a.getD j z = b.getD j z) : ¬ a = b := fun e => h (by rw [e])
def KeeperR.row (k : KeeperR) : List D := [.i k.id, .b k.up, .s k.log, .i k.forced, .sl (halfRows k.halves)]
def KRB (k : KeeperR) : Prop := k.log.length ≤ 140737488355328 ∧ k.halves.length * 64 ≤ 140737488355328 ∧ ∀ h ∈ k.halves, h.got.length * 24 ≤ 140737488355328
theorem to_at_MixR {l : List MixR} {i : Nat} (h : i < l.length) : (mixRows ((l.take i) ++ List.replicate (l.length - i) MixR.zero)).getD i [] = MixR.zero.row := by
  rw [mixRows_getD (by simp; omega), List.getD_eq_getElem?_getD, List.getElem?_append_right (by simp; omega)]
  rw [List.getElem?_replicate, if_pos (by simp; omega)]
  rfl
theorem to_step_MixR {l : List MixR} {i : Nat} (h : i < l.length) : (mixRows ((l.take i) ++ List.replicate (l.length - i) MixR.zero)).set i (setSeg ((mixRows ((l.take i) ++ List.replicate (l.length - i) MixR.zero)).getD i []) 0 (l.getD i .zero).row) = mixRows ((l.take (i + 1)) ++ List.replicate (l.length - (i + 1)) .zero) := by
  rw [to_at_MixR h]
  show (mixRows _).set i (l.getD i .zero).row = _
  have e : l.length - i = (l.length - (i + 1)) + 1 := by omega
  rw [e, List.replicate_succ]
  unfold mixRows
  rw [List.map_append, List.map_cons, at_set (by simp; omega), take_succ (z := MixR.zero) h, List.append_assoc, List.map_append, List.map_append]
  rfl
theorem to_at_HalfR {l : List HalfR} {i : Nat} (h : i < l.length) : (halfRows ((l.take i) ++ List.replicate (l.length - i) HalfR.zero)).getD i [] = HalfR.zero.row := by
  rw [halfRows_getD (by simp; omega), List.getD_eq_getElem?_getD, List.getElem?_append_right (by simp; omega)]
  rw [List.getElem?_replicate, if_pos (by simp; omega)]
  rfl
theorem to_step_HalfR {l : List HalfR} {i : Nat} (h : i < l.length) : (halfRows ((l.take i) ++ List.replicate (l.length - i) HalfR.zero)).set i (setSeg ((halfRows ((l.take i) ++ List.replicate (l.length - i) HalfR.zero)).getD i []) 0 (l.getD i .zero).row) = halfRows ((l.take (i + 1)) ++ List.replicate (l.length - (i + 1)) .zero) := by
  rw [to_at_HalfR h]
  show (halfRows _).set i (l.getD i .zero).row = _
  have e : l.length - i = (l.length - (i + 1)) + 1 := by omega
  rw [e, List.replicate_succ]
  unfold halfRows
  rw [List.map_append, List.map_cons, at_set (by simp; omega), take_succ (z := HalfR.zero) h, List.append_assoc, List.map_append, List.map_append]
  rfl
end Go.Ab

namespace Go.Proofs.YtilahgkblckndaaGreatDoor
open Go Go.Ab Go.RowKit
set_option linter.unusedVariables false
set_option linter.unusedSimpArgs false

theorem s_laws_szMixed (m : MixR) (n : Int) : Ab.SpecE Tryz.prog 178 2 [(.t 0, .v (m.V)), (.t 1, .v (I n))] (fun s => ∃ r : Int, s = [(.t 0, .v (I r))]) := by
  refine specE_of_body tabOk Tryz.func178 rfl (by kernel_rfl) (by decide) (by kernel_rfl) rfl ?_
  refine SW.seq ?_
  refine SW.regT tabOk [1, 2] ?_
  refine ai trivial (ai trivial ?_)
  refine SW.seq ?_
  refine SW.regT tabOk [1] ?_
  refine ai trivial (ai (by first | trivial | rfl) (ai vc (ai vc (ai trivial (ai trivial ?_)))))
  refine SW.seq ?_
  refine SW.seq ?_
  refine SW.regT tabOk [1, 11] ?_
  refine ai trivial (ai trivial ?_)
  refine SW.cond rfl (fun c11 => ?_) (fun c11 => ?_)
  · skip
    refine SW.seq ?_
    refine SW.regT tabOk [4] ?_
    refine ai trivial ?_
    refine SW.ret ?_
    refine retQR _ ⟨_, rfl⟩ (retOk1 rfl rfl)
  · skip
    refine SW.skip ?_
    refine SW.seq ?_
    refine SW.regT tabOk [4] ?_
    refine ai trivial (ai trivial ?_)
    refine SW.ret ?_
    refine retQR _ ⟨_, rfl⟩ (retOk1 rfl rfl)

set_option maxHeartbeats 800000 in
theorem s_laws_szMixedS (l : List MixR) (n : Int) (hg : l.length * 24 ≤ 140737488355328) : Ab.SpecE Tryz.prog 148 2 [(.t 0, .v (Dv (.sl (mixRows l)))), (.t 1, .v (I n))] (fun s => ∃ r : Int, s = [(.t 0, .v (I r))]) := by
  refine specE_of_body tabOk Tryz.func148 rfl (by kernel_rfl) (by decide) (by kernel_rfl) rfl ?_
  refine SW.seq ?_
  refine SW.regT tabOk [0, 1] ?_
  refine ai trivial ?_
  refine SW.seq ?_
  refine SW.regT tabOk [0, 1] ?_
  refine ai trivial (ai trivial (ai vc (ai trivial (ai trivial ?_))))
  refine SW.seq ?_
  refine SW.seq ?_
  refine SW.regT tabOk [0, 1, 11] ?_
  refine ai trivial (ai trivial ?_)
  refine SW.cond rfl (fun c11 => ?_) (fun c11 => ?_)
  · skip
    refine SW.seq ?_
    refine SW.regT tabOk [4] ?_
    refine ai trivial ?_
    refine SW.ret ?_
    refine retQR _ ⟨_, rfl⟩ (retOk1 rfl rfl)
  · skip
    refine SW.skip ?_
    refine SW.seq ?_
    refine SW.seq ?_
    refine SW.regT tabOk [0, 1, 5] ?_
    refine ai trivial ?_
    refine SW.block ?_
    -- live at the head: [0, 1, 5]
    refine SW.loopW (n := l.length) (fun m q => ∃ (i : Nat) (x : Int), m = l.length - i ∧ i ≤ l.length ∧ q = [(.t 0, .v (Dv (.sl (mixRows l)))), (.t 1, .v (I x)), (.t 5, .v (I (i : Nat)))]) ?_ ?_
    · skip
      refine wk [(.t 0, .v (Dv (.sl (mixRows l)))), (.t 1, .v (I (wrap64 (n - ((mixRows l).length : Int))))), (.t 5, .v (I (0 : Nat)))] [] [] (⟨0, _, rfl, Nat.zero_le _, rfl⟩) ?_ rfl rfl
      repeat' first | exact trivial | refine mL_nil rfl ?_ | refine mL_d rfl ?_ ?_ | refine mL_own rfl rfl ?_ rfl ?_ | refine mL_row rfl ?_ ?_ | refine mL_pt rfl rfl rfl rfl ?_ | refine mL_box rfl ?_ ?_ | refine mL_agg rfl ?_ ?_ | exact mCs_nil0 | refine mCs_d ?_ ?_ | refine mCs_nil ?_ | refine mCs_own rfl ?_ rfl ?_ | refine mCs_pt rfl rfl rfl ?_
      all_goals first | with_reducible rfl | (first | rfl | (simp; done) | omega)
    rintro n s ⟨i, x, rfl, hi, rfl⟩
    refine SW.seq ?_
    refine SW.seq ?_
    refine SW.regT tabOk [0, 1, 5, 15] ?_
    refine ai trivial (ai trivial (ai vc (ai trivial ?_)))
    refine SW.cond rfl (fun c15 => ?_) (fun c15 => ?_)
    · skip
      have hi2 : i < l.length := by simpa [mixRows_length] using c15
      have hgg := mixRows_getD (l := l) hi2
      have hmem : l.getD i .zero ∈ l := mem_getD hi2
      refine SW.skip ?_
      refine SW.seq ?_
      refine SW.block ?_
      refine SW.seq ?_
      refine SW.regE tabOk [0, 1, 5] ?_
      refine ai trivial (ai trivial (ai (by rw [Int.toNat_natCast, hgg]; exact ⟨⟨by omega, by rw [mixRows_length]; omega⟩, rfl⟩) (ai (by rw [Int.toNat_natCast, hgg]; exact ⟨Nat.le_of_ble_eq_true rfl, rfl⟩) (ai trivial ?_))))
      refine ee_call (rl := []) (bor := []) (news := []) (robj := []) (s_laws_szMixed (l.getD i .zero) x) rfl rfl rfl rfl (by refine ⟨mL_agg rfl ?_ (mL_d rfl rfl trivial), rfl⟩; rw [Int.toNat_natCast, hgg]; exact mCs_d rfl (mCs_d rfl trivial)) (fun σ hσ => by obtain ⟨r, rfl⟩ := hσ; exact ⟨rfl, .inl rfl, fun j hj => by simp [newIds, objIds] at hj⟩) (fun p hp => nomatch hp) (fun j hj => nomatch hj) ?_
      rintro σ ⟨r, rfl⟩
      refine ai trivial ?_
      refine SW.seq ?_
      refine SW.regT tabOk [0, 1, 5, 25] ?_
      refine ai trivial (ai trivial ?_)
      refine SW.cond rfl (fun c25 => ?_) (fun c25 => ?_)
      · skip
        refine SW.seq ?_
        refine SW.regT tabOk [4] ?_
        refine ai trivial ?_
        refine SW.ret ?_
        refine retQR _ ⟨_, rfl⟩ (retOk1 rfl rfl)
      · skip
        refine SW.skip ?_
        refine SW.regT tabOk [0, 1, 5] ?_
        refine ai trivial (ai trivial (ai trivial ?_))
        refine wk [(.t 0, .v (Dv (.sl (mixRows l)))), (.t 1, .v (I r)), (.t 5, .v (I ((i + 1) : Nat)))] [] [] (⟨l.length - (i + 1), by omega, i + 1, r, rfl, by omega, rfl⟩) ?_ rfl rfl
        repeat' first | exact trivial | refine mL_nil rfl ?_ | refine mL_d rfl ?_ ?_ | refine mL_own rfl rfl ?_ rfl ?_ | refine mL_row rfl ?_ ?_ | refine mL_pt rfl rfl rfl rfl ?_ | refine mL_box rfl ?_ ?_ | refine mL_agg rfl ?_ ?_ | exact mCs_nil0 | refine mCs_d ?_ ?_ | refine mCs_nil ?_ | refine mCs_own rfl ?_ rfl ?_ | refine mCs_pt rfl rfl rfl ?_
        all_goals first | with_reducible rfl | (first | with_reducible rfl | exact congrArg D.i (wrap64_of (by omega)))
    · skip
      refine SW.exit ?_
      refine SW.seq ?_
      refine SW.regT tabOk [4] ?_
      refine ai trivial (ai trivial ?_)
      refine SW.ret ?_
      refine retQR _ ⟨_, rfl⟩ (retOk1 rfl rfl)

theorem s_laws_toMixed (m : MixR) : Ab.Spec Tryz.prog 181 1 [(.t 0, .v (m.V))] [(.t 0, .v (m.V))] := by
  refine spec_of_body tabOk Tryz.func181 rfl (by kernel_rfl) (by decide) (by kernel_rfl) rfl ?_
  refine SW.seq ?_
  refine SW.regT tabOk [1, 2] ?_
  refine ai trivial (ai trivial ?_)
  refine SW.seq ?_
  refine SW.regT tabOk [1, 2, 3] ?_
  refine ai trivial ?_
  refine SW.seq ?_
  refine SW.regT tabOk [1, 2, 3] ?_
  refine ai (by first | trivial | rfl) (ai vc (ai (by first | trivial | rfl) (ai ⟨by kernel_rfl, Nat.le_of_ble_eq_true (by kernel_rfl)⟩ ?_)))
  refine SW.seq ?_
  refine SW.regT tabOk [2, 3] ?_
  refine ai (by first | trivial | rfl) (ai vc (ai (by first | trivial | rfl) (ai ⟨by kernel_rfl, Nat.le_of_ble_eq_true (by kernel_rfl)⟩ ?_)))
  refine SW.seq ?_
  refine SW.regT tabOk [2] ?_
  refine ai vc (ai ⟨by kernel_rfl, Nat.le_of_ble_eq_true (by kernel_rfl)⟩ ?_)
  refine SW.ret ?_
  refine retOkP rfl rfl ?_
  rfl

set_option maxHeartbeats 800000 in
theorem s_laws_toMixedS (l : List MixR) (hg : l.length * 24 ≤ 140737488355328) : Ab.Spec Tryz.prog 154 1 [(.t 0, .v (Dv (.sl (mixRows l))))] [(.t 0, .v (Dv (.sl (mixRows l))))] := by
  refine spec_of_body tabOk Tryz.func154 rfl (by kernel_rfl) (by decide) (by kernel_rfl) rfl ?_
  refine SW.seq ?_
  refine SW.regT tabOk [0] ?_
  refine ai trivial ?_
  refine SW.seq ?_
  refine SW.regT tabOk [0, 3] ?_
  refine ai trivial (ai vc (ai (by refine ⟨rfl, by omega, ?_⟩; rw [mixRows_length]; show ((24 : Nat) : Int) * _ ≤ _; omega) (ai trivial ?_)))
  refine SW.seq ?_
  refine SW.seq ?_
  refine SW.regT tabOk [0, 3, 4] ?_
  refine ai trivial ?_
  refine SW.block ?_
  -- live at the head: [0, 3, 4]
  refine SW.loopW (n := l.length) (fun m q => ∃ i : Nat, m = l.length - i ∧ i ≤ l.length ∧ q = [(.t 0, .v (Dv (.sl (mixRows l)))), (.t 3, .v (.e (.c (.own 7 l.length)))), (.t 4, .v (I (i : Nat))), (.o 7, .row 161 2 (mixRows ((l.take i) ++ List.replicate (l.length - i) .zero)))]) ?_ ?_
  · skip
    refine wk [(.t 0, .v (Dv (.sl (mixRows l)))), (.t 3, .v (.e (.c (.own 7 l.length)))), (.t 4, .v (I (0 : Nat))), (.o 7, .row 161 2 (mixRows ((l.take 0) ++ List.replicate (l.length - 0) .zero)))] [] [] (⟨0, rfl, Nat.zero_le _, rfl⟩) ?_ rfl rfl
    repeat' first | exact trivial | refine mL_nil rfl ?_ | refine mL_d rfl ?_ ?_ | refine mL_own rfl rfl ?_ rfl ?_ | refine mL_row rfl ?_ ?_ | refine mL_pt rfl rfl rfl rfl ?_ | refine mL_box rfl ?_ ?_ | refine mL_agg rfl ?_ ?_ | exact mCs_nil0 | refine mCs_d ?_ ?_ | refine mCs_nil ?_ | refine mCs_own rfl ?_ rfl ?_ | refine mCs_pt rfl rfl rfl ?_
    all_goals first | with_reducible rfl | (first | with_reducible rfl | rfl | (rw [mixRows_length]; rfl) | (simp [mixRows, mixRows_length, MixR.row, MixR.zero]; done) | (simp [mixRows, halfRows, HalfR.row, HalfR.zero]; done))
  rintro n s ⟨i, rfl, hi, rfl⟩
  refine SW.seq ?_
  refine SW.seq ?_
  refine SW.regT tabOk [0, 3, 4, 11] ?_
  refine ai trivial (ai trivial (ai vc (ai trivial ?_)))
  refine SW.cond rfl (fun c11 => ?_) (fun c11 => ?_)
  · skip
    have hi2 : i < l.length := by simpa [mixRows_length] using c11
    have hgg := mixRows_getD (l := l) hi2
    have hmem : l.getD i .zero ∈ l := mem_getD hi2
    refine SW.skip ?_
    refine SW.seq ?_
    refine SW.block ?_
    refine SW.regT tabOk [0, 3, 4] ?_
    refine ai trivial (ai trivial (ai trivial (ai trivial (ai (by rw [Int.toNat_natCast, hgg]; exact ⟨⟨by omega, by rw [mixRows_length]; omega⟩, rfl⟩) (ai (by rw [Int.toNat_natCast, hgg]; exact ⟨Nat.le_of_ble_eq_true rfl, rfl⟩) ?_)))))
    refine ex_pure (s_laws_toMixed (l.getD i .zero)) rfl rfl rfl rfl rfl (by rw [Int.toNat_natCast, hgg]; rfl) rfl rfl ?_
    refine ai (by refine ⟨?_, by omega, by omega⟩; simp [mixRows_length]; omega) (ai (by rw [Int.toNat_natCast, to_at_MixR hi2]; exact ⟨by simp [mixRows_length]; omega, by omega, rfl, Nat.le_refl _⟩) ?_)
    refine SW.regT tabOk [0, 3, 4] ?_
    refine ai trivial (ai trivial (ai trivial ?_))
    refine wk [(.t 0, .v (Dv (.sl (mixRows l)))), (.t 3, .v (.e (.c (.own 7 l.length)))), (.t 4, .v (I ((i + 1) : Nat))), (.o 7, .row 161 2 (mixRows ((l.take (i + 1)) ++ List.replicate (l.length - (i + 1)) .zero)))] [] [] (⟨l.length - (i + 1), by omega, i + 1, rfl, by omega, rfl⟩) ?_ rfl rfl
    repeat' first | exact trivial | refine mL_nil rfl ?_ | refine mL_d rfl ?_ ?_ | refine mL_own rfl rfl ?_ rfl ?_ | refine mL_row rfl ?_ ?_ | refine mL_pt rfl rfl rfl rfl ?_ | refine mL_box rfl ?_ ?_ | refine mL_agg rfl ?_ ?_ | exact mCs_nil0 | refine mCs_d ?_ ?_ | refine mCs_nil ?_ | refine mCs_own rfl ?_ rfl ?_ | refine mCs_pt rfl rfl rfl ?_
    all_goals first | with_reducible rfl | (first | with_reducible rfl | exact congrArg D.i (by rw [wrap64_of (by omega)]; omega) | (rw [Int.toNat_natCast]; exact to_step_MixR hi2))
  · skip
    have hi3 : i = l.length := by simp [mixRows_length] at c11; omega
    subst hi3
    refine SW.exit ?_
    refine SW.seq ?_
    refine SW.regT tabOk [2] ?_
    refine ai trivial (ai trivial ?_)
    refine SW.ret ?_
    refine retOk _ [] [7] rfl (mL_froze rfl rfl rfl ?_ (congrArg D.sl ?_) trivial) rfl rfl
    · simp [mixRows_length]
    · simp

theorem s_laws_eqMixed (a b : MixR) : Ab.Spec Tryz.prog 184 2 [(.t 0, .v (a.V)), (.t 1, .v (b.V))] [(.t 0, .v (B (decide (a = b))))] := by
  refine spec_of_body tabOk Tryz.func184 rfl (by kernel_rfl) (by decide) (by kernel_rfl) rfl ?_
  refine SW.seq ?_
  refine SW.regT tabOk [2, 3] ?_
  refine ai trivial (ai trivial (ai trivial ?_))
  refine SW.seq ?_
  refine SW.seq ?_
  refine SW.regT tabOk [2, 3, 9] ?_
  refine ai (by first | trivial | rfl) (ai vc (ai (by first | trivial | rfl) (ai vc (ai trivial ?_))))
  refine SW.cond rfl (fun c9 => ?_) (fun c9 => ?_)
  · skip
    refine SW.seq ?_
    refine SW.regT tabOk [4] ?_
    refine ai trivial ?_
    refine SW.ret ?_
    refine retOk1 rfl (congrArg D.b ?_)
    cases a; cases b; simp_all
  · skip
    refine SW.skip ?_
    refine SW.seq ?_
    refine SW.seq ?_
    refine SW.regT tabOk [14] ?_
    refine ai (by first | trivial | rfl) (ai vc (ai (by first | trivial | rfl) (ai vc (ai vc ?_))))
    refine SW.cond rfl (fun c14 => ?_) (fun c14 => ?_)
    · skip
      refine SW.seq ?_
      refine SW.regT tabOk [4] ?_
      refine ai trivial ?_
      refine SW.ret ?_
      refine retOk1 rfl (congrArg D.b ?_)
      cases a; cases b; simp_all
    · skip
      refine SW.skip ?_
      refine SW.seq ?_
      refine SW.regT tabOk [4] ?_
      refine ai trivial ?_
      refine SW.ret ?_
      refine retOk1 rfl (congrArg D.b ?_)
      cases a; cases b; simp_all

set_option maxHeartbeats 800000 in
theorem s_laws_eqMixedS (a b : List MixR) (hg : a.length * 24 ≤ 140737488355328) : Ab.Spec Tryz.prog 161 2 [(.t 0, .v (Dv (.sl (mixRows a)))), (.t 1, .v (Dv (.sl (mixRows b))))] [(.t 0, .v (B (decide (a = b))))] := by
  refine spec_of_body tabOk Tryz.func161 rfl (by kernel_rfl) (by decide) (by kernel_rfl) rfl ?_
  refine SW.seq ?_
  refine SW.regT tabOk [0, 1] ?_
  refine ai trivial ?_
  refine SW.seq ?_
  refine SW.seq ?_
  refine SW.regT tabOk [0, 1, 10] ?_
  refine ai trivial (ai vc (ai trivial (ai vc (ai trivial ?_))))
  refine SW.cond rfl (fun c10 => ?_) (fun c10 => ?_)
  · skip
    refine SW.seq ?_
    refine SW.regT tabOk [4] ?_
    refine ai trivial ?_
    refine SW.ret ?_
    refine retOk1 rfl (congrArg D.b ?_)
    symm
    apply decide_eq_false
    intro e
    rw [e] at c10
    simp at c10
  · skip
    have hlen : a.length = b.length := by simp [mixRows_length] at c10; omega
    refine SW.skip ?_
    refine SW.seq ?_
    refine SW.seq ?_
    refine SW.regT tabOk [0, 1, 5] ?_
    refine ai trivial ?_
    refine SW.block ?_
    -- live at the head: [0, 1, 5]
    refine SW.loopW (n := a.length) (fun m q => ∃ i : Nat, m = a.length - i ∧ i ≤ a.length ∧ (∀ j, j < i → a.getD j .zero = b.getD j .zero) ∧ q = [(.t 0, .v (Dv (.sl (mixRows a)))), (.t 1, .v (Dv (.sl (mixRows b)))), (.t 5, .v (I (i : Nat)))]) ?_ ?_
    · skip
      refine wk [(.t 0, .v (Dv (.sl (mixRows a)))), (.t 1, .v (Dv (.sl (mixRows b)))), (.t 5, .v (I (0 : Nat)))] [] [] (⟨0, rfl, Nat.zero_le _, fun j h => absurd h (by omega), rfl⟩) ?_ rfl rfl
      repeat' first | exact trivial | refine mL_nil rfl ?_ | refine mL_d rfl ?_ ?_ | refine mL_own rfl rfl ?_ rfl ?_ | refine mL_row rfl ?_ ?_ | refine mL_pt rfl rfl rfl rfl ?_ | refine mL_box rfl ?_ ?_ | refine mL_agg rfl ?_ ?_ | exact mCs_nil0 | refine mCs_d ?_ ?_ | refine mCs_nil ?_ | refine mCs_own rfl ?_ rfl ?_ | refine mCs_pt rfl rfl rfl ?_
      all_goals first | with_reducible rfl | (first | rfl | (simp; done) | omega)
    rintro n s ⟨i, rfl, hi, hk, rfl⟩
    refine SW.seq ?_
    refine SW.seq ?_
    refine SW.regT tabOk [0, 1, 5, 14] ?_
    refine ai trivial (ai trivial (ai vc (ai trivial ?_)))
    refine SW.cond rfl (fun c14 => ?_) (fun c14 => ?_)
    · skip
      have hi2 : i < a.length := by simpa [mixRows_length] using c14
      have hga := mixRows_getD (l := a) hi2
      have hgb := mixRows_getD (l := b) (i := i) (by omega)
      have hmem : a.getD i .zero ∈ a := mem_getD hi2
      refine SW.skip ?_
      refine SW.seq ?_
      refine SW.block ?_
      refine SW.seq ?_
      refine SW.regD tabOk mo [0, 1, 5, 26] ?_
      refine ai trivial (ai trivial (ai (by rw [Int.toNat_natCast, hga]; exact ⟨⟨by omega, by rw [mixRows_length]; omega⟩, rfl⟩) (ai (by rw [Int.toNat_natCast, hga]; exact ⟨Nat.le_of_ble_eq_true rfl, rfl⟩) (ai trivial (ai trivial (ai (by rw [Int.toNat_natCast, hgb]; exact ⟨⟨by omega, by rw [mixRows_length]; omega⟩, rfl⟩) (ai (by rw [Int.toNat_natCast, hgb]; exact ⟨Nat.le_of_ble_eq_true rfl, rfl⟩) ?_)))))))
      refine ex_pure (s_laws_eqMixed (a.getD i .zero) (b.getD i .zero)) rfl rfl rfl rfl rfl (by rw [Int.toNat_natCast, hga, hgb]; rfl) rfl rfl ?_
      refine ai trivial (ai (by kernel_rfl) ?_)
      refine SW.cond rfl (fun c26 => ?_) (fun c26 => ?_)
      · skip
        refine SW.seq ?_
        refine SW.regT tabOk [4] ?_
        refine ai trivial ?_
        refine SW.ret ?_
        refine retOk1 rfl (congrArg D.b ?_)
        exact (decide_eq_false (ne_of_getD (z := MixR.zero) (j := i) (by simpa using c26))).symm
      · skip
        refine SW.skip ?_
        refine SW.regT tabOk [0, 1, 5] ?_
        refine ai trivial (ai trivial (ai trivial ?_))
        have hs : a.getD i .zero = b.getD i .zero := by simpa using c26
        refine wk [(.t 0, .v (Dv (.sl (mixRows a)))), (.t 1, .v (Dv (.sl (mixRows b)))), (.t 5, .v (I ((i + 1) : Nat)))] [] [] (⟨a.length - (i + 1), by omega, i + 1, rfl, by omega, fun j h => by by_cases e : j = i; exact e ▸ hs; exact hk j (by omega), rfl⟩) ?_ rfl rfl
        repeat' first | exact trivial | refine mL_nil rfl ?_ | refine mL_d rfl ?_ ?_ | refine mL_own rfl rfl ?_ rfl ?_ | refine mL_row rfl ?_ ?_ | refine mL_pt rfl rfl rfl rfl ?_ | refine mL_box rfl ?_ ?_ | refine mL_agg rfl ?_ ?_ | exact mCs_nil0 | refine mCs_d ?_ ?_ | refine mCs_nil ?_ | refine mCs_own rfl ?_ rfl ?_ | refine mCs_pt rfl rfl rfl ?_
        all_goals first | with_reducible rfl | (first | with_reducible rfl | exact congrArg D.i (wrap64_of (by omega)))
    · skip
      have hi3 : i = a.length := by simp [mixRows_length] at c14; omega
      refine SW.exit ?_
      refine SW.seq ?_
      refine SW.regT tabOk [4] ?_
      refine ai trivial ?_
      refine SW.ret ?_
      refine retOk1 rfl (congrArg D.b ?_)
      subst hi3
      exact (decide_eq_true (eq_of_getD (z := MixR.zero) hlen hk)).symm

theorem s_laws_szHalf (h : HalfR) (n : Int) (hg : h.got.length * 24 ≤ 140737488355328) : Ab.SpecE Tryz.prog 95 2 [(.t 0, .v (h.V)), (.t 1, .v (I n))] (fun s => ∃ r : Int, s = [(.t 0, .v (I r))]) := by
  refine specE_of_body tabOk Tryz.func95 rfl (by kernel_rfl) (by decide) (by kernel_rfl) rfl ?_
  refine SW.seq ?_
  refine SW.regT tabOk [1, 2] ?_
  refine ai trivial (ai trivial ?_)
  refine SW.seq ?_
  refine SW.regE tabOk [1] ?_
  refine ai (by first | trivial | rfl) (ai vc (ai trivial ?_))
  refine ee_call (rl := []) (bor := []) (news := []) (robj := []) (s_laws_szMixedS h.got _ hg) rfl rfl rfl rfl (match_plain rfl) (fun σ hσ => by obtain ⟨r, rfl⟩ := hσ; exact ⟨rfl, .inl rfl, fun j hj => by simp [newIds, objIds] at hj⟩) (fun p hp => nomatch hp) (fun j hj => nomatch hj) ?_
  rintro σ ⟨r, rfl⟩
  refine ai trivial ?_
  refine SW.seq ?_
  refine SW.seq ?_
  refine SW.regT tabOk [1, 10] ?_
  refine ai trivial (ai trivial ?_)
  refine SW.cond rfl (fun c10 => ?_) (fun c10 => ?_)
  · skip
    refine SW.seq ?_
    refine SW.regT tabOk [4] ?_
    refine ai trivial ?_
    refine SW.ret ?_
    refine retQR _ ⟨_, rfl⟩ (retOk1 rfl rfl)
  · skip
    refine SW.skip ?_
    refine SW.seq ?_
    refine SW.regT tabOk [4] ?_
    refine ai trivial (ai trivial ?_)
    refine SW.ret ?_
    refine retQR _ ⟨_, rfl⟩ (retOk1 rfl rfl)

set_option maxHeartbeats 800000 in
theorem s_laws_szHalfS (l : List HalfR) (n : Int) (hg : l.length * 64 ≤ 140737488355328) (hx : ∀ h ∈ l, h.got.length * 24 ≤ 140737488355328) : Ab.SpecE Tryz.prog 40 2 [(.t 0, .v (Dv (.sl (halfRows l)))), (.t 1, .v (I n))] (fun s => ∃ r : Int, s = [(.t 0, .v (I r))]) := by
  refine specE_of_body tabOk Tryz.func40 rfl (by kernel_rfl) (by decide) (by kernel_rfl) rfl ?_
  refine SW.seq ?_
  refine SW.regT tabOk [0, 1] ?_
  refine ai trivial ?_
  refine SW.seq ?_
  refine SW.regT tabOk [0, 1] ?_
  refine ai trivial (ai trivial (ai vc (ai trivial (ai trivial ?_))))
  refine SW.seq ?_
  refine SW.seq ?_
  refine SW.regT tabOk [0, 1, 11] ?_
  refine ai trivial (ai trivial ?_)
  refine SW.cond rfl (fun c11 => ?_) (fun c11 => ?_)
  · skip
    refine SW.seq ?_
    refine SW.regT tabOk [4] ?_
    refine ai trivial ?_
    refine SW.ret ?_
    refine retQR _ ⟨_, rfl⟩ (retOk1 rfl rfl)
  · skip
    refine SW.skip ?_
    refine SW.seq ?_
    refine SW.seq ?_
    refine SW.regT tabOk [0, 1, 5] ?_
    refine ai trivial ?_
    refine SW.block ?_
    -- live at the head: [0, 1, 5]
    refine SW.loopW (n := l.length) (fun m q => ∃ (i : Nat) (x : Int), m = l.length - i ∧ i ≤ l.length ∧ q = [(.t 0, .v (Dv (.sl (halfRows l)))), (.t 1, .v (I x)), (.t 5, .v (I (i : Nat)))]) ?_ ?_
    · skip
      refine wk [(.t 0, .v (Dv (.sl (halfRows l)))), (.t 1, .v (I (wrap64 (n - ((halfRows l).length : Int))))), (.t 5, .v (I (0 : Nat)))] [] [] (⟨0, _, rfl, Nat.zero_le _, rfl⟩) ?_ rfl rfl
      repeat' first | exact trivial | refine mL_nil rfl ?_ | refine mL_d rfl ?_ ?_ | refine mL_own rfl rfl ?_ rfl ?_ | refine mL_row rfl ?_ ?_ | refine mL_pt rfl rfl rfl rfl ?_ | refine mL_box rfl ?_ ?_ | refine mL_agg rfl ?_ ?_ | exact mCs_nil0 | refine mCs_d ?_ ?_ | refine mCs_nil ?_ | refine mCs_own rfl ?_ rfl ?_ | refine mCs_pt rfl rfl rfl ?_
      all_goals first | with_reducible rfl | (first | rfl | (simp; done) | omega)
    rintro n s ⟨i, x, rfl, hi, rfl⟩
    refine SW.seq ?_
    refine SW.seq ?_
    refine SW.regT tabOk [0, 1, 5, 15] ?_
    refine ai trivial (ai trivial (ai vc (ai trivial ?_)))
    refine SW.cond rfl (fun c15 => ?_) (fun c15 => ?_)
    · skip
      have hi2 : i < l.length := by simpa [halfRows_length] using c15
      have hgg := halfRows_getD (l := l) hi2
      have hmem : l.getD i .zero ∈ l := mem_getD hi2
      refine SW.skip ?_
      refine SW.seq ?_
      refine SW.block ?_
      refine SW.seq ?_
      refine SW.regE tabOk [0, 1, 5] ?_
      refine ai trivial (ai trivial (ai (by rw [Int.toNat_natCast, hgg]; exact ⟨⟨by omega, by rw [halfRows_length]; omega⟩, rfl⟩) (ai (by rw [Int.toNat_natCast, hgg]; exact ⟨Nat.le_of_ble_eq_true rfl, rfl⟩) (ai trivial ?_))))
      refine ee_call (rl := []) (bor := []) (news := []) (robj := []) (s_laws_szHalf (l.getD i .zero) x (hx _ hmem)) rfl rfl rfl rfl (by refine ⟨mL_agg rfl ?_ (mL_d rfl rfl trivial), rfl⟩; rw [Int.toNat_natCast, hgg]; exact mCs_d rfl (mCs_d rfl (mCs_d rfl (mCs_d rfl (mCs_d rfl (mCs_d rfl trivial)))))) (fun σ hσ => by obtain ⟨r, rfl⟩ := hσ; exact ⟨rfl, .inl rfl, fun j hj => by simp [newIds, objIds] at hj⟩) (fun p hp => nomatch hp) (fun j hj => nomatch hj) ?_
      rintro σ ⟨r, rfl⟩
      refine ai trivial ?_
      refine SW.seq ?_
      refine SW.regT tabOk [0, 1, 5, 25] ?_
      refine ai trivial (ai trivial ?_)
      refine SW.cond rfl (fun c25 => ?_) (fun c25 => ?_)
      · skip
        refine SW.seq ?_
        refine SW.regT tabOk [4] ?_
        refine ai trivial ?_
        refine SW.ret ?_
        refine retQR _ ⟨_, rfl⟩ (retOk1 rfl rfl)
      · skip
        refine SW.skip ?_
        refine SW.regT tabOk [0, 1, 5] ?_
        refine ai trivial (ai trivial (ai trivial ?_))
        refine wk [(.t 0, .v (Dv (.sl (halfRows l)))), (.t 1, .v (I r)), (.t 5, .v (I ((i + 1) : Nat)))] [] [] (⟨l.length - (i + 1), by omega, i + 1, r, rfl, by omega, rfl⟩) ?_ rfl rfl
        repeat' first | exact trivial | refine mL_nil rfl ?_ | refine mL_d rfl ?_ ?_ | refine mL_own rfl rfl ?_ rfl ?_ | refine mL_row rfl ?_ ?_ | refine mL_pt rfl rfl rfl rfl ?_ | refine mL_box rfl ?_ ?_ | refine mL_agg rfl ?_ ?_ | exact mCs_nil0 | refine mCs_d ?_ ?_ | refine mCs_nil ?_ | refine mCs_own rfl ?_ rfl ?_ | refine mCs_pt rfl rfl rfl ?_
        all_goals first | with_reducible rfl | (first | with_reducible rfl | exact congrArg D.i (wrap64_of (by omega)))
    · skip
      refine SW.exit ?_
      refine SW.seq ?_
      refine SW.regT tabOk [4] ?_
      refine ai trivial (ai trivial ?_)
      refine SW.ret ?_
      refine retQR _ ⟨_, rfl⟩ (retOk1 rfl rfl)

theorem s_laws_toHalf (h : HalfR) (hg : h.got.length * 24 ≤ 140737488355328) : Ab.Spec Tryz.prog 104 1 [(.t 0, .v (h.V))] [(.t 0, .v (h.V))] := by
  refine spec_of_body tabOk Tryz.func104 rfl (by kernel_rfl) (by decide) (by kernel_rfl) rfl ?_
  refine SW.seq ?_
  refine SW.regT tabOk [1, 2] ?_
  refine ai trivial (ai trivial ?_)
  refine SW.seq ?_
  refine SW.regT tabOk [1, 2, 3] ?_
  refine ai trivial ?_
  refine SW.seq ?_
  refine SW.regT tabOk [1, 2, 3] ?_
  refine ai (by first | trivial | rfl) (ai vc (ai (by first | trivial | rfl) (ai ⟨by kernel_rfl, Nat.le_of_ble_eq_true (by kernel_rfl)⟩ ?_)))
  refine SW.seq ?_
  refine SW.regT tabOk [1, 2, 3] ?_
  refine ai (by first | trivial | rfl) (ai vc (ai (by first | trivial | rfl) (ai ⟨by kernel_rfl, Nat.le_of_ble_eq_true (by kernel_rfl)⟩ ?_)))
  refine SW.seq ?_
  refine SW.regT tabOk [1, 2, 3] ?_
  refine ai (by first | trivial | rfl) (ai vc (ai (by first | trivial | rfl) (ai ⟨by kernel_rfl, Nat.le_of_ble_eq_true (by kernel_rfl)⟩ ?_)))
  refine SW.seq ?_
  refine SW.regT tabOk [1, 2, 3] ?_
  refine ai (by first | trivial | rfl) (ai vc (ai (by first | trivial | rfl) (ai ⟨by kernel_rfl, Nat.le_of_ble_eq_true (by kernel_rfl)⟩ ?_)))
  refine SW.seq ?_
  refine SW.regT tabOk [1, 2, 3] ?_
  refine ai (by first | trivial | rfl) (ai vc (ai (by first | trivial | rfl) (ai ⟨by kernel_rfl, Nat.le_of_ble_eq_true (by kernel_rfl)⟩ ?_)))
  refine SW.seq ?_
  refine SW.regT tabOk [2, 3] ?_
  refine ai (by first | trivial | rfl) (ai vc ?_)
  refine ex_pure (s_laws_toMixedS h.got hg) rfl rfl rfl rfl rfl rfl rfl rfl ?_
  refine ai (by first | trivial | rfl) (ai ⟨by kernel_rfl, Nat.le_of_ble_eq_true (by kernel_rfl)⟩ ?_)
  refine SW.seq ?_
  refine SW.regT tabOk [2] ?_
  refine ai vc (ai ⟨by kernel_rfl, Nat.le_of_ble_eq_true (by kernel_rfl)⟩ ?_)
  refine SW.ret ?_
  refine retOkP rfl rfl ?_
  rfl

set_option maxHeartbeats 800000 in
theorem s_laws_toHalfS (l : List HalfR) (hg : l.length * 64 ≤ 140737488355328) (hx : ∀ h ∈ l, h.got.length * 24 ≤ 140737488355328) : Ab.Spec Tryz.prog 48 1 [(.t 0, .v (Dv (.sl (halfRows l))))] [(.t 0, .v (Dv (.sl (halfRows l))))] := by
  refine spec_of_body tabOk Tryz.func48 rfl (by kernel_rfl) (by decide) (by kernel_rfl) rfl ?_
  refine SW.seq ?_
  refine SW.regT tabOk [0] ?_
  refine ai trivial ?_
  refine SW.seq ?_
  refine SW.regT tabOk [0, 3] ?_
  refine ai trivial (ai vc (ai (by refine ⟨rfl, by omega, ?_⟩; rw [halfRows_length]; show ((64 : Nat) : Int) * _ ≤ _; omega) (ai trivial ?_)))
  refine SW.seq ?_
  refine SW.seq ?_
  refine SW.regT tabOk [0, 3, 4] ?_
  refine ai trivial ?_
  refine SW.block ?_
  -- live at the head: [0, 3, 4]
  refine SW.loopW (n := l.length) (fun m q => ∃ i : Nat, m = l.length - i ∧ i ≤ l.length ∧ q = [(.t 0, .v (Dv (.sl (halfRows l)))), (.t 3, .v (.e (.c (.own 7 l.length)))), (.t 4, .v (I (i : Nat))), (.o 7, .row 136 6 (halfRows ((l.take i) ++ List.replicate (l.length - i) .zero)))]) ?_ ?_
  · skip
    refine wk [(.t 0, .v (Dv (.sl (halfRows l)))), (.t 3, .v (.e (.c (.own 7 l.length)))), (.t 4, .v (I (0 : Nat))), (.o 7, .row 136 6 (halfRows ((l.take 0) ++ List.replicate (l.length - 0) .zero)))] [] [] (⟨0, rfl, Nat.zero_le _, rfl⟩) ?_ rfl rfl
    repeat' first | exact trivial | refine mL_nil rfl ?_ | refine mL_d rfl ?_ ?_ | refine mL_own rfl rfl ?_ rfl ?_ | refine mL_row rfl ?_ ?_ | refine mL_pt rfl rfl rfl rfl ?_ | refine mL_box rfl ?_ ?_ | refine mL_agg rfl ?_ ?_ | exact mCs_nil0 | refine mCs_d ?_ ?_ | refine mCs_nil ?_ | refine mCs_own rfl ?_ rfl ?_ | refine mCs_pt rfl rfl rfl ?_
    all_goals first | with_reducible rfl | (first | with_reducible rfl | rfl | (rw [halfRows_length]; rfl) | (simp [halfRows, halfRows_length, HalfR.row, HalfR.zero]; done) | (simp [mixRows, halfRows, HalfR.row, HalfR.zero]; done))
  rintro n s ⟨i, rfl, hi, rfl⟩
  refine SW.seq ?_
  refine SW.seq ?_
  refine SW.regT tabOk [0, 3, 4, 11] ?_
  refine ai trivial (ai trivial (ai vc (ai trivial ?_)))
  refine SW.cond rfl (fun c11 => ?_) (fun c11 => ?_)
  · skip
    have hi2 : i < l.length := by simpa [halfRows_length] using c11
    have hgg := halfRows_getD (l := l) hi2
    have hmem : l.getD i .zero ∈ l := mem_getD hi2
    refine SW.skip ?_
    refine SW.seq ?_
    refine SW.block ?_
    refine SW.regT tabOk [0, 3, 4] ?_
    refine ai trivial (ai trivial (ai trivial (ai trivial (ai (by rw [Int.toNat_natCast, hgg]; exact ⟨⟨by omega, by rw [halfRows_length]; omega⟩, rfl⟩) (ai (by rw [Int.toNat_natCast, hgg]; exact ⟨Nat.le_of_ble_eq_true rfl, rfl⟩) ?_)))))
    refine ex_pure (s_laws_toHalf (l.getD i .zero) (hx _ hmem)) rfl rfl rfl rfl rfl (by rw [Int.toNat_natCast, hgg]; rfl) rfl rfl ?_
    refine ai (by refine ⟨?_, by omega, by omega⟩; simp [halfRows_length]; omega) (ai (by rw [Int.toNat_natCast, to_at_HalfR hi2]; exact ⟨by simp [halfRows_length]; omega, by omega, rfl, Nat.le_refl _⟩) ?_)
    refine SW.regT tabOk [0, 3, 4] ?_
    refine ai trivial (ai trivial (ai trivial ?_))
    refine wk [(.t 0, .v (Dv (.sl (halfRows l)))), (.t 3, .v (.e (.c (.own 7 l.length)))), (.t 4, .v (I ((i + 1) : Nat))), (.o 7, .row 136 6 (halfRows ((l.take (i + 1)) ++ List.replicate (l.length - (i + 1)) .zero)))] [] [] (⟨l.length - (i + 1), by omega, i + 1, rfl, by omega, rfl⟩) ?_ rfl rfl
    repeat' first | exact trivial | refine mL_nil rfl ?_ | refine mL_d rfl ?_ ?_ | refine mL_own rfl rfl ?_ rfl ?_ | refine mL_row rfl ?_ ?_ | refine mL_pt rfl rfl rfl rfl ?_ | refine mL_box rfl ?_ ?_ | refine mL_agg rfl ?_ ?_ | exact mCs_nil0 | refine mCs_d ?_ ?_ | refine mCs_nil ?_ | refine mCs_own rfl ?_ rfl ?_ | refine mCs_pt rfl rfl rfl ?_
    all_goals first | with_reducible rfl | (first | with_reducible rfl | exact congrArg D.i (by rw [wrap64_of (by omega)]; omega) | (rw [Int.toNat_natCast]; exact to_step_HalfR hi2))
  · skip
    have hi3 : i = l.length := by simp [halfRows_length] at c11; omega
    subst hi3
    refine SW.exit ?_
    refine SW.seq ?_
    refine SW.regT tabOk [2] ?_
    refine ai trivial (ai trivial ?_)
    refine SW.ret ?_
    refine retOk _ [] [7] rfl (mL_froze rfl rfl rfl ?_ (congrArg D.sl ?_) trivial) rfl rfl
    · simp [halfRows_length]
    · simp

theorem s_laws_eqHalf (a b : HalfR) (ha : a.got.length * 24 ≤ 140737488355328) : Ab.Spec Tryz.prog 112 2 [(.t 0, .v (a.V)), (.t 1, .v (b.V))] [(.t 0, .v (B (decide (a = b))))] := by
  refine spec_of_body tabOk Tryz.func112 rfl (by kernel_rfl) (by decide) (by kernel_rfl) rfl ?_
  refine SW.seq ?_
  refine SW.regT tabOk [2, 3] ?_
  refine ai trivial (ai trivial (ai trivial ?_))
  refine SW.seq ?_
  refine SW.seq ?_
  refine SW.regT tabOk [2, 3, 9] ?_
  refine ai (by first | trivial | rfl) (ai vc (ai (by first | trivial | rfl) (ai vc (ai trivial ?_))))
  refine SW.cond rfl (fun c9 => ?_) (fun c9 => ?_)
  · skip
    refine SW.seq ?_
    refine SW.regT tabOk [4] ?_
    refine ai trivial ?_
    refine SW.ret ?_
    refine retOk1 rfl (congrArg D.b ?_)
    cases a; cases b; simp_all
  · skip
    refine SW.skip ?_
    refine SW.seq ?_
    refine SW.seq ?_
    refine SW.regT tabOk [2, 3, 14] ?_
    refine ai (by first | trivial | rfl) (ai vc (ai (by first | trivial | rfl) (ai vc (ai trivial ?_))))
    refine SW.cond rfl (fun c14 => ?_) (fun c14 => ?_)
    · skip
      refine SW.seq ?_
      refine SW.regT tabOk [4] ?_
      refine ai trivial ?_
      refine SW.ret ?_
      refine retOk1 rfl (congrArg D.b ?_)
      cases a; cases b; simp_all
    · skip
      refine SW.skip ?_
      refine SW.seq ?_
      refine SW.seq ?_
      refine SW.regT tabOk [2, 3, 19] ?_
      refine ai (by first | trivial | rfl) (ai vc (ai (by first | trivial | rfl) (ai vc (ai trivial ?_))))
      refine SW.cond rfl (fun c19 => ?_) (fun c19 => ?_)
      · skip
        refine SW.seq ?_
        refine SW.regT tabOk [4] ?_
        refine ai trivial ?_
        refine SW.ret ?_
        refine retOk1 rfl (congrArg D.b ?_)
        cases a; cases b; simp_all
      · skip
        refine SW.skip ?_
        refine SW.seq ?_
        refine SW.seq ?_
        refine SW.regT tabOk [2, 3, 24] ?_
        refine ai (by first | trivial | rfl) (ai vc (ai (by first | trivial | rfl) (ai vc (ai trivial ?_))))
        refine SW.cond rfl (fun c24 => ?_) (fun c24 => ?_)
        · skip
          refine SW.seq ?_
          refine SW.regT tabOk [4] ?_
          refine ai trivial ?_
          refine SW.ret ?_
          refine retOk1 rfl (congrArg D.b ?_)
          cases a; cases b; simp_all
        · skip
          refine SW.skip ?_
          refine SW.seq ?_
          refine SW.seq ?_
          refine SW.regT tabOk [2, 3, 29] ?_
          refine ai (by first | trivial | rfl) (ai vc (ai (by first | trivial | rfl) (ai vc (ai trivial ?_))))
          refine SW.cond rfl (fun c29 => ?_) (fun c29 => ?_)
          · skip
            refine SW.seq ?_
            refine SW.regT tabOk [4] ?_
            refine ai trivial ?_
            refine SW.ret ?_
            refine retOk1 rfl (congrArg D.b ?_)
            cases a; cases b; simp_all
          · skip
            refine SW.skip ?_
            refine SW.seq ?_
            refine SW.seq ?_
            refine SW.regT tabOk [35] ?_
            refine ai (by first | trivial | rfl) (ai vc (ai (by first | trivial | rfl) (ai vc ?_)))
            refine ex_pure (s_laws_eqMixedS a.got b.got ha) rfl rfl rfl rfl rfl rfl rfl rfl ?_
            refine ai trivial ?_
            refine SW.cond rfl (fun c35 => ?_) (fun c35 => ?_)
            · skip
              refine SW.seq ?_
              refine SW.regT tabOk [4] ?_
              refine ai trivial ?_
              refine SW.ret ?_
              refine retOk1 rfl (congrArg D.b ?_)
              cases a; cases b; simp_all
            · skip
              refine SW.skip ?_
              refine SW.seq ?_
              refine SW.regT tabOk [4] ?_
              refine ai trivial ?_
              refine SW.ret ?_
              refine retOk1 rfl (congrArg D.b ?_)
              cases a; cases b; simp_all

set_option maxHeartbeats 800000 in
theorem s_laws_eqHalfS (a b : List HalfR) (hg : a.length * 64 ≤ 140737488355328) (hx : ∀ h ∈ a, h.got.length * 24 ≤ 140737488355328) : Ab.Spec Tryz.prog 56 2 [(.t 0, .v (Dv (.sl (halfRows a)))), (.t 1, .v (Dv (.sl (halfRows b))))] [(.t 0, .v (B (decide (a = b))))] := by
  refine spec_of_body tabOk Tryz.func56 rfl (by kernel_rfl) (by decide) (by kernel_rfl) rfl ?_
  refine SW.seq ?_
  refine SW.regT tabOk [0, 1] ?_
  refine ai trivial ?_
  refine SW.seq ?_
  refine SW.seq ?_
  refine SW.regT tabOk [0, 1, 10] ?_
  refine ai trivial (ai vc (ai trivial (ai vc (ai trivial ?_))))
  refine SW.cond rfl (fun c10 => ?_) (fun c10 => ?_)
  · skip
    refine SW.seq ?_
    refine SW.regT tabOk [4] ?_
    refine ai trivial ?_
    refine SW.ret ?_
    refine retOk1 rfl (congrArg D.b ?_)
    symm
    apply decide_eq_false
    intro e
    rw [e] at c10
    simp at c10
  · skip
    have hlen : a.length = b.length := by simp [halfRows_length] at c10; omega
    refine SW.skip ?_
    refine SW.seq ?_
    refine SW.seq ?_
    refine SW.regT tabOk [0, 1, 5] ?_
    refine ai trivial ?_
    refine SW.block ?_
    -- live at the head: [0, 1, 5]
    refine SW.loopW (n := a.length) (fun m q => ∃ i : Nat, m = a.length - i ∧ i ≤ a.length ∧ (∀ j, j < i → a.getD j .zero = b.getD j .zero) ∧ q = [(.t 0, .v (Dv (.sl (halfRows a)))), (.t 1, .v (Dv (.sl (halfRows b)))), (.t 5, .v (I (i : Nat)))]) ?_ ?_
    · skip
      refine wk [(.t 0, .v (Dv (.sl (halfRows a)))), (.t 1, .v (Dv (.sl (halfRows b)))), (.t 5, .v (I (0 : Nat)))] [] [] (⟨0, rfl, Nat.zero_le _, fun j h => absurd h (by omega), rfl⟩) ?_ rfl rfl
      repeat' first | exact trivial | refine mL_nil rfl ?_ | refine mL_d rfl ?_ ?_ | refine mL_own rfl rfl ?_ rfl ?_ | refine mL_row rfl ?_ ?_ | refine mL_pt rfl rfl rfl rfl ?_ | refine mL_box rfl ?_ ?_ | refine mL_agg rfl ?_ ?_ | exact mCs_nil0 | refine mCs_d ?_ ?_ | refine mCs_nil ?_ | refine mCs_own rfl ?_ rfl ?_ | refine mCs_pt rfl rfl rfl ?_
      all_goals first | with_reducible rfl | (first | rfl | (simp; done) | omega)
    rintro n s ⟨i, rfl, hi, hk, rfl⟩
    refine SW.seq ?_
    refine SW.seq ?_
    refine SW.regT tabOk [0, 1, 5, 14] ?_
    refine ai trivial (ai trivial (ai vc (ai trivial ?_)))
    refine SW.cond rfl (fun c14 => ?_) (fun c14 => ?_)
    · skip
      have hi2 : i < a.length := by simpa [halfRows_length] using c14
      have hga := halfRows_getD (l := a) hi2
      have hgb := halfRows_getD (l := b) (i := i) (by omega)
      have hmem : a.getD i .zero ∈ a := mem_getD hi2
      refine SW.skip ?_
      refine SW.seq ?_
      refine SW.block ?_
      refine SW.seq ?_
      refine SW.regD tabOk mo [0, 1, 5, 26] ?_
      refine ai trivial (ai trivial (ai (by rw [Int.toNat_natCast, hga]; exact ⟨⟨by omega, by rw [halfRows_length]; omega⟩, rfl⟩) (ai (by rw [Int.toNat_natCast, hga]; exact ⟨Nat.le_of_ble_eq_true rfl, rfl⟩) (ai trivial (ai trivial (ai (by rw [Int.toNat_natCast, hgb]; exact ⟨⟨by omega, by rw [halfRows_length]; omega⟩, rfl⟩) (ai (by rw [Int.toNat_natCast, hgb]; exact ⟨Nat.le_of_ble_eq_true rfl, rfl⟩) ?_)))))))
      refine ex_pure (s_laws_eqHalf (a.getD i .zero) (b.getD i .zero) (hx _ hmem)) rfl rfl rfl rfl rfl (by rw [Int.toNat_natCast, hga, hgb]; rfl) rfl rfl ?_
      refine ai trivial (ai (by kernel_rfl) ?_)
      refine SW.cond rfl (fun c26 => ?_) (fun c26 => ?_)
      · skip
        refine SW.seq ?_
        refine SW.regT tabOk [4] ?_
        refine ai trivial ?_
        refine SW.ret ?_
        refine retOk1 rfl (congrArg D.b ?_)
        exact (decide_eq_false (ne_of_getD (z := HalfR.zero) (j := i) (by simpa using c26))).symm
      · skip
        refine SW.skip ?_
        refine SW.regT tabOk [0, 1, 5] ?_
        refine ai trivial (ai trivial (ai trivial ?_))
        have hs : a.getD i .zero = b.getD i .zero := by simpa using c26
        refine wk [(.t 0, .v (Dv (.sl (halfRows a)))), (.t 1, .v (Dv (.sl (halfRows b)))), (.t 5, .v (I ((i + 1) : Nat)))] [] [] (⟨a.length - (i + 1), by omega, i + 1, rfl, by omega, fun j h => by by_cases e : j = i; exact e ▸ hs; exact hk j (by omega), rfl⟩) ?_ rfl rfl
        repeat' first | exact trivial | refine mL_nil rfl ?_ | refine mL_d rfl ?_ ?_ | refine mL_own rfl rfl ?_ rfl ?_ | refine mL_row rfl ?_ ?_ | refine mL_pt rfl rfl rfl rfl ?_ | refine mL_box rfl ?_ ?_ | refine mL_agg rfl ?_ ?_ | exact mCs_nil0 | refine mCs_d ?_ ?_ | refine mCs_nil ?_ | refine mCs_own rfl ?_ rfl ?_ | refine mCs_pt rfl rfl rfl ?_
        all_goals first | with_reducible rfl | (first | with_reducible rfl | exact congrArg D.i (wrap64_of (by omega)))
    · skip
      have hi3 : i = a.length := by simp [halfRows_length] at c14; omega
      refine SW.exit ?_
      refine SW.seq ?_
      refine SW.regT tabOk [4] ?_
      refine ai trivial ?_
      refine SW.ret ?_
      refine retOk1 rfl (congrArg D.b ?_)
      subst hi3
      exact (decide_eq_true (eq_of_getD (z := HalfR.zero) hlen hk)).symm

end Go.Proofs.YtilahgkblckndaaGreatDoor

namespace Go.Proofs.YtilahgkblckndaaGreatDoor
open Go Go.Ab Go.RowKit
set_option linter.unusedVariables false
set_option linter.unusedSimpArgs false

theorem s_laws_toShelf (l : List UInt8) (f : Int) : Ab.Spec Tryz.prog 47 1 [(.t 0, .v (.e (.agg [.d (.s l), .d (.i f)])))] [(.t 0, .v (.e (.agg [.d (.s l), .d (.i f)])))] := by
  refine spec_of_body tabOk Tryz.func47 rfl (by kernel_rfl) (by decide) (by kernel_rfl) rfl ?_
  refine SW.seq ?_
  refine SW.regT tabOk [1, 2] ?_
  refine ai trivial (ai trivial ?_)
  refine SW.seq ?_
  refine SW.regT tabOk [1, 2, 3] ?_
  refine ai trivial ?_
  refine SW.seq ?_
  refine SW.regT tabOk [1, 2, 3] ?_
  refine ai (by first | trivial | rfl) (ai vc (ai (by first | trivial | rfl) (ai ⟨by kernel_rfl, Nat.le_of_ble_eq_true (by kernel_rfl)⟩ ?_)))
  refine SW.seq ?_
  refine SW.regT tabOk [2, 3] ?_
  refine ai (by first | trivial | rfl) (ai vc (ai (by first | trivial | rfl) (ai ⟨by kernel_rfl, Nat.le_of_ble_eq_true (by kernel_rfl)⟩ ?_)))
  refine SW.seq ?_
  refine SW.regT tabOk [2] ?_
  refine ai vc (ai ⟨by kernel_rfl, Nat.le_of_ble_eq_true (by kernel_rfl)⟩ ?_)
  refine SW.ret ?_
  refine retOkP rfl rfl ?_
  rfl

set_option maxHeartbeats 800000 in
theorem s_laws_toKeeper (k : KeeperR) (hk : KRB k) : Ab.Spec Tryz.prog 12 1 [(.t 0, .v (k.V))] [(.t 0, .v (k.V))] := by
  refine spec_of_body tabOk Tryz.func12 rfl (by kernel_rfl) (by decide) (by kernel_rfl) rfl ?_
  refine SW.seq ?_
  refine SW.regT tabOk [1, 2] ?_
  refine ai trivial (ai trivial ?_)
  refine SW.seq ?_
  refine SW.regT tabOk [1, 2, 3] ?_
  refine ai trivial ?_
  refine SW.seq ?_
  refine SW.regT tabOk [1, 2, 3] ?_
  refine ai (by first | trivial | rfl) (ai vc (ai (by first | trivial | rfl) (ai ⟨by kernel_rfl, Nat.le_of_ble_eq_true (by kernel_rfl)⟩ ?_)))
  refine SW.seq ?_
  refine SW.regT tabOk [1, 2, 3] ?_
  refine ai (by first | trivial | rfl) (ai vc (ai (by first | trivial | rfl) (ai ⟨by kernel_rfl, Nat.le_of_ble_eq_true (by kernel_rfl)⟩ ?_)))
  refine SW.seq ?_
  refine SW.regT tabOk [1, 2, 3] ?_
  refine ai (by first | trivial | rfl) (ai vc ?_)
  refine ex_pure (s_laws_toShelf k.log k.forced) rfl rfl rfl rfl rfl rfl rfl rfl ?_
  refine ai (by first | trivial | rfl) (ai ⟨by kernel_rfl, Nat.le_of_ble_eq_true (by kernel_rfl)⟩ ?_)
  refine SW.seq ?_
  refine SW.regT tabOk [2, 3] ?_
  refine ai (by first | trivial | rfl) (ai vc ?_)
  refine ex_pure (s_laws_toHalfS k.halves hk.2.1 hk.2.2) rfl rfl rfl rfl rfl rfl rfl rfl ?_
  refine ai (by first | trivial | rfl) (ai ⟨by kernel_rfl, Nat.le_of_ble_eq_true (by kernel_rfl)⟩ ?_)
  refine SW.seq ?_
  refine SW.regT tabOk [2] ?_
  refine ai vc (ai ⟨by kernel_rfl, Nat.le_of_ble_eq_true (by kernel_rfl)⟩ ?_)
  refine SW.ret ?_
  refine retOkP rfl rfl ?_
  rfl

theorem s_laws_szShelf (l : List UInt8) (f n : Int) : Ab.SpecE Tryz.prog 39 2 [(.t 0, .v (.e (.agg [.d (.s l), .d (.i f)]))), (.t 1, .v (I n))] (fun s => ∃ r : Int, s = [(.t 0, .v (I r))]) := by
  refine specE_of_body tabOk Tryz.func39 rfl (by kernel_rfl) (by decide) (by kernel_rfl) rfl ?_
  refine SW.seq ?_
  refine SW.regT tabOk [1, 2] ?_
  refine ai trivial (ai trivial ?_)
  refine SW.seq ?_
  refine SW.regT tabOk [1] ?_
  refine ai trivial (ai (by first | trivial | rfl) (ai vc (ai vc (ai trivial (ai trivial ?_)))))
  refine SW.seq ?_
  refine SW.seq ?_
  refine SW.regT tabOk [1, 11] ?_
  refine ai trivial (ai trivial ?_)
  refine SW.cond rfl (fun c11 => ?_) (fun c11 => ?_)
  · skip
    refine SW.seq ?_
    refine SW.regT tabOk [4] ?_
    refine ai trivial ?_
    refine SW.ret ?_
    refine retQR _ ⟨_, rfl⟩ (retOk1 rfl rfl)
  · skip
    refine SW.skip ?_
    refine SW.seq ?_
    refine SW.regT tabOk [4] ?_
    refine ai trivial (ai trivial ?_)
    refine SW.ret ?_
    refine retQR _ ⟨_, rfl⟩ (retOk1 rfl rfl)

theorem s_laws_szKeeper (k : KeeperR) (n : Int) (hk : KRB k) : Ab.SpecE Tryz.prog 10 2 [(.t 0, .v (k.V)), (.t 1, .v (I n))] (fun s => ∃ r : Int, s = [(.t 0, .v (I r))]) := by
  refine specE_of_body tabOk Tryz.func10 rfl (by kernel_rfl) (by decide) (by kernel_rfl) rfl ?_
  refine SW.seq ?_
  refine SW.regT tabOk [1, 2] ?_
  refine ai trivial (ai trivial ?_)
  refine SW.seq ?_
  refine SW.regE tabOk [1, 2] ?_
  refine ai (by first | trivial | rfl) (ai vc (ai trivial ?_))
  refine ee_call (rl := []) (bor := []) (news := []) (robj := []) (s_laws_szShelf k.log k.forced n) rfl rfl rfl rfl (match_plain rfl) (fun σ hσ => by obtain ⟨r, rfl⟩ := hσ; exact ⟨rfl, .inl rfl, fun j hj => by simp [newIds, objIds] at hj⟩) (fun p hp => nomatch hp) (fun j hj => nomatch hj) ?_
  rintro σ ⟨x1, rfl⟩
  refine ai trivial ?_
  refine SW.seq ?_
  refine SW.seq ?_
  refine SW.regT tabOk [1, 2, 10] ?_
  refine ai trivial (ai trivial ?_)
  refine SW.cond rfl (fun c10 => ?_) (fun c10 => ?_)
  · skip
    refine SW.seq ?_
    refine SW.regT tabOk [4] ?_
    refine ai trivial ?_
    refine SW.ret ?_
    refine retQR _ ⟨_, rfl⟩ (retOk1 rfl rfl)
  · skip
    refine SW.skip ?_
    refine SW.seq ?_
    refine SW.regE tabOk [1] ?_
    refine ai (by first | trivial | rfl) (ai vc (ai trivial ?_))
    refine ee_call (rl := []) (bor := []) (news := []) (robj := []) (s_laws_szHalfS k.halves _ hk.2.1 hk.2.2) rfl rfl rfl rfl (match_plain rfl) (fun σ hσ => by obtain ⟨r, rfl⟩ := hσ; exact ⟨rfl, .inl rfl, fun j hj => by simp [newIds, objIds] at hj⟩) (fun p hp => nomatch hp) (fun j hj => nomatch hj) ?_
    rintro σ ⟨x2, rfl⟩
    refine ai trivial ?_
    refine SW.seq ?_
    refine SW.seq ?_
    refine SW.regT tabOk [1, 16] ?_
    refine ai trivial (ai trivial ?_)
    refine SW.cond rfl (fun c16 => ?_) (fun c16 => ?_)
    · skip
      refine SW.seq ?_
      refine SW.regT tabOk [4] ?_
      refine ai trivial ?_
      refine SW.ret ?_
      refine retQR _ ⟨_, rfl⟩ (retOk1 rfl rfl)
    · skip
      refine SW.skip ?_
      refine SW.seq ?_
      refine SW.regT tabOk [4] ?_
      refine ai trivial (ai trivial ?_)
      refine SW.ret ?_
      refine retQR _ ⟨_, rfl⟩ (retOk1 rfl rfl)

theorem s_laws_eqShelf (l m : List UInt8) (f g : Int) : Ab.Spec Tryz.prog 55 2 [(.t 0, .v (.e (.agg [.d (.s l), .d (.i f)]))), (.t 1, .v (.e (.agg [.d (.s m), .d (.i g)])))] [(.t 0, .v (B (decide (l = m ∧ f = g))))] := by
  refine spec_of_body tabOk Tryz.func55 rfl (by kernel_rfl) (by decide) (by kernel_rfl) rfl ?_
  refine SW.seq ?_
  refine SW.regT tabOk [2, 3] ?_
  refine ai trivial (ai trivial (ai trivial ?_))
  refine SW.seq ?_
  refine SW.seq ?_
  refine SW.regT tabOk [2, 3, 9] ?_
  refine ai (by first | trivial | rfl) (ai vc (ai (by first | trivial | rfl) (ai vc (ai vc ?_))))
  refine SW.cond rfl (fun c9 => ?_) (fun c9 => ?_)
  · skip
    refine SW.seq ?_
    refine SW.regT tabOk [4] ?_
    refine ai trivial ?_
    refine SW.ret ?_
    refine retOk1 rfl (congrArg D.b ?_)
    simp_all
  · skip
    refine SW.skip ?_
    refine SW.seq ?_
    refine SW.seq ?_
    refine SW.regT tabOk [14] ?_
    refine ai (by first | trivial | rfl) (ai vc (ai (by first | trivial | rfl) (ai vc (ai trivial ?_))))
    refine SW.cond rfl (fun c14 => ?_) (fun c14 => ?_)
    · skip
      refine SW.seq ?_
      refine SW.regT tabOk [4] ?_
      refine ai trivial ?_
      refine SW.ret ?_
      refine retOk1 rfl (congrArg D.b ?_)
      simp_all
    · skip
      refine SW.skip ?_
      refine SW.seq ?_
      refine SW.regT tabOk [4] ?_
      refine ai trivial ?_
      refine SW.ret ?_
      refine retOk1 rfl (congrArg D.b ?_)
      simp_all

set_option maxHeartbeats 800000 in
theorem s_laws_eqKeeper (a b : KeeperR) (ha : KRB a) : Ab.Spec Tryz.prog 15 2 [(.t 0, .v (a.V)), (.t 1, .v (b.V))] [(.t 0, .v (B (decide (a = b))))] := by
  refine spec_of_body tabOk Tryz.func15 rfl (by kernel_rfl) (by decide) (by kernel_rfl) rfl ?_
  refine SW.seq ?_
  refine SW.regT tabOk [2, 3] ?_
  refine ai trivial (ai trivial (ai trivial ?_))
  refine SW.seq ?_
  refine SW.seq ?_
  refine SW.regT tabOk [2, 3, 9] ?_
  refine ai (by first | trivial | rfl) (ai vc (ai (by first | trivial | rfl) (ai vc (ai trivial ?_))))
  refine SW.cond rfl (fun c9 => ?_) (fun c9 => ?_)
  · skip
    refine SW.seq ?_
    refine SW.regT tabOk [4] ?_
    refine ai trivial ?_
    refine SW.ret ?_
    refine retOk1 rfl (congrArg D.b ?_)
    cases a; cases b; first | (simp_all; done) | (simp_all; grind)
  · skip
    refine SW.skip ?_
    refine SW.seq ?_
    refine SW.seq ?_
    refine SW.regT tabOk [2, 3, 14] ?_
    refine ai (by first | trivial | rfl) (ai vc (ai (by first | trivial | rfl) (ai vc (ai trivial ?_))))
    refine SW.cond rfl (fun c14 => ?_) (fun c14 => ?_)
    · skip
      refine SW.seq ?_
      refine SW.regT tabOk [4] ?_
      refine ai trivial ?_
      refine SW.ret ?_
      refine retOk1 rfl (congrArg D.b ?_)
      cases a; cases b; first | (simp_all; done) | (simp_all; grind)
    · skip
      refine SW.skip ?_
      refine SW.seq ?_
      refine SW.seq ?_
      refine SW.regT tabOk [2, 3, 20] ?_
      refine ai (by first | trivial | rfl) (ai vc (ai (by first | trivial | rfl) (ai vc ?_)))
      refine ex_pure (s_laws_eqShelf a.log b.log a.forced b.forced) rfl rfl rfl rfl rfl rfl rfl rfl ?_
      refine ai trivial ?_
      refine SW.cond rfl (fun c20 => ?_) (fun c20 => ?_)
      · skip
        refine SW.seq ?_
        refine SW.regT tabOk [4] ?_
        refine ai trivial ?_
        refine SW.ret ?_
        refine retOk1 rfl (congrArg D.b ?_)
        cases a; cases b; first | (simp_all; done) | (simp_all; grind)
      · skip
        refine SW.skip ?_
        refine SW.seq ?_
        refine SW.seq ?_
        refine SW.regT tabOk [26] ?_
        refine ai (by first | trivial | rfl) (ai vc (ai (by first | trivial | rfl) (ai vc ?_)))
        refine ex_pure (s_laws_eqHalfS a.halves b.halves ha.2.1 ha.2.2) rfl rfl rfl rfl rfl rfl rfl rfl ?_
        refine ai trivial ?_
        refine SW.cond rfl (fun c26 => ?_) (fun c26 => ?_)
        · skip
          refine SW.seq ?_
          refine SW.regT tabOk [4] ?_
          refine ai trivial ?_
          refine SW.ret ?_
          refine retOk1 rfl (congrArg D.b ?_)
          cases a; cases b; first | (simp_all; done) | (simp_all; grind)
        · skip
          refine SW.skip ?_
          refine SW.seq ?_
          refine SW.regT tabOk [4] ?_
          refine ai trivial ?_
          refine SW.ret ?_
          refine retOk1 rfl (congrArg D.b ?_)
          cases a; cases b; first | (simp_all; done) | (simp_all; grind)

theorem typed_mixRow {n B : Nat} {r : List D} (h : Typed tab B (n + 2) 196 r) : ∃ m : MixR, r = m.row ∧ True := by
  obtain ⟨hl, hf⟩ := h
  match r, hl with
  | [a0, a1], _ =>
  obtain ⟨x0, e0, w0⟩ := hf (0, 3) (by decide)
  obtain ⟨x1, e1, w1⟩ := hf (1, 9) (by decide)
  cases e0
  cases e1
  exact ⟨⟨x0, x1⟩, rfl, trivial⟩
theorem typed_halfRow {n B : Nat} {r : List D} (h : Typed tab B (n + 4) 128 r) : ∃ x : HalfR, r = x.row ∧ x.got.length * 24 ≤ B := by
  obtain ⟨hl, hf⟩ := h
  match r, hl with
  | [a0, a1, a2, a3, a4, a5], _ =>
  obtain ⟨x0, e0, w0⟩ := hf (0, 3) (by decide)
  obtain ⟨x1, e1, w1⟩ := hf (1, 3) (by decide)
  obtain ⟨x2, e2, w2⟩ := hf (2, 3) (by decide)
  obtain ⟨x3, e3, w3⟩ := hf (3, 3) (by decide)
  obtain ⟨x4, e4, w4⟩ := hf (4, 3) (by decide)
  obtain ⟨rows, e5, w5, hr⟩ := hf (5, 126) (by decide)
  cases e0
  cases e1
  cases e2
  cases e3
  cases e4
  cases e5
  obtain ⟨l, rfl, _⟩ := exists_map (f := MixR.row) fun r hr' => typed_mixRow (hr r hr')
  refine ⟨⟨x0, x1, x2, x3, x4, l⟩, rfl, ?_⟩
  have w5 : (l.map MixR.row).length * 24 ≤ B := w5
  simpa using w5
theorem typed_keeper {n B : Nat} {ds : List D} (h : Typed tab B (n + 6) 26 ds) : ∃ k : KeeperR, ds = k.row ∧ k.log.length ≤ B ∧ k.halves.length * 64 ≤ B ∧ ∀ h ∈ k.halves, h.got.length * 24 ≤ B := by
  obtain ⟨hl, hf⟩ := h
  match ds, hl with
  | [a0, a1, a2, a3, a4], _ =>
  obtain ⟨x0, e0, w0⟩ := hf (0, 3) (by decide)
  obtain ⟨x1, e1⟩ := hf (1, 4) (by decide)
  obtain ⟨_, hs⟩ := hf (2, 23) (by decide)
  obtain ⟨x2, e2, w2⟩ := hs (0, 9) (by decide)
  obtain ⟨x3, e3, w3⟩ := hs (1, 3) (by decide)
  obtain ⟨rows, e4, w4, hr⟩ := hf (4, 24) (by decide)
  cases e0
  cases e1
  cases e2
  cases e3
  cases e4
  obtain ⟨l, rfl, hg⟩ := exists_map (f := HalfR.row) fun r hr' => typed_halfRow (hr r hr')
  refine ⟨⟨x0, x1, x2, x3, l⟩, rfl, w2, ?_, hg⟩
  have w4 : (l.map HalfR.row).length * 64 ≤ B := w4
  simpa using w4
theorem typed_int {B : Nat} {ds : List D} (h : Typed tab B 8 3 ds) : ∃ n : Int, ds = [.i n] ∧ (Lit.int .i64 n).wf = true := h
end Go.Proofs.YtilahgkblckndaaGreatDoor

namespace Go.Ab
open Go Go.RowKit
set_option linter.unusedVariables false
set_option linter.unusedSimpArgs false

def keeperHas (k : KeeperR) : KeepR := if keeperOk k then (hasOf k).1 else .zero
theorem keeperOk_log {k : KeeperR} (h : keeperOk k = true) : keeperHead k = true ∧ k.log.length ≤ 2400 ∧ (0 ≤ k.forced ∧ k.forced ≤ k.log.length) ∧ k.halves.length ≤ 3 ∧ (k.up = true ∨ k.halves = []) ∧ ∀ x ∈ k.halves, x.got.length ≤ 14 := by
  have h1 : keeperHead k = true := by
    cases hh : keeperHead k with
    | true => rfl
    | false => rw [keeperOk_head hh] at h; cases h
  obtain ⟨_, q1, q2, q3⟩ := keeperHead_parts h1
  obtain ⟨q4, q5, _, _⟩ := shelfOk_parts q1
  refine ⟨h1, q4, q5, q2, q3.imp (fun h => h) (fun h => List.eq_nil_of_length_eq_zero h), fun x hx => ?_⟩
  unfold keeperOk at h
  rw [Bool.and_eq_true] at h
  obtain ⟨i, hi⟩ := List.mem_iff_getElem?.1 hx
  have hlt := (List.getElem?_eq_some_iff.1 hi).1
  have h2 := List.all_eq_true.1 h.2 i (List.mem_range.2 hlt)
  unfold halfStep at h2
  rw [Bool.and_eq_true] at h2
  have h3 := h2.1
  rw [List.getD_eq_getElem?_getD, hi] at h3
  have h3 : halfOk x = true := h3
  unfold halfOk at h3
  rw [Bool.and_eq_true] at h3
  exact (halfHead_parts h3.1).2.2.2.2.2
end Go.Ab

namespace Go.Proofs.YtilahgkblckndaaGreatDoor
open Go Go.Ab Go.RowKit
set_option linter.unusedVariables false
set_option linter.unusedSimpArgs false

end Go.Proofs.YtilahgkblckndaaGreatDoor

namespace Go.Ab
open Go Go.RowKit
set_option linter.unusedVariables false
set_option linter.unusedSimpArgs false

def wSum (b : Int) : Nat → Int
  | 0 => 0
  | d + 1 => wSum b d + l1Weight b ((d + 1 : Nat) : Int)
def degR (b n : Int) : Int := Int.tmod (wrap64 (Int.tdiv (randNext (randNext (wrap64 (wrap64 (n * 31) + b)))) 16)) (wSum b b.toNat)
def degF (b : Int) (r : Int) : Nat → Nat → Int
  | 0, _ => b
  | f + 1, d => if (d : Int) < b then (if r < wSum b d then d else degF b r f (d + 1)) else b
def mixDegree (b n : Int) : Int := if l1Ok b n then (if n < b then 1 else degF b (degR b n) 6 1) else 0
theorem wSum_range {b : Int} (hb : 1 ≤ b ∧ b ≤ 6) : ∀ {d : Nat}, (d : Int) ≤ 6 → 0 ≤ wSum b d ∧ wSum b d ≤ 70 * d ∧ (1 ≤ d → 10 ≤ wSum b d)
  | 0, _ => by simp [wSum]
  | d + 1, h => by
    have ih := wSum_range hb (d := d) (by omega)
    have hw := l1Weight_range (b := b) (d := ((d + 1 : Nat) : Int)) hb (by omega)
    unfold wSum
    refine ⟨by omega, by omega, fun _ => ?_⟩
    by_cases h0 : d = 0
    · subst h0
      have := hw.2.2 rfl
      omega
    · have := ih.2.2 (by omega); omega
theorem degF_range {b r : Int} (hb : 1 ≤ b) : ∀ (f d : Nat), 1 ≤ d → 1 ≤ degF b r f d ∧ degF b r f d ≤ b
  | 0, d, h => by unfold degF; omega
  | f + 1, d, h => by
    unfold degF
    split
    · split
      · omega
      · exact degF_range hb f (d + 1) (by omega)
    · omega
theorem mixDegree_range {b n : Int} (h : l1Ok b n = true) : 1 ≤ mixDegree b n ∧ mixDegree b n ≤ b := by
  obtain ⟨hb, _⟩ := l1Ok_spec h
  unfold mixDegree
  rw [if_pos h]
  split
  · omega
  · exact degF_range hb.1 6 1 (Nat.le_refl _)
theorem degF_hit {b r : Int} {f d : Nat} (hd : (d : Int) < b) (h : r < wSum b d) : degF b r (f + 1) d = d := by
  unfold degF; rw [if_pos hd, if_pos h]
theorem degF_next {b r : Int} {f d : Nat} (hd : (d : Int) < b) (h : ¬ r < wSum b d) : degF b r (f + 1) d = degF b r f (d + 1) := by
  conv => lhs; unfold degF
  rw [if_pos hd, if_neg h]
theorem degF_end {b r : Int} {f d : Nat} (hd : ¬ (d : Int) < b) : degF b r f d = b := by
  cases f with
  | zero => rfl
  | succ f => unfold degF; rw [if_neg hd]
def freeF (u : List Bool) (b : Int) : Nat → Int → Int
  | 0, a => a
  | f + 1, a => if u.getD a.toNat false then freeF u b f (Int.tmod (wrap64 (a + 1)) b) else a
def pickOne (b x : Int) (u : List Bool) : List Bool := u.set (freeF u b 6 (Int.tmod (wrap64 (Int.tdiv (randNext x) 16)) b)).toNat true
def pickF (b : Int) : Nat → Int → List Bool → List Bool
  | 0, _, u => u
  | k + 1, x, u => pickF b k (randNext x) (pickOne b x u)
def usedOf (b n : Int) : List Bool := pickF b (mixDegree b n).toNat (randNext (wrap64 (wrap64 (n * 7) + 1))) (List.replicate 6 false)
def idxs (u : List Bool) : List Int := ((List.range u.length).filter fun i => u.getD i false).map fun (i : Nat) => ((i : Nat) : Int)
def mixOf (b n : Int) : List Int := if l1Ok b n then (if n < b then [n] else idxs (usedOf b n)) else []
theorem freeF_end {u : List Bool} {b a : Int} {f : Nat} (h : u.getD a.toNat false = false) : freeF u b f a = a := by
  cases f with
  | zero => rfl
  | succ f => unfold freeF; rw [h]; rfl
theorem freeF_next {u : List Bool} {b a : Int} {f : Nat} (h : u.getD a.toNat false = true) : freeF u b (f + 1) a = freeF u b f (Int.tmod (wrap64 (a + 1)) b) := by
  conv => lhs; unfold freeF
  rw [if_pos h]
theorem freeF_spec {u : List Bool} {b : Int} (hb : 1 ≤ b ∧ b ≤ 6) {f : Int} (hf : 0 ≤ f ∧ f < b) (hfree : u.getD f.toNat false = false) : ∀ (g : Nat) (a : Int), 0 ≤ a ∧ a < b → ((f + b - a) % b).toNat ≤ g →
    (0 ≤ freeF u b g a ∧ freeF u b g a < b) ∧ u.getD (freeF u b g a).toNat false = false
  | 0, a, ha, hg => by
    have e : a = f := by
      by_cases h : a < f
      · have : (f + b - a) % b = f - a := by
          rw [show f + b - a = (f - a) + b by omega, Int.add_emod_right, Int.emod_eq_of_lt (by omega) (by omega)]
        omega
      · by_cases h2 : a = f
        · exact h2
        · have : (f + b - a) % b = f + b - a := Int.emod_eq_of_lt (by omega) (by omega)
          omega
    subst e
    exact ⟨ha, hfree⟩
  | g + 1, a, ha, hg => by
    cases hu : u.getD a.toNat false with
    | false => rw [freeF_end hu]; exact ⟨ha, hu⟩
    | true =>
      have hne : a ≠ f := fun e => by subst e; rw [hfree] at hu; cases hu
      obtain ⟨q1, q2⟩ := nearer hb hf ha hne
      rw [freeF_next hu]
      exact freeF_spec hb hf hfree g _ q2 (by omega)
theorem at0_range {b x : Int} (hb : 1 ≤ b ∧ b ≤ 6) : 0 ≤ Int.tmod (wrap64 (Int.tdiv (randNext x) 16)) b ∧ Int.tmod (wrap64 (Int.tdiv (randNext x) 16)) b < b := by
  have hr := randNext_range x
  exact tmod_range (x := wrap64 (Int.tdiv (randNext x) 16)) (n := b) (by rw [wrap64_of (by have := tdiv_range hr.1 (n := 16) (by omega); omega)]; exact (tdiv_range hr.1 (by omega)).1) hb.1
def UOk (b : Int) (u : List Bool) : Prop := u.length = 6 ∧ ∀ i : Nat, b ≤ i → u.getD i false = false
theorem uok_free {b : Int} {u : List Bool} (hb : 1 ≤ b ∧ b ≤ 6) (h : UOk b u) (hc : (u.count true : Int) < b) : ∃ f : Int, (0 ≤ f ∧ f < b) ∧ u.getD f.toNat false = false := by
  obtain ⟨f, hf1, hf2⟩ := exists_free (u := u.take b.toNat) (by
    have h1 : (u.take b.toNat).count true ≤ u.count true := (List.take_sublist _ _).count_le _
    rw [List.length_take, h.1]; omega)
  rw [List.length_take, h.1] at hf1
  refine ⟨f, by omega, ?_⟩
  rw [getD_take (by omega)] at hf2
  rw [Int.toNat_natCast]; exact hf2
theorem uok_pick {b x : Int} {u : List Bool} (hb : 1 ≤ b ∧ b ≤ 6) (h : UOk b u) (hc : (u.count true : Int) < b) : UOk b (pickOne b x u) ∧ (pickOne b x u).count true = u.count true + 1 := by
  obtain ⟨f, hf, hfree⟩ := uok_free hb h hc
  have ha := at0_range (x := x) hb
  obtain ⟨q1, q2⟩ := freeF_spec hb hf hfree 6 _ ha (by
    have := Int.emod_lt_of_pos (f + b - Int.tmod (wrap64 (Int.tdiv (randNext x) 16)) b) (show 0 < b by omega)
    have := Int.emod_nonneg (f + b - Int.tmod (wrap64 (Int.tdiv (randNext x) 16)) b) (show b ≠ 0 by omega)
    omega)
  refine ⟨⟨by rw [pickOne, List.length_set]; exact h.1, fun i hi => ?_⟩, ?_⟩
  · rw [pickOne, List.getD_eq_getElem?_getD, List.getElem?_set_ne (by omega), ← List.getD_eq_getElem?_getD]
    exact h.2 i hi
  · exact count_set (by rw [h.1]; omega) q2
theorem uok_zero (b : Int) : UOk b (List.replicate 6 false) ∧ (List.replicate 6 false).count true = 0 := by
  refine ⟨⟨rfl, fun i _ => ?_⟩, rfl⟩
  rw [List.getD_eq_getElem?_getD, List.getElem?_replicate]
  split <;> rfl
def mixCut (t : List UInt8) : List (List UInt8) := if inB t.length 1 24 then (List.range ((t.length + 3) / 4)).map fun i => (List.range 4).map fun j => t.getD (4 * i + j) 0 else []
def xorL (a b : List UInt8) : List UInt8 := (List.range 4).map fun i => u8 (xor8 (byteI a i) (byteI b i))
def mixGo (bl : List (List UInt8)) : List UInt8 → List Int → List UInt8
  | x, [] => x
  | x, k :: ks => mixGo bl (xorL x (bl.getD k.toNat [])) ks
def mixMake (t : List UInt8) (n : Int) : List UInt8 :=
  if mixCut t = [] ∨ mixOf (mixCut t).length n = [] then [] else mixGo (mixCut t) [0, 0, 0, 0] (mixOf (mixCut t).length n)
end Go.Ab

namespace Go.Ab
open Go Go.RowKit
set_option linter.unusedVariables false
set_option linter.unusedSimpArgs false

def FrameR.zero : FrameR := ⟨0, 0, 0, 0, 0, 0, 0, 0, 0, []⟩
def mixFrame (k : KeeperR) (n : NoteR) (mix : Int) : FrameR := ⟨1, k.id, noteNext k.id n.to, n.frm, n.num, n.to, n.til, n.text.length, mix, mixMake n.text mix⟩
def keeperMix (k : KeeperR) (f n mix : Int) : FrameR × Bool :=
  if keeperOk k && k.up && inB mix 0 999 && decide (0 ≤ noteAt (hasOf k).1.held f n) then (mixFrame k ((hasOf k).1.held.getD (noteAt (hasOf k).1.held f n).toNat .zero) mix, true) else (.zero, false)
end Go.Ab

namespace Go.Ab
open Go Go.RowKit
set_option linter.unusedVariables false
set_option linter.unusedSimpArgs false

def boolCells (u : List Bool) : List C := u.map fun b => .d (.b b)
theorem boolCells_length (u : List Bool) : (boolCells u).length = u.length := by simp [boolCells]
theorem boolCells_getD {u : List Bool} {j : Nat} (h : j < u.length) : (boolCells u).getD j .nil = .d (.b (u.getD j false)) := by
  rw [List.getD_eq_getElem?_getD, List.getD_eq_getElem?_getD]
  simp [boolCells, h]
theorem boolCells_set {u : List Bool} {j : Nat} {x : Bool} (h : j < u.length) : setSeg (boolCells u) j [.d (.b x)] = boolCells (u.set j x) := by
  unfold setSeg boolCells
  rw [List.map_set]
  apply List.ext_getElem?
  intro i
  simp only [List.length_cons, List.length_nil]
  rw [List.getElem?_set]
  by_cases hi : i < j
  · rw [List.append_assoc, List.getElem?_append_left (by simp; omega), List.getElem?_take, if_pos hi, if_neg (by omega)]
  · rw [List.append_assoc, List.getElem?_append_right (by simp; omega)]
    by_cases he : j = i
    · subst he
      simp [h, Nat.min_eq_left (Nat.le_of_lt h)]
    · rw [if_neg he, List.getElem?_append_right (by simp; omega), List.getElem?_drop]
      congr 1
      simp; omega
section
variable {τ σ' : St} {rl : List (Nat × Nat)} {bor : List Nat} {r : St}
theorem mCs_bools : ∀ (u : List Bool), mCs τ σ' rl bor (boolCells u) (boolCells u)
  | [] => trivial
  | b :: u => ⟨rfl, mCs_bools u⟩
theorem mL_boxB {j : Nat} {ty : TypeId} {cs : List C} {u : List Bool} (h : look τ (.o (ren rl j)) = some (.box ty cs)) (e : cs = boolCells u) (hr : mL τ σ' rl bor r) : mL τ σ' rl bor ((.o j, .box ty (boolCells u)) :: r) := by
  subst e; exact mL_box h (mCs_bools u) hr
theorem mL_dC {s : Nat} {c : C} {y : D} (h : look τ (.t s) = some (.v (.e (.c c)))) (e : c = .d y) (hr : mL τ σ' rl bor r) : mL τ σ' rl bor ((.t s, .v (Dv y)) :: r) := by
  subst e; exact mL_d h rfl hr
theorem mL_aggB {s : Nat} {cs : List C} {u : List Bool} (h : look τ (.t s) = some (.v (.e (.agg cs)))) (e : cs = boolCells u) (hr : mL τ σ' rl bor r) : mL τ σ' rl bor ((.t s, .v (.e (.agg (boolCells u)))) :: r) := by
  subst e; exact mL_agg h (mCs_bools u) hr
end
section
variable {P : Program} {T : Tab} {o : Oper} {σ : St} {x y : Operand} {d ob j : Nat} {t ty : TypeId} {ti : TI} {Rx Ry : List (Loc × Option K)} {k : List (Loc × Option K) → List (Loc × K) → Prop}
theorem opt_ixB (hT : TabOk P T) {n e : Nat} {ei : TI} (u : List Bool) (i : Int) (ho : o.op = .index t x y) (hd : o.dst = some d) (ht : T t = some ti) (hk : ti.kind = .arr n e) (he : T e = some ei) (ha : ei.kind.agg = false) (hs : ei.size = 1)
    (hx : ev σ x = some (.e (.agg (boolCells u)), Rx)) (hy : ev σ y = some (I i, Ry)) (hi : 0 ≤ i ∧ i < n) (hn : n = u.length) : OpT P o (Rx ++ Ry) [(.t d, .v (B (u.getD i.toNat false)))] :=
  opt_val hd fun cx σ ι S a w hr hw => by
    obtain ⟨va, ea, la, hva⟩ := (show ER σ ι w S (.agg (boolCells u)) _ from ev_sound hx hr.left hw)
    have hY := ev_sound hy hr.right hw
    simp only [VaR, ER, CR] at hY
    cases hv2 : a.eval y <;> rw [hv2] at hY <;> cases hY
    have hu := (hT t ti ht).kind
    rw [hk] at hu; simp only [TKOk] at hu
    rw [boolCells_length] at la
    have hlt : i.toNat < va.length := by omega
    have h1 : (boolCells u)[i.toNat]? = some (.d (.b (u.getD i.toNat false))) := by
      have hlt2 : i.toNat < u.length := by omega
      simp [boolCells, List.getD_eq_getElem?_getD, hlt2]
    have h2 := hva i.toNat _ va[i.toNat] h1 (by simp [hlt])
    refine ⟨va[i.toNat], ?_, h2⟩
    have h3 : (Go.part e va.toArray i.toNat).run P w = .ok va[i.toNat] w := by
      unfold Go.part
      rw [Sem.run_bind, run_isAggT (hT e ei he), Result.andThen_ok, ha]
      simp [hlt]
    simp [execOp, ho, ea, hv2, Instr.index, asIntOf, run_underlying hu, hi.1, hi.2, run_sizeOfT (hT e ei he), hs, h3]
theorem ex_ixB (hT : TabOk P T) {n e : Nat} {ei : TI} (u : List Bool) (i : Int) (b : Bool) (ho : o.op = .index t x y) (hd : o.dst = some d) (ht : T t = some ti) (hk : ti.kind = .arr n e) (he : T e = some ei) (ha : ei.kind.agg = false) (hs : ei.size = 1)
    (hx : ev σ x = some (.e (.agg (boolCells u)), Rx)) (hy : ev σ y = some (I i, Ry)) (hi : 0 ≤ i ∧ i < n) (hn : n = u.length) (hb : u.getD i.toNat false = b) (h : k (Rx ++ Ry) [(.t d, .v (B b))]) : ∃ R W, OpT P o R W ∧ Reads R σ ∧ k R W :=
  ⟨_, _, hb ▸ opt_ixB hT u i ho hd ht hk he ha hs hx hy hi hn, (ev_reads hx).append (ev_reads hy), h⟩
end
def wList (b : Int) (k : Nat) : List Int := (List.range (k + 1)).map fun i => if i = 0 then 0 else l1Weight b ((i : Nat) : Int)
theorem wList_length (b : Int) (k : Nat) : (wList b k).length = k + 1 := by simp [wList]
theorem wList_succ (b : Int) (k : Nat) : wList b (k + 1) = wList b k ++ [l1Weight b ((k + 1 : Nat) : Int)] := by
  unfold wList
  rw [List.range_succ, List.map_append]; rfl
theorem wList_getD {b : Int} {k i : Nat} (h1 : 1 ≤ i) (h2 : i ≤ k) : (wList b k).getD i 0 = l1Weight b ((i : Nat) : Int) := by
  rw [List.getD_eq_getElem?_getD]
  simp [wList, show i < k + 1 by omega, show ¬ i = 0 by omega]
theorem wList_at {b : Int} {k i : Nat} (h1 : 1 ≤ i) (h2 : i ≤ k) : toI (((intRows (wList b k)).getD i []).getD 0 (.i 0)) = l1Weight b ((i : Nat) : Int) := by
  rw [intRows_getD (by rw [wList_length]; omega), wList_getD h1 h2]; rfl
theorem l1Weight_more {b d : Int} (h : ¬ d = 1) : wrap64 (Int.tdiv 60 (wrap64 (d * wrap64 (d - 1)))) = l1Weight b d := by
  rw [l1Weight, if_neg h]
theorem l1Weight_den {d : Int} (h : 2 ≤ d ∧ d ≤ 6) : wrap64 (d * wrap64 (d - 1)) ≠ 0 := by
  rw [wrap64_of (n := d - 1) (by omega)]
  have : d = 2 ∨ d = 3 ∨ d = 4 ∨ d = 5 ∨ d = 6 := by omega
  rcases this with rfl | rfl | rfl | rfl | rfl <;> (rw [wrap64_of (by omega)]; omega)
theorem wSum_one (b : Int) : wSum b 1 = wrap64 (wrap64 (Int.tdiv 60 b) + 10) := by simp [wSum, l1Weight]
theorem mixDegree_small {b n : Int} (h : l1Ok b n = true) (hn : n < b) : mixDegree b n = 1 := by rw [mixDegree, if_pos h, if_pos hn]
theorem mixDegree_big {b n : Int} (h : l1Ok b n = true) (hn : ¬ n < b) : mixDegree b n = degF b (degR b n) 6 1 := by rw [mixDegree, if_pos h, if_neg hn]
theorem degF_step {b r : Int} {j : Nat} (hj : j + 1 ≤ 6) (hle : ((j + 1 : Nat) : Int) ≤ b) (h : ¬ r < wSum b (j + 1)) : degF b r (6 - j) (j + 1) = degF b r (6 - (j + 1)) (j + 1 + 1) := by
  by_cases hb : ((j + 1 : Nat) : Int) < b
  · rw [show 6 - j = (6 - (j + 1)) + 1 by omega, degF_next hb h]
  · rw [degF_end hb, degF_end (by omega)]
theorem degF_stop {b r : Int} {j : Nat} (hj : j + 1 ≤ 6) (hle : ((j + 1 : Nat) : Int) ≤ b) (h : r < wSum b (j + 1)) : degF b r (6 - j) (j + 1) = ((j + 1 : Nat) : Int) := by
  by_cases hb : ((j + 1 : Nat) : Int) < b
  · rw [show 6 - j = (6 - (j + 1)) + 1 by omega, degF_hit hb h]
  · rw [degF_end hb]; omega
theorem degR_range {b n : Int} (hb : 1 ≤ b ∧ b ≤ 6) : 0 ≤ degR b n ∧ degR b n < wSum b b.toNat := by
  have h1 := (wSum_range hb (d := b.toNat) (by omega)).2.2 (by omega)
  have hr := randNext_range (randNext (wrap64 (wrap64 (n * 31) + b)))
  exact tmod_range (x := wrap64 (Int.tdiv (randNext (randNext (wrap64 (wrap64 (n * 31) + b)))) 16)) (by rw [wrap64_of (by have := tdiv_range hr.1 (n := 16) (by omega); omega)]; exact (tdiv_range hr.1 (by omega)).1) (by omega)
end Go.Ab

namespace Go.Ab
open Go Go.RowKit
set_option linter.unusedVariables false
set_option linter.unusedSimpArgs false

theorem freeF_fuel {u : List Bool} {b : Int} (hb : 1 ≤ b ∧ b ≤ 6) {f : Int} (hf : 0 ≤ f ∧ f < b) (hfree : u.getD f.toNat false = false) : ∀ (g h : Nat) (a : Int), 0 ≤ a ∧ a < b → ((f + b - a) % b).toNat ≤ g → ((f + b - a) % b).toNat ≤ h → freeF u b g a = freeF u b h a
  | g, h, a, ha, hg, hh => by
    cases hu : u.getD a.toNat false with
    | false => rw [freeF_end hu, freeF_end hu]
    | true =>
      have hne : a ≠ f := fun e => by subst e; rw [hfree] at hu; cases hu
      obtain ⟨q1, q2⟩ := nearer hb hf ha hne
      match g, h, hg, hh with
      | 0, _, hg, _ => omega
      | _ + 1, 0, _, hh => omega
      | g + 1, h + 1, hg, hh =>
        rw [freeF_next hu, freeF_next hu]
        exact freeF_fuel hb hf hfree g h _ q2 (by omega) (by omega)
theorem freeF_go {u : List Bool} {b : Int} (hb : 1 ≤ b ∧ b ≤ 6) {f : Int} (hf : 0 ≤ f ∧ f < b) (hfree : u.getD f.toNat false = false) {a : Int} (ha : 0 ≤ a ∧ a < b) (hu : u.getD a.toNat false = true) : freeF u b 6 a = freeF u b 6 (Int.tmod (wrap64 (a + 1)) b) := by
  have h1 := Int.emod_lt_of_pos (f + b - a) (show 0 < b by omega)
  have h2 := Int.emod_nonneg (f + b - a) (show b ≠ 0 by omega)
  rw [freeF_fuel hb hf hfree 6 7 a ha (by omega) (by omega), freeF_next hu]
def idxsTo (u : List Bool) (i : Nat) : List Int := ((List.range i).filter fun i => u.getD i false).map fun (i : Nat) => ((i : Nat) : Int)
theorem idxsTo_yes {u : List Bool} {i : Nat} (h : u.getD i false = true) : idxsTo u (i + 1) = idxsTo u i ++ [(i : Int)] := by
  unfold idxsTo
  rw [List.range_succ, List.filter_append, List.map_append, List.filter_cons_of_pos (by exact h)]
  rfl
theorem idxsTo_no {u : List Bool} {i : Nat} (h : u.getD i false = false) : idxsTo u (i + 1) = idxsTo u i := by
  unfold idxsTo
  rw [List.range_succ, List.filter_append, List.map_append, List.filter_cons_of_neg (by rw [h]; exact Bool.false_ne_true)]
  exact List.append_nil _
theorem idxsTo_all {u : List Bool} : idxsTo u u.length = idxs u := rfl
theorem idxsTo_more {u : List Bool} {i : Nat} (h : ∀ j, i ≤ j → u.getD j false = false) : ∀ {m : Nat}, i ≤ m → idxsTo u m = idxsTo u i
  | 0, hm => by rw [Nat.le_zero.1 hm]
  | m + 1, hm => by
    by_cases e : i = m + 1
    · rw [e]
    · rw [idxsTo_no (h m (by omega)), idxsTo_more h (by omega)]
theorem idxsTo_length (u : List Bool) (i : Nat) : (idxsTo u i).length ≤ i := by
  unfold idxsTo
  rw [List.length_map]
  exact Nat.le_trans (List.length_filter_le _ _) (by simp)
theorem idxsTo_mem {u : List Bool} {i : Nat} {x : Int} (h : x ∈ idxsTo u i) : 0 ≤ x ∧ u.getD x.toNat false = true := by
  unfold idxsTo at h
  obtain ⟨j, hj, rfl⟩ := List.mem_map.1 h
  have := (List.mem_filter.1 hj).2
  exact ⟨by omega, by rw [Int.toNat_natCast]; exact this⟩
theorem mixOf_none {b n : Int} (h : ¬ l1Ok b n = true) : mixOf b n = [] := if_neg h
theorem mixOf_small {b n : Int} (h : l1Ok b n = true) (hn : n < b) : mixOf b n = [n] := by rw [mixOf, if_pos h, if_pos hn]
theorem mixOf_big {b n : Int} (h : l1Ok b n = true) (hn : ¬ n < b) : mixOf b n = idxs (usedOf b n) := by rw [mixOf, if_pos h, if_neg hn]
theorem pickF_uok {b : Int} (hb : 1 ≤ b ∧ b ≤ 6) : ∀ (k : Nat) (x : Int) (u : List Bool), UOk b u → ((u.count true : Int) + k ≤ b) → UOk b (pickF b k x u)
  | 0, x, u, h, _ => h
  | k + 1, x, u, h, hc => by
    obtain ⟨h1, h2⟩ := uok_pick (x := x) hb h (by omega)
    exact pickF_uok hb k (randNext x) _ h1 (by rw [h2]; omega)
theorem mixOf_range {b n : Int} : ∀ x ∈ mixOf b n, 0 ≤ x ∧ x < b := by
  intro x hx
  by_cases h : l1Ok b n = true
  · obtain ⟨hb, hn⟩ := l1Ok_spec h
    by_cases hs : n < b
    · rw [mixOf_small h hs] at hx
      simp at hx; omega
    · rw [mixOf_big h hs] at hx
      have hu : UOk b (usedOf b n) := pickF_uok hb _ _ _ (uok_zero b).1 (by rw [(uok_zero b).2]; have := mixDegree_range h; omega)
      obtain ⟨q1, q2⟩ := idxsTo_mem (i := (usedOf b n).length) hx
      refine ⟨q1, ?_⟩
      by_cases hlt : x < b
      · exact hlt
      · rw [hu.2 x.toNat (by omega)] at q2; cases q2
  · rw [mixOf_none h] at hx; cases hx
theorem mixOf_length (b n : Int) : (mixOf b n).length ≤ 6 := by
  by_cases h : l1Ok b n = true
  · obtain ⟨hb, hn⟩ := l1Ok_spec h
    by_cases hs : n < b
    · rw [mixOf_small h hs]; simp
    · rw [mixOf_big h hs]
      have hu : UOk b (usedOf b n) := pickF_uok hb _ _ _ (uok_zero b).1 (by rw [(uok_zero b).2]; have := mixDegree_range h; omega)
      rw [← idxsTo_all]
      have := idxsTo_length (usedOf b n) (usedOf b n).length
      have := hu.1; omega
  · rw [mixOf_none h]; simp
end Go.Ab

namespace Go.Proofs.YtilahgkblckndaaGreatDoor
open Go Go.Ab Go.RowKit
set_option linter.unusedVariables false
set_option linter.unusedSimpArgs false

theorem s_impl_RandNext (n : Int) : Ab.Spec Tryz.prog 158 1 [(.t 0, .v (I n))] [(.t 0, .v (I (randNext n)))] := by
  refine spec_of_body tabOk Tryz.func158 rfl (by kernel_rfl) (by decide) (by kernel_rfl) rfl ?_
  refine SW.seq ?_
  refine SW.regT tabOk [0] ?_
  refine ai trivial ?_
  refine SW.seq ?_
  refine SW.seq ?_
  refine SW.regT tabOk [0, 5] ?_
  refine ai trivial ?_
  refine ex_pure (s_impl_in _ _ _) rfl rfl rfl rfl rfl rfl rfl rfl ?_
  refine ai trivial ?_
  refine SW.cond rfl (fun c5 => ?_) (fun c5 => ?_)
  · skip
    refine SW.seq ?_
    refine SW.regT tabOk [2] ?_
    refine ai trivial ?_
    refine SW.ret ?_
    refine retOk1 rfl (congrArg D.i ?_)
    simp at c5
    simp [randNext, c5, Int.mul_comm]
  · skip
    refine SW.skip ?_
    refine SW.seq ?_
    refine SW.regT tabOk [2] ?_
    refine ai trivial (ai trivial (ai trivial (ai vc (ai trivial ?_))))
    refine SW.ret ?_
    refine retOk1 rfl (congrArg D.i ?_)
    simp at c5
    simp [randNext, c5, Int.mul_comm]

theorem s_spec_RandNext (n : Int) : Ab.Spec Tryz.prog 152 1 [(.t 0, .v (I n))] [(.t 0, .v (I (randNext n)))] := by
  refine spec_of_body tabOk Tryz.func152 rfl (by kernel_rfl) (by decide) (by kernel_rfl) rfl ?_
  refine SW.seq ?_
  refine SW.regT tabOk [0] ?_
  refine ai trivial ?_
  refine SW.seq ?_
  refine SW.seq ?_
  refine SW.regT tabOk [0, 5] ?_
  refine ai trivial ?_
  refine ex_pure (s_spec_l6In _ _ _) rfl rfl rfl rfl rfl rfl rfl rfl ?_
  refine ai trivial ?_
  refine SW.cond rfl (fun c5 => ?_) (fun c5 => ?_)
  · skip
    refine SW.seq ?_
    refine SW.regT tabOk [2] ?_
    refine ai trivial ?_
    refine SW.ret ?_
    refine retOk1 rfl (congrArg D.i ?_)
    simp at c5
    simp [randNext, c5, Int.mul_comm]
  · skip
    refine SW.skip ?_
    refine SW.seq ?_
    refine SW.regT tabOk [2] ?_
    refine ai trivial (ai trivial (ai trivial (ai vc (ai trivial ?_))))
    refine SW.ret ?_
    refine retOk1 rfl (congrArg D.i ?_)
    simp at c5
    simp [randNext, c5, Int.mul_comm]

theorem s_impl_mixOk (b n : Int) : Ab.Spec Tryz.prog 157 2 [(.t 0, .v (I b)), (.t 1, .v (I n))] [(.t 0, .v (B (l1Ok b n)))] := by
  refine spec_of_body tabOk Tryz.func157 rfl (by kernel_rfl) (by decide) (by kernel_rfl) rfl ?_
  refine SW.seq ?_
  refine SW.regT tabOk [0, 1, 8, 9] ?_
  refine ai trivial ?_
  refine SW.seq ?_
  refine SW.regT tabOk [4] ?_
  refine ai trivial ?_
  refine ex_pure (s_impl_in _ _ _) rfl rfl rfl rfl rfl rfl rfl rfl ?_
  refine ai trivial (ai (fun h => trivial) (ai rk ?_))
  refine exc_pure (fun h => (s_impl_in _ _ _)) rfl rfl rfl rfl rfl rfl rfl rfl rk ?_
  refine ai pk (ai trivial ?_)
  refine SW.ret ?_
  refine retOk1 rfl ?_
  rfl

theorem s_spec_l1Weight (b d : Int) (hb : 1 ≤ b ∧ b ≤ 6) (hd : 1 ≤ d ∧ d ≤ 6) : Ab.Spec Tryz.prog 180 2 [(.t 0, .v (I b)), (.t 1, .v (I d))] [(.t 0, .v (I (l1Weight b d)))] := by
  refine spec_of_body tabOk Tryz.func180 rfl (by kernel_rfl) (by decide) (by kernel_rfl) rfl ?_
  refine SW.seq ?_
  refine SW.regT tabOk [0, 1] ?_
  refine ai trivial ?_
  refine SW.seq ?_
  refine SW.seq ?_
  refine SW.regT tabOk [0, 1, 6] ?_
  refine ai trivial (ai trivial ?_)
  refine SW.cond rfl (fun c6 => ?_) (fun c6 => ?_)
  · skip
    have h1 : d = 1 := by simpa using c6
    refine SW.seq ?_
    refine SW.regT tabOk [4] ?_
    refine ai trivial (ai (by omega) (ai trivial (ai trivial ?_)))
    refine SW.ret ?_
    refine retOk1 rfl (congrArg D.i ?_)
    exact (if_pos h1).symm
  · skip
    have h1 : ¬ d = 1 := by simpa using c6
    have h2 : wrap64 (d * wrap64 (d - 1)) ≠ 0 := l1Weight_den (by omega)
    refine SW.skip ?_
    refine SW.seq ?_
    refine SW.regT tabOk [4] ?_
    refine ai trivial (ai trivial (ai trivial (ai trivial (ai (h2) (ai trivial ?_)))))
    refine SW.ret ?_
    refine retOk1 rfl (congrArg D.i ?_)
    exact (if_neg h1).symm

set_option maxHeartbeats 800000 in
theorem s_impl_MixDegree (b n : Int) (hok : l1Ok b n = true) : Ab.Spec Tryz.prog 159 2 [(.t 0, .v (I b)), (.t 1, .v (I n))] [(.t 0, .v (I (mixDegree b n)))] := by
  obtain ⟨hb, hn⟩ := l1Ok_spec hok
  refine spec_of_body tabOk Tryz.func159 rfl (by kernel_rfl) (by decide) (by kernel_rfl) rfl ?_
  refine SW.seq ?_
  refine SW.regT tabOk [0, 1] ?_
  refine ai trivial ?_
  refine SW.seq ?_
  refine SW.seq ?_
  refine SW.regT tabOk [0, 1, 14] ?_
  refine ai trivial (ai trivial ?_)
  refine ex_pure (s_impl_mixOk _ _) rfl rfl rfl rfl rfl rfl rfl rfl ?_
  refine ai trivial ?_
  refine SW.cond rfl (fun c14 => ?_) (fun c14 => ?_)
  · skip
    rw [hok] at c14
    cases c14
  · skip
    refine SW.skip ?_
    refine SW.seq ?_
    refine SW.seq ?_
    refine SW.regT tabOk [0, 1, 17] ?_
    refine ai trivial (ai trivial (ai trivial ?_))
    refine SW.cond rfl (fun c17 => ?_) (fun c17 => ?_)
    · skip
      have hs : n < b := by simpa using c17
      refine SW.seq ?_
      refine SW.regT tabOk [4] ?_
      refine ai trivial ?_
      refine SW.ret ?_
      refine retOk1 rfl (congrArg D.i ?_)
      exact (mixDegree_small hok hs).symm
    · skip
      have hs : ¬ n < b := by simpa using c17
      refine SW.skip ?_
      refine SW.seq ?_
      refine SW.regT tabOk [0, 1, 5] ?_
      refine ai trivial (ai (by omega) (ai trivial (ai vc (ai trivial ?_))))
      refine SW.seq ?_
      refine SW.regT tabOk [0, 1, 5, 6] ?_
      refine ai trivial (ai (by exact ⟨rfl, by simp, by simp⟩) (ai (by exact ⟨⟨rfl, by simp⟩, Nat.le_refl _, rfl⟩) (ai trivial ?_)))
      refine SW.seq ?_
      refine SW.seq ?_
      refine SW.wk (J := fun s => s = [(.t 0, .v (I b)), (.t 1, .v (I n)), (.t 5, .v (.e (.c (.own 21 (wList b 1).length)))), (.t 6, .v (I (wSum b 1))), (.o 21, .row 3 1 (intRows (wList b 1)))]) ?_ ?_
      · skip
        refine wk [(.t 0, .v (I b)), (.t 1, .v (I n)), (.t 5, .v (.e (.c (.own 21 (wList b 1).length)))), (.t 6, .v (I (wSum b 1))), (.o 21, .row 3 1 (intRows (wList b 1)))] [] [] (rfl) ?_ rfl rfl
        repeat' first | exact trivial | refine mL_nil rfl ?_ | refine mL_d rfl ?_ ?_ | refine mL_own rfl rfl ?_ rfl ?_ | refine mL_row rfl ?_ ?_ | refine mL_pt rfl rfl rfl rfl ?_ | refine mL_box rfl ?_ ?_ | refine mL_agg rfl ?_ ?_ | exact mCs_nil0 | refine mCs_d ?_ ?_ | refine mCs_nil ?_ | refine mCs_own rfl ?_ rfl ?_ | refine mCs_pt rfl rfl rfl ?_
        all_goals first | with_reducible rfl | (first | with_reducible rfl | (rw [wSum_one]; rfl) | (simp [wList, intRows, l1Weight, List.range_succ]; done))
      rintro s rfl
      refine SW.regT tabOk [0, 1, 5, 6, 7] ?_
      refine ai trivial ?_
      refine SW.block ?_
      -- live at the head: [0, 1, 5, 6, 7]
      refine SW.loopW (n := 5) (fun m s => ∃ i : Nat, m = 6 - i ∧ (1 ≤ i ∧ (i : Int) ≤ b) ∧ s = [(.t 0, .v (I b)), (.t 1, .v (I n)), (.t 5, .v (.e (.c (.own 21 (wList b (i)).length)))), (.t 6, .v (I (wSum b (i)))), (.t 7, .v (I ((i + 1 : Nat) : Int))), (.o 21, .row 3 1 (intRows (wList b (i))))]) ?_ ?_
      · skip
        refine wk [(.t 0, .v (I b)), (.t 1, .v (I n)), (.t 5, .v (.e (.c (.own 21 (wList b (1)).length)))), (.t 6, .v (I (wSum b (1)))), (.t 7, .v (I ((1 + 1 : Nat) : Int))), (.o 21, .row 3 1 (intRows (wList b (1))))] [] [] (⟨1, rfl, by omega, rfl⟩) ?_ rfl rfl
        repeat' first | exact trivial | refine mL_nil rfl ?_ | refine mL_d rfl ?_ ?_ | refine mL_own rfl rfl ?_ rfl ?_ | refine mL_row rfl ?_ ?_ | refine mL_pt rfl rfl rfl rfl ?_ | refine mL_box rfl ?_ ?_ | refine mL_agg rfl ?_ ?_ | exact mCs_nil0 | refine mCs_d ?_ ?_ | refine mCs_nil ?_ | refine mCs_own rfl ?_ rfl ?_ | refine mCs_pt rfl rfl rfl ?_
        all_goals first | with_reducible rfl | (first | with_reducible rfl | rfl | exact congrArg D.i (by rw [wrap64_of (by omega)]; omega) | (simp; done) | omega)
      rintro n s ⟨i, rfl, hi, rfl⟩
      refine SW.seq ?_
      refine SW.seq ?_
      refine SW.regT tabOk [0, 1, 5, 6, 7, 27] ?_
      refine ai trivial (ai trivial (ai trivial ?_))
      refine SW.cond rfl (fun c27 => ?_) (fun c27 => ?_)
      · skip
        have hi2 : ((i + 1 : Nat) : Int) ≤ b := by simpa using c27
        have hr1 := wSum_range hb (d := i) (by omega)
        have hw1 := l1Weight_range (b := b) (d := ((i + 1 : Nat) : Int)) hb (by omega)
        refine SW.skip ?_
        refine SW.seq ?_
        refine SW.block ?_
        refine SW.seq ?_
        refine SW.regT tabOk [0, 1, 5, 6, 7] ?_
        refine ai trivial (ai trivial (ai trivial (ai trivial (ai trivial (ai (l1Weight_den (by omega)) (ai vc (ai (by refine ⟨rfl, intRows_length _, by simp, ?_⟩; rw [wList_length]; show (_ + 1) * 8 ≤ _; omega) (ai trivial ?_))))))))
        refine SW.wk (J := fun s => s = [(.t 0, .v (I b)), (.t 1, .v (I n)), (.t 5, .v (.e (.c (.own 21 (wList b (i + 1)).length)))), (.t 6, .v (I (wSum b (i)))), (.t 7, .v (I ((i + 1 : Nat) : Int))), (.o 21, .row 3 1 (intRows (wList b (i + 1))))]) ?_ ?_
        · skip
          refine wk [(.t 0, .v (I b)), (.t 1, .v (I n)), (.t 5, .v (.e (.c (.own 21 (wList b (i + 1)).length)))), (.t 6, .v (I (wSum b (i)))), (.t 7, .v (I ((i + 1 : Nat) : Int))), (.o 21, .row 3 1 (intRows (wList b (i + 1))))] [] [] (rfl) ?_ rfl rfl
          repeat' first | exact trivial | refine mL_nil rfl ?_ | refine mL_d rfl ?_ ?_ | refine mL_own rfl rfl ?_ rfl ?_ | refine mL_row rfl ?_ ?_ | refine mL_pt rfl rfl rfl rfl ?_ | refine mL_box rfl ?_ ?_ | refine mL_agg rfl ?_ ?_ | exact mCs_nil0 | refine mCs_d ?_ ?_ | refine mCs_nil ?_ | refine mCs_own rfl ?_ rfl ?_ | refine mCs_pt rfl rfl rfl ?_
          all_goals first | with_reducible rfl | (first | with_reducible rfl | (simp [intRows_length, wList_length]; done) | (rw [wList_succ, ← intRows_push, ← l1Weight_more (by omega)]; done) | (rw [wList_succ, ← intRows_push, ← l1Weight_more (by omega)]; rfl) | exact congrArg D.i (by rw [wrap64_of (by omega)]; omega) | (simp; done) | omega)
        rintro s rfl
        refine SW.regT tabOk [0, 1, 5, 6, 7] ?_
        refine ai trivial (ai trivial (ai trivial (ai (oixI (by omega) (by rw [wList_length]; omega) rfl) (ai (by rw [Int.toNat_natCast]; exact oldI (by rw [wList_length]; omega) rfl) (ai trivial (ai trivial ?_))))))
        refine SW.regT tabOk [0, 1, 5, 6, 7] ?_
        refine ai trivial (ai trivial (ai trivial ?_))
        have hat := wList_at (b := b) (k := i + 1) (i := i + 1) (by omega) (by omega)
        refine wk [(.t 0, .v (I b)), (.t 1, .v (I n)), (.t 5, .v (.e (.c (.own 21 (wList b ((i + 1))).length)))), (.t 6, .v (I (wSum b ((i + 1))))), (.t 7, .v (I (((i + 1) + 1 : Nat) : Int))), (.o 21, .row 3 1 (intRows (wList b ((i + 1)))))] [] [] (⟨6 - (i + 1), by omega, i + 1, rfl, by omega, rfl⟩) ?_ rfl rfl
        repeat' first | exact trivial | refine mL_nil rfl ?_ | refine mL_d rfl ?_ ?_ | refine mL_own rfl rfl ?_ rfl ?_ | refine mL_row rfl ?_ ?_ | refine mL_pt rfl rfl rfl rfl ?_ | refine mL_box rfl ?_ ?_ | refine mL_agg rfl ?_ ?_ | exact mCs_nil0 | refine mCs_d ?_ ?_ | refine mCs_nil ?_ | refine mCs_own rfl ?_ rfl ?_ | refine mCs_pt rfl rfl rfl ?_
        all_goals first | with_reducible rfl | (first | with_reducible rfl | (rw [Int.toNat_natCast, hat]; exact congrArg D.i (wrap64_of (by omega))) | exact congrArg D.i (by rw [wrap64_of (by omega)]; omega) | (simp; done) | omega)
      · skip
        have hi3 : ¬ ((i + 1 : Nat) : Int) ≤ b := by simpa using c27
        have hie : i = b.toNat := by omega
        subst hie
        have hq := wSum_range hb (d := b.toNat) (by omega)
        refine SW.exit ?_
        refine SW.seq ?_
        refine SW.regT tabOk [0, 5, 8] ?_
        refine ai trivial (ai trivial (ai trivial (ai trivial ?_)))
        refine ex_pure (s_impl_RandNext _) rfl rfl rfl rfl rfl rfl rfl rfl ?_
        refine ex_pure (s_impl_RandNext _) rfl rfl rfl rfl rfl rfl rfl rfl ?_
        refine ai (by decide) (ai trivial (ai (by omega) (ai trivial ?_)))
        refine SW.seq ?_
        refine SW.regT tabOk [0, 5, 8, 9] ?_
        refine ai trivial ?_
        refine SW.seq ?_
        refine SW.seq ?_
        refine SW.regT tabOk [0, 5, 8, 9, 10] ?_
        refine ai trivial ?_
        refine SW.block ?_
        -- live at the head: [0, 5, 8, 9, 10]
        refine SW.loopW (n := 7) (fun m s => ∃ j : Nat, m = 7 - j ∧ (j : Int) ≤ b ∧ degF b (degR b n) (6 - j) (j + 1) = mixDegree b n ∧ s = [(.t 0, .v (I b)), (.t 5, .v (.e (.c (.own 21 (wList b b.toNat).length)))), (.t 8, .v (I (degR b n))), (.t 9, .v (I (wSum b (j)))), (.t 10, .v (I ((j + 1 : Nat) : Int))), (.o 21, .row 3 1 (intRows (wList b b.toNat)))]) ?_ ?_
        · skip
          refine wk [(.t 0, .v (I b)), (.t 5, .v (.e (.c (.own 21 (wList b b.toNat).length)))), (.t 8, .v (I (degR b n))), (.t 9, .v (I (wSum b (0)))), (.t 10, .v (I ((0 + 1 : Nat) : Int))), (.o 21, .row 3 1 (intRows (wList b b.toNat)))] [] [] (⟨0, rfl, by omega, (mixDegree_big hok hs).symm, rfl⟩) ?_ rfl rfl
          repeat' first | exact trivial | refine mL_nil rfl ?_ | refine mL_d rfl ?_ ?_ | refine mL_own rfl rfl ?_ rfl ?_ | refine mL_row rfl ?_ ?_ | refine mL_pt rfl rfl rfl rfl ?_ | refine mL_box rfl ?_ ?_ | refine mL_agg rfl ?_ ?_ | exact mCs_nil0 | refine mCs_d ?_ ?_ | refine mCs_nil ?_ | refine mCs_own rfl ?_ rfl ?_ | refine mCs_pt rfl rfl rfl ?_
          all_goals first | with_reducible rfl | (first | with_reducible rfl | (rw [Int.mul_comm 31 n]; rfl) | rfl | exact congrArg D.i (by rw [wrap64_of (by omega)]; omega) | (simp; done) | omega)
        rintro n s ⟨j, rfl, hj, hdg, rfl⟩
        refine SW.seq ?_
        refine SW.seq ?_
        refine SW.regT tabOk [0, 5, 8, 9, 10, 55] ?_
        refine ai trivial (ai trivial (ai trivial ?_))
        refine SW.cond rfl (fun c55 => ?_) (fun c55 => ?_)
        · skip
          have hj2 : ((j + 1 : Nat) : Int) ≤ b := by simpa using c55
          have hr1 := wSum_range hb (d := j) (by omega)
          have hw1 := l1Weight_range (b := b) (d := ((j + 1 : Nat) : Int)) hb (by omega)
          have hat := wList_at (b := b) (k := b.toNat) (i := j + 1) (by omega) (by omega)
          have hsum : wrap64 (wSum b j + toI (((intRows (wList b b.toNat)).getD ((j + 1 : Nat) : Int).toNat []).getD 0 (.i 0))) = wSum b (j + 1) := by
            rw [Int.toNat_natCast, hat]
            show _ = wSum b j + l1Weight b ((j + 1 : Nat) : Int)
            exact wrap64_of (by omega)
          refine SW.skip ?_
          refine SW.seq ?_
          refine SW.block ?_
          refine SW.seq ?_
          refine SW.regT tabOk [0, 5, 8, 9, 10] ?_
          refine ai trivial (ai trivial (ai trivial (ai (oixI (by omega) (by rw [wList_length]; omega) rfl) (ai (by rw [Int.toNat_natCast]; exact oldI (by rw [wList_length]; omega) rfl) (ai trivial (ai trivial ?_))))))
          refine SW.seq ?_
          refine SW.regT tabOk [0, 5, 8, 9, 10, 66] ?_
          refine ai trivial (ai trivial (ai trivial ?_))
          refine SW.cond rfl (fun c66 => ?_) (fun c66 => ?_)
          · skip
            have hlt : degR b n < wSum b (j + 1) := by
              rw [← hsum]
              exact of_decide_eq_true c66
            refine SW.seq ?_
            refine SW.regT tabOk [4] ?_
            refine ai trivial (ai trivial ?_)
            refine SW.ret ?_
            refine retOk1 rfl (congrArg D.i ?_)
            rw [← hdg]
            exact (degF_stop (by omega) hj2 hlt).symm
          · skip
            have hnl : ¬ degR b n < wSum b (j + 1) := by
              rw [← hsum]
              exact of_decide_eq_false c66
            have hst := degF_step (by omega) hj2 hnl
            refine SW.skip ?_
            refine SW.regT tabOk [0, 5, 8, 9, 10] ?_
            refine ai trivial (ai trivial (ai trivial ?_))
            refine wk [(.t 0, .v (I b)), (.t 5, .v (.e (.c (.own 21 (wList b b.toNat).length)))), (.t 8, .v (I (degR b n))), (.t 9, .v (I (wSum b ((j + 1))))), (.t 10, .v (I (((j + 1) + 1 : Nat) : Int))), (.o 21, .row 3 1 (intRows (wList b b.toNat)))] [] [] (⟨7 - (j + 1), by omega, j + 1, rfl, by omega, hst ▸ hdg, rfl⟩) ?_ rfl rfl
            repeat' first | exact trivial | refine mL_nil rfl ?_ | refine mL_d rfl ?_ ?_ | refine mL_own rfl rfl ?_ rfl ?_ | refine mL_row rfl ?_ ?_ | refine mL_pt rfl rfl rfl rfl ?_ | refine mL_box rfl ?_ ?_ | refine mL_agg rfl ?_ ?_ | exact mCs_nil0 | refine mCs_d ?_ ?_ | refine mCs_nil ?_ | refine mCs_own rfl ?_ rfl ?_ | refine mCs_pt rfl rfl rfl ?_
            all_goals first | with_reducible rfl | (first | with_reducible rfl | (rw [hsum]; done) | exact congrArg D.i (by rw [wrap64_of (by omega)]; omega) | (simp; done) | omega)
        · skip
          have hj3 : ¬ ((j + 1 : Nat) : Int) ≤ b := by simpa using c55
          refine SW.exit ?_
          refine SW.seq ?_
          refine SW.regT tabOk [4] ?_
          refine ai trivial (ai trivial ?_)
          refine SW.ret ?_
          refine retOk1 rfl (congrArg D.i ?_)
          rw [← hdg]
          exact (degF_end (by omega)).symm

set_option maxHeartbeats 800000 in
theorem s_spec_MixDegree (b n : Int) (hok : l1Ok b n = true) : Ab.Spec Tryz.prog 153 2 [(.t 0, .v (I b)), (.t 1, .v (I n))] [(.t 0, .v (I (mixDegree b n)))] := by
  obtain ⟨hb, hn⟩ := l1Ok_spec hok
  refine spec_of_body tabOk Tryz.func153 rfl (by kernel_rfl) (by decide) (by kernel_rfl) rfl ?_
  refine SW.seq ?_
  refine SW.regT tabOk [0, 1] ?_
  refine ai trivial ?_
  refine SW.seq ?_
  refine SW.seq ?_
  refine SW.regT tabOk [0, 1, 12] ?_
  refine ai trivial (ai trivial ?_)
  refine ex_pure (s_spec_l1Ok _ _) rfl rfl rfl rfl rfl rfl rfl rfl ?_
  refine ai trivial ?_
  refine SW.cond rfl (fun c12 => ?_) (fun c12 => ?_)
  · skip
    rw [hok] at c12
    cases c12
  · skip
    refine SW.skip ?_
    refine SW.seq ?_
    refine SW.seq ?_
    refine SW.regT tabOk [0, 1, 15] ?_
    refine ai trivial (ai trivial (ai trivial ?_))
    refine SW.cond rfl (fun c15 => ?_) (fun c15 => ?_)
    · skip
      have hs : n < b := by simpa using c15
      refine SW.seq ?_
      refine SW.regT tabOk [4] ?_
      refine ai trivial ?_
      refine SW.ret ?_
      refine retOk1 rfl (congrArg D.i ?_)
      exact (mixDegree_small hok hs).symm
    · skip
      have hs : ¬ n < b := by simpa using c15
      refine SW.skip ?_
      refine SW.seq ?_
      refine SW.regT tabOk [0, 1, 5] ?_
      refine ai trivial ?_
      refine SW.seq ?_
      refine SW.seq ?_
      refine SW.regT tabOk [0, 1, 5, 6] ?_
      refine ai trivial ?_
      refine SW.block ?_
      -- live at the head: [0, 1, 5, 6]
      refine SW.loopW (n := 7) (fun m s => ∃ i : Nat, m = 7 - i ∧ (i : Int) ≤ b ∧ s = [(.t 0, .v (I b)), (.t 1, .v (I n)), (.t 5, .v (I (wSum b (i)))), (.t 6, .v (I ((i + 1 : Nat) : Int)))]) ?_ ?_
      · skip
        refine wk [(.t 0, .v (I b)), (.t 1, .v (I n)), (.t 5, .v (I (wSum b (0)))), (.t 6, .v (I ((0 + 1 : Nat) : Int)))] [] [] (⟨0, rfl, by omega, rfl⟩) ?_ rfl rfl
        repeat' first | exact trivial | refine mL_nil rfl ?_ | refine mL_d rfl ?_ ?_ | refine mL_own rfl rfl ?_ rfl ?_ | refine mL_row rfl ?_ ?_ | refine mL_pt rfl rfl rfl rfl ?_ | refine mL_box rfl ?_ ?_ | refine mL_agg rfl ?_ ?_ | exact mCs_nil0 | refine mCs_d ?_ ?_ | refine mCs_nil ?_ | refine mCs_own rfl ?_ rfl ?_ | refine mCs_pt rfl rfl rfl ?_
        all_goals first | with_reducible rfl | (first | with_reducible rfl | rfl | exact congrArg D.i (by rw [wrap64_of (by omega)]; omega) | (simp; done) | omega)
      rintro n s ⟨i, rfl, hi, rfl⟩
      refine SW.seq ?_
      refine SW.seq ?_
      refine SW.regT tabOk [0, 1, 5, 6, 18] ?_
      refine ai trivial (ai trivial (ai trivial ?_))
      refine SW.cond rfl (fun c18 => ?_) (fun c18 => ?_)
      · skip
        have hi2 : ((i + 1 : Nat) : Int) ≤ b := by simpa using c18
        have hr1 := wSum_range hb (d := i) (by omega)
        have hw1 := l1Weight_range (b := b) (d := ((i + 1 : Nat) : Int)) hb (by omega)
        refine SW.skip ?_
        refine SW.seq ?_
        refine SW.block ?_
        refine SW.regT tabOk [0, 1, 5, 6] ?_
        refine ai trivial (ai trivial (ai trivial ?_))
        refine ex_pure (s_spec_l1Weight b _ (by omega) (by omega)) rfl rfl rfl rfl rfl rfl rfl rfl ?_
        refine ai trivial (ai trivial ?_)
        refine SW.regT tabOk [0, 1, 5, 6] ?_
        refine ai trivial (ai trivial (ai trivial ?_))
        refine wk [(.t 0, .v (I b)), (.t 1, .v (I n)), (.t 5, .v (I (wSum b ((i + 1))))), (.t 6, .v (I (((i + 1) + 1 : Nat) : Int)))] [] [] (⟨7 - (i + 1), by omega, i + 1, rfl, by omega, rfl⟩) ?_ rfl rfl
        repeat' first | exact trivial | refine mL_nil rfl ?_ | refine mL_d rfl ?_ ?_ | refine mL_own rfl rfl ?_ rfl ?_ | refine mL_row rfl ?_ ?_ | refine mL_pt rfl rfl rfl rfl ?_ | refine mL_box rfl ?_ ?_ | refine mL_agg rfl ?_ ?_ | exact mCs_nil0 | refine mCs_d ?_ ?_ | refine mCs_nil ?_ | refine mCs_own rfl ?_ rfl ?_ | refine mCs_pt rfl rfl rfl ?_
        all_goals first | with_reducible rfl | (first | with_reducible rfl | (show D.i _ = D.i (wSum b i + l1Weight b ((i + 1 : Nat) : Int)); exact congrArg D.i (wrap64_of (by omega))) | exact congrArg D.i (by rw [wrap64_of (by omega)]; omega) | (simp; done) | omega)
      · skip
        have hi3 : ¬ ((i + 1 : Nat) : Int) ≤ b := by simpa using c18
        have hie : i = b.toNat := by omega
        subst hie
        have hq := wSum_range hb (d := b.toNat) (by omega)
        refine SW.exit ?_
        refine SW.seq ?_
        refine SW.regT tabOk [0, 7] ?_
        refine ai trivial (ai trivial (ai trivial (ai trivial ?_)))
        refine ex_pure (s_spec_RandNext _) rfl rfl rfl rfl rfl rfl rfl rfl ?_
        refine ex_pure (s_spec_RandNext _) rfl rfl rfl rfl rfl rfl rfl rfl ?_
        refine ai (by decide) (ai trivial (ai (by omega) (ai trivial ?_)))
        refine SW.seq ?_
        refine SW.seq ?_
        refine SW.regT tabOk [0, 7, 8] ?_
        refine ai trivial ?_
        refine SW.block ?_
        -- live at the head: [0, 7, 8]
        have hdr := degR_range (n := n) hb
        refine SW.loopW (n := 7) (fun m s => ∃ j : Nat, m = 7 - j ∧ ((j : Int) ≤ b ∧ (j + 1 : Int) ≤ b) ∧ degF b (degR b n) (6 - j) (j + 1) = mixDegree b n ∧ s = [(.t 0, .v (I b)), (.t 7, .v (I (degR b n - wSum b (j)))), (.t 8, .v (I ((j + 1 : Nat) : Int)))]) ?_ ?_
        · skip
          refine wk [(.t 0, .v (I b)), (.t 7, .v (I (degR b n - wSum b (0)))), (.t 8, .v (I ((0 + 1 : Nat) : Int)))] [] [] (⟨0, rfl, by omega, (mixDegree_big hok hs).symm, rfl⟩) ?_ rfl rfl
          repeat' first | exact trivial | refine mL_nil rfl ?_ | refine mL_d rfl ?_ ?_ | refine mL_own rfl rfl ?_ rfl ?_ | refine mL_row rfl ?_ ?_ | refine mL_pt rfl rfl rfl rfl ?_ | refine mL_box rfl ?_ ?_ | refine mL_agg rfl ?_ ?_ | exact mCs_nil0 | refine mCs_d ?_ ?_ | refine mCs_nil ?_ | refine mCs_own rfl ?_ rfl ?_ | refine mCs_pt rfl rfl rfl ?_
          all_goals first | with_reducible rfl | (first | with_reducible rfl | (show D.i (degR b n) = D.i (degR b n - 0); rw [Int.sub_zero]) | rfl | exact congrArg D.i (by rw [wrap64_of (by omega)]; omega) | (simp; done) | omega)
        rintro n s ⟨j, rfl, hj, hdg, rfl⟩
        refine SW.seq ?_
        refine SW.seq ?_
        refine SW.regT tabOk [0, 7, 8, 37] ?_
        refine ai trivial (ai trivial (ai trivial ?_))
        refine SW.cond rfl (fun c37 => ?_) (fun c37 => ?_)
        · skip
          have hj2 : ((j + 1 : Nat) : Int) < b := by simpa using c37
          have hr1 := wSum_range hb (d := j) (by omega)
          have hw1 := l1Weight_range (b := b) (d := ((j + 1 : Nat) : Int)) hb (by omega)
          have hsum : wrap64 (degR b n - wSum b j - l1Weight b ((j + 1 : Nat) : Int)) = degR b n - wSum b (j + 1) := by
            show _ = degR b n - (wSum b j + l1Weight b ((j + 1 : Nat) : Int))
            rw [wrap64_of (by omega)]; omega
          refine SW.skip ?_
          refine SW.seq ?_
          refine SW.block ?_
          refine SW.seq ?_
          refine SW.regT tabOk [0, 7, 8] ?_
          refine ai trivial (ai trivial (ai trivial ?_))
          refine ex_pure (s_spec_l1Weight b _ (by omega) (by omega)) rfl rfl rfl rfl rfl rfl rfl rfl ?_
          refine ai trivial (ai trivial ?_)
          refine SW.seq ?_
          refine SW.regT tabOk [0, 7, 8, 46] ?_
          refine ai trivial (ai trivial ?_)
          refine SW.cond rfl (fun c46 => ?_) (fun c46 => ?_)
          · skip
            have hlt : degR b n < wSum b (j + 1) := by
              have h9 := of_decide_eq_true c46
              rw [hsum] at h9; omega
            refine SW.seq ?_
            refine SW.regT tabOk [4] ?_
            refine ai trivial (ai trivial ?_)
            refine SW.ret ?_
            refine retOk1 rfl (congrArg D.i ?_)
            rw [← hdg]
            exact (degF_stop (by omega) (by omega) hlt).symm
          · skip
            have hnl : ¬ degR b n < wSum b (j + 1) := by
              have h9 := of_decide_eq_false c46
              rw [hsum] at h9; omega
            have hst := degF_step (by omega) (by omega) hnl
            refine SW.skip ?_
            refine SW.regT tabOk [0, 7, 8] ?_
            refine ai trivial (ai trivial (ai trivial ?_))
            refine wk [(.t 0, .v (I b)), (.t 7, .v (I (degR b n - wSum b ((j + 1))))), (.t 8, .v (I (((j + 1) + 1 : Nat) : Int)))] [] [] (⟨7 - (j + 1), by omega, j + 1, rfl, by omega, hst ▸ hdg, rfl⟩) ?_ rfl rfl
            repeat' first | exact trivial | refine mL_nil rfl ?_ | refine mL_d rfl ?_ ?_ | refine mL_own rfl rfl ?_ rfl ?_ | refine mL_row rfl ?_ ?_ | refine mL_pt rfl rfl rfl rfl ?_ | refine mL_box rfl ?_ ?_ | refine mL_agg rfl ?_ ?_ | exact mCs_nil0 | refine mCs_d ?_ ?_ | refine mCs_nil ?_ | refine mCs_own rfl ?_ rfl ?_ | refine mCs_pt rfl rfl rfl ?_
            all_goals first | with_reducible rfl | (first | with_reducible rfl | (rw [hsum]; done) | exact congrArg D.i (by rw [wrap64_of (by omega)]; omega) | (simp; done) | omega)
        · skip
          have hj3 : ¬ ((j + 1 : Nat) : Int) < b := by simpa using c37
          refine SW.exit ?_
          refine SW.seq ?_
          refine SW.regT tabOk [4] ?_
          refine ai trivial (ai trivial ?_)
          refine SW.ret ?_
          refine retOk1 rfl (congrArg D.i ?_)
          rw [← hdg]
          rw [degF_end (by omega)]

end Go.Proofs.YtilahgkblckndaaGreatDoor

namespace Go.Proofs.YtilahgkblckndaaGreatDoor
open Go Go.Ab Go.RowKit
set_option linter.unusedVariables false
set_option linter.unusedSimpArgs false

theorem s_copied_Int (l : List Int) (hl : l.length ≤ 1000000) : Ab.Spec Tryz.prog 160 1 [(.t 0, .v (Dv (.sl (intRows l))))] [(.t 0, .v (.e (.c (.own 0 l.length)))), (.o 0, .row 3 1 (intRows l))] := by
  refine spec_of_body tabOk Tryz.func160 rfl (by kernel_rfl) (by decide) (by kernel_rfl) rfl ?_
  refine SW.seq ?_
  refine SW.regT tabOk [0] ?_
  refine ai trivial ?_
  refine SW.seq ?_
  refine SW.seq ?_
  refine SW.regT tabOk [0, 6] ?_
  refine ai trivial (ai vc (ai trivial ?_))
  refine SW.cond rfl (fun c6 => ?_) (fun c6 => ?_)
  · skip
    refine SW.seq ?_
    refine SW.regT tabOk [2] ?_
    refine ai trivial ?_
    refine SW.nilOwn 2 0 3 1 rfl rfl ?_
    refine SW.ret ?_
    refine retOk _ [] [] rfl ?_ rfl rfl
    repeat' first | exact trivial | refine mL_nil rfl ?_ | refine mL_d rfl ?_ ?_ | refine mL_own rfl rfl ?_ rfl ?_ | refine mL_row rfl ?_ ?_ | refine mL_pt rfl rfl rfl rfl ?_ | refine mL_box rfl ?_ ?_ | refine mL_agg rfl ?_ ?_ | exact mCs_nil0 | refine mCs_d ?_ ?_ | refine mCs_nil ?_ | refine mCs_own rfl ?_ rfl ?_ | refine mCs_pt rfl rfl rfl ?_
    all_goals (simp [intRows_length] at c6; simp [c6, intRows])
  · skip
    refine SW.skip ?_
    refine SW.seq ?_
    refine SW.regT tabOk [0, 3] ?_
    refine ai trivial (ai vc (ai (by refine ⟨rfl, by omega, ?_⟩; rw [intRows_length]; show ((8 : Nat) : Int) * _ ≤ _; omega) (ai trivial ?_)))
    refine SW.seq ?_
    refine SW.regT tabOk [3] ?_
    refine ai trivial (ai trivial (ai (by refine ⟨trivial, by simp, intRows_len1 l⟩) ?_))
    refine SW.seq ?_
    refine SW.regT tabOk [2] ?_
    refine ai trivial (ai trivial ?_)
    refine SW.ret ?_
    refine retOk _ [(0, 9)] [] rfl ?_ rfl rfl
    repeat' first | exact trivial | refine mL_nil rfl ?_ | refine mL_d rfl ?_ ?_ | refine mL_own rfl rfl ?_ rfl ?_ | refine mL_row rfl ?_ ?_ | refine mL_pt rfl rfl rfl rfl ?_ | refine mL_box rfl ?_ ?_ | refine mL_agg rfl ?_ ?_ | exact mCs_nil0 | refine mCs_d ?_ ?_ | refine mCs_nil ?_ | refine mCs_own rfl ?_ rfl ?_ | refine mCs_pt rfl rfl rfl ?_
    all_goals first | (simp [intRows_length]; done) | (simp; done)

theorem sc_ints (o : List Int) : scalarSt [(.t 0, .v (.e (.c (.own 0 o.length)))), (.o 0, .row 3 1 (intRows (o)))] := by
  intro p hp
  simp at hp
  rcases hp with rfl | rfl
  · trivial
  · intro r hr d hd
    obtain ⟨x, _, rfl⟩ := List.mem_map.1 hr
    simp at hd; subst hd; trivial
set_option maxHeartbeats 1600000 in
theorem s_impl_MixOf (b n : Int) : Ab.Spec Tryz.prog 110 2 [(.t 0, .v (I b)), (.t 1, .v (I n))] [(.t 0, .v (Dv (.sl (intRows (mixOf b n)))))] := by
  refine spec_of_body tabOk Tryz.func110 rfl (by kernel_rfl) (by decide) (by kernel_rfl) rfl ?_
  refine SW.seq ?_
  refine SW.regT tabOk [0, 1] ?_
  refine ai trivial ?_
  refine SW.seq ?_
  refine SW.seq ?_
  refine SW.regT tabOk [0, 1, 15] ?_
  refine ai trivial (ai trivial ?_)
  refine ex_pure (s_impl_mixOk _ _) rfl rfl rfl rfl rfl rfl rfl rfl ?_
  refine ai trivial ?_
  refine SW.cond rfl (fun c15 => ?_) (fun c15 => ?_)
  · skip
    have hok : ¬ l1Ok b n = true := by simpa using c15
    refine SW.seq ?_
    refine SW.regT tabOk [4] ?_
    refine ai trivial ?_
    refine SW.ret ?_
    refine retOk _ [] [] rfl (mL_nil_d rfl (congrArg D.sl ?_) trivial) rfl rfl
    rw [mixOf_none hok]; rfl
  · skip
    have hok : l1Ok b n = true := by simpa using c15
    obtain ⟨hb, hn⟩ := l1Ok_spec hok
    have hmd := mixDegree_range hok
    refine SW.skip ?_
    refine SW.seq ?_
    refine SW.seq ?_
    refine SW.regT tabOk [0, 1, 18] ?_
    refine ai trivial (ai trivial (ai trivial ?_))
    refine SW.cond rfl (fun c18 => ?_) (fun c18 => ?_)
    · skip
      have hs : n < b := by simpa using c18
      refine SW.seq ?_
      refine SW.regT tabOk [4] ?_
      refine ai trivial (ai vc (ai trivial ?_))
      refine SW.ret ?_
      refine retOk _ [] [20] rfl (mL_froze rfl rfl rfl ?_ (congrArg D.sl ?_) trivial) rfl rfl
      · rfl
      · rw [mixOf_small hok hs]; rfl
    · skip
      have hs : ¬ n < b := by simpa using c18
      refine SW.skip ?_
      refine SW.seq ?_
      refine SW.regT tabOk [0, 1, 5] ?_
      refine ai trivial ?_
      refine SW.seq ?_
      refine SW.regT tabOk [0, 1, 5, 6] ?_
      refine ai trivial (ai trivial (ai trivial ?_))
      refine ex_pure (s_impl_RandNext _) rfl rfl rfl rfl rfl rfl rfl rfl ?_
      refine ai trivial ?_
      refine SW.seq ?_
      refine SW.seq ?_
      refine SW.regT tabOk [0, 5, 6, 7] ?_
      refine ai trivial (ai trivial ?_)
      refine ex_pure (s_impl_MixDegree b n hok) rfl rfl rfl rfl rfl rfl rfl rfl ?_
      refine ai trivial ?_
      refine SW.block ?_
      -- live at the head: [0, 5, 6, 7]
      refine SW.loopW (n := (mixDegree b n).toNat * 1) (fun m s => ∃ (x : Int) (k : Nat) (u : List Bool), m = k * 1 ∧ (UOk b u ∧ (u.count true : Int) + k ≤ b) ∧ pickF b k x u = usedOf b n ∧ s = [(.t 0, .v (I b)), (.t 5, .v (.e (.c (.pt 5 0)))), (.t 6, .v (I (x))), (.t 7, .v (I (k : Nat))), (.o 5, .box 185 (boolCells (u)))]) ?_ ?_
      · skip
        refine wk [(.t 0, .v (I b)), (.t 5, .v (.e (.c (.pt 5 0)))), (.t 6, .v (I (randNext (wrap64 (wrap64 (n * 7) + 1))))), (.t 7, .v (I ((mixDegree b n).toNat : Nat))), (.o 5, .box 185 (boolCells (List.replicate 6 false)))] [] [] (⟨_, _, _, rfl, ⟨(uok_zero b).1, by rw [(uok_zero b).2]; omega⟩, rfl, rfl⟩) ?_ rfl rfl
        repeat' first | exact trivial | (refine mL_boxB rfl ?_ ?_) | (refine mL_aggB rfl ?_ ?_) | refine mL_nil rfl ?_ | refine mL_d rfl ?_ ?_ | refine mL_own rfl rfl ?_ rfl ?_ | refine mL_row rfl ?_ ?_ | refine mL_pt rfl rfl rfl rfl ?_ | refine mL_box rfl ?_ ?_ | refine mL_agg rfl ?_ ?_ | exact mCs_nil0 | refine mCs_d ?_ ?_ | refine mCs_nil ?_ | refine mCs_own rfl ?_ rfl ?_ | refine mCs_pt rfl rfl rfl ?_ | refine mL_dC rfl ?_ ?_
        all_goals first | with_reducible rfl | (first | with_reducible rfl | rfl | (rw [Int.mul_comm 7 n]; done) | exact congrArg D.i (by omega))
      rintro n s ⟨x, k, u, rfl, ⟨hu, hc⟩, hp, rfl⟩
      refine SW.seq ?_
      refine SW.seq ?_
      refine SW.regT tabOk [0, 5, 6, 7, 29] ?_
      refine ai trivial (ai trivial ?_)
      refine SW.cond rfl (fun c29 => ?_) (fun c29 => ?_)
      · skip
        have hk1 : 0 < k := by simpa using c29
        obtain ⟨f, hf, hfree⟩ := uok_free hb hu (by omega)
        refine SW.skip ?_
        refine SW.seq ?_
        refine SW.block ?_
        refine SW.seq ?_
        refine SW.regT tabOk [0, 5, 6, 7] ?_
        refine ai trivial ?_
        refine ex_pure (s_impl_RandNext _) rfl rfl rfl rfl rfl rfl rfl rfl ?_
        refine ai trivial ?_
        refine SW.seq ?_
        refine SW.regT tabOk [0, 5, 6, 7, 8] ?_
        refine ai trivial (ai (by decide) (ai trivial (ai (by omega) (ai trivial ?_))))
        refine SW.seq ?_
        refine SW.block ?_
        -- live at the head: [0, 5, 6, 7, 8]
        have ha0 := at0_range (x := x) hb
        have hul := hu.1
        refine SW.loopW (n := ((f + b - (Int.tmod (wrap64 (Int.tdiv (randNext x) 16)) b)) % b).toNat) (fun m s => ∃ at_ : Int, m = ((f + b - at_) % b).toNat ∧ (0 ≤ at_ ∧ at_ < b) ∧ freeF u b 6 at_ = freeF u b 6 (Int.tmod (wrap64 (Int.tdiv (randNext x) 16)) b) ∧ s = [(.t 0, .v (I b)), (.t 5, .v (.e (.c (.pt 5 0)))), (.t 6, .v (I (randNext x))), (.t 7, .v (I (k : Nat))), (.t 8, .v (I (at_))), (.o 5, .box 185 (boolCells (u)))]) ?_ ?_
        · skip
          refine wk [(.t 0, .v (I b)), (.t 5, .v (.e (.c (.pt 5 0)))), (.t 6, .v (I (randNext x))), (.t 7, .v (I (k : Nat))), (.t 8, .v (I ((Int.tmod (wrap64 (Int.tdiv (randNext x) 16)) b)))), (.o 5, .box 185 (boolCells (u)))] [] [] (⟨_, rfl, ha0, rfl, rfl⟩) ?_ rfl rfl
          repeat' first | exact trivial | (refine mL_boxB rfl ?_ ?_) | (refine mL_aggB rfl ?_ ?_) | refine mL_nil rfl ?_ | refine mL_d rfl ?_ ?_ | refine mL_own rfl rfl ?_ rfl ?_ | refine mL_row rfl ?_ ?_ | refine mL_pt rfl rfl rfl rfl ?_ | refine mL_box rfl ?_ ?_ | refine mL_agg rfl ?_ ?_ | exact mCs_nil0 | refine mCs_d ?_ ?_ | refine mCs_nil ?_ | refine mCs_own rfl ?_ rfl ?_ | refine mCs_pt rfl rfl rfl ?_ | refine mL_dC rfl ?_ ?_
          all_goals first | with_reducible rfl | (first | with_reducible rfl | rfl)
        rintro n s ⟨at_, rfl, hat, hga, rfl⟩
        refine SW.seq ?_
        refine SW.seq ?_
        refine SW.regT tabOk [0, 5, 6, 7, 8, 40] ?_
        refine ai trivial (ai vc (ai (by show 0 + at_.toNat * 1 < _; rw [boolCells_length]; omega) ?_))
        refine SW.wk (J := fun s => s = [(.t 0, .v (I b)), (.t 5, .v (.e (.c (.pt 5 0)))), (.t 6, .v (I (randNext x))), (.t 7, .v (I (k : Nat))), (.t 8, .v (I (at_))), (.t 40, .v (B (u.getD at_.toNat false))), (.o 5, .box 185 (boolCells (u)))]) ?_ ?_
        · skip
          refine wk [(.t 0, .v (I b)), (.t 5, .v (.e (.c (.pt 5 0)))), (.t 6, .v (I (randNext x))), (.t 7, .v (I (k : Nat))), (.t 8, .v (I (at_))), (.t 40, .v (B (u.getD at_.toNat false))), (.o 5, .box 185 (boolCells (u)))] [] [] (rfl) ?_ rfl rfl
          repeat' first | exact trivial | (refine mL_boxB rfl ?_ ?_) | (refine mL_aggB rfl ?_ ?_) | refine mL_nil rfl ?_ | refine mL_d rfl ?_ ?_ | refine mL_own rfl rfl ?_ rfl ?_ | refine mL_row rfl ?_ ?_ | refine mL_pt rfl rfl rfl rfl ?_ | refine mL_box rfl ?_ ?_ | refine mL_agg rfl ?_ ?_ | exact mCs_nil0 | refine mCs_d ?_ ?_ | refine mCs_nil ?_ | refine mCs_own rfl ?_ rfl ?_ | refine mCs_pt rfl rfl rfl ?_ | refine mL_dC rfl ?_ ?_
          all_goals first | with_reducible rfl | (first | with_reducible rfl | (show (boolCells u).getD (0 + at_.toNat * 1) .nil = _; rw [show 0 + at_.toNat * 1 = at_.toNat by omega]; exact boolCells_getD (by omega)))
        rintro s rfl
        refine SW.cond rfl (fun c40 => ?_) (fun c40 => ?_)
        · skip
          refine SW.skip ?_
          refine SW.block ?_
          refine SW.regT tabOk [0, 5, 6, 7, 8] ?_
          refine ai trivial (ai trivial (ai trivial (ai (by omega) (ai trivial ?_))))
          have hne : at_ ≠ f := by
            rintro rfl
            rw [hfree] at c40
            cases c40
          obtain ⟨q1, q2⟩ := nearer hb hf hat hne
          have hgo := freeF_go hb hf hfree hat c40
          refine wk [(.t 0, .v (I b)), (.t 5, .v (.e (.c (.pt 5 0)))), (.t 6, .v (I (randNext x))), (.t 7, .v (I (k : Nat))), (.t 8, .v (I (Int.tmod (wrap64 (at_ + 1)) b))), (.o 5, .box 185 (boolCells (u)))] [] [] (⟨_, q1, _, rfl, q2, hgo ▸ hga, rfl⟩) ?_ rfl rfl
          repeat' first | exact trivial | (refine mL_boxB rfl ?_ ?_) | (refine mL_aggB rfl ?_ ?_) | refine mL_nil rfl ?_ | refine mL_d rfl ?_ ?_ | refine mL_own rfl rfl ?_ rfl ?_ | refine mL_row rfl ?_ ?_ | refine mL_pt rfl rfl rfl rfl ?_ | refine mL_box rfl ?_ ?_ | refine mL_agg rfl ?_ ?_ | exact mCs_nil0 | refine mCs_d ?_ ?_ | refine mCs_nil ?_ | refine mCs_own rfl ?_ rfl ?_ | refine mCs_pt rfl rfl rfl ?_ | refine mL_dC rfl ?_ ?_
          all_goals first | with_reducible rfl | (first | with_reducible rfl | rfl)
        · skip
          have hz : at_ = freeF u b 6 (Int.tmod (wrap64 (Int.tdiv (randNext x) 16)) b) := by rw [← hga, freeF_end c40]
          have hpo : pickOne b x u = u.set at_.toNat true := by rw [pickOne, ← hz]
          have huk := uok_pick (x := x) hb hu (by omega)
          rw [hpo] at huk
          refine SW.exit ?_
          refine SW.regT tabOk [0, 5, 6, 7] ?_
          refine ai trivial (ai vc (ai (by refine ⟨rfl, ?_⟩; rw [boolCells_length]; show 0 + at_.toNat * 1 + 1 ≤ _; omega) ?_))
          refine forceL_iff.2 ?_
          refine SW.regT tabOk [0, 5, 6, 7] ?_
          refine ai trivial (ai trivial (ai trivial ?_))
          obtain ⟨k, rfl⟩ : ∃ k2, k = k2 + 1 := ⟨k - 1, by omega⟩
          have hpp : pickF b k (randNext x) (u.set at_.toNat true) = usedOf b n := by
            rw [← hpo]; exact hp
          refine wk [(.t 0, .v (I b)), (.t 5, .v (.e (.c (.pt 5 0)))), (.t 6, .v (I (randNext x))), (.t 7, .v (I (k : Nat))), (.o 5, .box 185 (boolCells (u.set at_.toNat true)))] [] [] (⟨k * 1, by omega, randNext x, k, u.set at_.toNat true, rfl, ⟨huk.1, by rw [huk.2]; omega⟩, hpp, rfl⟩) ?_ rfl rfl
          repeat' first | exact trivial | (refine mL_boxB rfl ?_ ?_) | (refine mL_aggB rfl ?_ ?_) | refine mL_nil rfl ?_ | refine mL_d rfl ?_ ?_ | refine mL_own rfl rfl ?_ rfl ?_ | refine mL_row rfl ?_ ?_ | refine mL_pt rfl rfl rfl rfl ?_ | refine mL_box rfl ?_ ?_ | refine mL_agg rfl ?_ ?_ | exact mCs_nil0 | refine mCs_d ?_ ?_ | refine mCs_nil ?_ | refine mCs_own rfl ?_ rfl ?_ | refine mCs_pt rfl rfl rfl ?_ | refine mL_dC rfl ?_ ?_
          all_goals first | with_reducible rfl | (first | with_reducible rfl | exact congrArg D.i (by rw [wrap64_of (by omega)]; omega) | (show setSeg (boolCells u) (0 + at_.toNat * 1) [.d (.b true)] = _; rw [show 0 + at_.toNat * 1 = at_.toNat by omega]; exact boolCells_set (by omega)))
      · skip
        have hk1 : k = 0 := by simp at c29; omega
        subst hk1
        have hue : u = usedOf b n := hp
        have hul := hu.1
        refine SW.exit ?_
        refine SW.seq ?_
        refine SW.regT tabOk [5, 9] ?_
        refine ai trivial ?_
        refine SW.seq ?_
        refine SW.seq ?_
        refine SW.regT tabOk [9, 47, 48] ?_
        refine ai (by show 0 + 6 ≤ _; rw [boolCells_length]; omega) (ai trivial ?_)
        refine SW.block ?_
        -- live at the head: [9, 47, 48]
        refine SW.nilOwn 9 100 3 1 rfl rfl ?_
        refine SW.loopW (n := 6) (fun m s => ∃ i : Nat, m = 6 - i ∧ i ≤ 6 ∧ s = [(.t 9, .v (.e (.c (.own 100 (idxsTo u (i)).length)))), (.t 48, .v (I (i : Nat))), (.t 47, .v (.e (.agg (boolCells u)))), (.o 100, .row 3 1 (intRows (idxsTo u (i))))]) ?_ ?_
        · skip
          refine wk [(.t 9, .v (.e (.c (.own 100 (idxsTo u (0)).length)))), (.t 48, .v (I (0 : Nat))), (.t 47, .v (.e (.agg (boolCells u)))), (.o 100, .row 3 1 (intRows (idxsTo u (0))))] [] [] (⟨0, rfl, by omega, rfl⟩) ?_ rfl rfl
          repeat' first | exact trivial | (refine mL_boxB rfl ?_ ?_) | (refine mL_aggB rfl ?_ ?_) | refine mL_nil rfl ?_ | refine mL_d rfl ?_ ?_ | refine mL_own rfl rfl ?_ rfl ?_ | refine mL_row rfl ?_ ?_ | refine mL_pt rfl rfl rfl rfl ?_ | refine mL_box rfl ?_ ?_ | refine mL_agg rfl ?_ ?_ | exact mCs_nil0 | refine mCs_d ?_ ?_ | refine mCs_nil ?_ | refine mCs_own rfl ?_ rfl ?_ | refine mCs_pt rfl rfl rfl ?_ | refine mL_dC rfl ?_ ?_
          all_goals first | with_reducible rfl | (first | with_reducible rfl | rfl | (show ((boolCells u).drop 0).take 6 = boolCells u; rw [List.drop_zero, List.take_of_length_le (by rw [boolCells_length]; omega)]))
        rintro n s ⟨i, rfl, hi, rfl⟩
        refine SW.seq ?_
        refine SW.regT tabOk [9, 47, 48, 49] ?_
        refine ai trivial ?_
        refine SW.seq ?_
        refine SW.cond rfl (fun c49 => ?_) (fun c49 => ?_)
        · skip
          have hi2 : i < 6 := by simp at c49; omega
          refine SW.skip ?_
          refine SW.seq ?_
          refine SW.block ?_
          refine SW.seq ?_
          refine SW.regT tabOk [9, 10, 11, 47, 48] ?_
          refine ai trivial ?_
          refine ex_ixB tabOk u (i : Nat) (u.getD i false) rfl rfl rfl rfl rfl rfl rfl (by rfl) (by rfl) (by omega) hul.symm (by rw [Int.toNat_natCast]) ?_
          refine ai trivial (ai trivial ?_)
          refine SW.seq ?_
          refine SW.regT tabOk [9, 10, 47, 48, 52] ?_
          refine ai trivial ?_
          refine SW.cond rfl (fun c52 => ?_) (fun c52 => ?_)
          · skip
            refine SW.regT tabOk [9, 47, 48] ?_
            refine ai trivial (ai trivial (ai vc (ai (by refine ⟨rfl, intRows_length _, by simp, ?_⟩; have := idxsTo_length u i; show (_ + 1) * 8 ≤ _; omega) (ai trivial ?_))))
            refine SW.regT tabOk [9, 47, 48] ?_
            refine ai trivial (ai trivial ?_)
            first
            | (have hx := idxsTo_yes c52
               refine wk [(.t 9, .v (.e (.c (.own 100 (idxsTo u ((i + 1))).length)))), (.t 48, .v (I ((i + 1) : Nat))), (.t 47, .v (.e (.agg (boolCells u)))), (.o 100, .row 3 1 (intRows (idxsTo u ((i + 1)))))] [] [] (⟨6 - (i + 1), by omega, i + 1, rfl, by omega, rfl⟩) ?_ rfl rfl
               repeat' first | exact trivial | refine mL_nil rfl ?_ | refine mL_d rfl ?_ ?_ | refine mL_own rfl rfl ?_ rfl ?_ | refine mL_row rfl ?_ ?_ | refine mL_pt rfl rfl rfl rfl ?_ | refine mL_box rfl ?_ ?_ | refine mL_aggB rfl ?_ ?_ | exact mCs_nil0 | refine mCs_d ?_ ?_ | refine mCs_nil ?_ | refine mCs_own rfl ?_ rfl ?_ | refine mCs_pt rfl rfl rfl ?_
               all_goals first | with_reducible rfl | (first | with_reducible rfl | exact congrArg D.i (by rw [wrap64_of (by omega)]; omega) | omega | (simp; done) | (rw [hx, List.length_append]; rfl) | (rw [hx]; exact intRows_push _ _) | (rw [hx]; simp [intRows, List.length_append]; done)); done)
            | (have hx := idxsTo_no c52
               refine wk [(.t 9, .v (.e (.c (.own 100 (idxsTo u ((i + 1))).length)))), (.t 48, .v (I ((i + 1) : Nat))), (.t 47, .v (.e (.agg (boolCells u)))), (.o 100, .row 3 1 (intRows (idxsTo u ((i + 1)))))] [] [] (⟨6 - (i + 1), by omega, i + 1, rfl, by omega, rfl⟩) ?_ rfl rfl
               repeat' first | exact trivial | refine mL_nil rfl ?_ | refine mL_d rfl ?_ ?_ | refine mL_own rfl rfl ?_ rfl ?_ | refine mL_row rfl ?_ ?_ | refine mL_pt rfl rfl rfl rfl ?_ | refine mL_box rfl ?_ ?_ | refine mL_aggB rfl ?_ ?_ | exact mCs_nil0 | refine mCs_d ?_ ?_ | refine mCs_nil ?_ | refine mCs_own rfl ?_ rfl ?_ | refine mCs_pt rfl rfl rfl ?_
               all_goals first | with_reducible rfl | (first | with_reducible rfl | exact congrArg D.i (by rw [wrap64_of (by omega)]; omega) | omega | (simp; done) | (rw [hx]; done)))
          · skip
            refine SW.skip ?_
            refine SW.regT tabOk [9, 47, 48] ?_
            refine ai trivial (ai trivial ?_)
            first
            | (have hx := idxsTo_yes c52
               refine wk [(.t 9, .v (.e (.c (.own 100 (idxsTo u ((i + 1))).length)))), (.t 48, .v (I ((i + 1) : Nat))), (.t 47, .v (.e (.agg (boolCells u)))), (.o 100, .row 3 1 (intRows (idxsTo u ((i + 1)))))] [] [] (⟨6 - (i + 1), by omega, i + 1, rfl, by omega, rfl⟩) ?_ rfl rfl
               repeat' first | exact trivial | refine mL_nil rfl ?_ | refine mL_d rfl ?_ ?_ | refine mL_own rfl rfl ?_ rfl ?_ | refine mL_row rfl ?_ ?_ | refine mL_pt rfl rfl rfl rfl ?_ | refine mL_box rfl ?_ ?_ | refine mL_aggB rfl ?_ ?_ | exact mCs_nil0 | refine mCs_d ?_ ?_ | refine mCs_nil ?_ | refine mCs_own rfl ?_ rfl ?_ | refine mCs_pt rfl rfl rfl ?_
               all_goals first | with_reducible rfl | (first | with_reducible rfl | exact congrArg D.i (by rw [wrap64_of (by omega)]; omega) | omega | (simp; done) | (rw [hx, List.length_append]; rfl) | (rw [hx]; exact intRows_push _ _) | (rw [hx]; simp [intRows, List.length_append]; done)); done)
            | (have hx := idxsTo_no c52
               refine wk [(.t 9, .v (.e (.c (.own 100 (idxsTo u ((i + 1))).length)))), (.t 48, .v (I ((i + 1) : Nat))), (.t 47, .v (.e (.agg (boolCells u)))), (.o 100, .row 3 1 (intRows (idxsTo u ((i + 1)))))] [] [] (⟨6 - (i + 1), by omega, i + 1, rfl, by omega, rfl⟩) ?_ rfl rfl
               repeat' first | exact trivial | refine mL_nil rfl ?_ | refine mL_d rfl ?_ ?_ | refine mL_own rfl rfl ?_ rfl ?_ | refine mL_row rfl ?_ ?_ | refine mL_pt rfl rfl rfl rfl ?_ | refine mL_box rfl ?_ ?_ | refine mL_aggB rfl ?_ ?_ | exact mCs_nil0 | refine mCs_d ?_ ?_ | refine mCs_nil ?_ | refine mCs_own rfl ?_ rfl ?_ | refine mCs_pt rfl rfl rfl ?_
               all_goals first | with_reducible rfl | (first | with_reducible rfl | exact congrArg D.i (by rw [wrap64_of (by omega)]; omega) | omega | (simp; done) | (rw [hx]; done)))
        · skip
          have hi3 : i = 6 := by simp at c49; omega
          subst hi3
          refine SW.exit ?_
          refine SW.seq ?_
          refine SW.regT tabOk [4] ?_
          refine ai trivial ?_
          refine ex_call (robj := [(100, .row 3 1 (intRows (idxsTo u 6)))]) (rl := [(0, 59)]) (bor := [100]) (s_copied_Int (idxsTo u 6) (by have := idxsTo_length u 6; omega)) rfl rfl rfl rfl ⟨mL_froze rfl rfl rfl (intRows_length _) rfl trivial, rfl⟩ rfl (.inr (sc_ints _)) (robjOk_spec ⟨rfl, trivial⟩) (fun j hj => by (obtain rfl : j = 0 := by simpa [newIds, objIds, memN] using hj); rfl) ?_
          refine ai trivial ?_
          refine SW.ret ?_
          refine retOk _ [] [59] rfl (mL_froze rfl rfl rfl ?_ (congrArg D.sl ?_) trivial) rfl rfl
          · exact intRows_length _
          · rw [mixOf_big hok hs, ← hue, ← idxsTo_all, hul]

set_option maxHeartbeats 1600000 in
theorem s_spec_MixOf (b n : Int) : Ab.Spec Tryz.prog 101 2 [(.t 0, .v (I b)), (.t 1, .v (I n))] [(.t 0, .v (Dv (.sl (intRows (mixOf b n)))))] := by
  refine spec_of_body tabOk Tryz.func101 rfl (by kernel_rfl) (by decide) (by kernel_rfl) rfl ?_
  refine SW.seq ?_
  refine SW.regT tabOk [0, 1] ?_
  refine ai trivial ?_
  refine SW.seq ?_
  refine SW.regT tabOk [0, 1, 5] ?_
  refine ai vc (ai trivial ?_)
  refine SW.seq ?_
  refine SW.seq ?_
  refine SW.regT tabOk [0, 1, 5, 15] ?_
  refine ai trivial (ai trivial ?_)
  refine ex_pure (s_spec_l1Ok _ _) rfl rfl rfl rfl rfl rfl rfl rfl ?_
  refine ai trivial ?_
  refine SW.cond rfl (fun c15 => ?_) (fun c15 => ?_)
  · skip
    have hok : ¬ l1Ok b n = true := by simpa using c15
    refine SW.seq ?_
    refine SW.regT tabOk [4] ?_
    refine ai trivial (ai trivial ?_)
    refine SW.ret ?_
    refine retOk _ [] [11] rfl (mL_froze rfl rfl rfl ?_ (congrArg D.sl ?_) trivial) rfl rfl
    · rfl
    · rw [mixOf_none hok]; rfl
  · skip
    have hok : l1Ok b n = true := by simpa using c15
    obtain ⟨hb, hn⟩ := l1Ok_spec hok
    have hmd := mixDegree_range hok
    refine SW.skip ?_
    refine SW.seq ?_
    refine SW.seq ?_
    refine SW.regT tabOk [0, 1, 5, 19] ?_
    refine ai trivial (ai trivial (ai trivial ?_))
    refine SW.cond rfl (fun c19 => ?_) (fun c19 => ?_)
    · skip
      have hs : n < b := by simpa using c19
      refine SW.seq ?_
      refine SW.regT tabOk [4] ?_
      refine ai trivial (ai trivial (ai vc (ai vc (ai trivial ?_))))
      refine SW.ret ?_
      refine retOk _ [] [11] rfl (mL_froze rfl rfl rfl ?_ (congrArg D.sl ?_) trivial) rfl rfl
      · rfl
      · rw [mixOf_small hok hs]; rfl
    · skip
      have hs : ¬ n < b := by simpa using c19
      refine SW.skip ?_
      refine SW.seq ?_
      refine SW.regT tabOk [0, 1, 5, 6] ?_
      refine ai trivial (ai (by refine ⟨rfl, by omega, ?_⟩; show ((1 : Nat) : Int) * _ ≤ _; omega) (ai trivial ?_))
      refine SW.seq ?_
      refine SW.regT tabOk [0, 1, 5, 6, 7] ?_
      refine ai trivial (ai trivial (ai trivial ?_))
      refine ex_pure (s_spec_RandNext _) rfl rfl rfl rfl rfl rfl rfl rfl ?_
      refine ai trivial ?_
      refine SW.seq ?_
      refine SW.seq ?_
      refine SW.regT tabOk [0, 5, 6, 7, 8] ?_
      refine ai trivial (ai trivial ?_)
      refine ex_pure (s_spec_MixDegree b n hok) rfl rfl rfl rfl rfl rfl rfl rfl ?_
      refine ai trivial ?_
      refine SW.block ?_
      -- live at the head: [0, 5, 6, 7, 8]
      refine SW.loopW (n := (mixDegree b n).toNat * 1) (fun m s => ∃ (x : Int) (k : Nat) (u : List Bool), m = k * 1 ∧ (UOk b u ∧ (u.count true : Int) + k ≤ b) ∧ pickF b k x u = usedOf b n ∧ s = [(.t 0, .v (I b)), (.t 5, .v (.e (.c (.own 11 (([] : List Int)).length)))), (.t 6, .v (.e (.c (.own 25 b.toNat)))), (.t 7, .v (I (x))), (.t 8, .v (I (k : Nat))), (.o 11, .row 3 1 (intRows ([]))), (.o 25, .row 4 1 (boolRows ((u).take b.toNat)))]) ?_ ?_
      · skip
        refine wk [(.t 0, .v (I b)), (.t 5, .v (.e (.c (.own 11 (([] : List Int)).length)))), (.t 6, .v (.e (.c (.own 25 b.toNat)))), (.t 7, .v (I (randNext (wrap64 (wrap64 (n * 7) + 1))))), (.t 8, .v (I ((mixDegree b n).toNat : Nat))), (.o 11, .row 3 1 (intRows ([]))), (.o 25, .row 4 1 (boolRows ((List.replicate 6 false).take b.toNat)))] [] [] (⟨_, _, _, rfl, ⟨(uok_zero b).1, by rw [(uok_zero b).2]; omega⟩, rfl, rfl⟩) ?_ rfl rfl
        repeat' first | exact trivial | refine mL_nil rfl ?_ | refine mL_d rfl ?_ ?_ | refine mL_own rfl rfl ?_ rfl ?_ | refine mL_row rfl ?_ ?_ | refine mL_pt rfl rfl rfl rfl ?_ | refine mL_box rfl ?_ ?_ | refine mL_agg rfl ?_ ?_ | exact mCs_nil0 | refine mCs_d ?_ ?_ | refine mCs_nil ?_ | refine mCs_own rfl ?_ rfl ?_ | refine mCs_pt rfl rfl rfl ?_
        all_goals first | with_reducible rfl | (first | with_reducible rfl | rfl | exact congrArg D.i (by omega) | (rw [List.take_replicate, Nat.min_eq_left (by omega)]; exact repT _))
      rintro n s ⟨x, k, u, rfl, ⟨hu, hc⟩, hp, rfl⟩
      refine SW.seq ?_
      refine SW.seq ?_
      refine SW.regT tabOk [0, 5, 6, 7, 8, 34] ?_
      refine ai trivial (ai trivial ?_)
      refine SW.cond rfl (fun c34 => ?_) (fun c34 => ?_)
      · skip
        have hk1 : 0 < k := by simpa using c34
        obtain ⟨f, hf, hfree⟩ := uok_free hb hu (by omega)
        refine SW.skip ?_
        refine SW.seq ?_
        refine SW.block ?_
        refine SW.seq ?_
        refine SW.regT tabOk [0, 5, 6, 7, 8] ?_
        refine ai trivial ?_
        refine ex_pure (s_spec_RandNext _) rfl rfl rfl rfl rfl rfl rfl rfl ?_
        refine ai trivial ?_
        refine SW.seq ?_
        refine SW.regT tabOk [0, 5, 6, 7, 8, 9] ?_
        refine ai trivial (ai (by decide) (ai trivial (ai (by omega) (ai trivial ?_))))
        refine SW.seq ?_
        refine SW.block ?_
        -- live at the head: [0, 5, 6, 7, 8, 9]
        have ha0 := at0_range (x := x) hb
        have hul := hu.1
        have htl : (u.take b.toNat).length = b.toNat := by rw [List.length_take]; omega
        refine SW.loopW (n := ((f + b - (Int.tmod (wrap64 (Int.tdiv (randNext x) 16)) b)) % b).toNat) (fun m s => ∃ at_ : Int, m = ((f + b - at_) % b).toNat ∧ (0 ≤ at_ ∧ at_ < b) ∧ freeF u b 6 at_ = freeF u b 6 (Int.tmod (wrap64 (Int.tdiv (randNext x) 16)) b) ∧ s = [(.t 0, .v (I b)), (.t 5, .v (.e (.c (.own 11 (([] : List Int)).length)))), (.t 6, .v (.e (.c (.own 25 b.toNat)))), (.t 7, .v (I (randNext x))), (.t 8, .v (I (k : Nat))), (.t 9, .v (I (at_))), (.o 11, .row 3 1 (intRows ([]))), (.o 25, .row 4 1 (boolRows ((u).take b.toNat)))]) ?_ ?_
        · skip
          refine wk [(.t 0, .v (I b)), (.t 5, .v (.e (.c (.own 11 (([] : List Int)).length)))), (.t 6, .v (.e (.c (.own 25 b.toNat)))), (.t 7, .v (I (randNext x))), (.t 8, .v (I (k : Nat))), (.t 9, .v (I ((Int.tmod (wrap64 (Int.tdiv (randNext x) 16)) b)))), (.o 11, .row 3 1 (intRows ([]))), (.o 25, .row 4 1 (boolRows ((u).take b.toNat)))] [] [] (⟨_, rfl, ha0, rfl, rfl⟩) ?_ rfl rfl
          repeat' first | exact trivial | refine mL_nil rfl ?_ | refine mL_d rfl ?_ ?_ | refine mL_own rfl rfl ?_ rfl ?_ | refine mL_row rfl ?_ ?_ | refine mL_pt rfl rfl rfl rfl ?_ | refine mL_box rfl ?_ ?_ | refine mL_agg rfl ?_ ?_ | exact mCs_nil0 | refine mCs_d ?_ ?_ | refine mCs_nil ?_ | refine mCs_own rfl ?_ rfl ?_ | refine mCs_pt rfl rfl rfl ?_
          all_goals first | with_reducible rfl | (first | with_reducible rfl | rfl)
        rintro n s ⟨at_, rfl, hat, hga, rfl⟩
        have hbo := boolRows_getD (l := u.take b.toNat) (i := at_.toNat) (by omega)
        rw [getD_take (by omega)] at hbo
        refine SW.seq ?_
        refine SW.seq ?_
        refine SW.regT tabOk [0, 5, 6, 7, 8, 9, 46] ?_
        refine ai trivial (ai trivial (ai (by exact ⟨by rw [boolRows_length]; exact htl, by omega, by omega⟩) (ai (by rw [hbo]; exact ⟨⟨by rw [boolRows_length]; exact htl, by omega⟩, Nat.le_refl _, rfl⟩) ?_)))
        refine SW.cond rfl (fun c46 => ?_) (fun c46 => ?_)
        · skip
          have c40 : u.getD at_.toNat false = true := by
            rw [hbo] at c46; exact c46
          refine SW.skip ?_
          refine SW.block ?_
          refine SW.regT tabOk [0, 5, 6, 7, 8, 9] ?_
          refine ai trivial (ai trivial (ai trivial (ai (by omega) (ai trivial ?_))))
          have hne : at_ ≠ f := by
            rintro rfl
            rw [hfree] at c40
            cases c40
          obtain ⟨q1, q2⟩ := nearer hb hf hat hne
          have hgo := freeF_go hb hf hfree hat c40
          refine wk [(.t 0, .v (I b)), (.t 5, .v (.e (.c (.own 11 (([] : List Int)).length)))), (.t 6, .v (.e (.c (.own 25 b.toNat)))), (.t 7, .v (I (randNext x))), (.t 8, .v (I (k : Nat))), (.t 9, .v (I (Int.tmod (wrap64 (at_ + 1)) b))), (.o 11, .row 3 1 (intRows ([]))), (.o 25, .row 4 1 (boolRows ((u).take b.toNat)))] [] [] (⟨_, q1, _, rfl, q2, hgo ▸ hga, rfl⟩) ?_ rfl rfl
          repeat' first | exact trivial | refine mL_nil rfl ?_ | refine mL_d rfl ?_ ?_ | refine mL_own rfl rfl ?_ rfl ?_ | refine mL_row rfl ?_ ?_ | refine mL_pt rfl rfl rfl rfl ?_ | refine mL_box rfl ?_ ?_ | refine mL_agg rfl ?_ ?_ | exact mCs_nil0 | refine mCs_d ?_ ?_ | refine mCs_nil ?_ | refine mCs_own rfl ?_ rfl ?_ | refine mCs_pt rfl rfl rfl ?_
          all_goals first | with_reducible rfl | (first | with_reducible rfl | rfl)
        · skip
          have c40 : u.getD at_.toNat false = false := by
            rw [hbo] at c46; exact c46
          have hz : at_ = freeF u b 6 (Int.tmod (wrap64 (Int.tdiv (randNext x) 16)) b) := by rw [← hga, freeF_end c40]
          have hpo : pickOne b x u = u.set at_.toNat true := by rw [pickOne, ← hz]
          have huk := uok_pick (x := x) hb hu (by omega)
          rw [hpo] at huk
          refine SW.exit ?_
          refine SW.regT tabOk [0, 5, 6, 7, 8] ?_
          refine ai trivial (ai trivial (ai (by exact ⟨by rw [boolRows_length]; exact htl, by omega, by omega⟩) (ai (by rw [hbo]; exact ⟨by rw [boolRows_length]; exact htl, by omega, rfl, Nat.le_refl _⟩) ?_)))
          refine SW.regT tabOk [0, 5, 6, 7, 8] ?_
          refine ai trivial (ai trivial (ai trivial ?_))
          obtain ⟨k, rfl⟩ : ∃ k2, k = k2 + 1 := ⟨k - 1, by omega⟩
          have hpp : pickF b k (randNext x) (u.set at_.toNat true) = usedOf b n := by
            rw [← hpo]; exact hp
          refine wk [(.t 0, .v (I b)), (.t 5, .v (.e (.c (.own 11 (([] : List Int)).length)))), (.t 6, .v (.e (.c (.own 25 b.toNat)))), (.t 7, .v (I (randNext x))), (.t 8, .v (I (k : Nat))), (.o 11, .row 3 1 (intRows ([]))), (.o 25, .row 4 1 (boolRows ((u.set at_.toNat true).take b.toNat)))] [] [] (⟨k * 1, by omega, randNext x, k, u.set at_.toNat true, rfl, ⟨huk.1, by rw [huk.2]; omega⟩, hpp, rfl⟩) ?_ rfl rfl
          repeat' first | exact trivial | refine mL_nil rfl ?_ | refine mL_d rfl ?_ ?_ | refine mL_own rfl rfl ?_ rfl ?_ | refine mL_row rfl ?_ ?_ | refine mL_pt rfl rfl rfl rfl ?_ | refine mL_box rfl ?_ ?_ | refine mL_agg rfl ?_ ?_ | exact mCs_nil0 | refine mCs_d ?_ ?_ | refine mCs_nil ?_ | refine mCs_own rfl ?_ rfl ?_ | refine mCs_pt rfl rfl rfl ?_
          all_goals first | with_reducible rfl | (first | with_reducible rfl | exact congrArg D.i (by rw [wrap64_of (by omega)]; omega) | (rw [List.take_set]; exact rows_setT (by omega)))
      · skip
        have hk1 : k = 0 := by simp at c34; omega
        subst hk1
        have hue : u = usedOf b n := hp
        have hul := hu.1
        have htl : (u.take b.toNat).length = b.toNat := by rw [List.length_take]; omega
        refine SW.exit ?_
        refine SW.seq ?_
        refine SW.seq ?_
        refine SW.regT tabOk [0, 5, 6, 10] ?_
        refine ai trivial ?_
        refine SW.block ?_
        -- live at the head: [0, 5, 6, 10]
        refine SW.loopW (n := b.toNat) (fun m s => ∃ i : Nat, m = b.toNat - i ∧ (i : Int) ≤ b ∧ s = [(.t 0, .v (I b)), (.t 5, .v (.e (.c (.own 11 (idxsTo u (i)).length)))), (.t 6, .v (.e (.c (.own 25 b.toNat)))), (.t 10, .v (I (i : Nat))), (.o 11, .row 3 1 (intRows (idxsTo u (i)))), (.o 25, .row 4 1 (boolRows (u.take b.toNat)))]) ?_ ?_
        · skip
          refine wk [(.t 0, .v (I b)), (.t 5, .v (.e (.c (.own 11 (idxsTo u (0)).length)))), (.t 6, .v (.e (.c (.own 25 b.toNat)))), (.t 10, .v (I (0 : Nat))), (.o 11, .row 3 1 (intRows (idxsTo u (0)))), (.o 25, .row 4 1 (boolRows (u.take b.toNat)))] [] [] (⟨0, rfl, by omega, rfl⟩) ?_ rfl rfl
          repeat' first | exact trivial | refine mL_nil rfl ?_ | refine mL_d rfl ?_ ?_ | refine mL_own rfl rfl ?_ rfl ?_ | refine mL_row rfl ?_ ?_ | refine mL_pt rfl rfl rfl rfl ?_ | refine mL_box rfl ?_ ?_ | refine mL_agg rfl ?_ ?_ | exact mCs_nil0 | refine mCs_d ?_ ?_ | refine mCs_nil ?_ | refine mCs_own rfl ?_ rfl ?_ | refine mCs_pt rfl rfl rfl ?_
          all_goals first | with_reducible rfl | (first | with_reducible rfl | rfl)
        rintro n s ⟨i, rfl, hi, rfl⟩
        refine SW.seq ?_
        refine SW.seq ?_
        refine SW.regT tabOk [0, 5, 6, 10, 56] ?_
        refine ai trivial (ai trivial (ai trivial ?_))
        refine SW.cond rfl (fun c56 => ?_) (fun c56 => ?_)
        · skip
          have hi2 : (i : Int) < b := by simpa using c56
          have hbo := boolRows_getD (l := u.take b.toNat) (i := i) (by omega)
          rw [getD_take (by omega)] at hbo
          refine SW.skip ?_
          refine SW.seq ?_
          refine SW.block ?_
          refine SW.seq ?_
          refine SW.regT tabOk [0, 5, 6, 10, 62] ?_
          refine ai trivial (ai trivial (ai (by exact ⟨by rw [boolRows_length]; exact htl, by omega, by omega⟩) (ai (by rw [Int.toNat_natCast]; rw [hbo]; exact ⟨⟨by rw [boolRows_length]; exact htl, by omega⟩, Nat.le_refl _, rfl⟩) ?_)))
          refine SW.cond rfl (fun c62 => ?_) (fun c62 => ?_)
          · skip
            have c52 : u.getD i false = true := by
              rw [Int.toNat_natCast, hbo] at c62; exact c62
            refine SW.regT tabOk [0, 5, 6, 10] ?_
            refine ai trivial (ai trivial (ai vc (ai (by refine ⟨rfl, intRows_length _, by simp, ?_⟩; have := idxsTo_length u i; show (_ + 1) * 8 ≤ _; omega) (ai trivial ?_))))
            refine SW.regT tabOk [0, 5, 6, 10] ?_
            refine ai trivial (ai trivial (ai trivial ?_))
            first
            | (have hx := idxsTo_yes c52
               refine wk [(.t 0, .v (I b)), (.t 5, .v (.e (.c (.own 11 (idxsTo u ((i + 1))).length)))), (.t 6, .v (.e (.c (.own 25 b.toNat)))), (.t 10, .v (I ((i + 1) : Nat))), (.o 11, .row 3 1 (intRows (idxsTo u ((i + 1))))), (.o 25, .row 4 1 (boolRows (u.take b.toNat)))] [] [] (⟨b.toNat - (i + 1), by omega, i + 1, rfl, by omega, rfl⟩) ?_ rfl rfl
               repeat' first | exact trivial | refine mL_nil rfl ?_ | refine mL_d rfl ?_ ?_ | refine mL_own rfl rfl ?_ rfl ?_ | refine mL_row rfl ?_ ?_ | refine mL_pt rfl rfl rfl rfl ?_ | refine mL_box rfl ?_ ?_ | refine mL_agg rfl ?_ ?_ | exact mCs_nil0 | refine mCs_d ?_ ?_ | refine mCs_nil ?_ | refine mCs_own rfl ?_ rfl ?_ | refine mCs_pt rfl rfl rfl ?_
               all_goals first | with_reducible rfl | (first | with_reducible rfl | exact congrArg D.i (by rw [wrap64_of (by omega)]; omega) | omega | (simp; done) | (rw [hx, List.length_append]; rfl) | (rw [hx]; exact intRows_push _ _) | (rw [hx]; simp [intRows, List.length_append]; done)); done)
            | (have hx := idxsTo_no c52
               refine wk [(.t 0, .v (I b)), (.t 5, .v (.e (.c (.own 11 (idxsTo u ((i + 1))).length)))), (.t 6, .v (.e (.c (.own 25 b.toNat)))), (.t 10, .v (I ((i + 1) : Nat))), (.o 11, .row 3 1 (intRows (idxsTo u ((i + 1))))), (.o 25, .row 4 1 (boolRows (u.take b.toNat)))] [] [] (⟨b.toNat - (i + 1), by omega, i + 1, rfl, by omega, rfl⟩) ?_ rfl rfl
               repeat' first | exact trivial | refine mL_nil rfl ?_ | refine mL_d rfl ?_ ?_ | refine mL_own rfl rfl ?_ rfl ?_ | refine mL_row rfl ?_ ?_ | refine mL_pt rfl rfl rfl rfl ?_ | refine mL_box rfl ?_ ?_ | refine mL_agg rfl ?_ ?_ | exact mCs_nil0 | refine mCs_d ?_ ?_ | refine mCs_nil ?_ | refine mCs_own rfl ?_ rfl ?_ | refine mCs_pt rfl rfl rfl ?_
               all_goals first | with_reducible rfl | (first | with_reducible rfl | exact congrArg D.i (by rw [wrap64_of (by omega)]; omega) | omega | (simp; done) | (rw [hx]; done)))
          · skip
            have c52 : u.getD i false = false := by
              rw [Int.toNat_natCast, hbo] at c62; exact c62
            refine SW.skip ?_
            refine SW.regT tabOk [0, 5, 6, 10] ?_
            refine ai trivial (ai trivial (ai trivial ?_))
            first
            | (have hx := idxsTo_yes c52
               refine wk [(.t 0, .v (I b)), (.t 5, .v (.e (.c (.own 11 (idxsTo u ((i + 1))).length)))), (.t 6, .v (.e (.c (.own 25 b.toNat)))), (.t 10, .v (I ((i + 1) : Nat))), (.o 11, .row 3 1 (intRows (idxsTo u ((i + 1))))), (.o 25, .row 4 1 (boolRows (u.take b.toNat)))] [] [] (⟨b.toNat - (i + 1), by omega, i + 1, rfl, by omega, rfl⟩) ?_ rfl rfl
               repeat' first | exact trivial | refine mL_nil rfl ?_ | refine mL_d rfl ?_ ?_ | refine mL_own rfl rfl ?_ rfl ?_ | refine mL_row rfl ?_ ?_ | refine mL_pt rfl rfl rfl rfl ?_ | refine mL_box rfl ?_ ?_ | refine mL_agg rfl ?_ ?_ | exact mCs_nil0 | refine mCs_d ?_ ?_ | refine mCs_nil ?_ | refine mCs_own rfl ?_ rfl ?_ | refine mCs_pt rfl rfl rfl ?_
               all_goals first | with_reducible rfl | (first | with_reducible rfl | exact congrArg D.i (by rw [wrap64_of (by omega)]; omega) | omega | (simp; done) | (rw [hx, List.length_append]; rfl) | (rw [hx]; exact intRows_push _ _) | (rw [hx]; simp [intRows, List.length_append]; done)); done)
            | (have hx := idxsTo_no c52
               refine wk [(.t 0, .v (I b)), (.t 5, .v (.e (.c (.own 11 (idxsTo u ((i + 1))).length)))), (.t 6, .v (.e (.c (.own 25 b.toNat)))), (.t 10, .v (I ((i + 1) : Nat))), (.o 11, .row 3 1 (intRows (idxsTo u ((i + 1))))), (.o 25, .row 4 1 (boolRows (u.take b.toNat)))] [] [] (⟨b.toNat - (i + 1), by omega, i + 1, rfl, by omega, rfl⟩) ?_ rfl rfl
               repeat' first | exact trivial | refine mL_nil rfl ?_ | refine mL_d rfl ?_ ?_ | refine mL_own rfl rfl ?_ rfl ?_ | refine mL_row rfl ?_ ?_ | refine mL_pt rfl rfl rfl rfl ?_ | refine mL_box rfl ?_ ?_ | refine mL_agg rfl ?_ ?_ | exact mCs_nil0 | refine mCs_d ?_ ?_ | refine mCs_nil ?_ | refine mCs_own rfl ?_ rfl ?_ | refine mCs_pt rfl rfl rfl ?_
               all_goals first | with_reducible rfl | (first | with_reducible rfl | exact congrArg D.i (by rw [wrap64_of (by omega)]; omega) | omega | (simp; done) | (rw [hx]; done)))
        · skip
          have hi3 : i = b.toNat := by simp at c56; omega
          subst hi3
          refine SW.exit ?_
          refine SW.seq ?_
          refine SW.regT tabOk [4] ?_
          refine ai trivial (ai trivial ?_)
          refine SW.ret ?_
          refine retOk _ [] [11] rfl (mL_froze rfl rfl rfl ?_ (congrArg D.sl ?_) trivial) rfl rfl
          · exact intRows_length _
          · rw [mixOf_big hok hs, ← hue, ← idxsTo_all, idxsTo_more (i := b.toNat) (fun j hj => hu.2 j (by omega)) (by omega)]

end Go.Proofs.YtilahgkblckndaaGreatDoor

namespace Go.Ab
open Go Go.RowKit
set_option linter.unusedVariables false
set_option linter.unusedSimpArgs false

def blkTo (t : List UInt8) (i c : Nat) : List UInt8 := (List.range c).map fun j => t.getD (4 * i + j) 0
def cutTo (t : List UInt8) (k : Nat) : List (List UInt8) := (List.range k).map fun i => blkTo t i 4
def xorTo (a b : List UInt8) (k : Nat) : List UInt8 := (List.range k).map fun i => u8 (xor8 (byteI a i) (byteI b i))
theorem blkTo_succ (t : List UInt8) (i c : Nat) : blkTo t i (c + 1) = blkTo t i c ++ [t.getD (4 * i + c) 0] := by
  unfold blkTo; rw [List.range_succ, List.map_append]; rfl
theorem cutTo_succ (t : List UInt8) (k : Nat) : cutTo t (k + 1) = cutTo t k ++ [blkTo t k 4] := by
  unfold cutTo; rw [List.range_succ, List.map_append]; rfl
theorem xorTo_succ (a b : List UInt8) (k : Nat) : xorTo a b (k + 1) = xorTo a b k ++ [u8 (xor8 (byteI a k) (byteI b k))] := by
  unfold xorTo; rw [List.range_succ, List.map_append]; rfl
theorem blkTo_length (t : List UInt8) (i c : Nat) : (blkTo t i c).length = c := by simp [blkTo]
theorem cutTo_length (t : List UInt8) (k : Nat) : (cutTo t k).length = k := by simp [cutTo]
theorem xorTo_length (a b : List UInt8) (k : Nat) : (xorTo a b k).length = k := by simp [xorTo]
theorem mixCut_yes {t : List UInt8} (h : inB t.length 1 24 = true) : mixCut t = cutTo t ((t.length + 3) / 4) := if_pos h
theorem mixCut_no {t : List UInt8} (h : ¬ inB t.length 1 24 = true) : mixCut t = [] := if_neg h
theorem mixCut_len {t : List UInt8} : (mixCut t).length ≤ 6 ∧ ∀ x ∈ mixCut t, x.length = 4 := by
  by_cases h : inB t.length 1 24 = true
  · rw [mixCut_yes h]
    refine ⟨?_, fun x hx => ?_⟩
    · rw [cutTo_length]
      have h1 : (1 : Int) ≤ t.length ∧ (t.length : Int) ≤ 24 := by simpa [inB] using h
      omega
    · obtain ⟨i, _, rfl⟩ := List.mem_map.1 hx
      exact blkTo_length t i 4
  · rw [mixCut_no h]; exact ⟨by simp, fun x hx => by cases hx⟩
theorem blk_copy (t : List UInt8) (i : Nat) : ((t.drop (4 * i)).take (min (t.drop (4 * i)).length 4)) ++ (List.replicate 4 0).drop (min (t.drop (4 * i)).length 4) = blkTo t i 4 := by
  apply List.ext_getElem?
  intro j
  unfold blkTo
  rw [List.getElem?_map]
  by_cases hj : j < 4
  · rw [List.getElem?_range hj]
    by_cases h1 : j < (t.drop (4 * i)).length
    · rw [List.getElem?_append_left (by rw [List.length_take]; omega), List.getElem?_take, if_pos (by omega), List.getElem?_drop]
      rw [List.length_drop] at h1
      simp [show 4 * i + j < t.length by omega]
    · rw [List.getElem?_append_right (by rw [List.length_take]; omega), List.getElem?_drop, List.length_take]
      rw [List.getElem?_replicate, if_pos (by omega)]
      rw [List.length_drop] at h1
      simp [show t.length ≤ 4 * i + j by omega]
  · rw [List.getElem?_eq_none (by simp; omega)]
    simp [hj]
theorem blk_rows (t : List UInt8) (i : Nat) : ((bytesRows (t.drop (4 * i))).take (min (bytesRows (t.drop (4 * i))).length 4)) ++ (List.replicate 4 [D.u 0]).drop (min (bytesRows (t.drop (4 * i))).length 4) = bytesRows (blkTo t i 4) := by
  rw [← blk_copy, bytesRows_length, repB]
  simp only [bytesRows, List.map_append, List.map_take, List.map_drop]
theorem blk_rows2 (t : List UInt8) (i : Nat) : List.take (min (List.map (fun b : UInt8 => [D.u (b.toNat : Int)]) (List.drop (loOf (some ((4 * i : Nat) : Int))) (List.take (hiOf none t.length) t))).length (Int.toNat 4)) (List.map (fun b : UInt8 => [D.u (b.toNat : Int)]) (List.drop (loOf (some ((4 * i : Nat) : Int))) (List.take (hiOf none t.length) t))) ++ List.drop (min (List.map (fun b : UInt8 => [D.u (b.toNat : Int)]) (List.drop (loOf (some ((4 * i : Nat) : Int))) (List.take (hiOf none t.length) t))).length (Int.toNat 4)) (List.replicate (Int.toNat 4) [D.u 0]) = bytesRows (blkTo t i 4) := by
  have e : List.drop (loOf (some ((4 * i : Nat) : Int))) (List.take (hiOf none t.length) t) = t.drop (4 * i) := by
    show List.drop (Int.toNat ((4 * i : Nat) : Int)) (List.take t.length t) = _
    rw [Int.toNat_natCast, List.take_length]
  rw [e]
  exact blk_rows t i
theorem xor8_zero {n : Int} (h : 0 ≤ n ∧ n < 256) : xor8 0 n = n := by
  rw [xor8_nat (by omega) h]
  simp; omega
theorem u8_byteI (b : List UInt8) (i : Nat) : u8 (byteI b i) = b.getD i 0 := by
  have h := byteI_range b i
  apply UInt8.toNat_inj.1
  have h1 := u8_toNat (byteI b i)
  unfold wrap8 at h1
  rw [Int.emod_eq_of_lt h.1 h.2] at h1
  have h2 : byteI b i = ((b.getD i 0).toNat : Int) := rfl
  omega
theorem xorL_zero {b : List UInt8} (h : b.length = 4) : xorL [0, 0, 0, 0] b = b := by
  apply List.ext_getElem?
  intro i
  unfold xorL
  rw [List.getElem?_map]
  by_cases hi : i < 4
  · rw [List.getElem?_range hi]
    have e : byteI [0, 0, 0, 0] i = 0 := by
      have : i = 0 ∨ i = 1 ∨ i = 2 ∨ i = 3 := by omega
      rcases this with rfl | rfl | rfl | rfl <;> rfl
    simp only [Option.map_some]
    rw [e, xor8_zero (byteI_range b i), u8_byteI, List.getD_eq_getElem?_getD, List.getElem?_eq_getElem (by omega)]
    rfl
  · rw [List.getElem?_eq_none (by simp; omega), List.getElem?_eq_none (by omega)]; rfl
theorem xorL_length (a b : List UInt8) : (xorL a b).length = 4 := by simp [xorL]
theorem mixGo_snoc (bl : List (List UInt8)) : ∀ (x : List UInt8) (l : List Int) (k : Int), mixGo bl x (l ++ [k]) = xorL (mixGo bl x l) (bl.getD k.toNat [])
  | x, [], k => rfl
  | x, j :: l, k => mixGo_snoc bl _ l k
def mixAt (bl : List (List UInt8)) (ks : List Int) (i : Nat) : List UInt8 := if i = 0 then [] else mixGo bl [0, 0, 0, 0] (ks.take i)
theorem mixGo_take {bl : List (List UInt8)} {ks : List Int} {i : Nat} (h : i < ks.length) {x : List UInt8} : mixGo bl x (ks.take (i + 1)) = xorL (mixGo bl x (ks.take i)) (bl.getD (ks.getD i 0).toNat []) := by
  rw [take_succ (z := 0) h, mixGo_snoc]
theorem mixAt_first {bl : List (List UInt8)} {ks : List Int} (h : 0 < ks.length) (hb : (bl.getD (ks.getD 0 0).toNat []).length = 4) : mixAt bl ks 1 = bl.getD (ks.getD 0 0).toNat [] := by
  have h1 : mixAt bl ks 1 = mixGo bl [0, 0, 0, 0] (ks.take (0 + 1)) := rfl
  rw [h1, mixGo_take h]
  exact xorL_zero hb
theorem mixAt_next {bl : List (List UInt8)} {ks : List Int} {i : Nat} (h0 : i ≠ 0) (h : i < ks.length) : mixAt bl ks (i + 1) = xorL (mixAt bl ks i) (bl.getD (ks.getD i 0).toNat []) := by
  have h1 : mixAt bl ks (i + 1) = mixGo bl [0, 0, 0, 0] (ks.take (i + 1)) := rfl
  rw [h1, mixGo_take h, mixAt, if_neg h0]
theorem mixGo_length {bl : List (List UInt8)} {ks : List Int} : ∀ {x : List UInt8}, x.length = 4 → (mixGo bl x ks).length = 4 := by
  induction ks with
  | nil => intro x h; exact h
  | cons k ks ih => intro x h; exact ih (xorL_length _ _)
theorem mixAt_length {bl : List (List UInt8)} {ks : List Int} {i : Nat} (h : i ≠ 0) : (mixAt bl ks i).length = 4 := by
  rw [mixAt, if_neg h]; exact mixGo_length rfl
theorem mixMake_none {t : List UInt8} {n : Int} (h : mixCut t = [] ∨ mixOf (mixCut t).length n = []) : mixMake t n = [] := if_pos h
theorem mixMake_some {t : List UInt8} {n : Int} (h : ¬ (mixCut t = [] ∨ mixOf (mixCut t).length n = [])) : mixMake t n = mixGo (mixCut t) [0, 0, 0, 0] (mixOf (mixCut t).length n) := if_neg h
theorem mixOf_zero (n : Int) : mixOf ((([] : List (List UInt8)).length : Nat) : Int) n = [] := mixOf_none (by simp [l1Ok, inB])
theorem mixMake_at {t : List UInt8} {n : Int} : mixMake t n = mixAt (mixCut t) (mixOf (mixCut t).length n) (mixOf (mixCut t).length n).length := by
  by_cases h : mixOf (mixCut t).length n = []
  · rw [mixMake_none (.inr h), h]; rfl
  · have h2 : ¬ mixCut t = [] := fun e => h (by rw [e]; exact mixOf_zero n)
    rw [mixMake_some (by rintro (h3 | h3); exact h2 h3; exact h h3), mixAt, if_neg (by rw [List.length_eq_zero_iff]; exact h), List.take_length]
theorem mix_at {t : List UInt8} {n : Int} {i : Nat} (h : i < (mixOf (mixCut t).length n).length) : 0 ≤ (mixOf (mixCut t).length n).getD i 0 ∧ (mixOf (mixCut t).length n).getD i 0 < (mixCut t).length ∧ ((mixCut t).getD ((mixOf (mixCut t).length n).getD i 0).toNat []).length = 4 := by
  have h1 := mixOf_range (b := (mixCut t).length) (n := n) ((mixOf (mixCut t).length n).getD i 0) (by rw [List.getD_eq_getElem?_getD, List.getElem?_eq_getElem h]; exact List.getElem_mem _)
  refine ⟨h1.1, h1.2, (mixCut_len (t := t)).2 _ ?_⟩
  rw [List.getD_eq_getElem?_getD, List.getElem?_eq_getElem (by omega)]; exact List.getElem_mem _
theorem getD_none {α : Type} {l : List α} {i : Nat} {z : α} (h : l.length ≤ i) : l.getD i z = z := by
  rw [List.getD_eq_getElem?_getD, List.getElem?_eq_none h]; rfl
theorem xor_get {a c : List UInt8} {i : Nat} (h : i < a.length) : (xorTo a c i ++ a.drop i).getD i 0 = a.getD i 0 := by
  rw [List.getD_eq_getElem?_getD, List.getElem?_append_right (by rw [xorTo_length]; omega), xorTo_length, List.getElem?_drop, show i + (i - i) = i by omega, List.getD_eq_getElem?_getD]
theorem xor_set {a c : List UInt8} {i : Nat} (h : i < a.length) : (bytesRows (xorTo a c i ++ a.drop i)).set i (setSeg [D.u ((a.getD i 0).toNat : Int)] 0 [D.u (xor8 (toU (([D.u ((a.getD i 0).toNat : Int)] : List D).getD 0 (.i 0))) ((c.getD i 0).toNat : Int))]) = bytesRows (xorTo a c (i + 1) ++ a.drop (i + 1)) := by
  show (bytesRows (xorTo a c i ++ a.drop i)).set i [D.u (xor8 ((a.getD i 0).toNat : Int) ((c.getD i 0).toNat : Int))] = _
  have hx : ([D.u (xor8 ((a.getD i 0).toNat : Int) ((c.getD i 0).toNat : Int))] : List D) = [D.u ((u8 (xor8 (byteI a i) (byteI c i))).toNat : Int)] := by
    rw [u8_toNat, ← xor8_range]; rfl
  rw [hx, bytesRows, ← List.map_set (f := fun b : UInt8 => [D.u (b.toNat : Int)])]
  congr 1
  rw [xorTo_succ, List.append_assoc]
  apply List.ext_getElem?
  intro j
  have hlen : (xorTo a c i).length = i := xorTo_length a c i
  by_cases h1 : j < i
  · rw [List.getElem?_set_ne (by omega), List.getElem?_append_left (by omega), List.getElem?_append_left (by omega)]
  · by_cases h2 : j = i
    · subst h2
      rw [List.getElem?_set_self (by rw [List.length_append, hlen, List.length_drop]; omega), List.getElem?_append_right (by omega), hlen, Nat.sub_self]; rfl
    · rw [List.getElem?_set_ne (by omega), List.getElem?_append_right (by omega), List.getElem?_append_right (by omega), hlen, List.getElem?_append_right (by simp; omega), List.getElem?_drop, List.getElem?_drop]
      congr 1
      simp; omega
end Go.Ab

namespace Go.Proofs.YtilahgkblckndaaGreatDoor
open Go Go.Ab Go.RowKit
set_option linter.unusedVariables false
set_option linter.unusedSimpArgs false

theorem s_spec_l2None  : Ab.Spec Tryz.prog 102 0 [] [(.t 0, .v (Dv (.s [0, 0, 0, 0])))] := by
  refine spec_of_body tabOk Tryz.func102 rfl (by kernel_rfl) (by decide) (by kernel_rfl) rfl ?_
  refine SW.seq ?_
  refine SW.regT tabOk [] ?_
  refine ai trivial ?_
  refine SW.seq ?_
  refine SW.regT tabOk [0] ?_
  refine ai (by exact ⟨rfl, by decide, by decide⟩) (ai (by exact ⟨rfl, rfl⟩) (ai trivial ?_))
  refine SW.ret ?_
  refine retOk1 rfl (congrArg D.s ?_)
  rfl

theorem s_spec_l2Xor (a c : List UInt8) (ha : a.length = 4) (hc : c.length = 4) : Ab.Spec Tryz.prog 103 2 [(.t 0, .v (Dv (.s a))), (.t 1, .v (Dv (.s c)))] [(.t 0, .v (Dv (.s (xorL a c))))] := by
  refine spec_of_body tabOk Tryz.func103 rfl (by kernel_rfl) (by decide) (by kernel_rfl) rfl ?_
  refine SW.seq ?_
  refine SW.regT tabOk [0, 1] ?_
  refine ai trivial ?_
  refine SW.seq ?_
  refine SW.regT tabOk [0, 1, 5] ?_
  refine ai vc (ai trivial ?_)
  refine SW.seq ?_
  refine SW.seq ?_
  refine SW.regT tabOk [0, 1, 5, 6] ?_
  refine ai trivial ?_
  refine SW.block ?_
  -- live at the head: [0, 1, 5, 6]
  refine SW.loopW (n := 4) (fun m s => ∃ i : Nat, m = 4 - i ∧ i ≤ 4 ∧ s = [(.t 0, .v (Dv (.s a))), (.t 1, .v (Dv (.s c))), (.t 5, .v (.e (.c (.own 7 (xorTo a c (i)).length)))), (.t 6, .v (I (i : Nat))), (.o 7, .row 5 1 (bytesRows (xorTo a c (i))))]) ?_ ?_
  · skip
    refine wk [(.t 0, .v (Dv (.s a))), (.t 1, .v (Dv (.s c))), (.t 5, .v (.e (.c (.own 7 (xorTo a c (0)).length)))), (.t 6, .v (I (0 : Nat))), (.o 7, .row 5 1 (bytesRows (xorTo a c (0))))] [] [] (⟨0, rfl, by omega, rfl⟩) ?_ rfl rfl
    repeat' first | exact trivial | refine mL_nil rfl ?_ | refine mL_d rfl ?_ ?_ | refine mL_own rfl rfl ?_ rfl ?_ | refine mL_row rfl ?_ ?_ | refine mL_pt rfl rfl rfl rfl ?_ | refine mL_box rfl ?_ ?_ | refine mL_agg rfl ?_ ?_ | exact mCs_nil0 | refine mCs_d ?_ ?_ | refine mCs_nil ?_ | refine mCs_own rfl ?_ rfl ?_ | refine mCs_pt rfl rfl rfl ?_
    all_goals first | with_reducible rfl | (first | with_reducible rfl | rfl)
  rintro n s ⟨i, rfl, hi, rfl⟩
  refine SW.seq ?_
  refine SW.seq ?_
  refine SW.regT tabOk [0, 1, 5, 6, 9] ?_
  refine ai trivial (ai trivial ?_)
  refine SW.cond rfl (fun c9 => ?_) (fun c9 => ?_)
  · skip
    have hi2 : i < 4 := by simp at c9; omega
    refine SW.skip ?_
    refine SW.seq ?_
    refine SW.block ?_
    refine SW.regD tabOk mo [0, 1, 5, 6] ?_
    refine ai trivial (ai trivial (ai trivial (ai (by omega) (ai trivial (ai trivial (ai (by omega) (ai trivial (ai vc (ai (by refine ⟨rfl, bytesRows_length _, by simp, ?_⟩; rw [xorTo_length]; show (_ + 1) * 1 ≤ _; omega) (ai trivial (ai (by kernel_rfl) ?_)))))))))))
    refine SW.regT tabOk [0, 1, 5, 6] ?_
    refine ai trivial (ai trivial (ai trivial ?_))
    have hx := xorTo_succ a c i
    refine wk [(.t 0, .v (Dv (.s a))), (.t 1, .v (Dv (.s c))), (.t 5, .v (.e (.c (.own 7 (xorTo a c ((i + 1))).length)))), (.t 6, .v (I ((i + 1) : Nat))), (.o 7, .row 5 1 (bytesRows (xorTo a c ((i + 1)))))] [] [] (⟨4 - (i + 1), by omega, i + 1, rfl, by omega, rfl⟩) ?_ rfl rfl
    repeat' first | exact trivial | refine mL_nil rfl ?_ | refine mL_d rfl ?_ ?_ | refine mL_own rfl rfl ?_ rfl ?_ | refine mL_row rfl ?_ ?_ | refine mL_pt rfl rfl rfl rfl ?_ | refine mL_box rfl ?_ ?_ | refine mL_agg rfl ?_ ?_ | exact mCs_nil0 | refine mCs_d ?_ ?_ | refine mCs_nil ?_ | refine mCs_own rfl ?_ rfl ?_ | refine mCs_pt rfl rfl rfl ?_
    all_goals first | with_reducible rfl | (first | with_reducible rfl | (rw [hx, List.length_append]; rfl) | (rw [hx, Int.toNat_natCast]; exact xor8_push _ _ _) | (simp [bytesRows_length, xorTo_length]; done) | exact congrArg D.i (by rw [wrap64_of (by omega)]; omega) | omega | (simp; done))
  · skip
    have hi2 : i = 4 := by simp at c9; omega
    subst hi2
    refine SW.exit ?_
    refine SW.seq ?_
    refine SW.regT tabOk [4] ?_
    refine ai trivial (ai (by exact ⟨bytesRows_length _, (congrArg bytesRows (rowsBytes_bytesRows _)).symm⟩) (ai trivial ?_))
    refine SW.ret ?_
    refine retOk1 rfl (congrArg D.s ?_)
    exact rowsBytes_bytesRows _

theorem s_impl_xored (a c : List UInt8) (ha : a.length = 4) (hc : c.length = 4) : Ab.Spec Tryz.prog 111 2 [(.t 0, .v (Dv (.s a))), (.t 1, .v (Dv (.s c)))] [(.t 0, .v (Dv (.s (xorL a c))))] := by
  refine spec_of_body tabOk Tryz.func111 rfl (by kernel_rfl) (by decide) (by kernel_rfl) rfl ?_
  refine SW.seq ?_
  refine SW.regT tabOk [0, 1] ?_
  refine ai trivial ?_
  refine SW.seq ?_
  refine SW.regT tabOk [1, 5] ?_
  refine ai trivial (ai (by omega) (ai trivial ?_))
  refine SW.seq ?_
  refine SW.seq ?_
  refine SW.regT tabOk [1, 5, 10, 11] ?_
  refine ai trivial (ai (by exact bytesRows_length _) (ai trivial ?_))
  refine SW.block ?_
  -- live at the head: [1, 5, 10, 11]
  refine SW.loopW (n := 4) (fun m s => ∃ i : Nat, m = 4 - i ∧ i ≤ 4 ∧ s = [(.t 1, .v (Dv (.s c))), (.t 5, .v (.e (.c (.own 8 4)))), (.t 10, .v (I (4 : Nat))), (.t 11, .v (I (i : Nat))), (.o 8, .row 5 1 (bytesRows (xorTo a c (i) ++ a.drop (i))))]) ?_ ?_
  · skip
    refine wk [(.t 1, .v (Dv (.s c))), (.t 5, .v (.e (.c (.own 8 4)))), (.t 10, .v (I (4 : Nat))), (.t 11, .v (I (0 : Nat))), (.o 8, .row 5 1 (bytesRows (xorTo a c (0) ++ a.drop (0))))] [] [] (⟨0, rfl, by omega, rfl⟩) ?_ rfl rfl
    repeat' first | exact trivial | refine mL_nil rfl ?_ | refine mL_d rfl ?_ ?_ | refine mL_own rfl rfl ?_ rfl ?_ | refine mL_row rfl ?_ ?_ | refine mL_pt rfl rfl rfl rfl ?_ | refine mL_box rfl ?_ ?_ | refine mL_agg rfl ?_ ?_ | exact mCs_nil0 | refine mCs_d ?_ ?_ | refine mCs_nil ?_ | refine mCs_own rfl ?_ rfl ?_ | refine mCs_pt rfl rfl rfl ?_
    all_goals first | with_reducible rfl | (first | with_reducible rfl | rfl | (rw [ha]; done) | (exact congrArg D.i (by omega)) | omega)
  rintro n s ⟨i, rfl, hi, rfl⟩
  refine SW.seq ?_
  refine SW.regT tabOk [1, 5, 10, 11, 12] ?_
  refine ai trivial ?_
  refine SW.seq ?_
  refine SW.cond rfl (fun c12 => ?_) (fun c12 => ?_)
  · skip
    have hi2 : i < 4 := by simp at c12; omega
    have hlx : (xorTo a c (i) ++ a.drop (i)).length = 4 := by rw [List.length_append, xorTo_length, List.length_drop]; omega
    have hgx := bytesRows_getD (l := (xorTo a c (i) ++ a.drop (i))) (i := i) (by omega)
    rw [xor_get (by omega)] at hgx
    refine SW.skip ?_
    refine SW.seq ?_
    refine SW.block ?_
    refine SW.seq ?_
    refine SW.regT tabOk [1, 5, 6, 10, 11] ?_
    refine ai trivial (ai trivial ?_)
    refine SW.regD tabOk mo [1, 5, 10, 11] ?_
    refine ai trivial (ai trivial (ai (by exact ⟨by rw [bytesRows_length]; exact hlx, by omega, by omega⟩) (ai (by rw [Int.toNat_natCast, hgx]; exact ⟨⟨by rw [bytesRows_length]; exact hlx, by omega⟩, Nat.le_refl _, rfl⟩) (ai trivial (ai trivial (ai (by omega) (ai trivial (ai (by exact ⟨by rw [bytesRows_length]; exact hlx, by omega, by omega⟩) (ai (by rw [Int.toNat_natCast, hgx]; exact ⟨by rw [bytesRows_length]; exact hlx, by omega, rfl, Nat.le_refl _⟩) (ai (by kernel_rfl) ?_))))))))))
    refine SW.regT tabOk [1, 5, 10, 11] ?_
    refine ai trivial (ai trivial ?_)
    refine wk [(.t 1, .v (Dv (.s c))), (.t 5, .v (.e (.c (.own 8 4)))), (.t 10, .v (I (4 : Nat))), (.t 11, .v (I ((i + 1) : Nat))), (.o 8, .row 5 1 (bytesRows (xorTo a c ((i + 1)) ++ a.drop ((i + 1)))))] [] [] (⟨4 - (i + 1), by omega, i + 1, rfl, by omega, rfl⟩) ?_ rfl rfl
    repeat' first | exact trivial | refine mL_nil rfl ?_ | refine mL_d rfl ?_ ?_ | refine mL_own rfl rfl ?_ rfl ?_ | refine mL_row rfl ?_ ?_ | refine mL_pt rfl rfl rfl rfl ?_ | refine mL_box rfl ?_ ?_ | refine mL_agg rfl ?_ ?_ | exact mCs_nil0 | refine mCs_d ?_ ?_ | refine mCs_nil ?_ | refine mCs_own rfl ?_ rfl ?_ | refine mCs_pt rfl rfl rfl ?_
    all_goals first | with_reducible rfl | (first | with_reducible rfl | (rw [Int.toNat_natCast, hgx]; exact xor_set (by omega)) | exact congrArg D.i (by rw [wrap64_of (by omega)]; omega) | omega | (simp; done))
  · skip
    have hi2 : i = 4 := by simp at c12; omega
    subst hi2
    refine SW.exit ?_
    refine SW.seq ?_
    refine SW.regT tabOk [4] ?_
    refine ai trivial (ai (by exact ⟨by rw [bytesRows_length, List.length_append, xorTo_length, List.length_drop]; omega, (congrArg bytesRows (rowsBytes_bytesRows _)).symm⟩) (ai trivial ?_))
    refine SW.ret ?_
    refine retOk1 rfl (congrArg D.s ?_)
    rw [rowsBytes_bytesRows, List.drop_of_length_le (by omega), List.append_nil]; rfl

set_option maxHeartbeats 800000 in
theorem s_spec_MixCut (l : List UInt8) (hl : l.length ≤ 140737488355328) : Ab.Spec Tryz.prog 100 1 [(.t 0, .v (Dv (.s l)))] [(.t 0, .v (Dv (.sl (strRows (mixCut l)))))] := by
  refine spec_of_body tabOk Tryz.func100 rfl (by kernel_rfl) (by decide) (by kernel_rfl) rfl ?_
  refine SW.seq ?_
  refine SW.regT tabOk [0, 12, 13, 14] ?_
  refine ai trivial ?_
  refine SW.seq ?_
  refine SW.regT tabOk [0, 3, 12, 13, 14] ?_
  refine ai vc (ai trivial ?_)
  refine SW.seq ?_
  refine SW.seq ?_
  refine SW.regT tabOk [0, 3, 15] ?_
  refine ai trivial (ai vc (ai trivial (ai trivial (ai (fun h => trivial) (ai rk (ai (fun h => vc) (ai rk (ai (fun h => trivial) (ai rk (ai pk ?_))))))))))
  refine SW.cond rfl (fun c15 => ?_) (fun c15 => ?_)
  · skip
    have hin : ¬ inB l.length 1 24 = true := by
      have h1 : (l.length : Int) < 1 ∨ (l.length : Int) > 24 := by simpa only [Bool.or_eq_true, decide_eq_true_eq] using c15
      simp [inB]; omega
    refine SW.seq ?_
    refine SW.regT tabOk [2] ?_
    refine ai trivial (ai trivial ?_)
    refine SW.ret ?_
    refine retOk _ [] [7] rfl (mL_froze rfl rfl rfl ?_ (congrArg D.sl ?_) trivial) rfl rfl
    · rfl
    · rw [mixCut_no hin]; rfl
  · skip
    have hl2 : 1 ≤ l.length ∧ l.length ≤ 24 := by
      have h1 : ¬ (l.length : Int) < 1 ∧ ¬ (l.length : Int) > 24 := by simpa only [Bool.or_eq_false_iff, decide_eq_false_iff_not] using c15
      omega
    have hin : inB l.length 1 24 = true := by simp [inB]; omega
    refine SW.skip ?_
    refine SW.seq ?_
    refine SW.seq ?_
    refine SW.regT tabOk [0, 3, 4] ?_
    refine ai trivial ?_
    refine SW.block ?_
    -- live at the head: [0, 3, 4]
    refine SW.loopW (n := ((l.length + 3) / 4)) (fun m s => ∃ i : Nat, m = ((l.length + 3) / 4) - i ∧ i ≤ ((l.length + 3) / 4) ∧ s = [(.t 0, .v (Dv (.s l))), (.t 3, .v (.e (.c (.own 7 (cutTo l (i)).length)))), (.t 4, .v (I (i : Nat))), (.o 7, .row 9 1 (strRows (cutTo l (i))))]) ?_ ?_
    · skip
      refine wk [(.t 0, .v (Dv (.s l))), (.t 3, .v (.e (.c (.own 7 (cutTo l (0)).length)))), (.t 4, .v (I (0 : Nat))), (.o 7, .row 9 1 (strRows (cutTo l (0))))] [] [] (⟨0, rfl, Nat.zero_le _, rfl⟩) ?_ rfl rfl
      repeat' first | exact trivial | refine mL_nil rfl ?_ | refine mL_d rfl ?_ ?_ | refine mL_own rfl rfl ?_ rfl ?_ | refine mL_row rfl ?_ ?_ | refine mL_pt rfl rfl rfl rfl ?_ | refine mL_box rfl ?_ ?_ | refine mL_agg rfl ?_ ?_ | exact mCs_nil0 | refine mCs_d ?_ ?_ | refine mCs_nil ?_ | refine mCs_own rfl ?_ rfl ?_ | refine mCs_pt rfl rfl rfl ?_
      all_goals first | with_reducible rfl | (first | with_reducible rfl | rfl)
    rintro n s ⟨i, rfl, hi, rfl⟩
    refine SW.seq ?_
    refine SW.seq ?_
    refine SW.regT tabOk [0, 3, 4, 21] ?_
    refine ai trivial (ai trivial (ai vc ?_))
    refine ex_pure (s_spec_l2Blocks _ (by omega)) rfl rfl rfl rfl rfl rfl rfl rfl ?_
    refine ai trivial ?_
    refine SW.cond rfl (fun c21 => ?_) (fun c21 => ?_)
    · skip
      have hi2 : i < ((l.length + 3) / 4) := by simp at c21; omega
      refine SW.skip ?_
      refine SW.seq ?_
      refine SW.block ?_
      refine SW.seq ?_
      refine SW.regT tabOk [0, 3, 4, 5] ?_
      refine ai vc (ai trivial ?_)
      refine SW.seq ?_
      refine SW.seq ?_
      refine SW.regT tabOk [0, 3, 4, 5, 6] ?_
      refine ai trivial (ai trivial (ai trivial ?_))
      refine SW.block ?_
      -- live at the head: [0, 3, 4, 5, 6]
      refine SW.loopW (n := 4) (fun m s => ∃ c : Nat, m = 4 - c ∧ c ≤ 4 ∧ s = [(.t 0, .v (Dv (.s l))), (.t 3, .v (.e (.c (.own 7 (cutTo l i).length)))), (.t 4, .v (I (i : Nat))), (.t 5, .v (.e (.c (.own 24 (blkTo l i (c)).length)))), (.t 6, .v (I (4 * i + c : Nat))), (.o 7, .row 9 1 (strRows (cutTo l i))), (.o 24, .row 5 1 (bytesRows (blkTo l i (c))))]) ?_ ?_
      · skip
        refine wk [(.t 0, .v (Dv (.s l))), (.t 3, .v (.e (.c (.own 7 (cutTo l i).length)))), (.t 4, .v (I (i : Nat))), (.t 5, .v (.e (.c (.own 24 (blkTo l i (0)).length)))), (.t 6, .v (I (4 * i + 0 : Nat))), (.o 7, .row 9 1 (strRows (cutTo l i))), (.o 24, .row 5 1 (bytesRows (blkTo l i (0))))] [] [] (⟨0, rfl, Nat.zero_le _, rfl⟩) ?_ rfl rfl
        repeat' first | exact trivial | refine mL_nil rfl ?_ | refine mL_d rfl ?_ ?_ | refine mL_own rfl rfl ?_ rfl ?_ | refine mL_row rfl ?_ ?_ | refine mL_pt rfl rfl rfl rfl ?_ | refine mL_box rfl ?_ ?_ | refine mL_agg rfl ?_ ?_ | exact mCs_nil0 | refine mCs_d ?_ ?_ | refine mCs_nil ?_ | refine mCs_own rfl ?_ rfl ?_ | refine mCs_pt rfl rfl rfl ?_
        all_goals first | with_reducible rfl | (first | with_reducible rfl | rfl | exact congrArg D.i (by rw [wrap64_of (by omega)]; omega))
      rintro n s ⟨c, rfl, hc, rfl⟩
      refine SW.seq ?_
      refine SW.seq ?_
      refine SW.regT tabOk [0, 3, 4, 5, 6, 31] ?_
      refine ai trivial (ai trivial (ai trivial (ai trivial (ai trivial ?_))))
      refine SW.cond rfl (fun c31 => ?_) (fun c31 => ?_)
      · skip
        have hc2 : c < 4 := by
          have h := c31
          rw [wrap64_of (n := (i : Int) + 1) (by omega), wrap64_of (by omega)] at h
          simp at h; omega
        refine SW.skip ?_
        refine SW.seq ?_
        refine SW.block ?_
        refine SW.seq ?_
        refine SW.regT tabOk [0, 3, 4, 5, 6, 37] ?_
        refine ai trivial (ai trivial (ai vc (ai trivial ?_)))
        refine SW.cond rfl (fun c37 => ?_) (fun c37 => ?_)
        · skip
          have hk3 : 4 * i + c < l.length := by simp at c37; omega
          refine SW.regT tabOk [0, 3, 4, 5, 6] ?_
          refine ai trivial (ai trivial (ai trivial (ai (by omega) (ai vc (ai (by refine ⟨rfl, bytesRows_length _, by simp, ?_⟩; rw [blkTo_length]; show (_ + 1) * 1 ≤ _; omega) (ai trivial ?_))))))
          refine SW.regT tabOk [0, 3, 4, 5, 6] ?_
          refine ai trivial (ai trivial (ai trivial ?_))
          first
          | (have hk4 : 4 * i + c < l.length := hk3
             have hbs := blkTo_succ l i c
             refine wk [(.t 0, .v (Dv (.s l))), (.t 3, .v (.e (.c (.own 7 (cutTo l i).length)))), (.t 4, .v (I (i : Nat))), (.t 5, .v (.e (.c (.own 24 (blkTo l i ((c + 1))).length)))), (.t 6, .v (I (4 * i + (c + 1) : Nat))), (.o 7, .row 9 1 (strRows (cutTo l i))), (.o 24, .row 5 1 (bytesRows (blkTo l i ((c + 1)))))] [] [] (⟨4 - (c + 1), by omega, c + 1, rfl, by omega, rfl⟩) ?_ rfl rfl
             repeat' first | exact trivial | refine mL_nil rfl ?_ | refine mL_d rfl ?_ ?_ | refine mL_own rfl rfl ?_ rfl ?_ | refine mL_row rfl ?_ ?_ | refine mL_pt rfl rfl rfl rfl ?_ | refine mL_box rfl ?_ ?_ | refine mL_agg rfl ?_ ?_ | exact mCs_nil0 | refine mCs_d ?_ ?_ | refine mCs_nil ?_ | refine mCs_own rfl ?_ rfl ?_ | refine mCs_pt rfl rfl rfl ?_
             all_goals first | with_reducible rfl | (first | with_reducible rfl | exact congrArg D.i (by rw [wrap64_of (by omega)]; omega) | (rw [hbs, List.length_append]; rfl) | (rw [hbs, Int.toNat_natCast]; exact bytesRows_append _ [_]) | (simp [bytesRows_length, blkTo_length]; done)); done)
          | (have hbs := blkTo_succ l i c
             rw [hk3] at hbs
             refine wk [(.t 0, .v (Dv (.s l))), (.t 3, .v (.e (.c (.own 7 (cutTo l i).length)))), (.t 4, .v (I (i : Nat))), (.t 5, .v (.e (.c (.own 24 (blkTo l i ((c + 1))).length)))), (.t 6, .v (I (4 * i + (c + 1) : Nat))), (.o 7, .row 9 1 (strRows (cutTo l i))), (.o 24, .row 5 1 (bytesRows (blkTo l i ((c + 1)))))] [] [] (⟨4 - (c + 1), by omega, c + 1, rfl, by omega, rfl⟩) ?_ rfl rfl
             repeat' first | exact trivial | refine mL_nil rfl ?_ | refine mL_d rfl ?_ ?_ | refine mL_own rfl rfl ?_ rfl ?_ | refine mL_row rfl ?_ ?_ | refine mL_pt rfl rfl rfl rfl ?_ | refine mL_box rfl ?_ ?_ | refine mL_agg rfl ?_ ?_ | exact mCs_nil0 | refine mCs_d ?_ ?_ | refine mCs_nil ?_ | refine mCs_own rfl ?_ rfl ?_ | refine mCs_pt rfl rfl rfl ?_
             all_goals first | with_reducible rfl | (first | with_reducible rfl | exact congrArg D.i (by rw [wrap64_of (by omega)]; omega) | (rw [hbs, List.length_append]; rfl) | (rw [hbs]; exact bytesRows_append _ [0]) | (simp [bytesRows_length, blkTo_length]; done)))
        · skip
          have hk3 : l.getD (4 * i + c) 0 = 0 := getD_none (by simp at c37; omega)
          refine SW.regT tabOk [0, 3, 4, 5, 6] ?_
          refine ai trivial (ai vc (ai (by refine ⟨rfl, bytesRows_length _, by simp, ?_⟩; rw [blkTo_length]; show (_ + 1) * 1 ≤ _; omega) (ai trivial ?_)))
          refine SW.regT tabOk [0, 3, 4, 5, 6] ?_
          refine ai trivial (ai trivial (ai trivial ?_))
          first
          | (have hk4 : 4 * i + c < l.length := hk3
             have hbs := blkTo_succ l i c
             refine wk [(.t 0, .v (Dv (.s l))), (.t 3, .v (.e (.c (.own 7 (cutTo l i).length)))), (.t 4, .v (I (i : Nat))), (.t 5, .v (.e (.c (.own 24 (blkTo l i ((c + 1))).length)))), (.t 6, .v (I (4 * i + (c + 1) : Nat))), (.o 7, .row 9 1 (strRows (cutTo l i))), (.o 24, .row 5 1 (bytesRows (blkTo l i ((c + 1)))))] [] [] (⟨4 - (c + 1), by omega, c + 1, rfl, by omega, rfl⟩) ?_ rfl rfl
             repeat' first | exact trivial | refine mL_nil rfl ?_ | refine mL_d rfl ?_ ?_ | refine mL_own rfl rfl ?_ rfl ?_ | refine mL_row rfl ?_ ?_ | refine mL_pt rfl rfl rfl rfl ?_ | refine mL_box rfl ?_ ?_ | refine mL_agg rfl ?_ ?_ | exact mCs_nil0 | refine mCs_d ?_ ?_ | refine mCs_nil ?_ | refine mCs_own rfl ?_ rfl ?_ | refine mCs_pt rfl rfl rfl ?_
             all_goals first | with_reducible rfl | (first | with_reducible rfl | exact congrArg D.i (by rw [wrap64_of (by omega)]; omega) | (rw [hbs, List.length_append]; rfl) | (rw [hbs, Int.toNat_natCast]; exact bytesRows_append _ [_]) | (simp [bytesRows_length, blkTo_length]; done)); done)
          | (have hbs := blkTo_succ l i c
             rw [hk3] at hbs
             refine wk [(.t 0, .v (Dv (.s l))), (.t 3, .v (.e (.c (.own 7 (cutTo l i).length)))), (.t 4, .v (I (i : Nat))), (.t 5, .v (.e (.c (.own 24 (blkTo l i ((c + 1))).length)))), (.t 6, .v (I (4 * i + (c + 1) : Nat))), (.o 7, .row 9 1 (strRows (cutTo l i))), (.o 24, .row 5 1 (bytesRows (blkTo l i ((c + 1)))))] [] [] (⟨4 - (c + 1), by omega, c + 1, rfl, by omega, rfl⟩) ?_ rfl rfl
             repeat' first | exact trivial | refine mL_nil rfl ?_ | refine mL_d rfl ?_ ?_ | refine mL_own rfl rfl ?_ rfl ?_ | refine mL_row rfl ?_ ?_ | refine mL_pt rfl rfl rfl rfl ?_ | refine mL_box rfl ?_ ?_ | refine mL_agg rfl ?_ ?_ | exact mCs_nil0 | refine mCs_d ?_ ?_ | refine mCs_nil ?_ | refine mCs_own rfl ?_ rfl ?_ | refine mCs_pt rfl rfl rfl ?_
             all_goals first | with_reducible rfl | (first | with_reducible rfl | exact congrArg D.i (by rw [wrap64_of (by omega)]; omega) | (rw [hbs, List.length_append]; rfl) | (rw [hbs]; exact bytesRows_append _ [0]) | (simp [bytesRows_length, blkTo_length]; done)))
      · skip
        have hc2 : c = 4 := by
          have h := c31
          rw [wrap64_of (n := (i : Int) + 1) (by omega), wrap64_of (by omega)] at h
          simp at h; omega
        subst hc2
        refine SW.exit ?_
        refine SW.regT tabOk [0, 3, 4] ?_
        refine ai trivial (ai trivial (ai (by exact ⟨bytesRows_length _, (congrArg bytesRows (rowsBytes_bytesRows _)).symm⟩) (ai vc (ai (by refine ⟨rfl, strRows_length _, by simp, ?_⟩; rw [cutTo_length]; show (_ + 1) * 16 ≤ _; omega) (ai trivial ?_)))))
        refine SW.regT tabOk [0, 3, 4] ?_
        refine ai trivial (ai trivial (ai trivial ?_))
        have hcs := cutTo_succ l i
        refine wk [(.t 0, .v (Dv (.s l))), (.t 3, .v (.e (.c (.own 7 (cutTo l ((i + 1))).length)))), (.t 4, .v (I ((i + 1) : Nat))), (.o 7, .row 9 1 (strRows (cutTo l ((i + 1)))))] [] [] (⟨((l.length + 3) / 4) - (i + 1), by omega, i + 1, rfl, by omega, rfl⟩) ?_ rfl rfl
        repeat' first | exact trivial | refine mL_nil rfl ?_ | refine mL_d rfl ?_ ?_ | refine mL_own rfl rfl ?_ rfl ?_ | refine mL_row rfl ?_ ?_ | refine mL_pt rfl rfl rfl rfl ?_ | refine mL_box rfl ?_ ?_ | refine mL_agg rfl ?_ ?_ | exact mCs_nil0 | refine mCs_d ?_ ?_ | refine mCs_nil ?_ | refine mCs_own rfl ?_ rfl ?_ | refine mCs_pt rfl rfl rfl ?_
        all_goals first | with_reducible rfl | (first | with_reducible rfl | (rw [hcs, rowsBytes_bytesRows]; exact strRows_push _ _) | (rw [hcs, List.length_append]; rfl) | (simp [strRows_length, cutTo_length]; done) | exact congrArg D.i (by rw [wrap64_of (by omega)]; omega) | omega | (simp; done))
    · skip
      have hi3 : i = ((l.length + 3) / 4) := by simp at c21; omega
      refine SW.exit ?_
      refine SW.seq ?_
      refine SW.regT tabOk [2] ?_
      refine ai trivial (ai trivial ?_)
      refine SW.ret ?_
      refine retOk _ [] [7] rfl (mL_froze rfl rfl rfl ?_ (congrArg D.sl ?_) trivial) rfl rfl
      · exact strRows_length _
      · rw [mixCut_yes hin, hi3]

set_option maxHeartbeats 800000 in
theorem s_impl_MixCut (l : List UInt8) (hl : l.length ≤ 140737488355328) : Ab.Spec Tryz.prog 109 1 [(.t 0, .v (Dv (.s l)))] [(.t 0, .v (Dv (.sl (strRows (mixCut l)))))] := by
  refine spec_of_body tabOk Tryz.func109 rfl (by kernel_rfl) (by decide) (by kernel_rfl) rfl ?_
  refine SW.seq ?_
  refine SW.regT tabOk [0] ?_
  refine ai trivial ?_
  refine SW.seq ?_
  refine SW.seq ?_
  refine SW.regT tabOk [0, 9] ?_
  refine ai trivial (ai vc ?_)
  refine ex_pure (s_impl_in _ _ _) rfl rfl rfl rfl rfl rfl rfl rfl ?_
  refine ai trivial ?_
  refine SW.cond rfl (fun c9 => ?_) (fun c9 => ?_)
  · skip
    have hin : ¬ inB l.length 1 24 = true := by simpa using c9
    refine SW.seq ?_
    refine SW.regT tabOk [2] ?_
    refine ai trivial ?_
    refine SW.ret ?_
    refine retOk _ [] [] rfl (mL_nil_d rfl (congrArg D.sl ?_) trivial) rfl rfl
    rw [mixCut_no hin]; rfl
  · skip
    have hin : inB l.length 1 24 = true := by simpa using c9
    have hl2 : (1 : Int) ≤ l.length ∧ (l.length : Int) ≤ 24 := by simpa [inB] using hin
    refine SW.skip ?_
    refine SW.seq ?_
    refine SW.regT tabOk [0, 3] ?_
    refine ai trivial ?_
    refine SW.seq ?_
    refine SW.seq ?_
    refine SW.regT tabOk [0, 3, 4] ?_
    refine ai trivial ?_
    refine SW.block ?_
    -- live at the head: [0, 3, 4]
    refine SW.nilOwn 3 100 9 1 rfl rfl ?_
    refine SW.loopW (n := ((l.length + 3) / 4)) (fun m s => ∃ i : Nat, m = ((l.length + 3) / 4) - i ∧ i ≤ ((l.length + 3) / 4) ∧ s = [(.t 0, .v (Dv (.s l))), (.t 3, .v (.e (.c (.own 100 (cutTo l (i)).length)))), (.t 4, .v (I (4 * i : Nat))), (.o 100, .row 9 1 (strRows (cutTo l (i))))]) ?_ ?_
    · skip
      refine wk [(.t 0, .v (Dv (.s l))), (.t 3, .v (.e (.c (.own 100 (cutTo l (0)).length)))), (.t 4, .v (I (4 * 0 : Nat))), (.o 100, .row 9 1 (strRows (cutTo l (0))))] [] [] (⟨0, rfl, Nat.zero_le _, rfl⟩) ?_ rfl rfl
      repeat' first | exact trivial | refine mL_nil rfl ?_ | refine mL_d rfl ?_ ?_ | refine mL_own rfl rfl ?_ rfl ?_ | refine mL_row rfl ?_ ?_ | refine mL_pt rfl rfl rfl rfl ?_ | refine mL_box rfl ?_ ?_ | refine mL_agg rfl ?_ ?_ | exact mCs_nil0 | refine mCs_d ?_ ?_ | refine mCs_nil ?_ | refine mCs_own rfl ?_ rfl ?_ | refine mCs_pt rfl rfl rfl ?_
      all_goals first | with_reducible rfl | (first | with_reducible rfl | rfl)
    rintro n s ⟨i, rfl, hi, rfl⟩
    refine SW.seq ?_
    refine SW.seq ?_
    refine SW.regT tabOk [0, 3, 4, 13] ?_
    refine ai trivial (ai trivial (ai vc (ai trivial ?_)))
    refine SW.cond rfl (fun c13 => ?_) (fun c13 => ?_)
    · skip
      have hi2 : i < ((l.length + 3) / 4) ∧ 4 * i < l.length := by simp at c13; omega
      refine SW.skip ?_
      refine SW.seq ?_
      refine SW.block ?_
      refine SW.seq ?_
      refine SW.regT tabOk [0, 3, 4, 5] ?_
      refine ai (by exact ⟨rfl, by decide, by decide⟩) (ai trivial ?_)
      refine SW.seq ?_
      refine SW.regT tabOk [0, 3, 4, 5] ?_
      refine ai trivial (ai trivial (ai trivial (ai (by simp [bnd, loOf, hiOf]; omega) (ai (by refine ⟨trivial, rfl, fun r hr => ?_⟩; obtain ⟨x, _, rfl⟩ := List.mem_map.1 hr; rfl) ?_))))
      refine SW.regT tabOk [0, 3, 4] ?_
      refine ai trivial (ai trivial (ai (by rw [blk_rows2]; exact ⟨by rw [bytesRows_length, blkTo_length]; rfl, (congrArg bytesRows (rowsBytes_bytesRows _)).symm⟩) (ai vc (ai (by refine ⟨rfl, strRows_length _, by simp, ?_⟩; rw [cutTo_length]; show (_ + 1) * 16 ≤ _; omega) (ai trivial ?_)))))
      refine SW.regT tabOk [0, 3, 4] ?_
      refine ai trivial (ai trivial (ai trivial ?_))
      have hcs := cutTo_succ l i
      refine wk [(.t 0, .v (Dv (.s l))), (.t 3, .v (.e (.c (.own 100 (cutTo l ((i + 1))).length)))), (.t 4, .v (I (4 * (i + 1) : Nat))), (.o 100, .row 9 1 (strRows (cutTo l ((i + 1)))))] [] [] (⟨((l.length + 3) / 4) - (i + 1), by omega, i + 1, rfl, by omega, rfl⟩) ?_ rfl rfl
      repeat' first | exact trivial | refine mL_nil rfl ?_ | refine mL_d rfl ?_ ?_ | refine mL_own rfl rfl ?_ rfl ?_ | refine mL_row rfl ?_ ?_ | refine mL_pt rfl rfl rfl rfl ?_ | refine mL_box rfl ?_ ?_ | refine mL_agg rfl ?_ ?_ | exact mCs_nil0 | refine mCs_d ?_ ?_ | refine mCs_nil ?_ | refine mCs_own rfl ?_ rfl ?_ | refine mCs_pt rfl rfl rfl ?_
      all_goals first | with_reducible rfl | (first | with_reducible rfl | (rw [hcs, blk_rows2, rowsBytes_bytesRows]; exact strRows_push _ _) | (rw [hcs, List.length_append]; rfl) | (simp [strRows_length, cutTo_length]; done) | exact congrArg D.i (by rw [wrap64_of (by omega)]; omega) | omega | (simp; done))
    · skip
      have hi3 : i = ((l.length + 3) / 4) := by simp at c13; omega
      subst hi3
      refine SW.exit ?_
      refine SW.seq ?_
      refine SW.regT tabOk [2] ?_
      refine ai trivial ?_
      refine ex_call (robj := [(100, .row 9 1 (strRows (cutTo l ((l.length + 3) / 4))))]) (rl := [(0, 28)]) (bor := [100]) (s_copied_S (cutTo l ((l.length + 3) / 4)) (by rw [cutTo_length]; omega)) rfl rfl rfl rfl ⟨mL_froze rfl rfl rfl (strRows_length _) rfl trivial, rfl⟩ rfl (.inr (sc_strs _)) (robjOk_spec ⟨rfl, trivial⟩) (fun j hj => by (obtain rfl : j = 0 := by simpa [newIds, objIds, memN] using hj); rfl) ?_
      refine ai trivial ?_
      refine SW.ret ?_
      refine retOk _ [] [28] rfl (mL_froze rfl rfl rfl ?_ (congrArg D.sl ?_) trivial) rfl rfl
      · exact strRows_length _
      · rw [mixCut_yes hin]

end Go.Proofs.YtilahgkblckndaaGreatDoor

namespace Go.Ab
open Go Go.RowKit
set_option linter.unusedVariables false
set_option linter.unusedSimpArgs false

deriving instance DecidableEq for FrameR
theorem keepDo_ok {k : KeepR} {r : List UInt8} (h : (keepDo k r).2 = true) : keepOk (keepDo k r).1 = true := by
  unfold keepDo at h ⊢
  split at h
  · rename_i hk
    rw [if_pos hk]
    unfold doneOf at h ⊢
    split at h
    · rename_i hx
      rw [if_pos hx]
      simp only [Bool.and_eq_true] at hx
      exact hx.2
    · cases h
  · cases h
theorem keepGo_ok : ∀ {rs : List (List UInt8)} {k : KeepR}, keepOk k = true → (keepGo k rs).2 = true → keepOk (keepGo k rs).1 = true
  | [], k, hk, h => hk
  | r :: rs, k, hk, h => by
    unfold keepGo at h ⊢
    split at h
    · rename_i hd
      rw [if_pos hd]
      exact keepGo_ok (keepDo_ok hd) h
    · cases h
theorem keepStart_ok {id : Int} (h : isNode id = true) : keepOk (keepStart id) = true := by
  simp [keepOk, keepStart, h, inB, notesOk, marksOk]
theorem keepOf_ok {id : Int} {rs : List (List UInt8)} (h : (keepOf id rs).2 = true) : keepOk (keepOf id rs).1 = true := by
  unfold keepOf at h ⊢
  split at h
  · rename_i hn
    rw [if_pos hn]
    exact keepGo_ok (keepStart_ok hn) h
  · cases h
theorem hasOf_ok {k : KeeperR} (h : keeperOk k = true) : keepOk (hasOf k).1 = true := by
  unfold keeperOk at h
  simp only [Bool.and_eq_true] at h
  exact keepOf_ok h.1.1.2
theorem keeperHas_yes {k : KeeperR} (h : keeperOk k = true) : keeperHas k = (hasOf k).1 := if_pos h
theorem keeperHas_no {k : KeeperR} (h : ¬ keeperOk k = true) : keeperHas k = .zero := if_neg h
theorem keeperMix_no {k : KeeperR} {f n mix : Int} (h : ¬ (keeperOk k && k.up && inB mix 0 999 && decide (0 ≤ noteAt (hasOf k).1.held f n)) = true) : keeperMix k f n mix = (.zero, false) := if_neg h
theorem keeperMix_yes {k : KeeperR} {f n mix : Int} (h1 : keeperOk k = true) (h2 : k.up = true) (h3 : inB mix 0 999 = true) (h4 : 0 ≤ noteAt (hasOf k).1.held f n) : keeperMix k f n mix = (mixFrame k ((hasOf k).1.held.getD (noteAt (hasOf k).1.held f n).toNat .zero) mix, true) := by
  unfold keeperMix
  rw [if_pos (by rw [h1, h2, h3, decide_eq_true h4]; rfl)]
theorem held_spot {k : KeeperR} (h : keeperOk k = true) {f n : Int} (hp : 0 ≤ noteAt (hasOf k).1.held f n) : ∃ j : Nat, noteAt (hasOf k).1.held f n = j ∧ j < (hasOf k).1.held.length ∧ ((hasOf k).1.held.getD j .zero).text.length ≤ 140737488355328 := by
  obtain ⟨j, hj⟩ := Int.eq_ofNat_of_zero_le hp
  have hlt := (noteAt_lt (hasOf k).1.held f n).2
  refine ⟨j, hj, by omega, ?_⟩
  have h6 := keepOk_six (hasOf_ok h)
  exact h6.2.1 _ (mem_getD (z := NoteR.zero) (l := (hasOf k).1.held) (i := j) (by omega))
end Go.Ab

namespace Go.Proofs.YtilahgkblckndaaGreatDoor
open Go Go.Ab Go.RowKit
set_option linter.unusedVariables false
set_option linter.unusedSimpArgs false

set_option maxHeartbeats 800000 in
theorem s_spec_MixMake (l : List UInt8) (n : Int) (hl : l.length ≤ 140737488355328) : Ab.Spec Tryz.prog 46 2 [(.t 0, .v (Dv (.s l))), (.t 1, .v (I n))] [(.t 0, .v (Dv (.s (mixMake l n))))] := by
  refine spec_of_body tabOk Tryz.func46 rfl (by kernel_rfl) (by decide) (by kernel_rfl) rfl ?_
  refine SW.seq ?_
  refine SW.regT tabOk [0, 1, 19, 20, 21] ?_
  refine ai trivial ?_
  refine SW.seq ?_
  refine SW.regT tabOk [1, 5, 19, 20, 21] ?_
  refine ai trivial ?_
  refine ex_pure (s_spec_MixCut l hl) rfl rfl rfl rfl rfl rfl rfl rfl ?_
  refine ai trivial ?_
  refine SW.seq ?_
  refine SW.regT tabOk [5, 6, 19, 20, 21] ?_
  refine ai trivial (ai vc (ai trivial ?_))
  refine ex_pure (s_spec_MixOf ((mixCut l).length : Nat) n) rfl rfl rfl rfl rfl (by rw [strRows_length]; rfl) rfl rfl ?_
  refine ai trivial ?_
  refine SW.seq ?_
  refine SW.seq ?_
  refine SW.regT tabOk [5, 6, 22] ?_
  refine ai trivial (ai vc (ai trivial (ai trivial (ai (fun h => trivial) (ai rk (ai (fun h => vc) (ai rk (ai (fun h => trivial) (ai rk (ai pk ?_))))))))))
  refine SW.cond rfl (fun c22 => ?_) (fun c22 => ?_)
  · skip
    have hn : mixCut l = [] ∨ (mixOf (mixCut l).length n) = [] := by simpa [strRows, intRows] using c22
    refine SW.seq ?_
    refine SW.regT tabOk [4] ?_
    refine ai trivial ?_
    refine SW.ret ?_
    refine retOk1 rfl (congrArg D.s ?_)
    exact (mixMake_none hn).symm
  · skip
    have hn : ¬ (mixCut l = [] ∨ (mixOf (mixCut l).length n) = []) := by simpa [strRows, intRows] using c22
    refine SW.skip ?_
    refine SW.seq ?_
    refine SW.regT tabOk [5, 6, 7] ?_
    refine ex_pure s_spec_l2None rfl rfl rfl rfl rfl rfl rfl rfl ?_
    refine ai trivial ?_
    refine SW.seq ?_
    refine SW.seq ?_
    refine SW.regT tabOk [5, 6, 7, 8] ?_
    refine ai trivial ?_
    refine SW.block ?_
    -- live at the head: [5, 6, 7, 8]
    refine SW.loopW (n := (mixOf (mixCut l).length n).length) (fun m s => ∃ i : Nat, m = (mixOf (mixCut l).length n).length - i ∧ i ≤ (mixOf (mixCut l).length n).length ∧ s = [(.t 5, .v (Dv (.sl (strRows (mixCut l))))), (.t 6, .v (Dv (.sl (intRows (mixOf (mixCut l).length n))))), (.t 7, .v (Dv (.s (mixGo (mixCut l) [0, 0, 0, 0] ((mixOf (mixCut l).length n).take i))))), (.t 8, .v (I (i : Nat)))]) ?_ ?_
    · skip
      refine wk [(.t 5, .v (Dv (.sl (strRows (mixCut l))))), (.t 6, .v (Dv (.sl (intRows (mixOf (mixCut l).length n))))), (.t 7, .v (Dv (.s (mixGo (mixCut l) [0, 0, 0, 0] ((mixOf (mixCut l).length n).take 0))))), (.t 8, .v (I (0 : Nat)))] [] [] (⟨0, rfl, Nat.zero_le _, rfl⟩) ?_ rfl rfl
      repeat' first | exact trivial | refine mL_nil rfl ?_ | refine mL_d rfl ?_ ?_ | refine mL_own rfl rfl ?_ rfl ?_ | refine mL_row rfl ?_ ?_ | refine mL_pt rfl rfl rfl rfl ?_ | refine mL_box rfl ?_ ?_ | refine mL_agg rfl ?_ ?_ | exact mCs_nil0 | refine mCs_d ?_ ?_ | refine mCs_nil ?_ | refine mCs_own rfl ?_ rfl ?_ | refine mCs_pt rfl rfl rfl ?_
      all_goals first | with_reducible rfl | (first | with_reducible rfl | rfl)
    rintro n s ⟨i, rfl, hi, rfl⟩
    refine SW.seq ?_
    refine SW.seq ?_
    refine SW.regT tabOk [5, 6, 7, 8, 27] ?_
    refine ai trivial (ai trivial (ai vc (ai trivial ?_)))
    refine SW.cond rfl (fun c27 => ?_) (fun c27 => ?_)
    · skip
      have hi2 : i < (mixOf (mixCut l).length n).length := by simp [intRows_length] at c27; omega
      have hml := mixOf_length (mixCut l).length n
      have hj := mix_at (t := l) (n := n) hi2
      have hio := intRows_getD (l := (mixOf (mixCut l).length n)) (i := i) hi2
      have hv := valS (l := mixCut l) hj.1 hj.2.1
      refine SW.skip ?_
      refine SW.seq ?_
      refine SW.block ?_
      refine SW.regT tabOk [5, 6, 7, 8] ?_
      refine ai trivial (ai trivial (ai trivial (ai trivial (ai (by rw [Int.toNat_natCast, hio]; exact ⟨⟨by omega, by rw [intRows_length]; omega⟩, rfl⟩) (ai (by rw [Int.toNat_natCast, hio]; exact ⟨Nat.le_of_ble_eq_true rfl, rfl⟩) (ai (by rw [Int.toNat_natCast, hio]; exact ixS hj.1 hj.2.1) (ai (by rw [Int.toNat_natCast, hio]; exact ldS hj.1 hj.2.1) ?_)))))))
      refine ex_pure (s_spec_l2Xor (mixGo (mixCut l) [0, 0, 0, 0] ((mixOf (mixCut l).length n).take i)) ((mixCut l).getD ((mixOf (mixCut l).length n).getD i 0).toNat []) (mixGo_length rfl) hj.2.2) rfl rfl rfl rfl rfl (by rw [Int.toNat_natCast, hio]; exact (congrArg (fun z => argSt 0 [Dv (.s (mixGo (mixCut l) [0, 0, 0, 0] ((mixOf (mixCut l).length n).take i))), Dv (.s z)]) hv).symm) rfl rfl ?_
      refine ai trivial ?_
      refine SW.regT tabOk [5, 6, 7, 8] ?_
      refine ai trivial (ai trivial (ai trivial ?_))
      have hgt := mixGo_take (bl := mixCut l) hi2 (x := [0, 0, 0, 0])
      refine wk [(.t 5, .v (Dv (.sl (strRows (mixCut l))))), (.t 6, .v (Dv (.sl (intRows (mixOf (mixCut l).length n))))), (.t 7, .v (Dv (.s (mixGo (mixCut l) [0, 0, 0, 0] ((mixOf (mixCut l).length n).take (i + 1)))))), (.t 8, .v (I ((i + 1) : Nat)))] [] [] (⟨(mixOf (mixCut l).length n).length - (i + 1), by omega, i + 1, rfl, by omega, rfl⟩) ?_ rfl rfl
      repeat' first | exact trivial | refine mL_nil rfl ?_ | refine mL_d rfl ?_ ?_ | refine mL_own rfl rfl ?_ rfl ?_ | refine mL_row rfl ?_ ?_ | refine mL_pt rfl rfl rfl rfl ?_ | refine mL_box rfl ?_ ?_ | refine mL_agg rfl ?_ ?_ | exact mCs_nil0 | refine mCs_d ?_ ?_ | refine mCs_nil ?_ | refine mCs_own rfl ?_ rfl ?_ | refine mCs_pt rfl rfl rfl ?_
      all_goals first | with_reducible rfl | (first | with_reducible rfl | (rw [hgt]; done) | exact congrArg D.i (by rw [wrap64_of (by omega)]; omega) | omega | (simp; done))
    · skip
      have hi3 : i = (mixOf (mixCut l).length n).length := by simp [intRows_length] at c27; omega
      refine SW.exit ?_
      refine SW.seq ?_
      refine SW.regT tabOk [4] ?_
      refine ai trivial (ai trivial ?_)
      refine SW.ret ?_
      refine retOk1 rfl (congrArg D.s ?_)
      rw [mixMake_some hn, hi3, List.take_length]

set_option maxHeartbeats 800000 in
theorem s_impl_MixMake (l : List UInt8) (n : Int) (hl : l.length ≤ 140737488355328) : Ab.Spec Tryz.prog 54 2 [(.t 0, .v (Dv (.s l))), (.t 1, .v (I n))] [(.t 0, .v (Dv (.s (mixMake l n))))] := by
  refine spec_of_body tabOk Tryz.func54 rfl (by kernel_rfl) (by decide) (by kernel_rfl) rfl ?_
  refine SW.seq ?_
  refine SW.regT tabOk [0, 1] ?_
  refine ai trivial ?_
  refine SW.seq ?_
  refine SW.regT tabOk [1, 5] ?_
  refine ai trivial ?_
  refine ex_pure (s_impl_MixCut l hl) rfl rfl rfl rfl rfl rfl rfl rfl ?_
  refine ai trivial ?_
  refine SW.seq ?_
  refine SW.regT tabOk [1, 5, 6] ?_
  refine ai trivial ?_
  refine SW.seq ?_
  refine SW.seq ?_
  refine SW.regT tabOk [5, 6, 14, 15, 16] ?_
  refine ai trivial (ai vc (ai trivial ?_))
  refine ex_pure (s_impl_MixOf ((mixCut l).length : Nat) n) rfl rfl rfl rfl rfl (by rw [strRows_length]; rfl) rfl rfl ?_
  refine ai vc (ai trivial ?_)
  refine SW.block ?_
  -- live at the head: [5, 6, 14, 15, 16]
  refine SW.loopW (n := (mixOf (mixCut l).length n).length) (fun m s => ∃ i : Nat, m = (mixOf (mixCut l).length n).length - i ∧ i ≤ (mixOf (mixCut l).length n).length ∧ s = [(.t 5, .v (Dv (.sl (strRows (mixCut l))))), (.t 6, .v (Dv (.s (mixAt (mixCut l) (mixOf (mixCut l).length n) i)))), (.t 14, .v (Dv (.sl (intRows (mixOf (mixCut l).length n))))), (.t 15, .v (I ((mixOf (mixCut l).length n).length : Nat))), (.t 16, .v (I (i : Nat)))]) ?_ ?_
  · skip
    refine wk [(.t 5, .v (Dv (.sl (strRows (mixCut l))))), (.t 6, .v (Dv (.s (mixAt (mixCut l) (mixOf (mixCut l).length n) 0)))), (.t 14, .v (Dv (.sl (intRows (mixOf (mixCut l).length n))))), (.t 15, .v (I ((mixOf (mixCut l).length n).length : Nat))), (.t 16, .v (I (0 : Nat)))] [] [] (⟨0, rfl, Nat.zero_le _, rfl⟩) ?_ rfl rfl
    repeat' first | exact trivial | refine mL_nil rfl ?_ | refine mL_d rfl ?_ ?_ | refine mL_own rfl rfl ?_ rfl ?_ | refine mL_row rfl ?_ ?_ | refine mL_pt rfl rfl rfl rfl ?_ | refine mL_box rfl ?_ ?_ | refine mL_agg rfl ?_ ?_ | exact mCs_nil0 | refine mCs_d ?_ ?_ | refine mCs_nil ?_ | refine mCs_own rfl ?_ rfl ?_ | refine mCs_pt rfl rfl rfl ?_
    all_goals first | with_reducible rfl | (first | with_reducible rfl | rfl | (rw [intRows_length]; done))
  rintro n s ⟨i, rfl, hi, rfl⟩
  refine SW.seq ?_
  refine SW.regT tabOk [5, 6, 14, 15, 16, 17] ?_
  refine ai trivial ?_
  refine SW.seq ?_
  refine SW.cond rfl (fun c17 => ?_) (fun c17 => ?_)
  · skip
    have hi2 : i < (mixOf (mixCut l).length n).length := by simp at c17; omega
    have hml := mixOf_length (mixCut l).length n
    have hj := mix_at (t := l) (n := n) hi2
    have hio := intRows_getD (l := (mixOf (mixCut l).length n)) (i := i) hi2
    have hv := valS (l := mixCut l) hj.1 hj.2.1
    refine SW.skip ?_
    refine SW.seq ?_
    refine SW.block ?_
    refine SW.seq ?_
    refine SW.regT tabOk [5, 6, 7, 8, 14, 15, 16] ?_
    refine ai trivial (ai (by rw [Int.toNat_natCast, hio]; exact ⟨⟨by omega, by rw [intRows_length]; omega⟩, rfl⟩) (ai (by rw [Int.toNat_natCast, hio]; exact ⟨Nat.le_of_ble_eq_true rfl, rfl⟩) (ai trivial (ai trivial ?_))))
    refine SW.seq ?_
    refine SW.wk (J := fun s => s = [(.t 5, .v (Dv (.sl (strRows (mixCut l))))), (.t 6, .v (Dv (.s (mixAt (mixCut l) (mixOf (mixCut l).length n) i)))), (.t 7, .v (I (i : Nat))), (.t 8, .v (I ((mixOf (mixCut l).length n).getD i 0))), (.t 14, .v (Dv (.sl (intRows (mixOf (mixCut l).length n))))), (.t 15, .v (I ((mixOf (mixCut l).length n).length : Nat))), (.t 16, .v (I (i : Nat)))]) ?_ ?_
    · skip
      refine wk [(.t 5, .v (Dv (.sl (strRows (mixCut l))))), (.t 6, .v (Dv (.s (mixAt (mixCut l) (mixOf (mixCut l).length n) i)))), (.t 7, .v (I (i : Nat))), (.t 8, .v (I ((mixOf (mixCut l).length n).getD i 0))), (.t 14, .v (Dv (.sl (intRows (mixOf (mixCut l).length n))))), (.t 15, .v (I ((mixOf (mixCut l).length n).length : Nat))), (.t 16, .v (I (i : Nat)))] [] [] (rfl) ?_ rfl rfl
      repeat' first | exact trivial | refine mL_nil rfl ?_ | refine mL_d rfl ?_ ?_ | refine mL_own rfl rfl ?_ rfl ?_ | refine mL_row rfl ?_ ?_ | refine mL_pt rfl rfl rfl rfl ?_ | refine mL_box rfl ?_ ?_ | refine mL_agg rfl ?_ ?_ | exact mCs_nil0 | refine mCs_d ?_ ?_ | refine mCs_nil ?_ | refine mCs_own rfl ?_ rfl ?_ | refine mCs_pt rfl rfl rfl ?_
      all_goals first | with_reducible rfl | (first | with_reducible rfl | (rw [Int.toNat_natCast, hio]; rfl))
    rintro s rfl
    refine SW.regT tabOk [5, 6, 8, 14, 15, 16, 22] ?_
    refine ai trivial (ai trivial ?_)
    refine SW.cond rfl (fun c22 => ?_) (fun c22 => ?_)
    · skip
      have hi0 : i = 0 := by simp at c22; omega
      have hm : mixAt (mixCut l) (mixOf (mixCut l).length n) (i + 1) = ((mixCut l).getD ((mixOf (mixCut l).length n).getD i 0).toNat []) := by subst hi0; exact mixAt_first hi2 hj.2.2
      refine SW.regT tabOk [5, 6, 14, 15, 16] ?_
      refine ai trivial (ai trivial (ai (by exact ixS hj.1 hj.2.1) (ai (by exact ldS hj.1 hj.2.1) (ai trivial ?_))))
      refine SW.regT tabOk [5, 6, 14, 15, 16] ?_
      refine ai trivial (ai trivial ?_)
      refine wk [(.t 5, .v (Dv (.sl (strRows (mixCut l))))), (.t 6, .v (Dv (.s (mixAt (mixCut l) (mixOf (mixCut l).length n) (i + 1))))), (.t 14, .v (Dv (.sl (intRows (mixOf (mixCut l).length n))))), (.t 15, .v (I ((mixOf (mixCut l).length n).length : Nat))), (.t 16, .v (I ((i + 1) : Nat)))] [] [] (⟨(mixOf (mixCut l).length n).length - (i + 1), by omega, i + 1, rfl, by omega, rfl⟩) ?_ rfl rfl
      repeat' first | exact trivial | refine mL_nil rfl ?_ | refine mL_d rfl ?_ ?_ | refine mL_own rfl rfl ?_ rfl ?_ | refine mL_row rfl ?_ ?_ | refine mL_pt rfl rfl rfl rfl ?_ | refine mL_box rfl ?_ ?_ | refine mL_agg rfl ?_ ?_ | exact mCs_nil0 | refine mCs_d ?_ ?_ | refine mCs_nil ?_ | refine mCs_own rfl ?_ rfl ?_ | refine mCs_pt rfl rfl rfl ?_
      all_goals first | with_reducible rfl | (first | with_reducible rfl | (rw [hm, hv]; done) | (rw [hm]; exact congrArg D.s hv) | (rw [hm]; done) | exact congrArg D.i (by rw [wrap64_of (by omega)]; omega) | omega | (simp; done))
    · skip
      have hi0 : i ≠ 0 := by simp at c22; omega
      have hm := mixAt_next (bl := mixCut l) hi0 hi2
      refine SW.regT tabOk [5, 6, 14, 15, 16] ?_
      refine ai trivial (ai trivial (ai trivial (ai (by exact ixS hj.1 hj.2.1) (ai (by exact ldS hj.1 hj.2.1) ?_))))
      refine ex_pure (s_impl_xored (mixAt (mixCut l) (mixOf (mixCut l).length n) i) ((mixCut l).getD ((mixOf (mixCut l).length n).getD i 0).toNat []) (mixAt_length hi0) hj.2.2) rfl rfl rfl rfl rfl ((congrArg (fun z => argSt 0 [Dv (.s (mixAt (mixCut l) (mixOf (mixCut l).length n) i)), Dv (.s z)]) hv).symm) rfl rfl ?_
      refine ai trivial ?_
      refine SW.regT tabOk [5, 6, 14, 15, 16] ?_
      refine ai trivial (ai trivial ?_)
      refine wk [(.t 5, .v (Dv (.sl (strRows (mixCut l))))), (.t 6, .v (Dv (.s (mixAt (mixCut l) (mixOf (mixCut l).length n) (i + 1))))), (.t 14, .v (Dv (.sl (intRows (mixOf (mixCut l).length n))))), (.t 15, .v (I ((mixOf (mixCut l).length n).length : Nat))), (.t 16, .v (I ((i + 1) : Nat)))] [] [] (⟨(mixOf (mixCut l).length n).length - (i + 1), by omega, i + 1, rfl, by omega, rfl⟩) ?_ rfl rfl
      repeat' first | exact trivial | refine mL_nil rfl ?_ | refine mL_d rfl ?_ ?_ | refine mL_own rfl rfl ?_ rfl ?_ | refine mL_row rfl ?_ ?_ | refine mL_pt rfl rfl rfl rfl ?_ | refine mL_box rfl ?_ ?_ | refine mL_agg rfl ?_ ?_ | exact mCs_nil0 | refine mCs_d ?_ ?_ | refine mCs_nil ?_ | refine mCs_own rfl ?_ rfl ?_ | refine mCs_pt rfl rfl rfl ?_
      all_goals first | with_reducible rfl | (first | with_reducible rfl | (rw [hm, hv]; done) | (rw [hm]; exact congrArg D.s hv) | (rw [hm]; done) | exact congrArg D.i (by rw [wrap64_of (by omega)]; omega) | omega | (simp; done))
  · skip
    have hi3 : i = (mixOf (mixCut l).length n).length := by simp at c17; omega
    refine SW.exit ?_
    refine SW.seq ?_
    refine SW.regT tabOk [4] ?_
    refine ai trivial (ai trivial ?_)
    refine SW.ret ?_
    refine retOk1 rfl (congrArg D.s ?_)
    rw [mixMake_at, hi3]

theorem s_impl_NoteNext (a b : Int) : Ab.Spec Tryz.prog 53 2 [(.t 0, .v (I a)), (.t 1, .v (I b))] [(.t 0, .v (I (noteNext a b)))] := by
  refine spec_of_body tabOk Tryz.func53 rfl (by kernel_rfl) (by decide) (by kernel_rfl) rfl ?_
  refine SW.seq ?_
  refine SW.regT tabOk [0, 1, 10, 11, 12, 15, 16, 17] ?_
  refine ai trivial ?_
  refine SW.seq ?_
  refine SW.block ?_
  refine SW.seq ?_
  refine SW.regT tabOk [0, 1, 5] ?_
  refine ai trivial ?_
  refine ex_pure (s_impl_isNode _) rfl rfl rfl rfl rfl rfl rfl rfl ?_
  refine ai trivial (ai trivial (ai (fun h => trivial) (ai rk ?_)))
  refine exc_pure (fun h => (s_impl_isNode _)) rfl rfl rfl rfl rfl rfl rfl rfl rk ?_
  refine ai (fun h => trivial) (ai rk (ai pk (ai trivial (ai (fun h => trivial) (ai rk (ai (fun h => trivial) (ai rk (ai (fun h => trivial) (ai rk (ai pk (ai trivial ?_)))))))))))
  refine SW.cond rfl (fun c5 => ?_) (fun c5 => ?_)
  · skip
    refine SW.seq ?_
    refine SW.regT tabOk [4] ?_
    refine ai trivial ?_
    refine SW.ret ?_
    refine retOk1 rfl ?_
    simp only [noteNext, wrap64, isNode, inB, gb] at *
    grind
  · skip
    refine SW.seq ?_
    refine SW.regT tabOk [0, 19] ?_
    refine ai trivial (ai trivial (ai trivial (ai trivial ?_)))
    refine SW.cond rfl (fun c19 => ?_) (fun c19 => ?_)
    · skip
      refine SW.seq ?_
      refine SW.regT tabOk [4] ?_
      refine ai trivial (ai trivial (ai trivial ?_))
      refine SW.ret ?_
      refine retOk1 rfl ?_
      simp only [noteNext, wrap64, isNode, inB, gb] at *
      grind
    · skip
      refine SW.skip ?_
      refine SW.seq ?_
      refine SW.regT tabOk [4] ?_
      refine ai trivial (ai trivial (ai trivial ?_))
      refine SW.ret ?_
      refine retOk1 rfl ?_
      simp only [noteNext, wrap64, isNode, inB, gb] at *
      grind

theorem s_spec_NoteNext (a b : Int) : Ab.Spec Tryz.prog 45 2 [(.t 0, .v (I a)), (.t 1, .v (I b))] [(.t 0, .v (I (noteNext a b)))] := by
  refine spec_of_body tabOk Tryz.func45 rfl (by kernel_rfl) (by decide) (by kernel_rfl) rfl ?_
  refine SW.seq ?_
  refine SW.regT tabOk [0, 1, 10, 11, 12, 15, 16, 17] ?_
  refine ai trivial ?_
  refine SW.seq ?_
  refine SW.block ?_
  refine SW.seq ?_
  refine SW.regT tabOk [0, 1, 5] ?_
  refine ai trivial ?_
  refine ex_pure (s_spec_l3Keeper _) rfl rfl rfl rfl rfl rfl rfl rfl ?_
  refine ai trivial (ai trivial (ai (fun h => trivial) (ai rk ?_)))
  refine exc_pure (fun h => (s_spec_l3Keeper _)) rfl rfl rfl rfl rfl rfl rfl rfl rk ?_
  refine ai (fun h => trivial) (ai rk (ai pk (ai trivial (ai (fun h => trivial) (ai rk (ai (fun h => trivial) (ai rk (ai (fun h => trivial) (ai rk (ai pk (ai trivial ?_)))))))))))
  refine SW.cond rfl (fun c5 => ?_) (fun c5 => ?_)
  · skip
    refine SW.seq ?_
    refine SW.regT tabOk [4] ?_
    refine ai trivial ?_
    refine SW.ret ?_
    refine retOk1 rfl ?_
    simp only [noteNext, wrap64, isNode, inB, gb] at *
    grind
  · skip
    refine SW.seq ?_
    refine SW.regT tabOk [0, 19] ?_
    refine ai trivial (ai trivial (ai trivial (ai trivial ?_)))
    refine SW.cond rfl (fun c19 => ?_) (fun c19 => ?_)
    · skip
      refine SW.seq ?_
      refine SW.regT tabOk [4] ?_
      refine ai trivial (ai trivial (ai trivial ?_))
      refine SW.ret ?_
      refine retOk1 rfl ?_
      simp only [noteNext, wrap64, isNode, inB, gb] at *
      grind
    · skip
      refine SW.skip ?_
      refine SW.seq ?_
      refine SW.regT tabOk [4] ?_
      refine ai trivial (ai trivial (ai trivial ?_))
      refine SW.ret ?_
      refine retOk1 rfl ?_
      simp only [noteNext, wrap64, isNode, inB, gb] at *
      grind

theorem s_impl_KeeperHas (k : KeeperR) (hl : k.log.length ≤ 140737488355328) : Ab.Spec Tryz.prog 51 1 [(.t 0, .v (k.V))] [(.t 0, .v ((keeperHas k).V))] := by
  refine spec_of_body tabOk Tryz.func51 rfl (by kernel_rfl) (by decide) (by kernel_rfl) rfl ?_
  refine SW.seq ?_
  refine SW.regT tabOk [1, 2] ?_
  refine ai trivial (ai trivial ?_)
  refine SW.seq ?_
  refine SW.seq ?_
  refine SW.regT tabOk [1, 2, 7] ?_
  refine ai vc ?_
  refine ex_pure (s_impl_KeeperOk k hl) rfl rfl rfl rfl rfl rfl rfl rfl ?_
  refine ai trivial ?_
  refine SW.cond rfl (fun c7 => ?_) (fun c7 => ?_)
  · skip
    have hr : keeperHas k = .zero := keeperHas_no (by simpa using c7)
    refine SW.seq ?_
    refine SW.regT tabOk [2] ?_
    refine ai vc (ai ⟨by kernel_rfl, Nat.le_of_ble_eq_true (by kernel_rfl)⟩ ?_)
    refine SW.ret ?_
    refine retOk _ [] [] rfl ?_ rfl rfl
    rw [hr]
    repeat' first | exact trivial | exact mCs_nil0 | exact mEs_nil0 | refine mL_agg rfl ?_ ?_ | refine mL_tup rfl ?_ ?_ | refine mEs_agg ?_ ?_ | refine mEs_froze rfl rfl ?_ ?_ ?_ | refine mEs_nil_d ?_ ?_ | refine mEs_d ?_ ?_ | refine mCs_froze rfl rfl ?_ ?_ ?_ | refine mCs_nil_d ?_ ?_ | refine mCs_d ?_ ?_
    all_goals rfl
  · skip
    have hok : keeperOk k = true := by simpa using c7
    have hr : keeperHas k = _ := keeperHas_yes hok
    have hlg := (keeperOk_log hok).2.1
    refine SW.skip ?_
    refine SW.seq ?_
    refine SW.regT tabOk [2, 3] ?_
    refine ai (by first | trivial | rfl) (ai vc (ai (by first | trivial | rfl) (ai (by first | trivial | rfl) (ai vc ?_))))
    refine ex_pure (s_impl_stateOf k.id k.log (by omega)) rfl rfl rfl rfl rfl rfl rfl rfl ?_
    refine ai trivial (ai trivial (ai trivial (ai trivial (ai ⟨by kernel_rfl, Nat.le_of_ble_eq_true (by kernel_rfl)⟩ (ai trivial ?_)))))
    refine SW.seq ?_
    refine SW.regT tabOk [2] ?_
    refine ai vc (ai ⟨by kernel_rfl, Nat.le_of_ble_eq_true (by kernel_rfl)⟩ ?_)
    refine SW.ret ?_
    refine retOkP rfl rfl ?_
    rw [hr]
    rfl

set_option maxHeartbeats 800000 in
theorem s_laws_eqFrame (a b : FrameR) : Ab.Spec Tryz.prog 14 2 [(.t 0, .v (a.V)), (.t 1, .v (b.V))] [(.t 0, .v (B (decide (a = b))))] := by
  refine spec_of_body tabOk Tryz.func14 rfl (by kernel_rfl) (by decide) (by kernel_rfl) rfl ?_
  refine SW.seq ?_
  refine SW.regT tabOk [2, 3] ?_
  refine ai trivial (ai trivial (ai trivial ?_))
  refine SW.seq ?_
  refine SW.seq ?_
  refine SW.regT tabOk [2, 3, 9] ?_
  refine ai (by first | trivial | rfl) (ai vc (ai (by first | trivial | rfl) (ai vc (ai trivial ?_))))
  refine SW.cond rfl (fun c9 => ?_) (fun c9 => ?_)
  · skip
    refine SW.seq ?_
    refine SW.regT tabOk [4] ?_
    refine ai trivial ?_
    refine SW.ret ?_
    refine retOk1 rfl (congrArg D.b ?_)
    cases a; cases b; simp_all
  · skip
    refine SW.skip ?_
    refine SW.seq ?_
    refine SW.seq ?_
    refine SW.regT tabOk [2, 3, 14] ?_
    refine ai (by first | trivial | rfl) (ai vc (ai (by first | trivial | rfl) (ai vc (ai trivial ?_))))
    refine SW.cond rfl (fun c14 => ?_) (fun c14 => ?_)
    · skip
      refine SW.seq ?_
      refine SW.regT tabOk [4] ?_
      refine ai trivial ?_
      refine SW.ret ?_
      refine retOk1 rfl (congrArg D.b ?_)
      cases a; cases b; simp_all
    · skip
      refine SW.skip ?_
      refine SW.seq ?_
      refine SW.seq ?_
      refine SW.regT tabOk [2, 3, 19] ?_
      refine ai (by first | trivial | rfl) (ai vc (ai (by first | trivial | rfl) (ai vc (ai trivial ?_))))
      refine SW.cond rfl (fun c19 => ?_) (fun c19 => ?_)
      · skip
        refine SW.seq ?_
        refine SW.regT tabOk [4] ?_
        refine ai trivial ?_
        refine SW.ret ?_
        refine retOk1 rfl (congrArg D.b ?_)
        cases a; cases b; simp_all
      · skip
        refine SW.skip ?_
        refine SW.seq ?_
        refine SW.seq ?_
        refine SW.regT tabOk [2, 3, 24] ?_
        refine ai (by first | trivial | rfl) (ai vc (ai (by first | trivial | rfl) (ai vc (ai trivial ?_))))
        refine SW.cond rfl (fun c24 => ?_) (fun c24 => ?_)
        · skip
          refine SW.seq ?_
          refine SW.regT tabOk [4] ?_
          refine ai trivial ?_
          refine SW.ret ?_
          refine retOk1 rfl (congrArg D.b ?_)
          cases a; cases b; simp_all
        · skip
          refine SW.skip ?_
          refine SW.seq ?_
          refine SW.seq ?_
          refine SW.regT tabOk [2, 3, 29] ?_
          refine ai (by first | trivial | rfl) (ai vc (ai (by first | trivial | rfl) (ai vc (ai trivial ?_))))
          refine SW.cond rfl (fun c29 => ?_) (fun c29 => ?_)
          · skip
            refine SW.seq ?_
            refine SW.regT tabOk [4] ?_
            refine ai trivial ?_
            refine SW.ret ?_
            refine retOk1 rfl (congrArg D.b ?_)
            cases a; cases b; simp_all
          · skip
            refine SW.skip ?_
            refine SW.seq ?_
            refine SW.seq ?_
            refine SW.regT tabOk [2, 3, 34] ?_
            refine ai (by first | trivial | rfl) (ai vc (ai (by first | trivial | rfl) (ai vc (ai trivial ?_))))
            refine SW.cond rfl (fun c34 => ?_) (fun c34 => ?_)
            · skip
              refine SW.seq ?_
              refine SW.regT tabOk [4] ?_
              refine ai trivial ?_
              refine SW.ret ?_
              refine retOk1 rfl (congrArg D.b ?_)
              cases a; cases b; simp_all
            · skip
              refine SW.skip ?_
              refine SW.seq ?_
              refine SW.seq ?_
              refine SW.regT tabOk [2, 3, 39] ?_
              refine ai (by first | trivial | rfl) (ai vc (ai (by first | trivial | rfl) (ai vc (ai trivial ?_))))
              refine SW.cond rfl (fun c39 => ?_) (fun c39 => ?_)
              · skip
                refine SW.seq ?_
                refine SW.regT tabOk [4] ?_
                refine ai trivial ?_
                refine SW.ret ?_
                refine retOk1 rfl (congrArg D.b ?_)
                cases a; cases b; simp_all
              · skip
                refine SW.skip ?_
                refine SW.seq ?_
                refine SW.seq ?_
                refine SW.regT tabOk [2, 3, 44] ?_
                refine ai (by first | trivial | rfl) (ai vc (ai (by first | trivial | rfl) (ai vc (ai trivial ?_))))
                refine SW.cond rfl (fun c44 => ?_) (fun c44 => ?_)
                · skip
                  refine SW.seq ?_
                  refine SW.regT tabOk [4] ?_
                  refine ai trivial ?_
                  refine SW.ret ?_
                  refine retOk1 rfl (congrArg D.b ?_)
                  cases a; cases b; simp_all
                · skip
                  refine SW.skip ?_
                  refine SW.seq ?_
                  refine SW.seq ?_
                  refine SW.regT tabOk [2, 3, 49] ?_
                  refine ai (by first | trivial | rfl) (ai vc (ai (by first | trivial | rfl) (ai vc (ai trivial ?_))))
                  refine SW.cond rfl (fun c49 => ?_) (fun c49 => ?_)
                  · skip
                    refine SW.seq ?_
                    refine SW.regT tabOk [4] ?_
                    refine ai trivial ?_
                    refine SW.ret ?_
                    refine retOk1 rfl (congrArg D.b ?_)
                    cases a; cases b; simp_all
                  · skip
                    refine SW.skip ?_
                    refine SW.seq ?_
                    refine SW.seq ?_
                    refine SW.regT tabOk [54] ?_
                    refine ai (by first | trivial | rfl) (ai vc (ai (by first | trivial | rfl) (ai vc (ai vc ?_))))
                    refine SW.cond rfl (fun c54 => ?_) (fun c54 => ?_)
                    · skip
                      refine SW.seq ?_
                      refine SW.regT tabOk [4] ?_
                      refine ai trivial ?_
                      refine SW.ret ?_
                      refine retOk1 rfl (congrArg D.b ?_)
                      cases a; cases b; simp_all
                    · skip
                      refine SW.skip ?_
                      refine SW.seq ?_
                      refine SW.regT tabOk [4] ?_
                      refine ai trivial ?_
                      refine SW.ret ?_
                      refine retOk1 rfl (congrArg D.b ?_)
                      cases a; cases b; simp_all

set_option maxHeartbeats 1600000 in
theorem s_impl_KeeperMix (k : KeeperR) (f n mix : Int) (hl : k.log.length ≤ 140737488355328) : Ab.Spec Tryz.prog 13 4 [(.t 0, .v (k.V)), (.t 1, .v (I f)), (.t 2, .v (I n)), (.t 3, .v (I mix))] [(.t 0, .v (.tup [.agg [.d (.i ((keeperMix k f n mix).1).kind), .d (.i ((keeperMix k f n mix).1).src), .d (.i ((keeperMix k f n mix).1).dst), .d (.i ((keeperMix k f n mix).1).frm), .d (.i ((keeperMix k f n mix).1).num), .d (.i ((keeperMix k f n mix).1).to), .d (.i ((keeperMix k f n mix).1).til), .d (.i ((keeperMix k f n mix).1).size), .d (.i ((keeperMix k f n mix).1).mix), .d (.s ((keeperMix k f n mix).1).data)], .c (.d (.b (keeperMix k f n mix).2))]))] := by
  refine spec_of_body tabOk Tryz.func13 rfl (by kernel_rfl) (by decide) (by kernel_rfl) rfl ?_
  refine SW.seq ?_
  refine SW.regT tabOk [1, 2, 3, 4, 8, 17, 18, 19, 22, 23, 24] ?_
  refine ai trivial (ai trivial (ai trivial ?_))
  refine SW.seq ?_
  refine SW.seq ?_
  refine SW.regT tabOk [1, 2, 3, 4, 8, 25] ?_
  refine ai vc ?_
  refine ex_pure (s_impl_KeeperOk k hl) rfl rfl rfl rfl rfl rfl rfl rfl ?_
  refine ai trivial (ai trivial (ai (fun h => (by first | trivial | rfl)) (ai rk (ai (fun h => vc) (ai rk (ai (fun h => trivial) (ai rk (ai pk (ai trivial (ai (fun h => trivial) (ai rk ?_)))))))))))
  refine exc_pure (fun h => (s_impl_in _ _ _)) rfl rfl rfl rfl rfl rfl rfl rfl rk ?_
  refine ai (fun h => trivial) (ai rk (ai pk ?_))
  refine SW.cond rfl (fun c25 => ?_) (fun c25 => ?_)
  · skip
    have hn : keeperMix k f n mix = (.zero, false) := keeperMix_no (by
      intro h9
      simp only [Bool.and_eq_true] at h9
      rw [h9.1.1.1, h9.1.1.2, h9.1.2] at c25
      cases c25)
    refine SW.seq ?_
    refine SW.regT tabOk [8, 9] ?_
    refine ai vc (ai ⟨by kernel_rfl, Nat.le_of_ble_eq_true (by kernel_rfl)⟩ (ai trivial ?_))
    refine SW.ret ?_
    have hr := hn
    refine retOkP rfl rfl ?_
    rw [hr]
    rfl
  · skip
    have hok : keeperOk k = true ∧ k.up = true ∧ inB mix 0 999 = true := by
      revert c25
      cases keeperOk k <;> cases k.up <;> cases inB mix 0 999 <;> simp
    obtain ⟨hok, hup, hmx⟩ := hok
    have hlg := (keeperOk_log hok).2.1
    have hK := keeperHas_yes hok
    have h6 := keepOk_six (hasOf_ok hok)
    refine SW.skip ?_
    refine SW.seq ?_
    refine SW.regT tabOk [1, 2, 3, 4, 8, 10] ?_
    refine ai vc ?_
    refine ex_pure (s_impl_KeeperHas k hl) rfl rfl rfl rfl rfl rfl rfl rfl ?_
    refine ai vc (ai trivial ?_)
    refine SW.seq ?_
    refine SW.regT tabOk [3, 4, 8, 10, 11] ?_
    refine ai trivial (ai trivial (ai trivial ?_))
    refine ex_pure (s_impl_noteAt (keeperHas k).held f n (by rw [hK]; have := h6.1; omega)) rfl rfl rfl rfl rfl rfl rfl rfl ?_
    refine ai trivial ?_
    refine SW.seq ?_
    refine SW.seq ?_
    refine SW.regT tabOk [3, 4, 8, 10, 11, 35] ?_
    refine ai trivial (ai trivial ?_)
    refine SW.cond rfl (fun c35 => ?_) (fun c35 => ?_)
    · skip
      have hn : keeperMix k f n mix = (.zero, false) := keeperMix_no (by
        intro h9
        simp only [Bool.and_eq_true, decide_eq_true_eq] at h9
        have h8 := of_decide_eq_true c35
        rw [hK] at h8
        exact absurd h9.2 (by omega))
      refine SW.seq ?_
      refine SW.regT tabOk [8, 9] ?_
      refine ai vc (ai ⟨by kernel_rfl, Nat.le_of_ble_eq_true (by kernel_rfl)⟩ (ai trivial ?_))
      refine SW.ret ?_
      have hr := hn
      refine retOkP rfl rfl ?_
      rw [hr]
      rfl
    · skip
      have hp : 0 ≤ noteAt (hasOf k).1.held f n := by
        have h8 := of_decide_eq_false c35
        rw [hK] at h8
        omega
      have hy := keeperMix_yes hok hup hmx hp
      obtain ⟨j, hj, hjl, hjt⟩ := held_spot hok hp
      have hg := noteRows_getD (l := (hasOf k).1.held) hjl
      rw [hj, Int.toNat_natCast] at hy
      refine SW.skip ?_
      refine SW.seq ?_
      refine SW.regT tabOk [3, 4, 8, 12] ?_
      refine ai trivial (ai trivial (ai (by rw [hK, hj, Int.toNat_natCast, hg]; exact ⟨⟨by omega, by rw [noteRows_length]; omega⟩, rfl⟩) (ai (by rw [hK, hj, Int.toNat_natCast, hg]; exact ⟨Nat.le_of_ble_eq_true rfl, rfl⟩) (ai trivial (ai ⟨by kernel_rfl, Nat.le_of_ble_eq_true (by kernel_rfl)⟩ ?_)))))
      refine SW.seq ?_
      refine SW.wk (J := fun s => s = [(.t 4, .v (.e (.c (.pt 4 0)))), (.t 8, .v (.e (.c (.pt 8 0)))), (.t 12, .v (.e (.c (.pt 12 0)))), (.t 3, .v (I mix)), (.o 4, .box 35 [.d (.i (k).id), .d (.b (k).up), .d (.s (k).log), .d (.i (k).forced), .d (.sl (halfRows (k).halves))]), (.o 8, .box 29 [.d (.i 0), .d (.i 0), .d (.i 0), .d (.i 0), .d (.i 0), .d (.i 0), .d (.i 0), .d (.i 0), .d (.i 0), .d (.s [])]), (.o 12, .box 64 [.d (.i (((hasOf k).1.held.getD j .zero)).frm), .d (.i (((hasOf k).1.held.getD j .zero)).num), .d (.i (((hasOf k).1.held.getD j .zero)).to), .d (.i (((hasOf k).1.held.getD j .zero)).til), .d (.s (((hasOf k).1.held.getD j .zero)).text)])]) ?_ ?_
      · skip
        refine wk [(.t 4, .v (.e (.c (.pt 4 0)))), (.t 8, .v (.e (.c (.pt 8 0)))), (.t 12, .v (.e (.c (.pt 12 0)))), (.t 3, .v (I mix)), (.o 4, .box 35 [.d (.i (k).id), .d (.b (k).up), .d (.s (k).log), .d (.i (k).forced), .d (.sl (halfRows (k).halves))]), (.o 8, .box 29 [.d (.i 0), .d (.i 0), .d (.i 0), .d (.i 0), .d (.i 0), .d (.i 0), .d (.i 0), .d (.i 0), .d (.i 0), .d (.s [])]), (.o 12, .box 64 [.d (.i (((hasOf k).1.held.getD j .zero)).frm), .d (.i (((hasOf k).1.held.getD j .zero)).num), .d (.i (((hasOf k).1.held.getD j .zero)).to), .d (.i (((hasOf k).1.held.getD j .zero)).til), .d (.s (((hasOf k).1.held.getD j .zero)).text)])] [] [] (rfl) ?_ rfl rfl
        repeat' first | exact trivial | refine mL_nil rfl ?_ | refine mL_d rfl ?_ ?_ | refine mL_own rfl rfl ?_ rfl ?_ | refine mL_row rfl ?_ ?_ | refine mL_pt rfl rfl rfl rfl ?_ | refine mL_box rfl ?_ ?_ | refine mL_agg rfl ?_ ?_ | exact mCs_nil0 | refine mCs_d ?_ ?_ | refine mCs_nil ?_ | refine mCs_own rfl ?_ rfl ?_ | refine mCs_pt rfl rfl rfl ?_
        all_goals first | with_reducible rfl | (first | with_reducible rfl | (rw [hK, hj, Int.toNat_natCast, hg]; rfl))
      rintro s rfl
      refine SW.regD tabOk mo [8, 9] ?_
      refine ai (by first | trivial | rfl) (ai vc (ai (by first | trivial | rfl) (ai vc (ai (by first | trivial | rfl) (ai vc ?_)))))
      refine ex_pure (s_impl_NoteNext _ _) rfl rfl rfl rfl rfl rfl rfl rfl ?_
      refine ai (by first | trivial | rfl) (ai vc (ai (by first | trivial | rfl) (ai vc (ai (by first | trivial | rfl) (ai vc (ai (by first | trivial | rfl) (ai vc (ai (by first | trivial | rfl) (ai vc (ai vc (ai trivial (ai (by first | trivial | rfl) (ai vc (ai trivial ?_))))))))))))))
      refine ex_pure (s_impl_MixMake ((hasOf k).1.held.getD j .zero).text mix hjt) rfl rfl rfl rfl rfl rfl rfl rfl ?_
      refine ai vc (ai ⟨by kernel_rfl, Nat.le_of_ble_eq_true (by kernel_rfl)⟩ (ai trivial (ai (by kernel_rfl) ?_)))
      refine SW.ret ?_
      have hr := hy
      refine retOkP rfl rfl ?_
      rw [hr]
      rfl

set_option maxHeartbeats 1600000 in
theorem s_spec_KeeperMix (k : KeeperR) (f n mix : Int) (hl : k.log.length ≤ 140737488355328) : Ab.Spec Tryz.prog 11 4 [(.t 0, .v (k.V)), (.t 1, .v (I f)), (.t 2, .v (I n)), (.t 3, .v (I mix))] [(.t 0, .v (.tup [.agg [.d (.i ((keeperMix k f n mix).1).kind), .d (.i ((keeperMix k f n mix).1).src), .d (.i ((keeperMix k f n mix).1).dst), .d (.i ((keeperMix k f n mix).1).frm), .d (.i ((keeperMix k f n mix).1).num), .d (.i ((keeperMix k f n mix).1).to), .d (.i ((keeperMix k f n mix).1).til), .d (.i ((keeperMix k f n mix).1).size), .d (.i ((keeperMix k f n mix).1).mix), .d (.s ((keeperMix k f n mix).1).data)], .c (.d (.b (keeperMix k f n mix).2))]))] := by
  refine spec_of_body tabOk Tryz.func11 rfl (by kernel_rfl) (by decide) (by kernel_rfl) rfl ?_
  refine SW.seq ?_
  refine SW.regT tabOk [1, 2, 3, 4, 8, 18, 19, 20, 36, 37, 38] ?_
  refine ai trivial (ai trivial (ai trivial ?_))
  refine SW.seq ?_
  refine SW.seq ?_
  refine SW.regT tabOk [1, 2, 3, 4, 8, 21, 36, 37, 38] ?_
  refine ai vc ?_
  refine ex_pure (s_spec_KeeperOk k hl) rfl rfl rfl rfl rfl rfl rfl rfl ?_
  refine ai trivial (ai trivial (ai (fun h => (by first | trivial | rfl)) (ai rk (ai (fun h => vc) (ai rk (ai (fun h => trivial) (ai rk (ai pk ?_))))))))
  refine SW.cond rfl (fun c21 => ?_) (fun c21 => ?_)
  · skip
    have hn : keeperMix k f n mix = (.zero, false) := keeperMix_no (by
      intro h9
      simp only [Bool.and_eq_true] at h9
      rw [h9.1.1.1, h9.1.1.2] at c21
      cases c21)
    refine SW.seq ?_
    refine SW.regT tabOk [8, 9] ?_
    refine ai vc (ai ⟨by kernel_rfl, Nat.le_of_ble_eq_true (by kernel_rfl)⟩ (ai trivial ?_))
    refine SW.ret ?_
    have hr := hn
    refine retOkP rfl rfl ?_
    rw [hr]
    rfl
  · skip
    have hok : keeperOk k = true ∧ k.up = true := by
      revert c21
      cases keeperOk k <;> cases k.up <;> simp
    obtain ⟨hok, hup⟩ := hok
    have hlg := (keeperOk_log hok).2.1
    have h6 := keepOk_six (hasOf_ok hok)
    refine SW.skip ?_
    refine SW.seq ?_
    refine SW.regT tabOk [1, 2, 3, 4, 8, 10, 36, 37, 38] ?_
    refine ai vc ?_
    refine ex_pure (s_spec_l22Has k (by omega)) rfl rfl rfl rfl rfl rfl rfl rfl ?_
    refine ai trivial (ai trivial (ai trivial (ai trivial (ai ⟨by kernel_rfl, Nat.le_of_ble_eq_true (by kernel_rfl)⟩ (ai trivial ?_)))))
    refine SW.seq ?_
    refine SW.regT tabOk [3, 4, 8, 10, 12, 36, 37, 38] ?_
    refine ai (by first | trivial | rfl) (ai vc (ai trivial (ai trivial ?_)))
    refine ex_pure (s_spec_l12Held (hasOf k).1.held f n (by have := h6.1; omega)) rfl rfl rfl rfl rfl rfl rfl rfl ?_
    refine ai trivial ?_
    refine SW.seq ?_
    refine SW.seq ?_
    refine SW.regT tabOk [3, 4, 8, 10, 12, 39] ?_
    refine ai trivial (ai trivial (ai trivial (ai (fun h => trivial) (ai rk ?_))))
    refine exc_pure (fun h => (s_spec_l6In _ _ _)) rfl rfl rfl rfl rfl rfl rfl rfl rk ?_
    refine ai (fun h => trivial) (ai rk (ai pk ?_))
    refine SW.cond rfl (fun c39 => ?_) (fun c39 => ?_)
    · skip
      have hn : keeperMix k f n mix = (.zero, false) := keeperMix_no (by
        intro h9
        simp only [Bool.and_eq_true, decide_eq_true_eq] at h9
        rw [h9.1.2, decide_eq_false (show ¬ noteAt (hasOf k).1.held f n < 0 by omega)] at c39
        cases c39)
      refine SW.seq ?_
      refine SW.regT tabOk [8, 9] ?_
      refine ai vc (ai ⟨by kernel_rfl, Nat.le_of_ble_eq_true (by kernel_rfl)⟩ (ai trivial ?_))
      refine SW.ret ?_
      have hr := hn
      refine retOkP rfl rfl ?_
      rw [hr]
      rfl
    · skip
      have hpm : 0 ≤ noteAt (hasOf k).1.held f n ∧ inB mix 0 999 = true := by
        by_cases h8 : noteAt (hasOf k).1.held f n < 0
        · rw [decide_eq_true h8] at c39; cases c39
        · refine ⟨by omega, ?_⟩
          rw [decide_eq_false h8] at c39
          simpa using c39
      obtain ⟨hp, hmx⟩ := hpm
      have hy := keeperMix_yes hok hup hmx hp
      obtain ⟨j, hj, hjl, hjt⟩ := held_spot hok hp
      have hg := noteRows_getD (l := (hasOf k).1.held) hjl
      rw [hj, Int.toNat_natCast] at hy
      refine SW.skip ?_
      refine SW.seq ?_
      refine SW.regT tabOk [3, 4, 8, 13] ?_
      refine ai (by first | trivial | rfl) (ai vc (ai trivial (ai (by rw [hj, Int.toNat_natCast, hg]; exact ⟨⟨by omega, by rw [noteRows_length]; omega⟩, rfl⟩) (ai (by rw [hj, Int.toNat_natCast, hg]; exact ⟨Nat.le_of_ble_eq_true rfl, rfl⟩) (ai trivial (ai ⟨by kernel_rfl, Nat.le_of_ble_eq_true (by kernel_rfl)⟩ ?_))))))
      refine SW.seq ?_
      refine SW.wk (J := fun s => s = [(.t 4, .v (.e (.c (.pt 4 0)))), (.t 8, .v (.e (.c (.pt 8 0)))), (.t 13, .v (.e (.c (.pt 13 0)))), (.t 3, .v (I mix)), (.o 4, .box 35 [.d (.i (k).id), .d (.b (k).up), .d (.s (k).log), .d (.i (k).forced), .d (.sl (halfRows (k).halves))]), (.o 8, .box 29 [.d (.i 0), .d (.i 0), .d (.i 0), .d (.i 0), .d (.i 0), .d (.i 0), .d (.i 0), .d (.i 0), .d (.i 0), .d (.s [])]), (.o 13, .box 64 [.d (.i (((hasOf k).1.held.getD j .zero)).frm), .d (.i (((hasOf k).1.held.getD j .zero)).num), .d (.i (((hasOf k).1.held.getD j .zero)).to), .d (.i (((hasOf k).1.held.getD j .zero)).til), .d (.s (((hasOf k).1.held.getD j .zero)).text)])]) ?_ ?_
      · skip
        refine wk [(.t 4, .v (.e (.c (.pt 4 0)))), (.t 8, .v (.e (.c (.pt 8 0)))), (.t 13, .v (.e (.c (.pt 13 0)))), (.t 3, .v (I mix)), (.o 4, .box 35 [.d (.i (k).id), .d (.b (k).up), .d (.s (k).log), .d (.i (k).forced), .d (.sl (halfRows (k).halves))]), (.o 8, .box 29 [.d (.i 0), .d (.i 0), .d (.i 0), .d (.i 0), .d (.i 0), .d (.i 0), .d (.i 0), .d (.i 0), .d (.i 0), .d (.s [])]), (.o 13, .box 64 [.d (.i (((hasOf k).1.held.getD j .zero)).frm), .d (.i (((hasOf k).1.held.getD j .zero)).num), .d (.i (((hasOf k).1.held.getD j .zero)).to), .d (.i (((hasOf k).1.held.getD j .zero)).til), .d (.s (((hasOf k).1.held.getD j .zero)).text)])] [] [] (rfl) ?_ rfl rfl
        repeat' first | exact trivial | refine mL_nil rfl ?_ | refine mL_d rfl ?_ ?_ | refine mL_own rfl rfl ?_ rfl ?_ | refine mL_row rfl ?_ ?_ | refine mL_pt rfl rfl rfl rfl ?_ | refine mL_box rfl ?_ ?_ | refine mL_agg rfl ?_ ?_ | exact mCs_nil0 | refine mCs_d ?_ ?_ | refine mCs_nil ?_ | refine mCs_own rfl ?_ rfl ?_ | refine mCs_pt rfl rfl rfl ?_
        all_goals first | with_reducible rfl | (first | with_reducible rfl | (rw [hj, Int.toNat_natCast, hg]; rfl))
      rintro s rfl
      refine SW.regD tabOk mo [8, 9] ?_
      refine ai (by first | trivial | rfl) (ai vc (ai (by first | trivial | rfl) (ai vc (ai (by first | trivial | rfl) (ai vc ?_)))))
      refine ex_pure (s_spec_NoteNext _ _) rfl rfl rfl rfl rfl rfl rfl rfl ?_
      refine ai (by first | trivial | rfl) (ai vc (ai (by first | trivial | rfl) (ai vc (ai (by first | trivial | rfl) (ai vc (ai (by first | trivial | rfl) (ai vc (ai (by first | trivial | rfl) (ai vc (ai vc (ai trivial (ai (by first | trivial | rfl) (ai vc (ai trivial ?_))))))))))))))
      refine ex_pure (s_spec_MixMake ((hasOf k).1.held.getD j .zero).text mix hjt) rfl rfl rfl rfl rfl rfl rfl rfl ?_
      refine ai vc (ai ⟨by kernel_rfl, Nat.le_of_ble_eq_true (by kernel_rfl)⟩ (ai trivial (ai (by kernel_rfl) ?_)))
      refine SW.ret ?_
      have hr := hy
      refine retOkP rfl rfl ?_
      rw [hr]
      rfl

set_option maxHeartbeats 1600000 in
theorem s_laws_FnExactKeeperMix (k : KeeperR) (a b c : Int) (hk : KRB k) : Ab.Spec Tryz.prog 3 4 [(.t 0, .v (k.V)), (.t 1, .v (I a)), (.t 2, .v (I b)), (.t 3, .v (I c))] [(.t 0, .v (B true))] := by
  refine spec_of_body tabOk Tryz.func3 rfl (by kernel_rfl) (by decide) (by kernel_rfl) rfl ?_
  refine SW.seq ?_
  refine SW.regT tabOk [1, 2, 3, 4, 44, 45, 46] ?_
  refine ai trivial (ai trivial ?_)
  refine SW.seq ?_
  refine SW.regT tabOk [1, 2, 3, 4, 9, 44, 45, 46] ?_
  refine ai trivial ?_
  refine SW.seq ?_
  refine SW.regE tabOk [1, 2, 3, 4, 9, 44, 45, 46] ?_
  refine ai vc (ai trivial ?_)
  refine ee_call (rl := []) (bor := []) (news := []) (robj := []) (s_laws_szKeeper k _ hk) rfl rfl rfl rfl (match_plain rfl) (fun σ hσ => by obtain ⟨r, rfl⟩ := hσ; exact ⟨rfl, .inl rfl, fun j hj => by simp [newIds, objIds] at hj⟩) (fun p hp => nomatch hp) (fun j hj => nomatch hj) ?_
  rintro σ ⟨x1, rfl⟩
  refine ai trivial ?_
  refine SW.seq ?_
  refine SW.seq ?_
  refine SW.regT tabOk [1, 2, 3, 4, 19, 44, 45, 46] ?_
  refine ai trivial (ai trivial ?_)
  refine SW.cond rfl (fun c19 => ?_) (fun c19 => ?_)
  · skip
    refine SW.seq ?_
    refine SW.regT tabOk [8] ?_
    refine ai trivial ?_
    refine SW.ret ?_
    refine retOk1 rfl (congrArg D.b ?_)
    first | rfl | (simp at *; done)
  · skip
    refine SW.skip ?_
    refine SW.seq ?_
    refine SW.regT tabOk [1, 2, 3, 4, 10, 11, 44, 45, 46] ?_
    refine ai vc ?_
    refine ex_pure (s_laws_toKeeper k hk) rfl rfl rfl rfl rfl rfl rfl rfl ?_
    refine ai trivial (ai trivial (ai trivial ?_))
    refine ex_pure (s_spec_KeeperMix k a b c hk.1) rfl rfl rfl rfl rfl rfl rfl rfl ?_
    refine ai trivial (ai trivial (ai trivial (ai trivial (ai ⟨by kernel_rfl, Nat.le_of_ble_eq_true (by kernel_rfl)⟩ (ai trivial ?_)))))
    refine SW.seq ?_
    refine SW.regT tabOk [1, 2, 3, 4, 10, 11, 12, 44, 45, 46] ?_
    refine ai vc ?_
    refine ex_pure (s_laws_toKeeper k hk) rfl rfl rfl rfl rfl rfl rfl rfl ?_
    refine ai trivial (ai ⟨by kernel_rfl, Nat.le_of_ble_eq_true (by kernel_rfl)⟩ ?_)
    refine SW.seq ?_
    refine SW.regT tabOk [4, 10, 11, 12, 13, 14, 44, 45, 46] ?_
    refine ai vc (ai trivial (ai trivial (ai trivial ?_)))
    refine ex_pure (s_impl_KeeperMix k a b c hk.1) rfl rfl rfl rfl rfl rfl rfl rfl ?_
    refine ai trivial (ai trivial (ai trivial (ai trivial (ai ⟨by kernel_rfl, Nat.le_of_ble_eq_true (by kernel_rfl)⟩ (ai trivial ?_)))))
    refine SW.seq ?_
    refine SW.seq ?_
    refine SW.regT tabOk [4, 12, 47] ?_
    refine ai vc (ai vc ?_)
    refine ex_pure (s_laws_eqFrame (keeperMix k a b c).1 (keeperMix k a b c).1) rfl rfl rfl rfl rfl rfl rfl rfl ?_
    refine ai trivial (ai trivial (ai (fun h => trivial) (ai rk (ai (fun h => trivial) (ai rk (ai (fun h => trivial) (ai rk (ai pk ?_))))))))
    refine SW.cond rfl (fun c47 => ?_) (fun c47 => ?_)
    · skip
      refine SW.seq ?_
      refine SW.regT tabOk [8] ?_
      refine ai trivial ?_
      refine SW.ret ?_
      refine retOk1 rfl (congrArg D.b ?_)
      first | rfl | (simp at *; done)
    · skip
      refine SW.skip ?_
      refine SW.seq ?_
      refine SW.seq ?_
      refine SW.regD tabOk mo [52] ?_
      refine ai vc (ai vc ?_)
      refine ex_pure (s_laws_toKeeper k hk) rfl rfl rfl rfl rfl rfl rfl rfl ?_
      refine ex_pure (s_laws_eqKeeper k k hk) rfl rfl rfl rfl rfl rfl rfl rfl ?_
      refine ai trivial (ai (by kernel_rfl) ?_)
      refine SW.cond rfl (fun c52 => ?_) (fun c52 => ?_)
      · skip
        refine SW.seq ?_
        refine SW.regT tabOk [8] ?_
        refine ai trivial ?_
        refine SW.ret ?_
        refine retOk1 rfl (congrArg D.b ?_)
        first | rfl | (simp at *; done)
      · skip
        refine SW.skip ?_
        refine SW.seq ?_
        refine SW.regT tabOk [8] ?_
        refine ai trivial ?_
        refine SW.ret ?_
        refine retOk1 rfl (congrArg D.b ?_)
        first | rfl | (simp at *; done)

end Go.Proofs.YtilahgkblckndaaGreatDoor

namespace Go.Ab
open Go Go.RowKit
set_option linter.unusedVariables false

theorem var_fr {P : Program} {w w' : World} {name : String} {cs : Array Value} (h : w.var? P name = some cs) (hf : Fr (fun _ => False) w w') : w'.var? P name = some cs := by
  unfold World.var? at h ⊢
  cases hg : P.globalNamed name with
  | none => rw [hg] at h; cases h
  | some g =>
    rw [hg] at h
    simp only [Option.bind_some] at h ⊢
    cases hh : w.heap[g]? with
    | none => rw [hh] at h; cases h
    | some o =>
      have hlt : g < w.heap.size := (Array.getElem?_eq_some_iff.1 hh).1
      rw [hf.block g hlt (fun h => h), hh]
      rw [hh] at h
      exact h
theorem var_one {P : Program} {w : World} {name : String} {g : Nat} {cs : Array Value} {t : TypeId} {v : Value} (hg : P.globalNamed name = some g) (hh : w.heap[g]? = some (.cells cs t)) (hs : cs.size = 1) (hc : w.cell? ⟨g, 0, none⟩ = some v) : w.var? P name = some #[v] := by
  have e : cs = #[v] := by
    have h1 : w.cell? ⟨g, 0, none⟩ = cs[0]? := by rw [cell_of_row w g 0 cs t (0, 0) hh]
    rw [hc] at h1
    apply Array.ext
    · simpa using hs
    · intro i h2 h3
      have : i = 0 := by have : i < 1 := by simpa using h3
                         omega
      subst this
      rw [Array.getElem?_eq_getElem h2] at h1
      exact (Option.some.inj h1).symm
  subst e
  unfold World.var?
  rw [hg]
  simp only [Option.bind_some]
  rw [hh]
theorem gb_of {P : Program} {w : World} (h1 : Lib.TabIs P w "internal/strconv.uint64pow10" .u64 Lib.pow10Tab) (h2 : ∃ m, w.var? P "internal/bytealg.MaxLen" = some #[.int .i64 m]) : GB P w fun _ => False := fun w' hf => ⟨var_fr h1 hf, h2.imp fun m hm => var_fr hm hf⟩
end Go.Ab

