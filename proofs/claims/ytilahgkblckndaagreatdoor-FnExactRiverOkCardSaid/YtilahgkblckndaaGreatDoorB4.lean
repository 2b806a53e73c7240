/- Plain functions, and contracts of the functions that the law reaches. -/
import Derived.Shelf.Vars
import Derived.Stop.LaidErr
import Derived.MakeChecks
import Derived.Test.YtilahgkblckndaaGreatDoorB3
namespace Go.Proofs.YtilahgkblckndaaGreatDoor
open Go Go.Ab Go.RowKit
set_option linter.unusedVariables false
set_option linter.unusedSimpArgs false

set_option maxHeartbeats 1600000 in
theorem s_spec_l22HalfOk (h : HalfR) : Ab.Spec Tryz.prog 99 1 [(.t 0, .v (h.V))] [(.t 0, .v (B (halfOk h)))] := by
  refine spec_of_body tabOk Tryz.func99 rfl (by kernel_rfl) (by decide) (by kernel_rfl) rfl ?_
  refine SW.seq ?_
  refine SW.regT tabOk [1, 10, 11, 12, 13, 16, 17, 18, 19, 22, 23, 24, 25, 28, 29, 30, 31, 34, 35, 36, 37] ?_
  refine ai trivial (ai trivial ?_)
  refine SW.seq ?_
  refine SW.seq ?_
  refine SW.regT tabOk [1, 38] ?_
  refine ai (by first | trivial | rfl) (ai vc ?_)
  refine ex_pure (s_spec_l3Keeper _) rfl rfl rfl rfl rfl rfl rfl rfl ?_
  refine ai trivial (ai trivial (ai (fun h => (by first | trivial | rfl)) (ai rk (ai (fun h => vc) (ai rk ?_)))))
  refine exc_pure (fun h => (s_spec_l3Keeper _)) rfl rfl rfl rfl rfl rfl rfl rfl rk ?_
  refine ai (fun h => trivial) (ai rk (ai pk (ai trivial (ai (fun h => (by first | trivial | rfl)) (ai rk (ai (fun h => vc) (ai rk ?_)))))))
  refine exc_pure (fun h => (s_spec_l6In _ _ _)) rfl rfl rfl rfl rfl rfl rfl rfl rk ?_
  refine ai (fun h => trivial) (ai rk (ai pk (ai trivial (ai (fun h => (by first | trivial | rfl)) (ai rk (ai (fun h => vc) (ai rk ?_)))))))
  refine exc_pure (fun h => (s_spec_l6In _ _ _)) rfl rfl rfl rfl rfl rfl rfl rfl rk ?_
  refine ai (fun h => trivial) (ai rk (ai pk (ai trivial (ai (fun h => (by first | trivial | rfl)) (ai rk (ai (fun h => vc) (ai rk ?_)))))))
  refine exc_pure (fun h => (s_spec_l6In _ _ _)) rfl rfl rfl rfl rfl rfl rfl rfl rk ?_
  refine ai (fun h => trivial) (ai rk (ai pk (ai trivial (ai (fun h => (by first | trivial | rfl)) (ai rk (ai (fun h => vc) (ai rk (ai (fun h => vc) (ai rk (ai (fun h => trivial) (ai rk (ai pk ?_))))))))))))
  refine SW.cond rfl (fun c38 => ?_) (fun c38 => ?_)
  · skip
    have hh := half_gen c38
    refine SW.seq ?_
    refine SW.regT tabOk [2] ?_
    refine ai trivial ?_
    refine SW.ret ?_
    refine retOk1 rfl (congrArg D.b ?_)
    rw [halfOk, hh]; rfl
  · skip
    have hh := half_gen c38
    obtain ⟨p1, p2, p3, p4, p5, p6⟩ := halfHead_parts hh
    have hb1 : inB ((h.size + 3) / 4) 1 6 = true := by simp only [inB, Bool.and_eq_true, decide_eq_true_eq]; omega
    refine SW.skip ?_
    refine SW.seq ?_
    refine SW.seq ?_
    refine SW.regT tabOk [1, 3] ?_
    refine ai trivial ?_
    refine SW.block ?_
    -- live at the head: [1, 3]
    refine SW.loopW (n := h.got.length) (fun m q => ∃ i : Nat, m = h.got.length - i ∧ i ≤ h.got.length ∧ (∀ k, k < i → gotStep h.got k = true) ∧ q = [(.t 1, .v (.e (.c (.pt 1 0)))), (.t 3, .v (I (i : Nat))), (.o 1, .box 136 [.d (.i (h).frm), .d (.i (h).num), .d (.i (h).to), .d (.i (h).til), .d (.i (h).size), .d (.sl (mixRows (h).got))])]) ?_ ?_
    · skip
      refine wk [(.t 1, .v (.e (.c (.pt 1 0)))), (.t 3, .v (I (0 : Nat))), (.o 1, .box 136 [.d (.i (h).frm), .d (.i (h).num), .d (.i (h).to), .d (.i (h).til), .d (.i (h).size), .d (.sl (mixRows (h).got))])] [] [] (⟨0, rfl, Nat.zero_le _, fun k h => absurd h (by omega), rfl⟩) ?_ rfl rfl
      repeat' first | exact trivial | refine mL_nil rfl ?_ | refine mL_d rfl ?_ ?_ | refine mL_own rfl rfl ?_ rfl ?_ | refine mL_row rfl ?_ ?_ | refine mL_pt rfl rfl rfl rfl ?_ | refine mL_box rfl ?_ ?_ | refine mL_agg rfl ?_ ?_ | exact mCs_nil0 | refine mCs_d ?_ ?_ | refine mCs_nil ?_ | refine mCs_own rfl ?_ rfl ?_ | refine mCs_pt rfl rfl rfl ?_
      all_goals first | with_reducible rfl | (first | rfl | (simp; done) | omega)
    rintro n s ⟨i, rfl, hi, hk, rfl⟩
    refine SW.seq ?_
    refine SW.seq ?_
    refine SW.regT tabOk [1, 3, 43] ?_
    refine ai trivial (ai (by first | trivial | rfl) (ai vc (ai vc (ai trivial ?_))))
    refine SW.cond rfl (fun c43 => ?_) (fun c43 => ?_)
    · skip
      have hi2 : i < h.got.length := by simpa [mixRows_length] using c43
      have hg := mixRows_getD (l := h.got) hi2
      refine SW.skip ?_
      refine SW.seq ?_
      refine SW.block ?_
      refine SW.seq ?_
      refine SW.seq ?_
      refine SW.regD tabOk mo [1, 3, 55] ?_
      refine ai (by first | trivial | rfl) (ai vc ?_)
      refine ex_pure (s_spec_l2Blocks h.size (by omega)) rfl rfl rfl rfl rfl rfl rfl rfl ?_
      refine ai (by first | trivial | rfl) (ai vc (ai trivial (ai (by rw [Int.toNat_natCast, hg]; exact ⟨⟨by omega, by rw [mixRows_length]; omega⟩, rfl⟩) (ai (by rw [Int.toNat_natCast, hg]; exact ⟨Nat.le_of_ble_eq_true rfl, rfl⟩) ?_))))
      refine ex_pure (s_spec_l2Mixed ((h.size + 3) / 4) (h.got.getD i .zero)) rfl rfl rfl rfl rfl (by rw [Int.toNat_natCast, hg]; rfl) rfl rfl ?_
      refine ai trivial (ai (by kernel_rfl) ?_)
      refine SW.cond rfl (fun c55 => ?_) (fun c55 => ?_)
      · skip
        have hm : mixOk (h.got.getD i .zero) = false := by
          have h9 := c55
          rw [l1Ok, hb1, Bool.true_and] at h9
          simpa only [mixOk, Bool.not_eq_true'] using h9
        have hs := gotStep_bad hm
        refine SW.seq ?_
        refine SW.regT tabOk [2] ?_
        refine ai trivial ?_
        refine SW.ret ?_
        refine retOk1 rfl (congrArg D.b ?_)
        rw [halfOk, hh, Bool.not_false, Bool.true_and, all_false hi2 hs]
      · skip
        have hm : mixOk (h.got.getD i .zero) = true := by
          have h9 := c55
          rw [l1Ok, hb1, Bool.true_and] at h9
          simpa only [mixOk, Bool.not_eq_false'] using h9
        refine SW.skip ?_
        refine SW.seq ?_
        refine SW.regT tabOk [1, 3, 4] ?_
        refine ai trivial ?_
        refine SW.block ?_
        -- live at the head: [1, 3, 4]
        refine SW.loopW (n := i) (fun m q => ∃ j : Nat, m = i - j ∧ j ≤ i ∧ (∀ k, k < j → ((h.got.getD k .zero).num == (h.got.getD i .zero).num) = false) ∧ q = [(.t 1, .v (.e (.c (.pt 1 0)))), (.t 3, .v (I (i : Nat))), (.t 4, .v (I (j : Nat))), (.o 1, .box 136 [.d (.i (h).frm), .d (.i (h).num), .d (.i (h).to), .d (.i (h).til), .d (.i (h).size), .d (.sl (mixRows (h).got))])]) ?_ ?_
        · skip
          refine wk [(.t 1, .v (.e (.c (.pt 1 0)))), (.t 3, .v (I (i : Nat))), (.t 4, .v (I (0 : Nat))), (.o 1, .box 136 [.d (.i (h).frm), .d (.i (h).num), .d (.i (h).to), .d (.i (h).til), .d (.i (h).size), .d (.sl (mixRows (h).got))])] [] [] (⟨0, rfl, Nat.zero_le _, fun k h => absurd h (by omega), rfl⟩) ?_ rfl rfl
          repeat' first | exact trivial | refine mL_nil rfl ?_ | refine mL_d rfl ?_ ?_ | refine mL_own rfl rfl ?_ rfl ?_ | refine mL_row rfl ?_ ?_ | refine mL_pt rfl rfl rfl rfl ?_ | refine mL_box rfl ?_ ?_ | refine mL_agg rfl ?_ ?_ | exact mCs_nil0 | refine mCs_d ?_ ?_ | refine mCs_nil ?_ | refine mCs_own rfl ?_ rfl ?_ | refine mCs_pt rfl rfl rfl ?_
          all_goals first | with_reducible rfl | (first | rfl | (simp; done) | omega)
        rintro n s ⟨j, rfl, hj, hkj, rfl⟩
        refine SW.seq ?_
        refine SW.seq ?_
        refine SW.regT tabOk [1, 3, 4, 58] ?_
        refine ai trivial (ai trivial (ai trivial ?_))
        refine SW.cond rfl (fun c58 => ?_) (fun c58 => ?_)
        · skip
          have hj2 : j < i := by simpa using c58
          have hg2 := mixRows_getD (l := h.got) (i := j) (by omega)
          refine SW.skip ?_
          refine SW.seq ?_
          refine SW.block ?_
          refine SW.seq ?_
          refine SW.regD tabOk mo [1, 3, 4, 73] ?_
          refine ai (by first | trivial | rfl) (ai vc (ai trivial (ai (by rw [Int.toNat_natCast, hg2]; exact ⟨⟨by omega, by rw [mixRows_length]; omega⟩, rfl⟩) (ai (by first | trivial | rfl) (ai (by rw [Int.toNat_natCast, hg2]; exact ⟨Nat.le_of_ble_eq_true rfl, rfl⟩) (ai (by first | trivial | rfl) (ai vc (ai trivial (ai (by rw [Int.toNat_natCast, hg]; exact ⟨⟨by omega, by rw [mixRows_length]; omega⟩, rfl⟩) (ai (by first | trivial | rfl) (ai (by rw [Int.toNat_natCast, hg]; exact ⟨Nat.le_of_ble_eq_true rfl, rfl⟩) (ai trivial (ai (by kernel_rfl) ?_)))))))))))))
          refine SW.cond rfl (fun c73 => ?_) (fun c73 => ?_)
          · skip
            have hq : ((h.got.getD j .zero).num == (h.got.getD i .zero).num) = true := by
              have h9 := c73
              rw [Int.toNat_natCast, Int.toNat_natCast, hg2, hg] at h9
              exact h9
            have hs := gotStep_no hj2 hq
            refine SW.seq ?_
            refine SW.regT tabOk [2] ?_
            refine ai trivial ?_
            refine SW.ret ?_
            refine retOk1 rfl (congrArg D.b ?_)
            rw [halfOk, hh, Bool.not_false, Bool.true_and, all_false hi2 hs]
          · skip
            refine SW.skip ?_
            refine SW.regT tabOk [1, 3, 4] ?_
            refine ai trivial (ai trivial (ai trivial ?_))
            have hq : ((h.got.getD j .zero).num == (h.got.getD i .zero).num) = false := by
              have h9 := c73
              rw [Int.toNat_natCast, Int.toNat_natCast, hg2, hg] at h9
              exact h9
            refine wk [(.t 1, .v (.e (.c (.pt 1 0)))), (.t 3, .v (I (i : Nat))), (.t 4, .v (I ((j + 1) : Nat))), (.o 1, .box 136 [.d (.i (h).frm), .d (.i (h).num), .d (.i (h).to), .d (.i (h).til), .d (.i (h).size), .d (.sl (mixRows (h).got))])] [] [] (⟨i - (j + 1), by omega, j + 1, rfl, by omega, fun k h => by by_cases e : k = j; exact e ▸ hq; exact hkj k (by omega), rfl⟩) ?_ rfl rfl
            repeat' first | exact trivial | refine mL_nil rfl ?_ | refine mL_d rfl ?_ ?_ | refine mL_own rfl rfl ?_ rfl ?_ | refine mL_row rfl ?_ ?_ | refine mL_pt rfl rfl rfl rfl ?_ | refine mL_box rfl ?_ ?_ | refine mL_agg rfl ?_ ?_ | exact mCs_nil0 | refine mCs_d ?_ ?_ | refine mCs_nil ?_ | refine mCs_own rfl ?_ rfl ?_ | refine mCs_pt rfl rfl rfl ?_
            all_goals first | with_reducible rfl | (first | with_reducible rfl | exact congrArg D.i (wrap64_of (by omega)))
        · skip
          have hj3 : j = i := by simp at c58; omega
          subst hj3
          have hs := gotStep_yes hm hkj
          refine SW.exit ?_
          refine SW.regT tabOk [1, 3] ?_
          refine ai trivial (ai trivial (ai trivial ?_))
          refine wk [(.t 1, .v (.e (.c (.pt 1 0)))), (.t 3, .v (I ((j + 1) : Nat))), (.o 1, .box 136 [.d (.i (h).frm), .d (.i (h).num), .d (.i (h).to), .d (.i (h).til), .d (.i (h).size), .d (.sl (mixRows (h).got))])] [] [] (⟨h.got.length - (j + 1), by omega, j + 1, rfl, by omega, fun k h => by by_cases e : k = j; exact e ▸ hs; exact hk k (by omega), rfl⟩) ?_ rfl rfl
          repeat' first | exact trivial | refine mL_nil rfl ?_ | refine mL_d rfl ?_ ?_ | refine mL_own rfl rfl ?_ rfl ?_ | refine mL_row rfl ?_ ?_ | refine mL_pt rfl rfl rfl rfl ?_ | refine mL_box rfl ?_ ?_ | refine mL_agg rfl ?_ ?_ | exact mCs_nil0 | refine mCs_d ?_ ?_ | refine mCs_nil ?_ | refine mCs_own rfl ?_ rfl ?_ | refine mCs_pt rfl rfl rfl ?_
          all_goals first | with_reducible rfl | (first | with_reducible rfl | exact congrArg D.i (wrap64_of (by omega)))
    · skip
      have hi3 : i = h.got.length := by simp [mixRows_length] at c43; omega
      refine SW.exit ?_
      refine SW.seq ?_
      refine SW.regT tabOk [2] ?_
      refine ai trivial ?_
      refine SW.ret ?_
      refine retOk1 rfl (congrArg D.b ?_)
      rw [halfOk, hh, Bool.not_false, Bool.true_and]
      subst hi3
      exact (all_true hk).symm

theorem s_impl_halfAt (l : List HalfR) (f m : Int) (hl : l.length ≤ 1000000) : Ab.Spec Tryz.prog 108 3 [(.t 0, .v (Dv (.sl (halfRows l)))), (.t 1, .v (I f)), (.t 2, .v (I m))] [(.t 0, .v (I (halfAt l f m)))] := by
  refine spec_of_body tabOk Tryz.func108 rfl (by kernel_rfl) (by decide) (by kernel_rfl) rfl ?_
  refine SW.seq ?_
  refine SW.regT tabOk [0, 1, 2, 21, 22, 23, 24] ?_
  refine ai trivial ?_
  refine SW.seq ?_
  refine SW.seq ?_
  refine SW.regT tabOk [1, 2, 9, 10, 11, 21, 22, 23, 24] ?_
  refine ai trivial (ai vc (ai trivial ?_))
  refine SW.block ?_
  -- live at the head: [1, 2, 9, 10, 11, 21, 22, 23, 24]
  refine SW.loopW (n := l.length) (fun n q => ∃ i : Nat, n = l.length - i ∧ i ≤ l.length ∧ (∀ k, k < i → halfIs l f m k = false) ∧ q = [(.t 1, .v (I f)), (.t 2, .v (I m)), (.t 9, .v (Dv (.sl (halfRows l)))), (.t 10, .v (I (l.length : Nat))), (.t 11, .v (I (i : Nat)))]) ?_ ?_
  · skip
    refine wk [(.t 1, .v (I f)), (.t 2, .v (I m)), (.t 9, .v (Dv (.sl (halfRows l)))), (.t 10, .v (I (l.length : Nat))), (.t 11, .v (I (0 : Nat)))] [] [] (⟨0, rfl, Nat.zero_le _, fun k h => absurd h (by omega), rfl⟩) ?_ rfl rfl
    repeat' first | exact trivial | refine mL_nil rfl ?_ | refine mL_d rfl ?_ ?_ | refine mL_own rfl rfl ?_ rfl ?_ | refine mL_row rfl ?_ ?_ | refine mL_pt rfl rfl rfl rfl ?_ | refine mL_box rfl ?_ ?_ | refine mL_agg rfl ?_ ?_ | exact mCs_nil0 | refine mCs_d ?_ ?_ | refine mCs_nil ?_ | refine mCs_own rfl ?_ rfl ?_ | refine mCs_pt rfl rfl rfl ?_
    all_goals first | with_reducible rfl | (first | with_reducible rfl | (rw [halfRows_length]; done) | rfl)
  rintro n s ⟨i, rfl, hi, hk, rfl⟩
  refine SW.seq ?_
  refine SW.regT tabOk [1, 2, 9, 10, 11, 12, 21, 22, 23, 24] ?_
  refine ai trivial ?_
  refine SW.seq ?_
  refine SW.cond rfl (fun c12 => ?_) (fun c12 => ?_)
  · skip
    have hi2 : i < l.length := by simpa using c12
    have hg := halfRows_getD (l := l) hi2
    refine SW.skip ?_
    refine SW.seq ?_
    refine SW.block ?_
    refine SW.seq ?_
    refine SW.regT tabOk [1, 2, 7, 8, 9, 10, 11, 21, 22, 23, 24] ?_
    refine ai trivial (ai (by rw [Int.toNat_natCast, hg]; exact ⟨⟨by omega, by rw [halfRows_length]; omega⟩, rfl⟩) (ai (by rw [Int.toNat_natCast, hg]; exact ⟨Nat.le_of_ble_eq_true rfl, rfl⟩) (ai trivial (ai trivial (ai ⟨by kernel_rfl, Nat.le_of_ble_eq_true (by kernel_rfl)⟩ ?_)))))
    refine SW.seq ?_
    refine SW.regT tabOk [1, 2, 7, 9, 10, 11, 21, 22, 23, 24, 25] ?_
    refine ai (by first | trivial | rfl) (ai vc (ai trivial (ai trivial (ai trivial (ai (fun h => (by first | trivial | rfl)) (ai rk (ai (fun h => vc) (ai rk (ai (fun h => trivial) (ai rk (ai (fun h => trivial) (ai rk (ai pk ?_)))))))))))))
    refine SW.cond rfl (fun c25 => ?_) (fun c25 => ?_)
    · skip
      refine SW.seq ?_
      refine SW.regT tabOk [6] ?_
      refine ai trivial (ai trivial ?_)
      refine SW.ret ?_
      refine retOk1 rfl (congrArg D.i ?_)
      have hs : halfIs l f m i = true := by
        have h9 := c25
        rw [Int.toNat_natCast, hg] at h9
        exact h9
      exact (placeOf_hit (Nat.zero_le _) (by omega) (fun j _ h => hk j h) hs).symm
    · skip
      refine SW.skip ?_
      refine SW.regT tabOk [1, 2, 9, 10, 11, 21, 22, 23, 24] ?_
      refine ai trivial (ai trivial ?_)
      have hs : halfIs l f m i = false := by
        have h9 := c25
        rw [Int.toNat_natCast, hg] at h9
        exact h9
      refine wk [(.t 1, .v (I f)), (.t 2, .v (I m)), (.t 9, .v (Dv (.sl (halfRows l)))), (.t 10, .v (I (l.length : Nat))), (.t 11, .v (I ((i + 1) : Nat)))] [] [] (⟨l.length - (i + 1), by omega, i + 1, rfl, by omega, fun k h => by by_cases e : k = i; exact e ▸ hs; exact hk k (by omega), rfl⟩) ?_ rfl rfl
      repeat' first | exact trivial | refine mL_nil rfl ?_ | refine mL_d rfl ?_ ?_ | refine mL_own rfl rfl ?_ rfl ?_ | refine mL_row rfl ?_ ?_ | refine mL_pt rfl rfl rfl rfl ?_ | refine mL_box rfl ?_ ?_ | refine mL_agg rfl ?_ ?_ | exact mCs_nil0 | refine mCs_d ?_ ?_ | refine mCs_nil ?_ | refine mCs_own rfl ?_ rfl ?_ | refine mCs_pt rfl rfl rfl ?_
      all_goals first | with_reducible rfl | (first | with_reducible rfl | exact congrArg D.i (wrap64_of (by omega)))
  · skip
    have hi3 : i = l.length := by simp at c12; omega
    refine SW.exit ?_
    refine SW.seq ?_
    refine SW.regT tabOk [6] ?_
    refine ai trivial ?_
    refine SW.ret ?_
    refine retOk1 rfl (congrArg D.i ?_)
    exact (placeOf_none (fun j _ h => hk j (by omega))).symm

set_option maxHeartbeats 3200000 in
theorem s_impl_KeeperOk (k : KeeperR) (hl : k.log.length ≤ 140737488355328) : Ab.Spec Tryz.prog 49 1 [(.t 0, .v (k.V))] [(.t 0, .v (B (keeperOk k)))] := by
  refine spec_of_body tabOk Tryz.func49 rfl (by kernel_rfl) (by decide) (by kernel_rfl) rfl ?_
  refine SW.seq ?_
  refine SW.regT tabOk [1, 14, 15, 16, 17, 20, 21, 22, 23, 26, 27, 28, 29, 30, 31, 32, 33, 34, 61, 62, 76, 77, 78, 79, 80, 81, 82, 83, 84] ?_
  refine ai trivial (ai trivial ?_)
  refine SW.seq ?_
  refine SW.seq ?_
  refine SW.regT tabOk [1, 35, 61, 62, 76, 77, 78, 79, 80, 81, 82, 83, 84] ?_
  refine ai (by first | trivial | rfl) (ai vc ?_)
  refine ex_pure (s_impl_isNode _) rfl rfl rfl rfl rfl rfl rfl rfl ?_
  refine ai trivial (ai trivial (ai (fun h => (by first | trivial | rfl)) (ai rk (ai (fun h => vc) (ai rk ?_)))))
  refine exc_pure (fun h => (s_impl_ShelfOk k.log k.forced hl)) rfl rfl rfl rfl rfl rfl rfl rfl rk ?_
  refine ai (fun h => trivial) (ai rk (ai pk (ai trivial (ai (fun h => (by first | trivial | rfl)) (ai rk (ai (fun h => vc) (ai rk (ai (fun h => vc) (ai rk (ai (fun h => trivial) (ai rk (ai pk (ai trivial (ai (fun h => (by first | trivial | rfl)) (ai rk (ai (fun h => vc) (ai rk (ai (fun h => trivial) (ai rk (ai (fun h => trivial) (ai rk (ai (fun h => (by first | trivial | rfl)) (ai rk (ai (fun h => vc) (ai rk (ai (fun h => vc) (ai rk (ai (fun h => trivial) (ai rk (ai (fun h => pk) (ai rk (ai pk ?_))))))))))))))))))))))))))))))))
  refine SW.cond rfl (fun c35 => ?_) (fun c35 => ?_)
  · skip
    have hh := keeper_gen c35
    refine SW.seq ?_
    refine SW.regT tabOk [2] ?_
    refine ai trivial ?_
    refine SW.ret ?_
    refine retOk1 rfl (congrArg D.b ?_)
    exact (keeperOk_head hh).symm
  · skip
    have hh := keeper_gen c35
    obtain ⟨p1, p2, p3, p4⟩ := keeperHead_parts hh
    obtain ⟨q1, q2, q3, q4⟩ := shelfOk_parts p2
    refine SW.skip ?_
    refine SW.seq ?_
    refine SW.regT tabOk [1, 4, 61, 62, 76, 77, 78, 79, 80, 81, 82, 83, 84] ?_
    refine ai (by first | trivial | rfl) (ai vc (ai (by first | trivial | rfl) (ai (by first | trivial | rfl) (ai vc ?_))))
    refine ex_pure (s_impl_stateOf k.id k.log (by omega)) rfl rfl rfl rfl rfl rfl rfl rfl ?_
    refine ai trivial (ai trivial (ai trivial (ai trivial (ai ⟨by kernel_rfl, Nat.le_of_ble_eq_true (by kernel_rfl)⟩ (ai trivial ?_)))))
    refine SW.seq ?_
    refine SW.regD tabOk mo [1, 4, 6, 61, 62, 76, 77, 78, 79, 80, 81, 82, 83, 84] ?_
    refine ai (by first | trivial | rfl) (ai vc (ai (by first | trivial | rfl) (ai (by first | trivial | rfl) (ai vc (ai (by first | trivial | rfl) (ai (by first | trivial | rfl) (ai vc (ai (by exact ⟨by simp, by simpa using q2.1, by simpa using q2.2⟩) ?_))))))))
    refine ex_pure (s_impl_stateOf k.id (k.log.take k.forced.toNat) (by rw [List.length_take]; omega)) rfl rfl rfl rfl rfl rfl rfl rfl ?_
    refine ai trivial (ai trivial (ai trivial (ai trivial (ai ⟨by kernel_rfl, Nat.le_of_ble_eq_true (by kernel_rfl)⟩ (ai trivial (ai (by kernel_rfl) ?_))))))
    refine SW.seq ?_
    refine SW.seq ?_
    refine SW.regT tabOk [1, 63, 76, 77, 78, 79, 80, 81, 82, 83, 84] ?_
    refine ai trivial (ai trivial (ai trivial (ai (fun h => trivial) (ai rk (ai (fun h => trivial) (ai rk (ai pk ?_)))))))
    refine SW.cond rfl (fun c63 => ?_) (fun c63 => ?_)
    · skip
      have hn := keeperOk_no (k := k) c63 (.inl ⟨rfl, rfl⟩)
      refine SW.seq ?_
      refine SW.regT tabOk [2] ?_
      refine ai trivial ?_
      refine SW.ret ?_
      refine retOk1 rfl (congrArg D.b ?_)
      exact hn.symm
    · skip
      have hy := keeperOk_yes (k := k) hh c63 (.inl ⟨rfl, rfl⟩)
      refine SW.skip ?_
      refine SW.seq ?_
      refine SW.seq ?_
      refine SW.regT tabOk [1, 65, 66, 67, 76, 77, 78, 79, 80, 81, 82, 83, 84] ?_
      refine ai (by first | trivial | rfl) (ai vc (ai vc (ai trivial ?_)))
      refine SW.block ?_
      -- live at the head: [1, 65, 66, 67, 76, 77, 78, 79, 80, 81, 82, 83, 84]
      refine SW.loopW (n := k.halves.length) (fun m q => ∃ i : Nat, m = k.halves.length - i ∧ i ≤ k.halves.length ∧ (∀ j, j < i → halfStep k.halves j = true) ∧ q = [(.t 1, .v (.e (.c (.pt 1 0)))), (.t 65, .v (Dv (.sl (halfRows k.halves)))), (.t 66, .v (I (k.halves.length : Nat))), (.t 67, .v (I (i : Nat))), (.o 1, .box 35 [.d (.i (k).id), .d (.b (k).up), .d (.s (k).log), .d (.i (k).forced), .d (.sl (halfRows (k).halves))])]) ?_ ?_
      · skip
        refine wk [(.t 1, .v (.e (.c (.pt 1 0)))), (.t 65, .v (Dv (.sl (halfRows k.halves)))), (.t 66, .v (I (k.halves.length : Nat))), (.t 67, .v (I (0 : Nat))), (.o 1, .box 35 [.d (.i (k).id), .d (.b (k).up), .d (.s (k).log), .d (.i (k).forced), .d (.sl (halfRows (k).halves))])] [] [] (⟨0, rfl, Nat.zero_le _, fun j h => absurd h (by omega), rfl⟩) ?_ rfl rfl
        repeat' first | exact trivial | refine mL_nil rfl ?_ | refine mL_d rfl ?_ ?_ | refine mL_own rfl rfl ?_ rfl ?_ | refine mL_row rfl ?_ ?_ | refine mL_pt rfl rfl rfl rfl ?_ | refine mL_box rfl ?_ ?_ | refine mL_agg rfl ?_ ?_ | exact mCs_nil0 | refine mCs_d ?_ ?_ | refine mCs_nil ?_ | refine mCs_own rfl ?_ rfl ?_ | refine mCs_pt rfl rfl rfl ?_
        all_goals first | with_reducible rfl | (first | with_reducible rfl | rfl | (rw [halfRows_length]; done))
      rintro n s ⟨i, rfl, hi, hk, rfl⟩
      refine SW.seq ?_
      refine SW.regT tabOk [1, 65, 66, 67, 68, 76, 77, 78, 79, 80, 81, 82, 83, 84] ?_
      refine ai trivial ?_
      refine SW.seq ?_
      refine SW.cond rfl (fun c68 => ?_) (fun c68 => ?_)
      · skip
        have hi2 : i < k.halves.length := by simpa using c68
        have hg := halfRows_getD (l := k.halves) hi2
        refine SW.skip ?_
        refine SW.seq ?_
        refine SW.block ?_
        refine SW.seq ?_
        refine SW.regT tabOk [1, 7, 8, 65, 66, 67, 76, 77, 78, 79, 80, 81, 82, 83, 84] ?_
        refine ai trivial (ai (by rw [Int.toNat_natCast, hg]; exact ⟨⟨by omega, by rw [halfRows_length]; omega⟩, rfl⟩) (ai (by rw [Int.toNat_natCast, hg]; exact ⟨Nat.le_of_ble_eq_true rfl, rfl⟩) (ai trivial (ai trivial (ai ⟨by kernel_rfl, Nat.le_of_ble_eq_true (by kernel_rfl)⟩ ?_)))))
        refine SW.seq ?_
        refine SW.wk (J := fun s => s = [(.t 1, .v (.e (.c (.pt 1 0)))), (.t 7, .v (I (i : Nat))), (.t 8, .v (.e (.c (.pt 8 0)))), (.t 65, .v (Dv (.sl (halfRows k.halves)))), (.t 66, .v (I (k.halves.length : Nat))), (.t 67, .v (I (i : Nat))), (.o 1, .box 35 [.d (.i (k).id), .d (.b (k).up), .d (.s (k).log), .d (.i (k).forced), .d (.sl (halfRows (k).halves))]), (.o 8, .box 136 [.d (.i (k.halves.getD i .zero).frm), .d (.i (k.halves.getD i .zero).num), .d (.i (k.halves.getD i .zero).to), .d (.i (k.halves.getD i .zero).til), .d (.i (k.halves.getD i .zero).size), .d (.sl (mixRows (k.halves.getD i .zero).got))])]) ?_ ?_
        · skip
          refine wk [(.t 1, .v (.e (.c (.pt 1 0)))), (.t 7, .v (I (i : Nat))), (.t 8, .v (.e (.c (.pt 8 0)))), (.t 65, .v (Dv (.sl (halfRows k.halves)))), (.t 66, .v (I (k.halves.length : Nat))), (.t 67, .v (I (i : Nat))), (.o 1, .box 35 [.d (.i (k).id), .d (.b (k).up), .d (.s (k).log), .d (.i (k).forced), .d (.sl (halfRows (k).halves))]), (.o 8, .box 136 [.d (.i (k.halves.getD i .zero).frm), .d (.i (k.halves.getD i .zero).num), .d (.i (k.halves.getD i .zero).to), .d (.i (k.halves.getD i .zero).til), .d (.i (k.halves.getD i .zero).size), .d (.sl (mixRows (k.halves.getD i .zero).got))])] [] [] (rfl) ?_ rfl rfl
          repeat' first | exact trivial | refine mL_nil rfl ?_ | refine mL_d rfl ?_ ?_ | refine mL_own rfl rfl ?_ rfl ?_ | refine mL_row rfl ?_ ?_ | refine mL_pt rfl rfl rfl rfl ?_ | refine mL_box rfl ?_ ?_ | refine mL_agg rfl ?_ ?_ | exact mCs_nil0 | refine mCs_d ?_ ?_ | refine mCs_nil ?_ | refine mCs_own rfl ?_ rfl ?_ | refine mCs_pt rfl rfl rfl ?_
          all_goals first | with_reducible rfl | (first | with_reducible rfl | (rw [Int.toNat_natCast, hg]; rfl))
        rintro s rfl
        refine SW.regT tabOk [1, 65, 66, 67, 76, 77, 78, 79, 80, 81, 82, 83, 84, 85] ?_
        refine ai vc ?_
        refine ex_pure (s_impl_halfOk (k.halves.getD i .zero)) rfl rfl rfl rfl rfl rfl rfl rfl ?_
        refine ai trivial (ai trivial (ai (fun h => (by first | trivial | rfl)) (ai rk (ai (fun h => vc) (ai rk (ai (fun h => (by first | trivial | rfl)) (ai rk (ai (fun h => vc) (ai rk (ai (fun h => (by first | trivial | rfl)) (ai rk (ai (fun h => vc) (ai rk ?_)))))))))))))
        refine exc_pure (fun h => (s_impl_halfAt k.halves _ _ (by omega))) rfl rfl rfl rfl rfl rfl rfl rfl rk ?_
        refine ai (fun h => trivial) (ai rk (ai (fun h => trivial) (ai rk (ai pk ?_))))
        refine SW.cond rfl (fun c85 => ?_) (fun c85 => ?_)
        · skip
          refine SW.seq ?_
          refine SW.regT tabOk [2] ?_
          refine ai trivial ?_
          refine SW.ret ?_
          refine retOk1 rfl (congrArg D.b ?_)
          have hs : halfStep k.halves i = false := halfStep_gen hi2 c85
          rw [hy, all_false hi2 hs]
        · skip
          refine SW.skip ?_
          refine SW.regT tabOk [1, 65, 66, 67, 76, 77, 78, 79, 80, 81, 82, 83, 84] ?_
          refine ai trivial (ai trivial ?_)
          have hs : halfStep k.halves i = true := halfStep_gen hi2 c85
          refine wk [(.t 1, .v (.e (.c (.pt 1 0)))), (.t 65, .v (Dv (.sl (halfRows k.halves)))), (.t 66, .v (I (k.halves.length : Nat))), (.t 67, .v (I ((i + 1) : Nat))), (.o 1, .box 35 [.d (.i (k).id), .d (.b (k).up), .d (.s (k).log), .d (.i (k).forced), .d (.sl (halfRows (k).halves))])] [] [] (⟨k.halves.length - (i + 1), by omega, i + 1, rfl, by omega, fun j h => by by_cases e : j = i; exact e ▸ hs; exact hk j (by omega), rfl⟩) ?_ rfl rfl
          repeat' first | exact trivial | refine mL_nil rfl ?_ | refine mL_d rfl ?_ ?_ | refine mL_own rfl rfl ?_ rfl ?_ | refine mL_row rfl ?_ ?_ | refine mL_pt rfl rfl rfl rfl ?_ | refine mL_box rfl ?_ ?_ | refine mL_agg rfl ?_ ?_ | exact mCs_nil0 | refine mCs_d ?_ ?_ | refine mCs_nil ?_ | refine mCs_own rfl ?_ rfl ?_ | refine mCs_pt rfl rfl rfl ?_
          all_goals first | with_reducible rfl | (first | with_reducible rfl | exact congrArg D.i (wrap64_of (by omega)))
      · skip
        have hi3 : i = k.halves.length := by simp at c68; omega
        refine SW.exit ?_
        refine SW.seq ?_
        refine SW.regT tabOk [2] ?_
        refine ai trivial ?_
        refine SW.ret ?_
        refine retOk1 rfl (congrArg D.b ?_)
        subst hi3
        rw [hy, all_true hk]

set_option maxHeartbeats 3200000 in
theorem s_spec_KeeperOk (k : KeeperR) (hl : k.log.length ≤ 140737488355328) : Ab.Spec Tryz.prog 41 1 [(.t 0, .v (k.V))] [(.t 0, .v (B (keeperOk k)))] := by
  refine spec_of_body tabOk Tryz.func41 rfl (by kernel_rfl) (by decide) (by kernel_rfl) rfl ?_
  refine SW.seq ?_
  refine SW.regT tabOk [1, 16, 17, 18, 19, 22, 23, 24, 25, 28, 29, 30, 31, 32, 33, 34, 35, 36, 64, 65, 100, 101, 102, 103, 104, 105, 106, 107, 108, 109, 110, 111, 112] ?_
  refine ai trivial (ai trivial ?_)
  refine SW.seq ?_
  refine SW.seq ?_
  refine SW.regT tabOk [1, 37, 64, 65, 100, 101, 102, 103, 104, 105, 106, 107, 108, 109, 110, 111, 112] ?_
  refine ai (by first | trivial | rfl) (ai vc ?_)
  refine ex_pure (s_spec_l3Keeper _) rfl rfl rfl rfl rfl rfl rfl rfl ?_
  refine ai trivial (ai trivial (ai (fun h => (by first | trivial | rfl)) (ai rk (ai (fun h => vc) (ai rk ?_)))))
  refine exc_pure (fun h => (s_spec_ShelfOk k.log k.forced hl)) rfl rfl rfl rfl rfl rfl rfl rfl rk ?_
  refine ai (fun h => trivial) (ai rk (ai pk (ai trivial (ai (fun h => (by first | trivial | rfl)) (ai rk (ai (fun h => vc) (ai rk (ai (fun h => vc) (ai rk (ai (fun h => trivial) (ai rk (ai pk (ai trivial (ai (fun h => (by first | trivial | rfl)) (ai rk (ai (fun h => vc) (ai rk (ai (fun h => trivial) (ai rk (ai (fun h => trivial) (ai rk (ai (fun h => (by first | trivial | rfl)) (ai rk (ai (fun h => vc) (ai rk (ai (fun h => vc) (ai rk (ai (fun h => trivial) (ai rk (ai (fun h => pk) (ai rk (ai pk ?_))))))))))))))))))))))))))))))))
  refine SW.cond rfl (fun c37 => ?_) (fun c37 => ?_)
  · skip
    have hh := keeper_gen c37
    refine SW.seq ?_
    refine SW.regT tabOk [2] ?_
    refine ai trivial ?_
    refine SW.ret ?_
    refine retOk1 rfl (congrArg D.b ?_)
    exact (keeperOk_head hh).symm
  · skip
    have hh := keeper_gen c37
    obtain ⟨p1, p2, p3, p4⟩ := keeperHead_parts hh
    obtain ⟨q1, q2, q3, q4⟩ := shelfOk_parts p2
    refine SW.skip ?_
    refine SW.seq ?_
    refine SW.regT tabOk [1, 3, 64, 65, 100, 101, 102, 103, 104, 105, 106, 107, 108, 109, 110, 111, 112] ?_
    refine ai (by first | trivial | rfl) (ai (by first | trivial | rfl) (ai vc (ai (by first | trivial | rfl) (ai (by first | trivial | rfl) (ai vc (ai (by exact ⟨by simp, by simpa using q2.1, by simpa using q2.2⟩) ?_))))))
    refine ex_pure (s_spec_ShelfReadF (k.log.take k.forced.toNat) (by rw [List.length_take]; omega)) rfl rfl rfl rfl rfl rfl rfl rfl ?_
    refine ai trivial (ai trivial (ai trivial (ai trivial (ai trivial ?_))))
    refine SW.seq ?_
    refine SW.regT tabOk [1, 6, 64, 65, 100, 101, 102, 103, 104, 105, 106, 107, 108, 109, 110, 111, 112] ?_
    refine ai (by first | trivial | rfl) (ai vc (ai trivial ?_))
    refine ex_pure (s_spec_KeepOf k.id (shelfRead (k.log.take k.forced.toNat)).1 (shelf_recs _ (by rw [List.length_take]; omega)).1 (shelf_recs _ (by rw [List.length_take]; omega)).2) rfl rfl rfl rfl rfl rfl rfl rfl ?_
    refine ai trivial (ai trivial (ai trivial (ai trivial (ai ⟨by kernel_rfl, Nat.le_of_ble_eq_true (by kernel_rfl)⟩ (ai trivial ?_)))))
    refine SW.seq ?_
    refine SW.regT tabOk [1, 6, 8, 64, 65, 100, 101, 102, 103, 104, 105, 106, 107, 108, 109, 110, 111, 112] ?_
    refine ai vc ?_
    refine ex_pure (s_spec_l22Has k (by omega)) rfl rfl rfl rfl rfl rfl rfl rfl ?_
    refine ai trivial (ai trivial (ai trivial (ai trivial (ai ⟨by kernel_rfl, Nat.le_of_ble_eq_true (by kernel_rfl)⟩ (ai trivial ?_)))))
    refine SW.seq ?_
    refine SW.seq ?_
    refine SW.regT tabOk [1, 66, 100, 101, 102, 103, 104, 105, 106, 107, 108, 109, 110, 111, 112] ?_
    refine ai trivial (ai trivial (ai trivial (ai (fun h => trivial) (ai rk (ai (fun h => trivial) (ai rk (ai pk ?_)))))))
    refine SW.cond rfl (fun c66 => ?_) (fun c66 => ?_)
    · skip
      have hn := keeperOk_no (k := k) c66 (.inl ⟨rfl, rfl⟩)
      refine SW.seq ?_
      refine SW.regT tabOk [2] ?_
      refine ai trivial ?_
      refine SW.ret ?_
      refine retOk1 rfl (congrArg D.b ?_)
      exact hn.symm
    · skip
      have hy := keeperOk_yes (k := k) hh c66 (.inl ⟨rfl, rfl⟩)
      refine SW.skip ?_
      refine SW.seq ?_
      refine SW.seq ?_
      refine SW.regT tabOk [1, 9, 100, 101, 102, 103, 104, 105, 106, 107, 108, 109, 110, 111, 112] ?_
      refine ai trivial ?_
      refine SW.block ?_
      -- live at the head: [1, 9, 100, 101, 102, 103, 104, 105, 106, 107, 108, 109, 110, 111, 112]
      refine SW.loopW (n := k.halves.length) (fun m q => ∃ i : Nat, m = k.halves.length - i ∧ i ≤ k.halves.length ∧ (∀ j, j < i → halfStep k.halves j = true) ∧ q = [(.t 1, .v (.e (.c (.pt 1 0)))), (.t 9, .v (I (i : Nat))), (.o 1, .box 35 [.d (.i (k).id), .d (.b (k).up), .d (.s (k).log), .d (.i (k).forced), .d (.sl (halfRows (k).halves))])]) ?_ ?_
      · skip
        refine wk [(.t 1, .v (.e (.c (.pt 1 0)))), (.t 9, .v (I (0 : Nat))), (.o 1, .box 35 [.d (.i (k).id), .d (.b (k).up), .d (.s (k).log), .d (.i (k).forced), .d (.sl (halfRows (k).halves))])] [] [] (⟨0, rfl, Nat.zero_le _, fun j h => absurd h (by omega), rfl⟩) ?_ rfl rfl
        repeat' first | exact trivial | refine mL_nil rfl ?_ | refine mL_d rfl ?_ ?_ | refine mL_own rfl rfl ?_ rfl ?_ | refine mL_row rfl ?_ ?_ | refine mL_pt rfl rfl rfl rfl ?_ | refine mL_box rfl ?_ ?_ | refine mL_agg rfl ?_ ?_ | exact mCs_nil0 | refine mCs_d ?_ ?_ | refine mCs_nil ?_ | refine mCs_own rfl ?_ rfl ?_ | refine mCs_pt rfl rfl rfl ?_
        all_goals first | with_reducible rfl | (first | rfl | (simp; done) | omega)
      rintro n s ⟨i, rfl, hi, hk, rfl⟩
      refine SW.seq ?_
      refine SW.seq ?_
      refine SW.regT tabOk [1, 9, 71, 100, 101, 102, 103, 104, 105, 106, 107, 108, 109, 110, 111, 112] ?_
      refine ai trivial (ai (by first | trivial | rfl) (ai vc (ai vc (ai trivial ?_))))
      refine SW.cond rfl (fun c71 => ?_) (fun c71 => ?_)
      · skip
        have hi2 : i < k.halves.length := by simpa [halfRows_length] using c71
        have hg := halfRows_getD (l := k.halves) hi2
        refine SW.skip ?_
        refine SW.seq ?_
        refine SW.block ?_
        refine SW.seq ?_
        refine SW.seq ?_
        refine SW.regT tabOk [1, 9, 80, 100, 101, 102, 103, 104, 105, 106, 107, 108, 109, 110, 111, 112] ?_
        refine ai (by first | trivial | rfl) (ai vc (ai trivial (ai (by rw [Int.toNat_natCast, hg]; exact ⟨⟨by omega, by rw [halfRows_length]; omega⟩, rfl⟩) (ai (by rw [Int.toNat_natCast, hg]; exact ⟨Nat.le_of_ble_eq_true rfl, rfl⟩) ?_))))
        refine ex_pure (s_spec_l22HalfOk (k.halves.getD i .zero)) rfl rfl rfl rfl rfl (by rw [Int.toNat_natCast, hg]; rfl) rfl rfl ?_
        refine ai trivial ?_
        refine SW.cond rfl (fun c80 => ?_) (fun c80 => ?_)
        · skip
          have hs := halfStep_bad (by simpa using c80)
          refine SW.seq ?_
          refine SW.regT tabOk [2] ?_
          refine ai trivial ?_
          refine SW.ret ?_
          refine retOk1 rfl (congrArg D.b ?_)
          rw [hy, all_false hi2 hs]
        · skip
          refine SW.skip ?_
          refine SW.seq ?_
          refine SW.regT tabOk [1, 9, 10, 100, 101, 102, 103, 104, 105, 106, 107, 108, 109, 110, 111, 112] ?_
          refine ai trivial ?_
          refine SW.block ?_
          -- live at the head: [1, 9, 10, 100, 101, 102, 103, 104, 105, 106, 107, 108, 109, 110, 111, 112]
          refine SW.loopW (n := i) (fun m q => ∃ j : Nat, m = i - j ∧ j ≤ i ∧ (∀ k1, k1 < j → halfIs k.halves (k.halves.getD i .zero).frm (k.halves.getD i .zero).num k1 = false) ∧ q = [(.t 1, .v (.e (.c (.pt 1 0)))), (.t 9, .v (I (i : Nat))), (.t 10, .v (I (j : Nat))), (.o 1, .box 35 [.d (.i (k).id), .d (.b (k).up), .d (.s (k).log), .d (.i (k).forced), .d (.sl (halfRows (k).halves))])]) ?_ ?_
          · skip
            refine wk [(.t 1, .v (.e (.c (.pt 1 0)))), (.t 9, .v (I (i : Nat))), (.t 10, .v (I (0 : Nat))), (.o 1, .box 35 [.d (.i (k).id), .d (.b (k).up), .d (.s (k).log), .d (.i (k).forced), .d (.sl (halfRows (k).halves))])] [] [] (⟨0, rfl, Nat.zero_le _, fun j h => absurd h (by omega), rfl⟩) ?_ rfl rfl
            repeat' first | exact trivial | refine mL_nil rfl ?_ | refine mL_d rfl ?_ ?_ | refine mL_own rfl rfl ?_ rfl ?_ | refine mL_row rfl ?_ ?_ | refine mL_pt rfl rfl rfl rfl ?_ | refine mL_box rfl ?_ ?_ | refine mL_agg rfl ?_ ?_ | exact mCs_nil0 | refine mCs_d ?_ ?_ | refine mCs_nil ?_ | refine mCs_own rfl ?_ rfl ?_ | refine mCs_pt rfl rfl rfl ?_
            all_goals first | with_reducible rfl | (first | rfl | (simp; done) | omega)
          rintro n s ⟨j, rfl, hj, hkj, rfl⟩
          refine SW.seq ?_
          refine SW.seq ?_
          refine SW.regT tabOk [1, 9, 10, 83, 100, 101, 102, 103, 104, 105, 106, 107, 108, 109, 110, 111, 112] ?_
          refine ai trivial (ai trivial (ai trivial ?_))
          refine SW.cond rfl (fun c83 => ?_) (fun c83 => ?_)
          · skip
            have hj2 : j < i := by simpa using c83
            have hg2 := halfRows_getD (l := k.halves) (i := j) (by omega)
            refine SW.skip ?_
            refine SW.seq ?_
            refine SW.block ?_
            refine SW.seq ?_
            refine SW.regD tabOk mo [1, 9, 10, 100, 101, 102, 103, 104, 105, 106, 107, 108, 109, 110, 111, 112, 113] ?_
            refine ai (by first | trivial | rfl) (ai vc (ai trivial (ai (by rw [Int.toNat_natCast, hg2]; exact ⟨⟨by omega, by rw [halfRows_length]; omega⟩, rfl⟩) (ai (by first | trivial | rfl) (ai (by rw [Int.toNat_natCast, hg2]; exact ⟨Nat.le_of_ble_eq_true rfl, rfl⟩) (ai (by first | trivial | rfl) (ai vc (ai trivial (ai (by rw [Int.toNat_natCast, hg]; exact ⟨⟨by omega, by rw [halfRows_length]; omega⟩, rfl⟩) (ai (by first | trivial | rfl) (ai (by rw [Int.toNat_natCast, hg]; exact ⟨Nat.le_of_ble_eq_true rfl, rfl⟩) (ai trivial (ai trivial (ai (fun h => (by first | trivial | rfl)) (ai rk (ai (fun h => vc) (ai rk (ai (fun h => trivial) (ai rk (ai (fun h => (by rw [Int.toNat_natCast, hg2]; exact ⟨⟨by omega, by rw [halfRows_length]; omega⟩, rfl⟩)) (ai rk (ai (fun h => (by first | trivial | rfl)) (ai rk (ai (fun h => (by rw [Int.toNat_natCast, hg2]; exact ⟨Nat.le_of_ble_eq_true rfl, rfl⟩)) (ai rk (ai (fun h => (by first | trivial | rfl)) (ai rk (ai (fun h => vc) (ai rk (ai (fun h => trivial) (ai rk (ai (fun h => (by rw [Int.toNat_natCast, hg]; exact ⟨⟨by omega, by rw [halfRows_length]; omega⟩, rfl⟩)) (ai rk (ai (fun h => (by first | trivial | rfl)) (ai rk (ai (fun h => (by rw [Int.toNat_natCast, hg]; exact ⟨Nat.le_of_ble_eq_true rfl, rfl⟩)) (ai rk (ai (fun h => trivial) (ai rk (ai pk (ai (by kernel_rfl) ?_)))))))))))))))))))))))))))))))))))))))))
            refine SW.cond rfl (fun c113 => ?_) (fun c113 => ?_)
            · skip
              have hq : halfIs k.halves (k.halves.getD i .zero).frm (k.halves.getD i .zero).num j = true := by
                have h9 := c113
                rw [Int.toNat_natCast, Int.toNat_natCast, hg2, hg] at h9
                exact h9
              have hs := halfStep_no hj2 hq
              refine SW.seq ?_
              refine SW.regT tabOk [2] ?_
              refine ai trivial ?_
              refine SW.ret ?_
              refine retOk1 rfl (congrArg D.b ?_)
              rw [hy, all_false hi2 hs]
            · skip
              refine SW.skip ?_
              refine SW.regT tabOk [1, 9, 10, 100, 101, 102, 103, 104, 105, 106, 107, 108, 109, 110, 111, 112] ?_
              refine ai trivial (ai trivial (ai trivial ?_))
              have hq : halfIs k.halves (k.halves.getD i .zero).frm (k.halves.getD i .zero).num j = false := by
                have h9 := c113
                rw [Int.toNat_natCast, Int.toNat_natCast, hg2, hg] at h9
                exact h9
              refine wk [(.t 1, .v (.e (.c (.pt 1 0)))), (.t 9, .v (I (i : Nat))), (.t 10, .v (I ((j + 1) : Nat))), (.o 1, .box 35 [.d (.i (k).id), .d (.b (k).up), .d (.s (k).log), .d (.i (k).forced), .d (.sl (halfRows (k).halves))])] [] [] (⟨i - (j + 1), by omega, j + 1, rfl, by omega, fun m h => by by_cases e : m = j; exact e ▸ hq; exact hkj m (by omega), rfl⟩) ?_ rfl rfl
              repeat' first | exact trivial | refine mL_nil rfl ?_ | refine mL_d rfl ?_ ?_ | refine mL_own rfl rfl ?_ rfl ?_ | refine mL_row rfl ?_ ?_ | refine mL_pt rfl rfl rfl rfl ?_ | refine mL_box rfl ?_ ?_ | refine mL_agg rfl ?_ ?_ | exact mCs_nil0 | refine mCs_d ?_ ?_ | refine mCs_nil ?_ | refine mCs_own rfl ?_ rfl ?_ | refine mCs_pt rfl rfl rfl ?_
              all_goals first | with_reducible rfl | (first | with_reducible rfl | exact congrArg D.i (wrap64_of (by omega)))
          · skip
            have hj3 : j = i := by simp at c83; omega
            subst hj3
            have hs := halfStep_yes (by simpa using c80) hkj
            refine SW.exit ?_
            refine SW.regT tabOk [1, 9, 100, 101, 102, 103, 104, 105, 106, 107, 108, 109, 110, 111, 112] ?_
            refine ai trivial (ai trivial (ai trivial ?_))
            refine wk [(.t 1, .v (.e (.c (.pt 1 0)))), (.t 9, .v (I ((j + 1) : Nat))), (.o 1, .box 35 [.d (.i (k).id), .d (.b (k).up), .d (.s (k).log), .d (.i (k).forced), .d (.sl (halfRows (k).halves))])] [] [] (⟨k.halves.length - (j + 1), by omega, j + 1, rfl, by omega, fun m h => by by_cases e : m = j; exact e ▸ hs; exact hk m (by omega), rfl⟩) ?_ rfl rfl
            repeat' first | exact trivial | refine mL_nil rfl ?_ | refine mL_d rfl ?_ ?_ | refine mL_own rfl rfl ?_ rfl ?_ | refine mL_row rfl ?_ ?_ | refine mL_pt rfl rfl rfl rfl ?_ | refine mL_box rfl ?_ ?_ | refine mL_agg rfl ?_ ?_ | exact mCs_nil0 | refine mCs_d ?_ ?_ | refine mCs_nil ?_ | refine mCs_own rfl ?_ rfl ?_ | refine mCs_pt rfl rfl rfl ?_
            all_goals first | with_reducible rfl | (first | with_reducible rfl | exact congrArg D.i (wrap64_of (by omega)))
      · skip
        have hi3 : i = k.halves.length := by simp [halfRows_length] at c71; omega
        refine SW.exit ?_
        refine SW.seq ?_
        refine SW.regT tabOk [2] ?_
        refine ai trivial ?_
        refine SW.ret ?_
        refine retOk1 rfl (congrArg D.b ?_)
        subst hi3
        rw [hy, all_true hk]

end Go.Proofs.YtilahgkblckndaaGreatDoor

namespace Go.Ab
open Go Go.RowKit
set_option linter.unusedVariables false
set_option linter.unusedSimpArgs false

theorem exists_map {α : Type} {f : α → List D} {p : α → Prop} : ∀ {rows : List (List D)}, (∀ r ∈ rows, ∃ x, r = f x ∧ p x) → ∃ l : List α, rows = l.map f ∧ ∀ x ∈ l, p x
  | [], _ => ⟨[], rfl, fun x h => (by cases h)⟩
  | r :: rows, h => by
    obtain ⟨x, rfl, hp⟩ := h r (List.mem_cons_self ..)
    obtain ⟨l, rfl, hl⟩ := exists_map (rows := rows) fun r hr => h r (List.mem_cons_of_mem _ hr)
    exact ⟨x :: l, rfl, fun y hy => by rcases List.mem_cons.1 hy with rfl | hy; exact hp; exact hl y hy⟩
theorem eq_of_getD {α : Type} {z : α} {a b : List α} (hl : a.length = b.length) (h : ∀ j, j < a.length → a.getD j z = b.getD j z) : a = b := by
  apply List.ext_getElem hl
  intro i h1 h2
  have := h i h1
  rw [List.getD_eq_getElem?_getD, List.getD_eq_getElem?_getD, List.getElem?_eq_getElem h1, List.getElem?_eq_getElem h2] at this
  exact this
theorem ne_of_getD {α : Type} {z : α} {a b : List α} {j : Nat} (h : ¬ a.getD j z = b.getD j z) : ¬ a = b := fun e => h (by rw [e])
def KeeperR.row (k : KeeperR) : List D := [.i k.id, .b k.up, .s k.log, .i k.forced, .sl (halfRows k.halves)]
def KRB (k : KeeperR) : Prop := k.log.length ≤ 140737488355328 ∧ k.halves.length * 64 ≤ 140737488355328 ∧ ∀ h ∈ k.halves, h.got.length * 24 ≤ 140737488355328
theorem to_at_MixR {l : List MixR} {i : Nat} (h : i < l.length) : (mixRows ((l.take i) ++ List.replicate (l.length - i) MixR.zero)).getD i [] = MixR.zero.row := by
  rw [mixRows_getD (by simp; omega), List.getD_eq_getElem?_getD, List.getElem?_append_right (by simp; omega)]
  rw [List.getElem?_replicate, if_pos (by simp; omega)]
  rfl
theorem to_step_MixR {l : List MixR} {i : Nat} (h : i < l.length) : (mixRows ((l.take i) ++ List.replicate (l.length - i) MixR.zero)).set i (setSeg ((mixRows ((l.take i) ++ List.replicate (l.length - i) MixR.zero)).getD i []) 0 (l.getD i .zero).row) = mixRows ((l.take (i + 1)) ++ List.replicate (l.length - (i + 1)) .zero) := by
  rw [to_at_MixR h]
  show (mixRows _).set i (l.getD i .zero).row = _
  have e : l.length - i = (l.length - (i + 1)) + 1 := by omega
  rw [e, List.replicate_succ]
  unfold mixRows
  rw [List.map_append, List.map_cons, at_set (by simp; omega), take_succ (z := MixR.zero) h, List.append_assoc, List.map_append, List.map_append]
  rfl
theorem to_at_HalfR {l : List HalfR} {i : Nat} (h : i < l.length) : (halfRows ((l.take i) ++ List.replicate (l.length - i) HalfR.zero)).getD i [] = HalfR.zero.row := by
  rw [halfRows_getD (by simp; omega), List.getD_eq_getElem?_getD, List.getElem?_append_right (by simp; omega)]
  rw [List.getElem?_replicate, if_pos (by simp; omega)]
  rfl
theorem to_step_HalfR {l : List HalfR} {i : Nat} (h : i < l.length) : (halfRows ((l.take i) ++ List.replicate (l.length - i) HalfR.zero)).set i (setSeg ((halfRows ((l.take i) ++ List.replicate (l.length - i) HalfR.zero)).getD i []) 0 (l.getD i .zero).row) = halfRows ((l.take (i + 1)) ++ List.replicate (l.length - (i + 1)) .zero) := by
  rw [to_at_HalfR h]
  show (halfRows _).set i (l.getD i .zero).row = _
  have e : l.length - i = (l.length - (i + 1)) + 1 := by omega
  rw [e, List.replicate_succ]
  unfold halfRows
  rw [List.map_append, List.map_cons, at_set (by simp; omega), take_succ (z := HalfR.zero) h, List.append_assoc, List.map_append, List.map_append]
  rfl
end Go.Ab

namespace Go.Proofs.YtilahgkblckndaaGreatDoor
open Go Go.Ab Go.RowKit
set_option linter.unusedVariables false
set_option linter.unusedSimpArgs false

theorem s_laws_szMixed (m : MixR) (n : Int) : Ab.SpecE Tryz.prog 178 2 [(.t 0, .v (m.V)), (.t 1, .v (I n))] (fun s => ∃ r : Int, s = [(.t 0, .v (I r))]) := by
  refine specE_of_body tabOk Tryz.func178 rfl (by kernel_rfl) (by decide) (by kernel_rfl) rfl ?_
  refine SW.seq ?_
  refine SW.regT tabOk [1, 2] ?_
  refine ai trivial (ai trivial ?_)
  refine SW.seq ?_
  refine SW.regT tabOk [1] ?_
  refine ai trivial (ai (by first | trivial | rfl) (ai vc (ai vc (ai trivial (ai trivial ?_)))))
  refine SW.seq ?_
  refine SW.seq ?_
  refine SW.regT tabOk [1, 11] ?_
  refine ai trivial (ai trivial ?_)
  refine SW.cond rfl (fun c11 => ?_) (fun c11 => ?_)
  · skip
    refine SW.seq ?_
    refine SW.regT tabOk [4] ?_
    refine ai trivial ?_
    refine SW.ret ?_
    refine retQR _ ⟨_, rfl⟩ (retOk1 rfl rfl)
  · skip
    refine SW.skip ?_
    refine SW.seq ?_
    refine SW.regT tabOk [4] ?_
    refine ai trivial (ai trivial ?_)
    refine SW.ret ?_
    refine retQR _ ⟨_, rfl⟩ (retOk1 rfl rfl)

set_option maxHeartbeats 800000 in
theorem s_laws_szMixedS (l : List MixR) (n : Int) (hg : l.length * 24 ≤ 140737488355328) : Ab.SpecE Tryz.prog 148 2 [(.t 0, .v (Dv (.sl (mixRows l)))), (.t 1, .v (I n))] (fun s => ∃ r : Int, s = [(.t 0, .v (I r))]) := by
  refine specE_of_body tabOk Tryz.func148 rfl (by kernel_rfl) (by decide) (by kernel_rfl) rfl ?_
  refine SW.seq ?_
  refine SW.regT tabOk [0, 1] ?_
  refine ai trivial ?_
  refine SW.seq ?_
  refine SW.regT tabOk [0, 1] ?_
  refine ai trivial (ai trivial (ai vc (ai trivial (ai trivial ?_))))
  refine SW.seq ?_
  refine SW.seq ?_
  refine SW.regT tabOk [0, 1, 11] ?_
  refine ai trivial (ai trivial ?_)
  refine SW.cond rfl (fun c11 => ?_) (fun c11 => ?_)
  · skip
    refine SW.seq ?_
    refine SW.regT tabOk [4] ?_
    refine ai trivial ?_
    refine SW.ret ?_
    refine retQR _ ⟨_, rfl⟩ (retOk1 rfl rfl)
  · skip
    refine SW.skip ?_
    refine SW.seq ?_
    refine SW.seq ?_
    refine SW.regT tabOk [0, 1, 5] ?_
    refine ai trivial ?_
    refine SW.block ?_
    -- live at the head: [0, 1, 5]
    refine SW.loopW (n := l.length) (fun m q => ∃ (i : Nat) (x : Int), m = l.length - i ∧ i ≤ l.length ∧ q = [(.t 0, .v (Dv (.sl (mixRows l)))), (.t 1, .v (I x)), (.t 5, .v (I (i : Nat)))]) ?_ ?_
    · skip
      refine wk [(.t 0, .v (Dv (.sl (mixRows l)))), (.t 1, .v (I (wrap64 (n - ((mixRows l).length : Int))))), (.t 5, .v (I (0 : Nat)))] [] [] (⟨0, _, rfl, Nat.zero_le _, rfl⟩) ?_ rfl rfl
      repeat' first | exact trivial | refine mL_nil rfl ?_ | refine mL_d rfl ?_ ?_ | refine mL_own rfl rfl ?_ rfl ?_ | refine mL_row rfl ?_ ?_ | refine mL_pt rfl rfl rfl rfl ?_ | refine mL_box rfl ?_ ?_ | refine mL_agg rfl ?_ ?_ | exact mCs_nil0 | refine mCs_d ?_ ?_ | refine mCs_nil ?_ | refine mCs_own rfl ?_ rfl ?_ | refine mCs_pt rfl rfl rfl ?_
      all_goals first | with_reducible rfl | (first | rfl | (simp; done) | omega)
    rintro n s ⟨i, x, rfl, hi, rfl⟩
    refine SW.seq ?_
    refine SW.seq ?_
    refine SW.regT tabOk [0, 1, 5, 15] ?_
    refine ai trivial (ai trivial (ai vc (ai trivial ?_)))
    refine SW.cond rfl (fun c15 => ?_) (fun c15 => ?_)
    · skip
      have hi2 : i < l.length := by simpa [mixRows_length] using c15
      have hgg := mixRows_getD (l := l) hi2
      have hmem : l.getD i .zero ∈ l := mem_getD hi2
      refine SW.skip ?_
      refine SW.seq ?_
      refine SW.block ?_
      refine SW.seq ?_
      refine SW.regE tabOk [0, 1, 5] ?_
      refine ai trivial (ai trivial (ai (by rw [Int.toNat_natCast, hgg]; exact ⟨⟨by omega, by rw [mixRows_length]; omega⟩, rfl⟩) (ai (by rw [Int.toNat_natCast, hgg]; exact ⟨Nat.le_of_ble_eq_true rfl, rfl⟩) (ai trivial ?_))))
      refine ee_call (rl := []) (bor := []) (news := []) (robj := []) (s_laws_szMixed (l.getD i .zero) x) rfl rfl rfl rfl (by refine ⟨mL_agg rfl ?_ (mL_d rfl rfl trivial), rfl⟩; rw [Int.toNat_natCast, hgg]; exact mCs_d rfl (mCs_d rfl trivial)) (fun σ hσ => by obtain ⟨r, rfl⟩ := hσ; exact ⟨rfl, .inl rfl, fun j hj => by simp [newIds, objIds] at hj⟩) (fun p hp => nomatch hp) (fun j hj => nomatch hj) ?_
      rintro σ ⟨r, rfl⟩
      refine ai trivial ?_
      refine SW.seq ?_
      refine SW.regT tabOk [0, 1, 5, 25] ?_
      refine ai trivial (ai trivial ?_)
      refine SW.cond rfl (fun c25 => ?_) (fun c25 => ?_)
      · skip
        refine SW.seq ?_
        refine SW.regT tabOk [4] ?_
        refine ai trivial ?_
        refine SW.ret ?_
        refine retQR _ ⟨_, rfl⟩ (retOk1 rfl rfl)
      · skip
        refine SW.skip ?_
        refine SW.regT tabOk [0, 1, 5] ?_
        refine ai trivial (ai trivial (ai trivial ?_))
        refine wk [(.t 0, .v (Dv (.sl (mixRows l)))), (.t 1, .v (I r)), (.t 5, .v (I ((i + 1) : Nat)))] [] [] (⟨l.length - (i + 1), by omega, i + 1, r, rfl, by omega, rfl⟩) ?_ rfl rfl
        repeat' first | exact trivial | refine mL_nil rfl ?_ | refine mL_d rfl ?_ ?_ | refine mL_own rfl rfl ?_ rfl ?_ | refine mL_row rfl ?_ ?_ | refine mL_pt rfl rfl rfl rfl ?_ | refine mL_box rfl ?_ ?_ | refine mL_agg rfl ?_ ?_ | exact mCs_nil0 | refine mCs_d ?_ ?_ | refine mCs_nil ?_ | refine mCs_own rfl ?_ rfl ?_ | refine mCs_pt rfl rfl rfl ?_
        all_goals first | with_reducible rfl | (first | with_reducible rfl | exact congrArg D.i (wrap64_of (by omega)))
    · skip
      refine SW.exit ?_
      refine SW.seq ?_
      refine SW.regT tabOk [4] ?_
      refine ai trivial (ai trivial ?_)
      refine SW.ret ?_
      refine retQR _ ⟨_, rfl⟩ (retOk1 rfl rfl)

theorem s_laws_toMixed (m : MixR) : Ab.Spec Tryz.prog 181 1 [(.t 0, .v (m.V))] [(.t 0, .v (m.V))] := by
  refine spec_of_body tabOk Tryz.func181 rfl (by kernel_rfl) (by decide) (by kernel_rfl) rfl ?_
  refine SW.seq ?_
  refine SW.regT tabOk [1, 2] ?_
  refine ai trivial (ai trivial ?_)
  refine SW.seq ?_
  refine SW.regT tabOk [1, 2, 3] ?_
  refine ai trivial ?_
  refine SW.seq ?_
  refine SW.regT tabOk [1, 2, 3] ?_
  refine ai (by first | trivial | rfl) (ai vc (ai (by first | trivial | rfl) (ai ⟨by kernel_rfl, Nat.le_of_ble_eq_true (by kernel_rfl)⟩ ?_)))
  refine SW.seq ?_
  refine SW.regT tabOk [2, 3] ?_
  refine ai (by first | trivial | rfl) (ai vc (ai (by first | trivial | rfl) (ai ⟨by kernel_rfl, Nat.le_of_ble_eq_true (by kernel_rfl)⟩ ?_)))
  refine SW.seq ?_
  refine SW.regT tabOk [2] ?_
  refine ai vc (ai ⟨by kernel_rfl, Nat.le_of_ble_eq_true (by kernel_rfl)⟩ ?_)
  refine SW.ret ?_
  refine retOkP rfl rfl ?_
  rfl

set_option maxHeartbeats 800000 in
theorem s_laws_toMixedS (l : List MixR) (hg : l.length * 24 ≤ 140737488355328) : Ab.Spec Tryz.prog 154 1 [(.t 0, .v (Dv (.sl (mixRows l))))] [(.t 0, .v (Dv (.sl (mixRows l))))] := by
  refine spec_of_body tabOk Tryz.func154 rfl (by kernel_rfl) (by decide) (by kernel_rfl) rfl ?_
  refine SW.seq ?_
  refine SW.regT tabOk [0] ?_
  refine ai trivial ?_
  refine SW.seq ?_
  refine SW.regT tabOk [0, 3] ?_
  refine ai trivial (ai vc (ai (by refine ⟨rfl, by omega, ?_⟩; rw [mixRows_length]; show ((24 : Nat) : Int) * _ ≤ _; omega) (ai trivial ?_)))
  refine SW.seq ?_
  refine SW.seq ?_
  refine SW.regT tabOk [0, 3, 4] ?_
  refine ai trivial ?_
  refine SW.block ?_
  -- live at the head: [0, 3, 4]
  refine SW.loopW (n := l.length) (fun m q => ∃ i : Nat, m = l.length - i ∧ i ≤ l.length ∧ q = [(.t 0, .v (Dv (.sl (mixRows l)))), (.t 3, .v (.e (.c (.own 7 l.length)))), (.t 4, .v (I (i : Nat))), (.o 7, .row 161 2 (mixRows ((l.take i) ++ List.replicate (l.length - i) .zero)))]) ?_ ?_
  · skip
    refine wk [(.t 0, .v (Dv (.sl (mixRows l)))), (.t 3, .v (.e (.c (.own 7 l.length)))), (.t 4, .v (I (0 : Nat))), (.o 7, .row 161 2 (mixRows ((l.take 0) ++ List.replicate (l.length - 0) .zero)))] [] [] (⟨0, rfl, Nat.zero_le _, rfl⟩) ?_ rfl rfl
    repeat' first | exact trivial | refine mL_nil rfl ?_ | refine mL_d rfl ?_ ?_ | refine mL_own rfl rfl ?_ rfl ?_ | refine mL_row rfl ?_ ?_ | refine mL_pt rfl rfl rfl rfl ?_ | refine mL_box rfl ?_ ?_ | refine mL_agg rfl ?_ ?_ | exact mCs_nil0 | refine mCs_d ?_ ?_ | refine mCs_nil ?_ | refine mCs_own rfl ?_ rfl ?_ | refine mCs_pt rfl rfl rfl ?_
    all_goals first | with_reducible rfl | (first | with_reducible rfl | rfl | (rw [mixRows_length]; rfl) | (simp [mixRows, mixRows_length, MixR.row, MixR.zero]; done) | (simp [mixRows, halfRows, HalfR.row, HalfR.zero]; done))
  rintro n s ⟨i, rfl, hi, rfl⟩
  refine SW.seq ?_
  refine SW.seq ?_
  refine SW.regT tabOk [0, 3, 4, 11] ?_
  refine ai trivial (ai trivial (ai vc (ai trivial ?_)))
  refine SW.cond rfl (fun c11 => ?_) (fun c11 => ?_)
  · skip
    have hi2 : i < l.length := by simpa [mixRows_length] using c11
    have hgg := mixRows_getD (l := l) hi2
    have hmem : l.getD i .zero ∈ l := mem_getD hi2
    refine SW.skip ?_
    refine SW.seq ?_
    refine SW.block ?_
    refine SW.regT tabOk [0, 3, 4] ?_
    refine ai trivial (ai trivial (ai trivial (ai trivial (ai (by rw [Int.toNat_natCast, hgg]; exact ⟨⟨by omega, by rw [mixRows_length]; omega⟩, rfl⟩) (ai (by rw [Int.toNat_natCast, hgg]; exact ⟨Nat.le_of_ble_eq_true rfl, rfl⟩) ?_)))))
    refine ex_pure (s_laws_toMixed (l.getD i .zero)) rfl rfl rfl rfl rfl (by rw [Int.toNat_natCast, hgg]; rfl) rfl rfl ?_
    refine ai (by refine ⟨?_, by omega, by omega⟩; simp [mixRows_length]; omega) (ai (by rw [Int.toNat_natCast, to_at_MixR hi2]; exact ⟨by simp [mixRows_length]; omega, by omega, rfl, Nat.le_refl _⟩) ?_)
    refine SW.regT tabOk [0, 3, 4] ?_
    refine ai trivial (ai trivial (ai trivial ?_))
    refine wk [(.t 0, .v (Dv (.sl (mixRows l)))), (.t 3, .v (.e (.c (.own 7 l.length)))), (.t 4, .v (I ((i + 1) : Nat))), (.o 7, .row 161 2 (mixRows ((l.take (i + 1)) ++ List.replicate (l.length - (i + 1)) .zero)))] [] [] (⟨l.length - (i + 1), by omega, i + 1, rfl, by omega, rfl⟩) ?_ rfl rfl
    repeat' first | exact trivial | refine mL_nil rfl ?_ | refine mL_d rfl ?_ ?_ | refine mL_own rfl rfl ?_ rfl ?_ | refine mL_row rfl ?_ ?_ | refine mL_pt rfl rfl rfl rfl ?_ | refine mL_box rfl ?_ ?_ | refine mL_agg rfl ?_ ?_ | exact mCs_nil0 | refine mCs_d ?_ ?_ | refine mCs_nil ?_ | refine mCs_own rfl ?_ rfl ?_ | refine mCs_pt rfl rfl rfl ?_
    all_goals first | with_reducible rfl | (first | with_reducible rfl | exact congrArg D.i (by rw [wrap64_of (by omega)]; omega) | (rw [Int.toNat_natCast]; exact to_step_MixR hi2))
  · skip
    have hi3 : i = l.length := by simp [mixRows_length] at c11; omega
    subst hi3
    refine SW.exit ?_
    refine SW.seq ?_
    refine SW.regT tabOk [2] ?_
    refine ai trivial (ai trivial ?_)
    refine SW.ret ?_
    refine retOk _ [] [7] rfl (mL_froze rfl rfl rfl ?_ (congrArg D.sl ?_) trivial) rfl rfl
    · simp [mixRows_length]
    · simp

theorem s_laws_eqMixed (a b : MixR) : Ab.Spec Tryz.prog 184 2 [(.t 0, .v (a.V)), (.t 1, .v (b.V))] [(.t 0, .v (B (decide (a = b))))] := by
  refine spec_of_body tabOk Tryz.func184 rfl (by kernel_rfl) (by decide) (by kernel_rfl) rfl ?_
  refine SW.seq ?_
  refine SW.regT tabOk [2, 3] ?_
  refine ai trivial (ai trivial (ai trivial ?_))
  refine SW.seq ?_
  refine SW.seq ?_
  refine SW.regT tabOk [2, 3, 9] ?_
  refine ai (by first | trivial | rfl) (ai vc (ai (by first | trivial | rfl) (ai vc (ai trivial ?_))))
  refine SW.cond rfl (fun c9 => ?_) (fun c9 => ?_)
  · skip
    refine SW.seq ?_
    refine SW.regT tabOk [4] ?_
    refine ai trivial ?_
    refine SW.ret ?_
    refine retOk1 rfl (congrArg D.b ?_)
    cases a; cases b; simp_all
  · skip
    refine SW.skip ?_
    refine SW.seq ?_
    refine SW.seq ?_
    refine SW.regT tabOk [14] ?_
    refine ai (by first | trivial | rfl) (ai vc (ai (by first | trivial | rfl) (ai vc (ai vc ?_))))
    refine SW.cond rfl (fun c14 => ?_) (fun c14 => ?_)
    · skip
      refine SW.seq ?_
      refine SW.regT tabOk [4] ?_
      refine ai trivial ?_
      refine SW.ret ?_
      refine retOk1 rfl (congrArg D.b ?_)
      cases a; cases b; simp_all
    · skip
      refine SW.skip ?_
      refine SW.seq ?_
      refine SW.regT tabOk [4] ?_
      refine ai trivial ?_
      refine SW.ret ?_
      refine retOk1 rfl (congrArg D.b ?_)
      cases a; cases b; simp_all

set_option maxHeartbeats 800000 in
theorem s_laws_eqMixedS (a b : List MixR) (hg : a.length * 24 ≤ 140737488355328) : Ab.Spec Tryz.prog 161 2 [(.t 0, .v (Dv (.sl (mixRows a)))), (.t 1, .v (Dv (.sl (mixRows b))))] [(.t 0, .v (B (decide (a = b))))] := by
  refine spec_of_body tabOk Tryz.func161 rfl (by kernel_rfl) (by decide) (by kernel_rfl) rfl ?_
  refine SW.seq ?_
  refine SW.regT tabOk [0, 1] ?_
  refine ai trivial ?_
  refine SW.seq ?_
  refine SW.seq ?_
  refine SW.regT tabOk [0, 1, 10] ?_
  refine ai trivial (ai vc (ai trivial (ai vc (ai trivial ?_))))
  refine SW.cond rfl (fun c10 => ?_) (fun c10 => ?_)
  · skip
    refine SW.seq ?_
    refine SW.regT tabOk [4] ?_
    refine ai trivial ?_
    refine SW.ret ?_
    refine retOk1 rfl (congrArg D.b ?_)
    symm
    apply decide_eq_false
    intro e
    rw [e] at c10
    simp at c10
  · skip
    have hlen : a.length = b.length := by simp [mixRows_length] at c10; omega
    refine SW.skip ?_
    refine SW.seq ?_
    refine SW.seq ?_
    refine SW.regT tabOk [0, 1, 5] ?_
    refine ai trivial ?_
    refine SW.block ?_
    -- live at the head: [0, 1, 5]
    refine SW.loopW (n := a.length) (fun m q => ∃ i : Nat, m = a.length - i ∧ i ≤ a.length ∧ (∀ j, j < i → a.getD j .zero = b.getD j .zero) ∧ q = [(.t 0, .v (Dv (.sl (mixRows a)))), (.t 1, .v (Dv (.sl (mixRows b)))), (.t 5, .v (I (i : Nat)))]) ?_ ?_
    · skip
      refine wk [(.t 0, .v (Dv (.sl (mixRows a)))), (.t 1, .v (Dv (.sl (mixRows b)))), (.t 5, .v (I (0 : Nat)))] [] [] (⟨0, rfl, Nat.zero_le _, fun j h => absurd h (by omega), rfl⟩) ?_ rfl rfl
      repeat' first | exact trivial | refine mL_nil rfl ?_ | refine mL_d rfl ?_ ?_ | refine mL_own rfl rfl ?_ rfl ?_ | refine mL_row rfl ?_ ?_ | refine mL_pt rfl rfl rfl rfl ?_ | refine mL_box rfl ?_ ?_ | refine mL_agg rfl ?_ ?_ | exact mCs_nil0 | refine mCs_d ?_ ?_ | refine mCs_nil ?_ | refine mCs_own rfl ?_ rfl ?_ | refine mCs_pt rfl rfl rfl ?_
      all_goals first | with_reducible rfl | (first | rfl | (simp; done) | omega)
    rintro n s ⟨i, rfl, hi, hk, rfl⟩
    refine SW.seq ?_
    refine SW.seq ?_
    refine SW.regT tabOk [0, 1, 5, 14] ?_
    refine ai trivial (ai trivial (ai vc (ai trivial ?_)))
    refine SW.cond rfl (fun c14 => ?_) (fun c14 => ?_)
    · skip
      have hi2 : i < a.length := by simpa [mixRows_length] using c14
      have hga := mixRows_getD (l := a) hi2
      have hgb := mixRows_getD (l := b) (i := i) (by omega)
      have hmem : a.getD i .zero ∈ a := mem_getD hi2
      refine SW.skip ?_
      refine SW.seq ?_
      refine SW.block ?_
      refine SW.seq ?_
      refine SW.regD tabOk mo [0, 1, 5, 26] ?_
      refine ai trivial (ai trivial (ai (by rw [Int.toNat_natCast, hga]; exact ⟨⟨by omega, by rw [mixRows_length]; omega⟩, rfl⟩) (ai (by rw [Int.toNat_natCast, hga]; exact ⟨Nat.le_of_ble_eq_true rfl, rfl⟩) (ai trivial (ai trivial (ai (by rw [Int.toNat_natCast, hgb]; exact ⟨⟨by omega, by rw [mixRows_length]; omega⟩, rfl⟩) (ai (by rw [Int.toNat_natCast, hgb]; exact ⟨Nat.le_of_ble_eq_true rfl, rfl⟩) ?_)))))))
      refine ex_pure (s_laws_eqMixed (a.getD i .zero) (b.getD i .zero)) rfl rfl rfl rfl rfl (by rw [Int.toNat_natCast, hga, hgb]; rfl) rfl rfl ?_
      refine ai trivial (ai (by kernel_rfl) ?_)
      refine SW.cond rfl (fun c26 => ?_) (fun c26 => ?_)
      · skip
        refine SW.seq ?_
        refine SW.regT tabOk [4] ?_
        refine ai trivial ?_
        refine SW.ret ?_
        refine retOk1 rfl (congrArg D.b ?_)
        exact (decide_eq_false (ne_of_getD (z := MixR.zero) (j := i) (by simpa using c26))).symm
      · skip
        refine SW.skip ?_
        refine SW.regT tabOk [0, 1, 5] ?_
        refine ai trivial (ai trivial (ai trivial ?_))
        have hs : a.getD i .zero = b.getD i .zero := by simpa using c26
        refine wk [(.t 0, .v (Dv (.sl (mixRows a)))), (.t 1, .v (Dv (.sl (mixRows b)))), (.t 5, .v (I ((i + 1) : Nat)))] [] [] (⟨a.length - (i + 1), by omega, i + 1, rfl, by omega, fun j h => by by_cases e : j = i; exact e ▸ hs; exact hk j (by omega), rfl⟩) ?_ rfl rfl
        repeat' first | exact trivial | refine mL_nil rfl ?_ | refine mL_d rfl ?_ ?_ | refine mL_own rfl rfl ?_ rfl ?_ | refine mL_row rfl ?_ ?_ | refine mL_pt rfl rfl rfl rfl ?_ | refine mL_box rfl ?_ ?_ | refine mL_agg rfl ?_ ?_ | exact mCs_nil0 | refine mCs_d ?_ ?_ | refine mCs_nil ?_ | refine mCs_own rfl ?_ rfl ?_ | refine mCs_pt rfl rfl rfl ?_
        all_goals first | with_reducible rfl | (first | with_reducible rfl | exact congrArg D.i (wrap64_of (by omega)))
    · skip
      have hi3 : i = a.length := by simp [mixRows_length] at c14; omega
      refine SW.exit ?_
      refine SW.seq ?_
      refine SW.regT tabOk [4] ?_
      refine ai trivial ?_
      refine SW.ret ?_
      refine retOk1 rfl (congrArg D.b ?_)
      subst hi3
      exact (decide_eq_true (eq_of_getD (z := MixR.zero) hlen hk)).symm

theorem s_laws_szHalf (h : HalfR) (n : Int) (hg : h.got.length * 24 ≤ 140737488355328) : Ab.SpecE Tryz.prog 95 2 [(.t 0, .v (h.V)), (.t 1, .v (I n))] (fun s => ∃ r : Int, s = [(.t 0, .v (I r))]) := by
  refine specE_of_body tabOk Tryz.func95 rfl (by kernel_rfl) (by decide) (by kernel_rfl) rfl ?_
  refine SW.seq ?_
  refine SW.regT tabOk [1, 2] ?_
  refine ai trivial (ai trivial ?_)
  refine SW.seq ?_
  refine SW.regE tabOk [1] ?_
  refine ai (by first | trivial | rfl) (ai vc (ai trivial ?_))
  refine ee_call (rl := []) (bor := []) (news := []) (robj := []) (s_laws_szMixedS h.got _ hg) rfl rfl rfl rfl (match_plain rfl) (fun σ hσ => by obtain ⟨r, rfl⟩ := hσ; exact ⟨rfl, .inl rfl, fun j hj => by simp [newIds, objIds] at hj⟩) (fun p hp => nomatch hp) (fun j hj => nomatch hj) ?_
  rintro σ ⟨r, rfl⟩
  refine ai trivial ?_
  refine SW.seq ?_
  refine SW.seq ?_
  refine SW.regT tabOk [1, 10] ?_
  refine ai trivial (ai trivial ?_)
  refine SW.cond rfl (fun c10 => ?_) (fun c10 => ?_)
  · skip
    refine SW.seq ?_
    refine SW.regT tabOk [4] ?_
    refine ai trivial ?_
    refine SW.ret ?_
    refine retQR _ ⟨_, rfl⟩ (retOk1 rfl rfl)
  · skip
    refine SW.skip ?_
    refine SW.seq ?_
    refine SW.regT tabOk [4] ?_
    refine ai trivial (ai trivial ?_)
    refine SW.ret ?_
    refine retQR _ ⟨_, rfl⟩ (retOk1 rfl rfl)

set_option maxHeartbeats 800000 in
theorem s_laws_szHalfS (l : List HalfR) (n : Int) (hg : l.length * 64 ≤ 140737488355328) (hx : ∀ h ∈ l, h.got.length * 24 ≤ 140737488355328) : Ab.SpecE Tryz.prog 40 2 [(.t 0, .v (Dv (.sl (halfRows l)))), (.t 1, .v (I n))] (fun s => ∃ r : Int, s = [(.t 0, .v (I r))]) := by
  refine specE_of_body tabOk Tryz.func40 rfl (by kernel_rfl) (by decide) (by kernel_rfl) rfl ?_
  refine SW.seq ?_
  refine SW.regT tabOk [0, 1] ?_
  refine ai trivial ?_
  refine SW.seq ?_
  refine SW.regT tabOk [0, 1] ?_
  refine ai trivial (ai trivial (ai vc (ai trivial (ai trivial ?_))))
  refine SW.seq ?_
  refine SW.seq ?_
  refine SW.regT tabOk [0, 1, 11] ?_
  refine ai trivial (ai trivial ?_)
  refine SW.cond rfl (fun c11 => ?_) (fun c11 => ?_)
  · skip
    refine SW.seq ?_
    refine SW.regT tabOk [4] ?_
    refine ai trivial ?_
    refine SW.ret ?_
    refine retQR _ ⟨_, rfl⟩ (retOk1 rfl rfl)
  · skip
    refine SW.skip ?_
    refine SW.seq ?_
    refine SW.seq ?_
    refine SW.regT tabOk [0, 1, 5] ?_
    refine ai trivial ?_
    refine SW.block ?_
    -- live at the head: [0, 1, 5]
    refine SW.loopW (n := l.length) (fun m q => ∃ (i : Nat) (x : Int), m = l.length - i ∧ i ≤ l.length ∧ q = [(.t 0, .v (Dv (.sl (halfRows l)))), (.t 1, .v (I x)), (.t 5, .v (I (i : Nat)))]) ?_ ?_
    · skip
      refine wk [(.t 0, .v (Dv (.sl (halfRows l)))), (.t 1, .v (I (wrap64 (n - ((halfRows l).length : Int))))), (.t 5, .v (I (0 : Nat)))] [] [] (⟨0, _, rfl, Nat.zero_le _, rfl⟩) ?_ rfl rfl
      repeat' first | exact trivial | refine mL_nil rfl ?_ | refine mL_d rfl ?_ ?_ | refine mL_own rfl rfl ?_ rfl ?_ | refine mL_row rfl ?_ ?_ | refine mL_pt rfl rfl rfl rfl ?_ | refine mL_box rfl ?_ ?_ | refine mL_agg rfl ?_ ?_ | exact mCs_nil0 | refine mCs_d ?_ ?_ | refine mCs_nil ?_ | refine mCs_own rfl ?_ rfl ?_ | refine mCs_pt rfl rfl rfl ?_
      all_goals first | with_reducible rfl | (first | rfl | (simp; done) | omega)
    rintro n s ⟨i, x, rfl, hi, rfl⟩
    refine SW.seq ?_
    refine SW.seq ?_
    refine SW.regT tabOk [0, 1, 5, 15] ?_
    refine ai trivial (ai trivial (ai vc (ai trivial ?_)))
    refine SW.cond rfl (fun c15 => ?_) (fun c15 => ?_)
    · skip
      have hi2 : i < l.length := by simpa [halfRows_length] using c15
      have hgg := halfRows_getD (l := l) hi2
      have hmem : l.getD i .zero ∈ l := mem_getD hi2
      refine SW.skip ?_
      refine SW.seq ?_
      refine SW.block ?_
      refine SW.seq ?_
      refine SW.regE tabOk [0, 1, 5] ?_
      refine ai trivial (ai trivial (ai (by rw [Int.toNat_natCast, hgg]; exact ⟨⟨by omega, by rw [halfRows_length]; omega⟩, rfl⟩) (ai (by rw [Int.toNat_natCast, hgg]; exact ⟨Nat.le_of_ble_eq_true rfl, rfl⟩) (ai trivial ?_))))
      refine ee_call (rl := []) (bor := []) (news := []) (robj := []) (s_laws_szHalf (l.getD i .zero) x (hx _ hmem)) rfl rfl rfl rfl (by refine ⟨mL_agg rfl ?_ (mL_d rfl rfl trivial), rfl⟩; rw [Int.toNat_natCast, hgg]; exact mCs_d rfl (mCs_d rfl (mCs_d rfl (mCs_d rfl (mCs_d rfl (mCs_d rfl trivial)))))) (fun σ hσ => by obtain ⟨r, rfl⟩ := hσ; exact ⟨rfl, .inl rfl, fun j hj => by simp [newIds, objIds] at hj⟩) (fun p hp => nomatch hp) (fun j hj => nomatch hj) ?_
      rintro σ ⟨r, rfl⟩
      refine ai trivial ?_
      refine SW.seq ?_
      refine SW.regT tabOk [0, 1, 5, 25] ?_
      refine ai trivial (ai trivial ?_)
      refine SW.cond rfl (fun c25 => ?_) (fun c25 => ?_)
      · skip
        refine SW.seq ?_
        refine SW.regT tabOk [4] ?_
        refine ai trivial ?_
        refine SW.ret ?_
        refine retQR _ ⟨_, rfl⟩ (retOk1 rfl rfl)
      · skip
        refine SW.skip ?_
        refine SW.regT tabOk [0, 1, 5] ?_
        refine ai trivial (ai trivial (ai trivial ?_))
        refine wk [(.t 0, .v (Dv (.sl (halfRows l)))), (.t 1, .v (I r)), (.t 5, .v (I ((i + 1) : Nat)))] [] [] (⟨l.length - (i + 1), by omega, i + 1, r, rfl, by omega, rfl⟩) ?_ rfl rfl
        repeat' first | exact trivial | refine mL_nil rfl ?_ | refine mL_d rfl ?_ ?_ | refine mL_own rfl rfl ?_ rfl ?_ | refine mL_row rfl ?_ ?_ | refine mL_pt rfl rfl rfl rfl ?_ | refine mL_box rfl ?_ ?_ | refine mL_agg rfl ?_ ?_ | exact mCs_nil0 | refine mCs_d ?_ ?_ | refine mCs_nil ?_ | refine mCs_own rfl ?_ rfl ?_ | refine mCs_pt rfl rfl rfl ?_
        all_goals first | with_reducible rfl | (first | with_reducible rfl | exact congrArg D.i (wrap64_of (by omega)))
    · skip
      refine SW.exit ?_
      refine SW.seq ?_
      refine SW.regT tabOk [4] ?_
      refine ai trivial (ai trivial ?_)
      refine SW.ret ?_
      refine retQR _ ⟨_, rfl⟩ (retOk1 rfl rfl)

theorem s_laws_toHalf (h : HalfR) (hg : h.got.length * 24 ≤ 140737488355328) : Ab.Spec Tryz.prog 104 1 [(.t 0, .v (h.V))] [(.t 0, .v (h.V))] := by
  refine spec_of_body tabOk Tryz.func104 rfl (by kernel_rfl) (by decide) (by kernel_rfl) rfl ?_
  refine SW.seq ?_
  refine SW.regT tabOk [1, 2] ?_
  refine ai trivial (ai trivial ?_)
  refine SW.seq ?_
  refine SW.regT tabOk [1, 2, 3] ?_
  refine ai trivial ?_
  refine SW.seq ?_
  refine SW.regT tabOk [1, 2, 3] ?_
  refine ai (by first | trivial | rfl) (ai vc (ai (by first | trivial | rfl) (ai ⟨by kernel_rfl, Nat.le_of_ble_eq_true (by kernel_rfl)⟩ ?_)))
  refine SW.seq ?_
  refine SW.regT tabOk [1, 2, 3] ?_
  refine ai (by first | trivial | rfl) (ai vc (ai (by first | trivial | rfl) (ai ⟨by kernel_rfl, Nat.le_of_ble_eq_true (by kernel_rfl)⟩ ?_)))
  refine SW.seq ?_
  refine SW.regT tabOk [1, 2, 3] ?_
  refine ai (by first | trivial | rfl) (ai vc (ai (by first | trivial | rfl) (ai ⟨by kernel_rfl, Nat.le_of_ble_eq_true (by kernel_rfl)⟩ ?_)))
  refine SW.seq ?_
  refine SW.regT tabOk [1, 2, 3] ?_
  refine ai (by first | trivial | rfl) (ai vc (ai (by first | trivial | rfl) (ai ⟨by kernel_rfl, Nat.le_of_ble_eq_true (by kernel_rfl)⟩ ?_)))
  refine SW.seq ?_
  refine SW.regT tabOk [1, 2, 3] ?_
  refine ai (by first | trivial | rfl) (ai vc (ai (by first | trivial | rfl) (ai ⟨by kernel_rfl, Nat.le_of_ble_eq_true (by kernel_rfl)⟩ ?_)))
  refine SW.seq ?_
  refine SW.regT tabOk [2, 3] ?_
  refine ai (by first | trivial | rfl) (ai vc ?_)
  refine ex_pure (s_laws_toMixedS h.got hg) rfl rfl rfl rfl rfl rfl rfl rfl ?_
  refine ai (by first | trivial | rfl) (ai ⟨by kernel_rfl, Nat.le_of_ble_eq_true (by kernel_rfl)⟩ ?_)
  refine SW.seq ?_
  refine SW.regT tabOk [2] ?_
  refine ai vc (ai ⟨by kernel_rfl, Nat.le_of_ble_eq_true (by kernel_rfl)⟩ ?_)
  refine SW.ret ?_
  refine retOkP rfl rfl ?_
  rfl

set_option maxHeartbeats 800000 in
theorem s_laws_toHalfS (l : List HalfR) (hg : l.length * 64 ≤ 140737488355328) (hx : ∀ h ∈ l, h.got.length * 24 ≤ 140737488355328) : Ab.Spec Tryz.prog 48 1 [(.t 0, .v (Dv (.sl (halfRows l))))] [(.t 0, .v (Dv (.sl (halfRows l))))] := by
  refine spec_of_body tabOk Tryz.func48 rfl (by kernel_rfl) (by decide) (by kernel_rfl) rfl ?_
  refine SW.seq ?_
  refine SW.regT tabOk [0] ?_
  refine ai trivial ?_
  refine SW.seq ?_
  refine SW.regT tabOk [0, 3] ?_
  refine ai trivial (ai vc (ai (by refine ⟨rfl, by omega, ?_⟩; rw [halfRows_length]; show ((64 : Nat) : Int) * _ ≤ _; omega) (ai trivial ?_)))
  refine SW.seq ?_
  refine SW.seq ?_
  refine SW.regT tabOk [0, 3, 4] ?_
  refine ai trivial ?_
  refine SW.block ?_
  -- live at the head: [0, 3, 4]
  refine SW.loopW (n := l.length) (fun m q => ∃ i : Nat, m = l.length - i ∧ i ≤ l.length ∧ q = [(.t 0, .v (Dv (.sl (halfRows l)))), (.t 3, .v (.e (.c (.own 7 l.length)))), (.t 4, .v (I (i : Nat))), (.o 7, .row 136 6 (halfRows ((l.take i) ++ List.replicate (l.length - i) .zero)))]) ?_ ?_
  · skip
    refine wk [(.t 0, .v (Dv (.sl (halfRows l)))), (.t 3, .v (.e (.c (.own 7 l.length)))), (.t 4, .v (I (0 : Nat))), (.o 7, .row 136 6 (halfRows ((l.take 0) ++ List.replicate (l.length - 0) .zero)))] [] [] (⟨0, rfl, Nat.zero_le _, rfl⟩) ?_ rfl rfl
    repeat' first | exact trivial | refine mL_nil rfl ?_ | refine mL_d rfl ?_ ?_ | refine mL_own rfl rfl ?_ rfl ?_ | refine mL_row rfl ?_ ?_ | refine mL_pt rfl rfl rfl rfl ?_ | refine mL_box rfl ?_ ?_ | refine mL_agg rfl ?_ ?_ | exact mCs_nil0 | refine mCs_d ?_ ?_ | refine mCs_nil ?_ | refine mCs_own rfl ?_ rfl ?_ | refine mCs_pt rfl rfl rfl ?_
    all_goals first | with_reducible rfl | (first | with_reducible rfl | rfl | (rw [halfRows_length]; rfl) | (simp [halfRows, halfRows_length, HalfR.row, HalfR.zero]; done) | (simp [mixRows, halfRows, HalfR.row, HalfR.zero]; done))
  rintro n s ⟨i, rfl, hi, rfl⟩
  refine SW.seq ?_
  refine SW.seq ?_
  refine SW.regT tabOk [0, 3, 4, 11] ?_
  refine ai trivial (ai trivial (ai vc (ai trivial ?_)))
  refine SW.cond rfl (fun c11 => ?_) (fun c11 => ?_)
  · skip
    have hi2 : i < l.length := by simpa [halfRows_length] using c11
    have hgg := halfRows_getD (l := l) hi2
    have hmem : l.getD i .zero ∈ l := mem_getD hi2
    refine SW.skip ?_
    refine SW.seq ?_
    refine SW.block ?_
    refine SW.regT tabOk [0, 3, 4] ?_
    refine ai trivial (ai trivial (ai trivial (ai trivial (ai (by rw [Int.toNat_natCast, hgg]; exact ⟨⟨by omega, by rw [halfRows_length]; omega⟩, rfl⟩) (ai (by rw [Int.toNat_natCast, hgg]; exact ⟨Nat.le_of_ble_eq_true rfl, rfl⟩) ?_)))))
    refine ex_pure (s_laws_toHalf (l.getD i .zero) (hx _ hmem)) rfl rfl rfl rfl rfl (by rw [Int.toNat_natCast, hgg]; rfl) rfl rfl ?_
    refine ai (by refine ⟨?_, by omega, by omega⟩; simp [halfRows_length]; omega) (ai (by rw [Int.toNat_natCast, to_at_HalfR hi2]; exact ⟨by simp [halfRows_length]; omega, by omega, rfl, Nat.le_refl _⟩) ?_)
    refine SW.regT tabOk [0, 3, 4] ?_
    refine ai trivial (ai trivial (ai trivial ?_))
    refine wk [(.t 0, .v (Dv (.sl (halfRows l)))), (.t 3, .v (.e (.c (.own 7 l.length)))), (.t 4, .v (I ((i + 1) : Nat))), (.o 7, .row 136 6 (halfRows ((l.take (i + 1)) ++ List.replicate (l.length - (i + 1)) .zero)))] [] [] (⟨l.length - (i + 1), by omega, i + 1, rfl, by omega, rfl⟩) ?_ rfl rfl
    repeat' first | exact trivial | refine mL_nil rfl ?_ | refine mL_d rfl ?_ ?_ | refine mL_own rfl rfl ?_ rfl ?_ | refine mL_row rfl ?_ ?_ | refine mL_pt rfl rfl rfl rfl ?_ | refine mL_box rfl ?_ ?_ | refine mL_agg rfl ?_ ?_ | exact mCs_nil0 | refine mCs_d ?_ ?_ | refine mCs_nil ?_ | refine mCs_own rfl ?_ rfl ?_ | refine mCs_pt rfl rfl rfl ?_
    all_goals first | with_reducible rfl | (first | with_reducible rfl | exact congrArg D.i (by rw [wrap64_of (by omega)]; omega) | (rw [Int.toNat_natCast]; exact to_step_HalfR hi2))
  · skip
    have hi3 : i = l.length := by simp [halfRows_length] at c11; omega
    subst hi3
    refine SW.exit ?_
    refine SW.seq ?_
    refine SW.regT tabOk [2] ?_
    refine ai trivial (ai trivial ?_)
    refine SW.ret ?_
    refine retOk _ [] [7] rfl (mL_froze rfl rfl rfl ?_ (congrArg D.sl ?_) trivial) rfl rfl
    · simp [halfRows_length]
    · simp

theorem s_laws_eqHalf (a b : HalfR) (ha : a.got.length * 24 ≤ 140737488355328) : Ab.Spec Tryz.prog 112 2 [(.t 0, .v (a.V)), (.t 1, .v (b.V))] [(.t 0, .v (B (decide (a = b))))] := by
  refine spec_of_body tabOk Tryz.func112 rfl (by kernel_rfl) (by decide) (by kernel_rfl) rfl ?_
  refine SW.seq ?_
  refine SW.regT tabOk [2, 3] ?_
  refine ai trivial (ai trivial (ai trivial ?_))
  refine SW.seq ?_
  refine SW.seq ?_
  refine SW.regT tabOk [2, 3, 9] ?_
  refine ai (by first | trivial | rfl) (ai vc (ai (by first | trivial | rfl) (ai vc (ai trivial ?_))))
  refine SW.cond rfl (fun c9 => ?_) (fun c9 => ?_)
  · skip
    refine SW.seq ?_
    refine SW.regT tabOk [4] ?_
    refine ai trivial ?_
    refine SW.ret ?_
    refine retOk1 rfl (congrArg D.b ?_)
    cases a; cases b; simp_all
  · skip
    refine SW.skip ?_
    refine SW.seq ?_
    refine SW.seq ?_
    refine SW.regT tabOk [2, 3, 14] ?_
    refine ai (by first | trivial | rfl) (ai vc (ai (by first | trivial | rfl) (ai vc (ai trivial ?_))))
    refine SW.cond rfl (fun c14 => ?_) (fun c14 => ?_)
    · skip
      refine SW.seq ?_
      refine SW.regT tabOk [4] ?_
      refine ai trivial ?_
      refine SW.ret ?_
      refine retOk1 rfl (congrArg D.b ?_)
      cases a; cases b; simp_all
    · skip
      refine SW.skip ?_
      refine SW.seq ?_
      refine SW.seq ?_
      refine SW.regT tabOk [2, 3, 19] ?_
      refine ai (by first | trivial | rfl) (ai vc (ai (by first | trivial | rfl) (ai vc (ai trivial ?_))))
      refine SW.cond rfl (fun c19 => ?_) (fun c19 => ?_)
      · skip
        refine SW.seq ?_
        refine SW.regT tabOk [4] ?_
        refine ai trivial ?_
        refine SW.ret ?_
        refine retOk1 rfl (congrArg D.b ?_)
        cases a; cases b; simp_all
      · skip
        refine SW.skip ?_
        refine SW.seq ?_
        refine SW.seq ?_
        refine SW.regT tabOk [2, 3, 24] ?_
        refine ai (by first | trivial | rfl) (ai vc (ai (by first | trivial | rfl) (ai vc (ai trivial ?_))))
        refine SW.cond rfl (fun c24 => ?_) (fun c24 => ?_)
        · skip
          refine SW.seq ?_
          refine SW.regT tabOk [4] ?_
          refine ai trivial ?_
          refine SW.ret ?_
          refine retOk1 rfl (congrArg D.b ?_)
          cases a; cases b; simp_all
        · skip
          refine SW.skip ?_
          refine SW.seq ?_
          refine SW.seq ?_
          refine SW.regT tabOk [2, 3, 29] ?_
          refine ai (by first | trivial | rfl) (ai vc (ai (by first | trivial | rfl) (ai vc (ai trivial ?_))))
          refine SW.cond rfl (fun c29 => ?_) (fun c29 => ?_)
          · skip
            refine SW.seq ?_
            refine SW.regT tabOk [4] ?_
            refine ai trivial ?_
            refine SW.ret ?_
            refine retOk1 rfl (congrArg D.b ?_)
            cases a; cases b; simp_all
          · skip
            refine SW.skip ?_
            refine SW.seq ?_
            refine SW.seq ?_
            refine SW.regT tabOk [35] ?_
            refine ai (by first | trivial | rfl) (ai vc (ai (by first | trivial | rfl) (ai vc ?_)))
            refine ex_pure (s_laws_eqMixedS a.got b.got ha) rfl rfl rfl rfl rfl rfl rfl rfl ?_
            refine ai trivial ?_
            refine SW.cond rfl (fun c35 => ?_) (fun c35 => ?_)
            · skip
              refine SW.seq ?_
              refine SW.regT tabOk [4] ?_
              refine ai trivial ?_
              refine SW.ret ?_
              refine retOk1 rfl (congrArg D.b ?_)
              cases a; cases b; simp_all
            · skip
              refine SW.skip ?_
              refine SW.seq ?_
              refine SW.regT tabOk [4] ?_
              refine ai trivial ?_
              refine SW.ret ?_
              refine retOk1 rfl (congrArg D.b ?_)
              cases a; cases b; simp_all

set_option maxHeartbeats 800000 in
theorem s_laws_eqHalfS (a b : List HalfR) (hg : a.length * 64 ≤ 140737488355328) (hx : ∀ h ∈ a, h.got.length * 24 ≤ 140737488355328) : Ab.Spec Tryz.prog 56 2 [(.t 0, .v (Dv (.sl (halfRows a)))), (.t 1, .v (Dv (.sl (halfRows b))))] [(.t 0, .v (B (decide (a = b))))] := by
  refine spec_of_body tabOk Tryz.func56 rfl (by kernel_rfl) (by decide) (by kernel_rfl) rfl ?_
  refine SW.seq ?_
  refine SW.regT tabOk [0, 1] ?_
  refine ai trivial ?_
  refine SW.seq ?_
  refine SW.seq ?_
  refine SW.regT tabOk [0, 1, 10] ?_
  refine ai trivial (ai vc (ai trivial (ai vc (ai trivial ?_))))
  refine SW.cond rfl (fun c10 => ?_) (fun c10 => ?_)
  · skip
    refine SW.seq ?_
    refine SW.regT tabOk [4] ?_
    refine ai trivial ?_
    refine SW.ret ?_
    refine retOk1 rfl (congrArg D.b ?_)
    symm
    apply decide_eq_false
    intro e
    rw [e] at c10
    simp at c10
  · skip
    have hlen : a.length = b.length := by simp [halfRows_length] at c10; omega
    refine SW.skip ?_
    refine SW.seq ?_
    refine SW.seq ?_
    refine SW.regT tabOk [0, 1, 5] ?_
    refine ai trivial ?_
    refine SW.block ?_
    -- live at the head: [0, 1, 5]
    refine SW.loopW (n := a.length) (fun m q => ∃ i : Nat, m = a.length - i ∧ i ≤ a.length ∧ (∀ j, j < i → a.getD j .zero = b.getD j .zero) ∧ q = [(.t 0, .v (Dv (.sl (halfRows a)))), (.t 1, .v (Dv (.sl (halfRows b)))), (.t 5, .v (I (i : Nat)))]) ?_ ?_
    · skip
      refine wk [(.t 0, .v (Dv (.sl (halfRows a)))), (.t 1, .v (Dv (.sl (halfRows b)))), (.t 5, .v (I (0 : Nat)))] [] [] (⟨0, rfl, Nat.zero_le _, fun j h => absurd h (by omega), rfl⟩) ?_ rfl rfl
      repeat' first | exact trivial | refine mL_nil rfl ?_ | refine mL_d rfl ?_ ?_ | refine mL_own rfl rfl ?_ rfl ?_ | refine mL_row rfl ?_ ?_ | refine mL_pt rfl rfl rfl rfl ?_ | refine mL_box rfl ?_ ?_ | refine mL_agg rfl ?_ ?_ | exact mCs_nil0 | refine mCs_d ?_ ?_ | refine mCs_nil ?_ | refine mCs_own rfl ?_ rfl ?_ | refine mCs_pt rfl rfl rfl ?_
      all_goals first | with_reducible rfl | (first | rfl | (simp; done) | omega)
    rintro n s ⟨i, rfl, hi, hk, rfl⟩
    refine SW.seq ?_
    refine SW.seq ?_
    refine SW.regT tabOk [0, 1, 5, 14] ?_
    refine ai trivial (ai trivial (ai vc (ai trivial ?_)))
    refine SW.cond rfl (fun c14 => ?_) (fun c14 => ?_)
    · skip
      have hi2 : i < a.length := by simpa [halfRows_length] using c14
      have hga := halfRows_getD (l := a) hi2
      have hgb := halfRows_getD (l := b) (i := i) (by omega)
      have hmem : a.getD i .zero ∈ a := mem_getD hi2
      refine SW.skip ?_
      refine SW.seq ?_
      refine SW.block ?_
      refine SW.seq ?_
      refine SW.regD tabOk mo [0, 1, 5, 26] ?_
      refine ai trivial (ai trivial (ai (by rw [Int.toNat_natCast, hga]; exact ⟨⟨by omega, by rw [halfRows_length]; omega⟩, rfl⟩) (ai (by rw [Int.toNat_natCast, hga]; exact ⟨Nat.le_of_ble_eq_true rfl, rfl⟩) (ai trivial (ai trivial (ai (by rw [Int.toNat_natCast, hgb]; exact ⟨⟨by omega, by rw [halfRows_length]; omega⟩, rfl⟩) (ai (by rw [Int.toNat_natCast, hgb]; exact ⟨Nat.le_of_ble_eq_true rfl, rfl⟩) ?_)))))))
      refine ex_pure (s_laws_eqHalf (a.getD i .zero) (b.getD i .zero) (hx _ hmem)) rfl rfl rfl rfl rfl (by rw [Int.toNat_natCast, hga, hgb]; rfl) rfl rfl ?_
      refine ai trivial (ai (by kernel_rfl) ?_)
      refine SW.cond rfl (fun c26 => ?_) (fun c26 => ?_)
      · skip
        refine SW.seq ?_
        refine SW.regT tabOk [4] ?_
        refine ai trivial ?_
        refine SW.ret ?_
        refine retOk1 rfl (congrArg D.b ?_)
        exact (decide_eq_false (ne_of_getD (z := HalfR.zero) (j := i) (by simpa using c26))).symm
      · skip
        refine SW.skip ?_
        refine SW.regT tabOk [0, 1, 5] ?_
        refine ai trivial (ai trivial (ai trivial ?_))
        have hs : a.getD i .zero = b.getD i .zero := by simpa using c26
        refine wk [(.t 0, .v (Dv (.sl (halfRows a)))), (.t 1, .v (Dv (.sl (halfRows b)))), (.t 5, .v (I ((i + 1) : Nat)))] [] [] (⟨a.length - (i + 1), by omega, i + 1, rfl, by omega, fun j h => by by_cases e : j = i; exact e ▸ hs; exact hk j (by omega), rfl⟩) ?_ rfl rfl
        repeat' first | exact trivial | refine mL_nil rfl ?_ | refine mL_d rfl ?_ ?_ | refine mL_own rfl rfl ?_ rfl ?_ | refine mL_row rfl ?_ ?_ | refine mL_pt rfl rfl rfl rfl ?_ | refine mL_box rfl ?_ ?_ | refine mL_agg rfl ?_ ?_ | exact mCs_nil0 | refine mCs_d ?_ ?_ | refine mCs_nil ?_ | refine mCs_own rfl ?_ rfl ?_ | refine mCs_pt rfl rfl rfl ?_
        all_goals first | with_reducible rfl | (first | with_reducible rfl | exact congrArg D.i (wrap64_of (by omega)))
    · skip
      have hi3 : i = a.length := by simp [halfRows_length] at c14; omega
      refine SW.exit ?_
      refine SW.seq ?_
      refine SW.regT tabOk [4] ?_
      refine ai trivial ?_
      refine SW.ret ?_
      refine retOk1 rfl (congrArg D.b ?_)
      subst hi3
      exact (decide_eq_true (eq_of_getD (z := HalfR.zero) hlen hk)).symm

end Go.Proofs.YtilahgkblckndaaGreatDoor

namespace Go.Proofs.YtilahgkblckndaaGreatDoor
open Go Go.Ab Go.RowKit
set_option linter.unusedVariables false
set_option linter.unusedSimpArgs false

theorem s_laws_toShelf (l : List UInt8) (f : Int) : Ab.Spec Tryz.prog 47 1 [(.t 0, .v (.e (.agg [.d (.s l), .d (.i f)])))] [(.t 0, .v (.e (.agg [.d (.s l), .d (.i f)])))] := by
  refine spec_of_body tabOk Tryz.func47 rfl (by kernel_rfl) (by decide) (by kernel_rfl) rfl ?_
  refine SW.seq ?_
  refine SW.regT tabOk [1, 2] ?_
  refine ai trivial (ai trivial ?_)
  refine SW.seq ?_
  refine SW.regT tabOk [1, 2, 3] ?_
  refine ai trivial ?_
  refine SW.seq ?_
  refine SW.regT tabOk [1, 2, 3] ?_
  refine ai (by first | trivial | rfl) (ai vc (ai (by first | trivial | rfl) (ai ⟨by kernel_rfl, Nat.le_of_ble_eq_true (by kernel_rfl)⟩ ?_)))
  refine SW.seq ?_
  refine SW.regT tabOk [2, 3] ?_
  refine ai (by first | trivial | rfl) (ai vc (ai (by first | trivial | rfl) (ai ⟨by kernel_rfl, Nat.le_of_ble_eq_true (by kernel_rfl)⟩ ?_)))
  refine SW.seq ?_
  refine SW.regT tabOk [2] ?_
  refine ai vc (ai ⟨by kernel_rfl, Nat.le_of_ble_eq_true (by kernel_rfl)⟩ ?_)
  refine SW.ret ?_
  refine retOkP rfl rfl ?_
  rfl

set_option maxHeartbeats 800000 in
theorem s_laws_toKeeper (k : KeeperR) (hk : KRB k) : Ab.Spec Tryz.prog 12 1 [(.t 0, .v (k.V))] [(.t 0, .v (k.V))] := by
  refine spec_of_body tabOk Tryz.func12 rfl (by kernel_rfl) (by decide) (by kernel_rfl) rfl ?_
  refine SW.seq ?_
  refine SW.regT tabOk [1, 2] ?_
  refine ai trivial (ai trivial ?_)
  refine SW.seq ?_
  refine SW.regT tabOk [1, 2, 3] ?_
  refine ai trivial ?_
  refine SW.seq ?_
  refine SW.regT tabOk [1, 2, 3] ?_
  refine ai (by first | trivial | rfl) (ai vc (ai (by first | trivial | rfl) (ai ⟨by kernel_rfl, Nat.le_of_ble_eq_true (by kernel_rfl)⟩ ?_)))
  refine SW.seq ?_
  refine SW.regT tabOk [1, 2, 3] ?_
  refine ai (by first | trivial | rfl) (ai vc (ai (by first | trivial | rfl) (ai ⟨by kernel_rfl, Nat.le_of_ble_eq_true (by kernel_rfl)⟩ ?_)))
  refine SW.seq ?_
  refine SW.regT tabOk [1, 2, 3] ?_
  refine ai (by first | trivial | rfl) (ai vc ?_)
  refine ex_pure (s_laws_toShelf k.log k.forced) rfl rfl rfl rfl rfl rfl rfl rfl ?_
  refine ai (by first | trivial | rfl) (ai ⟨by kernel_rfl, Nat.le_of_ble_eq_true (by kernel_rfl)⟩ ?_)
  refine SW.seq ?_
  refine SW.regT tabOk [2, 3] ?_
  refine ai (by first | trivial | rfl) (ai vc ?_)
  refine ex_pure (s_laws_toHalfS k.halves hk.2.1 hk.2.2) rfl rfl rfl rfl rfl rfl rfl rfl ?_
  refine ai (by first | trivial | rfl) (ai ⟨by kernel_rfl, Nat.le_of_ble_eq_true (by kernel_rfl)⟩ ?_)
  refine SW.seq ?_
  refine SW.regT tabOk [2] ?_
  refine ai vc (ai ⟨by kernel_rfl, Nat.le_of_ble_eq_true (by kernel_rfl)⟩ ?_)
  refine SW.ret ?_
  refine retOkP rfl rfl ?_
  rfl

theorem s_laws_szShelf (l : List UInt8) (f n : Int) : Ab.SpecE Tryz.prog 39 2 [(.t 0, .v (.e (.agg [.d (.s l), .d (.i f)]))), (.t 1, .v (I n))] (fun s => ∃ r : Int, s = [(.t 0, .v (I r))]) := by
  refine specE_of_body tabOk Tryz.func39 rfl (by kernel_rfl) (by decide) (by kernel_rfl) rfl ?_
  refine SW.seq ?_
  refine SW.regT tabOk [1, 2] ?_
  refine ai trivial (ai trivial ?_)
  refine SW.seq ?_
  refine SW.regT tabOk [1] ?_
  refine ai trivial (ai (by first | trivial | rfl) (ai vc (ai vc (ai trivial (ai trivial ?_)))))
  refine SW.seq ?_
  refine SW.seq ?_
  refine SW.regT tabOk [1, 11] ?_
  refine ai trivial (ai trivial ?_)
  refine SW.cond rfl (fun c11 => ?_) (fun c11 => ?_)
  · skip
    refine SW.seq ?_
    refine SW.regT tabOk [4] ?_
    refine ai trivial ?_
    refine SW.ret ?_
    refine retQR _ ⟨_, rfl⟩ (retOk1 rfl rfl)
  · skip
    refine SW.skip ?_
    refine SW.seq ?_
    refine SW.regT tabOk [4] ?_
    refine ai trivial (ai trivial ?_)
    refine SW.ret ?_
    refine retQR _ ⟨_, rfl⟩ (retOk1 rfl rfl)

theorem s_laws_szKeeper (k : KeeperR) (n : Int) (hk : KRB k) : Ab.SpecE Tryz.prog 10 2 [(.t 0, .v (k.V)), (.t 1, .v (I n))] (fun s => ∃ r : Int, s = [(.t 0, .v (I r))]) := by
  refine specE_of_body tabOk Tryz.func10 rfl (by kernel_rfl) (by decide) (by kernel_rfl) rfl ?_
  refine SW.seq ?_
  refine SW.regT tabOk [1, 2] ?_
  refine ai trivial (ai trivial ?_)
  refine SW.seq ?_
  refine SW.regE tabOk [1, 2] ?_
  refine ai (by first | trivial | rfl) (ai vc (ai trivial ?_))
  refine ee_call (rl := []) (bor := []) (news := []) (robj := []) (s_laws_szShelf k.log k.forced n) rfl rfl rfl rfl (match_plain rfl) (fun σ hσ => by obtain ⟨r, rfl⟩ := hσ; exact ⟨rfl, .inl rfl, fun j hj => by simp [newIds, objIds] at hj⟩) (fun p hp => nomatch hp) (fun j hj => nomatch hj) ?_
  rintro σ ⟨x1, rfl⟩
  refine ai trivial ?_
  refine SW.seq ?_
  refine SW.seq ?_
  refine SW.regT tabOk [1, 2, 10] ?_
  refine ai trivial (ai trivial ?_)
  refine SW.cond rfl (fun c10 => ?_) (fun c10 => ?_)
  · skip
    refine SW.seq ?_
    refine SW.regT tabOk [4] ?_
    refine ai trivial ?_
    refine SW.ret ?_
    refine retQR _ ⟨_, rfl⟩ (retOk1 rfl rfl)
  · skip
    refine SW.skip ?_
    refine SW.seq ?_
    refine SW.regE tabOk [1] ?_
    refine ai (by first | trivial | rfl) (ai vc (ai trivial ?_))
    refine ee_call (rl := []) (bor := []) (news := []) (robj := []) (s_laws_szHalfS k.halves _ hk.2.1 hk.2.2) rfl rfl rfl rfl (match_plain rfl) (fun σ hσ => by obtain ⟨r, rfl⟩ := hσ; exact ⟨rfl, .inl rfl, fun j hj => by simp [newIds, objIds] at hj⟩) (fun p hp => nomatch hp) (fun j hj => nomatch hj) ?_
    rintro σ ⟨x2, rfl⟩
    refine ai trivial ?_
    refine SW.seq ?_
    refine SW.seq ?_
    refine SW.regT tabOk [1, 16] ?_
    refine ai trivial (ai trivial ?_)
    refine SW.cond rfl (fun c16 => ?_) (fun c16 => ?_)
    · skip
      refine SW.seq ?_
      refine SW.regT tabOk [4] ?_
      refine ai trivial ?_
      refine SW.ret ?_
      refine retQR _ ⟨_, rfl⟩ (retOk1 rfl rfl)
    · skip
      refine SW.skip ?_
      refine SW.seq ?_
      refine SW.regT tabOk [4] ?_
      refine ai trivial (ai trivial ?_)
      refine SW.ret ?_
      refine retQR _ ⟨_, rfl⟩ (retOk1 rfl rfl)

theorem s_laws_eqShelf (l m : List UInt8) (f g : Int) : Ab.Spec Tryz.prog 55 2 [(.t 0, .v (.e (.agg [.d (.s l), .d (.i f)]))), (.t 1, .v (.e (.agg [.d (.s m), .d (.i g)])))] [(.t 0, .v (B (decide (l = m ∧ f = g))))] := by
  refine spec_of_body tabOk Tryz.func55 rfl (by kernel_rfl) (by decide) (by kernel_rfl) rfl ?_
  refine SW.seq ?_
  refine SW.regT tabOk [2, 3] ?_
  refine ai trivial (ai trivial (ai trivial ?_))
  refine SW.seq ?_
  refine SW.seq ?_
  refine SW.regT tabOk [2, 3, 9] ?_
  refine ai (by first | trivial | rfl) (ai vc (ai (by first | trivial | rfl) (ai vc (ai vc ?_))))
  refine SW.cond rfl (fun c9 => ?_) (fun c9 => ?_)
  · skip
    refine SW.seq ?_
    refine SW.regT tabOk [4] ?_
    refine ai trivial ?_
    refine SW.ret ?_
    refine retOk1 rfl (congrArg D.b ?_)
    simp_all
  · skip
    refine SW.skip ?_
    refine SW.seq ?_
    refine SW.seq ?_
    refine SW.regT tabOk [14] ?_
    refine ai (by first | trivial | rfl) (ai vc (ai (by first | trivial | rfl) (ai vc (ai trivial ?_))))
    refine SW.cond rfl (fun c14 => ?_) (fun c14 => ?_)
    · skip
      refine SW.seq ?_
      refine SW.regT tabOk [4] ?_
      refine ai trivial ?_
      refine SW.ret ?_
      refine retOk1 rfl (congrArg D.b ?_)
      simp_all
    · skip
      refine SW.skip ?_
      refine SW.seq ?_
      refine SW.regT tabOk [4] ?_
      refine ai trivial ?_
      refine SW.ret ?_
      refine retOk1 rfl (congrArg D.b ?_)
      simp_all

set_option maxHeartbeats 800000 in
theorem s_laws_eqKeeper (a b : KeeperR) (ha : KRB a) : Ab.Spec Tryz.prog 15 2 [(.t 0, .v (a.V)), (.t 1, .v (b.V))] [(.t 0, .v (B (decide (a = b))))] := by
  refine spec_of_body tabOk Tryz.func15 rfl (by kernel_rfl) (by decide) (by kernel_rfl) rfl ?_
  refine SW.seq ?_
  refine SW.regT tabOk [2, 3] ?_
  refine ai trivial (ai trivial (ai trivial ?_))
  refine SW.seq ?_
  refine SW.seq ?_
  refine SW.regT tabOk [2, 3, 9] ?_
  refine ai (by first | trivial | rfl) (ai vc (ai (by first | trivial | rfl) (ai vc (ai trivial ?_))))
  refine SW.cond rfl (fun c9 => ?_) (fun c9 => ?_)
  · skip
    refine SW.seq ?_
    refine SW.regT tabOk [4] ?_
    refine ai trivial ?_
    refine SW.ret ?_
    refine retOk1 rfl (congrArg D.b ?_)
    cases a; cases b; first | (simp_all; done) | (simp_all; grind)
  · skip
    refine SW.skip ?_
    refine SW.seq ?_
    refine SW.seq ?_
    refine SW.regT tabOk [2, 3, 14] ?_
    refine ai (by first | trivial | rfl) (ai vc (ai (by first | trivial | rfl) (ai vc (ai trivial ?_))))
    refine SW.cond rfl (fun c14 => ?_) (fun c14 => ?_)
    · skip
      refine SW.seq ?_
      refine SW.regT tabOk [4] ?_
      refine ai trivial ?_
      refine SW.ret ?_
      refine retOk1 rfl (congrArg D.b ?_)
      cases a; cases b; first | (simp_all; done) | (simp_all; grind)
    · skip
      refine SW.skip ?_
      refine SW.seq ?_
      refine SW.seq ?_
      refine SW.regT tabOk [2, 3, 20] ?_
      refine ai (by first | trivial | rfl) (ai vc (ai (by first | trivial | rfl) (ai vc ?_)))
      refine ex_pure (s_laws_eqShelf a.log b.log a.forced b.forced) rfl rfl rfl rfl rfl rfl rfl rfl ?_
      refine ai trivial ?_
      refine SW.cond rfl (fun c20 => ?_) (fun c20 => ?_)
      · skip
        refine SW.seq ?_
        refine SW.regT tabOk [4] ?_
        refine ai trivial ?_
        refine SW.ret ?_
        refine retOk1 rfl (congrArg D.b ?_)
        cases a; cases b; first | (simp_all; done) | (simp_all; grind)
      · skip
        refine SW.skip ?_
        refine SW.seq ?_
        refine SW.seq ?_
        refine SW.regT tabOk [26] ?_
        refine ai (by first | trivial | rfl) (ai vc (ai (by first | trivial | rfl) (ai vc ?_)))
        refine ex_pure (s_laws_eqHalfS a.halves b.halves ha.2.1 ha.2.2) rfl rfl rfl rfl rfl rfl rfl rfl ?_
        refine ai trivial ?_
        refine SW.cond rfl (fun c26 => ?_) (fun c26 => ?_)
        · skip
          refine SW.seq ?_
          refine SW.regT tabOk [4] ?_
          refine ai trivial ?_
          refine SW.ret ?_
          refine retOk1 rfl (congrArg D.b ?_)
          cases a; cases b; first | (simp_all; done) | (simp_all; grind)
        · skip
          refine SW.skip ?_
          refine SW.seq ?_
          refine SW.regT tabOk [4] ?_
          refine ai trivial ?_
          refine SW.ret ?_
          refine retOk1 rfl (congrArg D.b ?_)
          cases a; cases b; first | (simp_all; done) | (simp_all; grind)

theorem typed_mixRow {n B : Nat} {r : List D} (h : Typed tab B (n + 2) 196 r) : ∃ m : MixR, r = m.row ∧ True := by
  obtain ⟨hl, hf⟩ := h
  match r, hl with
  | [a0, a1], _ =>
  obtain ⟨x0, e0, w0⟩ := hf (0, 3) (by decide)
  obtain ⟨x1, e1, w1⟩ := hf (1, 9) (by decide)
  cases e0
  cases e1
  exact ⟨⟨x0, x1⟩, rfl, trivial⟩
theorem typed_halfRow {n B : Nat} {r : List D} (h : Typed tab B (n + 4) 128 r) : ∃ x : HalfR, r = x.row ∧ x.got.length * 24 ≤ B := by
  obtain ⟨hl, hf⟩ := h
  match r, hl with
  | [a0, a1, a2, a3, a4, a5], _ =>
  obtain ⟨x0, e0, w0⟩ := hf (0, 3) (by decide)
  obtain ⟨x1, e1, w1⟩ := hf (1, 3) (by decide)
  obtain ⟨x2, e2, w2⟩ := hf (2, 3) (by decide)
  obtain ⟨x3, e3, w3⟩ := hf (3, 3) (by decide)
  obtain ⟨x4, e4, w4⟩ := hf (4, 3) (by decide)
  obtain ⟨rows, e5, w5, hr⟩ := hf (5, 126) (by decide)
  cases e0
  cases e1
  cases e2
  cases e3
  cases e4
  cases e5
  obtain ⟨l, rfl, _⟩ := exists_map (f := MixR.row) fun r hr' => typed_mixRow (hr r hr')
  refine ⟨⟨x0, x1, x2, x3, x4, l⟩, rfl, ?_⟩
  have w5 : (l.map MixR.row).length * 24 ≤ B := w5
  simpa using w5
theorem typed_keeper {n B : Nat} {ds : List D} (h : Typed tab B (n + 6) 26 ds) : ∃ k : KeeperR, ds = k.row ∧ k.log.length ≤ B ∧ k.halves.length * 64 ≤ B ∧ ∀ h ∈ k.halves, h.got.length * 24 ≤ B := by
  obtain ⟨hl, hf⟩ := h
  match ds, hl with
  | [a0, a1, a2, a3, a4], _ =>
  obtain ⟨x0, e0, w0⟩ := hf (0, 3) (by decide)
  obtain ⟨x1, e1⟩ := hf (1, 4) (by decide)
  obtain ⟨_, hs⟩ := hf (2, 23) (by decide)
  obtain ⟨x2, e2, w2⟩ := hs (0, 9) (by decide)
  obtain ⟨x3, e3, w3⟩ := hs (1, 3) (by decide)
  obtain ⟨rows, e4, w4, hr⟩ := hf (4, 24) (by decide)
  cases e0
  cases e1
  cases e2
  cases e3
  cases e4
  obtain ⟨l, rfl, hg⟩ := exists_map (f := HalfR.row) fun r hr' => typed_halfRow (hr r hr')
  refine ⟨⟨x0, x1, x2, x3, l⟩, rfl, w2, ?_, hg⟩
  have w4 : (l.map HalfR.row).length * 64 ≤ B := w4
  simpa using w4
end Go.Proofs.YtilahgkblckndaaGreatDoor

namespace Go.Ab
open Go Go.RowKit
set_option linter.unusedVariables false
set_option linter.unusedSimpArgs false

end Go.Ab

namespace Go.Proofs.YtilahgkblckndaaGreatDoor
open Go Go.Ab Go.RowKit
set_option linter.unusedVariables false
set_option linter.unusedSimpArgs false

end Go.Proofs.YtilahgkblckndaaGreatDoor

namespace Go.Ab
open Go Go.RowKit
set_option linter.unusedVariables false
set_option linter.unusedSimpArgs false

end Go.Ab

namespace Go.Ab
open Go Go.RowKit
set_option linter.unusedVariables false
set_option linter.unusedSimpArgs false

def FrameR.zero : FrameR := ⟨0, 0, 0, 0, 0, 0, 0, 0, 0, []⟩
end Go.Ab

namespace Go.Ab
open Go Go.RowKit
set_option linter.unusedVariables false
set_option linter.unusedSimpArgs false

section
variable {τ σ' : St} {rl : List (Nat × Nat)} {bor : List Nat} {r : St}
end
section
variable {P : Program} {T : Tab} {o : Oper} {σ : St} {x y : Operand} {d ob j : Nat} {t ty : TypeId} {ti : TI} {Rx Ry : List (Loc × Option K)} {k : List (Loc × Option K) → List (Loc × K) → Prop}
end
end Go.Ab

namespace Go.Ab
open Go Go.RowKit
set_option linter.unusedVariables false
set_option linter.unusedSimpArgs false

end Go.Ab

namespace Go.Proofs.YtilahgkblckndaaGreatDoor
open Go Go.Ab Go.RowKit
set_option linter.unusedVariables false
set_option linter.unusedSimpArgs false

end Go.Proofs.YtilahgkblckndaaGreatDoor

namespace Go.Proofs.YtilahgkblckndaaGreatDoor
open Go Go.Ab Go.RowKit
set_option linter.unusedVariables false
set_option linter.unusedSimpArgs false

end Go.Proofs.YtilahgkblckndaaGreatDoor

namespace Go.Ab
open Go Go.RowKit
set_option linter.unusedVariables false
set_option linter.unusedSimpArgs false

theorem getD_none {α : Type} {l : List α} {i : Nat} {z : α} (h : l.length ≤ i) : l.getD i z = z := by
  rw [List.getD_eq_getElem?_getD, List.getElem?_eq_none h]; rfl
end Go.Ab

namespace Go.Proofs.YtilahgkblckndaaGreatDoor
open Go Go.Ab Go.RowKit
set_option linter.unusedVariables false
set_option linter.unusedSimpArgs false

end Go.Proofs.YtilahgkblckndaaGreatDoor

namespace Go.Ab
open Go Go.RowKit
set_option linter.unusedVariables false
set_option linter.unusedSimpArgs false

deriving instance DecidableEq for FrameR
end Go.Ab

namespace Go.Proofs.YtilahgkblckndaaGreatDoor
open Go Go.Ab Go.RowKit
set_option linter.unusedVariables false
set_option linter.unusedSimpArgs false

end Go.Proofs.YtilahgkblckndaaGreatDoor

namespace Go.Ab
open Go Go.RowKit
set_option linter.unusedVariables false
set_option linter.unusedSimpArgs false

structure ParcelR where
  frm : Int
  to : Int
  data : List UInt8
  done : Bool
  deriving DecidableEq
def ParcelR.row (p : ParcelR) : List D := [.i p.frm, .i p.to, .s p.data, .b p.done]
abbrev ParcelR.V (p : ParcelR) : V := .e (.agg [.d (.i p.frm), .d (.i p.to), .d (.s p.data), .d (.b p.done)])
def ParcelR.zero : ParcelR := ⟨0, 0, [], false⟩
def parcelRows (l : List ParcelR) : List (List D) := l.map ParcelR.row
def keeperRows (l : List KeeperR) : List (List D) := l.map KeeperR.row
structure RiverR where
  time : Int
  keepers : List KeeperR
  links : List Bool
  radio : List ParcelR
  sent : List NoteR
  got : List NoteR
  deriving DecidableEq
def RiverR.row (r : RiverR) : List D := [.i r.time, .sl (keeperRows r.keepers), .sl (boolRows r.links), .sl (parcelRows r.radio), .sl (noteRows r.sent), .sl (noteRows r.got)]
abbrev RiverR.V (r : RiverR) : V := .e (.agg [.d (.i r.time), .d (.sl (keeperRows r.keepers)), .d (.sl (boolRows r.links)), .d (.sl (parcelRows r.radio)), .d (.sl (noteRows r.sent)), .d (.sl (noteRows r.got))])
def RiverR.zero : RiverR := ⟨0, [], [], [], [], []⟩
theorem parcelRows_length (l : List ParcelR) : (parcelRows l).length = l.length := by simp [parcelRows]
theorem parcelRows_getD {l : List ParcelR} {i : Nat} (h : i < l.length) : (parcelRows l).getD i [] = (l.getD i ParcelR.zero).row := by
  rw [List.getD_eq_getElem?_getD, List.getD_eq_getElem?_getD]
  simp [parcelRows, h]
theorem keeperRows_length (l : List KeeperR) : (keeperRows l).length = l.length := by simp [keeperRows]
theorem keeperRows_getD {l : List KeeperR} {i : Nat} (h : i < l.length) : (keeperRows l).getD i [] = (l.getD i KeeperR.zero).row := by
  rw [List.getD_eq_getElem?_getD, List.getD_eq_getElem?_getD]
  simp [keeperRows, h]
theorem to_at_NoteR {l : List NoteR} {i : Nat} (h : i < l.length) : (noteRows ((l.take i) ++ List.replicate (l.length - i) NoteR.zero)).getD i [] = (NoteR.zero).row := by
  rw [noteRows_getD (by simp; omega), List.getD_eq_getElem?_getD, List.getElem?_append_right (by simp; omega)]
  rw [List.getElem?_replicate, if_pos (by simp; omega)]
  rfl
theorem to_step_NoteR {l : List NoteR} {i : Nat} (h : i < l.length) : (noteRows ((l.take i) ++ List.replicate (l.length - i) NoteR.zero)).set i (setSeg ((noteRows ((l.take i) ++ List.replicate (l.length - i) NoteR.zero)).getD i []) 0 (l.getD i NoteR.zero).row) = noteRows ((l.take (i + 1)) ++ List.replicate (l.length - (i + 1)) NoteR.zero) := by
  rw [to_at_NoteR h]
  show (noteRows _).set i (l.getD i NoteR.zero).row = _
  have e : l.length - i = (l.length - (i + 1)) + 1 := by omega
  rw [e, List.replicate_succ]
  unfold noteRows
  rw [List.map_append, List.map_cons, at_set (by simp; omega), take_succ (z := NoteR.zero) h, List.append_assoc, List.map_append, List.map_append]
  rfl
theorem to_at_ParcelR {l : List ParcelR} {i : Nat} (h : i < l.length) : (parcelRows ((l.take i) ++ List.replicate (l.length - i) ParcelR.zero)).getD i [] = (ParcelR.zero).row := by
  rw [parcelRows_getD (by simp; omega), List.getD_eq_getElem?_getD, List.getElem?_append_right (by simp; omega)]
  rw [List.getElem?_replicate, if_pos (by simp; omega)]
  rfl
theorem to_step_ParcelR {l : List ParcelR} {i : Nat} (h : i < l.length) : (parcelRows ((l.take i) ++ List.replicate (l.length - i) ParcelR.zero)).set i (setSeg ((parcelRows ((l.take i) ++ List.replicate (l.length - i) ParcelR.zero)).getD i []) 0 (l.getD i ParcelR.zero).row) = parcelRows ((l.take (i + 1)) ++ List.replicate (l.length - (i + 1)) ParcelR.zero) := by
  rw [to_at_ParcelR h]
  show (parcelRows _).set i (l.getD i ParcelR.zero).row = _
  have e : l.length - i = (l.length - (i + 1)) + 1 := by omega
  rw [e, List.replicate_succ]
  unfold parcelRows
  rw [List.map_append, List.map_cons, at_set (by simp; omega), take_succ (z := ParcelR.zero) h, List.append_assoc, List.map_append, List.map_append]
  rfl
theorem to_at_KeeperR {l : List KeeperR} {i : Nat} (h : i < l.length) : (keeperRows ((l.take i) ++ List.replicate (l.length - i) KeeperR.zero)).getD i [] = (KeeperR.zero).row := by
  rw [keeperRows_getD (by simp; omega), List.getD_eq_getElem?_getD, List.getElem?_append_right (by simp; omega)]
  rw [List.getElem?_replicate, if_pos (by simp; omega)]
  rfl
theorem to_step_KeeperR {l : List KeeperR} {i : Nat} (h : i < l.length) : (keeperRows ((l.take i) ++ List.replicate (l.length - i) KeeperR.zero)).set i (setSeg ((keeperRows ((l.take i) ++ List.replicate (l.length - i) KeeperR.zero)).getD i []) 0 (l.getD i KeeperR.zero).row) = keeperRows ((l.take (i + 1)) ++ List.replicate (l.length - (i + 1)) KeeperR.zero) := by
  rw [to_at_KeeperR h]
  show (keeperRows _).set i (l.getD i KeeperR.zero).row = _
  have e : l.length - i = (l.length - (i + 1)) + 1 := by omega
  rw [e, List.replicate_succ]
  unfold keeperRows
  rw [List.map_append, List.map_cons, at_set (by simp; omega), take_succ (z := KeeperR.zero) h, List.append_assoc, List.map_append, List.map_append]
  rfl
theorem to_at_Bool {l : List Bool} {i : Nat} (h : i < l.length) : (boolRows ((l.take i) ++ List.replicate (l.length - i) false)).getD i [] = ([D.b (false)] : List D) := by
  rw [boolRows_getD (by simp; omega), List.getD_eq_getElem?_getD, List.getElem?_append_right (by simp; omega)]
  rw [List.getElem?_replicate, if_pos (by simp; omega)]
  rfl
theorem to_step_Bool {l : List Bool} {i : Nat} (h : i < l.length) : (boolRows ((l.take i) ++ List.replicate (l.length - i) false)).set i (setSeg ((boolRows ((l.take i) ++ List.replicate (l.length - i) false)).getD i []) 0 ([D.b (l.getD i false)] : List D)) = boolRows ((l.take (i + 1)) ++ List.replicate (l.length - (i + 1)) false) := by
  rw [to_at_Bool h]
  show (boolRows _).set i ([D.b (l.getD i false)] : List D) = _
  have e : l.length - i = (l.length - (i + 1)) + 1 := by omega
  rw [e, List.replicate_succ]
  unfold boolRows
  rw [List.map_append, List.map_cons, at_set (by simp; omega), take_succ (z := false) h, List.append_assoc, List.map_append, List.map_append]
  rfl
def parcelOk (p : ParcelR) : Bool := isNode p.frm && isNode p.to && (p.frm - p.to == 1 || p.to - p.frm == 1) && decide (p.data.length ≤ 40)
def keepersStep (l : List KeeperR) (i : Nat) : Bool := keeperOk (l.getD i .zero) && (l.getD i .zero).id == i
def keepersOk (l : List KeeperR) : Bool := (List.range l.length).all (keepersStep l)
def parcelsOk (l : List ParcelR) : Bool := (List.range l.length).all fun i => parcelOk (l.getD i .zero)
def plainNotes (l : List NoteR) : Bool := (List.range l.length).all fun i => noteOk (l.getD i .zero)
def riverHead (r : RiverR) : Bool := inB r.time 0 99999 && r.keepers.length == 4 && r.links.length == 3 && decide (r.radio.length ≤ 30) && decide (r.sent.length ≤ 6) && decide (r.got.length ≤ 6)
def riverOk (r : RiverR) : Bool := riverHead r && keepersOk r.keepers && parcelsOk r.radio && plainNotes r.sent && plainNotes r.got
def allNotes (l : List NoteR) : Bool := plainNotes l && decide (l.length ≤ 6)
theorem all_range_false {p : Nat → Bool} {n i : Nat} (hi : i < n) (h : p i = false) : (List.range n).all p = false := by
  rw [← Bool.not_eq_true, List.all_eq_true]
  intro h9
  have := h9 i (List.mem_range.2 hi)
  rw [h] at this; cases this
theorem all_range_true {p : Nat → Bool} {n : Nat} (h : ∀ j, j < n → p j = true) : (List.range n).all p = true := by
  rw [List.all_eq_true]
  intro j hj
  exact h j (List.mem_range.1 hj)
def RVB (r : RiverR) : Prop := (r.keepers.length * 64 ≤ 140737488355328 ∧ ∀ k ∈ r.keepers, KRB k) ∧ r.links.length ≤ 140737488355328 ∧ r.radio.length * 40 ≤ 140737488355328 ∧ r.sent.length * 48 ≤ 140737488355328 ∧ r.got.length * 48 ≤ 140737488355328 ∧ (∀ x ∈ r.sent, x.text.length ≤ 140737488355328) ∧ ∀ x ∈ r.got, x.text.length ≤ 140737488355328
theorem of_bne {x y : Bool} (h : (toB (([D.b x] : List D).getD 0 (.i 0)) != toB (([D.b y] : List D).getD 0 (.i 0))) = false) : x = y := by
  have h : (x != y) = false := h
  simpa using h
theorem of_bne_ne {x y : Bool} (h : (toB (([D.b x] : List D).getD 0 (.i 0)) != toB (([D.b y] : List D).getD 0 (.i 0))) = true) : ¬ x = y := by
  have h : (x != y) = true := h
  simpa using h
def RVq (B : Nat) (r : RiverR) : Prop := (r.keepers.length * 64 ≤ B ∧ ∀ k ∈ r.keepers, k.log.length ≤ B ∧ k.halves.length * 64 ≤ B ∧ ∀ h ∈ k.halves, h.got.length * 24 ≤ B) ∧ r.links.length ≤ B ∧ r.radio.length * 40 ≤ B ∧ r.sent.length * 48 ≤ B ∧ r.got.length * 48 ≤ B ∧ (∀ x ∈ r.sent, x.text.length ≤ B) ∧ ∀ x ∈ r.got, x.text.length ≤ B
theorem krb_river {B : Nat} (hB : B ≤ 140737488355328) {r : RiverR} (h : RVq B r) : RVB r := by
  obtain ⟨⟨h1, h2⟩, h3, h4, h5, h6, h7, h8⟩ := h
  exact ⟨⟨by omega, fun k hk => by
    obtain ⟨q1, q2, q3⟩ := h2 k hk
    exact ⟨by omega, by omega, fun x hx => by have := q3 x hx; omega⟩⟩, by omega, by omega, by omega, by omega, fun x hx => by have := h7 x hx; omega, fun x hx => by have := h8 x hx; omega⟩
theorem river_bad {r : RiverR} (h : (riverHead r = false ∨ plainNotes r.sent = false ∨ plainNotes r.got = false) ∨ keepersOk r.keepers = false ∨ parcelsOk r.radio = false) : riverOk r = false := by
  unfold riverOk
  rcases h with (h | h | h) | h | h <;> rw [h] <;> simp
theorem river_good {r : RiverR} (h1 : riverHead r = true) (h2 : plainNotes r.sent = true) (h3 : plainNotes r.got = true) (h4 : keepersOk r.keepers = true) (h5 : parcelsOk r.radio = true) : riverOk r = true := by
  unfold riverOk
  rw [h1, h2, h3, h4, h5]; rfl
theorem bne_nat (n m : Nat) {j : Int} (e : j = m) : ((n : Int) != j) = !(n == m) := by
  subst e
  by_cases h : n = m
  · subst h; simp
  · have h2 : ¬ (n : Int) = m := by omega
    rw [beq_eq_false_iff_ne.2 h, bne, beq_eq_false_iff_ne.2 h2]
theorem gt_not (n m : Nat) {j : Int} (e : j = m) : decide ((n : Int) > j) = !decide (n ≤ m) := by
  subst e
  by_cases h : n ≤ m
  · simp [h]
  · simp [h]; omega
theorem river_genI {r : RiverR} {c : Bool} (h : (!inB r.time 0 99999 || ((keeperRows r.keepers).length : Int) != 4 || ((boolRows r.links).length : Int) != 3 || decide (((parcelRows r.radio).length : Int) > 30) || !allNotes r.sent || !allNotes r.got) = c) : (riverHead r && plainNotes r.sent && plainNotes r.got) = !c := by
  subst h
  rw [keeperRows_length, boolRows_length, parcelRows_length, bne_nat (j := 4) r.keepers.length 4 rfl, bne_nat (j := 3) r.links.length 3 rfl, gt_not (j := 30) r.radio.length 30 rfl]
  unfold riverHead allNotes
  generalize inB r.time 0 99999 = a1
  generalize (r.keepers.length == 4) = a2
  generalize (r.links.length == 3) = a3
  generalize decide (r.radio.length ≤ 30) = a4
  generalize decide (r.sent.length ≤ 6) = a5
  generalize decide (r.got.length ≤ 6) = a6
  generalize plainNotes r.sent = a7
  generalize plainNotes r.got = a8
  cases a1 <;> cases a2 <;> cases a3 <;> cases a4 <;> cases a5 <;> cases a6 <;> cases a7 <;> cases a8 <;> rfl
theorem river_genS {r : RiverR} {c : Bool} (h : (!inB r.time 0 99999 || ((keeperRows r.keepers).length : Int) != 4 || ((boolRows r.links).length : Int) != 3 || decide (((parcelRows r.radio).length : Int) > 30) || decide (((noteRows r.sent).length : Int) > 6) || decide (((noteRows r.got).length : Int) > 6)) = c) : riverHead r = !c := by
  subst h
  rw [keeperRows_length, boolRows_length, parcelRows_length, noteRows_length, noteRows_length, bne_nat (j := 4) r.keepers.length 4 rfl, bne_nat (j := 3) r.links.length 3 rfl, gt_not (j := 30) r.radio.length 30 rfl, gt_not (j := 6) r.sent.length 6 rfl, gt_not (j := 6) r.got.length 6 rfl]
  unfold riverHead
  generalize inB r.time 0 99999 = a1
  generalize (r.keepers.length == 4) = a2
  generalize (r.links.length == 3) = a3
  generalize decide (r.radio.length ≤ 30) = a4
  generalize decide (r.sent.length ≤ 6) = a5
  generalize decide (r.got.length ≤ 6) = a6
  cases a1 <;> cases a2 <;> cases a3 <;> cases a4 <;> cases a5 <;> cases a6 <;> rfl
theorem parcel_gen {p : ParcelR} {c : Bool} (h : (!isNode p.frm || !isNode p.to || wrap64 (p.frm - p.to) != 1 && wrap64 (p.to - p.frm) != 1 || decide ((p.data.length : Int) > 40)) = c) : parcelOk p = !c := by
  subst h
  rw [gt_not (j := 40) p.data.length 40 rfl]
  unfold parcelOk
  cases h1 : isNode p.frm with
  | false => rfl
  | true =>
    cases h2 : isNode p.to with
    | false => rfl
    | true =>
      have q1 : 0 ≤ p.frm ∧ p.frm ≤ 3 := by simpa [isNode, inB] using h1
      have q2 : 0 ≤ p.to ∧ p.to ≤ 3 := by simpa [isNode, inB] using h2
      rw [wrap64_of (n := p.frm - p.to) (by omega), wrap64_of (n := p.to - p.frm) (by omega)]
      unfold bne
      generalize (p.frm - p.to == 1) = a
      generalize (p.to - p.frm == 1) = b
      generalize decide (p.data.length ≤ 40) = d
      cases a <;> cases b <;> cases d <;> rfl
theorem keeper_genI {l : List KeeperR} {i : Nat} {c : Bool} (h : ((l.getD i .zero).id != (i : Int) || !keeperOk (l.getD i .zero)) = c) : keepersStep l i = !c := by
  subst h
  unfold keepersStep bne
  generalize ((l.getD i .zero).id == (i : Int)) = a
  generalize keeperOk (l.getD i .zero) = b
  cases a <;> cases b <;> rfl
theorem keeper_genS {l : List KeeperR} {i : Nat} {c : Bool} (h : (!keeperOk (l.getD i .zero) || (l.getD i .zero).id != (i : Int)) = c) : keepersStep l i = !c := by
  subst h
  unfold keepersStep bne
  generalize ((l.getD i .zero).id == (i : Int)) = a
  generalize keeperOk (l.getD i .zero) = b
  cases a <;> cases b <;> rfl
end Go.Ab

namespace Go.Proofs.YtilahgkblckndaaGreatDoor
open Go Go.Ab Go.RowKit
set_option linter.unusedVariables false
set_option linter.unusedSimpArgs false

theorem s_laws_szNote (m : NoteR) (n : Int) : Ab.SpecE Tryz.prog 114 2 [(.t 0, .v (m.V)), (.t 1, .v (I n))] (fun s => ∃ r : Int, s = [(.t 0, .v (I r))]) := by
  refine specE_of_body tabOk Tryz.func114 rfl (by kernel_rfl) (by decide) (by kernel_rfl) rfl ?_
  refine SW.seq ?_
  refine SW.regT tabOk [1, 2] ?_
  refine ai trivial (ai trivial ?_)
  refine SW.seq ?_
  refine SW.regT tabOk [1] ?_
  refine ai trivial (ai (by first | trivial | rfl) (ai vc (ai vc (ai trivial (ai trivial ?_)))))
  refine SW.seq ?_
  refine SW.seq ?_
  refine SW.regT tabOk [1, 11] ?_
  refine ai trivial (ai trivial ?_)
  refine SW.cond rfl (fun c11 => ?_) (fun c11 => ?_)
  · skip
    refine SW.seq ?_
    refine SW.regT tabOk [4] ?_
    refine ai trivial ?_
    refine SW.ret ?_
    refine retQR _ ⟨_, rfl⟩ (retOk1 rfl rfl)
  · skip
    refine SW.skip ?_
    refine SW.seq ?_
    refine SW.regT tabOk [4] ?_
    refine ai trivial (ai trivial ?_)
    refine SW.ret ?_
    refine retQR _ ⟨_, rfl⟩ (retOk1 rfl rfl)

theorem s_laws_toNote (m : NoteR) : Ab.Spec Tryz.prog 116 1 [(.t 0, .v (m.V))] [(.t 0, .v (m.V))] := by
  refine spec_of_body tabOk Tryz.func116 rfl (by kernel_rfl) (by decide) (by kernel_rfl) rfl ?_
  refine SW.seq ?_
  refine SW.regT tabOk [1, 2] ?_
  refine ai trivial (ai trivial ?_)
  refine SW.seq ?_
  refine SW.regT tabOk [1, 2, 3] ?_
  refine ai trivial ?_
  refine SW.seq ?_
  refine SW.regT tabOk [1, 2, 3] ?_
  refine ai (by first | trivial | rfl) (ai vc (ai (by first | trivial | rfl) (ai ⟨by kernel_rfl, Nat.le_of_ble_eq_true (by kernel_rfl)⟩ ?_)))
  refine SW.seq ?_
  refine SW.regT tabOk [1, 2, 3] ?_
  refine ai (by first | trivial | rfl) (ai vc (ai (by first | trivial | rfl) (ai ⟨by kernel_rfl, Nat.le_of_ble_eq_true (by kernel_rfl)⟩ ?_)))
  refine SW.seq ?_
  refine SW.regT tabOk [1, 2, 3] ?_
  refine ai (by first | trivial | rfl) (ai vc (ai (by first | trivial | rfl) (ai ⟨by kernel_rfl, Nat.le_of_ble_eq_true (by kernel_rfl)⟩ ?_)))
  refine SW.seq ?_
  refine SW.regT tabOk [1, 2, 3] ?_
  refine ai (by first | trivial | rfl) (ai vc (ai (by first | trivial | rfl) (ai ⟨by kernel_rfl, Nat.le_of_ble_eq_true (by kernel_rfl)⟩ ?_)))
  refine SW.seq ?_
  refine SW.regT tabOk [2, 3] ?_
  refine ai (by first | trivial | rfl) (ai vc (ai (by first | trivial | rfl) (ai ⟨by kernel_rfl, Nat.le_of_ble_eq_true (by kernel_rfl)⟩ ?_)))
  refine SW.seq ?_
  refine SW.regT tabOk [2] ?_
  refine ai vc (ai ⟨by kernel_rfl, Nat.le_of_ble_eq_true (by kernel_rfl)⟩ ?_)
  refine SW.ret ?_
  refine retOkP rfl rfl ?_
  rfl

theorem s_laws_eqNote (a b : NoteR) : Ab.Spec Tryz.prog 31 2 [(.t 0, .v (a.V)), (.t 1, .v (b.V))] [(.t 0, .v (B (decide (a = b))))] := by
  refine spec_of_body tabOk Tryz.func31 rfl (by kernel_rfl) (by decide) (by kernel_rfl) rfl ?_
  refine SW.seq ?_
  refine SW.regT tabOk [2, 3] ?_
  refine ai trivial (ai trivial (ai trivial ?_))
  refine SW.seq ?_
  refine SW.seq ?_
  refine SW.regT tabOk [2, 3, 9] ?_
  refine ai (by first | trivial | rfl) (ai vc (ai (by first | trivial | rfl) (ai vc (ai trivial ?_))))
  refine SW.cond rfl (fun c9 => ?_) (fun c9 => ?_)
  · skip
    refine SW.seq ?_
    refine SW.regT tabOk [4] ?_
    refine ai trivial ?_
    refine SW.ret ?_
    refine retOk1 rfl (congrArg D.b ?_)
    cases a; cases b; simp_all
  · skip
    refine SW.skip ?_
    refine SW.seq ?_
    refine SW.seq ?_
    refine SW.regT tabOk [2, 3, 14] ?_
    refine ai (by first | trivial | rfl) (ai vc (ai (by first | trivial | rfl) (ai vc (ai trivial ?_))))
    refine SW.cond rfl (fun c14 => ?_) (fun c14 => ?_)
    · skip
      refine SW.seq ?_
      refine SW.regT tabOk [4] ?_
      refine ai trivial ?_
      refine SW.ret ?_
      refine retOk1 rfl (congrArg D.b ?_)
      cases a; cases b; simp_all
    · skip
      refine SW.skip ?_
      refine SW.seq ?_
      refine SW.seq ?_
      refine SW.regT tabOk [2, 3, 19] ?_
      refine ai (by first | trivial | rfl) (ai vc (ai (by first | trivial | rfl) (ai vc (ai trivial ?_))))
      refine SW.cond rfl (fun c19 => ?_) (fun c19 => ?_)
      · skip
        refine SW.seq ?_
        refine SW.regT tabOk [4] ?_
        refine ai trivial ?_
        refine SW.ret ?_
        refine retOk1 rfl (congrArg D.b ?_)
        cases a; cases b; simp_all
      · skip
        refine SW.skip ?_
        refine SW.seq ?_
        refine SW.seq ?_
        refine SW.regT tabOk [2, 3, 24] ?_
        refine ai (by first | trivial | rfl) (ai vc (ai (by first | trivial | rfl) (ai vc (ai trivial ?_))))
        refine SW.cond rfl (fun c24 => ?_) (fun c24 => ?_)
        · skip
          refine SW.seq ?_
          refine SW.regT tabOk [4] ?_
          refine ai trivial ?_
          refine SW.ret ?_
          refine retOk1 rfl (congrArg D.b ?_)
          cases a; cases b; simp_all
        · skip
          refine SW.skip ?_
          refine SW.seq ?_
          refine SW.seq ?_
          refine SW.regT tabOk [29] ?_
          refine ai (by first | trivial | rfl) (ai vc (ai (by first | trivial | rfl) (ai vc (ai vc ?_))))
          refine SW.cond rfl (fun c29 => ?_) (fun c29 => ?_)
          · skip
            refine SW.seq ?_
            refine SW.regT tabOk [4] ?_
            refine ai trivial ?_
            refine SW.ret ?_
            refine retOk1 rfl (congrArg D.b ?_)
            cases a; cases b; simp_all
          · skip
            refine SW.skip ?_
            refine SW.seq ?_
            refine SW.regT tabOk [4] ?_
            refine ai trivial ?_
            refine SW.ret ?_
            refine retOk1 rfl (congrArg D.b ?_)
            cases a; cases b; simp_all

set_option maxHeartbeats 800000 in
theorem s_laws_szNoteS (l : List NoteR) (n : Int) (hg : l.length * 48 ≤ 140737488355328) : Ab.SpecE Tryz.prog 60 2 [(.t 0, .v (Dv (.sl (noteRows l)))), (.t 1, .v (I n))] (fun s => ∃ r : Int, s = [(.t 0, .v (I r))]) := by
  refine specE_of_body tabOk Tryz.func60 rfl (by kernel_rfl) (by decide) (by kernel_rfl) rfl ?_
  refine SW.seq ?_
  refine SW.regT tabOk [0, 1] ?_
  refine ai trivial ?_
  refine SW.seq ?_
  refine SW.regT tabOk [0, 1] ?_
  refine ai trivial (ai trivial (ai vc (ai trivial (ai trivial ?_))))
  refine SW.seq ?_
  refine SW.seq ?_
  refine SW.regT tabOk [0, 1, 11] ?_
  refine ai trivial (ai trivial ?_)
  refine SW.cond rfl (fun c11 => ?_) (fun c11 => ?_)
  · skip
    refine SW.seq ?_
    refine SW.regT tabOk [4] ?_
    refine ai trivial ?_
    refine SW.ret ?_
    refine retQR _ ⟨_, rfl⟩ (retOk1 rfl rfl)
  · skip
    refine SW.skip ?_
    refine SW.seq ?_
    refine SW.seq ?_
    refine SW.regT tabOk [0, 1, 5] ?_
    refine ai trivial ?_
    refine SW.block ?_
    -- live at the head: [0, 1, 5]
    refine SW.loopW (n := l.length) (fun m q => ∃ (i : Nat) (x : Int), m = l.length - i ∧ i ≤ l.length ∧ q = [(.t 0, .v (Dv (.sl (noteRows l)))), (.t 1, .v (I x)), (.t 5, .v (I (i : Nat)))]) ?_ ?_
    · skip
      refine wk [(.t 0, .v (Dv (.sl (noteRows l)))), (.t 1, .v (I (wrap64 (n - ((noteRows l).length : Int))))), (.t 5, .v (I (0 : Nat)))] [] [] (⟨0, _, rfl, Nat.zero_le _, rfl⟩) ?_ rfl rfl
      repeat' first | exact trivial | refine mL_nil rfl ?_ | refine mL_d rfl ?_ ?_ | refine mL_own rfl rfl ?_ rfl ?_ | refine mL_row rfl ?_ ?_ | refine mL_pt rfl rfl rfl rfl ?_ | refine mL_box rfl ?_ ?_ | refine mL_agg rfl ?_ ?_ | exact mCs_nil0 | refine mCs_d ?_ ?_ | refine mCs_nil ?_ | refine mCs_own rfl ?_ rfl ?_ | refine mCs_pt rfl rfl rfl ?_
      all_goals first | with_reducible rfl | (first | rfl | (simp; done) | omega)
    rintro n s ⟨i, x, rfl, hi, rfl⟩
    refine SW.seq ?_
    refine SW.seq ?_
    refine SW.regT tabOk [0, 1, 5, 15] ?_
    refine ai trivial (ai trivial (ai vc (ai trivial ?_)))
    refine SW.cond rfl (fun c15 => ?_) (fun c15 => ?_)
    · skip
      have hi2 : i < l.length := by simpa [noteRows_length] using c15
      have hgg := noteRows_getD (l := l) hi2
      have hmem : l.getD i .zero ∈ l := mem_getD hi2
      refine SW.skip ?_
      refine SW.seq ?_
      refine SW.block ?_
      refine SW.seq ?_
      refine SW.regE tabOk [0, 1, 5] ?_
      refine ai trivial (ai trivial (ai (by rw [Int.toNat_natCast, hgg]; exact ⟨⟨by omega, by rw [noteRows_length]; omega⟩, rfl⟩) (ai (by rw [Int.toNat_natCast, hgg]; exact ⟨Nat.le_of_ble_eq_true rfl, rfl⟩) (ai trivial ?_))))
      refine ee_call (rl := []) (bor := []) (news := []) (robj := []) (s_laws_szNote (l.getD i .zero) x) rfl rfl rfl rfl (by refine ⟨mL_agg rfl ?_ (mL_d rfl rfl trivial), rfl⟩; rw [Int.toNat_natCast, hgg]; exact mCs_d rfl (mCs_d rfl (mCs_d rfl (mCs_d rfl (mCs_d rfl (trivial)))))) (fun σ hσ => by obtain ⟨r, rfl⟩ := hσ; exact ⟨rfl, .inl rfl, fun j hj => by simp [newIds, objIds] at hj⟩) (fun p hp => nomatch hp) (fun j hj => nomatch hj) ?_
      rintro σ ⟨r, rfl⟩
      refine ai trivial ?_
      refine SW.seq ?_
      refine SW.regT tabOk [0, 1, 5, 25] ?_
      refine ai trivial (ai trivial ?_)
      refine SW.cond rfl (fun c25 => ?_) (fun c25 => ?_)
      · skip
        refine SW.seq ?_
        refine SW.regT tabOk [4] ?_
        refine ai trivial ?_
        refine SW.ret ?_
        refine retQR _ ⟨_, rfl⟩ (retOk1 rfl rfl)
      · skip
        refine SW.skip ?_
        refine SW.regT tabOk [0, 1, 5] ?_
        refine ai trivial (ai trivial (ai trivial ?_))
        refine wk [(.t 0, .v (Dv (.sl (noteRows l)))), (.t 1, .v (I r)), (.t 5, .v (I ((i + 1) : Nat)))] [] [] (⟨l.length - (i + 1), by omega, i + 1, r, rfl, by omega, rfl⟩) ?_ rfl rfl
        repeat' first | exact trivial | refine mL_nil rfl ?_ | refine mL_d rfl ?_ ?_ | refine mL_own rfl rfl ?_ rfl ?_ | refine mL_row rfl ?_ ?_ | refine mL_pt rfl rfl rfl rfl ?_ | refine mL_box rfl ?_ ?_ | refine mL_agg rfl ?_ ?_ | exact mCs_nil0 | refine mCs_d ?_ ?_ | refine mCs_nil ?_ | refine mCs_own rfl ?_ rfl ?_ | refine mCs_pt rfl rfl rfl ?_
        all_goals first | with_reducible rfl | (first | with_reducible rfl | exact congrArg D.i (wrap64_of (by omega)))
    · skip
      refine SW.exit ?_
      refine SW.seq ?_
      refine SW.regT tabOk [4] ?_
      refine ai trivial (ai trivial ?_)
      refine SW.ret ?_
      refine retQR _ ⟨_, rfl⟩ (retOk1 rfl rfl)

set_option maxHeartbeats 800000 in
theorem s_laws_toNoteS (l : List NoteR) (hg : l.length * 48 ≤ 140737488355328) : Ab.Spec Tryz.prog 66 1 [(.t 0, .v (Dv (.sl (noteRows l))))] [(.t 0, .v (Dv (.sl (noteRows l))))] := by
  refine spec_of_body tabOk Tryz.func66 rfl (by kernel_rfl) (by decide) (by kernel_rfl) rfl ?_
  refine SW.seq ?_
  refine SW.regT tabOk [0] ?_
  refine ai trivial ?_
  refine SW.seq ?_
  refine SW.regT tabOk [0, 3] ?_
  refine ai trivial (ai vc (ai (by refine ⟨rfl, by omega, ?_⟩; rw [noteRows_length]; show ((48 : Nat) : Int) * _ ≤ _; omega) (ai trivial ?_)))
  refine SW.seq ?_
  refine SW.seq ?_
  refine SW.regT tabOk [0, 3, 4] ?_
  refine ai trivial ?_
  refine SW.block ?_
  -- live at the head: [0, 3, 4]
  refine SW.loopW (n := l.length) (fun m q => ∃ i : Nat, m = l.length - i ∧ i ≤ l.length ∧ q = [(.t 0, .v (Dv (.sl (noteRows l)))), (.t 3, .v (.e (.c (.own 7 l.length)))), (.t 4, .v (I (i : Nat))), (.o 7, .row 64 5 (noteRows ((l.take i) ++ List.replicate (l.length - i) .zero)))]) ?_ ?_
  · skip
    refine wk [(.t 0, .v (Dv (.sl (noteRows l)))), (.t 3, .v (.e (.c (.own 7 l.length)))), (.t 4, .v (I (0 : Nat))), (.o 7, .row 64 5 (noteRows ((l.take 0) ++ List.replicate (l.length - 0) .zero)))] [] [] (⟨0, rfl, Nat.zero_le _, rfl⟩) ?_ rfl rfl
    repeat' first | exact trivial | refine mL_nil rfl ?_ | refine mL_d rfl ?_ ?_ | refine mL_own rfl rfl ?_ rfl ?_ | refine mL_row rfl ?_ ?_ | refine mL_pt rfl rfl rfl rfl ?_ | refine mL_box rfl ?_ ?_ | refine mL_agg rfl ?_ ?_ | exact mCs_nil0 | refine mCs_d ?_ ?_ | refine mCs_nil ?_ | refine mCs_own rfl ?_ rfl ?_ | refine mCs_pt rfl rfl rfl ?_
    all_goals first | with_reducible rfl | (first | with_reducible rfl | rfl | (rw [noteRows_length]; rfl) | (simp [noteRows, noteRows_length, NoteR.row, NoteR.zero]; done))
  rintro n s ⟨i, rfl, hi, rfl⟩
  refine SW.seq ?_
  refine SW.seq ?_
  refine SW.regT tabOk [0, 3, 4, 11] ?_
  refine ai trivial (ai trivial (ai vc (ai trivial ?_)))
  refine SW.cond rfl (fun c11 => ?_) (fun c11 => ?_)
  · skip
    have hi2 : i < l.length := by simpa [noteRows_length] using c11
    have hgg := noteRows_getD (l := l) hi2
    have hmem : l.getD i .zero ∈ l := mem_getD hi2
    refine SW.skip ?_
    refine SW.seq ?_
    refine SW.block ?_
    refine SW.regT tabOk [0, 3, 4] ?_
    refine ai trivial (ai trivial (ai trivial (ai trivial (ai (by rw [Int.toNat_natCast, hgg]; exact ⟨⟨by omega, by rw [noteRows_length]; omega⟩, rfl⟩) (ai (by rw [Int.toNat_natCast, hgg]; exact ⟨Nat.le_of_ble_eq_true rfl, rfl⟩) ?_)))))
    refine ex_pure (s_laws_toNote (l.getD i .zero)) rfl rfl rfl rfl rfl (by rw [Int.toNat_natCast, hgg]; rfl) rfl rfl ?_
    refine ai (by refine ⟨?_, by omega, by omega⟩; simp [noteRows_length]; omega) (ai (by rw [Int.toNat_natCast, to_at_NoteR hi2]; exact ⟨by simp [noteRows_length]; omega, by omega, rfl, Nat.le_refl _⟩) ?_)
    refine SW.regT tabOk [0, 3, 4] ?_
    refine ai trivial (ai trivial (ai trivial ?_))
    refine wk [(.t 0, .v (Dv (.sl (noteRows l)))), (.t 3, .v (.e (.c (.own 7 l.length)))), (.t 4, .v (I ((i + 1) : Nat))), (.o 7, .row 64 5 (noteRows ((l.take (i + 1)) ++ List.replicate (l.length - (i + 1)) .zero)))] [] [] (⟨l.length - (i + 1), by omega, i + 1, rfl, by omega, rfl⟩) ?_ rfl rfl
    repeat' first | exact trivial | refine mL_nil rfl ?_ | refine mL_d rfl ?_ ?_ | refine mL_own rfl rfl ?_ rfl ?_ | refine mL_row rfl ?_ ?_ | refine mL_pt rfl rfl rfl rfl ?_ | refine mL_box rfl ?_ ?_ | refine mL_agg rfl ?_ ?_ | exact mCs_nil0 | refine mCs_d ?_ ?_ | refine mCs_nil ?_ | refine mCs_own rfl ?_ rfl ?_ | refine mCs_pt rfl rfl rfl ?_
    all_goals first | with_reducible rfl | (first | with_reducible rfl | exact congrArg D.i (by rw [wrap64_of (by omega)]; omega) | (rw [Int.toNat_natCast]; exact to_step_NoteR hi2))
  · skip
    have hi3 : i = l.length := by simp [noteRows_length] at c11; omega
    subst hi3
    refine SW.exit ?_
    refine SW.seq ?_
    refine SW.regT tabOk [2] ?_
    refine ai trivial (ai trivial ?_)
    refine SW.ret ?_
    refine retOk _ [] [7] rfl (mL_froze rfl rfl rfl ?_ (congrArg D.sl ?_) trivial) rfl rfl
    · simp [noteRows_length]
    · simp

set_option maxHeartbeats 800000 in
theorem s_laws_eqNoteS (a b : List NoteR) (hg : a.length * 48 ≤ 140737488355328) : Ab.Spec Tryz.prog 72 2 [(.t 0, .v (Dv (.sl (noteRows a)))), (.t 1, .v (Dv (.sl (noteRows b))))] [(.t 0, .v (B (decide (a = b))))] := by
  refine spec_of_body tabOk Tryz.func72 rfl (by kernel_rfl) (by decide) (by kernel_rfl) rfl ?_
  refine SW.seq ?_
  refine SW.regT tabOk [0, 1] ?_
  refine ai trivial ?_
  refine SW.seq ?_
  refine SW.seq ?_
  refine SW.regT tabOk [0, 1, 10] ?_
  refine ai trivial (ai vc (ai trivial (ai vc (ai trivial ?_))))
  refine SW.cond rfl (fun c10 => ?_) (fun c10 => ?_)
  · skip
    refine SW.seq ?_
    refine SW.regT tabOk [4] ?_
    refine ai trivial ?_
    refine SW.ret ?_
    refine retOk1 rfl (congrArg D.b ?_)
    symm
    apply decide_eq_false
    intro e
    rw [e] at c10
    simp at c10
  · skip
    have hlen : a.length = b.length := by simp [noteRows_length] at c10; omega
    refine SW.skip ?_
    refine SW.seq ?_
    refine SW.seq ?_
    refine SW.regT tabOk [0, 1, 5] ?_
    refine ai trivial ?_
    refine SW.block ?_
    -- live at the head: [0, 1, 5]
    refine SW.loopW (n := a.length) (fun m q => ∃ i : Nat, m = a.length - i ∧ i ≤ a.length ∧ (∀ j, j < i → a.getD j .zero = b.getD j .zero) ∧ q = [(.t 0, .v (Dv (.sl (noteRows a)))), (.t 1, .v (Dv (.sl (noteRows b)))), (.t 5, .v (I (i : Nat)))]) ?_ ?_
    · skip
      refine wk [(.t 0, .v (Dv (.sl (noteRows a)))), (.t 1, .v (Dv (.sl (noteRows b)))), (.t 5, .v (I (0 : Nat)))] [] [] (⟨0, rfl, Nat.zero_le _, fun j h => absurd h (by omega), rfl⟩) ?_ rfl rfl
      repeat' first | exact trivial | refine mL_nil rfl ?_ | refine mL_d rfl ?_ ?_ | refine mL_own rfl rfl ?_ rfl ?_ | refine mL_row rfl ?_ ?_ | refine mL_pt rfl rfl rfl rfl ?_ | refine mL_box rfl ?_ ?_ | refine mL_agg rfl ?_ ?_ | exact mCs_nil0 | refine mCs_d ?_ ?_ | refine mCs_nil ?_ | refine mCs_own rfl ?_ rfl ?_ | refine mCs_pt rfl rfl rfl ?_
      all_goals first | with_reducible rfl | (first | rfl | (simp; done) | omega)
    rintro n s ⟨i, rfl, hi, hk, rfl⟩
    refine SW.seq ?_
    refine SW.seq ?_
    refine SW.regT tabOk [0, 1, 5, 14] ?_
    refine ai trivial (ai trivial (ai vc (ai trivial ?_)))
    refine SW.cond rfl (fun c14 => ?_) (fun c14 => ?_)
    · skip
      have hi2 : i < a.length := by simpa [noteRows_length] using c14
      have hga := noteRows_getD (l := a) hi2
      have hgb := noteRows_getD (l := b) (i := i) (by omega)
      have hmem : a.getD i .zero ∈ a := mem_getD hi2
      refine SW.skip ?_
      refine SW.seq ?_
      refine SW.block ?_
      refine SW.seq ?_
      refine SW.regD tabOk mo [0, 1, 5, 26] ?_
      refine ai trivial (ai trivial (ai (by rw [Int.toNat_natCast, hga]; exact ⟨⟨by omega, by rw [noteRows_length]; omega⟩, rfl⟩) (ai (by rw [Int.toNat_natCast, hga]; exact ⟨Nat.le_of_ble_eq_true rfl, rfl⟩) (ai trivial (ai trivial (ai (by rw [Int.toNat_natCast, hgb]; exact ⟨⟨by omega, by rw [noteRows_length]; omega⟩, rfl⟩) (ai (by rw [Int.toNat_natCast, hgb]; exact ⟨Nat.le_of_ble_eq_true rfl, rfl⟩) ?_)))))))
      refine ex_pure (s_laws_eqNote (a.getD i .zero) (b.getD i .zero)) rfl rfl rfl rfl rfl (by rw [Int.toNat_natCast, hga, hgb]; rfl) rfl rfl ?_
      refine ai trivial (ai (by kernel_rfl) ?_)
      refine SW.cond rfl (fun c26 => ?_) (fun c26 => ?_)
      · skip
        refine SW.seq ?_
        refine SW.regT tabOk [4] ?_
        refine ai trivial ?_
        refine SW.ret ?_
        refine retOk1 rfl (congrArg D.b ?_)
        exact (decide_eq_false (ne_of_getD (z := NoteR.zero) (j := i) (by simpa using c26))).symm
      · skip
        refine SW.skip ?_
        refine SW.regT tabOk [0, 1, 5] ?_
        refine ai trivial (ai trivial (ai trivial ?_))
        have hs : a.getD i .zero = b.getD i .zero := by simpa using c26
        refine wk [(.t 0, .v (Dv (.sl (noteRows a)))), (.t 1, .v (Dv (.sl (noteRows b)))), (.t 5, .v (I ((i + 1) : Nat)))] [] [] (⟨a.length - (i + 1), by omega, i + 1, rfl, by omega, fun j h => by by_cases e : j = i; exact e ▸ hs; exact hk j (by omega), rfl⟩) ?_ rfl rfl
        repeat' first | exact trivial | refine mL_nil rfl ?_ | refine mL_d rfl ?_ ?_ | refine mL_own rfl rfl ?_ rfl ?_ | refine mL_row rfl ?_ ?_ | refine mL_pt rfl rfl rfl rfl ?_ | refine mL_box rfl ?_ ?_ | refine mL_agg rfl ?_ ?_ | exact mCs_nil0 | refine mCs_d ?_ ?_ | refine mCs_nil ?_ | refine mCs_own rfl ?_ rfl ?_ | refine mCs_pt rfl rfl rfl ?_
        all_goals first | with_reducible rfl | (first | with_reducible rfl | exact congrArg D.i (wrap64_of (by omega)))
    · skip
      have hi3 : i = a.length := by simp [noteRows_length] at c14; omega
      refine SW.exit ?_
      refine SW.seq ?_
      refine SW.regT tabOk [4] ?_
      refine ai trivial ?_
      refine SW.ret ?_
      refine retOk1 rfl (congrArg D.b ?_)
      subst hi3
      exact (decide_eq_true (eq_of_getD (z := NoteR.zero) hlen hk)).symm

theorem s_laws_szParcel (m : ParcelR) (n : Int) : Ab.SpecE Tryz.prog 113 2 [(.t 0, .v (m.V)), (.t 1, .v (I n))] (fun s => ∃ r : Int, s = [(.t 0, .v (I r))]) := by
  refine specE_of_body tabOk Tryz.func113 rfl (by kernel_rfl) (by decide) (by kernel_rfl) rfl ?_
  refine SW.seq ?_
  refine SW.regT tabOk [1, 2] ?_
  refine ai trivial (ai trivial ?_)
  refine SW.seq ?_
  refine SW.regT tabOk [1] ?_
  refine ai trivial (ai (by first | trivial | rfl) (ai vc (ai vc (ai trivial (ai trivial ?_)))))
  refine SW.seq ?_
  refine SW.seq ?_
  refine SW.regT tabOk [1, 11] ?_
  refine ai trivial (ai trivial ?_)
  refine SW.cond rfl (fun c11 => ?_) (fun c11 => ?_)
  · skip
    refine SW.seq ?_
    refine SW.regT tabOk [4] ?_
    refine ai trivial ?_
    refine SW.ret ?_
    refine retQR _ ⟨_, rfl⟩ (retOk1 rfl rfl)
  · skip
    refine SW.skip ?_
    refine SW.seq ?_
    refine SW.regT tabOk [4] ?_
    refine ai trivial (ai trivial ?_)
    refine SW.ret ?_
    refine retQR _ ⟨_, rfl⟩ (retOk1 rfl rfl)

theorem s_laws_toParcel (m : ParcelR) : Ab.Spec Tryz.prog 115 1 [(.t 0, .v (m.V))] [(.t 0, .v (m.V))] := by
  refine spec_of_body tabOk Tryz.func115 rfl (by kernel_rfl) (by decide) (by kernel_rfl) rfl ?_
  refine SW.seq ?_
  refine SW.regT tabOk [1, 2] ?_
  refine ai trivial (ai trivial ?_)
  refine SW.seq ?_
  refine SW.regT tabOk [1, 2, 3] ?_
  refine ai trivial ?_
  refine SW.seq ?_
  refine SW.regT tabOk [1, 2, 3] ?_
  refine ai (by first | trivial | rfl) (ai vc (ai (by first | trivial | rfl) (ai ⟨by kernel_rfl, Nat.le_of_ble_eq_true (by kernel_rfl)⟩ ?_)))
  refine SW.seq ?_
  refine SW.regT tabOk [1, 2, 3] ?_
  refine ai (by first | trivial | rfl) (ai vc (ai (by first | trivial | rfl) (ai ⟨by kernel_rfl, Nat.le_of_ble_eq_true (by kernel_rfl)⟩ ?_)))
  refine SW.seq ?_
  refine SW.regT tabOk [1, 2, 3] ?_
  refine ai (by first | trivial | rfl) (ai vc (ai (by first | trivial | rfl) (ai ⟨by kernel_rfl, Nat.le_of_ble_eq_true (by kernel_rfl)⟩ ?_)))
  refine SW.seq ?_
  refine SW.regT tabOk [2, 3] ?_
  refine ai (by first | trivial | rfl) (ai vc (ai (by first | trivial | rfl) (ai ⟨by kernel_rfl, Nat.le_of_ble_eq_true (by kernel_rfl)⟩ ?_)))
  refine SW.seq ?_
  refine SW.regT tabOk [2] ?_
  refine ai vc (ai ⟨by kernel_rfl, Nat.le_of_ble_eq_true (by kernel_rfl)⟩ ?_)
  refine SW.ret ?_
  refine retOkP rfl rfl ?_
  rfl

theorem s_laws_eqParcel (a b : ParcelR) : Ab.Spec Tryz.prog 118 2 [(.t 0, .v (a.V)), (.t 1, .v (b.V))] [(.t 0, .v (B (decide (a = b))))] := by
  refine spec_of_body tabOk Tryz.func118 rfl (by kernel_rfl) (by decide) (by kernel_rfl) rfl ?_
  refine SW.seq ?_
  refine SW.regT tabOk [2, 3] ?_
  refine ai trivial (ai trivial (ai trivial ?_))
  refine SW.seq ?_
  refine SW.seq ?_
  refine SW.regT tabOk [2, 3, 9] ?_
  refine ai (by first | trivial | rfl) (ai vc (ai (by first | trivial | rfl) (ai vc (ai trivial ?_))))
  refine SW.cond rfl (fun c9 => ?_) (fun c9 => ?_)
  · skip
    refine SW.seq ?_
    refine SW.regT tabOk [4] ?_
    refine ai trivial ?_
    refine SW.ret ?_
    refine retOk1 rfl (congrArg D.b ?_)
    cases a; cases b; simp_all
  · skip
    refine SW.skip ?_
    refine SW.seq ?_
    refine SW.seq ?_
    refine SW.regT tabOk [2, 3, 14] ?_
    refine ai (by first | trivial | rfl) (ai vc (ai (by first | trivial | rfl) (ai vc (ai trivial ?_))))
    refine SW.cond rfl (fun c14 => ?_) (fun c14 => ?_)
    · skip
      refine SW.seq ?_
      refine SW.regT tabOk [4] ?_
      refine ai trivial ?_
      refine SW.ret ?_
      refine retOk1 rfl (congrArg D.b ?_)
      cases a; cases b; simp_all
    · skip
      refine SW.skip ?_
      refine SW.seq ?_
      refine SW.seq ?_
      refine SW.regT tabOk [2, 3, 19] ?_
      refine ai (by first | trivial | rfl) (ai vc (ai (by first | trivial | rfl) (ai vc (ai vc ?_))))
      refine SW.cond rfl (fun c19 => ?_) (fun c19 => ?_)
      · skip
        refine SW.seq ?_
        refine SW.regT tabOk [4] ?_
        refine ai trivial ?_
        refine SW.ret ?_
        refine retOk1 rfl (congrArg D.b ?_)
        cases a; cases b; simp_all
      · skip
        refine SW.skip ?_
        refine SW.seq ?_
        refine SW.seq ?_
        refine SW.regT tabOk [24] ?_
        refine ai (by first | trivial | rfl) (ai vc (ai (by first | trivial | rfl) (ai vc (ai trivial ?_))))
        refine SW.cond rfl (fun c24 => ?_) (fun c24 => ?_)
        · skip
          refine SW.seq ?_
          refine SW.regT tabOk [4] ?_
          refine ai trivial ?_
          refine SW.ret ?_
          refine retOk1 rfl (congrArg D.b ?_)
          cases a; cases b; simp_all
        · skip
          refine SW.skip ?_
          refine SW.seq ?_
          refine SW.regT tabOk [4] ?_
          refine ai trivial ?_
          refine SW.ret ?_
          refine retOk1 rfl (congrArg D.b ?_)
          cases a; cases b; simp_all

set_option maxHeartbeats 800000 in
theorem s_laws_szParcelS (l : List ParcelR) (n : Int) (hg : l.length * 40 ≤ 140737488355328) : Ab.SpecE Tryz.prog 59 2 [(.t 0, .v (Dv (.sl (parcelRows l)))), (.t 1, .v (I n))] (fun s => ∃ r : Int, s = [(.t 0, .v (I r))]) := by
  refine specE_of_body tabOk Tryz.func59 rfl (by kernel_rfl) (by decide) (by kernel_rfl) rfl ?_
  refine SW.seq ?_
  refine SW.regT tabOk [0, 1] ?_
  refine ai trivial ?_
  refine SW.seq ?_
  refine SW.regT tabOk [0, 1] ?_
  refine ai trivial (ai trivial (ai vc (ai trivial (ai trivial ?_))))
  refine SW.seq ?_
  refine SW.seq ?_
  refine SW.regT tabOk [0, 1, 11] ?_
  refine ai trivial (ai trivial ?_)
  refine SW.cond rfl (fun c11 => ?_) (fun c11 => ?_)
  · skip
    refine SW.seq ?_
    refine SW.regT tabOk [4] ?_
    refine ai trivial ?_
    refine SW.ret ?_
    refine retQR _ ⟨_, rfl⟩ (retOk1 rfl rfl)
  · skip
    refine SW.skip ?_
    refine SW.seq ?_
    refine SW.seq ?_
    refine SW.regT tabOk [0, 1, 5] ?_
    refine ai trivial ?_
    refine SW.block ?_
    -- live at the head: [0, 1, 5]
    refine SW.loopW (n := l.length) (fun m q => ∃ (i : Nat) (x : Int), m = l.length - i ∧ i ≤ l.length ∧ q = [(.t 0, .v (Dv (.sl (parcelRows l)))), (.t 1, .v (I x)), (.t 5, .v (I (i : Nat)))]) ?_ ?_
    · skip
      refine wk [(.t 0, .v (Dv (.sl (parcelRows l)))), (.t 1, .v (I (wrap64 (n - ((parcelRows l).length : Int))))), (.t 5, .v (I (0 : Nat)))] [] [] (⟨0, _, rfl, Nat.zero_le _, rfl⟩) ?_ rfl rfl
      repeat' first | exact trivial | refine mL_nil rfl ?_ | refine mL_d rfl ?_ ?_ | refine mL_own rfl rfl ?_ rfl ?_ | refine mL_row rfl ?_ ?_ | refine mL_pt rfl rfl rfl rfl ?_ | refine mL_box rfl ?_ ?_ | refine mL_agg rfl ?_ ?_ | exact mCs_nil0 | refine mCs_d ?_ ?_ | refine mCs_nil ?_ | refine mCs_own rfl ?_ rfl ?_ | refine mCs_pt rfl rfl rfl ?_
      all_goals first | with_reducible rfl | (first | rfl | (simp; done) | omega)
    rintro n s ⟨i, x, rfl, hi, rfl⟩
    refine SW.seq ?_
    refine SW.seq ?_
    refine SW.regT tabOk [0, 1, 5, 15] ?_
    refine ai trivial (ai trivial (ai vc (ai trivial ?_)))
    refine SW.cond rfl (fun c15 => ?_) (fun c15 => ?_)
    · skip
      have hi2 : i < l.length := by simpa [parcelRows_length] using c15
      have hgg := parcelRows_getD (l := l) hi2
      have hmem : l.getD i .zero ∈ l := mem_getD hi2
      refine SW.skip ?_
      refine SW.seq ?_
      refine SW.block ?_
      refine SW.seq ?_
      refine SW.regE tabOk [0, 1, 5] ?_
      refine ai trivial (ai trivial (ai (by rw [Int.toNat_natCast, hgg]; exact ⟨⟨by omega, by rw [parcelRows_length]; omega⟩, rfl⟩) (ai (by rw [Int.toNat_natCast, hgg]; exact ⟨Nat.le_of_ble_eq_true rfl, rfl⟩) (ai trivial ?_))))
      refine ee_call (rl := []) (bor := []) (news := []) (robj := []) (s_laws_szParcel (l.getD i .zero) x) rfl rfl rfl rfl (by refine ⟨mL_agg rfl ?_ (mL_d rfl rfl trivial), rfl⟩; rw [Int.toNat_natCast, hgg]; exact mCs_d rfl (mCs_d rfl (mCs_d rfl (mCs_d rfl (trivial))))) (fun σ hσ => by obtain ⟨r, rfl⟩ := hσ; exact ⟨rfl, .inl rfl, fun j hj => by simp [newIds, objIds] at hj⟩) (fun p hp => nomatch hp) (fun j hj => nomatch hj) ?_
      rintro σ ⟨r, rfl⟩
      refine ai trivial ?_
      refine SW.seq ?_
      refine SW.regT tabOk [0, 1, 5, 25] ?_
      refine ai trivial (ai trivial ?_)
      refine SW.cond rfl (fun c25 => ?_) (fun c25 => ?_)
      · skip
        refine SW.seq ?_
        refine SW.regT tabOk [4] ?_
        refine ai trivial ?_
        refine SW.ret ?_
        refine retQR _ ⟨_, rfl⟩ (retOk1 rfl rfl)
      · skip
        refine SW.skip ?_
        refine SW.regT tabOk [0, 1, 5] ?_
        refine ai trivial (ai trivial (ai trivial ?_))
        refine wk [(.t 0, .v (Dv (.sl (parcelRows l)))), (.t 1, .v (I r)), (.t 5, .v (I ((i + 1) : Nat)))] [] [] (⟨l.length - (i + 1), by omega, i + 1, r, rfl, by omega, rfl⟩) ?_ rfl rfl
        repeat' first | exact trivial | refine mL_nil rfl ?_ | refine mL_d rfl ?_ ?_ | refine mL_own rfl rfl ?_ rfl ?_ | refine mL_row rfl ?_ ?_ | refine mL_pt rfl rfl rfl rfl ?_ | refine mL_box rfl ?_ ?_ | refine mL_agg rfl ?_ ?_ | exact mCs_nil0 | refine mCs_d ?_ ?_ | refine mCs_nil ?_ | refine mCs_own rfl ?_ rfl ?_ | refine mCs_pt rfl rfl rfl ?_
        all_goals first | with_reducible rfl | (first | with_reducible rfl | exact congrArg D.i (wrap64_of (by omega)))
    · skip
      refine SW.exit ?_
      refine SW.seq ?_
      refine SW.regT tabOk [4] ?_
      refine ai trivial (ai trivial ?_)
      refine SW.ret ?_
      refine retQR _ ⟨_, rfl⟩ (retOk1 rfl rfl)

set_option maxHeartbeats 800000 in
theorem s_laws_toParcelS (l : List ParcelR) (hg : l.length * 40 ≤ 140737488355328) : Ab.Spec Tryz.prog 65 1 [(.t 0, .v (Dv (.sl (parcelRows l))))] [(.t 0, .v (Dv (.sl (parcelRows l))))] := by
  refine spec_of_body tabOk Tryz.func65 rfl (by kernel_rfl) (by decide) (by kernel_rfl) rfl ?_
  refine SW.seq ?_
  refine SW.regT tabOk [0] ?_
  refine ai trivial ?_
  refine SW.seq ?_
  refine SW.regT tabOk [0, 3] ?_
  refine ai trivial (ai vc (ai (by refine ⟨rfl, by omega, ?_⟩; rw [parcelRows_length]; show ((40 : Nat) : Int) * _ ≤ _; omega) (ai trivial ?_)))
  refine SW.seq ?_
  refine SW.seq ?_
  refine SW.regT tabOk [0, 3, 4] ?_
  refine ai trivial ?_
  refine SW.block ?_
  -- live at the head: [0, 3, 4]
  refine SW.loopW (n := l.length) (fun m q => ∃ i : Nat, m = l.length - i ∧ i ≤ l.length ∧ q = [(.t 0, .v (Dv (.sl (parcelRows l)))), (.t 3, .v (.e (.c (.own 7 l.length)))), (.t 4, .v (I (i : Nat))), (.o 7, .row 100 4 (parcelRows ((l.take i) ++ List.replicate (l.length - i) .zero)))]) ?_ ?_
  · skip
    refine wk [(.t 0, .v (Dv (.sl (parcelRows l)))), (.t 3, .v (.e (.c (.own 7 l.length)))), (.t 4, .v (I (0 : Nat))), (.o 7, .row 100 4 (parcelRows ((l.take 0) ++ List.replicate (l.length - 0) .zero)))] [] [] (⟨0, rfl, Nat.zero_le _, rfl⟩) ?_ rfl rfl
    repeat' first | exact trivial | refine mL_nil rfl ?_ | refine mL_d rfl ?_ ?_ | refine mL_own rfl rfl ?_ rfl ?_ | refine mL_row rfl ?_ ?_ | refine mL_pt rfl rfl rfl rfl ?_ | refine mL_box rfl ?_ ?_ | refine mL_agg rfl ?_ ?_ | exact mCs_nil0 | refine mCs_d ?_ ?_ | refine mCs_nil ?_ | refine mCs_own rfl ?_ rfl ?_ | refine mCs_pt rfl rfl rfl ?_
    all_goals first | with_reducible rfl | (first | with_reducible rfl | rfl | (rw [parcelRows_length]; rfl) | (simp [parcelRows, parcelRows_length, ParcelR.row, ParcelR.zero]; done))
  rintro n s ⟨i, rfl, hi, rfl⟩
  refine SW.seq ?_
  refine SW.seq ?_
  refine SW.regT tabOk [0, 3, 4, 11] ?_
  refine ai trivial (ai trivial (ai vc (ai trivial ?_)))
  refine SW.cond rfl (fun c11 => ?_) (fun c11 => ?_)
  · skip
    have hi2 : i < l.length := by simpa [parcelRows_length] using c11
    have hgg := parcelRows_getD (l := l) hi2
    have hmem : l.getD i .zero ∈ l := mem_getD hi2
    refine SW.skip ?_
    refine SW.seq ?_
    refine SW.block ?_
    refine SW.regT tabOk [0, 3, 4] ?_
    refine ai trivial (ai trivial (ai trivial (ai trivial (ai (by rw [Int.toNat_natCast, hgg]; exact ⟨⟨by omega, by rw [parcelRows_length]; omega⟩, rfl⟩) (ai (by rw [Int.toNat_natCast, hgg]; exact ⟨Nat.le_of_ble_eq_true rfl, rfl⟩) ?_)))))
    refine ex_pure (s_laws_toParcel (l.getD i .zero)) rfl rfl rfl rfl rfl (by rw [Int.toNat_natCast, hgg]; rfl) rfl rfl ?_
    refine ai (by refine ⟨?_, by omega, by omega⟩; simp [parcelRows_length]; omega) (ai (by rw [Int.toNat_natCast, to_at_ParcelR hi2]; exact ⟨by simp [parcelRows_length]; omega, by omega, rfl, Nat.le_refl _⟩) ?_)
    refine SW.regT tabOk [0, 3, 4] ?_
    refine ai trivial (ai trivial (ai trivial ?_))
    refine wk [(.t 0, .v (Dv (.sl (parcelRows l)))), (.t 3, .v (.e (.c (.own 7 l.length)))), (.t 4, .v (I ((i + 1) : Nat))), (.o 7, .row 100 4 (parcelRows ((l.take (i + 1)) ++ List.replicate (l.length - (i + 1)) .zero)))] [] [] (⟨l.length - (i + 1), by omega, i + 1, rfl, by omega, rfl⟩) ?_ rfl rfl
    repeat' first | exact trivial | refine mL_nil rfl ?_ | refine mL_d rfl ?_ ?_ | refine mL_own rfl rfl ?_ rfl ?_ | refine mL_row rfl ?_ ?_ | refine mL_pt rfl rfl rfl rfl ?_ | refine mL_box rfl ?_ ?_ | refine mL_agg rfl ?_ ?_ | exact mCs_nil0 | refine mCs_d ?_ ?_ | refine mCs_nil ?_ | refine mCs_own rfl ?_ rfl ?_ | refine mCs_pt rfl rfl rfl ?_
    all_goals first | with_reducible rfl | (first | with_reducible rfl | exact congrArg D.i (by rw [wrap64_of (by omega)]; omega) | (rw [Int.toNat_natCast]; exact to_step_ParcelR hi2))
  · skip
    have hi3 : i = l.length := by simp [parcelRows_length] at c11; omega
    subst hi3
    refine SW.exit ?_
    refine SW.seq ?_
    refine SW.regT tabOk [2] ?_
    refine ai trivial (ai trivial ?_)
    refine SW.ret ?_
    refine retOk _ [] [7] rfl (mL_froze rfl rfl rfl ?_ (congrArg D.sl ?_) trivial) rfl rfl
    · simp [parcelRows_length]
    · simp

set_option maxHeartbeats 800000 in
theorem s_laws_eqParcelS (a b : List ParcelR) (hg : a.length * 40 ≤ 140737488355328) : Ab.Spec Tryz.prog 71 2 [(.t 0, .v (Dv (.sl (parcelRows a)))), (.t 1, .v (Dv (.sl (parcelRows b))))] [(.t 0, .v (B (decide (a = b))))] := by
  refine spec_of_body tabOk Tryz.func71 rfl (by kernel_rfl) (by decide) (by kernel_rfl) rfl ?_
  refine SW.seq ?_
  refine SW.regT tabOk [0, 1] ?_
  refine ai trivial ?_
  refine SW.seq ?_
  refine SW.seq ?_
  refine SW.regT tabOk [0, 1, 10] ?_
  refine ai trivial (ai vc (ai trivial (ai vc (ai trivial ?_))))
  refine SW.cond rfl (fun c10 => ?_) (fun c10 => ?_)
  · skip
    refine SW.seq ?_
    refine SW.regT tabOk [4] ?_
    refine ai trivial ?_
    refine SW.ret ?_
    refine retOk1 rfl (congrArg D.b ?_)
    symm
    apply decide_eq_false
    intro e
    rw [e] at c10
    simp at c10
  · skip
    have hlen : a.length = b.length := by simp [parcelRows_length] at c10; omega
    refine SW.skip ?_
    refine SW.seq ?_
    refine SW.seq ?_
    refine SW.regT tabOk [0, 1, 5] ?_
    refine ai trivial ?_
    refine SW.block ?_
    -- live at the head: [0, 1, 5]
    refine SW.loopW (n := a.length) (fun m q => ∃ i : Nat, m = a.length - i ∧ i ≤ a.length ∧ (∀ j, j < i → a.getD j .zero = b.getD j .zero) ∧ q = [(.t 0, .v (Dv (.sl (parcelRows a)))), (.t 1, .v (Dv (.sl (parcelRows b)))), (.t 5, .v (I (i : Nat)))]) ?_ ?_
    · skip
      refine wk [(.t 0, .v (Dv (.sl (parcelRows a)))), (.t 1, .v (Dv (.sl (parcelRows b)))), (.t 5, .v (I (0 : Nat)))] [] [] (⟨0, rfl, Nat.zero_le _, fun j h => absurd h (by omega), rfl⟩) ?_ rfl rfl
      repeat' first | exact trivial | refine mL_nil rfl ?_ | refine mL_d rfl ?_ ?_ | refine mL_own rfl rfl ?_ rfl ?_ | refine mL_row rfl ?_ ?_ | refine mL_pt rfl rfl rfl rfl ?_ | refine mL_box rfl ?_ ?_ | refine mL_agg rfl ?_ ?_ | exact mCs_nil0 | refine mCs_d ?_ ?_ | refine mCs_nil ?_ | refine mCs_own rfl ?_ rfl ?_ | refine mCs_pt rfl rfl rfl ?_
      all_goals first | with_reducible rfl | (first | rfl | (simp; done) | omega)
    rintro n s ⟨i, rfl, hi, hk, rfl⟩
    refine SW.seq ?_
    refine SW.seq ?_
    refine SW.regT tabOk [0, 1, 5, 14] ?_
    refine ai trivial (ai trivial (ai vc (ai trivial ?_)))
    refine SW.cond rfl (fun c14 => ?_) (fun c14 => ?_)
    · skip
      have hi2 : i < a.length := by simpa [parcelRows_length] using c14
      have hga := parcelRows_getD (l := a) hi2
      have hgb := parcelRows_getD (l := b) (i := i) (by omega)
      have hmem : a.getD i .zero ∈ a := mem_getD hi2
      refine SW.skip ?_
      refine SW.seq ?_
      refine SW.block ?_
      refine SW.seq ?_
      refine SW.regD tabOk mo [0, 1, 5, 26] ?_
      refine ai trivial (ai trivial (ai (by rw [Int.toNat_natCast, hga]; exact ⟨⟨by omega, by rw [parcelRows_length]; omega⟩, rfl⟩) (ai (by rw [Int.toNat_natCast, hga]; exact ⟨Nat.le_of_ble_eq_true rfl, rfl⟩) (ai trivial (ai trivial (ai (by rw [Int.toNat_natCast, hgb]; exact ⟨⟨by omega, by rw [parcelRows_length]; omega⟩, rfl⟩) (ai (by rw [Int.toNat_natCast, hgb]; exact ⟨Nat.le_of_ble_eq_true rfl, rfl⟩) ?_)))))))
      refine ex_pure (s_laws_eqParcel (a.getD i .zero) (b.getD i .zero)) rfl rfl rfl rfl rfl (by rw [Int.toNat_natCast, hga, hgb]; rfl) rfl rfl ?_
      refine ai trivial (ai (by kernel_rfl) ?_)
      refine SW.cond rfl (fun c26 => ?_) (fun c26 => ?_)
      · skip
        refine SW.seq ?_
        refine SW.regT tabOk [4] ?_
        refine ai trivial ?_
        refine SW.ret ?_
        refine retOk1 rfl (congrArg D.b ?_)
        exact (decide_eq_false (ne_of_getD (z := ParcelR.zero) (j := i) (by simpa using c26))).symm
      · skip
        refine SW.skip ?_
        refine SW.regT tabOk [0, 1, 5] ?_
        refine ai trivial (ai trivial (ai trivial ?_))
        have hs : a.getD i .zero = b.getD i .zero := by simpa using c26
        refine wk [(.t 0, .v (Dv (.sl (parcelRows a)))), (.t 1, .v (Dv (.sl (parcelRows b)))), (.t 5, .v (I ((i + 1) : Nat)))] [] [] (⟨a.length - (i + 1), by omega, i + 1, rfl, by omega, fun j h => by by_cases e : j = i; exact e ▸ hs; exact hk j (by omega), rfl⟩) ?_ rfl rfl
        repeat' first | exact trivial | refine mL_nil rfl ?_ | refine mL_d rfl ?_ ?_ | refine mL_own rfl rfl ?_ rfl ?_ | refine mL_row rfl ?_ ?_ | refine mL_pt rfl rfl rfl rfl ?_ | refine mL_box rfl ?_ ?_ | refine mL_agg rfl ?_ ?_ | exact mCs_nil0 | refine mCs_d ?_ ?_ | refine mCs_nil ?_ | refine mCs_own rfl ?_ rfl ?_ | refine mCs_pt rfl rfl rfl ?_
        all_goals first | with_reducible rfl | (first | with_reducible rfl | exact congrArg D.i (wrap64_of (by omega)))
    · skip
      have hi3 : i = a.length := by simp [parcelRows_length] at c14; omega
      refine SW.exit ?_
      refine SW.seq ?_
      refine SW.regT tabOk [4] ?_
      refine ai trivial ?_
      refine SW.ret ?_
      refine retOk1 rfl (congrArg D.b ?_)
      subst hi3
      exact (decide_eq_true (eq_of_getD (z := ParcelR.zero) hlen hk)).symm

set_option maxHeartbeats 800000 in
theorem s_laws_szKeeperS (l : List KeeperR) (n : Int) (hg : l.length * 64 ≤ 140737488355328) (hx : ∀ k ∈ l, KRB k) : Ab.SpecE Tryz.prog 57 2 [(.t 0, .v (Dv (.sl (keeperRows l)))), (.t 1, .v (I n))] (fun s => ∃ r : Int, s = [(.t 0, .v (I r))]) := by
  refine specE_of_body tabOk Tryz.func57 rfl (by kernel_rfl) (by decide) (by kernel_rfl) rfl ?_
  refine SW.seq ?_
  refine SW.regT tabOk [0, 1] ?_
  refine ai trivial ?_
  refine SW.seq ?_
  refine SW.regT tabOk [0, 1] ?_
  refine ai trivial (ai trivial (ai vc (ai trivial (ai trivial ?_))))
  refine SW.seq ?_
  refine SW.seq ?_
  refine SW.regT tabOk [0, 1, 11] ?_
  refine ai trivial (ai trivial ?_)
  refine SW.cond rfl (fun c11 => ?_) (fun c11 => ?_)
  · skip
    refine SW.seq ?_
    refine SW.regT tabOk [4] ?_
    refine ai trivial ?_
    refine SW.ret ?_
    refine retQR _ ⟨_, rfl⟩ (retOk1 rfl rfl)
  · skip
    refine SW.skip ?_
    refine SW.seq ?_
    refine SW.seq ?_
    refine SW.regT tabOk [0, 1, 5] ?_
    refine ai trivial ?_
    refine SW.block ?_
    -- live at the head: [0, 1, 5]
    refine SW.loopW (n := l.length) (fun m q => ∃ (i : Nat) (x : Int), m = l.length - i ∧ i ≤ l.length ∧ q = [(.t 0, .v (Dv (.sl (keeperRows l)))), (.t 1, .v (I x)), (.t 5, .v (I (i : Nat)))]) ?_ ?_
    · skip
      refine wk [(.t 0, .v (Dv (.sl (keeperRows l)))), (.t 1, .v (I (wrap64 (n - ((keeperRows l).length : Int))))), (.t 5, .v (I (0 : Nat)))] [] [] (⟨0, _, rfl, Nat.zero_le _, rfl⟩) ?_ rfl rfl
      repeat' first | exact trivial | refine mL_nil rfl ?_ | refine mL_d rfl ?_ ?_ | refine mL_own rfl rfl ?_ rfl ?_ | refine mL_row rfl ?_ ?_ | refine mL_pt rfl rfl rfl rfl ?_ | refine mL_box rfl ?_ ?_ | refine mL_agg rfl ?_ ?_ | exact mCs_nil0 | refine mCs_d ?_ ?_ | refine mCs_nil ?_ | refine mCs_own rfl ?_ rfl ?_ | refine mCs_pt rfl rfl rfl ?_
      all_goals first | with_reducible rfl | (first | rfl | (simp; done) | omega)
    rintro n s ⟨i, x, rfl, hi, rfl⟩
    refine SW.seq ?_
    refine SW.seq ?_
    refine SW.regT tabOk [0, 1, 5, 15] ?_
    refine ai trivial (ai trivial (ai vc (ai trivial ?_)))
    refine SW.cond rfl (fun c15 => ?_) (fun c15 => ?_)
    · skip
      have hi2 : i < l.length := by simpa [keeperRows_length] using c15
      have hgg := keeperRows_getD (l := l) hi2
      have hmem : l.getD i .zero ∈ l := mem_getD hi2
      refine SW.skip ?_
      refine SW.seq ?_
      refine SW.block ?_
      refine SW.seq ?_
      refine SW.regE tabOk [0, 1, 5] ?_
      refine ai trivial (ai trivial (ai (by rw [Int.toNat_natCast, hgg]; exact ⟨⟨by omega, by rw [keeperRows_length]; omega⟩, rfl⟩) (ai (by rw [Int.toNat_natCast, hgg]; exact ⟨Nat.le_of_ble_eq_true rfl, rfl⟩) (ai trivial ?_))))
      refine ee_call (rl := []) (bor := []) (news := []) (robj := []) (s_laws_szKeeper (l.getD i .zero) x (hx _ hmem)) rfl rfl rfl rfl (by refine ⟨mL_agg rfl ?_ (mL_d rfl rfl trivial), rfl⟩; rw [Int.toNat_natCast, hgg]; exact mCs_d rfl (mCs_d rfl (mCs_d rfl (mCs_d rfl (mCs_d rfl (trivial)))))) (fun σ hσ => by obtain ⟨r, rfl⟩ := hσ; exact ⟨rfl, .inl rfl, fun j hj => by simp [newIds, objIds] at hj⟩) (fun p hp => nomatch hp) (fun j hj => nomatch hj) ?_
      rintro σ ⟨r, rfl⟩
      refine ai trivial ?_
      refine SW.seq ?_
      refine SW.regT tabOk [0, 1, 5, 25] ?_
      refine ai trivial (ai trivial ?_)
      refine SW.cond rfl (fun c25 => ?_) (fun c25 => ?_)
      · skip
        refine SW.seq ?_
        refine SW.regT tabOk [4] ?_
        refine ai trivial ?_
        refine SW.ret ?_
        refine retQR _ ⟨_, rfl⟩ (retOk1 rfl rfl)
      · skip
        refine SW.skip ?_
        refine SW.regT tabOk [0, 1, 5] ?_
        refine ai trivial (ai trivial (ai trivial ?_))
        refine wk [(.t 0, .v (Dv (.sl (keeperRows l)))), (.t 1, .v (I r)), (.t 5, .v (I ((i + 1) : Nat)))] [] [] (⟨l.length - (i + 1), by omega, i + 1, r, rfl, by omega, rfl⟩) ?_ rfl rfl
        repeat' first | exact trivial | refine mL_nil rfl ?_ | refine mL_d rfl ?_ ?_ | refine mL_own rfl rfl ?_ rfl ?_ | refine mL_row rfl ?_ ?_ | refine mL_pt rfl rfl rfl rfl ?_ | refine mL_box rfl ?_ ?_ | refine mL_agg rfl ?_ ?_ | exact mCs_nil0 | refine mCs_d ?_ ?_ | refine mCs_nil ?_ | refine mCs_own rfl ?_ rfl ?_ | refine mCs_pt rfl rfl rfl ?_
        all_goals first | with_reducible rfl | (first | with_reducible rfl | exact congrArg D.i (wrap64_of (by omega)))
    · skip
      refine SW.exit ?_
      refine SW.seq ?_
      refine SW.regT tabOk [4] ?_
      refine ai trivial (ai trivial ?_)
      refine SW.ret ?_
      refine retQR _ ⟨_, rfl⟩ (retOk1 rfl rfl)

set_option maxHeartbeats 800000 in
theorem s_laws_toKeeperS (l : List KeeperR) (hg : l.length * 64 ≤ 140737488355328) (hx : ∀ k ∈ l, KRB k) : Ab.Spec Tryz.prog 63 1 [(.t 0, .v (Dv (.sl (keeperRows l))))] [(.t 0, .v (Dv (.sl (keeperRows l))))] := by
  refine spec_of_body tabOk Tryz.func63 rfl (by kernel_rfl) (by decide) (by kernel_rfl) rfl ?_
  refine SW.seq ?_
  refine SW.regT tabOk [0] ?_
  refine ai trivial ?_
  refine SW.seq ?_
  refine SW.regT tabOk [0, 3] ?_
  refine ai trivial (ai vc (ai (by refine ⟨rfl, by omega, ?_⟩; rw [keeperRows_length]; show ((64 : Nat) : Int) * _ ≤ _; omega) (ai trivial ?_)))
  refine SW.seq ?_
  refine SW.seq ?_
  refine SW.regT tabOk [0, 3, 4] ?_
  refine ai trivial ?_
  refine SW.block ?_
  -- live at the head: [0, 3, 4]
  refine SW.loopW (n := l.length) (fun m q => ∃ i : Nat, m = l.length - i ∧ i ≤ l.length ∧ q = [(.t 0, .v (Dv (.sl (keeperRows l)))), (.t 3, .v (.e (.c (.own 7 l.length)))), (.t 4, .v (I (i : Nat))), (.o 7, .row 35 5 (keeperRows ((l.take i) ++ List.replicate (l.length - i) .zero)))]) ?_ ?_
  · skip
    refine wk [(.t 0, .v (Dv (.sl (keeperRows l)))), (.t 3, .v (.e (.c (.own 7 l.length)))), (.t 4, .v (I (0 : Nat))), (.o 7, .row 35 5 (keeperRows ((l.take 0) ++ List.replicate (l.length - 0) .zero)))] [] [] (⟨0, rfl, Nat.zero_le _, rfl⟩) ?_ rfl rfl
    repeat' first | exact trivial | refine mL_nil rfl ?_ | refine mL_d rfl ?_ ?_ | refine mL_own rfl rfl ?_ rfl ?_ | refine mL_row rfl ?_ ?_ | refine mL_pt rfl rfl rfl rfl ?_ | refine mL_box rfl ?_ ?_ | refine mL_agg rfl ?_ ?_ | exact mCs_nil0 | refine mCs_d ?_ ?_ | refine mCs_nil ?_ | refine mCs_own rfl ?_ rfl ?_ | refine mCs_pt rfl rfl rfl ?_
    all_goals first | with_reducible rfl | (first | with_reducible rfl | rfl | (rw [keeperRows_length]; rfl) | (simp [keeperRows, keeperRows_length, KeeperR.row, KeeperR.zero]; done) | (simp [keeperRows, halfRows, KeeperR.row, KeeperR.zero]; done))
  rintro n s ⟨i, rfl, hi, rfl⟩
  refine SW.seq ?_
  refine SW.seq ?_
  refine SW.regT tabOk [0, 3, 4, 11] ?_
  refine ai trivial (ai trivial (ai vc (ai trivial ?_)))
  refine SW.cond rfl (fun c11 => ?_) (fun c11 => ?_)
  · skip
    have hi2 : i < l.length := by simpa [keeperRows_length] using c11
    have hgg := keeperRows_getD (l := l) hi2
    have hmem : l.getD i .zero ∈ l := mem_getD hi2
    refine SW.skip ?_
    refine SW.seq ?_
    refine SW.block ?_
    refine SW.regT tabOk [0, 3, 4] ?_
    refine ai trivial (ai trivial (ai trivial (ai trivial (ai (by rw [Int.toNat_natCast, hgg]; exact ⟨⟨by omega, by rw [keeperRows_length]; omega⟩, rfl⟩) (ai (by rw [Int.toNat_natCast, hgg]; exact ⟨Nat.le_of_ble_eq_true rfl, rfl⟩) ?_)))))
    refine ex_pure (s_laws_toKeeper (l.getD i .zero) (hx _ hmem)) rfl rfl rfl rfl rfl (by rw [Int.toNat_natCast, hgg]; rfl) rfl rfl ?_
    refine ai (by refine ⟨?_, by omega, by omega⟩; simp [keeperRows_length]; omega) (ai (by rw [Int.toNat_natCast, to_at_KeeperR hi2]; exact ⟨by simp [keeperRows_length]; omega, by omega, rfl, Nat.le_refl _⟩) ?_)
    refine SW.regT tabOk [0, 3, 4] ?_
    refine ai trivial (ai trivial (ai trivial ?_))
    refine wk [(.t 0, .v (Dv (.sl (keeperRows l)))), (.t 3, .v (.e (.c (.own 7 l.length)))), (.t 4, .v (I ((i + 1) : Nat))), (.o 7, .row 35 5 (keeperRows ((l.take (i + 1)) ++ List.replicate (l.length - (i + 1)) .zero)))] [] [] (⟨l.length - (i + 1), by omega, i + 1, rfl, by omega, rfl⟩) ?_ rfl rfl
    repeat' first | exact trivial | refine mL_nil rfl ?_ | refine mL_d rfl ?_ ?_ | refine mL_own rfl rfl ?_ rfl ?_ | refine mL_row rfl ?_ ?_ | refine mL_pt rfl rfl rfl rfl ?_ | refine mL_box rfl ?_ ?_ | refine mL_agg rfl ?_ ?_ | exact mCs_nil0 | refine mCs_d ?_ ?_ | refine mCs_nil ?_ | refine mCs_own rfl ?_ rfl ?_ | refine mCs_pt rfl rfl rfl ?_
    all_goals first | with_reducible rfl | (first | with_reducible rfl | exact congrArg D.i (by rw [wrap64_of (by omega)]; omega) | (rw [Int.toNat_natCast]; exact to_step_KeeperR hi2))
  · skip
    have hi3 : i = l.length := by simp [keeperRows_length] at c11; omega
    subst hi3
    refine SW.exit ?_
    refine SW.seq ?_
    refine SW.regT tabOk [2] ?_
    refine ai trivial (ai trivial ?_)
    refine SW.ret ?_
    refine retOk _ [] [7] rfl (mL_froze rfl rfl rfl ?_ (congrArg D.sl ?_) trivial) rfl rfl
    · simp [keeperRows_length]
    · simp

set_option maxHeartbeats 800000 in
theorem s_laws_eqKeeperS (a b : List KeeperR) (hg : a.length * 64 ≤ 140737488355328) (hx : ∀ k ∈ a, KRB k) : Ab.Spec Tryz.prog 69 2 [(.t 0, .v (Dv (.sl (keeperRows a)))), (.t 1, .v (Dv (.sl (keeperRows b))))] [(.t 0, .v (B (decide (a = b))))] := by
  refine spec_of_body tabOk Tryz.func69 rfl (by kernel_rfl) (by decide) (by kernel_rfl) rfl ?_
  refine SW.seq ?_
  refine SW.regT tabOk [0, 1] ?_
  refine ai trivial ?_
  refine SW.seq ?_
  refine SW.seq ?_
  refine SW.regT tabOk [0, 1, 10] ?_
  refine ai trivial (ai vc (ai trivial (ai vc (ai trivial ?_))))
  refine SW.cond rfl (fun c10 => ?_) (fun c10 => ?_)
  · skip
    refine SW.seq ?_
    refine SW.regT tabOk [4] ?_
    refine ai trivial ?_
    refine SW.ret ?_
    refine retOk1 rfl (congrArg D.b ?_)
    symm
    apply decide_eq_false
    intro e
    rw [e] at c10
    simp at c10
  · skip
    have hlen : a.length = b.length := by simp [keeperRows_length] at c10; omega
    refine SW.skip ?_
    refine SW.seq ?_
    refine SW.seq ?_
    refine SW.regT tabOk [0, 1, 5] ?_
    refine ai trivial ?_
    refine SW.block ?_
    -- live at the head: [0, 1, 5]
    refine SW.loopW (n := a.length) (fun m q => ∃ i : Nat, m = a.length - i ∧ i ≤ a.length ∧ (∀ j, j < i → a.getD j .zero = b.getD j .zero) ∧ q = [(.t 0, .v (Dv (.sl (keeperRows a)))), (.t 1, .v (Dv (.sl (keeperRows b)))), (.t 5, .v (I (i : Nat)))]) ?_ ?_
    · skip
      refine wk [(.t 0, .v (Dv (.sl (keeperRows a)))), (.t 1, .v (Dv (.sl (keeperRows b)))), (.t 5, .v (I (0 : Nat)))] [] [] (⟨0, rfl, Nat.zero_le _, fun j h => absurd h (by omega), rfl⟩) ?_ rfl rfl
      repeat' first | exact trivial | refine mL_nil rfl ?_ | refine mL_d rfl ?_ ?_ | refine mL_own rfl rfl ?_ rfl ?_ | refine mL_row rfl ?_ ?_ | refine mL_pt rfl rfl rfl rfl ?_ | refine mL_box rfl ?_ ?_ | refine mL_agg rfl ?_ ?_ | exact mCs_nil0 | refine mCs_d ?_ ?_ | refine mCs_nil ?_ | refine mCs_own rfl ?_ rfl ?_ | refine mCs_pt rfl rfl rfl ?_
      all_goals first | with_reducible rfl | (first | rfl | (simp; done) | omega)
    rintro n s ⟨i, rfl, hi, hk, rfl⟩
    refine SW.seq ?_
    refine SW.seq ?_
    refine SW.regT tabOk [0, 1, 5, 14] ?_
    refine ai trivial (ai trivial (ai vc (ai trivial ?_)))
    refine SW.cond rfl (fun c14 => ?_) (fun c14 => ?_)
    · skip
      have hi2 : i < a.length := by simpa [keeperRows_length] using c14
      have hga := keeperRows_getD (l := a) hi2
      have hgb := keeperRows_getD (l := b) (i := i) (by omega)
      have hmem : a.getD i .zero ∈ a := mem_getD hi2
      refine SW.skip ?_
      refine SW.seq ?_
      refine SW.block ?_
      refine SW.seq ?_
      refine SW.regD tabOk mo [0, 1, 5, 26] ?_
      refine ai trivial (ai trivial (ai (by rw [Int.toNat_natCast, hga]; exact ⟨⟨by omega, by rw [keeperRows_length]; omega⟩, rfl⟩) (ai (by rw [Int.toNat_natCast, hga]; exact ⟨Nat.le_of_ble_eq_true rfl, rfl⟩) (ai trivial (ai trivial (ai (by rw [Int.toNat_natCast, hgb]; exact ⟨⟨by omega, by rw [keeperRows_length]; omega⟩, rfl⟩) (ai (by rw [Int.toNat_natCast, hgb]; exact ⟨Nat.le_of_ble_eq_true rfl, rfl⟩) ?_)))))))
      refine ex_pure (s_laws_eqKeeper (a.getD i .zero) (b.getD i .zero) (hx _ hmem)) rfl rfl rfl rfl rfl (by rw [Int.toNat_natCast, hga, hgb]; rfl) rfl rfl ?_
      refine ai trivial (ai (by kernel_rfl) ?_)
      refine SW.cond rfl (fun c26 => ?_) (fun c26 => ?_)
      · skip
        refine SW.seq ?_
        refine SW.regT tabOk [4] ?_
        refine ai trivial ?_
        refine SW.ret ?_
        refine retOk1 rfl (congrArg D.b ?_)
        exact (decide_eq_false (ne_of_getD (z := KeeperR.zero) (j := i) (by simpa using c26))).symm
      · skip
        refine SW.skip ?_
        refine SW.regT tabOk [0, 1, 5] ?_
        refine ai trivial (ai trivial (ai trivial ?_))
        have hs : a.getD i .zero = b.getD i .zero := by simpa using c26
        refine wk [(.t 0, .v (Dv (.sl (keeperRows a)))), (.t 1, .v (Dv (.sl (keeperRows b)))), (.t 5, .v (I ((i + 1) : Nat)))] [] [] (⟨a.length - (i + 1), by omega, i + 1, rfl, by omega, fun j h => by by_cases e : j = i; exact e ▸ hs; exact hk j (by omega), rfl⟩) ?_ rfl rfl
        repeat' first | exact trivial | refine mL_nil rfl ?_ | refine mL_d rfl ?_ ?_ | refine mL_own rfl rfl ?_ rfl ?_ | refine mL_row rfl ?_ ?_ | refine mL_pt rfl rfl rfl rfl ?_ | refine mL_box rfl ?_ ?_ | refine mL_agg rfl ?_ ?_ | exact mCs_nil0 | refine mCs_d ?_ ?_ | refine mCs_nil ?_ | refine mCs_own rfl ?_ rfl ?_ | refine mCs_pt rfl rfl rfl ?_
        all_goals first | with_reducible rfl | (first | with_reducible rfl | exact congrArg D.i (wrap64_of (by omega)))
    · skip
      have hi3 : i = a.length := by simp [keeperRows_length] at c14; omega
      refine SW.exit ?_
      refine SW.seq ?_
      refine SW.regT tabOk [4] ?_
      refine ai trivial ?_
      refine SW.ret ?_
      refine retOk1 rfl (congrArg D.b ?_)
      subst hi3
      exact (decide_eq_true (eq_of_getD (z := KeeperR.zero) hlen hk)).symm

theorem s_laws_szBoolS (l : List Bool) (n : Int) : Ab.SpecE Tryz.prog 58 2 [(.t 0, .v (Dv (.sl (boolRows l)))), (.t 1, .v (I n))] (fun s => ∃ r : Int, s = [(.t 0, .v (I r))]) := by
  refine specE_of_body tabOk Tryz.func58 rfl (by kernel_rfl) (by decide) (by kernel_rfl) rfl ?_
  refine SW.seq ?_
  refine SW.regT tabOk [0, 1] ?_
  refine ai trivial ?_
  refine SW.seq ?_
  refine SW.regT tabOk [1] ?_
  refine ai trivial (ai trivial (ai vc (ai trivial (ai trivial ?_))))
  refine SW.seq ?_
  refine SW.seq ?_
  refine SW.regT tabOk [1, 10] ?_
  refine ai trivial (ai trivial ?_)
  refine SW.cond rfl (fun c10 => ?_) (fun c10 => ?_)
  · skip
    refine SW.seq ?_
    refine SW.regT tabOk [4] ?_
    refine ai trivial ?_
    refine SW.ret ?_
    refine retQR _ ⟨_, rfl⟩ (retOk1 rfl rfl)
  · skip
    refine SW.skip ?_
    refine SW.seq ?_
    refine SW.regT tabOk [4] ?_
    refine ai trivial (ai trivial ?_)
    refine SW.ret ?_
    refine retQR _ ⟨_, rfl⟩ (retOk1 rfl rfl)

set_option maxHeartbeats 800000 in
theorem s_laws_toBoolS (l : List Bool) (hg : l.length ≤ 140737488355328) : Ab.Spec Tryz.prog 64 1 [(.t 0, .v (Dv (.sl (boolRows l))))] [(.t 0, .v (Dv (.sl (boolRows l))))] := by
  refine spec_of_body tabOk Tryz.func64 rfl (by kernel_rfl) (by decide) (by kernel_rfl) rfl ?_
  refine SW.seq ?_
  refine SW.regT tabOk [0] ?_
  refine ai trivial ?_
  refine SW.seq ?_
  refine SW.regT tabOk [0, 3] ?_
  refine ai trivial (ai vc (ai (by refine ⟨rfl, by omega, ?_⟩; rw [boolRows_length]; show ((1 : Nat) : Int) * _ ≤ _; omega) (ai trivial ?_)))
  refine SW.seq ?_
  refine SW.seq ?_
  refine SW.regT tabOk [0, 3, 4] ?_
  refine ai trivial ?_
  refine SW.block ?_
  -- live at the head: [0, 3, 4]
  refine SW.loopW (n := l.length) (fun m q => ∃ i : Nat, m = l.length - i ∧ i ≤ l.length ∧ q = [(.t 0, .v (Dv (.sl (boolRows l)))), (.t 3, .v (.e (.c (.own 7 l.length)))), (.t 4, .v (I (i : Nat))), (.o 7, .row 4 1 (boolRows ((l.take i) ++ List.replicate (l.length - i) false)))]) ?_ ?_
  · skip
    refine wk [(.t 0, .v (Dv (.sl (boolRows l)))), (.t 3, .v (.e (.c (.own 7 l.length)))), (.t 4, .v (I (0 : Nat))), (.o 7, .row 4 1 (boolRows ((l.take 0) ++ List.replicate (l.length - 0) false)))] [] [] (⟨0, rfl, Nat.zero_le _, rfl⟩) ?_ rfl rfl
    repeat' first | exact trivial | refine mL_nil rfl ?_ | refine mL_d rfl ?_ ?_ | refine mL_own rfl rfl ?_ rfl ?_ | refine mL_row rfl ?_ ?_ | refine mL_pt rfl rfl rfl rfl ?_ | refine mL_box rfl ?_ ?_ | refine mL_agg rfl ?_ ?_ | exact mCs_nil0 | refine mCs_d ?_ ?_ | refine mCs_nil ?_ | refine mCs_own rfl ?_ rfl ?_ | refine mCs_pt rfl rfl rfl ?_
    all_goals first | with_reducible rfl | (first | with_reducible rfl | rfl | (rw [boolRows_length]; rfl) | (simp [boolRows]; done))
  rintro n s ⟨i, rfl, hi, rfl⟩
  refine SW.seq ?_
  refine SW.seq ?_
  refine SW.regT tabOk [0, 3, 4, 11] ?_
  refine ai trivial (ai trivial (ai vc (ai trivial ?_)))
  refine SW.cond rfl (fun c11 => ?_) (fun c11 => ?_)
  · skip
    have hi2 : i < l.length := by simpa [boolRows_length] using c11
    have hgg := boolRows_getD (l := l) hi2
    refine SW.skip ?_
    refine SW.seq ?_
    refine SW.block ?_
    refine SW.regT tabOk [0, 3, 4] ?_
    refine ai trivial (ai trivial (ai trivial (ai trivial (ai (by rw [Int.toNat_natCast, hgg]; exact ⟨⟨by omega, by rw [boolRows_length]; omega⟩, rfl⟩) (ai (by rw [Int.toNat_natCast, hgg]; exact ⟨Nat.le_of_ble_eq_true rfl, rfl⟩) (ai (by refine ⟨?_, by omega, by omega⟩; simp [boolRows_length]; omega) (ai (by rw [Int.toNat_natCast, to_at_Bool hi2]; exact ⟨by simp [boolRows_length]; omega, by omega, rfl, Nat.le_refl _⟩) ?_)))))))
    refine SW.regT tabOk [0, 3, 4] ?_
    refine ai trivial (ai trivial (ai trivial ?_))
    refine wk [(.t 0, .v (Dv (.sl (boolRows l)))), (.t 3, .v (.e (.c (.own 7 l.length)))), (.t 4, .v (I ((i + 1) : Nat))), (.o 7, .row 4 1 (boolRows ((l.take (i + 1)) ++ List.replicate (l.length - (i + 1)) false)))] [] [] (⟨l.length - (i + 1), by omega, i + 1, rfl, by omega, rfl⟩) ?_ rfl rfl
    repeat' first | exact trivial | refine mL_nil rfl ?_ | refine mL_d rfl ?_ ?_ | refine mL_own rfl rfl ?_ rfl ?_ | refine mL_row rfl ?_ ?_ | refine mL_pt rfl rfl rfl rfl ?_ | refine mL_box rfl ?_ ?_ | refine mL_agg rfl ?_ ?_ | exact mCs_nil0 | refine mCs_d ?_ ?_ | refine mCs_nil ?_ | refine mCs_own rfl ?_ rfl ?_ | refine mCs_pt rfl rfl rfl ?_
    all_goals first | with_reducible rfl | (first | with_reducible rfl | exact congrArg D.i (by rw [wrap64_of (by omega)]; omega) | (rw [Int.toNat_natCast, hgg]; exact to_step_Bool hi2))
  · skip
    have hi3 : i = l.length := by simp [boolRows_length] at c11; omega
    subst hi3
    refine SW.exit ?_
    refine SW.seq ?_
    refine SW.regT tabOk [2] ?_
    refine ai trivial (ai trivial ?_)
    refine SW.ret ?_
    refine retOk _ [] [7] rfl (mL_froze rfl rfl rfl ?_ (congrArg D.sl ?_) trivial) rfl rfl
    · simp [boolRows_length]
    · simp

set_option maxHeartbeats 800000 in
theorem s_laws_eqBoolS (a b : List Bool) (hg : a.length ≤ 140737488355328) : Ab.Spec Tryz.prog 70 2 [(.t 0, .v (Dv (.sl (boolRows a)))), (.t 1, .v (Dv (.sl (boolRows b))))] [(.t 0, .v (B (decide (a = b))))] := by
  refine spec_of_body tabOk Tryz.func70 rfl (by kernel_rfl) (by decide) (by kernel_rfl) rfl ?_
  refine SW.seq ?_
  refine SW.regT tabOk [0, 1] ?_
  refine ai trivial ?_
  refine SW.seq ?_
  refine SW.seq ?_
  refine SW.regT tabOk [0, 1, 10] ?_
  refine ai trivial (ai vc (ai trivial (ai vc (ai trivial ?_))))
  refine SW.cond rfl (fun c10 => ?_) (fun c10 => ?_)
  · skip
    refine SW.seq ?_
    refine SW.regT tabOk [4] ?_
    refine ai trivial ?_
    refine SW.ret ?_
    refine retOk1 rfl (congrArg D.b ?_)
    symm
    apply decide_eq_false
    intro e
    rw [e] at c10
    simp at c10
  · skip
    have hlen : a.length = b.length := by simp [boolRows_length] at c10; omega
    refine SW.skip ?_
    refine SW.seq ?_
    refine SW.seq ?_
    refine SW.regT tabOk [0, 1, 5] ?_
    refine ai trivial ?_
    refine SW.block ?_
    -- live at the head: [0, 1, 5]
    refine SW.loopW (n := a.length) (fun m q => ∃ i : Nat, m = a.length - i ∧ i ≤ a.length ∧ (∀ j, j < i → a.getD j false = b.getD j false) ∧ q = [(.t 0, .v (Dv (.sl (boolRows a)))), (.t 1, .v (Dv (.sl (boolRows b)))), (.t 5, .v (I (i : Nat)))]) ?_ ?_
    · skip
      refine wk [(.t 0, .v (Dv (.sl (boolRows a)))), (.t 1, .v (Dv (.sl (boolRows b)))), (.t 5, .v (I (0 : Nat)))] [] [] (⟨0, rfl, Nat.zero_le _, fun j h => absurd h (by omega), rfl⟩) ?_ rfl rfl
      repeat' first | exact trivial | refine mL_nil rfl ?_ | refine mL_d rfl ?_ ?_ | refine mL_own rfl rfl ?_ rfl ?_ | refine mL_row rfl ?_ ?_ | refine mL_pt rfl rfl rfl rfl ?_ | refine mL_box rfl ?_ ?_ | refine mL_agg rfl ?_ ?_ | exact mCs_nil0 | refine mCs_d ?_ ?_ | refine mCs_nil ?_ | refine mCs_own rfl ?_ rfl ?_ | refine mCs_pt rfl rfl rfl ?_
      all_goals first | with_reducible rfl | (first | rfl | (simp; done) | omega)
    rintro n s ⟨i, rfl, hi, hk, rfl⟩
    refine SW.seq ?_
    refine SW.seq ?_
    refine SW.regT tabOk [0, 1, 5, 14] ?_
    refine ai trivial (ai trivial (ai vc (ai trivial ?_)))
    refine SW.cond rfl (fun c14 => ?_) (fun c14 => ?_)
    · skip
      have hi2 : i < a.length := by simpa [boolRows_length] using c14
      have hga := boolRows_getD (l := a) hi2
      have hgb := boolRows_getD (l := b) (i := i) (by omega)
      refine SW.skip ?_
      refine SW.seq ?_
      refine SW.block ?_
      refine SW.seq ?_
      refine SW.regD tabOk mo [0, 1, 5, 25] ?_
      refine ai trivial (ai trivial (ai (by rw [Int.toNat_natCast, hga]; exact ⟨⟨by omega, by rw [boolRows_length]; omega⟩, rfl⟩) (ai (by rw [Int.toNat_natCast, hga]; exact ⟨Nat.le_of_ble_eq_true rfl, rfl⟩) (ai trivial (ai trivial (ai (by rw [Int.toNat_natCast, hgb]; exact ⟨⟨by omega, by rw [boolRows_length]; omega⟩, rfl⟩) (ai (by rw [Int.toNat_natCast, hgb]; exact ⟨Nat.le_of_ble_eq_true rfl, rfl⟩) (ai trivial (ai (by kernel_rfl) ?_)))))))))
      refine SW.cond rfl (fun c25 => ?_) (fun c25 => ?_)
      · skip
        have hs : ¬ a.getD i false = b.getD i false := by
          rw [Int.toNat_natCast, hga, hgb] at c25
          exact of_bne_ne c25
        refine SW.seq ?_
        refine SW.regT tabOk [4] ?_
        refine ai trivial ?_
        refine SW.ret ?_
        refine retOk1 rfl (congrArg D.b ?_)
        exact (decide_eq_false (ne_of_getD (z := false) (j := i) hs)).symm
      · skip
        refine SW.skip ?_
        refine SW.regT tabOk [0, 1, 5] ?_
        refine ai trivial (ai trivial (ai trivial ?_))
        have hs : a.getD i false = b.getD i false := by
          rw [Int.toNat_natCast, hga, hgb] at c25
          exact of_bne c25
        refine wk [(.t 0, .v (Dv (.sl (boolRows a)))), (.t 1, .v (Dv (.sl (boolRows b)))), (.t 5, .v (I ((i + 1) : Nat)))] [] [] (⟨a.length - (i + 1), by omega, i + 1, rfl, by omega, fun j h => by by_cases e : j = i; exact e ▸ hs; exact hk j (by omega), rfl⟩) ?_ rfl rfl
        repeat' first | exact trivial | refine mL_nil rfl ?_ | refine mL_d rfl ?_ ?_ | refine mL_own rfl rfl ?_ rfl ?_ | refine mL_row rfl ?_ ?_ | refine mL_pt rfl rfl rfl rfl ?_ | refine mL_box rfl ?_ ?_ | refine mL_agg rfl ?_ ?_ | exact mCs_nil0 | refine mCs_d ?_ ?_ | refine mCs_nil ?_ | refine mCs_own rfl ?_ rfl ?_ | refine mCs_pt rfl rfl rfl ?_
        all_goals first | with_reducible rfl | (first | with_reducible rfl | exact congrArg D.i (wrap64_of (by omega)))
    · skip
      have hi3 : i = a.length := by simp [boolRows_length] at c14; omega
      refine SW.exit ?_
      refine SW.seq ?_
      refine SW.regT tabOk [4] ?_
      refine ai trivial ?_
      refine SW.ret ?_
      refine retOk1 rfl (congrArg D.b ?_)
      subst hi3
      exact (decide_eq_true (eq_of_getD (z := false) hlen hk)).symm

end Go.Proofs.YtilahgkblckndaaGreatDoor

namespace Go.Proofs.YtilahgkblckndaaGreatDoor
open Go Go.Ab Go.RowKit
set_option linter.unusedVariables false
set_option linter.unusedSimpArgs false

set_option maxHeartbeats 800000 in
theorem s_laws_szRiver (r : RiverR) (n : Int) (hr : RVB r) : Ab.SpecE Tryz.prog 16 2 [(.t 0, .v (r.V)), (.t 1, .v (I n))] (fun s => ∃ r : Int, s = [(.t 0, .v (I r))]) := by
  refine specE_of_body tabOk Tryz.func16 rfl (by kernel_rfl) (by decide) (by kernel_rfl) rfl ?_
  refine SW.seq ?_
  refine SW.regT tabOk [1, 2] ?_
  refine ai trivial (ai trivial ?_)
  refine SW.seq ?_
  refine SW.regE tabOk [1, 2] ?_
  refine ai (by first | trivial | rfl) (ai vc (ai trivial ?_))
  refine ee_call (rl := []) (bor := []) (news := []) (robj := []) (s_laws_szKeeperS r.keepers _ hr.1.1 hr.1.2) rfl rfl rfl rfl (match_plain rfl) (fun σ hσ => by obtain ⟨r, rfl⟩ := hσ; exact ⟨rfl, .inl rfl, fun j hj => by simp [newIds, objIds] at hj⟩) (fun p hp => nomatch hp) (fun j hj => nomatch hj) ?_
  rintro σ ⟨x1, rfl⟩
  refine ai trivial ?_
  refine SW.seq ?_
  refine SW.seq ?_
  refine SW.regT tabOk [1, 2, 10] ?_
  refine ai trivial (ai trivial ?_)
  refine SW.cond rfl (fun c10 => ?_) (fun c10 => ?_)
  · skip
    refine SW.seq ?_
    refine SW.regT tabOk [4] ?_
    refine ai trivial ?_
    refine SW.ret ?_
    refine retQR _ ⟨_, rfl⟩ (retOk1 rfl rfl)
  · skip
    refine SW.skip ?_
    refine SW.seq ?_
    refine SW.regE tabOk [1, 2] ?_
    refine ai (by first | trivial | rfl) (ai vc (ai trivial ?_))
    refine ee_call (rl := []) (bor := []) (news := []) (robj := []) (s_laws_szBoolS r.links _) rfl rfl rfl rfl (match_plain rfl) (fun σ hσ => by obtain ⟨r, rfl⟩ := hσ; exact ⟨rfl, .inl rfl, fun j hj => by simp [newIds, objIds] at hj⟩) (fun p hp => nomatch hp) (fun j hj => nomatch hj) ?_
    rintro σ ⟨x2, rfl⟩
    refine ai trivial ?_
    refine SW.seq ?_
    refine SW.seq ?_
    refine SW.regT tabOk [1, 2, 16] ?_
    refine ai trivial (ai trivial ?_)
    refine SW.cond rfl (fun c16 => ?_) (fun c16 => ?_)
    · skip
      refine SW.seq ?_
      refine SW.regT tabOk [4] ?_
      refine ai trivial ?_
      refine SW.ret ?_
      refine retQR _ ⟨_, rfl⟩ (retOk1 rfl rfl)
    · skip
      refine SW.skip ?_
      refine SW.seq ?_
      refine SW.regE tabOk [1, 2] ?_
      refine ai (by first | trivial | rfl) (ai vc (ai trivial ?_))
      refine ee_call (rl := []) (bor := []) (news := []) (robj := []) (s_laws_szParcelS r.radio _ hr.2.2.1) rfl rfl rfl rfl (match_plain rfl) (fun σ hσ => by obtain ⟨r, rfl⟩ := hσ; exact ⟨rfl, .inl rfl, fun j hj => by simp [newIds, objIds] at hj⟩) (fun p hp => nomatch hp) (fun j hj => nomatch hj) ?_
      rintro σ ⟨x3, rfl⟩
      refine ai trivial ?_
      refine SW.seq ?_
      refine SW.seq ?_
      refine SW.regT tabOk [1, 2, 22] ?_
      refine ai trivial (ai trivial ?_)
      refine SW.cond rfl (fun c22 => ?_) (fun c22 => ?_)
      · skip
        refine SW.seq ?_
        refine SW.regT tabOk [4] ?_
        refine ai trivial ?_
        refine SW.ret ?_
        refine retQR _ ⟨_, rfl⟩ (retOk1 rfl rfl)
      · skip
        refine SW.skip ?_
        refine SW.seq ?_
        refine SW.regE tabOk [1, 2] ?_
        refine ai (by first | trivial | rfl) (ai vc (ai trivial ?_))
        refine ee_call (rl := []) (bor := []) (news := []) (robj := []) (s_laws_szNoteS r.sent _ hr.2.2.2.1) rfl rfl rfl rfl (match_plain rfl) (fun σ hσ => by obtain ⟨r, rfl⟩ := hσ; exact ⟨rfl, .inl rfl, fun j hj => by simp [newIds, objIds] at hj⟩) (fun p hp => nomatch hp) (fun j hj => nomatch hj) ?_
        rintro σ ⟨x4, rfl⟩
        refine ai trivial ?_
        refine SW.seq ?_
        refine SW.seq ?_
        refine SW.regT tabOk [1, 2, 28] ?_
        refine ai trivial (ai trivial ?_)
        refine SW.cond rfl (fun c28 => ?_) (fun c28 => ?_)
        · skip
          refine SW.seq ?_
          refine SW.regT tabOk [4] ?_
          refine ai trivial ?_
          refine SW.ret ?_
          refine retQR _ ⟨_, rfl⟩ (retOk1 rfl rfl)
        · skip
          refine SW.skip ?_
          refine SW.seq ?_
          refine SW.regE tabOk [1] ?_
          refine ai (by first | trivial | rfl) (ai vc (ai trivial ?_))
          refine ee_call (rl := []) (bor := []) (news := []) (robj := []) (s_laws_szNoteS r.got _ hr.2.2.2.2.1) rfl rfl rfl rfl (match_plain rfl) (fun σ hσ => by obtain ⟨r, rfl⟩ := hσ; exact ⟨rfl, .inl rfl, fun j hj => by simp [newIds, objIds] at hj⟩) (fun p hp => nomatch hp) (fun j hj => nomatch hj) ?_
          rintro σ ⟨x5, rfl⟩
          refine ai trivial ?_
          refine SW.seq ?_
          refine SW.seq ?_
          refine SW.regT tabOk [1, 34] ?_
          refine ai trivial (ai trivial ?_)
          refine SW.cond rfl (fun c34 => ?_) (fun c34 => ?_)
          · skip
            refine SW.seq ?_
            refine SW.regT tabOk [4] ?_
            refine ai trivial ?_
            refine SW.ret ?_
            refine retQR _ ⟨_, rfl⟩ (retOk1 rfl rfl)
          · skip
            refine SW.skip ?_
            refine SW.seq ?_
            refine SW.regT tabOk [4] ?_
            refine ai trivial (ai trivial ?_)
            refine SW.ret ?_
            refine retQR _ ⟨_, rfl⟩ (retOk1 rfl rfl)

set_option maxHeartbeats 800000 in
theorem s_laws_toRiver (r : RiverR) (hr : RVB r) : Ab.Spec Tryz.prog 18 1 [(.t 0, .v (r.V))] [(.t 0, .v (r.V))] := by
  refine spec_of_body tabOk Tryz.func18 rfl (by kernel_rfl) (by decide) (by kernel_rfl) rfl ?_
  refine SW.seq ?_
  refine SW.regT tabOk [1, 2] ?_
  refine ai trivial (ai trivial ?_)
  refine SW.seq ?_
  refine SW.regT tabOk [1, 2, 3] ?_
  refine ai trivial ?_
  refine SW.seq ?_
  refine SW.regT tabOk [1, 2, 3] ?_
  refine ai (by first | trivial | rfl) (ai vc (ai (by first | trivial | rfl) (ai ⟨by kernel_rfl, Nat.le_of_ble_eq_true (by kernel_rfl)⟩ ?_)))
  refine SW.seq ?_
  refine SW.regT tabOk [1, 2, 3] ?_
  refine ai (by first | trivial | rfl) (ai vc ?_)
  refine ex_pure (s_laws_toKeeperS r.keepers hr.1.1 hr.1.2) rfl rfl rfl rfl rfl rfl rfl rfl ?_
  refine ai (by first | trivial | rfl) (ai ⟨by kernel_rfl, Nat.le_of_ble_eq_true (by kernel_rfl)⟩ ?_)
  refine SW.seq ?_
  refine SW.regT tabOk [1, 2, 3] ?_
  refine ai (by first | trivial | rfl) (ai vc ?_)
  refine ex_pure (s_laws_toBoolS r.links hr.2.1) rfl rfl rfl rfl rfl rfl rfl rfl ?_
  refine ai (by first | trivial | rfl) (ai ⟨by kernel_rfl, Nat.le_of_ble_eq_true (by kernel_rfl)⟩ ?_)
  refine SW.seq ?_
  refine SW.regT tabOk [1, 2, 3] ?_
  refine ai (by first | trivial | rfl) (ai vc ?_)
  refine ex_pure (s_laws_toParcelS r.radio hr.2.2.1) rfl rfl rfl rfl rfl rfl rfl rfl ?_
  refine ai (by first | trivial | rfl) (ai ⟨by kernel_rfl, Nat.le_of_ble_eq_true (by kernel_rfl)⟩ ?_)
  refine SW.seq ?_
  refine SW.regT tabOk [1, 2, 3] ?_
  refine ai (by first | trivial | rfl) (ai vc ?_)
  refine ex_pure (s_laws_toNoteS r.sent hr.2.2.2.1) rfl rfl rfl rfl rfl rfl rfl rfl ?_
  refine ai (by first | trivial | rfl) (ai ⟨by kernel_rfl, Nat.le_of_ble_eq_true (by kernel_rfl)⟩ ?_)
  refine SW.seq ?_
  refine SW.regT tabOk [2, 3] ?_
  refine ai (by first | trivial | rfl) (ai vc ?_)
  refine ex_pure (s_laws_toNoteS r.got hr.2.2.2.2.1) rfl rfl rfl rfl rfl rfl rfl rfl ?_
  refine ai (by first | trivial | rfl) (ai ⟨by kernel_rfl, Nat.le_of_ble_eq_true (by kernel_rfl)⟩ ?_)
  refine SW.seq ?_
  refine SW.regT tabOk [2] ?_
  refine ai vc (ai ⟨by kernel_rfl, Nat.le_of_ble_eq_true (by kernel_rfl)⟩ ?_)
  refine SW.ret ?_
  refine retOkP rfl rfl ?_
  rfl

set_option maxHeartbeats 800000 in
theorem s_laws_eqRiver (a b : RiverR) (hr : RVB a) : Ab.Spec Tryz.prog 20 2 [(.t 0, .v (a.V)), (.t 1, .v (b.V))] [(.t 0, .v (B (decide (a = b))))] := by
  refine spec_of_body tabOk Tryz.func20 rfl (by kernel_rfl) (by decide) (by kernel_rfl) rfl ?_
  refine SW.seq ?_
  refine SW.regT tabOk [2, 3] ?_
  refine ai trivial (ai trivial (ai trivial ?_))
  refine SW.seq ?_
  refine SW.seq ?_
  refine SW.regT tabOk [2, 3, 9] ?_
  refine ai (by first | trivial | rfl) (ai vc (ai (by first | trivial | rfl) (ai vc (ai trivial ?_))))
  refine SW.cond rfl (fun c9 => ?_) (fun c9 => ?_)
  · skip
    refine SW.seq ?_
    refine SW.regT tabOk [4] ?_
    refine ai trivial ?_
    refine SW.ret ?_
    refine retOk1 rfl (congrArg D.b ?_)
    cases a; cases b; first | (simp_all; done) | (simp_all; grind)
  · skip
    refine SW.skip ?_
    refine SW.seq ?_
    refine SW.seq ?_
    refine SW.regT tabOk [2, 3, 15] ?_
    refine ai (by first | trivial | rfl) (ai vc (ai (by first | trivial | rfl) (ai vc ?_)))
    refine ex_pure (s_laws_eqKeeperS a.keepers b.keepers hr.1.1 hr.1.2) rfl rfl rfl rfl rfl rfl rfl rfl ?_
    refine ai trivial ?_
    refine SW.cond rfl (fun c15 => ?_) (fun c15 => ?_)
    · skip
      refine SW.seq ?_
      refine SW.regT tabOk [4] ?_
      refine ai trivial ?_
      refine SW.ret ?_
      refine retOk1 rfl (congrArg D.b ?_)
      cases a; cases b; first | (simp_all; done) | (simp_all; grind)
    · skip
      refine SW.skip ?_
      refine SW.seq ?_
      refine SW.seq ?_
      refine SW.regT tabOk [2, 3, 21] ?_
      refine ai (by first | trivial | rfl) (ai vc (ai (by first | trivial | rfl) (ai vc ?_)))
      refine ex_pure (s_laws_eqBoolS a.links b.links hr.2.1) rfl rfl rfl rfl rfl rfl rfl rfl ?_
      refine ai trivial ?_
      refine SW.cond rfl (fun c21 => ?_) (fun c21 => ?_)
      · skip
        refine SW.seq ?_
        refine SW.regT tabOk [4] ?_
        refine ai trivial ?_
        refine SW.ret ?_
        refine retOk1 rfl (congrArg D.b ?_)
        cases a; cases b; first | (simp_all; done) | (simp_all; grind)
      · skip
        refine SW.skip ?_
        refine SW.seq ?_
        refine SW.seq ?_
        refine SW.regT tabOk [2, 3, 27] ?_
        refine ai (by first | trivial | rfl) (ai vc (ai (by first | trivial | rfl) (ai vc ?_)))
        refine ex_pure (s_laws_eqParcelS a.radio b.radio hr.2.2.1) rfl rfl rfl rfl rfl rfl rfl rfl ?_
        refine ai trivial ?_
        refine SW.cond rfl (fun c27 => ?_) (fun c27 => ?_)
        · skip
          refine SW.seq ?_
          refine SW.regT tabOk [4] ?_
          refine ai trivial ?_
          refine SW.ret ?_
          refine retOk1 rfl (congrArg D.b ?_)
          cases a; cases b; first | (simp_all; done) | (simp_all; grind)
        · skip
          refine SW.skip ?_
          refine SW.seq ?_
          refine SW.seq ?_
          refine SW.regT tabOk [2, 3, 33] ?_
          refine ai (by first | trivial | rfl) (ai vc (ai (by first | trivial | rfl) (ai vc ?_)))
          refine ex_pure (s_laws_eqNoteS a.sent b.sent hr.2.2.2.1) rfl rfl rfl rfl rfl rfl rfl rfl ?_
          refine ai trivial ?_
          refine SW.cond rfl (fun c33 => ?_) (fun c33 => ?_)
          · skip
            refine SW.seq ?_
            refine SW.regT tabOk [4] ?_
            refine ai trivial ?_
            refine SW.ret ?_
            refine retOk1 rfl (congrArg D.b ?_)
            cases a; cases b; first | (simp_all; done) | (simp_all; grind)
          · skip
            refine SW.skip ?_
            refine SW.seq ?_
            refine SW.seq ?_
            refine SW.regT tabOk [39] ?_
            refine ai (by first | trivial | rfl) (ai vc (ai (by first | trivial | rfl) (ai vc ?_)))
            refine ex_pure (s_laws_eqNoteS a.got b.got hr.2.2.2.2.1) rfl rfl rfl rfl rfl rfl rfl rfl ?_
            refine ai trivial ?_
            refine SW.cond rfl (fun c39 => ?_) (fun c39 => ?_)
            · skip
              refine SW.seq ?_
              refine SW.regT tabOk [4] ?_
              refine ai trivial ?_
              refine SW.ret ?_
              refine retOk1 rfl (congrArg D.b ?_)
              cases a; cases b; first | (simp_all; done) | (simp_all; grind)
            · skip
              refine SW.skip ?_
              refine SW.seq ?_
              refine SW.regT tabOk [4] ?_
              refine ai trivial ?_
              refine SW.ret ?_
              refine retOk1 rfl (congrArg D.b ?_)
              cases a; cases b; first | (simp_all; done) | (simp_all; grind)

set_option maxHeartbeats 800000 in
theorem s_impl_allOk (l : List NoteR) (hl : l.length * 48 ≤ 140737488355328) (hx : ∀ x ∈ l, x.text.length ≤ 140737488355328) : Ab.Spec Tryz.prog 67 1 [(.t 0, .v (Dv (.sl (noteRows l))))] [(.t 0, .v (B (allNotes l)))] := by
  refine spec_of_body tabOk Tryz.func67 rfl (by kernel_rfl) (by decide) (by kernel_rfl) rfl ?_
  refine SW.seq ?_
  refine SW.regT tabOk [0] ?_
  refine ai trivial ?_
  refine SW.seq ?_
  refine SW.seq ?_
  refine SW.regT tabOk [0, 5, 6, 7] ?_
  refine ai trivial (ai vc (ai trivial ?_))
  refine SW.block ?_
  -- live at the head: [0, 5, 6, 7]
  refine SW.loopW (n := l.length) (fun m q => ∃ i : Nat, m = l.length - i ∧ i ≤ l.length ∧ (∀ k, k < i → noteOk (l.getD k .zero) = true) ∧ q = [(.t 0, .v (Dv (.sl (noteRows l)))), (.t 5, .v (Dv (.sl (noteRows l)))), (.t 6, .v (I (l.length : Nat))), (.t 7, .v (I (i : Nat)))]) ?_ ?_
  · skip
    refine wk [(.t 0, .v (Dv (.sl (noteRows l)))), (.t 5, .v (Dv (.sl (noteRows l)))), (.t 6, .v (I (l.length : Nat))), (.t 7, .v (I (0 : Nat)))] [] [] (⟨0, rfl, Nat.zero_le _, fun k h => absurd h (by omega), rfl⟩) ?_ rfl rfl
    repeat' first | exact trivial | refine mL_nil rfl ?_ | refine mL_d rfl ?_ ?_ | refine mL_own rfl rfl ?_ rfl ?_ | refine mL_row rfl ?_ ?_ | refine mL_pt rfl rfl rfl rfl ?_ | refine mL_box rfl ?_ ?_ | refine mL_agg rfl ?_ ?_ | exact mCs_nil0 | refine mCs_d ?_ ?_ | refine mCs_nil ?_ | refine mCs_own rfl ?_ rfl ?_ | refine mCs_pt rfl rfl rfl ?_
    all_goals first | with_reducible rfl | (first | with_reducible rfl | (rw [noteRows_length]; done) | rfl)
  rintro n s ⟨i, rfl, hi, hk, rfl⟩
  refine SW.seq ?_
  refine SW.regT tabOk [0, 5, 6, 7, 8] ?_
  refine ai trivial ?_
  refine SW.seq ?_
  refine SW.cond rfl (fun c8 => ?_) (fun c8 => ?_)
  · skip
    have hi2 : i < l.length := by simp at c8; omega
    have hg := noteRows_getD (l := l) hi2
    have hmem : l.getD i .zero ∈ l := mem_getD hi2
    refine SW.skip ?_
    refine SW.seq ?_
    refine SW.block ?_
    refine SW.seq ?_
    refine SW.regT tabOk [0, 4, 5, 6, 7] ?_
    refine ai (by rw [Int.toNat_natCast, hg]; exact ⟨⟨by omega, by rw [noteRows_length]; omega⟩, rfl⟩) (ai (by rw [Int.toNat_natCast, hg]; exact ⟨Nat.le_of_ble_eq_true rfl, rfl⟩) (ai trivial (ai ⟨by kernel_rfl, Nat.le_of_ble_eq_true (by kernel_rfl)⟩ ?_)))
    refine SW.seq ?_
    refine SW.regT tabOk [0, 5, 6, 7, 13] ?_
    refine ai vc ?_
    refine ex_pure (s_impl_NoteOk (l.getD i .zero) (hx _ hmem)) rfl rfl rfl rfl rfl (by rw [Int.toNat_natCast, hg]; rfl) rfl rfl ?_
    refine ai trivial ?_
    refine SW.cond rfl (fun c13 => ?_) (fun c13 => ?_)
    · skip
      have hs : plainNotes l = false := all_range_false hi2 (by simpa using c13)
      refine SW.seq ?_
      refine SW.regT tabOk [2] ?_
      refine ai trivial ?_
      refine SW.ret ?_
      refine retOk1 rfl (congrArg D.b ?_)
      rw [allNotes, hs]; rfl
    · skip
      refine SW.skip ?_
      refine SW.regT tabOk [0, 5, 6, 7] ?_
      refine ai trivial (ai trivial ?_)
      have hs : noteOk (l.getD i .zero) = true := by simpa using c13
      refine wk [(.t 0, .v (Dv (.sl (noteRows l)))), (.t 5, .v (Dv (.sl (noteRows l)))), (.t 6, .v (I (l.length : Nat))), (.t 7, .v (I ((i + 1) : Nat)))] [] [] (⟨l.length - (i + 1), by omega, i + 1, rfl, by omega, fun k h => by by_cases e : k = i; exact e ▸ hs; exact hk k (by omega), rfl⟩) ?_ rfl rfl
      repeat' first | exact trivial | refine mL_nil rfl ?_ | refine mL_d rfl ?_ ?_ | refine mL_own rfl rfl ?_ rfl ?_ | refine mL_row rfl ?_ ?_ | refine mL_pt rfl rfl rfl rfl ?_ | refine mL_box rfl ?_ ?_ | refine mL_agg rfl ?_ ?_ | exact mCs_nil0 | refine mCs_d ?_ ?_ | refine mCs_nil ?_ | refine mCs_own rfl ?_ rfl ?_ | refine mCs_pt rfl rfl rfl ?_
      all_goals first | with_reducible rfl | (first | with_reducible rfl | exact congrArg D.i (wrap64_of (by omega)))
  · skip
    have hi3 : i = l.length := by simp at c8; omega
    subst hi3
    have ha : plainNotes l = true := all_range_true hk
    refine SW.exit ?_
    refine SW.seq ?_
    refine SW.regT tabOk [2] ?_
    refine ai trivial (ai vc (ai trivial (ai trivial ?_)))
    refine SW.ret ?_
    refine retOk1 rfl (congrArg D.b ?_)
    rw [allNotes, ha, Bool.true_and, noteRows_length]; exact decide_eq_decide.2 (by omega)

set_option maxHeartbeats 1600000 in
theorem s_impl_RiverOk (r : RiverR) (hr : RVB r) : Ab.Spec Tryz.prog 19 1 [(.t 0, .v (r.V))] [(.t 0, .v (B (riverOk r)))] := by
  have hbig : r.keepers.length * 64 ≤ 140737488355328 ∧ r.radio.length * 40 ≤ 140737488355328 ∧ r.sent.length * 48 ≤ 140737488355328 ∧ r.got.length * 48 ≤ 140737488355328 := ⟨hr.1.1, hr.2.2.1, hr.2.2.2.1, hr.2.2.2.2.1⟩
  refine spec_of_body tabOk Tryz.func19 rfl (by kernel_rfl) (by decide) (by kernel_rfl) rfl ?_
  refine SW.seq ?_
  refine SW.regT tabOk [1, 12, 13, 14, 15, 18, 19, 20, 21, 24, 25, 26, 27, 30, 31, 32, 33, 36, 37, 38, 39, 54, 55, 56, 71, 72, 73, 74, 77, 78, 79, 80, 81, 82, 83, 84, 85, 86, 87, 88, 89, 90, 93, 94, 95, 96] ?_
  refine ai trivial (ai trivial ?_)
  refine SW.seq ?_
  refine SW.seq ?_
  refine SW.regT tabOk [1, 40, 54, 55, 56, 71, 72, 73, 74, 77, 78, 79, 80, 81, 82, 83, 84, 85, 86, 87, 88, 89, 90, 93, 94, 95, 96] ?_
  refine ai (by first | trivial | rfl) (ai vc ?_)
  refine ex_pure (s_impl_in _ _ _) rfl rfl rfl rfl rfl rfl rfl rfl ?_
  refine ai trivial (ai trivial (ai (fun h => (by first | trivial | rfl)) (ai rk (ai (fun h => vc) (ai rk (ai (fun h => vc) (ai rk (ai (fun h => trivial) (ai rk (ai pk (ai trivial (ai (fun h => (by first | trivial | rfl)) (ai rk (ai (fun h => vc) (ai rk (ai (fun h => vc) (ai rk (ai (fun h => trivial) (ai rk (ai pk (ai trivial (ai (fun h => (by first | trivial | rfl)) (ai rk (ai (fun h => vc) (ai rk (ai (fun h => vc) (ai rk (ai (fun h => trivial) (ai rk (ai pk (ai trivial (ai (fun h => (by first | trivial | rfl)) (ai rk (ai (fun h => vc) (ai rk ?_)))))))))))))))))))))))))))))))))))
  refine exc_pure (fun h => (s_impl_allOk r.sent hr.2.2.2.1 hr.2.2.2.2.2.1)) rfl rfl rfl rfl rfl rfl rfl rfl rk ?_
  refine ai (fun h => trivial) (ai rk (ai pk (ai trivial (ai (fun h => (by first | trivial | rfl)) (ai rk (ai (fun h => vc) (ai rk ?_)))))))
  refine exc_pure (fun h => (s_impl_allOk r.got hr.2.2.2.2.1 hr.2.2.2.2.2.2)) rfl rfl rfl rfl rfl rfl rfl rfl rk ?_
  refine ai (fun h => trivial) (ai rk (ai pk ?_))
  refine SW.cond rfl (fun c40 => ?_) (fun c40 => ?_)
  · skip
    have hb := river_genI c40
    refine SW.seq ?_
    refine SW.regT tabOk [2] ?_
    refine ai trivial ?_
    refine SW.ret ?_
    refine retOk1 rfl (congrArg D.b ?_)
    refine (river_bad (.inl ?_)).symm
    revert hb
    cases riverHead r <;> cases plainNotes r.sent <;> cases plainNotes r.got <;> simp
  · skip
    have hb := river_genI c40
    simp only [Bool.not_false, Bool.and_eq_true] at hb
    obtain ⟨⟨hh, hn1⟩, hn2⟩ := hb
    refine SW.skip ?_
    refine SW.seq ?_
    refine SW.seq ?_
    refine SW.regT tabOk [1, 42, 43, 44, 54, 55, 56, 71, 72, 73, 74, 77, 78, 79, 80, 81, 82, 83, 84, 85, 86, 87, 88, 89, 90, 93, 94, 95, 96] ?_
    refine ai (by first | trivial | rfl) (ai vc (ai vc (ai trivial ?_)))
    refine SW.block ?_
    -- live at the head: [1, 42, 43, 44, 54, 55, 56, 71, 72, 73, 74, 77, 78, 79, 80, 81, 82, 83, 84, 85, 86, 87, 88, 89, 90, 93, 94, 95, 96]
    refine SW.loopW (n := r.keepers.length) (fun m q => ∃ i : Nat, m = r.keepers.length - i ∧ i ≤ r.keepers.length ∧ (∀ k, k < i → keepersStep r.keepers k = true) ∧ q = [(.t 1, .v (.e (.c (.pt 1 0)))), (.t 42, .v (Dv (.sl (keeperRows r.keepers)))), (.t 43, .v (I (r.keepers.length : Nat))), (.t 44, .v (I (i : Nat))), (.o 1, .box 52 [.d (.i r.time), .d (.sl (keeperRows r.keepers)), .d (.sl (boolRows r.links)), .d (.sl (parcelRows r.radio)), .d (.sl (noteRows r.sent)), .d (.sl (noteRows r.got))])]) ?_ ?_
    · skip
      refine wk [(.t 1, .v (.e (.c (.pt 1 0)))), (.t 42, .v (Dv (.sl (keeperRows r.keepers)))), (.t 43, .v (I (r.keepers.length : Nat))), (.t 44, .v (I (0 : Nat))), (.o 1, .box 52 [.d (.i r.time), .d (.sl (keeperRows r.keepers)), .d (.sl (boolRows r.links)), .d (.sl (parcelRows r.radio)), .d (.sl (noteRows r.sent)), .d (.sl (noteRows r.got))])] [] [] (⟨0, rfl, Nat.zero_le _, fun k h => absurd h (by omega), rfl⟩) ?_ rfl rfl
      repeat' first | exact trivial | refine mL_nil rfl ?_ | refine mL_d rfl ?_ ?_ | refine mL_own rfl rfl ?_ rfl ?_ | refine mL_row rfl ?_ ?_ | refine mL_pt rfl rfl rfl rfl ?_ | refine mL_box rfl ?_ ?_ | refine mL_agg rfl ?_ ?_ | exact mCs_nil0 | refine mCs_d ?_ ?_ | refine mCs_nil ?_ | refine mCs_own rfl ?_ rfl ?_ | refine mCs_pt rfl rfl rfl ?_
      all_goals first | with_reducible rfl | (first | with_reducible rfl | rfl | (rw [keeperRows_length]; done) | (rw [parcelRows_length]; done))
    rintro n s ⟨i, rfl, hi, hk, rfl⟩
    refine SW.seq ?_
    refine SW.regT tabOk [1, 42, 43, 44, 45, 54, 55, 56, 71, 72, 73, 74, 77, 78, 79, 80, 81, 82, 83, 84, 85, 86, 87, 88, 89, 90, 93, 94, 95, 96] ?_
    refine ai trivial ?_
    refine SW.seq ?_
    refine SW.cond rfl (fun c45 => ?_) (fun c45 => ?_)
    · skip
      have hi2 : i < r.keepers.length := by simp [keeperRows_length] at c45; omega
      have hg := keeperRows_getD (l := r.keepers) hi2
      have hmem : (r.keepers.getD i .zero) ∈ r.keepers := mem_getD hi2
      refine SW.skip ?_
      refine SW.seq ?_
      refine SW.block ?_
      refine SW.seq ?_
      refine SW.regT tabOk [1, 3, 4, 42, 43, 44, 54, 55, 56, 71, 72, 73, 74, 77, 78, 79, 80, 81, 82, 83, 84, 85, 86, 87, 88, 89, 90, 93, 94, 95, 96] ?_
      refine ai trivial (ai (by rw [Int.toNat_natCast, hg]; exact ⟨⟨by omega, by rw [keeperRows_length]; omega⟩, rfl⟩) (ai (by rw [Int.toNat_natCast, hg]; exact ⟨Nat.le_of_ble_eq_true rfl, rfl⟩) (ai trivial (ai trivial (ai ⟨by kernel_rfl, Nat.le_of_ble_eq_true (by kernel_rfl)⟩ ?_)))))
      refine SW.seq ?_
      refine SW.wk (J := fun s => s = [(.t 1, .v (.e (.c (.pt 1 0)))), (.t 42, .v (Dv (.sl (keeperRows r.keepers)))), (.t 43, .v (I (r.keepers.length : Nat))), (.t 44, .v (I (i : Nat))), (.t 3, .v (I (i : Nat))), (.t 4, .v (.e (.c (.pt 4 0)))), (.o 1, .box 52 [.d (.i r.time), .d (.sl (keeperRows r.keepers)), .d (.sl (boolRows r.links)), .d (.sl (parcelRows r.radio)), .d (.sl (noteRows r.sent)), .d (.sl (noteRows r.got))]), (.o 4, .box 35 [.d (.i ((r.keepers.getD i .zero)).id), .d (.b ((r.keepers.getD i .zero)).up), .d (.s ((r.keepers.getD i .zero)).log), .d (.i ((r.keepers.getD i .zero)).forced), .d (.sl (halfRows ((r.keepers.getD i .zero)).halves))])]) ?_ ?_
      · skip
        refine wk [(.t 1, .v (.e (.c (.pt 1 0)))), (.t 42, .v (Dv (.sl (keeperRows r.keepers)))), (.t 43, .v (I (r.keepers.length : Nat))), (.t 44, .v (I (i : Nat))), (.t 3, .v (I (i : Nat))), (.t 4, .v (.e (.c (.pt 4 0)))), (.o 1, .box 52 [.d (.i r.time), .d (.sl (keeperRows r.keepers)), .d (.sl (boolRows r.links)), .d (.sl (parcelRows r.radio)), .d (.sl (noteRows r.sent)), .d (.sl (noteRows r.got))]), (.o 4, .box 35 [.d (.i ((r.keepers.getD i .zero)).id), .d (.b ((r.keepers.getD i .zero)).up), .d (.s ((r.keepers.getD i .zero)).log), .d (.i ((r.keepers.getD i .zero)).forced), .d (.sl (halfRows ((r.keepers.getD i .zero)).halves))])] [] [] (rfl) ?_ rfl rfl
        repeat' first | exact trivial | refine mL_nil rfl ?_ | refine mL_d rfl ?_ ?_ | refine mL_own rfl rfl ?_ rfl ?_ | refine mL_row rfl ?_ ?_ | refine mL_pt rfl rfl rfl rfl ?_ | refine mL_box rfl ?_ ?_ | refine mL_agg rfl ?_ ?_ | exact mCs_nil0 | refine mCs_d ?_ ?_ | refine mCs_nil ?_ | refine mCs_own rfl ?_ rfl ?_ | refine mCs_pt rfl rfl rfl ?_
        all_goals first | with_reducible rfl | (first | with_reducible rfl | (rw [Int.toNat_natCast, hg]; rfl))
      rintro s rfl
      refine SW.regT tabOk [1, 42, 43, 44, 54, 55, 56, 57, 71, 72, 73, 74, 77, 78, 79, 80, 81, 82, 83, 84, 85, 86, 87, 88, 89, 90, 93, 94, 95, 96] ?_
      refine ai (by first | trivial | rfl) (ai vc (ai trivial (ai trivial (ai trivial (ai (fun h => vc) (ai rk ?_))))))
      refine exc_pure (fun h => (s_impl_KeeperOk (r.keepers.getD i .zero) (hr.1.2 _ hmem).1)) rfl rfl rfl rfl rfl rfl rfl rfl rk ?_
      refine ai (fun h => trivial) (ai rk (ai pk ?_))
      refine SW.cond rfl (fun c57 => ?_) (fun c57 => ?_)
      · skip
        have hs : keepersStep r.keepers i = false := keeper_genI c57
        refine SW.seq ?_
        refine SW.regT tabOk [2] ?_
        refine ai trivial ?_
        refine SW.ret ?_
        refine retOk1 rfl (congrArg D.b ?_)
        exact (river_bad (.inr (.inl (all_range_false hi2 hs)))).symm
      · skip
        refine SW.skip ?_
        refine SW.regT tabOk [1, 42, 43, 44, 54, 55, 56, 71, 72, 73, 74, 77, 78, 79, 80, 81, 82, 83, 84, 85, 86, 87, 88, 89, 90, 93, 94, 95, 96] ?_
        refine ai trivial (ai trivial ?_)
        have hs : keepersStep r.keepers i = true := keeper_genI c57
        refine wk [(.t 1, .v (.e (.c (.pt 1 0)))), (.t 42, .v (Dv (.sl (keeperRows r.keepers)))), (.t 43, .v (I (r.keepers.length : Nat))), (.t 44, .v (I ((i + 1) : Nat))), (.o 1, .box 52 [.d (.i r.time), .d (.sl (keeperRows r.keepers)), .d (.sl (boolRows r.links)), .d (.sl (parcelRows r.radio)), .d (.sl (noteRows r.sent)), .d (.sl (noteRows r.got))])] [] [] (⟨r.keepers.length - (i + 1), by omega, i + 1, rfl, by omega, fun k h => by by_cases e : k = i; exact e ▸ hs; exact hk k (by omega), rfl⟩) ?_ rfl rfl
        repeat' first | exact trivial | refine mL_nil rfl ?_ | refine mL_d rfl ?_ ?_ | refine mL_own rfl rfl ?_ rfl ?_ | refine mL_row rfl ?_ ?_ | refine mL_pt rfl rfl rfl rfl ?_ | refine mL_box rfl ?_ ?_ | refine mL_agg rfl ?_ ?_ | exact mCs_nil0 | refine mCs_d ?_ ?_ | refine mCs_nil ?_ | refine mCs_own rfl ?_ rfl ?_ | refine mCs_pt rfl rfl rfl ?_
        all_goals first | with_reducible rfl | (first | with_reducible rfl | exact congrArg D.i (wrap64_of (by omega)))
    · skip
      have hi3 : i = r.keepers.length := by simp [keeperRows_length] at c45; omega
      subst hi3
      have hks : keepersOk r.keepers = true := all_range_true hk
      clear hk hi
      refine SW.exit ?_
      refine SW.seq ?_
      refine SW.seq ?_
      refine SW.regT tabOk [60, 61, 62, 71, 72, 73, 74, 77, 78, 79, 80, 81, 82, 83, 84, 85, 86, 87, 88, 89, 90, 93, 94, 95, 96] ?_
      refine ai (by first | trivial | rfl) (ai vc (ai vc (ai trivial ?_)))
      refine SW.block ?_
      -- live at the head: [60, 61, 62, 71, 72, 73, 74, 77, 78, 79, 80, 81, 82, 83, 84, 85, 86, 87, 88, 89, 90, 93, 94, 95, 96]
      refine SW.loopW (n := r.radio.length) (fun m q => ∃ i : Nat, m = r.radio.length - i ∧ i ≤ r.radio.length ∧ (∀ k, k < i → parcelOk (r.radio.getD k .zero) = true) ∧ q = [(.t 60, .v (Dv (.sl (parcelRows r.radio)))), (.t 61, .v (I (r.radio.length : Nat))), (.t 62, .v (I (i : Nat))), (.o 1, .box 52 [.d (.i r.time), .d (.sl (keeperRows r.keepers)), .d (.sl (boolRows r.links)), .d (.sl (parcelRows r.radio)), .d (.sl (noteRows r.sent)), .d (.sl (noteRows r.got))])]) ?_ ?_
      · skip
        refine wk [(.t 60, .v (Dv (.sl (parcelRows r.radio)))), (.t 61, .v (I (r.radio.length : Nat))), (.t 62, .v (I (0 : Nat))), (.o 1, .box 52 [.d (.i r.time), .d (.sl (keeperRows r.keepers)), .d (.sl (boolRows r.links)), .d (.sl (parcelRows r.radio)), .d (.sl (noteRows r.sent)), .d (.sl (noteRows r.got))])] [] [] (⟨0, rfl, Nat.zero_le _, fun k h => absurd h (by omega), rfl⟩) ?_ rfl rfl
        repeat' first | exact trivial | refine mL_nil rfl ?_ | refine mL_d rfl ?_ ?_ | refine mL_own rfl rfl ?_ rfl ?_ | refine mL_row rfl ?_ ?_ | refine mL_pt rfl rfl rfl rfl ?_ | refine mL_box rfl ?_ ?_ | refine mL_agg rfl ?_ ?_ | exact mCs_nil0 | refine mCs_d ?_ ?_ | refine mCs_nil ?_ | refine mCs_own rfl ?_ rfl ?_ | refine mCs_pt rfl rfl rfl ?_
        all_goals first | with_reducible rfl | (first | with_reducible rfl | rfl | (rw [keeperRows_length]; done) | (rw [parcelRows_length]; done))
      rintro n s ⟨i, rfl, hi, hk, rfl⟩
      refine SW.seq ?_
      refine SW.regT tabOk [60, 61, 62, 63, 71, 72, 73, 74, 77, 78, 79, 80, 81, 82, 83, 84, 85, 86, 87, 88, 89, 90, 93, 94, 95, 96] ?_
      refine ai trivial ?_
      refine SW.seq ?_
      refine SW.cond rfl (fun c63 => ?_) (fun c63 => ?_)
      · skip
        have hi2 : i < r.radio.length := by simp [parcelRows_length] at c63; omega
        have hg := parcelRows_getD (l := r.radio) hi2
        refine SW.skip ?_
        refine SW.seq ?_
        refine SW.block ?_
        refine SW.seq ?_
        refine SW.regT tabOk [6, 60, 61, 62, 71, 72, 73, 74, 77, 78, 79, 80, 81, 82, 83, 84, 85, 86, 87, 88, 89, 90, 93, 94, 95, 96] ?_
        refine ai (by rw [Int.toNat_natCast, hg]; exact ⟨⟨by omega, by rw [parcelRows_length]; omega⟩, rfl⟩) (ai (by rw [Int.toNat_natCast, hg]; exact ⟨Nat.le_of_ble_eq_true rfl, rfl⟩) (ai trivial (ai ⟨by kernel_rfl, Nat.le_of_ble_eq_true (by kernel_rfl)⟩ ?_)))
        refine SW.seq ?_
        refine SW.wk (J := fun s => s = [(.t 60, .v (Dv (.sl (parcelRows r.radio)))), (.t 61, .v (I (r.radio.length : Nat))), (.t 62, .v (I (i : Nat))), (.t 6, .v (.e (.c (.pt 6 0)))), (.o 1, .box 52 [.d (.i r.time), .d (.sl (keeperRows r.keepers)), .d (.sl (boolRows r.links)), .d (.sl (parcelRows r.radio)), .d (.sl (noteRows r.sent)), .d (.sl (noteRows r.got))]), (.o 6, .box 100 [.d (.i ((r.radio.getD i .zero)).frm), .d (.i ((r.radio.getD i .zero)).to), .d (.s ((r.radio.getD i .zero)).data), .d (.b ((r.radio.getD i .zero)).done)])]) ?_ ?_
        · skip
          refine wk [(.t 60, .v (Dv (.sl (parcelRows r.radio)))), (.t 61, .v (I (r.radio.length : Nat))), (.t 62, .v (I (i : Nat))), (.t 6, .v (.e (.c (.pt 6 0)))), (.o 1, .box 52 [.d (.i r.time), .d (.sl (keeperRows r.keepers)), .d (.sl (boolRows r.links)), .d (.sl (parcelRows r.radio)), .d (.sl (noteRows r.sent)), .d (.sl (noteRows r.got))]), (.o 6, .box 100 [.d (.i ((r.radio.getD i .zero)).frm), .d (.i ((r.radio.getD i .zero)).to), .d (.s ((r.radio.getD i .zero)).data), .d (.b ((r.radio.getD i .zero)).done)])] [] [] (rfl) ?_ rfl rfl
          repeat' first | exact trivial | refine mL_nil rfl ?_ | refine mL_d rfl ?_ ?_ | refine mL_own rfl rfl ?_ rfl ?_ | refine mL_row rfl ?_ ?_ | refine mL_pt rfl rfl rfl rfl ?_ | refine mL_box rfl ?_ ?_ | refine mL_agg rfl ?_ ?_ | exact mCs_nil0 | refine mCs_d ?_ ?_ | refine mCs_nil ?_ | refine mCs_own rfl ?_ rfl ?_ | refine mCs_pt rfl rfl rfl ?_
          all_goals first | with_reducible rfl | (first | with_reducible rfl | (rw [Int.toNat_natCast, hg]; rfl))
        rintro s rfl
        refine SW.regT tabOk [60, 61, 62, 71, 72, 73, 74, 77, 78, 79, 80, 81, 82, 83, 84, 85, 86, 87, 88, 89, 90, 93, 94, 95, 96, 97] ?_
        refine ai (by first | trivial | rfl) (ai vc ?_)
        refine ex_pure (s_impl_isNode _) rfl rfl rfl rfl rfl rfl rfl rfl ?_
        refine ai trivial (ai trivial (ai (fun h => (by first | trivial | rfl)) (ai rk (ai (fun h => vc) (ai rk ?_)))))
        refine exc_pure (fun h => (s_impl_isNode _)) rfl rfl rfl rfl rfl rfl rfl rfl rk ?_
        refine ai (fun h => trivial) (ai rk (ai pk (ai trivial (ai (fun h => (by first | trivial | rfl)) (ai rk (ai (fun h => vc) (ai rk (ai (fun h => (by first | trivial | rfl)) (ai rk (ai (fun h => vc) (ai rk (ai (fun h => trivial) (ai rk (ai (fun h => trivial) (ai rk (ai (fun h => trivial) (ai rk (ai (fun h => (by first | trivial | rfl)) (ai rk (ai (fun h => vc) (ai rk (ai (fun h => (by first | trivial | rfl)) (ai rk (ai (fun h => vc) (ai rk (ai (fun h => trivial) (ai rk (ai (fun h => trivial) (ai rk (ai (fun h => pk) (ai rk (ai pk (ai trivial (ai (fun h => (by first | trivial | rfl)) (ai rk (ai (fun h => vc) (ai rk (ai (fun h => vc) (ai rk (ai (fun h => trivial) (ai rk (ai pk ?_))))))))))))))))))))))))))))))))))))))))))
        refine SW.cond rfl (fun c97 => ?_) (fun c97 => ?_)
        · skip
          have hs : parcelOk (r.radio.getD i .zero) = false := parcel_gen c97
          refine SW.seq ?_
          refine SW.regT tabOk [2] ?_
          refine ai trivial ?_
          refine SW.ret ?_
          refine retOk1 rfl (congrArg D.b ?_)
          exact (river_bad (.inr (.inr (all_range_false hi2 hs)))).symm
        · skip
          refine SW.skip ?_
          refine SW.regT tabOk [60, 61, 62, 71, 72, 73, 74, 77, 78, 79, 80, 81, 82, 83, 84, 85, 86, 87, 88, 89, 90, 93, 94, 95, 96] ?_
          refine ai trivial (ai trivial ?_)
          have hs : parcelOk (r.radio.getD i .zero) = true := parcel_gen c97
          refine wk [(.t 60, .v (Dv (.sl (parcelRows r.radio)))), (.t 61, .v (I (r.radio.length : Nat))), (.t 62, .v (I ((i + 1) : Nat))), (.o 1, .box 52 [.d (.i r.time), .d (.sl (keeperRows r.keepers)), .d (.sl (boolRows r.links)), .d (.sl (parcelRows r.radio)), .d (.sl (noteRows r.sent)), .d (.sl (noteRows r.got))])] [] [] (⟨r.radio.length - (i + 1), by omega, i + 1, rfl, by omega, fun k h => by by_cases e : k = i; exact e ▸ hs; exact hk k (by omega), rfl⟩) ?_ rfl rfl
          repeat' first | exact trivial | refine mL_nil rfl ?_ | refine mL_d rfl ?_ ?_ | refine mL_own rfl rfl ?_ rfl ?_ | refine mL_row rfl ?_ ?_ | refine mL_pt rfl rfl rfl rfl ?_ | refine mL_box rfl ?_ ?_ | refine mL_agg rfl ?_ ?_ | exact mCs_nil0 | refine mCs_d ?_ ?_ | refine mCs_nil ?_ | refine mCs_own rfl ?_ rfl ?_ | refine mCs_pt rfl rfl rfl ?_
          all_goals first | with_reducible rfl | (first | with_reducible rfl | exact congrArg D.i (wrap64_of (by omega)))
      · skip
        have hi3 : i = r.radio.length := by simp [parcelRows_length] at c63; omega
        subst hi3
        have hps : parcelsOk r.radio = true := all_range_true hk
        clear hk hi
        refine SW.exit ?_
        refine SW.seq ?_
        refine SW.regT tabOk [2] ?_
        refine ai trivial ?_
        refine SW.ret ?_
        refine retOk1 rfl (congrArg D.b ?_)
        exact (river_good hh hn1 hn2 hks hps).symm

set_option maxHeartbeats 1600000 in
theorem s_spec_RiverOk (r : RiverR) (hr : RVB r) : Ab.Spec Tryz.prog 17 1 [(.t 0, .v (r.V))] [(.t 0, .v (B (riverOk r)))] := by
  have hbig : r.keepers.length * 64 ≤ 140737488355328 ∧ r.radio.length * 40 ≤ 140737488355328 ∧ r.sent.length * 48 ≤ 140737488355328 ∧ r.got.length * 48 ≤ 140737488355328 := ⟨hr.1.1, hr.2.2.1, hr.2.2.2.1, hr.2.2.2.2.1⟩
  refine spec_of_body tabOk Tryz.func17 rfl (by kernel_rfl) (by decide) (by kernel_rfl) rfl ?_
  refine SW.seq ?_
  refine SW.regT tabOk [1, 13, 14, 15, 16, 19, 20, 21, 22, 25, 26, 27, 28, 31, 32, 33, 34, 37, 38, 39, 40, 57, 58, 59, 60, 61, 62, 63, 64, 83, 84, 85, 86, 89, 90, 91, 92, 93, 94, 95, 96, 97, 98, 99, 100, 101, 102, 105, 106, 107, 108] ?_
  refine ai trivial (ai trivial ?_)
  refine SW.seq ?_
  refine SW.seq ?_
  refine SW.regT tabOk [1, 41, 57, 58, 59, 60, 61, 62, 63, 64, 83, 84, 85, 86, 89, 90, 91, 92, 93, 94, 95, 96, 97, 98, 99, 100, 101, 102, 105, 106, 107, 108] ?_
  refine ai (by first | trivial | rfl) (ai vc ?_)
  refine ex_pure (s_spec_l6In _ _ _) rfl rfl rfl rfl rfl rfl rfl rfl ?_
  refine ai trivial (ai trivial (ai (fun h => (by first | trivial | rfl)) (ai rk (ai (fun h => vc) (ai rk (ai (fun h => vc) (ai rk (ai (fun h => trivial) (ai rk (ai pk (ai trivial (ai (fun h => (by first | trivial | rfl)) (ai rk (ai (fun h => vc) (ai rk (ai (fun h => vc) (ai rk (ai (fun h => trivial) (ai rk (ai pk (ai trivial (ai (fun h => (by first | trivial | rfl)) (ai rk (ai (fun h => vc) (ai rk (ai (fun h => vc) (ai rk (ai (fun h => trivial) (ai rk (ai pk (ai trivial (ai (fun h => (by first | trivial | rfl)) (ai rk (ai (fun h => vc) (ai rk (ai (fun h => vc) (ai rk (ai (fun h => trivial) (ai rk (ai pk (ai trivial (ai (fun h => (by first | trivial | rfl)) (ai rk (ai (fun h => vc) (ai rk (ai (fun h => vc) (ai rk (ai (fun h => trivial) (ai rk (ai pk ?_))))))))))))))))))))))))))))))))))))))))))))))))))
  refine SW.cond rfl (fun c41 => ?_) (fun c41 => ?_)
  · skip
    have hb := river_genS c41
    refine SW.seq ?_
    refine SW.regT tabOk [2] ?_
    refine ai trivial ?_
    refine SW.ret ?_
    refine retOk1 rfl (congrArg D.b ?_)
    exact (river_bad (.inl (.inl hb))).symm
  · skip
    have hh := river_genS c41
    refine SW.skip ?_
    refine SW.seq ?_
    refine SW.seq ?_
    refine SW.regT tabOk [1, 3, 57, 58, 59, 60, 61, 62, 63, 64, 83, 84, 85, 86, 89, 90, 91, 92, 93, 94, 95, 96, 97, 98, 99, 100, 101, 102, 105, 106, 107, 108] ?_
    refine ai trivial ?_
    refine SW.block ?_
    -- live at the head: [1, 3, 57, 58, 59, 60, 61, 62, 63, 64, 83, 84, 85, 86, 89, 90, 91, 92, 93, 94, 95, 96, 97, 98, 99, 100, 101, 102, 105, 106, 107, 108]
    refine SW.loopW (n := r.keepers.length) (fun m q => ∃ i : Nat, m = r.keepers.length - i ∧ i ≤ r.keepers.length ∧ (∀ k, k < i → keepersStep r.keepers k = true) ∧ q = [(.t 1, .v (.e (.c (.pt 1 0)))), (.t 3, .v (I (i : Nat))), (.o 1, .box 52 [.d (.i r.time), .d (.sl (keeperRows r.keepers)), .d (.sl (boolRows r.links)), .d (.sl (parcelRows r.radio)), .d (.sl (noteRows r.sent)), .d (.sl (noteRows r.got))])]) ?_ ?_
    · skip
      refine wk [(.t 1, .v (.e (.c (.pt 1 0)))), (.t 3, .v (I (0 : Nat))), (.o 1, .box 52 [.d (.i r.time), .d (.sl (keeperRows r.keepers)), .d (.sl (boolRows r.links)), .d (.sl (parcelRows r.radio)), .d (.sl (noteRows r.sent)), .d (.sl (noteRows r.got))])] [] [] (⟨0, rfl, Nat.zero_le _, fun k h => absurd h (by omega), rfl⟩) ?_ rfl rfl
      repeat' first | exact trivial | refine mL_nil rfl ?_ | refine mL_d rfl ?_ ?_ | refine mL_own rfl rfl ?_ rfl ?_ | refine mL_row rfl ?_ ?_ | refine mL_pt rfl rfl rfl rfl ?_ | refine mL_box rfl ?_ ?_ | refine mL_agg rfl ?_ ?_ | exact mCs_nil0 | refine mCs_d ?_ ?_ | refine mCs_nil ?_ | refine mCs_own rfl ?_ rfl ?_ | refine mCs_pt rfl rfl rfl ?_
      all_goals first | with_reducible rfl | (first | with_reducible rfl | rfl | (rw [keeperRows_length]; done) | (rw [parcelRows_length]; done))
    rintro n s ⟨i, rfl, hi, hk, rfl⟩
    refine SW.seq ?_
    refine SW.seq ?_
    refine SW.regT tabOk [1, 3, 46, 57, 58, 59, 60, 61, 62, 63, 64, 83, 84, 85, 86, 89, 90, 91, 92, 93, 94, 95, 96, 97, 98, 99, 100, 101, 102, 105, 106, 107, 108] ?_
    refine ai trivial (ai (by first | trivial | rfl) (ai vc (ai vc (ai trivial ?_))))
    refine SW.cond rfl (fun c46 => ?_) (fun c46 => ?_)
    · skip
      have hi2 : i < r.keepers.length := by simp [keeperRows_length] at c46; omega
      have hg := keeperRows_getD (l := r.keepers) hi2
      have hmem : (r.keepers.getD i .zero) ∈ r.keepers := mem_getD hi2
      refine SW.skip ?_
      refine SW.seq ?_
      refine SW.block ?_
      refine SW.seq ?_
      refine SW.regT tabOk [1, 3, 57, 58, 59, 60, 61, 62, 63, 64, 65, 83, 84, 85, 86, 89, 90, 91, 92, 93, 94, 95, 96, 97, 98, 99, 100, 101, 102, 105, 106, 107, 108] ?_
      refine ai (by first | trivial | rfl) (ai vc (ai trivial (ai (by rw [Int.toNat_natCast, hg]; exact ⟨⟨by omega, by rw [keeperRows_length]; omega⟩, rfl⟩) (ai (by rw [Int.toNat_natCast, hg]; exact ⟨Nat.le_of_ble_eq_true rfl, rfl⟩) ?_))))
      refine ex_pure (s_spec_KeeperOk (r.keepers.getD i .zero) (hr.1.2 _ hmem).1) rfl rfl rfl rfl rfl (by rw [Int.toNat_natCast, hg]; rfl) rfl rfl ?_
      refine ai trivial (ai trivial (ai (fun h => (by first | trivial | rfl)) (ai rk (ai (fun h => vc) (ai rk (ai (fun h => trivial) (ai rk (ai (fun h => (by rw [Int.toNat_natCast, hg]; exact ⟨⟨by omega, by rw [keeperRows_length]; omega⟩, rfl⟩)) (ai rk (ai (fun h => (by first | trivial | rfl)) (ai rk (ai (fun h => (by rw [Int.toNat_natCast, hg]; exact ⟨Nat.le_of_ble_eq_true rfl, rfl⟩)) (ai rk (ai (fun h => trivial) (ai rk (ai (fun h => trivial) (ai rk (ai pk ?_))))))))))))))))))
      refine SW.cond rfl (fun c65 => ?_) (fun c65 => ?_)
      · skip
        have h9 := c65
        rw [Int.toNat_natCast, hg] at h9
        have hs : keepersStep r.keepers i = false := keeper_genS h9
        refine SW.seq ?_
        refine SW.regT tabOk [2] ?_
        refine ai trivial ?_
        refine SW.ret ?_
        refine retOk1 rfl (congrArg D.b ?_)
        exact (river_bad (.inr (.inl (all_range_false hi2 hs)))).symm
      · skip
        refine SW.skip ?_
        refine SW.regT tabOk [1, 3, 57, 58, 59, 60, 61, 62, 63, 64, 83, 84, 85, 86, 89, 90, 91, 92, 93, 94, 95, 96, 97, 98, 99, 100, 101, 102, 105, 106, 107, 108] ?_
        refine ai trivial (ai trivial (ai trivial ?_))
        have h9 := c65
        rw [Int.toNat_natCast, hg] at h9
        have hs : keepersStep r.keepers i = true := keeper_genS h9
        refine wk [(.t 1, .v (.e (.c (.pt 1 0)))), (.t 3, .v (I ((i + 1) : Nat))), (.o 1, .box 52 [.d (.i r.time), .d (.sl (keeperRows r.keepers)), .d (.sl (boolRows r.links)), .d (.sl (parcelRows r.radio)), .d (.sl (noteRows r.sent)), .d (.sl (noteRows r.got))])] [] [] (⟨r.keepers.length - (i + 1), by omega, i + 1, rfl, by omega, fun k h => by by_cases e : k = i; exact e ▸ hs; exact hk k (by omega), rfl⟩) ?_ rfl rfl
        repeat' first | exact trivial | refine mL_nil rfl ?_ | refine mL_d rfl ?_ ?_ | refine mL_own rfl rfl ?_ rfl ?_ | refine mL_row rfl ?_ ?_ | refine mL_pt rfl rfl rfl rfl ?_ | refine mL_box rfl ?_ ?_ | refine mL_agg rfl ?_ ?_ | exact mCs_nil0 | refine mCs_d ?_ ?_ | refine mCs_nil ?_ | refine mCs_own rfl ?_ rfl ?_ | refine mCs_pt rfl rfl rfl ?_
        all_goals first | with_reducible rfl | (first | with_reducible rfl | exact congrArg D.i (wrap64_of (by omega)))
    · skip
      have hi3 : i = r.keepers.length := by simp [keeperRows_length] at c46; omega
      subst hi3
      have hks : keepersOk r.keepers = true := all_range_true hk
      clear hk hi
      refine SW.exit ?_
      refine SW.seq ?_
      refine SW.seq ?_
      refine SW.regT tabOk [1, 4, 83, 84, 85, 86, 89, 90, 91, 92, 93, 94, 95, 96, 97, 98, 99, 100, 101, 102, 105, 106, 107, 108] ?_
      refine ai trivial ?_
      refine SW.block ?_
      -- live at the head: [1, 4, 83, 84, 85, 86, 89, 90, 91, 92, 93, 94, 95, 96, 97, 98, 99, 100, 101, 102, 105, 106, 107, 108]
      refine SW.loopW (n := r.radio.length) (fun m q => ∃ i : Nat, m = r.radio.length - i ∧ i ≤ r.radio.length ∧ (∀ k, k < i → parcelOk (r.radio.getD k .zero) = true) ∧ q = [(.t 1, .v (.e (.c (.pt 1 0)))), (.t 4, .v (I (i : Nat))), (.o 1, .box 52 [.d (.i r.time), .d (.sl (keeperRows r.keepers)), .d (.sl (boolRows r.links)), .d (.sl (parcelRows r.radio)), .d (.sl (noteRows r.sent)), .d (.sl (noteRows r.got))])]) ?_ ?_
      · skip
        refine wk [(.t 1, .v (.e (.c (.pt 1 0)))), (.t 4, .v (I (0 : Nat))), (.o 1, .box 52 [.d (.i r.time), .d (.sl (keeperRows r.keepers)), .d (.sl (boolRows r.links)), .d (.sl (parcelRows r.radio)), .d (.sl (noteRows r.sent)), .d (.sl (noteRows r.got))])] [] [] (⟨0, rfl, Nat.zero_le _, fun k h => absurd h (by omega), rfl⟩) ?_ rfl rfl
        repeat' first | exact trivial | refine mL_nil rfl ?_ | refine mL_d rfl ?_ ?_ | refine mL_own rfl rfl ?_ rfl ?_ | refine mL_row rfl ?_ ?_ | refine mL_pt rfl rfl rfl rfl ?_ | refine mL_box rfl ?_ ?_ | refine mL_agg rfl ?_ ?_ | exact mCs_nil0 | refine mCs_d ?_ ?_ | refine mCs_nil ?_ | refine mCs_own rfl ?_ rfl ?_ | refine mCs_pt rfl rfl rfl ?_
        all_goals first | with_reducible rfl | (first | with_reducible rfl | rfl | (rw [keeperRows_length]; done) | (rw [parcelRows_length]; done))
      rintro n s ⟨i, rfl, hi, hk, rfl⟩
      refine SW.seq ?_
      refine SW.seq ?_
      refine SW.regT tabOk [1, 4, 70, 83, 84, 85, 86, 89, 90, 91, 92, 93, 94, 95, 96, 97, 98, 99, 100, 101, 102, 105, 106, 107, 108] ?_
      refine ai trivial (ai (by first | trivial | rfl) (ai vc (ai vc (ai trivial ?_))))
      refine SW.cond rfl (fun c70 => ?_) (fun c70 => ?_)
      · skip
        have hi2 : i < r.radio.length := by simp [parcelRows_length] at c70; omega
        have hg := parcelRows_getD (l := r.radio) hi2
        refine SW.skip ?_
        refine SW.seq ?_
        refine SW.block ?_
        refine SW.seq ?_
        refine SW.regT tabOk [1, 4, 5, 83, 84, 85, 86, 89, 90, 91, 92, 93, 94, 95, 96, 97, 98, 99, 100, 101, 102, 105, 106, 107, 108] ?_
        refine ai (by first | trivial | rfl) (ai vc (ai trivial (ai (by rw [Int.toNat_natCast, hg]; exact ⟨⟨by omega, by rw [parcelRows_length]; omega⟩, rfl⟩) (ai (by rw [Int.toNat_natCast, hg]; exact ⟨Nat.le_of_ble_eq_true rfl, rfl⟩) (ai trivial (ai ⟨by kernel_rfl, Nat.le_of_ble_eq_true (by kernel_rfl)⟩ ?_))))))
        refine SW.seq ?_
        refine SW.wk (J := fun s => s = [(.t 1, .v (.e (.c (.pt 1 0)))), (.t 4, .v (I (i : Nat))), (.t 5, .v (.e (.c (.pt 5 0)))), (.o 1, .box 52 [.d (.i r.time), .d (.sl (keeperRows r.keepers)), .d (.sl (boolRows r.links)), .d (.sl (parcelRows r.radio)), .d (.sl (noteRows r.sent)), .d (.sl (noteRows r.got))]), (.o 5, .box 100 [.d (.i ((r.radio.getD i .zero)).frm), .d (.i ((r.radio.getD i .zero)).to), .d (.s ((r.radio.getD i .zero)).data), .d (.b ((r.radio.getD i .zero)).done)])]) ?_ ?_
        · skip
          refine wk [(.t 1, .v (.e (.c (.pt 1 0)))), (.t 4, .v (I (i : Nat))), (.t 5, .v (.e (.c (.pt 5 0)))), (.o 1, .box 52 [.d (.i r.time), .d (.sl (keeperRows r.keepers)), .d (.sl (boolRows r.links)), .d (.sl (parcelRows r.radio)), .d (.sl (noteRows r.sent)), .d (.sl (noteRows r.got))]), (.o 5, .box 100 [.d (.i ((r.radio.getD i .zero)).frm), .d (.i ((r.radio.getD i .zero)).to), .d (.s ((r.radio.getD i .zero)).data), .d (.b ((r.radio.getD i .zero)).done)])] [] [] (rfl) ?_ rfl rfl
          repeat' first | exact trivial | refine mL_nil rfl ?_ | refine mL_d rfl ?_ ?_ | refine mL_own rfl rfl ?_ rfl ?_ | refine mL_row rfl ?_ ?_ | refine mL_pt rfl rfl rfl rfl ?_ | refine mL_box rfl ?_ ?_ | refine mL_agg rfl ?_ ?_ | exact mCs_nil0 | refine mCs_d ?_ ?_ | refine mCs_nil ?_ | refine mCs_own rfl ?_ rfl ?_ | refine mCs_pt rfl rfl rfl ?_
          all_goals first | with_reducible rfl | (first | with_reducible rfl | (rw [Int.toNat_natCast, hg]; rfl))
        rintro s rfl
        refine SW.regT tabOk [1, 4, 83, 84, 85, 86, 89, 90, 91, 92, 93, 94, 95, 96, 97, 98, 99, 100, 101, 102, 105, 106, 107, 108, 109] ?_
        refine ai (by first | trivial | rfl) (ai vc ?_)
        refine ex_pure (s_spec_l3Keeper _) rfl rfl rfl rfl rfl rfl rfl rfl ?_
        refine ai trivial (ai trivial (ai (fun h => (by first | trivial | rfl)) (ai rk (ai (fun h => vc) (ai rk ?_)))))
        refine exc_pure (fun h => (s_spec_l3Keeper _)) rfl rfl rfl rfl rfl rfl rfl rfl rk ?_
        refine ai (fun h => trivial) (ai rk (ai pk (ai trivial (ai (fun h => (by first | trivial | rfl)) (ai rk (ai (fun h => vc) (ai rk (ai (fun h => (by first | trivial | rfl)) (ai rk (ai (fun h => vc) (ai rk (ai (fun h => trivial) (ai rk (ai (fun h => trivial) (ai rk (ai (fun h => trivial) (ai rk (ai (fun h => (by first | trivial | rfl)) (ai rk (ai (fun h => vc) (ai rk (ai (fun h => (by first | trivial | rfl)) (ai rk (ai (fun h => vc) (ai rk (ai (fun h => trivial) (ai rk (ai (fun h => trivial) (ai rk (ai (fun h => pk) (ai rk (ai pk (ai trivial (ai (fun h => (by first | trivial | rfl)) (ai rk (ai (fun h => vc) (ai rk (ai (fun h => vc) (ai rk (ai (fun h => trivial) (ai rk (ai pk ?_))))))))))))))))))))))))))))))))))))))))))
        refine SW.cond rfl (fun c109 => ?_) (fun c109 => ?_)
        · skip
          have hs : parcelOk (r.radio.getD i .zero) = false := parcel_gen c109
          refine SW.seq ?_
          refine SW.regT tabOk [2] ?_
          refine ai trivial ?_
          refine SW.ret ?_
          refine retOk1 rfl (congrArg D.b ?_)
          exact (river_bad (.inr (.inr (all_range_false hi2 hs)))).symm
        · skip
          refine SW.skip ?_
          refine SW.regT tabOk [1, 4, 83, 84, 85, 86, 89, 90, 91, 92, 93, 94, 95, 96, 97, 98, 99, 100, 101, 102, 105, 106, 107, 108] ?_
          refine ai trivial (ai trivial (ai trivial ?_))
          have hs : parcelOk (r.radio.getD i .zero) = true := parcel_gen c109
          refine wk [(.t 1, .v (.e (.c (.pt 1 0)))), (.t 4, .v (I ((i + 1) : Nat))), (.o 1, .box 52 [.d (.i r.time), .d (.sl (keeperRows r.keepers)), .d (.sl (boolRows r.links)), .d (.sl (parcelRows r.radio)), .d (.sl (noteRows r.sent)), .d (.sl (noteRows r.got))])] [] [] (⟨r.radio.length - (i + 1), by omega, i + 1, rfl, by omega, fun k h => by by_cases e : k = i; exact e ▸ hs; exact hk k (by omega), rfl⟩) ?_ rfl rfl
          repeat' first | exact trivial | refine mL_nil rfl ?_ | refine mL_d rfl ?_ ?_ | refine mL_own rfl rfl ?_ rfl ?_ | refine mL_row rfl ?_ ?_ | refine mL_pt rfl rfl rfl rfl ?_ | refine mL_box rfl ?_ ?_ | refine mL_agg rfl ?_ ?_ | exact mCs_nil0 | refine mCs_d ?_ ?_ | refine mCs_nil ?_ | refine mCs_own rfl ?_ rfl ?_ | refine mCs_pt rfl rfl rfl ?_
          all_goals first | with_reducible rfl | (first | with_reducible rfl | exact congrArg D.i (wrap64_of (by omega)))
      · skip
        have hi3 : i = r.radio.length := by simp [parcelRows_length] at c70; omega
        subst hi3
        have hps : parcelsOk r.radio = true := all_range_true hk
        clear hk hi
        refine SW.exit ?_
        refine SW.seq ?_
        refine SW.seq ?_
        refine SW.regT tabOk [1, 6] ?_
        refine ai trivial ?_
        refine SW.block ?_
        -- live at the head: [1, 6]
        refine SW.loopW (n := r.sent.length) (fun m q => ∃ i : Nat, m = r.sent.length - i ∧ i ≤ r.sent.length ∧ (∀ k, k < i → noteOk (r.sent.getD k .zero) = true) ∧ q = [(.t 1, .v (.e (.c (.pt 1 0)))), (.t 6, .v (I (i : Nat))), (.o 1, .box 52 [.d (.i r.time), .d (.sl (keeperRows r.keepers)), .d (.sl (boolRows r.links)), .d (.sl (parcelRows r.radio)), .d (.sl (noteRows r.sent)), .d (.sl (noteRows r.got))])]) ?_ ?_
        · skip
          refine wk [(.t 1, .v (.e (.c (.pt 1 0)))), (.t 6, .v (I (0 : Nat))), (.o 1, .box 52 [.d (.i r.time), .d (.sl (keeperRows r.keepers)), .d (.sl (boolRows r.links)), .d (.sl (parcelRows r.radio)), .d (.sl (noteRows r.sent)), .d (.sl (noteRows r.got))])] [] [] (⟨0, rfl, Nat.zero_le _, fun k h => absurd h (by omega), rfl⟩) ?_ rfl rfl
          repeat' first | exact trivial | refine mL_nil rfl ?_ | refine mL_d rfl ?_ ?_ | refine mL_own rfl rfl ?_ rfl ?_ | refine mL_row rfl ?_ ?_ | refine mL_pt rfl rfl rfl rfl ?_ | refine mL_box rfl ?_ ?_ | refine mL_agg rfl ?_ ?_ | exact mCs_nil0 | refine mCs_d ?_ ?_ | refine mCs_nil ?_ | refine mCs_own rfl ?_ rfl ?_ | refine mCs_pt rfl rfl rfl ?_
          all_goals first | with_reducible rfl | (first | with_reducible rfl | rfl | (rw [keeperRows_length]; done) | (rw [parcelRows_length]; done))
        rintro n s ⟨i, rfl, hi, hk, rfl⟩
        refine SW.seq ?_
        refine SW.seq ?_
        refine SW.regT tabOk [1, 6, 114] ?_
        refine ai trivial (ai (by first | trivial | rfl) (ai vc (ai vc (ai trivial ?_))))
        refine SW.cond rfl (fun c114 => ?_) (fun c114 => ?_)
        · skip
          have hi2 : i < r.sent.length := by simp [noteRows_length] at c114; omega
          have hg := noteRows_getD (l := r.sent) hi2
          have hmem : r.sent.getD i .zero ∈ r.sent := mem_getD hi2
          refine SW.skip ?_
          refine SW.seq ?_
          refine SW.block ?_
          refine SW.seq ?_
          refine SW.regT tabOk [1, 6, 123] ?_
          refine ai (by first | trivial | rfl) (ai vc (ai trivial (ai (by rw [Int.toNat_natCast, hg]; exact ⟨⟨by omega, by rw [noteRows_length]; omega⟩, rfl⟩) (ai (by rw [Int.toNat_natCast, hg]; exact ⟨Nat.le_of_ble_eq_true rfl, rfl⟩) ?_))))
          refine ex_pure (s_spec_NoteOk (r.sent.getD i .zero) (hr.2.2.2.2.2.1 _ hmem)) rfl rfl rfl rfl rfl (by rw [Int.toNat_natCast, hg]; rfl) rfl rfl ?_
          refine ai trivial ?_
          refine SW.cond rfl (fun c123 => ?_) (fun c123 => ?_)
          · skip
            have hs : noteOk (r.sent.getD i .zero) = false := by simpa using c123
            refine SW.seq ?_
            refine SW.regT tabOk [2] ?_
            refine ai trivial ?_
            refine SW.ret ?_
            refine retOk1 rfl (congrArg D.b ?_)
            exact (river_bad (.inl (.inr (.inl (all_range_false hi2 hs))))).symm
          · skip
            refine SW.skip ?_
            refine SW.regT tabOk [1, 6] ?_
            refine ai trivial (ai trivial (ai trivial ?_))
            have hs : noteOk (r.sent.getD i .zero) = true := by simpa using c123
            refine wk [(.t 1, .v (.e (.c (.pt 1 0)))), (.t 6, .v (I ((i + 1) : Nat))), (.o 1, .box 52 [.d (.i r.time), .d (.sl (keeperRows r.keepers)), .d (.sl (boolRows r.links)), .d (.sl (parcelRows r.radio)), .d (.sl (noteRows r.sent)), .d (.sl (noteRows r.got))])] [] [] (⟨r.sent.length - (i + 1), by omega, i + 1, rfl, by omega, fun k h => by by_cases e : k = i; exact e ▸ hs; exact hk k (by omega), rfl⟩) ?_ rfl rfl
            repeat' first | exact trivial | refine mL_nil rfl ?_ | refine mL_d rfl ?_ ?_ | refine mL_own rfl rfl ?_ rfl ?_ | refine mL_row rfl ?_ ?_ | refine mL_pt rfl rfl rfl rfl ?_ | refine mL_box rfl ?_ ?_ | refine mL_agg rfl ?_ ?_ | exact mCs_nil0 | refine mCs_d ?_ ?_ | refine mCs_nil ?_ | refine mCs_own rfl ?_ rfl ?_ | refine mCs_pt rfl rfl rfl ?_
            all_goals first | with_reducible rfl | (first | with_reducible rfl | exact congrArg D.i (wrap64_of (by omega)))
        · skip
          have hi3 : i = r.sent.length := by simp [noteRows_length] at c114; omega
          subst hi3
          have hn1 : plainNotes r.sent = true := all_range_true hk
          clear hk hi
          refine SW.exit ?_
          refine SW.seq ?_
          refine SW.seq ?_
          refine SW.regT tabOk [1, 7] ?_
          refine ai trivial ?_
          refine SW.block ?_
          -- live at the head: [1, 7]
          refine SW.loopW (n := r.got.length) (fun m q => ∃ i : Nat, m = r.got.length - i ∧ i ≤ r.got.length ∧ (∀ k, k < i → noteOk (r.got.getD k .zero) = true) ∧ q = [(.t 1, .v (.e (.c (.pt 1 0)))), (.t 7, .v (I (i : Nat))), (.o 1, .box 52 [.d (.i r.time), .d (.sl (keeperRows r.keepers)), .d (.sl (boolRows r.links)), .d (.sl (parcelRows r.radio)), .d (.sl (noteRows r.sent)), .d (.sl (noteRows r.got))])]) ?_ ?_
          · skip
            refine wk [(.t 1, .v (.e (.c (.pt 1 0)))), (.t 7, .v (I (0 : Nat))), (.o 1, .box 52 [.d (.i r.time), .d (.sl (keeperRows r.keepers)), .d (.sl (boolRows r.links)), .d (.sl (parcelRows r.radio)), .d (.sl (noteRows r.sent)), .d (.sl (noteRows r.got))])] [] [] (⟨0, rfl, Nat.zero_le _, fun k h => absurd h (by omega), rfl⟩) ?_ rfl rfl
            repeat' first | exact trivial | refine mL_nil rfl ?_ | refine mL_d rfl ?_ ?_ | refine mL_own rfl rfl ?_ rfl ?_ | refine mL_row rfl ?_ ?_ | refine mL_pt rfl rfl rfl rfl ?_ | refine mL_box rfl ?_ ?_ | refine mL_agg rfl ?_ ?_ | exact mCs_nil0 | refine mCs_d ?_ ?_ | refine mCs_nil ?_ | refine mCs_own rfl ?_ rfl ?_ | refine mCs_pt rfl rfl rfl ?_
            all_goals first | with_reducible rfl | (first | with_reducible rfl | rfl | (rw [keeperRows_length]; done) | (rw [parcelRows_length]; done))
          rintro n s ⟨i, rfl, hi, hk, rfl⟩
          refine SW.seq ?_
          refine SW.seq ?_
          refine SW.regT tabOk [1, 7, 128] ?_
          refine ai trivial (ai (by first | trivial | rfl) (ai vc (ai vc (ai trivial ?_))))
          refine SW.cond rfl (fun c128 => ?_) (fun c128 => ?_)
          · skip
            have hi2 : i < r.got.length := by simp [noteRows_length] at c128; omega
            have hg := noteRows_getD (l := r.got) hi2
            have hmem : r.got.getD i .zero ∈ r.got := mem_getD hi2
            refine SW.skip ?_
            refine SW.seq ?_
            refine SW.block ?_
            refine SW.seq ?_
            refine SW.regT tabOk [1, 7, 137] ?_
            refine ai (by first | trivial | rfl) (ai vc (ai trivial (ai (by rw [Int.toNat_natCast, hg]; exact ⟨⟨by omega, by rw [noteRows_length]; omega⟩, rfl⟩) (ai (by rw [Int.toNat_natCast, hg]; exact ⟨Nat.le_of_ble_eq_true rfl, rfl⟩) ?_))))
            refine ex_pure (s_spec_NoteOk (r.got.getD i .zero) (hr.2.2.2.2.2.2 _ hmem)) rfl rfl rfl rfl rfl (by rw [Int.toNat_natCast, hg]; rfl) rfl rfl ?_
            refine ai trivial ?_
            refine SW.cond rfl (fun c137 => ?_) (fun c137 => ?_)
            · skip
              have hs : noteOk (r.got.getD i .zero) = false := by simpa using c137
              refine SW.seq ?_
              refine SW.regT tabOk [2] ?_
              refine ai trivial ?_
              refine SW.ret ?_
              refine retOk1 rfl (congrArg D.b ?_)
              exact (river_bad (.inl (.inr (.inr (all_range_false hi2 hs))))).symm
            · skip
              refine SW.skip ?_
              refine SW.regT tabOk [1, 7] ?_
              refine ai trivial (ai trivial (ai trivial ?_))
              have hs : noteOk (r.got.getD i .zero) = true := by simpa using c137
              refine wk [(.t 1, .v (.e (.c (.pt 1 0)))), (.t 7, .v (I ((i + 1) : Nat))), (.o 1, .box 52 [.d (.i r.time), .d (.sl (keeperRows r.keepers)), .d (.sl (boolRows r.links)), .d (.sl (parcelRows r.radio)), .d (.sl (noteRows r.sent)), .d (.sl (noteRows r.got))])] [] [] (⟨r.got.length - (i + 1), by omega, i + 1, rfl, by omega, fun k h => by by_cases e : k = i; exact e ▸ hs; exact hk k (by omega), rfl⟩) ?_ rfl rfl
              repeat' first | exact trivial | refine mL_nil rfl ?_ | refine mL_d rfl ?_ ?_ | refine mL_own rfl rfl ?_ rfl ?_ | refine mL_row rfl ?_ ?_ | refine mL_pt rfl rfl rfl rfl ?_ | refine mL_box rfl ?_ ?_ | refine mL_agg rfl ?_ ?_ | exact mCs_nil0 | refine mCs_d ?_ ?_ | refine mCs_nil ?_ | refine mCs_own rfl ?_ rfl ?_ | refine mCs_pt rfl rfl rfl ?_
              all_goals first | with_reducible rfl | (first | with_reducible rfl | exact congrArg D.i (wrap64_of (by omega)))
          · skip
            have hi3 : i = r.got.length := by simp [noteRows_length] at c128; omega
            subst hi3
            have hn2 : plainNotes r.got = true := all_range_true hk
            clear hk hi
            refine SW.exit ?_
            refine SW.seq ?_
            refine SW.regT tabOk [2] ?_
            refine ai trivial ?_
            refine SW.ret ?_
            refine retOk1 rfl (congrArg D.b ?_)
            exact (river_good hh hn1 hn2 hks hps).symm

theorem typed_boolRow {n B : Nat} {r : List D} (h : Typed tab B (n + 1) 4 r) : ∃ x : Bool, r = [D.b x] ∧ True := by
  obtain ⟨x, e⟩ := h
  exact ⟨x, e, trivial⟩
theorem typed_noteRow {n B : Nat} {r : List D} (h : Typed tab B (n + 2) 149 r) : ∃ m : NoteR, r = m.row ∧ m.text.length ≤ B := by
  obtain ⟨hl, hf⟩ := h
  match r, hl with
  | [a0, a1, a2, a3, a4], _ =>
  obtain ⟨x0, e0, w0⟩ := hf (0, 3) (by decide)
  obtain ⟨x1, e1, w1⟩ := hf (1, 3) (by decide)
  obtain ⟨x2, e2, w2⟩ := hf (2, 3) (by decide)
  obtain ⟨x3, e3, w3⟩ := hf (3, 3) (by decide)
  obtain ⟨x4, e4, w4⟩ := hf (4, 9) (by decide)
  cases e0
  cases e1
  cases e2
  cases e3
  cases e4
  exact ⟨⟨x0, x1, x2, x3, x4⟩, rfl, w4⟩
theorem typed_parcelRow {n B : Nat} {r : List D} (h : Typed tab B (n + 2) 147 r) : ∃ m : ParcelR, r = m.row ∧ True := by
  obtain ⟨hl, hf⟩ := h
  match r, hl with
  | [a0, a1, a2, a3], _ =>
  obtain ⟨x0, e0, w0⟩ := hf (0, 3) (by decide)
  obtain ⟨x1, e1, w1⟩ := hf (1, 3) (by decide)
  obtain ⟨x2, e2, w2⟩ := hf (2, 9) (by decide)
  obtain ⟨x3, e3⟩ := hf (3, 4) (by decide)
  cases e0
  cases e1
  cases e2
  cases e3
  exact ⟨⟨x0, x1, x2, x3⟩, rfl, trivial⟩
theorem typed_river {B : Nat} {ds : List D} (h : Typed tab B 8 45 ds) : ∃ r : RiverR, ds = r.row ∧ RVq B r := by
  obtain ⟨hl, hf⟩ := h
  match ds, hl with
  | [a0, a1, a2, a3, a4, a5], _ =>
  obtain ⟨x0, e0, w0⟩ := hf (0, 3) (by decide)
  obtain ⟨r1, e1, w1, h1⟩ := hf (1, 40) (by decide)
  obtain ⟨r2, e2, w2, h2⟩ := hf (2, 41) (by decide)
  obtain ⟨r3, e3, w3, h3⟩ := hf (3, 42) (by decide)
  obtain ⟨r4, e4, w4, h4⟩ := hf (4, 43) (by decide)
  obtain ⟨r5, e5, w5, h5⟩ := hf (5, 43) (by decide)
  cases e0
  cases e1
  cases e2
  cases e3
  cases e4
  cases e5
  obtain ⟨l1, rfl, q1⟩ := exists_map (f := KeeperR.row) fun r hr => typed_keeper (h1 r hr)
  obtain ⟨l2, rfl, _⟩ := exists_map (f := fun x : Bool => [D.b x]) fun r hr => typed_boolRow (h2 r hr)
  obtain ⟨l3, rfl, _⟩ := exists_map (f := ParcelR.row) fun r hr => typed_parcelRow (h3 r hr)
  obtain ⟨l4, rfl, q4⟩ := exists_map (f := NoteR.row) fun r hr => typed_noteRow (h4 r hr)
  obtain ⟨l5, rfl, q5⟩ := exists_map (f := NoteR.row) fun r hr => typed_noteRow (h5 r hr)
  have w1 : (l1.map KeeperR.row).length * 64 ≤ B := w1
  have w2 : (l2.map fun x : Bool => [D.b x]).length * 1 ≤ B := w2
  have w3 : (l3.map ParcelR.row).length * 40 ≤ B := w3
  have w4 : (l4.map NoteR.row).length * 48 ≤ B := w4
  have w5 : (l5.map NoteR.row).length * 48 ≤ B := w5
  refine ⟨⟨x0, l1, l2, l3, l4, l5⟩, rfl, ⟨by simpa using w1, q1⟩, by simpa using w2, by simpa using w3, by simpa using w4, by simpa using w5, q4, q5⟩
set_option maxHeartbeats 1600000 in
theorem s_laws_FnExactRiverOk (r : RiverR) (hr : RVB r) : Ab.Spec Tryz.prog 4 1 [(.t 0, .v (r.V))] [(.t 0, .v (B true))] := by
  refine spec_of_body tabOk Tryz.func4 rfl (by kernel_rfl) (by decide) (by kernel_rfl) rfl ?_
  refine SW.seq ?_
  refine SW.regT tabOk [1] ?_
  refine ai trivial (ai trivial ?_)
  refine SW.seq ?_
  refine SW.regT tabOk [1, 3] ?_
  refine ai trivial ?_
  refine SW.seq ?_
  refine SW.regE tabOk [1, 3] ?_
  refine ai vc (ai trivial ?_)
  refine ee_call (rl := []) (bor := []) (news := []) (robj := []) (s_laws_szRiver r _ hr) rfl rfl rfl rfl (match_plain rfl) (fun σ hσ => by obtain ⟨r, rfl⟩ := hσ; exact ⟨rfl, .inl rfl, fun j hj => by simp [newIds, objIds] at hj⟩) (fun p hp => nomatch hp) (fun j hj => nomatch hj) ?_
  rintro σ ⟨x6, rfl⟩
  refine ai trivial ?_
  refine SW.seq ?_
  refine SW.seq ?_
  refine SW.regT tabOk [1, 11] ?_
  refine ai trivial (ai trivial ?_)
  refine SW.cond rfl (fun c11 => ?_) (fun c11 => ?_)
  · skip
    refine SW.seq ?_
    refine SW.regT tabOk [2] ?_
    refine ai trivial ?_
    refine SW.ret ?_
    refine retOk1 rfl (congrArg D.b ?_)
    first | rfl | (simp at *; done)
  · skip
    refine SW.skip ?_
    refine SW.seq ?_
    refine SW.regT tabOk [1, 4] ?_
    refine ai vc ?_
    refine ex_pure (s_laws_toRiver r hr) rfl rfl rfl rfl rfl rfl rfl rfl ?_
    refine ex_pure (s_spec_RiverOk r hr) rfl rfl rfl rfl rfl rfl rfl rfl ?_
    refine ai trivial ?_
    refine SW.seq ?_
    refine SW.regT tabOk [1, 4, 5] ?_
    refine ai vc ?_
    refine ex_pure (s_laws_toRiver r hr) rfl rfl rfl rfl rfl rfl rfl rfl ?_
    refine ai trivial (ai ⟨by kernel_rfl, Nat.le_of_ble_eq_true (by kernel_rfl)⟩ ?_)
    refine SW.seq ?_
    refine SW.regT tabOk [1, 4, 5, 6] ?_
    refine ai vc ?_
    refine ex_pure (s_impl_RiverOk r hr) rfl rfl rfl rfl rfl rfl rfl rfl ?_
    refine ai trivial ?_
    refine SW.seq ?_
    refine SW.seq ?_
    refine SW.regT tabOk [1, 5, 21] ?_
    refine ai trivial (ai trivial (ai trivial ?_))
    refine SW.cond rfl (fun c21 => ?_) (fun c21 => ?_)
    · skip
      refine SW.seq ?_
      refine SW.regT tabOk [2] ?_
      refine ai trivial ?_
      refine SW.ret ?_
      refine retOk1 rfl (congrArg D.b ?_)
      first | rfl | (simp at *; done)
    · skip
      refine SW.skip ?_
      refine SW.seq ?_
      refine SW.seq ?_
      refine SW.regD tabOk mo [26] ?_
      refine ai vc (ai vc ?_)
      refine ex_pure (s_laws_toRiver r hr) rfl rfl rfl rfl rfl rfl rfl rfl ?_
      refine ex_pure (s_laws_eqRiver r r hr) rfl rfl rfl rfl rfl rfl rfl rfl ?_
      refine ai trivial (ai (by kernel_rfl) ?_)
      refine SW.cond rfl (fun c26 => ?_) (fun c26 => ?_)
      · skip
        refine SW.seq ?_
        refine SW.regT tabOk [2] ?_
        refine ai trivial ?_
        refine SW.ret ?_
        refine retOk1 rfl (congrArg D.b ?_)
        first | rfl | (simp at *; done)
      · skip
        refine SW.skip ?_
        refine SW.seq ?_
        refine SW.regT tabOk [2] ?_
        refine ai trivial ?_
        refine SW.ret ?_
        refine retOk1 rfl (congrArg D.b ?_)
        first | rfl | (simp at *; done)

end Go.Proofs.YtilahgkblckndaaGreatDoor

namespace Go.Ab
open Go Go.RowKit
set_option linter.unusedVariables false

theorem var_fr {P : Program} {w w' : World} {name : String} {cs : Array Value} (h : w.var? P name = some cs) (hf : Fr (fun _ => False) w w') : w'.var? P name = some cs := by
  unfold World.var? at h ⊢
  cases hg : P.globalNamed name with
  | none => rw [hg] at h; cases h
  | some g =>
    rw [hg] at h
    simp only [Option.bind_some] at h ⊢
    cases hh : w.heap[g]? with
    | none => rw [hh] at h; cases h
    | some o =>
      have hlt : g < w.heap.size := (Array.getElem?_eq_some_iff.1 hh).1
      rw [hf.block g hlt (fun h => h), hh]
      rw [hh] at h
      exact h
theorem var_one {P : Program} {w : World} {name : String} {g : Nat} {cs : Array Value} {t : TypeId} {v : Value} (hg : P.globalNamed name = some g) (hh : w.heap[g]? = some (.cells cs t)) (hs : cs.size = 1) (hc : w.cell? ⟨g, 0, none⟩ = some v) : w.var? P name = some #[v] := by
  have e : cs = #[v] := by
    have h1 : w.cell? ⟨g, 0, none⟩ = cs[0]? := by rw [cell_of_row w g 0 cs t (0, 0) hh]
    rw [hc] at h1
    apply Array.ext
    · simpa using hs
    · intro i h2 h3
      have : i = 0 := by have : i < 1 := by simpa using h3
                         omega
      subst this
      rw [Array.getElem?_eq_getElem h2] at h1
      exact (Option.some.inj h1).symm
  subst e
  unfold World.var?
  rw [hg]
  simp only [Option.bind_some]
  rw [hh]
theorem gb_of {P : Program} {w : World} (h1 : Lib.TabIs P w "internal/strconv.uint64pow10" .u64 Lib.pow10Tab) (h2 : ∃ m, w.var? P "internal/bytealg.MaxLen" = some #[.int .i64 m]) : GB P w fun _ => False := fun w' hf => ⟨var_fr h1 hf, h2.imp fun m hm => var_fr hm hf⟩
end Go.Ab

