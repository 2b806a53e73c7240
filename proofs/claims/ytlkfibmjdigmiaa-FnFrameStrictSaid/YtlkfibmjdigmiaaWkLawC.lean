import Derived.Test.YtlkfibmjdigmiaaTab
import Derived.Test.YtlkfibmjdigmiaaWkLawB
import Derived.Test.YtlkfibmjdigmiaaAbDm
import Derived.Test.YtlkfibmjdigmiaaAbBr
namespace Go.Proofs.Ytlkfibmjdigmiaa
open Go Go.Ab Go.RowKit
set_option linter.unusedVariables false
set_option linter.unusedSimpArgs false

set_option maxHeartbeats 800000 in
theorem s_spec_DrawFrameUnpack (l : List UInt8) (hl : l.length ≤ 140737488355328) : Ab.SpecE Try.prog 17 1 [(.t 0, .v (Dv (.sl (bytesRows l))))] (fun s => ∃ b : List UInt8, b.length ≤ 18 ∧ s = [(.t 0, .v (Dv (.sl (bytesRows b))))]) := by
  have hl2 : (l.take 2000).length ≤ 2000 := by simp; omega
  refine specE_of_body tabOk Try.func17 rfl (by kernel_rfl) (by decide) (by kernel_rfl) rfl ?_
  refine SW.seq ?_
  refine SW.regT tabOk [0, 15, 16, 17, 28, 29, 30] ?_
  refine And.intro trivial ?_
  refine SW.seq ?_
  refine SW.regT tabOk [3, 15, 16, 17, 28, 29, 30] ?_
  refine And.intro trivial ?_
  refine ex_callP [(0, 8)] (s_spec_l6Open l hl) rfl rfl rfl rfl rfl rfl rfl (fun j hj => by (obtain rfl : j = 0 := by simpa [newIds, objIds, memN] using hj); rfl) ?_
  refine And.intro trivial ?_
  refine SW.seq ?_
  refine SW.regE tabOk [3, 4, 15, 16, 17, 28, 29, 30] ?_
  refine And.intro trivial ?_
  refine ee_call (robj := [(8, .box 50 [.d (.sl (bytesRows (l.take 2000))), .d (.i (0))])]) (rl := [(0, 8)]) (bor := []) (news := []) (s_spec_l72Frame (l.take 2000) 0 (by omega) hl2) rfl rfl rfl rfl ⟨mL_pt rfl rfl rfl rfl (mL_box rfl (mCs_d rfl (mCs_d rfl mCs_nil0)) trivial), rfl⟩ (by rintro _ ⟨z0, z1, z2, z3, z4, z5, z6, z7, z8, zd, q, hq, rfl⟩; exact ⟨rfl, .inl rfl, fun j hj => nomatch hj⟩) (robjOk_spec ⟨rfl, trivial⟩) (fun j hj => nomatch hj) ?_
  rintro _ ⟨z0, z1, z2, z3, z4, z5, z6, z7, z8, zd, q, hq, rfl⟩
  refine es_same ?_
  refine ex_callP [(0, 11)] (s_spec_FramePack (FrameR.mk z0 z1 z2 z3 z4 z5 z6 z7 z8 zd)) rfl rfl rfl rfl rfl rfl rfl (fun j hj => by (obtain rfl : j = 0 := by simpa [newIds, objIds, memN] using hj); rfl) ?_
  refine And.intro trivial ?_
  refine SW.seq ?_
  refine SW.seq ?_
  refine SW.regT tabOk [3, 4, 5, 15, 16, 17, 28, 29, 30] ?_
  refine And.intro trivial ?_
  refine SW.block ?_
  -- live at the head: [3, 4, 5, 15, 16, 17, 28, 29, 30]
  have hpl := framePack_len (FrameR.mk z0 z1 z2 z3 z4 z5 z6 z7 z8 zd)
  refine SW.loopW (n := 5) (fun m s => ∃ (k p : Int) (b : List UInt8), m = (5 - k).toNat ∧ (0 ≤ k ∧ k ≤ 5 ∧ 0 ≤ p ∧ p ≤ 100 * (k + 1) ∧ b.length ≤ 17) ∧ s = [(.t 3, .v (.e (.c (.pt 8 0)))), (.t 4, .v (.e (.c (.own 11 (b).length)))), (.t 5, .v (I (k))), (.o 8, .box 50 [.d (.sl (bytesRows (l.take 2000))), .d (.i (p))]), (.o 11, .row 5 1 (bytesRows (b)))]) ?_ ?_
  · skip
    refine wk [(.t 3, .v (.e (.c (.pt 8 0)))), (.t 4, .v (.e (.c (.own 11 (framePack (FrameR.mk z0 z1 z2 z3 z4 z5 z6 z7 z8 zd)).length)))), (.t 5, .v (I (0))), (.o 8, .box 50 [.d (.sl (bytesRows (l.take 2000))), .d (.i (q))]), (.o 11, .row 5 1 (bytesRows (framePack (FrameR.mk z0 z1 z2 z3 z4 z5 z6 z7 z8 zd))))] [] [] (⟨0, q, framePack (FrameR.mk z0 z1 z2 z3 z4 z5 z6 z7 z8 zd), by omega, ⟨by omega, by omega, by omega, by omega, hpl⟩, rfl⟩) ?_ rfl rfl
    repeat' first | exact trivial | refine mL_nil rfl ?_ | refine mL_d rfl ?_ ?_ | refine mL_own rfl rfl ?_ rfl ?_ | refine mL_row rfl ?_ ?_ | refine mL_pt rfl rfl rfl rfl ?_ | refine mL_box rfl ?_ ?_ | refine mL_agg rfl ?_ ?_ | exact mCs_nil0 | refine mCs_d ?_ ?_ | refine mCs_nil ?_ | refine mCs_own rfl ?_ rfl ?_ | refine mCs_pt rfl rfl rfl ?_
    all_goals first | with_reducible rfl | (first | rfl | (simp; done) | omega)
  rintro n s ⟨k, p, b, rfl, hk, rfl⟩
  refine SW.seq ?_
  refine SW.seq ?_
  refine SW.regT tabOk [3, 4, 5, 15, 16, 17, 18, 28, 29, 30] ?_
  refine And.intro trivial (And.intro trivial (And.intro trivial (And.intro (fun h => trivial) (And.intro (by intro h; (repeat' apply And.intro) <;> first | exact h | trivial) (And.intro (fun h => (bytesRows_length _)) (And.intro (by intro h; (repeat' apply And.intro) <;> first | exact h | trivial) (And.intro (fun h => trivial) (And.intro (by intro h; (repeat' apply And.intro) <;> first | exact h | trivial) (And.intro (by constructor <;> intro h <;> first | trivial | exact h | (simp [gb, condOf]; done) | (simpa [gb, condOf] using h) | (simp only [gb, condOf] at *; grind) | (simp_all [gb, condOf]; done)) ?_)))))))))
  refine SW.cond rfl (fun c18 => ?_) (fun c18 => ?_)
  · skip
    have hk5 : k < 5 := by
      have h9 := c18
      simp only [Bool.and_eq_true, decide_eq_true_eq] at h9
      exact h9.1
    refine SW.skip ?_
    refine SW.seq ?_
    refine SW.block ?_
    refine SW.regE tabOk [3, 4, 5, 15, 16, 17, 28, 29, 30] ?_
    refine And.intro trivial ?_
    refine ee_call (robj := [(8, .box 50 [.d (.sl (bytesRows (l.take 2000))), .d (.i (p))])]) (rl := [(0, 8)]) (bor := []) (news := []) (s_spec_l72Frame (l.take 2000) p (by omega) hl2) rfl rfl rfl rfl ⟨mL_pt rfl rfl rfl rfl (mL_box rfl (mCs_d rfl (mCs_d rfl mCs_nil0)) trivial), rfl⟩ (by rintro _ ⟨z0, z1, z2, z3, z4, z5, z6, z7, z8, zd, q, hq, rfl⟩; exact ⟨rfl, .inl rfl, fun j hj => nomatch hj⟩) (robjOk_spec ⟨rfl, trivial⟩) (fun j hj => nomatch hj) ?_
    rintro _ ⟨z0, z1, z2, z3, z4, z5, z6, z7, z8, zd, q, hq, rfl⟩
    refine es_same ?_
    refine ex_callP [(0, 23)] (s_spec_FramePack (FrameR.mk z0 z1 z2 z3 z4 z5 z6 z7 z8 zd)) rfl rfl rfl rfl rfl rfl rfl (fun j hj => by (obtain rfl : j = 0 := by simpa [newIds, objIds, memN] using hj); rfl) ?_
    refine And.intro trivial ?_
    refine SW.regT tabOk [3, 4, 5, 15, 16, 17, 28, 29, 30] ?_
    refine And.intro trivial (And.intro trivial (And.intro trivial ?_))
    have hpl := framePack_len (FrameR.mk z0 z1 z2 z3 z4 z5 z6 z7 z8 zd)
    refine wk [(.t 3, .v (.e (.c (.pt 8 0)))), (.t 4, .v (.e (.c (.own 11 (framePack (FrameR.mk z0 z1 z2 z3 z4 z5 z6 z7 z8 zd)).length)))), (.t 5, .v (I (k + 1))), (.o 8, .box 50 [.d (.sl (bytesRows (l.take 2000))), .d (.i (q))]), (.o 11, .row 5 1 (bytesRows (framePack (FrameR.mk z0 z1 z2 z3 z4 z5 z6 z7 z8 zd))))] [(11, 23)] [] (⟨(5 - (k + 1)).toNat, by omega, k + 1, q, framePack (FrameR.mk z0 z1 z2 z3 z4 z5 z6 z7 z8 zd), rfl, ⟨by omega, by omega, by omega, by omega, hpl⟩, rfl⟩) ?_ rfl rfl
    repeat' first | exact trivial | refine mL_nil rfl ?_ | refine mL_d rfl ?_ ?_ | refine mL_own rfl rfl ?_ rfl ?_ | refine mL_row rfl ?_ ?_ | refine mL_pt rfl rfl rfl rfl ?_ | refine mL_box rfl ?_ ?_ | refine mL_agg rfl ?_ ?_ | exact mCs_nil0 | refine mCs_d ?_ ?_ | refine mCs_nil ?_ | refine mCs_own rfl ?_ rfl ?_ | refine mCs_pt rfl rfl rfl ?_
    all_goals first | with_reducible rfl | (exact congrArg D.i (wrap64_of (by omega)))
  · skip
    refine SW.exit ?_
    refine SW.seq ?_
    refine SW.midW (fun s => ∃ (c : Bool) (p2 : Int), (p ≤ p2 ∧ p2 ≤ p + 1 ∧ (c = false → b.length ≠ 0)) ∧ s = [(.t 3, .v (.e (.c (.pt 8 0)))), (.t 4, .v (.e (.c (.own 11 (b).length)))), (.t 31, .v (B c)), (.o 8, .box 50 [.d (.sl (bytesRows (l.take 2000))), .d (.i (p2))]), (.o 11, .row 5 1 (bytesRows (b)))]) ?_ ?_
    · skip
      have hbl := bytesRows_length b
      refine SW.regF tabOk [3, 4, 31] ?_
      refine And.intro trivial (And.intro hbl (And.intro trivial (And.intro trivial (And.intro (fun h1 => ?_) (fun h1 => ?_)))))
      · have hx : b.length ≠ 0 := by
          intro e; rw [e] at h1; cases h1
        refine And.intro trivial (And.intro (fun h2 => ?_) (fun h2 => absurd h2 (by rw [h1]; simp)))
        refine es_same ?_
        refine ex_call (robj := [(8, .box 50 [.d (.sl (bytesRows (l.take 2000))), .d (.i (p))])]) (rl := [(0, 8)]) (bor := []) (s_pick (l.take 2000) (p) _ (by omega) hl2) rfl rfl rfl rfl ⟨mL_pt rfl rfl rfl rfl (mL_d rfl rfl (mL_box rfl (mCs_d rfl (mCs_d rfl mCs_nil0)) trivial)), rfl⟩ rfl (.inl rfl) (robjOk_spec ⟨rfl, trivial⟩) (fun _ hj => nomatch hj) ?_
        refine And.intro (fun h3 => ?_) (fun h3 => absurd h3 (by rw [h1]; simp))
        refine And.intro trivial (And.intro (by constructor <;> intro h <;> first | trivial | exact h | (simp [gb, condOf]; done) | (simpa [gb, condOf] using h) | (simp only [gb, condOf] at *; grind) | (simp_all [gb, condOf]; done)) ?_)
        refine wk [(.t 3, .v (.e (.c (.pt 8 0)))), (.t 4, .v (.e (.c (.own 11 (b).length)))), (.t 31, .v (B ?c1)), (.o 8, .box 50 [.d (.sl (bytesRows (l.take 2000))), .d (.i (p + 1))]), (.o 11, .row 5 1 (bytesRows (b)))] [] [] ⟨?c1, p + 1, ⟨by omega, by omega, fun _ => hx⟩, rfl⟩ ?_ rfl rfl
        repeat' first | exact trivial | refine mL_nil rfl ?_ | refine mL_d rfl ?_ ?_ | refine mL_own rfl rfl ?_ rfl ?_ | refine mL_row rfl ?_ ?_ | refine mL_pt rfl rfl rfl rfl ?_ | refine mL_box rfl ?_ ?_ | refine mL_agg rfl ?_ ?_ | exact mCs_nil0 | refine mCs_d ?_ ?_ | refine mCs_nil ?_ | refine mCs_own rfl ?_ rfl ?_ | refine mCs_pt rfl rfl rfl ?_
        any_goals rfl
      · have hx : ((b.length : Int) == 0) = true := by
          cases hq : ((b.length : Int) == 0) with
          | true => rfl
          | false => rw [hq] at h1; cases h1
        refine ⟨I 0, ?_⟩
        refine And.intro (fun h2 => absurd h2 (by rw [h1]; simp)) (fun h2 => ⟨I 0, ?_⟩)
        refine And.intro (fun h3 => absurd h3 (by rw [h1]; simp)) (fun h3 => ⟨B false, ?_⟩)
        refine And.intro ⟨fun _ => trivial, fun h => absurd h (by rw [hx]; simp)⟩ ?_
        refine wk [(.t 3, .v (.e (.c (.pt 8 0)))), (.t 4, .v (.e (.c (.own 11 (b).length)))), (.t 31, .v (B true)), (.o 8, .box 50 [.d (.sl (bytesRows (l.take 2000))), .d (.i (p))]), (.o 11, .row 5 1 (bytesRows (b)))] [] [] ⟨true, p, ⟨by omega, by omega, fun h => by cases h⟩, rfl⟩ ?_ rfl rfl
        repeat' first | exact trivial | refine mL_nil rfl ?_ | refine mL_d rfl ?_ ?_ | refine mL_own rfl rfl ?_ rfl ?_ | refine mL_row rfl ?_ ?_ | refine mL_pt rfl rfl rfl rfl ?_ | refine mL_box rfl ?_ ?_ | refine mL_agg rfl ?_ ?_ | exact mCs_nil0 | refine mCs_d ?_ ?_ | refine mCs_nil ?_ | refine mCs_own rfl ?_ rfl ?_ | refine mCs_pt rfl rfl rfl ?_
        all_goals first | with_reducible rfl | (rw [hx]; rfl)
    · rintro s ⟨c, p2, hp2, rfl⟩
      refine SW.cond rfl (fun c31 => ?_) (fun c31 => ?_)
      · skip
        refine SW.seq ?_
        refine SW.regT tabOk [2] ?_
        refine And.intro trivial (And.intro trivial ?_)
        refine SW.ret ?_
        exact retQE _ ⟨b, by omega, rfl⟩ (retOk _ [] [11] rfl (mL_froze rfl rfl rfl (bytesRows_length _) rfl trivial) rfl rfl)
      · skip
        have hne := hp2.2.2 (by simpa using c31)
        have hbl := bytesRows_length b
        have hv := pickV_range (l.take 2000) (p := p2) (n := (b.length : Int)) (by omega) (by omega)
        have hgb := bytesRows_getD (l := b) (i := (pickV (l.take 2000) p2 (b.length : Int)).toNat) (by omega)
        refine SW.skip ?_
        refine SW.seq ?_
        refine SW.regT tabOk [3, 4, 6] ?_
        refine And.intro trivial (And.intro trivial (And.intro (bytesRows_length _) ?_))
        refine ex_call (robj := [(8, .box 50 [.d (.sl (bytesRows (l.take 2000))), .d (.i (p2))])]) (rl := [(0, 8)]) (bor := []) (s_pick (l.take 2000) (p2) _ (by omega) hl2) rfl rfl rfl rfl ⟨mL_pt rfl rfl rfl rfl (mL_d rfl rfl (mL_box rfl (mCs_d rfl (mCs_d rfl mCs_nil0)) trivial)), rfl⟩ rfl (.inl rfl) (robjOk_spec ⟨rfl, trivial⟩) (fun _ hj => nomatch hj) ?_
        refine And.intro trivial ?_
        refine SW.seq ?_
        refine SW.seq ?_
        refine SW.regT tabOk [3, 4, 6, 38] ?_
        refine And.intro trivial ?_
        refine ex_call (robj := [(8, .box 50 [.d (.sl (bytesRows (l.take 2000))), .d (.i (p2 + 1))])]) (rl := [(0, 8)]) (bor := []) (s_pick (l.take 2000) (p2 + 1) _ (by omega) hl2) rfl rfl rfl rfl ⟨mL_pt rfl rfl rfl rfl (mL_d rfl rfl (mL_box rfl (mCs_d rfl (mCs_d rfl mCs_nil0)) trivial)), rfl⟩ rfl (.inl rfl) (robjOk_spec ⟨rfl, trivial⟩) (fun _ hj => nomatch hj) ?_
        refine SW.block ?_
        refine SW.seq ?_
        refine SW.regT tabOk [3, 4, 6, 38, 39] ?_
        refine And.intro trivial (And.intro trivial ?_)
        refine SW.cond rfl (fun c39 => ?_) (fun c39 => ?_)
        · skip
          refine SW.seq ?_
          refine SW.frz 4 11 rfl rfl (bytesRows_length _) rfl ?_
          refine SW.regT tabOk [2] ?_
          refine And.intro trivial (And.intro trivial (And.intro (by refine ⟨by simp [bnd, loOf, hiOf, bytesRows_length]; omega, bytesRows_len1 _⟩) (And.intro trivial ?_)))
          refine SW.ret ?_
          exact retQE _ ⟨b.take (pickV (l.take 2000) p2 (b.length : Int)).toNat, by rw [List.length_take]; omega, rfl⟩ (retOk _ [] [] rfl (mL_d rfl (congrArg D.sl (bytesRows_cut b 0 _)) trivial) rfl rfl)
        · skip
          refine SW.seq ?_
          refine SW.regT tabOk [3, 4, 6, 44] ?_
          refine And.intro trivial (And.intro trivial ?_)
          refine SW.cond rfl (fun c44 => ?_) (fun c44 => ?_)
          · skip
            refine SW.seq ?_
            refine SW.regT tabOk [4] ?_
            refine And.intro trivial (And.intro trivial (And.intro trivial ?_))
            refine ex_call (robj := [(8, .box 50 [.d (.sl (bytesRows (l.take 2000))), .d (.i (p2 + 1 + 1))])]) (rl := [(0, 8)]) (bor := []) (s_pick (l.take 2000) (p2 + 1 + 1) _ (by omega) hl2) rfl rfl rfl rfl ⟨mL_pt rfl rfl rfl rfl (mL_d rfl rfl (mL_box rfl (mCs_d rfl (mCs_d rfl mCs_nil0)) trivial)), rfl⟩ rfl (.inl rfl) (robjOk_spec ⟨rfl, trivial⟩) (fun _ hj => nomatch hj) ?_
            refine And.intro (by first | trivial | rfl) (And.intro (oixB hv.1 hv.2 rfl) (And.intro (by rw [hgb]; exact ⟨by omega, by omega, rfl, Nat.le_refl _⟩) ?_))
            refine SW.seq ?_
            refine SW.regT tabOk [2] ?_
            refine And.intro trivial (And.intro trivial ?_)
            refine SW.ret ?_
            exact retQE _ ⟨b.set (pickV (l.take 2000) p2 (b.length : Int)).toNat (u8 (wrap8 (pickV (l.take 2000) (p2 + 1 + 1) 256))), by rw [List.length_set]; omega, rfl⟩ (retOk _ [] [11] rfl (mL_froze rfl rfl rfl (by rw [List.length_set, bytesRows_length]) (congrArg D.sl (rows_set (by omega) (wrap8_wrap8 _)).symm) trivial) rfl rfl)
          · skip
            refine SW.skip ?_
            refine SW.seq ?_
            refine SW.regT tabOk [2] ?_
            refine And.intro trivial (And.intro (by first | trivial | exact Nat.le_of_ble_eq_true rfl | exact ⟨rfl, Nat.le_of_ble_eq_true rfl⟩ | omega | ((repeat' apply And.intro) <;> first | trivial | rfl | exact Nat.le_of_ble_eq_true rfl | omega) | (simp; done) | (simp; omega)) (And.intro (by refine ⟨rfl, bytesRows_length _, by simp, ?_⟩; show (_ + 1) * 1 ≤ _; omega) (And.intro trivial ?_)))
            refine SW.ret ?_
            exact retQE _ ⟨b ++ [0], by simp; omega, rfl⟩ (retOk _ [] [11] rfl (mL_froze rfl rfl rfl (by simp [bytesRows_length]) (congrArg D.sl (bytesRows_append b [0]).symm) trivial) rfl rfl)

set_option maxHeartbeats 800000 in
theorem s_laws_FnFrameStrict (l : List UInt8) (hl : l.length ≤ 140737488355328) : Ab.Spec Try.prog 8 1 [(.t 0, .v (Dv (.sl (bytesRows l))))] [(.t 0, .v (B true))] := by
  refine spec_of_body tabOk Try.func8 rfl (by kernel_rfl) (by decide) (by kernel_rfl) rfl ?_
  refine SW.seq ?_
  refine SW.regT tabOk [0, 27, 28, 29, 34, 35, 36, 39, 40, 41, 42, 43, 44, 45, 46, 47, 48, 49, 50, 51] ?_
  refine And.intro trivial ?_
  refine SW.seq ?_
  refine SW.seq ?_
  refine SW.regT tabOk [0, 10, 27, 28, 29, 34, 35, 36, 39, 40, 41, 42, 43, 44, 45, 46, 47, 48, 49, 50, 51] ?_
  refine And.intro trivial (And.intro (by first | trivial | exact Nat.le_of_ble_eq_true rfl | exact ⟨rfl, Nat.le_of_ble_eq_true rfl⟩ | omega | ((repeat' apply And.intro) <;> first | trivial | rfl | exact Nat.le_of_ble_eq_true rfl | omega) | (simp; done) | (simp; omega)) (And.intro trivial ?_))
  refine SW.cond rfl (fun c10 => ?_) (fun c10 => ?_)
  · skip
    refine SW.seq ?_
    refine SW.regT tabOk [2] ?_
    refine And.intro trivial ?_
    refine SW.ret ?_
    refine retOk1 rfl ?_
    rfl
  · skip
    refine SW.skip ?_
    refine SW.seq ?_
    refine SW.regE tabOk [3, 27, 28, 29, 34, 35, 36, 39, 40, 41, 42, 43, 44, 45, 46, 47, 48, 49, 50, 51] ?_
    refine And.intro trivial ?_
    refine ee_call (robj := []) (rl := []) (bor := []) (news := []) (s_spec_DrawFrameUnpack l hl) rfl rfl rfl rfl ⟨mL_d rfl rfl (trivial), rfl⟩ (by rintro _ ⟨b, hb, rfl⟩; exact ⟨rfl, .inl rfl, fun j hj => nomatch hj⟩) (fun p hp => nomatch hp) (fun j hj => nomatch hj) ?_
    rintro _ ⟨b, hb, rfl⟩
    refine And.intro trivial ?_
    refine SW.seq ?_
    refine SW.regT tabOk [3, 4, 5, 27, 28, 29, 34, 35, 36, 39, 40, 41, 42, 43, 44, 45, 46, 47, 48, 49, 50, 51] ?_
    refine And.intro trivial ?_
    refine ex_pure (s_spec_FrameUnpack _) rfl rfl rfl rfl rfl rfl rfl rfl ?_
    refine And.intro trivial (And.intro trivial (And.intro trivial (And.intro trivial (And.intro ⟨by kernel_rfl, Nat.le_of_ble_eq_true (by kernel_rfl)⟩ (And.intro trivial ?_)))))
    refine SW.seq ?_
    refine SW.regT tabOk [3, 4, 5, 6, 7, 27, 28, 29, 34, 35, 36, 39, 40, 41, 42, 43, 44, 45, 46, 47, 48, 49, 50, 51] ?_
    refine And.intro trivial ?_
    refine ex_pure (s_impl_FrameUnpack _) rfl rfl rfl rfl rfl rfl rfl rfl ?_
    refine And.intro trivial (And.intro trivial (And.intro trivial (And.intro trivial (And.intro ⟨by kernel_rfl, Nat.le_of_ble_eq_true (by kernel_rfl)⟩ (And.intro trivial ?_)))))
    refine SW.seq ?_
    refine SW.seq ?_
    refine SW.regT tabOk [3, 6, 7, 30, 34, 35, 36, 39, 40, 41, 42, 43, 44, 45, 46, 47, 48, 49, 50, 51] ?_
    refine And.intro trivial (And.intro trivial (And.intro trivial (And.intro trivial (And.intro (fun h => (by first | trivial | exact Nat.le_of_ble_eq_true rfl | exact ⟨rfl, Nat.le_of_ble_eq_true rfl⟩ | omega | ((repeat' apply And.intro) <;> first | trivial | rfl | exact Nat.le_of_ble_eq_true rfl | omega) | (simp; done) | (simp; omega))) (And.intro (by intro h; (repeat' apply And.intro) <;> first | exact h | trivial) (And.intro (fun h => (by first | trivial | exact Nat.le_of_ble_eq_true rfl | exact ⟨rfl, Nat.le_of_ble_eq_true rfl⟩ | omega | ((repeat' apply And.intro) <;> first | trivial | rfl | exact Nat.le_of_ble_eq_true rfl | omega) | (simp; done) | (simp; omega))) (And.intro (by intro h; (repeat' apply And.intro) <;> first | exact h | trivial) ?_)))))))
    refine exc_eqS tabOk (unpackF b).row (unpackF b).row rfl rfl rfl (by kernel_rfl) (by kernel_rfl) (by kernel_rfl) rfl rfl rfl (by intro h; (repeat' apply And.intro) <;> first | exact h | trivial) ?_
    refine And.intro (by constructor <;> intro h <;> first | trivial | exact h | (simp [gb, condOf]; done) | (simpa [gb, condOf] using h) | (simp only [gb, condOf] at *; grind) | (simp_all [gb, condOf]; done)) ?_
    refine SW.cond rfl (fun c30 => ?_) (fun c30 => ?_)
    · skip
      have h9 : eqDs (unpackF b).row (unpackF b).row = true := by simp [eqDs, eqD, FrameR.row]
      rw [h9] at c30
      simp [gb] at c30
    · skip
      refine SW.skip ?_
      refine SW.seq ?_
      refine SW.regD tabOk mo [2] ?_
      refine And.intro trivial (And.intro trivial (And.intro trivial (And.intro (fun h => (by first | trivial | exact Nat.le_of_ble_eq_true rfl | exact ⟨rfl, Nat.le_of_ble_eq_true rfl⟩ | omega | ((repeat' apply And.intro) <;> first | trivial | rfl | exact Nat.le_of_ble_eq_true rfl | omega) | (simp; done) | (simp; omega))) (And.intro (by intro h; (repeat' apply And.intro) <;> first | exact h | trivial) (And.intro (fun h => (by first | trivial | exact Nat.le_of_ble_eq_true rfl | exact ⟨rfl, Nat.le_of_ble_eq_true rfl⟩ | omega | ((repeat' apply And.intro) <;> first | trivial | rfl | exact Nat.le_of_ble_eq_true rfl | omega) | (simp; done) | (simp; omega))) (And.intro (by intro h; (repeat' apply And.intro) <;> first | exact h | trivial) ?_))))))
      refine exc_eqS tabOk (unpackF b).row zeroFrame.row rfl rfl rfl (by kernel_rfl) (by kernel_rfl) (by kernel_rfl) rfl rfl rfl (by intro h; (repeat' apply And.intro) <;> first | exact h | trivial) ?_
      refine And.intro (by constructor <;> intro h <;> first | trivial | exact h | (simp [gb, condOf]; done) | (simpa [gb, condOf] using h) | (simp only [gb, condOf] at *; grind) | (simp_all [gb, condOf]; done)) (And.intro trivial (And.intro (fun h => trivial) (And.intro (by intro h; (repeat' apply And.intro) <;> first | exact h | trivial) (And.intro (fun h => trivial) (And.intro (by intro h; (repeat' apply And.intro) <;> first | exact h | trivial) (And.intro (fun h => (by first | trivial | exact Nat.le_of_ble_eq_true rfl | exact ⟨rfl, Nat.le_of_ble_eq_true rfl⟩ | omega | ((repeat' apply And.intro) <;> first | trivial | rfl | exact Nat.le_of_ble_eq_true rfl | omega) | (simp; done) | (simp; omega))) (And.intro (by intro h; (repeat' apply And.intro) <;> first | exact h | trivial) ?_)))))))
      refine exc_pure (fun h => (s_impl_FrameOk (unpackF b))) rfl rfl rfl rfl rfl rfl rfl rfl (by intro h; (repeat' apply And.intro) <;> first | exact h | trivial) ?_
      refine And.intro (fun h => (by constructor <;> intro h <;> first | trivial | exact h | (simp [gb, condOf]; done) | (simpa [gb, condOf] using h) | (simp only [gb, condOf] at *; grind) | (simp_all [gb, condOf]; done))) (And.intro (by intro h; (repeat' apply And.intro) <;> first | exact h | trivial) (And.intro (fun h => trivial) (And.intro (by intro h; (repeat' apply And.intro) <;> first | exact h | trivial) (And.intro (fun h => (by first | trivial | exact Nat.le_of_ble_eq_true rfl | exact ⟨rfl, Nat.le_of_ble_eq_true rfl⟩ | omega | ((repeat' apply And.intro) <;> first | trivial | rfl | exact Nat.le_of_ble_eq_true rfl | omega) | (simp; done) | (simp; omega))) (And.intro (by intro h; (repeat' apply And.intro) <;> first | exact h | trivial) ?_)))))
      refine exc_pure (fun h => (s_impl_FramePack_d (unpackF b))) rfl rfl rfl rfl rfl rfl rfl rfl (by intro h; (repeat' apply And.intro) <;> first | exact h | trivial) ?_
      refine And.intro (fun h => (by exact (congrArg bytesRows (rowsBytes_bytesRows _)).symm)) (And.intro (by intro h; (repeat' apply And.intro) <;> first | exact h | trivial) (And.intro (fun h => trivial) (And.intro (by intro h; (repeat' apply And.intro) <;> first | exact h | trivial) (And.intro (fun h => (by exact (congrArg bytesRows (rowsBytes_bytesRows _)).symm)) (And.intro (by intro h; (repeat' apply And.intro) <;> first | exact h | trivial) (And.intro (fun h => (by first | trivial | exact Nat.le_of_ble_eq_true rfl | exact ⟨rfl, Nat.le_of_ble_eq_true rfl⟩ | omega | ((repeat' apply And.intro) <;> first | trivial | rfl | exact Nat.le_of_ble_eq_true rfl | omega) | (simp; done) | (simp; omega))) (And.intro (by intro h; (repeat' apply And.intro) <;> first | exact h | trivial) (And.intro (fun h => (by constructor <;> intro h <;> first | trivial | exact h | (simp [gb, condOf]; done) | (simpa [gb, condOf] using h) | (simp only [gb, condOf] at *; grind) | (simp_all [gb, condOf]; done))) (And.intro (by intro h; (repeat' apply And.intro) <;> first | exact h | trivial) (And.intro (by constructor <;> intro h <;> first | trivial | exact h | (simp [gb, condOf]; done) | (simpa [gb, condOf] using h) | (simp only [gb, condOf] at *; grind) | (simp_all [gb, condOf]; done)) (And.intro trivial (And.intro (by kernel_rfl) ?_))))))))))))
      refine SW.ret ?_
      refine retOk1 rfl (congrArg D.b ?_)
      cases hu : unpackOk b with
      | false =>
        have h9 : unpackF b = zeroFrame := by rw [unpackF, hu]; rfl
        rw [h9]
        simp [gb, eqDs, eqD, FrameR.row, zeroFrame]
      | true =>
        obtain ⟨h1, h2, h3⟩ := unpackOk_spec hu
        have h9 : unpackF b = readFrame b := by rw [unpackF, hu]; rfl
        rw [h9, h2, h3]
        simp [gb, rowsBytes_bytesRows]

end Go.Proofs.Ytlkfibmjdigmiaa
