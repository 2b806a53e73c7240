import Derived.Test.YtjncgdeohbcihaaTab
import Derived.Test.YtjncgdeohbcihaaWkDraw
import Derived.Test.YtjncgdeohbcihaaAbDj
import Derived.Test.YtjncgdeohbcihaaAbBr
namespace Go.Proofs.Ytjncgdeohbcihaa
open Go Go.Ab Go.RowKit
set_option linter.unusedVariables false
set_option linter.unusedSimpArgs false

theorem s_spec_l6Open (l : List UInt8) (hl : l.length ≤ 140737488355328) : Ab.Spec Try.prog 30 1 [(.t 0, .v (Dv (.sl (bytesRows l))))] [(.t 0, .v (.e (.c (.pt 0 0)))), (.o 0, .box 58 [.d (.sl (bytesRows (l.take 2000))), .d (.i (0))])] := by
  refine spec_of_body tabOk Try.func30 rfl (by kernel_rfl) (by decide) (by kernel_rfl) rfl ?_
  refine SW.seq ?_
  refine SW.regT tabOk [0] ?_
  refine And.intro trivial ?_
  refine SW.seq ?_
  refine SW.seq ?_
  refine SW.regT tabOk [0, 5] ?_
  refine And.intro trivial (And.intro (by first | trivial | exact Nat.le_of_ble_eq_true rfl | exact ⟨rfl, Nat.le_of_ble_eq_true rfl⟩ | omega | ((repeat' apply And.intro) <;> first | trivial | rfl | exact Nat.le_of_ble_eq_true rfl | omega) | (simp; done) | (simp; omega)) (And.intro trivial ?_))
  refine SW.cond rfl (fun c5 => ?_) (fun c5 => ?_)
  · skip
    refine SW.regT tabOk [0] ?_
    refine And.intro trivial (And.intro (by refine ⟨by simp [bnd, loOf, hiOf, bytesRows_length] at *; omega, bytesRows_len1 l⟩) (And.intro trivial ?_))
    refine SW.seq ?_
    refine SW.regT tabOk [2] ?_
    refine And.intro trivial (And.intro (by first | trivial | exact Nat.le_of_ble_eq_true rfl | exact ⟨rfl, Nat.le_of_ble_eq_true rfl⟩ | omega | ((repeat' apply And.intro) <;> first | trivial | rfl | exact Nat.le_of_ble_eq_true rfl | omega) | (simp; done) | (simp; omega)) (And.intro trivial (And.intro trivial ?_)))
    refine SW.ret ?_
    refine retOk _ [(0, 10)] [] rfl ?_ rfl rfl
    repeat' first | exact trivial | refine mL_nil rfl ?_ | refine mL_d rfl ?_ ?_ | refine mL_own rfl rfl ?_ rfl ?_ | refine mL_row rfl ?_ ?_ | refine mL_pt rfl rfl rfl rfl ?_ | refine mL_box rfl ?_ ?_ | refine mL_agg rfl ?_ ?_ | exact mCs_nil0 | refine mCs_d ?_ ?_ | refine mCs_nil ?_ | refine mCs_own rfl ?_ rfl ?_ | refine mCs_pt rfl rfl rfl ?_
    all_goals first | with_reducible rfl | skip
    first | exact congrArg D.sl (bytesRows_cut l 0 2000) | (refine congrArg D.sl (congrArg bytesRows ?_); symm; apply List.take_of_length_le; simp [bytesRows_length] at c5; omega)
  · skip
    refine SW.skip ?_
    refine SW.seq ?_
    refine SW.regT tabOk [2] ?_
    refine And.intro trivial (And.intro (by first | trivial | exact Nat.le_of_ble_eq_true rfl | exact ⟨rfl, Nat.le_of_ble_eq_true rfl⟩ | omega | ((repeat' apply And.intro) <;> first | trivial | rfl | exact Nat.le_of_ble_eq_true rfl | omega) | (simp; done) | (simp; omega)) (And.intro trivial (And.intro trivial ?_)))
    refine SW.ret ?_
    refine retOk _ [(0, 10)] [] rfl ?_ rfl rfl
    repeat' first | exact trivial | refine mL_nil rfl ?_ | refine mL_d rfl ?_ ?_ | refine mL_own rfl rfl ?_ rfl ?_ | refine mL_row rfl ?_ ?_ | refine mL_pt rfl rfl rfl rfl ?_ | refine mL_box rfl ?_ ?_ | refine mL_agg rfl ?_ ?_ | exact mCs_nil0 | refine mCs_d ?_ ?_ | refine mCs_nil ?_ | refine mCs_own rfl ?_ rfl ?_ | refine mCs_pt rfl rfl rfl ?_
    all_goals first | with_reducible rfl | skip
    first | exact congrArg D.sl (bytesRows_cut l 0 2000) | (refine congrArg D.sl (congrArg bytesRows ?_); symm; apply List.take_of_length_le; simp [bytesRows_length] at c5; omega)

theorem s_spec_DrawFrameSum (l : List UInt8) (hl : l.length ≤ 140737488355328) : Ab.SpecE Try.prog 13 1 [(.t 0, .v (Dv (.sl (bytesRows l))))] (fun s => ∃ b : List UInt8, b.length ≤ 1100 ∧ s = [(.t 0, .v (.e (.c (.own 0 (b).length)))), (.o 0, .row 5 1 (bytesRows (b)))]) := by
  have hl2 : (l.take 2000).length ≤ 2000 := by simp; omega
  refine specE_of_body tabOk Try.func13 rfl (by kernel_rfl) (by decide) (by kernel_rfl) rfl ?_
  refine SW.seq ?_
  refine SW.regT tabOk [0] ?_
  refine And.intro trivial ?_
  refine SW.seq ?_
  refine SW.regT tabOk [3] ?_
  refine And.intro trivial ?_
  refine ex_callP [(0, 7)] (s_spec_l6Open l hl) rfl rfl rfl rfl rfl rfl rfl (fun j hj => by (obtain rfl : j = 0 := by simpa [newIds, objIds, memN] using hj); rfl) ?_
  refine And.intro trivial ?_
  refine SW.seq ?_
  refine SW.regT tabOk [3, 4] ?_
  refine And.intro (by first | trivial | exact Nat.le_of_ble_eq_true rfl | exact ⟨rfl, Nat.le_of_ble_eq_true rfl⟩ | omega | ((repeat' apply And.intro) <;> first | trivial | rfl | exact Nat.le_of_ble_eq_true rfl | omega) | (simp; done) | (simp; omega)) (And.intro trivial ?_)
  refine SW.seq ?_
  refine SW.seq ?_
  refine SW.regT tabOk [3, 4, 5] ?_
  refine And.intro trivial ?_
  refine ex_call (robj := [(7, .box 58 [.d (.sl (bytesRows (l.take 2000))), .d (.i (0))])]) (rl := [(0, 7)]) (bor := []) (s_pick (l.take 2000) (0) _ (by omega) hl2) rfl rfl rfl rfl ⟨mL_pt rfl rfl rfl rfl (mL_d rfl rfl (mL_box rfl (mCs_d rfl (mCs_d rfl mCs_nil0)) trivial)), rfl⟩ rfl (.inl rfl) (robjOk_spec ⟨rfl, trivial⟩) (fun _ hj => nomatch hj) ?_
  refine And.intro trivial ?_
  refine SW.block ?_
  -- live at the head: [3, 4, 5]
  have hv := pickV_range (l.take 2000) (p := 0) (n := 40) (by omega) (by omega)
  refine SW.loopW (n := (pickV (l.take 2000) 0 40).toNat) (fun n s => ∃ (k p : Int) (b : List UInt8), n = k.toNat ∧ (0 ≤ k ∧ k < 40 ∧ 0 ≤ p ∧ p + k ≤ 41) ∧ b.length + k.toNat ≤ 40 ∧ s = [(.t 3, .v (.e (.c (.pt 7 0)))), (.t 4, .v (.e (.c (.own 8 (b).length)))), (.t 5, .v (I (k))), (.o 7, .box 58 [.d (.sl (bytesRows (l.take 2000))), .d (.i (p))]), (.o 8, .row 5 1 (bytesRows (b)))]) ?_ ?_
  · skip
    refine wk [(.t 3, .v (.e (.c (.pt 7 0)))), (.t 4, .v (.e (.c (.own 8 ([]).length)))), (.t 5, .v (I ((pickV (l.take 2000) 0 40)))), (.o 7, .box 58 [.d (.sl (bytesRows (l.take 2000))), .d (.i (0 + 1))]), (.o 8, .row 5 1 (bytesRows ([])))] [] [] (⟨pickV (l.take 2000) 0 40, 0 + 1, [], rfl, by omega, by simp; omega, rfl⟩) ?_ rfl rfl
    repeat' first | exact trivial | refine mL_nil rfl ?_ | refine mL_d rfl ?_ ?_ | refine mL_own rfl rfl ?_ rfl ?_ | refine mL_row rfl ?_ ?_ | refine mL_pt rfl rfl rfl rfl ?_ | refine mL_box rfl ?_ ?_ | refine mL_agg rfl ?_ ?_ | exact mCs_nil0 | refine mCs_d ?_ ?_ | refine mCs_nil ?_ | refine mCs_own rfl ?_ rfl ?_ | refine mCs_pt rfl rfl rfl ?_
    all_goals first | with_reducible rfl | (first | rfl | (simp; done) | omega)
  rintro n s ⟨k, p, b, rfl, hk, hb, rfl⟩
  refine SW.seq ?_
  refine SW.seq ?_
  refine SW.regT tabOk [3, 4, 5, 12] ?_
  refine And.intro trivial (And.intro trivial ?_)
  refine SW.cond rfl (fun c12 => ?_) (fun c12 => ?_)
  · skip
    have hk1 : 0 < k := by simpa using c12
    refine SW.skip ?_
    refine SW.seq ?_
    refine SW.block ?_
    refine SW.regT tabOk [3, 4, 5] ?_
    refine And.intro trivial (And.intro trivial ?_)
    refine ex_call (robj := [(7, .box 58 [.d (.sl (bytesRows (l.take 2000))), .d (.i (p))])]) (rl := [(0, 7)]) (bor := []) (s_pick (l.take 2000) (p) _ (by omega) hl2) rfl rfl rfl rfl ⟨mL_pt rfl rfl rfl rfl (mL_d rfl rfl (mL_box rfl (mCs_d rfl (mCs_d rfl mCs_nil0)) trivial)), rfl⟩ rfl (.inl rfl) (robjOk_spec ⟨rfl, trivial⟩) (fun _ hj => nomatch hj) ?_
    refine And.intro (by first | trivial | rfl) (And.intro (by first | trivial | exact Nat.le_of_ble_eq_true rfl | exact ⟨rfl, Nat.le_of_ble_eq_true rfl⟩ | omega | ((repeat' apply And.intro) <;> first | trivial | rfl | exact Nat.le_of_ble_eq_true rfl | omega) | (simp; done) | (simp; omega)) (And.intro (by simp [bytesRows_length]; omega) (And.intro trivial ?_)))
    refine SW.regT tabOk [3, 4, 5] ?_
    refine And.intro trivial (And.intro trivial (And.intro trivial ?_))
    refine wk [(.t 3, .v (.e (.c (.pt 7 0)))), (.t 4, .v (.e (.c (.own 8 (b ++ [u8 (pickV (l.take 2000) p 256)]).length)))), (.t 5, .v (I (k - 1))), (.o 7, .box 58 [.d (.sl (bytesRows (l.take 2000))), .d (.i (p + 1))]), (.o 8, .row 5 1 (bytesRows (b ++ [u8 (pickV (l.take 2000) p 256)])))] [] [] (⟨(k - 1).toNat, by omega, k - 1, p + 1, b ++ [u8 (pickV (l.take 2000) p 256)], rfl, by omega, by simp; omega, rfl⟩) ?_ rfl rfl
    repeat' first | exact trivial | refine mL_nil rfl ?_ | refine mL_d rfl ?_ ?_ | refine mL_own rfl rfl ?_ rfl ?_ | refine mL_row rfl ?_ ?_ | refine mL_pt rfl rfl rfl rfl ?_ | refine mL_box rfl ?_ ?_ | refine mL_agg rfl ?_ ?_ | exact mCs_nil0 | refine mCs_d ?_ ?_ | refine mCs_nil ?_ | refine mCs_own rfl ?_ rfl ?_ | refine mCs_pt rfl rfl rfl ?_
    all_goals first | with_reducible rfl | (first | exact rows_push _ _ | (simp [bytesRows_length]; done) | exact congrArg D.i (wrap64_of (by omega)))
  · skip
    refine SW.exit ?_
    refine SW.seq ?_
    refine SW.seq ?_
    refine SW.regT tabOk [3, 4, 23] ?_
    refine And.intro trivial ?_
    refine ex_call (robj := [(7, .box 58 [.d (.sl (bytesRows (l.take 2000))), .d (.i (p))])]) (rl := [(0, 7)]) (bor := []) (s_pick (l.take 2000) (p) _ (by omega) hl2) rfl rfl rfl rfl ⟨mL_pt rfl rfl rfl rfl (mL_d rfl rfl (mL_box rfl (mCs_d rfl (mCs_d rfl mCs_nil0)) trivial)), rfl⟩ rfl (.inl rfl) (robjOk_spec ⟨rfl, trivial⟩) (fun _ hj => nomatch hj) ?_
    refine And.intro trivial ?_
    refine SW.cond rfl (fun c23 => ?_) (fun c23 => ?_)
    · skip
      refine SW.seq ?_
      refine SW.regT tabOk [3, 4] ?_
      refine And.intro (by decide) (And.intro trivial ?_)
      obtain ⟨z, hz, hzl⟩ : ∃ z : List UInt8, z = List.replicate 1100 0 ∧ z.length = 1100 := ⟨_, rfl, List.length_replicate ..⟩
      have hi := pickV_range (l.take 2000) (p := p + 1) (n := 1100) (by omega) (by omega)
      have hbz := bytesRows_length z
      have hgz := bytesRows_getD (l := z) (i := (pickV (l.take 2000) (p + 1) 1100).toNat) (by omega)
      refine SW.wk (J := fun s => s = [(.t 3, .v (.e (.c (.pt 7 0)))), (.t 4, .v (.e (.c (.own 24 z.length)))), (.o 7, .box 58 [.d (.sl (bytesRows (l.take 2000))), .d (.i (p + 1))]), (.o 24, .row 5 1 (bytesRows z))]) ?_ ?_
      · skip
        refine wk [(.t 3, .v (.e (.c (.pt 7 0)))), (.t 4, .v (.e (.c (.own 24 z.length)))), (.o 7, .box 58 [.d (.sl (bytesRows (l.take 2000))), .d (.i (p + 1))]), (.o 24, .row 5 1 (bytesRows z))] [] [] (rfl) ?_ rfl rfl
        repeat' first | exact trivial | refine mL_nil rfl ?_ | refine mL_d rfl ?_ ?_ | refine mL_own rfl rfl ?_ rfl ?_ | refine mL_row rfl ?_ ?_ | refine mL_pt rfl rfl rfl rfl ?_ | refine mL_box rfl ?_ ?_ | refine mL_agg rfl ?_ ?_ | exact mCs_nil0 | refine mCs_d ?_ ?_ | refine mCs_nil ?_ | refine mCs_own rfl ?_ rfl ?_ | refine mCs_pt rfl rfl rfl ?_
        all_goals first | with_reducible rfl | (first | exact hzl.symm | exact hz ▸ repB 1100)
      rintro s rfl
      refine SW.regT tabOk [4] ?_
      refine And.intro trivial (And.intro trivial ?_)
      refine ex_call (robj := [(7, .box 58 [.d (.sl (bytesRows (l.take 2000))), .d (.i (p + 1))])]) (rl := [(0, 7)]) (bor := []) (s_pick (l.take 2000) (p + 1) _ (by omega) hl2) rfl rfl rfl rfl ⟨mL_pt rfl rfl rfl rfl (mL_d rfl rfl (mL_box rfl (mCs_d rfl (mCs_d rfl mCs_nil0)) trivial)), rfl⟩ rfl (.inl rfl) (robjOk_spec ⟨rfl, trivial⟩) (fun _ hj => nomatch hj) ?_
      refine And.intro trivial ?_
      refine ex_call (robj := [(7, .box 58 [.d (.sl (bytesRows (l.take 2000))), .d (.i (p + 1 + 1))])]) (rl := [(0, 7)]) (bor := []) (s_pick (l.take 2000) (p + 1 + 1) _ (by omega) hl2) rfl rfl rfl rfl ⟨mL_pt rfl rfl rfl rfl (mL_d rfl rfl (mL_box rfl (mCs_d rfl (mCs_d rfl mCs_nil0)) trivial)), rfl⟩ rfl (.inl rfl) (robjOk_spec ⟨rfl, trivial⟩) (fun _ hj => nomatch hj) ?_
      refine And.intro (by first | trivial | rfl) (And.intro (by exact ⟨by omega, by omega, by omega⟩) (And.intro (by rw [hgz]; exact ⟨by omega, by omega, rfl, Nat.le_refl _⟩) ?_))
      refine SW.seq ?_
      refine SW.regT tabOk [2] ?_
      refine And.intro trivial (And.intro trivial ?_)
      refine SW.ret ?_
      first
        | (refine retQE _ ⟨b, by omega, rfl⟩ (retOk _ [(0, 8)] [] rfl ?_ rfl rfl)
           repeat' first | exact trivial | refine mL_nil rfl ?_ | refine mL_d rfl ?_ ?_ | refine mL_own rfl rfl ?_ rfl ?_ | refine mL_row rfl ?_ ?_ | refine mL_pt rfl rfl rfl rfl ?_ | refine mL_box rfl ?_ ?_ | refine mL_agg rfl ?_ ?_ | exact mCs_nil0 | refine mCs_d ?_ ?_ | refine mCs_nil ?_ | refine mCs_own rfl ?_ rfl ?_ | refine mCs_pt rfl rfl rfl ?_
           all_goals rfl)
        | (refine retQE _ ⟨z.set (pickV (l.take 2000) (p + 1) 1100).toNat (u8 (wrap8 (pickV (l.take 2000) (p + 1 + 1) 256))), by rw [List.length_set]; omega, rfl⟩ (retOk _ [(0, 24)] [] rfl ?_ rfl rfl)
           repeat' first | exact trivial | refine mL_nil rfl ?_ | refine mL_d rfl ?_ ?_ | refine mL_own rfl rfl ?_ rfl ?_ | refine mL_row rfl ?_ ?_ | refine mL_pt rfl rfl rfl rfl ?_ | refine mL_box rfl ?_ ?_ | refine mL_agg rfl ?_ ?_ | exact mCs_nil0 | refine mCs_d ?_ ?_ | refine mCs_nil ?_ | refine mCs_own rfl ?_ rfl ?_ | refine mCs_pt rfl rfl rfl ?_
           · exact (List.length_set ..).symm
           · exact rows_set (by omega) (wrap8_wrap8 _))
    · skip
      refine SW.skip ?_
      refine SW.seq ?_
      refine SW.regT tabOk [2] ?_
      refine And.intro trivial (And.intro trivial ?_)
      refine SW.ret ?_
      first
        | (refine retQE _ ⟨b, by omega, rfl⟩ (retOk _ [(0, 8)] [] rfl ?_ rfl rfl)
           repeat' first | exact trivial | refine mL_nil rfl ?_ | refine mL_d rfl ?_ ?_ | refine mL_own rfl rfl ?_ rfl ?_ | refine mL_row rfl ?_ ?_ | refine mL_pt rfl rfl rfl rfl ?_ | refine mL_box rfl ?_ ?_ | refine mL_agg rfl ?_ ?_ | exact mCs_nil0 | refine mCs_d ?_ ?_ | refine mCs_nil ?_ | refine mCs_own rfl ?_ rfl ?_ | refine mCs_pt rfl rfl rfl ?_
           all_goals rfl)
        | (refine retQE _ ⟨z.set (pickV (l.take 2000) (p + 1) 1100).toNat (u8 (wrap8 (pickV (l.take 2000) (p + 1 + 1) 256))), by rw [List.length_set]; omega, rfl⟩ (retOk _ [(0, 24)] [] rfl ?_ rfl rfl)
           repeat' first | exact trivial | refine mL_nil rfl ?_ | refine mL_d rfl ?_ ?_ | refine mL_own rfl rfl ?_ rfl ?_ | refine mL_row rfl ?_ ?_ | refine mL_pt rfl rfl rfl rfl ?_ | refine mL_box rfl ?_ ?_ | refine mL_agg rfl ?_ ?_ | exact mCs_nil0 | refine mCs_d ?_ ?_ | refine mCs_nil ?_ | refine mCs_own rfl ?_ rfl ?_ | refine mCs_pt rfl rfl rfl ?_
           · exact (List.length_set ..).symm
           · exact rows_set (by omega) (wrap8_wrap8 _))

end Go.Proofs.Ytjncgdeohbcihaa
