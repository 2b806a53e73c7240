import Derived.Test.YtlkfibmjdigmiaaTab
import Derived.Test.YtlkfibmjdigmiaaWkDrawB
import Derived.Test.YtlkfibmjdigmiaaAbDk
import Derived.Test.YtlkfibmjdigmiaaAbBr
namespace Go.Proofs.Ytlkfibmjdigmiaa
open Go Go.Ab Go.RowKit
set_option linter.unusedVariables false
set_option linter.unusedSimpArgs false

set_option maxHeartbeats 1600000 in
theorem s_spec_l72Frame (l : List UInt8) (p : Int) (hp : 0 ≤ p ∧ p ≤ 700000) (hl : l.length ≤ 2000) : Ab.SpecE Try.prog 19 1 [(.t 0, .v (.e (.c (.pt 0 0)))), (.o 0, .box 50 [.d (.sl (bytesRows l)), .d (.i (p))])] (fun s => ∃ (z0 z1 z2 z3 z4 z5 z6 z7 z8 : Int) (zd : List UInt8) (q : Int), (p ≤ q ∧ q ≤ p + 100 ∧ zd.length ≤ 60) ∧ s = [(.t 0, .v (.e (.agg [.d (.i z0), .d (.i z1), .d (.i z2), .d (.i z3), .d (.i z4), .d (.i z5), .d (.i z6), .d (.i z7), .d (.i z8), .d (.s zd)]))), (.o 0, .box 50 [.d (.sl (bytesRows l)), .d (.i (q))])]) := by
  have hl2 := hl
  have hall : ∀ y ∈ ([[], [97, 98, 99], [97, 98, 99, 100]] : List (List UInt8)), y.length ≤ 60 := by decide
  refine specE_of_body tabOk Try.func19 rfl (by kernel_rfl) (by decide) (by kernel_rfl) rfl ?_
  refine SW.seq ?_
  refine SW.regT tabOk [0, 2] ?_
  refine And.intro trivial ?_
  refine SW.seq ?_
  refine SW.regE tabOk [0, 2, 3] ?_
  refine And.intro trivial ?_
  refine ee_call (robj := [(0, .box 50 [.d (.sl (bytesRows (l))), .d (.i (p))])]) (rl := [(0, 0)]) (bor := []) (news := []) (s_spec_l72Note l p (by omega) hl) rfl rfl rfl rfl ⟨mL_pt rfl rfl rfl rfl (mL_box rfl (mCs_d rfl (mCs_d rfl mCs_nil0)) trivial), rfl⟩ (by rintro _ ⟨a, b, c, d, x, q, hq, rfl⟩; exact ⟨rfl, .inl rfl, fun j hj => nomatch hj⟩) (robjOk_spec ⟨rfl, trivial⟩) (fun j hj => nomatch hj) ?_
  rintro _ ⟨a, b, c, d, x, q, hq, rfl⟩
  refine And.intro trivial (And.intro ⟨by kernel_rfl, Nat.le_of_ble_eq_true (by kernel_rfl)⟩ ?_)
  refine SW.seq ?_
  refine SW.regT tabOk [0, 2, 3, 4] ?_
  refine And.intro trivial ?_
  refine ex_call (robj := [(0, .box 50 [.d (.sl (bytesRows (l))), .d (.i (q))])]) (rl := [(0, 0)]) (bor := []) (s_pick (l) (q) _ (by omega) hl2) rfl rfl rfl rfl ⟨mL_pt rfl rfl rfl rfl (mL_d rfl rfl (mL_box rfl (mCs_d rfl (mCs_d rfl mCs_nil0)) trivial)), rfl⟩ rfl (.inl rfl) (robjOk_spec ⟨rfl, trivial⟩) (fun _ hj => nomatch hj) ?_
  refine And.intro trivial ?_
  refine SW.seq ?_
  refine SW.regD tabOk mo [0, 2, 3, 4, 5] ?_
  refine And.intro trivial ?_
  refine ex_call (robj := [(0, .box 50 [.d (.sl (bytesRows (l))), .d (.i (q + 1))])]) (rl := [(0, 0)]) (bor := []) (s_pick (l) (q + 1) _ (by omega) hl2) rfl rfl rfl rfl ⟨mL_pt rfl rfl rfl rfl (mL_d rfl rfl (mL_box rfl (mCs_d rfl (mCs_d rfl mCs_nil0)) trivial)), rfl⟩ rfl (.inl rfl) (robjOk_spec ⟨rfl, trivial⟩) (fun _ hj => nomatch hj) ?_
  refine And.intro trivial (And.intro trivial (And.intro trivial (And.intro (by first | trivial | rfl) (And.intro (by first | trivial | exact Nat.le_of_ble_eq_true rfl | exact ⟨rfl, Nat.le_of_ble_eq_true rfl⟩ | omega | ((repeat' apply And.intro) <;> first | trivial | rfl | exact Nat.le_of_ble_eq_true rfl | omega) | (simp; done) | (simp; omega)) ?_))))
  refine ex_pure (s_spec_NoteNext _ _) rfl rfl rfl rfl rfl rfl rfl rfl ?_
  refine And.intro (by first | trivial | rfl) (And.intro (by first | trivial | exact Nat.le_of_ble_eq_true rfl | exact ⟨rfl, Nat.le_of_ble_eq_true rfl⟩ | omega | ((repeat' apply And.intro) <;> first | trivial | rfl | exact Nat.le_of_ble_eq_true rfl | omega) | (simp; done) | (simp; omega)) (And.intro (by first | trivial | rfl) (And.intro (by first | trivial | exact Nat.le_of_ble_eq_true rfl | exact ⟨rfl, Nat.le_of_ble_eq_true rfl⟩ | omega | ((repeat' apply And.intro) <;> first | trivial | rfl | exact Nat.le_of_ble_eq_true rfl | omega) | (simp; done) | (simp; omega)) (And.intro (by first | trivial | rfl) (And.intro (by first | trivial | exact Nat.le_of_ble_eq_true rfl | exact ⟨rfl, Nat.le_of_ble_eq_true rfl⟩ | omega | ((repeat' apply And.intro) <;> first | trivial | rfl | exact Nat.le_of_ble_eq_true rfl | omega) | (simp; done) | (simp; omega)) (And.intro (by first | trivial | rfl) (And.intro (by first | trivial | exact Nat.le_of_ble_eq_true rfl | exact ⟨rfl, Nat.le_of_ble_eq_true rfl⟩ | omega | ((repeat' apply And.intro) <;> first | trivial | rfl | exact Nat.le_of_ble_eq_true rfl | omega) | (simp; done) | (simp; omega)) (And.intro (by first | trivial | exact Nat.le_of_ble_eq_true rfl | exact ⟨rfl, Nat.le_of_ble_eq_true rfl⟩ | omega | ((repeat' apply And.intro) <;> first | trivial | rfl | exact Nat.le_of_ble_eq_true rfl | omega) | (simp; done) | (simp; omega)) (And.intro trivial (And.intro ⟨by kernel_rfl, Nat.le_of_ble_eq_true (by kernel_rfl)⟩ (And.intro (by kernel_rfl) ?_)))))))))))
  refine SW.seq ?_
  refine SW.seq ?_
  refine SW.regT tabOk [0, 2, 3, 4, 5, 29] ?_
  refine And.intro (by first | trivial | rfl) (And.intro (by first | trivial | exact Nat.le_of_ble_eq_true rfl | exact ⟨rfl, Nat.le_of_ble_eq_true rfl⟩ | omega | ((repeat' apply And.intro) <;> first | trivial | rfl | exact Nat.le_of_ble_eq_true rfl | omega) | (simp; done) | (simp; omega)) (And.intro trivial ?_))
  refine SW.cond rfl (fun c29 => ?_) (fun c29 => ?_)
  · skip
    refine SW.seq ?_
    refine SW.regT tabOk [0, 2, 3, 5] ?_
    refine And.intro (by first | trivial | rfl) (And.intro (by first | trivial | exact Nat.le_of_ble_eq_true rfl | exact ⟨rfl, Nat.le_of_ble_eq_true rfl⟩ | omega | ((repeat' apply And.intro) <;> first | trivial | rfl | exact Nat.le_of_ble_eq_true rfl | omega) | (simp; done) | (simp; omega)) (And.intro (by first | trivial | exact Nat.le_of_ble_eq_true rfl | exact ⟨rfl, Nat.le_of_ble_eq_true rfl⟩ | omega | ((repeat' apply And.intro) <;> first | trivial | rfl | exact Nat.le_of_ble_eq_true rfl | omega) | (simp; done) | (simp; omega)) (And.intro (by first | trivial | rfl) (And.intro ⟨by kernel_rfl, Nat.le_of_ble_eq_true (by kernel_rfl)⟩ ?_))))
    refine SW.seq ?_
    refine SW.regT tabOk [0, 2, 3, 5] ?_
    refine And.intro trivial ?_
    refine ex_call (robj := [(0, .box 50 [.d (.sl (bytesRows (l))), .d (.i (q + 1 + 1))])]) (rl := [(0, 0)]) (bor := []) (s_pick (l) (q + 1 + 1) _ (by omega) hl2) rfl rfl rfl rfl ⟨mL_pt rfl rfl rfl rfl (mL_d rfl rfl (mL_box rfl (mCs_d rfl (mCs_d rfl mCs_nil0)) trivial)), rfl⟩ rfl (.inl rfl) (robjOk_spec ⟨rfl, trivial⟩) (fun _ hj => nomatch hj) ?_
    refine And.intro (by first | trivial | rfl) (And.intro ⟨by kernel_rfl, Nat.le_of_ble_eq_true (by kernel_rfl)⟩ ?_)
    refine SW.regE tabOk [0, 2, 5] ?_
    refine And.intro (by first | trivial | rfl) (And.intro (by first | trivial | exact Nat.le_of_ble_eq_true rfl | exact ⟨rfl, Nat.le_of_ble_eq_true rfl⟩ | omega | ((repeat' apply And.intro) <;> first | trivial | rfl | exact Nat.le_of_ble_eq_true rfl | omega) | (simp; done) | (simp; omega)) (And.intro (by first | trivial | rfl) (And.intro (by first | trivial | exact Nat.le_of_ble_eq_true rfl | exact ⟨rfl, Nat.le_of_ble_eq_true rfl⟩ | omega | ((repeat' apply And.intro) <;> first | trivial | rfl | exact Nat.le_of_ble_eq_true rfl | omega) | (simp; done) | (simp; omega)) ?_)))
    refine ee_call (robj := []) (rl := []) (bor := []) (news := []) (s_spec_MixMake x _ (by omega)) rfl rfl rfl rfl ⟨mL_d rfl rfl (mL_d rfl rfl (trivial)), rfl⟩ (by rintro _ ⟨y, hy, rfl⟩; exact ⟨rfl, .inl rfl, fun j hj => nomatch hj⟩) (fun p hp => nomatch hp) (fun j hj => nomatch hj) ?_
    rintro _ ⟨y, hy, rfl⟩
    refine And.intro (by first | trivial | rfl) (And.intro ⟨by kernel_rfl, Nat.le_of_ble_eq_true (by kernel_rfl)⟩ ?_)
    refine SW.seq ?_
    refine SW.seq ?_
    refine SW.wk (J := fun s => ∃ (z0 z1 z2 z3 z4 z5 z6 z7 z8 : Int) (zd : List UInt8) (q2 : Int), (q ≤ q2 ∧ q2 ≤ q + 5 ∧ zd.length ≤ 60) ∧ s = [(.t 0, .v (.e (.c (.pt 0 0)))), (.t 2, .v (.e (.c (.pt 2 0)))), (.t 5, .v (.e (.c (.pt 5 0)))), (.o 2, .box 24 [.d (.i 0), .d (.i 0), .d (.i 0), .d (.i 0), .d (.i 0), .d (.i 0), .d (.i 0), .d (.i 0), .d (.i 0), .d (.s [])]), (.o 5, .box 24 [.d (.i z0), .d (.i z1), .d (.i z2), .d (.i z3), .d (.i z4), .d (.i z5), .d (.i z6), .d (.i z7), .d (.i z8), .d (.s zd)]), (.o 0, .box 50 [.d (.sl (bytesRows l)), .d (.i (q2))])]) ?_ ?_
    · skip
      first
      | (refine wk [(.t 0, .v (.e (.c (.pt 0 0)))), (.t 2, .v (.e (.c (.pt 2 0)))), (.t 5, .v (.e (.c (.pt 5 0)))), (.o 2, .box 24 [.d (.i 0), .d (.i 0), .d (.i 0), .d (.i 0), .d (.i 0), .d (.i 0), .d (.i 0), .d (.i 0), .d (.i 0), .d (.s [])]), (.o 5, .box 24 [.d (.i ?z01), .d (.i ?z11), .d (.i ?z21), .d (.i ?z31), .d (.i ?z41), .d (.i ?z51), .d (.i ?z61), .d (.i ?z71), .d (.i ?z81), .d (.s y)]), (.o 0, .box 50 [.d (.sl (bytesRows l)), .d (.i (q + 1 + 1 + 1))])] [] [] ⟨?z01, ?z11, ?z21, ?z31, ?z41, ?z51, ?z61, ?z71, ?z81, y, q + 1 + 1 + 1, ⟨by omega, by omega, (show y.length ≤ 60 by omega)⟩, rfl⟩ ?_ rfl rfl
         repeat' first | exact trivial | refine mL_nil rfl ?_ | refine mL_d rfl ?_ ?_ | refine mL_own rfl rfl ?_ rfl ?_ | refine mL_row rfl ?_ ?_ | refine mL_pt rfl rfl rfl rfl ?_ | refine mL_box rfl ?_ ?_ | refine mL_agg rfl ?_ ?_ | exact mCs_nil0 | refine mCs_d ?_ ?_ | refine mCs_nil ?_ | refine mCs_own rfl ?_ rfl ?_ | refine mCs_pt rfl rfl rfl ?_
         any_goals rfl
         done)
      | (refine wk [(.t 0, .v (.e (.c (.pt 0 0)))), (.t 2, .v (.e (.c (.pt 2 0)))), (.t 5, .v (.e (.c (.pt 5 0)))), (.o 2, .box 24 [.d (.i 0), .d (.i 0), .d (.i 0), .d (.i 0), .d (.i 0), .d (.i 0), .d (.i 0), .d (.i 0), .d (.i 0), .d (.s [])]), (.o 5, .box 24 [.d (.i ?z01), .d (.i ?z11), .d (.i ?z21), .d (.i ?z31), .d (.i ?z41), .d (.i ?z51), .d (.i ?z61), .d (.i ?z71), .d (.i ?z81), .d (.s [])]), (.o 0, .box 50 [.d (.sl (bytesRows l)), .d (.i (q + 1 + 1))])] [] [] ⟨?z01, ?z11, ?z21, ?z31, ?z41, ?z51, ?z61, ?z71, ?z81, [], q + 1 + 1, ⟨by omega, by omega, (show ([] : List UInt8).length ≤ 60 by simp)⟩, rfl⟩ ?_ rfl rfl
         repeat' first | exact trivial | refine mL_nil rfl ?_ | refine mL_d rfl ?_ ?_ | refine mL_own rfl rfl ?_ rfl ?_ | refine mL_row rfl ?_ ?_ | refine mL_pt rfl rfl rfl rfl ?_ | refine mL_box rfl ?_ ?_ | refine mL_agg rfl ?_ ?_ | exact mCs_nil0 | refine mCs_d ?_ ?_ | refine mCs_nil ?_ | refine mCs_own rfl ?_ rfl ?_ | refine mCs_pt rfl rfl rfl ?_
         any_goals rfl
         done)
    rintro _ ⟨z0, z1, z2, z3, z4, z5, z6, z7, z8, zd, q2, hq2, rfl⟩
    refine SW.regT tabOk [0, 2, 5, 49] ?_
    refine And.intro trivial ?_
    refine ex_call (robj := [(0, .box 50 [.d (.sl (bytesRows (l))), .d (.i (q2))])]) (rl := [(0, 0)]) (bor := []) (s_pick (l) (q2) _ (by omega) hl2) rfl rfl rfl rfl ⟨mL_pt rfl rfl rfl rfl (mL_d rfl rfl (mL_box rfl (mCs_d rfl (mCs_d rfl mCs_nil0)) trivial)), rfl⟩ rfl (.inl rfl) (robjOk_spec ⟨rfl, trivial⟩) (fun _ hj => nomatch hj) ?_
    refine SW.block ?_
    refine SW.seq ?_
    refine SW.regT tabOk [0, 2, 5, 49, 50] ?_
    refine And.intro trivial (And.intro trivial ?_)
    refine SW.cond rfl (fun c50 => ?_) (fun c50 => ?_)
    · skip
      have hv := pickV_range l (p := q2 + 1) (n := 2) (by omega) (by omega)
      refine SW.regT tabOk [2, 5] ?_
      refine And.intro (by exact ⟨by simp, by decide⟩) (And.intro trivial ?_)
      refine ex_call (robj := [(0, .box 50 [.d (.sl (bytesRows (l))), .d (.i (q2 + 1))])]) (rl := [(0, 0)]) (bor := []) (s_pick (l) (q2 + 1) _ (by omega) hl2) rfl rfl rfl rfl ⟨mL_pt rfl rfl rfl rfl (mL_d rfl rfl (mL_box rfl (mCs_d rfl (mCs_d rfl mCs_nil0)) trivial)), rfl⟩ rfl (.inl rfl) (robjOk_spec ⟨rfl, trivial⟩) (fun _ hj => nomatch hj) ?_
      refine And.intro ⟨rfl, hv.1, hv.2⟩ (And.intro (oldI (l := [0, 4]) (by simp; omega) rfl) (And.intro (by first | trivial | rfl) (And.intro ⟨by kernel_rfl, Nat.le_of_ble_eq_true (by kernel_rfl)⟩ ?_)))
      refine SW.seq ?_
      refine SW.regT tabOk [2] ?_
      refine And.intro (by first | trivial | exact Nat.le_of_ble_eq_true rfl | exact ⟨rfl, Nat.le_of_ble_eq_true rfl⟩ | omega | ((repeat' apply And.intro) <;> first | trivial | rfl | exact Nat.le_of_ble_eq_true rfl | omega) | (simp; done) | (simp; omega)) (And.intro ⟨by kernel_rfl, Nat.le_of_ble_eq_true (by kernel_rfl)⟩ ?_)
      refine SW.ret ?_
      first
        | (refine retQE _ ⟨?z02, ?z12, ?z22, ?z32, ?z42, ?z52, ?z62, ?z72, ?z82, zd, q2 + 1 + 1, ⟨by omega, by omega, (show zd.length ≤ 60 by omega)⟩, rfl⟩ (retOk _ [] [] rfl ?_ rfl rfl)
           repeat' first | exact trivial | refine mL_nil rfl ?_ | refine mL_d rfl ?_ ?_ | refine mL_own rfl rfl ?_ rfl ?_ | refine mL_row rfl ?_ ?_ | refine mL_pt rfl rfl rfl rfl ?_ | refine mL_box rfl ?_ ?_ | refine mL_agg rfl ?_ ?_ | exact mCs_nil0 | refine mCs_d ?_ ?_ | refine mCs_nil ?_ | refine mCs_own rfl ?_ rfl ?_ | refine mCs_pt rfl rfl rfl ?_
           any_goals rfl
           done)
        | (refine retQE _ ⟨?z02, ?z12, ?z22, ?z32, ?z42, ?z52, ?z62, ?z72, ?z82, zd, q2 + 1, ⟨by omega, by omega, (show zd.length ≤ 60 by omega)⟩, rfl⟩ (retOk _ [] [] rfl ?_ rfl rfl)
           repeat' first | exact trivial | refine mL_nil rfl ?_ | refine mL_d rfl ?_ ?_ | refine mL_own rfl rfl ?_ rfl ?_ | refine mL_row rfl ?_ ?_ | refine mL_pt rfl rfl rfl rfl ?_ | refine mL_box rfl ?_ ?_ | refine mL_agg rfl ?_ ?_ | exact mCs_nil0 | refine mCs_d ?_ ?_ | refine mCs_nil ?_ | refine mCs_own rfl ?_ rfl ?_ | refine mCs_pt rfl rfl rfl ?_
           any_goals rfl
           done)
        | (refine retQE _ ⟨?z02, ?z12, ?z22, ?z32, ?z42, ?z52, ?z62, ?z72, ?z82, w, q2 + 1 + 1, ⟨by omega, by omega, (show w.length ≤ 60 from hall w hw)⟩, rfl⟩ (retOk _ [] [] rfl ?_ rfl rfl)
           repeat' first | exact trivial | refine mL_nil rfl ?_ | refine mL_d rfl ?_ ?_ | refine mL_own rfl rfl ?_ rfl ?_ | refine mL_row rfl ?_ ?_ | refine mL_pt rfl rfl rfl rfl ?_ | refine mL_box rfl ?_ ?_ | refine mL_agg rfl ?_ ?_ | exact mCs_nil0 | refine mCs_d ?_ ?_ | refine mCs_nil ?_ | refine mCs_own rfl ?_ rfl ?_ | refine mCs_pt rfl rfl rfl ?_
           any_goals rfl
           done)
    · skip
      refine SW.seq ?_
      refine SW.regT tabOk [0, 2, 5, 49, 58] ?_
      refine And.intro trivial (And.intro trivial ?_)
      refine SW.cond rfl (fun c58 => ?_) (fun c58 => ?_)
      · skip
        have hv := pickV_range l (p := q2 + 1) (n := 3) (by omega) (by omega)
        refine SW.regT tabOk [2, 5] ?_
        refine And.intro (by exact ⟨by simp, by decide⟩) (And.intro trivial ?_)
        refine ex_call (robj := [(0, .box 50 [.d (.sl (bytesRows (l))), .d (.i (q2 + 1))])]) (rl := [(0, 0)]) (bor := []) (s_pick (l) (q2 + 1) _ (by omega) hl2) rfl rfl rfl rfl ⟨mL_pt rfl rfl rfl rfl (mL_d rfl rfl (mL_box rfl (mCs_d rfl (mCs_d rfl mCs_nil0)) trivial)), rfl⟩ rfl (.inl rfl) (robjOk_spec ⟨rfl, trivial⟩) (fun _ hj => nomatch hj) ?_
        refine And.intro ⟨rfl, hv.1, hv.2⟩ (And.intro (oldI (l := [0, 25, 5]) (by simp; omega) rfl) (And.intro (by first | trivial | rfl) (And.intro ⟨by kernel_rfl, Nat.le_of_ble_eq_true (by kernel_rfl)⟩ ?_)))
        refine SW.seq ?_
        refine SW.regT tabOk [2] ?_
        refine And.intro (by first | trivial | exact Nat.le_of_ble_eq_true rfl | exact ⟨rfl, Nat.le_of_ble_eq_true rfl⟩ | omega | ((repeat' apply And.intro) <;> first | trivial | rfl | exact Nat.le_of_ble_eq_true rfl | omega) | (simp; done) | (simp; omega)) (And.intro ⟨by kernel_rfl, Nat.le_of_ble_eq_true (by kernel_rfl)⟩ ?_)
        refine SW.ret ?_
        first
          | (refine retQE _ ⟨?z03, ?z13, ?z23, ?z33, ?z43, ?z53, ?z63, ?z73, ?z83, zd, q2 + 1 + 1, ⟨by omega, by omega, (show zd.length ≤ 60 by omega)⟩, rfl⟩ (retOk _ [] [] rfl ?_ rfl rfl)
             repeat' first | exact trivial | refine mL_nil rfl ?_ | refine mL_d rfl ?_ ?_ | refine mL_own rfl rfl ?_ rfl ?_ | refine mL_row rfl ?_ ?_ | refine mL_pt rfl rfl rfl rfl ?_ | refine mL_box rfl ?_ ?_ | refine mL_agg rfl ?_ ?_ | exact mCs_nil0 | refine mCs_d ?_ ?_ | refine mCs_nil ?_ | refine mCs_own rfl ?_ rfl ?_ | refine mCs_pt rfl rfl rfl ?_
             any_goals rfl
             done)
          | (refine retQE _ ⟨?z03, ?z13, ?z23, ?z33, ?z43, ?z53, ?z63, ?z73, ?z83, zd, q2 + 1, ⟨by omega, by omega, (show zd.length ≤ 60 by omega)⟩, rfl⟩ (retOk _ [] [] rfl ?_ rfl rfl)
             repeat' first | exact trivial | refine mL_nil rfl ?_ | refine mL_d rfl ?_ ?_ | refine mL_own rfl rfl ?_ rfl ?_ | refine mL_row rfl ?_ ?_ | refine mL_pt rfl rfl rfl rfl ?_ | refine mL_box rfl ?_ ?_ | refine mL_agg rfl ?_ ?_ | exact mCs_nil0 | refine mCs_d ?_ ?_ | refine mCs_nil ?_ | refine mCs_own rfl ?_ rfl ?_ | refine mCs_pt rfl rfl rfl ?_
             any_goals rfl
             done)
          | (refine retQE _ ⟨?z03, ?z13, ?z23, ?z33, ?z43, ?z53, ?z63, ?z73, ?z83, w, q2 + 1 + 1, ⟨by omega, by omega, (show w.length ≤ 60 from hall w hw)⟩, rfl⟩ (retOk _ [] [] rfl ?_ rfl rfl)
             repeat' first | exact trivial | refine mL_nil rfl ?_ | refine mL_d rfl ?_ ?_ | refine mL_own rfl rfl ?_ rfl ?_ | refine mL_row rfl ?_ ?_ | refine mL_pt rfl rfl rfl rfl ?_ | refine mL_box rfl ?_ ?_ | refine mL_agg rfl ?_ ?_ | exact mCs_nil0 | refine mCs_d ?_ ?_ | refine mCs_nil ?_ | refine mCs_own rfl ?_ rfl ?_ | refine mCs_pt rfl rfl rfl ?_
             any_goals rfl
             done)
      · skip
        refine SW.seq ?_
        refine SW.regT tabOk [0, 2, 5, 49, 66] ?_
        refine And.intro trivial (And.intro trivial ?_)
        refine SW.cond rfl (fun c66 => ?_) (fun c66 => ?_)
        · skip
          have hv := pickV_range l (p := q2 + 1) (n := 3) (by omega) (by omega)
          refine SW.regT tabOk [2, 5] ?_
          refine And.intro (by exact ⟨by simp, by decide⟩) (And.intro trivial ?_)
          refine ex_call (robj := [(0, .box 50 [.d (.sl (bytesRows (l))), .d (.i (q2 + 1))])]) (rl := [(0, 0)]) (bor := []) (s_pick (l) (q2 + 1) _ (by omega) hl2) rfl rfl rfl rfl ⟨mL_pt rfl rfl rfl rfl (mL_d rfl rfl (mL_box rfl (mCs_d rfl (mCs_d rfl mCs_nil0)) trivial)), rfl⟩ rfl (.inl rfl) (robjOk_spec ⟨rfl, trivial⟩) (fun _ hj => nomatch hj) ?_
          refine And.intro ⟨rfl, hv.1, hv.2⟩ (And.intro (oldI (l := [-1, 999, 1000]) (by simp; omega) rfl) (And.intro (by first | trivial | rfl) (And.intro ⟨by kernel_rfl, Nat.le_of_ble_eq_true (by kernel_rfl)⟩ ?_)))
          refine SW.seq ?_
          refine SW.regT tabOk [2] ?_
          refine And.intro (by first | trivial | exact Nat.le_of_ble_eq_true rfl | exact ⟨rfl, Nat.le_of_ble_eq_true rfl⟩ | omega | ((repeat' apply And.intro) <;> first | trivial | rfl | exact Nat.le_of_ble_eq_true rfl | omega) | (simp; done) | (simp; omega)) (And.intro ⟨by kernel_rfl, Nat.le_of_ble_eq_true (by kernel_rfl)⟩ ?_)
          refine SW.ret ?_
          first
            | (refine retQE _ ⟨?z04, ?z14, ?z24, ?z34, ?z44, ?z54, ?z64, ?z74, ?z84, zd, q2 + 1 + 1, ⟨by omega, by omega, (show zd.length ≤ 60 by omega)⟩, rfl⟩ (retOk _ [] [] rfl ?_ rfl rfl)
               repeat' first | exact trivial | refine mL_nil rfl ?_ | refine mL_d rfl ?_ ?_ | refine mL_own rfl rfl ?_ rfl ?_ | refine mL_row rfl ?_ ?_ | refine mL_pt rfl rfl rfl rfl ?_ | refine mL_box rfl ?_ ?_ | refine mL_agg rfl ?_ ?_ | exact mCs_nil0 | refine mCs_d ?_ ?_ | refine mCs_nil ?_ | refine mCs_own rfl ?_ rfl ?_ | refine mCs_pt rfl rfl rfl ?_
               any_goals rfl
               done)
            | (refine retQE _ ⟨?z04, ?z14, ?z24, ?z34, ?z44, ?z54, ?z64, ?z74, ?z84, zd, q2 + 1, ⟨by omega, by omega, (show zd.length ≤ 60 by omega)⟩, rfl⟩ (retOk _ [] [] rfl ?_ rfl rfl)
               repeat' first | exact trivial | refine mL_nil rfl ?_ | refine mL_d rfl ?_ ?_ | refine mL_own rfl rfl ?_ rfl ?_ | refine mL_row rfl ?_ ?_ | refine mL_pt rfl rfl rfl rfl ?_ | refine mL_box rfl ?_ ?_ | refine mL_agg rfl ?_ ?_ | exact mCs_nil0 | refine mCs_d ?_ ?_ | refine mCs_nil ?_ | refine mCs_own rfl ?_ rfl ?_ | refine mCs_pt rfl rfl rfl ?_
               any_goals rfl
               done)
            | (refine retQE _ ⟨?z04, ?z14, ?z24, ?z34, ?z44, ?z54, ?z64, ?z74, ?z84, w, q2 + 1 + 1, ⟨by omega, by omega, (show w.length ≤ 60 from hall w hw)⟩, rfl⟩ (retOk _ [] [] rfl ?_ rfl rfl)
               repeat' first | exact trivial | refine mL_nil rfl ?_ | refine mL_d rfl ?_ ?_ | refine mL_own rfl rfl ?_ rfl ?_ | refine mL_row rfl ?_ ?_ | refine mL_pt rfl rfl rfl rfl ?_ | refine mL_box rfl ?_ ?_ | refine mL_agg rfl ?_ ?_ | exact mCs_nil0 | refine mCs_d ?_ ?_ | refine mCs_nil ?_ | refine mCs_own rfl ?_ rfl ?_ | refine mCs_pt rfl rfl rfl ?_
               any_goals rfl
               done)
        · skip
          refine SW.seq ?_
          refine SW.regT tabOk [0, 2, 5, 49, 74] ?_
          refine And.intro trivial (And.intro trivial ?_)
          refine SW.cond rfl (fun c74 => ?_) (fun c74 => ?_)
          · skip
            refine SW.regE tabOk [2, 5] ?_
            refine And.intro trivial (And.intro (by exact ⟨by simp, by decide⟩) ?_)
            refine ee_frz 77 77 rfl rfl rfl rfl ?_
            refine ee_call (robj := [(0, .box 50 [.d (.sl (bytesRows (l))), .d (.i (q2 + 1))])]) (rl := [(0, 0)]) (bor := []) (news := []) (s_of (l) (q2 + 1) (([[], [97, 98, 99], [97, 98, 99, 100]] : List (List UInt8))) (by simp) (by omega) hl2) rfl rfl rfl rfl ⟨mL_pt rfl rfl rfl rfl (mL_d rfl rfl (mL_box rfl (mCs_d rfl (mCs_d rfl mCs_nil0)) trivial)), rfl⟩ (by rintro _ ⟨x, hx, rfl⟩; exact ⟨rfl, .inl rfl, fun j hj => nomatch hj⟩) (robjOk_spec ⟨rfl, trivial⟩) (fun j hj => nomatch hj) ?_
            rintro _ ⟨w, hw, rfl⟩
            refine And.intro (by first | trivial | rfl) (And.intro ⟨by kernel_rfl, Nat.le_of_ble_eq_true (by kernel_rfl)⟩ ?_)
            refine SW.seq ?_
            refine SW.regT tabOk [2] ?_
            refine And.intro (by first | trivial | exact Nat.le_of_ble_eq_true rfl | exact ⟨rfl, Nat.le_of_ble_eq_true rfl⟩ | omega | ((repeat' apply And.intro) <;> first | trivial | rfl | exact Nat.le_of_ble_eq_true rfl | omega) | (simp; done) | (simp; omega)) (And.intro ⟨by kernel_rfl, Nat.le_of_ble_eq_true (by kernel_rfl)⟩ ?_)
            refine SW.ret ?_
            first
              | (refine retQE _ ⟨?z05, ?z15, ?z25, ?z35, ?z45, ?z55, ?z65, ?z75, ?z85, zd, q2 + 1 + 1, ⟨by omega, by omega, (show zd.length ≤ 60 by omega)⟩, rfl⟩ (retOk _ [] [] rfl ?_ rfl rfl)
                 repeat' first | exact trivial | refine mL_nil rfl ?_ | refine mL_d rfl ?_ ?_ | refine mL_own rfl rfl ?_ rfl ?_ | refine mL_row rfl ?_ ?_ | refine mL_pt rfl rfl rfl rfl ?_ | refine mL_box rfl ?_ ?_ | refine mL_agg rfl ?_ ?_ | exact mCs_nil0 | refine mCs_d ?_ ?_ | refine mCs_nil ?_ | refine mCs_own rfl ?_ rfl ?_ | refine mCs_pt rfl rfl rfl ?_
                 any_goals rfl
                 done)
              | (refine retQE _ ⟨?z05, ?z15, ?z25, ?z35, ?z45, ?z55, ?z65, ?z75, ?z85, zd, q2 + 1, ⟨by omega, by omega, (show zd.length ≤ 60 by omega)⟩, rfl⟩ (retOk _ [] [] rfl ?_ rfl rfl)
                 repeat' first | exact trivial | refine mL_nil rfl ?_ | refine mL_d rfl ?_ ?_ | refine mL_own rfl rfl ?_ rfl ?_ | refine mL_row rfl ?_ ?_ | refine mL_pt rfl rfl rfl rfl ?_ | refine mL_box rfl ?_ ?_ | refine mL_agg rfl ?_ ?_ | exact mCs_nil0 | refine mCs_d ?_ ?_ | refine mCs_nil ?_ | refine mCs_own rfl ?_ rfl ?_ | refine mCs_pt rfl rfl rfl ?_
                 any_goals rfl
                 done)
              | (refine retQE _ ⟨?z05, ?z15, ?z25, ?z35, ?z45, ?z55, ?z65, ?z75, ?z85, w, q2 + 1 + 1, ⟨by omega, by omega, (show w.length ≤ 60 from hall w hw)⟩, rfl⟩ (retOk _ [] [] rfl ?_ rfl rfl)
                 repeat' first | exact trivial | refine mL_nil rfl ?_ | refine mL_d rfl ?_ ?_ | refine mL_own rfl rfl ?_ rfl ?_ | refine mL_row rfl ?_ ?_ | refine mL_pt rfl rfl rfl rfl ?_ | refine mL_box rfl ?_ ?_ | refine mL_agg rfl ?_ ?_ | exact mCs_nil0 | refine mCs_d ?_ ?_ | refine mCs_nil ?_ | refine mCs_own rfl ?_ rfl ?_ | refine mCs_pt rfl rfl rfl ?_
                 any_goals rfl
                 done)
          · skip
            refine SW.seq ?_
            refine SW.regT tabOk [0, 2, 5, 80] ?_
            refine And.intro trivial (And.intro trivial ?_)
            refine SW.cond rfl (fun c80 => ?_) (fun c80 => ?_)
            · skip
              refine SW.regT tabOk [2, 5] ?_
              refine And.intro trivial ?_
              refine ex_call (robj := [(0, .box 50 [.d (.sl (bytesRows (l))), .d (.i (q2 + 1))])]) (rl := [(0, 0)]) (bor := []) (s_pick (l) (q2 + 1) _ (by omega) hl2) rfl rfl rfl rfl ⟨mL_pt rfl rfl rfl rfl (mL_d rfl rfl (mL_box rfl (mCs_d rfl (mCs_d rfl mCs_nil0)) trivial)), rfl⟩ rfl (.inl rfl) (robjOk_spec ⟨rfl, trivial⟩) (fun _ hj => nomatch hj) ?_
              refine And.intro (by first | trivial | rfl) (And.intro ⟨by kernel_rfl, Nat.le_of_ble_eq_true (by kernel_rfl)⟩ ?_)
              refine SW.seq ?_
              refine SW.regT tabOk [2] ?_
              refine And.intro (by first | trivial | exact Nat.le_of_ble_eq_true rfl | exact ⟨rfl, Nat.le_of_ble_eq_true rfl⟩ | omega | ((repeat' apply And.intro) <;> first | trivial | rfl | exact Nat.le_of_ble_eq_true rfl | omega) | (simp; done) | (simp; omega)) (And.intro ⟨by kernel_rfl, Nat.le_of_ble_eq_true (by kernel_rfl)⟩ ?_)
              refine SW.ret ?_
              first
                | (refine retQE _ ⟨?z06, ?z16, ?z26, ?z36, ?z46, ?z56, ?z66, ?z76, ?z86, zd, q2 + 1 + 1, ⟨by omega, by omega, (show zd.length ≤ 60 by omega)⟩, rfl⟩ (retOk _ [] [] rfl ?_ rfl rfl)
                   repeat' first | exact trivial | refine mL_nil rfl ?_ | refine mL_d rfl ?_ ?_ | refine mL_own rfl rfl ?_ rfl ?_ | refine mL_row rfl ?_ ?_ | refine mL_pt rfl rfl rfl rfl ?_ | refine mL_box rfl ?_ ?_ | refine mL_agg rfl ?_ ?_ | exact mCs_nil0 | refine mCs_d ?_ ?_ | refine mCs_nil ?_ | refine mCs_own rfl ?_ rfl ?_ | refine mCs_pt rfl rfl rfl ?_
                   any_goals rfl
                   done)
                | (refine retQE _ ⟨?z06, ?z16, ?z26, ?z36, ?z46, ?z56, ?z66, ?z76, ?z86, zd, q2 + 1, ⟨by omega, by omega, (show zd.length ≤ 60 by omega)⟩, rfl⟩ (retOk _ [] [] rfl ?_ rfl rfl)
                   repeat' first | exact trivial | refine mL_nil rfl ?_ | refine mL_d rfl ?_ ?_ | refine mL_own rfl rfl ?_ rfl ?_ | refine mL_row rfl ?_ ?_ | refine mL_pt rfl rfl rfl rfl ?_ | refine mL_box rfl ?_ ?_ | refine mL_agg rfl ?_ ?_ | exact mCs_nil0 | refine mCs_d ?_ ?_ | refine mCs_nil ?_ | refine mCs_own rfl ?_ rfl ?_ | refine mCs_pt rfl rfl rfl ?_
                   any_goals rfl
                   done)
                | (refine retQE _ ⟨?z06, ?z16, ?z26, ?z36, ?z46, ?z56, ?z66, ?z76, ?z86, w, q2 + 1 + 1, ⟨by omega, by omega, (show w.length ≤ 60 from hall w hw)⟩, rfl⟩ (retOk _ [] [] rfl ?_ rfl rfl)
                   repeat' first | exact trivial | refine mL_nil rfl ?_ | refine mL_d rfl ?_ ?_ | refine mL_own rfl rfl ?_ rfl ?_ | refine mL_row rfl ?_ ?_ | refine mL_pt rfl rfl rfl rfl ?_ | refine mL_box rfl ?_ ?_ | refine mL_agg rfl ?_ ?_ | exact mCs_nil0 | refine mCs_d ?_ ?_ | refine mCs_nil ?_ | refine mCs_own rfl ?_ rfl ?_ | refine mCs_pt rfl rfl rfl ?_
                   any_goals rfl
                   done)
            · skip
              refine SW.skip ?_
              refine SW.seq ?_
              refine SW.regT tabOk [2] ?_
              refine And.intro (by first | trivial | exact Nat.le_of_ble_eq_true rfl | exact ⟨rfl, Nat.le_of_ble_eq_true rfl⟩ | omega | ((repeat' apply And.intro) <;> first | trivial | rfl | exact Nat.le_of_ble_eq_true rfl | omega) | (simp; done) | (simp; omega)) (And.intro ⟨by kernel_rfl, Nat.le_of_ble_eq_true (by kernel_rfl)⟩ ?_)
              refine SW.ret ?_
              first
                | (refine retQE _ ⟨?z07, ?z17, ?z27, ?z37, ?z47, ?z57, ?z67, ?z77, ?z87, zd, q2 + 1 + 1, ⟨by omega, by omega, (show zd.length ≤ 60 by omega)⟩, rfl⟩ (retOk _ [] [] rfl ?_ rfl rfl)
                   repeat' first | exact trivial | refine mL_nil rfl ?_ | refine mL_d rfl ?_ ?_ | refine mL_own rfl rfl ?_ rfl ?_ | refine mL_row rfl ?_ ?_ | refine mL_pt rfl rfl rfl rfl ?_ | refine mL_box rfl ?_ ?_ | refine mL_agg rfl ?_ ?_ | exact mCs_nil0 | refine mCs_d ?_ ?_ | refine mCs_nil ?_ | refine mCs_own rfl ?_ rfl ?_ | refine mCs_pt rfl rfl rfl ?_
                   any_goals rfl
                   done)
                | (refine retQE _ ⟨?z07, ?z17, ?z27, ?z37, ?z47, ?z57, ?z67, ?z77, ?z87, zd, q2 + 1, ⟨by omega, by omega, (show zd.length ≤ 60 by omega)⟩, rfl⟩ (retOk _ [] [] rfl ?_ rfl rfl)
                   repeat' first | exact trivial | refine mL_nil rfl ?_ | refine mL_d rfl ?_ ?_ | refine mL_own rfl rfl ?_ rfl ?_ | refine mL_row rfl ?_ ?_ | refine mL_pt rfl rfl rfl rfl ?_ | refine mL_box rfl ?_ ?_ | refine mL_agg rfl ?_ ?_ | exact mCs_nil0 | refine mCs_d ?_ ?_ | refine mCs_nil ?_ | refine mCs_own rfl ?_ rfl ?_ | refine mCs_pt rfl rfl rfl ?_
                   any_goals rfl
                   done)
                | (refine retQE _ ⟨?z07, ?z17, ?z27, ?z37, ?z47, ?z57, ?z67, ?z77, ?z87, w, q2 + 1 + 1, ⟨by omega, by omega, (show w.length ≤ 60 from hall w hw)⟩, rfl⟩ (retOk _ [] [] rfl ?_ rfl rfl)
                   repeat' first | exact trivial | refine mL_nil rfl ?_ | refine mL_d rfl ?_ ?_ | refine mL_own rfl rfl ?_ rfl ?_ | refine mL_row rfl ?_ ?_ | refine mL_pt rfl rfl rfl rfl ?_ | refine mL_box rfl ?_ ?_ | refine mL_agg rfl ?_ ?_ | exact mCs_nil0 | refine mCs_d ?_ ?_ | refine mCs_nil ?_ | refine mCs_own rfl ?_ rfl ?_ | refine mCs_pt rfl rfl rfl ?_
                   any_goals rfl
                   done)
  · skip
    refine SW.seq ?_
    refine SW.regT tabOk [0, 2, 4, 5] ?_
    refine And.intro (by first | trivial | rfl) (And.intro (by first | trivial | exact Nat.le_of_ble_eq_true rfl | exact ⟨rfl, Nat.le_of_ble_eq_true rfl⟩ | omega | ((repeat' apply And.intro) <;> first | trivial | rfl | exact Nat.le_of_ble_eq_true rfl | omega) | (simp; done) | (simp; omega)) (And.intro (by first | trivial | rfl) (And.intro ⟨by kernel_rfl, Nat.le_of_ble_eq_true (by kernel_rfl)⟩ ?_)))
    refine SW.regT tabOk [0, 2, 5] ?_
    refine And.intro trivial (And.intro (by first | trivial | rfl) (And.intro ⟨by kernel_rfl, Nat.le_of_ble_eq_true (by kernel_rfl)⟩ ?_))
    refine SW.seq ?_
    refine SW.seq ?_
    refine SW.wk (J := fun s => ∃ (z0 z1 z2 z3 z4 z5 z6 z7 z8 : Int) (zd : List UInt8) (q2 : Int), (q ≤ q2 ∧ q2 ≤ q + 5 ∧ zd.length ≤ 60) ∧ s = [(.t 0, .v (.e (.c (.pt 0 0)))), (.t 2, .v (.e (.c (.pt 2 0)))), (.t 5, .v (.e (.c (.pt 5 0)))), (.o 2, .box 24 [.d (.i 0), .d (.i 0), .d (.i 0), .d (.i 0), .d (.i 0), .d (.i 0), .d (.i 0), .d (.i 0), .d (.i 0), .d (.s [])]), (.o 5, .box 24 [.d (.i z0), .d (.i z1), .d (.i z2), .d (.i z3), .d (.i z4), .d (.i z5), .d (.i z6), .d (.i z7), .d (.i z8), .d (.s zd)]), (.o 0, .box 50 [.d (.sl (bytesRows l)), .d (.i (q2))])]) ?_ ?_
    · skip
      first
      | (refine wk [(.t 0, .v (.e (.c (.pt 0 0)))), (.t 2, .v (.e (.c (.pt 2 0)))), (.t 5, .v (.e (.c (.pt 5 0)))), (.o 2, .box 24 [.d (.i 0), .d (.i 0), .d (.i 0), .d (.i 0), .d (.i 0), .d (.i 0), .d (.i 0), .d (.i 0), .d (.i 0), .d (.s [])]), (.o 5, .box 24 [.d (.i ?z08), .d (.i ?z18), .d (.i ?z28), .d (.i ?z38), .d (.i ?z48), .d (.i ?z58), .d (.i ?z68), .d (.i ?z78), .d (.i ?z88), .d (.s y)]), (.o 0, .box 50 [.d (.sl (bytesRows l)), .d (.i (q + 1 + 1 + 1))])] [] [] ⟨?z08, ?z18, ?z28, ?z38, ?z48, ?z58, ?z68, ?z78, ?z88, y, q + 1 + 1 + 1, ⟨by omega, by omega, (show y.length ≤ 60 by omega)⟩, rfl⟩ ?_ rfl rfl
         repeat' first | exact trivial | refine mL_nil rfl ?_ | refine mL_d rfl ?_ ?_ | refine mL_own rfl rfl ?_ rfl ?_ | refine mL_row rfl ?_ ?_ | refine mL_pt rfl rfl rfl rfl ?_ | refine mL_box rfl ?_ ?_ | refine mL_agg rfl ?_ ?_ | exact mCs_nil0 | refine mCs_d ?_ ?_ | refine mCs_nil ?_ | refine mCs_own rfl ?_ rfl ?_ | refine mCs_pt rfl rfl rfl ?_
         any_goals rfl
         done)
      | (refine wk [(.t 0, .v (.e (.c (.pt 0 0)))), (.t 2, .v (.e (.c (.pt 2 0)))), (.t 5, .v (.e (.c (.pt 5 0)))), (.o 2, .box 24 [.d (.i 0), .d (.i 0), .d (.i 0), .d (.i 0), .d (.i 0), .d (.i 0), .d (.i 0), .d (.i 0), .d (.i 0), .d (.s [])]), (.o 5, .box 24 [.d (.i ?z08), .d (.i ?z18), .d (.i ?z28), .d (.i ?z38), .d (.i ?z48), .d (.i ?z58), .d (.i ?z68), .d (.i ?z78), .d (.i ?z88), .d (.s [])]), (.o 0, .box 50 [.d (.sl (bytesRows l)), .d (.i (q + 1 + 1))])] [] [] ⟨?z08, ?z18, ?z28, ?z38, ?z48, ?z58, ?z68, ?z78, ?z88, [], q + 1 + 1, ⟨by omega, by omega, (show ([] : List UInt8).length ≤ 60 by simp)⟩, rfl⟩ ?_ rfl rfl
         repeat' first | exact trivial | refine mL_nil rfl ?_ | refine mL_d rfl ?_ ?_ | refine mL_own rfl rfl ?_ rfl ?_ | refine mL_row rfl ?_ ?_ | refine mL_pt rfl rfl rfl rfl ?_ | refine mL_box rfl ?_ ?_ | refine mL_agg rfl ?_ ?_ | exact mCs_nil0 | refine mCs_d ?_ ?_ | refine mCs_nil ?_ | refine mCs_own rfl ?_ rfl ?_ | refine mCs_pt rfl rfl rfl ?_
         any_goals rfl
         done)
    rintro _ ⟨z0, z1, z2, z3, z4, z5, z6, z7, z8, zd, q2, hq2, rfl⟩
    refine SW.regT tabOk [0, 2, 5, 49] ?_
    refine And.intro trivial ?_
    refine ex_call (robj := [(0, .box 50 [.d (.sl (bytesRows (l))), .d (.i (q2))])]) (rl := [(0, 0)]) (bor := []) (s_pick (l) (q2) _ (by omega) hl2) rfl rfl rfl rfl ⟨mL_pt rfl rfl rfl rfl (mL_d rfl rfl (mL_box rfl (mCs_d rfl (mCs_d rfl mCs_nil0)) trivial)), rfl⟩ rfl (.inl rfl) (robjOk_spec ⟨rfl, trivial⟩) (fun _ hj => nomatch hj) ?_
    refine SW.block ?_
    refine SW.seq ?_
    refine SW.regT tabOk [0, 2, 5, 49, 50] ?_
    refine And.intro trivial (And.intro trivial ?_)
    refine SW.cond rfl (fun c50 => ?_) (fun c50 => ?_)
    · skip
      have hv := pickV_range l (p := q2 + 1) (n := 2) (by omega) (by omega)
      refine SW.regT tabOk [2, 5] ?_
      refine And.intro (by exact ⟨by simp, by decide⟩) (And.intro trivial ?_)
      refine ex_call (robj := [(0, .box 50 [.d (.sl (bytesRows (l))), .d (.i (q2 + 1))])]) (rl := [(0, 0)]) (bor := []) (s_pick (l) (q2 + 1) _ (by omega) hl2) rfl rfl rfl rfl ⟨mL_pt rfl rfl rfl rfl (mL_d rfl rfl (mL_box rfl (mCs_d rfl (mCs_d rfl mCs_nil0)) trivial)), rfl⟩ rfl (.inl rfl) (robjOk_spec ⟨rfl, trivial⟩) (fun _ hj => nomatch hj) ?_
      refine And.intro ⟨rfl, hv.1, hv.2⟩ (And.intro (oldI (l := [0, 4]) (by simp; omega) rfl) (And.intro (by first | trivial | rfl) (And.intro ⟨by kernel_rfl, Nat.le_of_ble_eq_true (by kernel_rfl)⟩ ?_)))
      refine SW.seq ?_
      refine SW.regT tabOk [2] ?_
      refine And.intro (by first | trivial | exact Nat.le_of_ble_eq_true rfl | exact ⟨rfl, Nat.le_of_ble_eq_true rfl⟩ | omega | ((repeat' apply And.intro) <;> first | trivial | rfl | exact Nat.le_of_ble_eq_true rfl | omega) | (simp; done) | (simp; omega)) (And.intro ⟨by kernel_rfl, Nat.le_of_ble_eq_true (by kernel_rfl)⟩ ?_)
      refine SW.ret ?_
      first
        | (refine retQE _ ⟨?z09, ?z19, ?z29, ?z39, ?z49, ?z59, ?z69, ?z79, ?z89, zd, q2 + 1 + 1, ⟨by omega, by omega, (show zd.length ≤ 60 by omega)⟩, rfl⟩ (retOk _ [] [] rfl ?_ rfl rfl)
           repeat' first | exact trivial | refine mL_nil rfl ?_ | refine mL_d rfl ?_ ?_ | refine mL_own rfl rfl ?_ rfl ?_ | refine mL_row rfl ?_ ?_ | refine mL_pt rfl rfl rfl rfl ?_ | refine mL_box rfl ?_ ?_ | refine mL_agg rfl ?_ ?_ | exact mCs_nil0 | refine mCs_d ?_ ?_ | refine mCs_nil ?_ | refine mCs_own rfl ?_ rfl ?_ | refine mCs_pt rfl rfl rfl ?_
           any_goals rfl
           done)
        | (refine retQE _ ⟨?z09, ?z19, ?z29, ?z39, ?z49, ?z59, ?z69, ?z79, ?z89, zd, q2 + 1, ⟨by omega, by omega, (show zd.length ≤ 60 by omega)⟩, rfl⟩ (retOk _ [] [] rfl ?_ rfl rfl)
           repeat' first | exact trivial | refine mL_nil rfl ?_ | refine mL_d rfl ?_ ?_ | refine mL_own rfl rfl ?_ rfl ?_ | refine mL_row rfl ?_ ?_ | refine mL_pt rfl rfl rfl rfl ?_ | refine mL_box rfl ?_ ?_ | refine mL_agg rfl ?_ ?_ | exact mCs_nil0 | refine mCs_d ?_ ?_ | refine mCs_nil ?_ | refine mCs_own rfl ?_ rfl ?_ | refine mCs_pt rfl rfl rfl ?_
           any_goals rfl
           done)
        | (refine retQE _ ⟨?z09, ?z19, ?z29, ?z39, ?z49, ?z59, ?z69, ?z79, ?z89, w, q2 + 1 + 1, ⟨by omega, by omega, (show w.length ≤ 60 from hall w hw)⟩, rfl⟩ (retOk _ [] [] rfl ?_ rfl rfl)
           repeat' first | exact trivial | refine mL_nil rfl ?_ | refine mL_d rfl ?_ ?_ | refine mL_own rfl rfl ?_ rfl ?_ | refine mL_row rfl ?_ ?_ | refine mL_pt rfl rfl rfl rfl ?_ | refine mL_box rfl ?_ ?_ | refine mL_agg rfl ?_ ?_ | exact mCs_nil0 | refine mCs_d ?_ ?_ | refine mCs_nil ?_ | refine mCs_own rfl ?_ rfl ?_ | refine mCs_pt rfl rfl rfl ?_
           any_goals rfl
           done)
    · skip
      refine SW.seq ?_
      refine SW.regT tabOk [0, 2, 5, 49, 58] ?_
      refine And.intro trivial (And.intro trivial ?_)
      refine SW.cond rfl (fun c58 => ?_) (fun c58 => ?_)
      · skip
        have hv := pickV_range l (p := q2 + 1) (n := 3) (by omega) (by omega)
        refine SW.regT tabOk [2, 5] ?_
        refine And.intro (by exact ⟨by simp, by decide⟩) (And.intro trivial ?_)
        refine ex_call (robj := [(0, .box 50 [.d (.sl (bytesRows (l))), .d (.i (q2 + 1))])]) (rl := [(0, 0)]) (bor := []) (s_pick (l) (q2 + 1) _ (by omega) hl2) rfl rfl rfl rfl ⟨mL_pt rfl rfl rfl rfl (mL_d rfl rfl (mL_box rfl (mCs_d rfl (mCs_d rfl mCs_nil0)) trivial)), rfl⟩ rfl (.inl rfl) (robjOk_spec ⟨rfl, trivial⟩) (fun _ hj => nomatch hj) ?_
        refine And.intro ⟨rfl, hv.1, hv.2⟩ (And.intro (oldI (l := [0, 25, 5]) (by simp; omega) rfl) (And.intro (by first | trivial | rfl) (And.intro ⟨by kernel_rfl, Nat.le_of_ble_eq_true (by kernel_rfl)⟩ ?_)))
        refine SW.seq ?_
        refine SW.regT tabOk [2] ?_
        refine And.intro (by first | trivial | exact Nat.le_of_ble_eq_true rfl | exact ⟨rfl, Nat.le_of_ble_eq_true rfl⟩ | omega | ((repeat' apply And.intro) <;> first | trivial | rfl | exact Nat.le_of_ble_eq_true rfl | omega) | (simp; done) | (simp; omega)) (And.intro ⟨by kernel_rfl, Nat.le_of_ble_eq_true (by kernel_rfl)⟩ ?_)
        refine SW.ret ?_
        first
          | (refine retQE _ ⟨?z010, ?z110, ?z210, ?z310, ?z410, ?z510, ?z610, ?z710, ?z810, zd, q2 + 1 + 1, ⟨by omega, by omega, (show zd.length ≤ 60 by omega)⟩, rfl⟩ (retOk _ [] [] rfl ?_ rfl rfl)
             repeat' first | exact trivial | refine mL_nil rfl ?_ | refine mL_d rfl ?_ ?_ | refine mL_own rfl rfl ?_ rfl ?_ | refine mL_row rfl ?_ ?_ | refine mL_pt rfl rfl rfl rfl ?_ | refine mL_box rfl ?_ ?_ | refine mL_agg rfl ?_ ?_ | exact mCs_nil0 | refine mCs_d ?_ ?_ | refine mCs_nil ?_ | refine mCs_own rfl ?_ rfl ?_ | refine mCs_pt rfl rfl rfl ?_
             any_goals rfl
             done)
          | (refine retQE _ ⟨?z010, ?z110, ?z210, ?z310, ?z410, ?z510, ?z610, ?z710, ?z810, zd, q2 + 1, ⟨by omega, by omega, (show zd.length ≤ 60 by omega)⟩, rfl⟩ (retOk _ [] [] rfl ?_ rfl rfl)
             repeat' first | exact trivial | refine mL_nil rfl ?_ | refine mL_d rfl ?_ ?_ | refine mL_own rfl rfl ?_ rfl ?_ | refine mL_row rfl ?_ ?_ | refine mL_pt rfl rfl rfl rfl ?_ | refine mL_box rfl ?_ ?_ | refine mL_agg rfl ?_ ?_ | exact mCs_nil0 | refine mCs_d ?_ ?_ | refine mCs_nil ?_ | refine mCs_own rfl ?_ rfl ?_ | refine mCs_pt rfl rfl rfl ?_
             any_goals rfl
             done)
          | (refine retQE _ ⟨?z010, ?z110, ?z210, ?z310, ?z410, ?z510, ?z610, ?z710, ?z810, w, q2 + 1 + 1, ⟨by omega, by omega, (show w.length ≤ 60 from hall w hw)⟩, rfl⟩ (retOk _ [] [] rfl ?_ rfl rfl)
             repeat' first | exact trivial | refine mL_nil rfl ?_ | refine mL_d rfl ?_ ?_ | refine mL_own rfl rfl ?_ rfl ?_ | refine mL_row rfl ?_ ?_ | refine mL_pt rfl rfl rfl rfl ?_ | refine mL_box rfl ?_ ?_ | refine mL_agg rfl ?_ ?_ | exact mCs_nil0 | refine mCs_d ?_ ?_ | refine mCs_nil ?_ | refine mCs_own rfl ?_ rfl ?_ | refine mCs_pt rfl rfl rfl ?_
             any_goals rfl
             done)
      · skip
        refine SW.seq ?_
        refine SW.regT tabOk [0, 2, 5, 49, 66] ?_
        refine And.intro trivial (And.intro trivial ?_)
        refine SW.cond rfl (fun c66 => ?_) (fun c66 => ?_)
        · skip
          have hv := pickV_range l (p := q2 + 1) (n := 3) (by omega) (by omega)
          refine SW.regT tabOk [2, 5] ?_
          refine And.intro (by exact ⟨by simp, by decide⟩) (And.intro trivial ?_)
          refine ex_call (robj := [(0, .box 50 [.d (.sl (bytesRows (l))), .d (.i (q2 + 1))])]) (rl := [(0, 0)]) (bor := []) (s_pick (l) (q2 + 1) _ (by omega) hl2) rfl rfl rfl rfl ⟨mL_pt rfl rfl rfl rfl (mL_d rfl rfl (mL_box rfl (mCs_d rfl (mCs_d rfl mCs_nil0)) trivial)), rfl⟩ rfl (.inl rfl) (robjOk_spec ⟨rfl, trivial⟩) (fun _ hj => nomatch hj) ?_
          refine And.intro ⟨rfl, hv.1, hv.2⟩ (And.intro (oldI (l := [-1, 999, 1000]) (by simp; omega) rfl) (And.intro (by first | trivial | rfl) (And.intro ⟨by kernel_rfl, Nat.le_of_ble_eq_true (by kernel_rfl)⟩ ?_)))
          refine SW.seq ?_
          refine SW.regT tabOk [2] ?_
          refine And.intro (by first | trivial | exact Nat.le_of_ble_eq_true rfl | exact ⟨rfl, Nat.le_of_ble_eq_true rfl⟩ | omega | ((repeat' apply And.intro) <;> first | trivial | rfl | exact Nat.le_of_ble_eq_true rfl | omega) | (simp; done) | (simp; omega)) (And.intro ⟨by kernel_rfl, Nat.le_of_ble_eq_true (by kernel_rfl)⟩ ?_)
          refine SW.ret ?_
          first
            | (refine retQE _ ⟨?z011, ?z111, ?z211, ?z311, ?z411, ?z511, ?z611, ?z711, ?z811, zd, q2 + 1 + 1, ⟨by omega, by omega, (show zd.length ≤ 60 by omega)⟩, rfl⟩ (retOk _ [] [] rfl ?_ rfl rfl)
               repeat' first | exact trivial | refine mL_nil rfl ?_ | refine mL_d rfl ?_ ?_ | refine mL_own rfl rfl ?_ rfl ?_ | refine mL_row rfl ?_ ?_ | refine mL_pt rfl rfl rfl rfl ?_ | refine mL_box rfl ?_ ?_ | refine mL_agg rfl ?_ ?_ | exact mCs_nil0 | refine mCs_d ?_ ?_ | refine mCs_nil ?_ | refine mCs_own rfl ?_ rfl ?_ | refine mCs_pt rfl rfl rfl ?_
               any_goals rfl
               done)
            | (refine retQE _ ⟨?z011, ?z111, ?z211, ?z311, ?z411, ?z511, ?z611, ?z711, ?z811, zd, q2 + 1, ⟨by omega, by omega, (show zd.length ≤ 60 by omega)⟩, rfl⟩ (retOk _ [] [] rfl ?_ rfl rfl)
               repeat' first | exact trivial | refine mL_nil rfl ?_ | refine mL_d rfl ?_ ?_ | refine mL_own rfl rfl ?_ rfl ?_ | refine mL_row rfl ?_ ?_ | refine mL_pt rfl rfl rfl rfl ?_ | refine mL_box rfl ?_ ?_ | refine mL_agg rfl ?_ ?_ | exact mCs_nil0 | refine mCs_d ?_ ?_ | refine mCs_nil ?_ | refine mCs_own rfl ?_ rfl ?_ | refine mCs_pt rfl rfl rfl ?_
               any_goals rfl
               done)
            | (refine retQE _ ⟨?z011, ?z111, ?z211, ?z311, ?z411, ?z511, ?z611, ?z711, ?z811, w, q2 + 1 + 1, ⟨by omega, by omega, (show w.length ≤ 60 from hall w hw)⟩, rfl⟩ (retOk _ [] [] rfl ?_ rfl rfl)
               repeat' first | exact trivial | refine mL_nil rfl ?_ | refine mL_d rfl ?_ ?_ | refine mL_own rfl rfl ?_ rfl ?_ | refine mL_row rfl ?_ ?_ | refine mL_pt rfl rfl rfl rfl ?_ | refine mL_box rfl ?_ ?_ | refine mL_agg rfl ?_ ?_ | exact mCs_nil0 | refine mCs_d ?_ ?_ | refine mCs_nil ?_ | refine mCs_own rfl ?_ rfl ?_ | refine mCs_pt rfl rfl rfl ?_
               any_goals rfl
               done)
        · skip
          refine SW.seq ?_
          refine SW.regT tabOk [0, 2, 5, 49, 74] ?_
          refine And.intro trivial (And.intro trivial ?_)
          refine SW.cond rfl (fun c74 => ?_) (fun c74 => ?_)
          · skip
            refine SW.regE tabOk [2, 5] ?_
            refine And.intro trivial (And.intro (by exact ⟨by simp, by decide⟩) ?_)
            refine ee_frz 77 77 rfl rfl rfl rfl ?_
            refine ee_call (robj := [(0, .box 50 [.d (.sl (bytesRows (l))), .d (.i (q2 + 1))])]) (rl := [(0, 0)]) (bor := []) (news := []) (s_of (l) (q2 + 1) (([[], [97, 98, 99], [97, 98, 99, 100]] : List (List UInt8))) (by simp) (by omega) hl2) rfl rfl rfl rfl ⟨mL_pt rfl rfl rfl rfl (mL_d rfl rfl (mL_box rfl (mCs_d rfl (mCs_d rfl mCs_nil0)) trivial)), rfl⟩ (by rintro _ ⟨x, hx, rfl⟩; exact ⟨rfl, .inl rfl, fun j hj => nomatch hj⟩) (robjOk_spec ⟨rfl, trivial⟩) (fun j hj => nomatch hj) ?_
            rintro _ ⟨w, hw, rfl⟩
            refine And.intro (by first | trivial | rfl) (And.intro ⟨by kernel_rfl, Nat.le_of_ble_eq_true (by kernel_rfl)⟩ ?_)
            refine SW.seq ?_
            refine SW.regT tabOk [2] ?_
            refine And.intro (by first | trivial | exact Nat.le_of_ble_eq_true rfl | exact ⟨rfl, Nat.le_of_ble_eq_true rfl⟩ | omega | ((repeat' apply And.intro) <;> first | trivial | rfl | exact Nat.le_of_ble_eq_true rfl | omega) | (simp; done) | (simp; omega)) (And.intro ⟨by kernel_rfl, Nat.le_of_ble_eq_true (by kernel_rfl)⟩ ?_)
            refine SW.ret ?_
            first
              | (refine retQE _ ⟨?z012, ?z112, ?z212, ?z312, ?z412, ?z512, ?z612, ?z712, ?z812, zd, q2 + 1 + 1, ⟨by omega, by omega, (show zd.length ≤ 60 by omega)⟩, rfl⟩ (retOk _ [] [] rfl ?_ rfl rfl)
                 repeat' first | exact trivial | refine mL_nil rfl ?_ | refine mL_d rfl ?_ ?_ | refine mL_own rfl rfl ?_ rfl ?_ | refine mL_row rfl ?_ ?_ | refine mL_pt rfl rfl rfl rfl ?_ | refine mL_box rfl ?_ ?_ | refine mL_agg rfl ?_ ?_ | exact mCs_nil0 | refine mCs_d ?_ ?_ | refine mCs_nil ?_ | refine mCs_own rfl ?_ rfl ?_ | refine mCs_pt rfl rfl rfl ?_
                 any_goals rfl
                 done)
              | (refine retQE _ ⟨?z012, ?z112, ?z212, ?z312, ?z412, ?z512, ?z612, ?z712, ?z812, zd, q2 + 1, ⟨by omega, by omega, (show zd.length ≤ 60 by omega)⟩, rfl⟩ (retOk _ [] [] rfl ?_ rfl rfl)
                 repeat' first | exact trivial | refine mL_nil rfl ?_ | refine mL_d rfl ?_ ?_ | refine mL_own rfl rfl ?_ rfl ?_ | refine mL_row rfl ?_ ?_ | refine mL_pt rfl rfl rfl rfl ?_ | refine mL_box rfl ?_ ?_ | refine mL_agg rfl ?_ ?_ | exact mCs_nil0 | refine mCs_d ?_ ?_ | refine mCs_nil ?_ | refine mCs_own rfl ?_ rfl ?_ | refine mCs_pt rfl rfl rfl ?_
                 any_goals rfl
                 done)
              | (refine retQE _ ⟨?z012, ?z112, ?z212, ?z312, ?z412, ?z512, ?z612, ?z712, ?z812, w, q2 + 1 + 1, ⟨by omega, by omega, (show w.length ≤ 60 from hall w hw)⟩, rfl⟩ (retOk _ [] [] rfl ?_ rfl rfl)
                 repeat' first | exact trivial | refine mL_nil rfl ?_ | refine mL_d rfl ?_ ?_ | refine mL_own rfl rfl ?_ rfl ?_ | refine mL_row rfl ?_ ?_ | refine mL_pt rfl rfl rfl rfl ?_ | refine mL_box rfl ?_ ?_ | refine mL_agg rfl ?_ ?_ | exact mCs_nil0 | refine mCs_d ?_ ?_ | refine mCs_nil ?_ | refine mCs_own rfl ?_ rfl ?_ | refine mCs_pt rfl rfl rfl ?_
                 any_goals rfl
                 done)
          · skip
            refine SW.seq ?_
            refine SW.regT tabOk [0, 2, 5, 80] ?_
            refine And.intro trivial (And.intro trivial ?_)
            refine SW.cond rfl (fun c80 => ?_) (fun c80 => ?_)
            · skip
              refine SW.regT tabOk [2, 5] ?_
              refine And.intro trivial ?_
              refine ex_call (robj := [(0, .box 50 [.d (.sl (bytesRows (l))), .d (.i (q2 + 1))])]) (rl := [(0, 0)]) (bor := []) (s_pick (l) (q2 + 1) _ (by omega) hl2) rfl rfl rfl rfl ⟨mL_pt rfl rfl rfl rfl (mL_d rfl rfl (mL_box rfl (mCs_d rfl (mCs_d rfl mCs_nil0)) trivial)), rfl⟩ rfl (.inl rfl) (robjOk_spec ⟨rfl, trivial⟩) (fun _ hj => nomatch hj) ?_
              refine And.intro (by first | trivial | rfl) (And.intro ⟨by kernel_rfl, Nat.le_of_ble_eq_true (by kernel_rfl)⟩ ?_)
              refine SW.seq ?_
              refine SW.regT tabOk [2] ?_
              refine And.intro (by first | trivial | exact Nat.le_of_ble_eq_true rfl | exact ⟨rfl, Nat.le_of_ble_eq_true rfl⟩ | omega | ((repeat' apply And.intro) <;> first | trivial | rfl | exact Nat.le_of_ble_eq_true rfl | omega) | (simp; done) | (simp; omega)) (And.intro ⟨by kernel_rfl, Nat.le_of_ble_eq_true (by kernel_rfl)⟩ ?_)
              refine SW.ret ?_
              first
                | (refine retQE _ ⟨?z013, ?z113, ?z213, ?z313, ?z413, ?z513, ?z613, ?z713, ?z813, zd, q2 + 1 + 1, ⟨by omega, by omega, (show zd.length ≤ 60 by omega)⟩, rfl⟩ (retOk _ [] [] rfl ?_ rfl rfl)
                   repeat' first | exact trivial | refine mL_nil rfl ?_ | refine mL_d rfl ?_ ?_ | refine mL_own rfl rfl ?_ rfl ?_ | refine mL_row rfl ?_ ?_ | refine mL_pt rfl rfl rfl rfl ?_ | refine mL_box rfl ?_ ?_ | refine mL_agg rfl ?_ ?_ | exact mCs_nil0 | refine mCs_d ?_ ?_ | refine mCs_nil ?_ | refine mCs_own rfl ?_ rfl ?_ | refine mCs_pt rfl rfl rfl ?_
                   any_goals rfl
                   done)
                | (refine retQE _ ⟨?z013, ?z113, ?z213, ?z313, ?z413, ?z513, ?z613, ?z713, ?z813, zd, q2 + 1, ⟨by omega, by omega, (show zd.length ≤ 60 by omega)⟩, rfl⟩ (retOk _ [] [] rfl ?_ rfl rfl)
                   repeat' first | exact trivial | refine mL_nil rfl ?_ | refine mL_d rfl ?_ ?_ | refine mL_own rfl rfl ?_ rfl ?_ | refine mL_row rfl ?_ ?_ | refine mL_pt rfl rfl rfl rfl ?_ | refine mL_box rfl ?_ ?_ | refine mL_agg rfl ?_ ?_ | exact mCs_nil0 | refine mCs_d ?_ ?_ | refine mCs_nil ?_ | refine mCs_own rfl ?_ rfl ?_ | refine mCs_pt rfl rfl rfl ?_
                   any_goals rfl
                   done)
                | (refine retQE _ ⟨?z013, ?z113, ?z213, ?z313, ?z413, ?z513, ?z613, ?z713, ?z813, w, q2 + 1 + 1, ⟨by omega, by omega, (show w.length ≤ 60 from hall w hw)⟩, rfl⟩ (retOk _ [] [] rfl ?_ rfl rfl)
                   repeat' first | exact trivial | refine mL_nil rfl ?_ | refine mL_d rfl ?_ ?_ | refine mL_own rfl rfl ?_ rfl ?_ | refine mL_row rfl ?_ ?_ | refine mL_pt rfl rfl rfl rfl ?_ | refine mL_box rfl ?_ ?_ | refine mL_agg rfl ?_ ?_ | exact mCs_nil0 | refine mCs_d ?_ ?_ | refine mCs_nil ?_ | refine mCs_own rfl ?_ rfl ?_ | refine mCs_pt rfl rfl rfl ?_
                   any_goals rfl
                   done)
            · skip
              refine SW.skip ?_
              refine SW.seq ?_
              refine SW.regT tabOk [2] ?_
              refine And.intro (by first | trivial | exact Nat.le_of_ble_eq_true rfl | exact ⟨rfl, Nat.le_of_ble_eq_true rfl⟩ | omega | ((repeat' apply And.intro) <;> first | trivial | rfl | exact Nat.le_of_ble_eq_true rfl | omega) | (simp; done) | (simp; omega)) (And.intro ⟨by kernel_rfl, Nat.le_of_ble_eq_true (by kernel_rfl)⟩ ?_)
              refine SW.ret ?_
              first
                | (refine retQE _ ⟨?z014, ?z114, ?z214, ?z314, ?z414, ?z514, ?z614, ?z714, ?z814, zd, q2 + 1 + 1, ⟨by omega, by omega, (show zd.length ≤ 60 by omega)⟩, rfl⟩ (retOk _ [] [] rfl ?_ rfl rfl)
                   repeat' first | exact trivial | refine mL_nil rfl ?_ | refine mL_d rfl ?_ ?_ | refine mL_own rfl rfl ?_ rfl ?_ | refine mL_row rfl ?_ ?_ | refine mL_pt rfl rfl rfl rfl ?_ | refine mL_box rfl ?_ ?_ | refine mL_agg rfl ?_ ?_ | exact mCs_nil0 | refine mCs_d ?_ ?_ | refine mCs_nil ?_ | refine mCs_own rfl ?_ rfl ?_ | refine mCs_pt rfl rfl rfl ?_
                   any_goals rfl
                   done)
                | (refine retQE _ ⟨?z014, ?z114, ?z214, ?z314, ?z414, ?z514, ?z614, ?z714, ?z814, zd, q2 + 1, ⟨by omega, by omega, (show zd.length ≤ 60 by omega)⟩, rfl⟩ (retOk _ [] [] rfl ?_ rfl rfl)
                   repeat' first | exact trivial | refine mL_nil rfl ?_ | refine mL_d rfl ?_ ?_ | refine mL_own rfl rfl ?_ rfl ?_ | refine mL_row rfl ?_ ?_ | refine mL_pt rfl rfl rfl rfl ?_ | refine mL_box rfl ?_ ?_ | refine mL_agg rfl ?_ ?_ | exact mCs_nil0 | refine mCs_d ?_ ?_ | refine mCs_nil ?_ | refine mCs_own rfl ?_ rfl ?_ | refine mCs_pt rfl rfl rfl ?_
                   any_goals rfl
                   done)
                | (refine retQE _ ⟨?z014, ?z114, ?z214, ?z314, ?z414, ?z514, ?z614, ?z714, ?z814, w, q2 + 1 + 1, ⟨by omega, by omega, (show w.length ≤ 60 from hall w hw)⟩, rfl⟩ (retOk _ [] [] rfl ?_ rfl rfl)
                   repeat' first | exact trivial | refine mL_nil rfl ?_ | refine mL_d rfl ?_ ?_ | refine mL_own rfl rfl ?_ rfl ?_ | refine mL_row rfl ?_ ?_ | refine mL_pt rfl rfl rfl rfl ?_ | refine mL_box rfl ?_ ?_ | refine mL_agg rfl ?_ ?_ | exact mCs_nil0 | refine mCs_d ?_ ?_ | refine mCs_nil ?_ | refine mCs_own rfl ?_ rfl ?_ | refine mCs_pt rfl rfl rfl ?_
                   any_goals rfl
                   done)

theorem s_spec_DrawFramePack (l : List UInt8) (hl : l.length ≤ 140737488355328) : Ab.SpecE Try.prog 13 1 [(.t 0, .v (Dv (.sl (bytesRows l))))] (fun s => ∃ f : FrameR, f.data.length ≤ 60 ∧ s = [(.t 0, .v f.V)]) := by
  have hl2 : (l.take 2000).length ≤ 2000 := by simp; omega
  refine specE_of_body tabOk Try.func13 rfl (by kernel_rfl) (by decide) (by kernel_rfl) rfl ?_
  refine SW.seq ?_
  refine SW.regT tabOk [0, 2] ?_
  refine And.intro trivial ?_
  refine SW.seq ?_
  refine SW.regE tabOk [2] ?_
  refine And.intro trivial ?_
  refine es_same ?_
  refine ex_callP [(0, 4)] (s_spec_l6Open l hl) rfl rfl rfl rfl rfl rfl rfl (fun j hj => by (obtain rfl : j = 0 := by simpa [newIds, objIds, memN] using hj); rfl) ?_
  refine ee_call (robj := [(4, .box 50 [.d (.sl (bytesRows (l.take 2000))), .d (.i (0))])]) (rl := [(0, 4)]) (bor := []) (news := []) (s_spec_l72Frame (l.take 2000) 0 (by omega) hl2) rfl rfl rfl rfl ⟨mL_pt rfl rfl rfl rfl (mL_box rfl (mCs_d rfl (mCs_d rfl mCs_nil0)) trivial), rfl⟩ (by rintro _ ⟨z0, z1, z2, z3, z4, z5, z6, z7, z8, zd, q, hq, rfl⟩; exact ⟨rfl, .inl rfl, fun j hj => nomatch hj⟩) (robjOk_spec ⟨rfl, trivial⟩) (fun j hj => nomatch hj) ?_
  rintro _ ⟨z0, z1, z2, z3, z4, z5, z6, z7, z8, zd, q, hq, rfl⟩
  refine And.intro ⟨by kernel_rfl, Nat.le_of_ble_eq_true (by kernel_rfl)⟩ ?_
  refine SW.ret ?_
  refine retQE _ ⟨⟨z0, z1, z2, z3, z4, z5, z6, z7, z8, zd⟩, (show zd.length ≤ 60 by omega), rfl⟩ (retOkP rfl rfl ?_)
  rfl

theorem s_spec_DrawFrameOk (l : List UInt8) (hl : l.length ≤ 140737488355328) : Ab.SpecE Try.prog 9 1 [(.t 0, .v (Dv (.sl (bytesRows l))))] (fun s => ∃ f : FrameR, f.data.length ≤ 60 ∧ s = [(.t 0, .v f.V)]) := by
  have hl2 : (l.take 2000).length ≤ 2000 := by simp; omega
  refine specE_of_body tabOk Try.func9 rfl (by kernel_rfl) (by decide) (by kernel_rfl) rfl ?_
  refine SW.seq ?_
  refine SW.regT tabOk [0, 2] ?_
  refine And.intro trivial ?_
  refine SW.seq ?_
  refine SW.regE tabOk [2] ?_
  refine And.intro trivial ?_
  refine es_same ?_
  refine ex_callP [(0, 4)] (s_spec_l6Open l hl) rfl rfl rfl rfl rfl rfl rfl (fun j hj => by (obtain rfl : j = 0 := by simpa [newIds, objIds, memN] using hj); rfl) ?_
  refine ee_call (robj := [(4, .box 50 [.d (.sl (bytesRows (l.take 2000))), .d (.i (0))])]) (rl := [(0, 4)]) (bor := []) (news := []) (s_spec_l72Frame (l.take 2000) 0 (by omega) hl2) rfl rfl rfl rfl ⟨mL_pt rfl rfl rfl rfl (mL_box rfl (mCs_d rfl (mCs_d rfl mCs_nil0)) trivial), rfl⟩ (by rintro _ ⟨z0, z1, z2, z3, z4, z5, z6, z7, z8, zd, q, hq, rfl⟩; exact ⟨rfl, .inl rfl, fun j hj => nomatch hj⟩) (robjOk_spec ⟨rfl, trivial⟩) (fun j hj => nomatch hj) ?_
  rintro _ ⟨z0, z1, z2, z3, z4, z5, z6, z7, z8, zd, q, hq, rfl⟩
  refine And.intro ⟨by kernel_rfl, Nat.le_of_ble_eq_true (by kernel_rfl)⟩ ?_
  refine SW.ret ?_
  refine retQE _ ⟨⟨z0, z1, z2, z3, z4, z5, z6, z7, z8, zd⟩, (show zd.length ≤ 60 by omega), rfl⟩ (retOkP rfl rfl ?_)
  rfl

end Go.Proofs.Ytlkfibmjdigmiaa
