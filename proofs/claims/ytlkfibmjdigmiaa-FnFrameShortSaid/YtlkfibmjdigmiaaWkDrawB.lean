import Derived.Test.YtlkfibmjdigmiaaTab
import Derived.Test.YtlkfibmjdigmiaaWkDrawA
import Derived.Test.YtlkfibmjdigmiaaAbDk
import Derived.Test.YtlkfibmjdigmiaaAbBr
namespace Go.Proofs.Ytlkfibmjdigmiaa
open Go Go.Ab Go.RowKit
set_option linter.unusedVariables false
set_option linter.unusedSimpArgs false

theorem s_spec_l72Text (l : List UInt8) (p : Int) (hp : 0 ≤ p ∧ p ≤ 900000) (hl : l.length ≤ 2000) : Ab.SpecE Try.prog 34 1 [(.t 0, .v (.e (.c (.pt 0 0)))), (.o 0, .box 50 [.d (.sl (bytesRows l)), .d (.i (p))])] (fun s => ∃ (x : List UInt8) (q : Int), (p ≤ q ∧ q ≤ p + 40 ∧ x.length ≤ 60) ∧ s = [(.t 0, .v (Dv (.s x))), (.o 0, .box 50 [.d (.sl (bytesRows l)), .d (.i (q))])]) := by
  have hl2 := hl
  refine specE_of_body tabOk Try.func34 rfl (by kernel_rfl) (by decide) (by kernel_rfl) rfl ?_
  refine SW.seq ?_
  refine SW.regT tabOk [0] ?_
  refine And.intro trivial ?_
  refine SW.seq ?_
  refine SW.seq ?_
  refine SW.regT tabOk [0, 6] ?_
  refine And.intro trivial ?_
  refine ex_call (robj := [(0, .box 50 [.d (.sl (bytesRows (l))), .d (.i (p))])]) (rl := [(0, 0)]) (bor := []) (s_pick (l) (p) _ (by omega) hl2) rfl rfl rfl rfl ⟨mL_pt rfl rfl rfl rfl (mL_d rfl rfl (mL_box rfl (mCs_d rfl (mCs_d rfl mCs_nil0)) trivial)), rfl⟩ rfl (.inl rfl) (robjOk_spec ⟨rfl, trivial⟩) (fun _ hj => nomatch hj) ?_
  refine SW.block ?_
  refine SW.seq ?_
  refine SW.regT tabOk [0, 6, 7] ?_
  refine And.intro trivial (And.intro trivial ?_)
  refine SW.cond rfl (fun c7 => ?_) (fun c7 => ?_)
  · skip
    refine SW.seq ?_
    refine SW.regE tabOk [2] ?_
    refine And.intro trivial ?_
    refine ee_call (robj := []) (rl := []) (bor := []) (news := []) (s_spec_l6Many [120] 24 rfl (by omega)) rfl rfl rfl rfl ⟨mL_d rfl rfl (mL_d rfl rfl (trivial)), rfl⟩ (by rintro _ ⟨x1, hx1, rfl⟩; exact ⟨rfl, .inl rfl, fun j hj => nomatch hj⟩) (fun p hp => nomatch hp) (fun j hj => nomatch hj) ?_
    rintro _ ⟨x1, hx1, rfl⟩
    refine ee_call (robj := []) (rl := []) (bor := []) (news := []) (s_spec_l6Many [121] 25 rfl (by omega)) rfl rfl rfl rfl ⟨mL_d rfl rfl (mL_d rfl rfl (trivial)), rfl⟩ (by rintro _ ⟨x2, hx2, rfl⟩; exact ⟨rfl, .inl rfl, fun j hj => nomatch hj⟩) (fun p hp => nomatch hp) (fun j hj => nomatch hj) ?_
    rintro _ ⟨x2, hx2, rfl⟩
    refine And.intro (by exact ⟨by simp, Nat.le_of_ble_eq_true rfl⟩) ?_
    refine ee_frz 12 12 rfl rfl rfl rfl ?_
    refine ee_call (robj := [(0, .box 50 [.d (.sl (bytesRows (l))), .d (.i (p + 1))])]) (rl := [(0, 0)]) (bor := []) (news := []) (s_of (l) (p + 1) (([[], x1, x2, [0, 1], [97, 10]] : List (List UInt8))) (by simp) (by omega) hl2) rfl rfl rfl rfl ⟨mL_pt rfl rfl rfl rfl (mL_d rfl rfl (mL_box rfl (mCs_d rfl (mCs_d rfl mCs_nil0)) trivial)), rfl⟩ (by rintro _ ⟨x, hx, rfl⟩; exact ⟨rfl, .inl rfl, fun j hj => nomatch hj⟩) (robjOk_spec ⟨rfl, trivial⟩) (fun j hj => nomatch hj) ?_
    rintro _ ⟨x, hx, rfl⟩
    refine And.intro trivial ?_
    refine SW.ret ?_
    refine retQE _ ⟨x, p + 1 + 1, ⟨by omega, by omega, ?_⟩, rfl⟩ (retOk _ [] [] rfl ?_ rfl rfl)
    · simp at hx; rcases hx with rfl | rfl | rfl | rfl | rfl <;> first | omega | (simp; done)
    repeat' first | exact trivial | refine mL_nil rfl ?_ | refine mL_d rfl ?_ ?_ | refine mL_own rfl rfl ?_ rfl ?_ | refine mL_row rfl ?_ ?_ | refine mL_pt rfl rfl rfl rfl ?_ | refine mL_box rfl ?_ ?_ | refine mL_agg rfl ?_ ?_ | exact mCs_nil0 | refine mCs_d ?_ ?_ | refine mCs_nil ?_ | refine mCs_own rfl ?_ rfl ?_ | refine mCs_pt rfl rfl rfl ?_
    all_goals rfl
  · skip
    refine SW.seq ?_
    refine SW.regT tabOk [0, 14] ?_
    refine And.intro trivial (And.intro trivial ?_)
    refine SW.cond rfl (fun c14 => ?_) (fun c14 => ?_)
    · skip
      refine SW.seq ?_
      refine SW.regT tabOk [0, 3] ?_
      refine And.intro (by first | trivial | exact Nat.le_of_ble_eq_true rfl | exact ⟨rfl, Nat.le_of_ble_eq_true rfl⟩ | omega | ((repeat' apply And.intro) <;> first | trivial | rfl | exact Nat.le_of_ble_eq_true rfl | omega) | (simp; done) | (simp; omega)) (And.intro trivial ?_)
      refine SW.seq ?_
      refine SW.seq ?_
      refine SW.regT tabOk [0, 3, 4] ?_
      refine And.intro trivial ?_
      refine ex_call (robj := [(0, .box 50 [.d (.sl (bytesRows (l))), .d (.i (p + 1))])]) (rl := [(0, 0)]) (bor := []) (s_pick (l) (p + 1) _ (by omega) hl2) rfl rfl rfl rfl ⟨mL_pt rfl rfl rfl rfl (mL_d rfl rfl (mL_box rfl (mCs_d rfl (mCs_d rfl mCs_nil0)) trivial)), rfl⟩ rfl (.inl rfl) (robjOk_spec ⟨rfl, trivial⟩) (fun _ hj => nomatch hj) ?_
      refine And.intro trivial (And.intro trivial ?_)
      refine SW.block ?_
      -- live at the head: [0, 3, 4]
      have hv := pickV_range l (p := p + 1) (n := 20) (by omega) (by omega)
      refine SW.loopW (n := (wrap64 (1 + pickV l (p + 1) 20)).toNat) (fun m s => ∃ (k q : Int) (b : List UInt8), m = k.toNat ∧ (0 ≤ k ∧ k ≤ 20 ∧ p ≤ q ∧ q + k ≤ p + 30 ∧ b.length + k ≤ 20) ∧ s = [(.t 0, .v (.e (.c (.pt 0 0)))), (.t 3, .v (.e (.c (.own 16 (b).length)))), (.t 4, .v (I (k))), (.o 0, .box 50 [.d (.sl (bytesRows l)), .d (.i (q))]), (.o 16, .row 5 1 (bytesRows (b)))]) ?_ ?_
      · skip
        refine wk [(.t 0, .v (.e (.c (.pt 0 0)))), (.t 3, .v (.e (.c (.own 16 ([]).length)))), (.t 4, .v (I ((wrap64 (1 + pickV l (p + 1) 20))))), (.o 0, .box 50 [.d (.sl (bytesRows l)), .d (.i (p + 1 + 1))]), (.o 16, .row 5 1 (bytesRows ([])))] [] [] (⟨_, p + 1 + 1, [], rfl, ⟨by rw [wrap64_of (by omega)]; omega, by rw [wrap64_of (by omega)]; omega, by omega, by rw [wrap64_of (by omega)]; omega, by rw [wrap64_of (by omega)]; simp; omega⟩, rfl⟩) ?_ rfl rfl
        repeat' first | exact trivial | refine mL_nil rfl ?_ | refine mL_d rfl ?_ ?_ | refine mL_own rfl rfl ?_ rfl ?_ | refine mL_row rfl ?_ ?_ | refine mL_pt rfl rfl rfl rfl ?_ | refine mL_box rfl ?_ ?_ | refine mL_agg rfl ?_ ?_ | exact mCs_nil0 | refine mCs_d ?_ ?_ | refine mCs_nil ?_ | refine mCs_own rfl ?_ rfl ?_ | refine mCs_pt rfl rfl rfl ?_
        all_goals first | with_reducible rfl | (first | rfl | (simp [bytesRows]; done))
      rintro n s ⟨k, q, b, rfl, hk, rfl⟩
      refine SW.seq ?_
      refine SW.seq ?_
      refine SW.regT tabOk [0, 3, 4, 21] ?_
      refine And.intro trivial (And.intro trivial ?_)
      refine SW.cond rfl (fun c21 => ?_) (fun c21 => ?_)
      · skip
        have hk1 : 0 < k := by simpa using c21
        refine SW.skip ?_
        refine SW.seq ?_
        refine SW.block ?_
        refine SW.regT tabOk [0, 3, 4] ?_
        refine And.intro trivial (And.intro trivial ?_)
        refine ex_call (robj := [(0, .box 50 [.d (.sl (bytesRows (l))), .d (.i (q))])]) (rl := [(0, 0)]) (bor := []) (s_pick (l) (q) _ (by omega) hl2) rfl rfl rfl rfl ⟨mL_pt rfl rfl rfl rfl (mL_d rfl rfl (mL_box rfl (mCs_d rfl (mCs_d rfl mCs_nil0)) trivial)), rfl⟩ rfl (.inl rfl) (robjOk_spec ⟨rfl, trivial⟩) (fun _ hj => nomatch hj) ?_
        refine And.intro (by first | trivial | rfl) (And.intro (by first | trivial | exact Nat.le_of_ble_eq_true rfl | exact ⟨rfl, Nat.le_of_ble_eq_true rfl⟩ | omega | ((repeat' apply And.intro) <;> first | trivial | rfl | exact Nat.le_of_ble_eq_true rfl | omega) | (simp; done) | (simp; omega)) (And.intro (by refine ⟨rfl, bytesRows_length _, by simp, ?_⟩; show (_ + 1) * 1 ≤ _; omega) (And.intro trivial ?_)))
        refine SW.regT tabOk [0, 3, 4] ?_
        refine And.intro trivial (And.intro trivial (And.intro trivial ?_))
        refine wk [(.t 0, .v (.e (.c (.pt 0 0)))), (.t 3, .v (.e (.c (.own 16 (b ++ [u8 (pickV l q 256)]).length)))), (.t 4, .v (I (k - 1))), (.o 0, .box 50 [.d (.sl (bytesRows l)), .d (.i (q + 1))]), (.o 16, .row 5 1 (bytesRows (b ++ [u8 (pickV l q 256)])))] [] [] (⟨(k - 1).toNat, by omega, k - 1, q + 1, b ++ [u8 (pickV l q 256)], rfl, ⟨by omega, by omega, by omega, by omega, by rw [List.length_append]; simp; omega⟩, rfl⟩) ?_ rfl rfl
        repeat' first | exact trivial | refine mL_nil rfl ?_ | refine mL_d rfl ?_ ?_ | refine mL_own rfl rfl ?_ rfl ?_ | refine mL_row rfl ?_ ?_ | refine mL_pt rfl rfl rfl rfl ?_ | refine mL_box rfl ?_ ?_ | refine mL_agg rfl ?_ ?_ | exact mCs_nil0 | refine mCs_d ?_ ?_ | refine mCs_nil ?_ | refine mCs_own rfl ?_ rfl ?_ | refine mCs_pt rfl rfl rfl ?_
        all_goals first | with_reducible rfl | (first | exact rows_push _ _ | (simp [bytesRows_length]; done) | exact congrArg D.i (wrap64_of (by omega)))
      · skip
        refine SW.exit ?_
        refine SW.seq ?_
        refine SW.regT tabOk [2] ?_
        refine And.intro trivial (And.intro (by exact ⟨bytesRows_length _, (congrArg bytesRows (rowsBytes_bytesRows _)).symm⟩) (And.intro trivial ?_))
        refine SW.ret ?_
        refine retQE _ ⟨b, q, ⟨by omega, by omega, by omega⟩, rfl⟩ (retOk _ [] [] rfl ?_ rfl rfl)
        repeat' first | exact trivial | refine mL_nil rfl ?_ | refine mL_d rfl ?_ ?_ | refine mL_own rfl rfl ?_ rfl ?_ | refine mL_row rfl ?_ ?_ | refine mL_pt rfl rfl rfl rfl ?_ | refine mL_box rfl ?_ ?_ | refine mL_agg rfl ?_ ?_ | exact mCs_nil0 | refine mCs_d ?_ ?_ | refine mCs_nil ?_ | refine mCs_own rfl ?_ rfl ?_ | refine mCs_pt rfl rfl rfl ?_
        all_goals first | with_reducible rfl | exact congrArg D.s (rowsBytes_bytesRows b)
    · skip
      refine SW.skip ?_
      refine SW.seq ?_
      refine SW.regE tabOk [2] ?_
      refine And.intro trivial (And.intro (by exact ⟨by simp, by decide⟩) ?_)
      refine ee_frz 33 33 rfl rfl rfl rfl ?_
      refine ee_call (robj := [(0, .box 50 [.d (.sl (bytesRows (l))), .d (.i (p + 1))])]) (rl := [(0, 0)]) (bor := []) (news := []) (s_of (l) (p + 1) (([[97], [97, 98, 99, 100], [104, 101, 108, 108, 111], [49, 50, 51, 52, 53, 54, 55, 56], [97, 32, 108, 111, 110, 103, 101, 114, 32, 109, 101, 115, 115, 97, 103, 101], [106, 117, 115, 116, 32, 116, 119, 101, 110, 116, 121, 45, 102, 111, 117, 114, 32, 98, 121, 116, 101, 115, 32, 33], [109, 105, 120, 101, 100, 32, 98, 108, 111, 99, 107, 115], [102, 111, 117, 114, 32, 119, 111, 114, 100, 115, 32, 111, 102, 32, 97, 32, 116, 101, 120, 116]] : List (List UInt8))) (by simp) (by omega) hl2) rfl rfl rfl rfl ⟨mL_pt rfl rfl rfl rfl (mL_d rfl rfl (mL_box rfl (mCs_d rfl (mCs_d rfl mCs_nil0)) trivial)), rfl⟩ (by rintro _ ⟨x, hx, rfl⟩; exact ⟨rfl, .inl rfl, fun j hj => nomatch hj⟩) (robjOk_spec ⟨rfl, trivial⟩) (fun j hj => nomatch hj) ?_
      rintro _ ⟨x, hx, rfl⟩
      refine And.intro trivial ?_
      refine SW.ret ?_
      refine retQE _ ⟨x, p + 1 + 1, ⟨by omega, by omega, ?_⟩, rfl⟩ (retOk _ [] [] rfl ?_ rfl rfl)
      · have hall : ∀ y ∈ ([[97], [97, 98, 99, 100], [104, 101, 108, 108, 111], [49, 50, 51, 52, 53, 54, 55, 56], [97, 32, 108, 111, 110, 103, 101, 114, 32, 109, 101, 115, 115, 97, 103, 101], [106, 117, 115, 116, 32, 116, 119, 101, 110, 116, 121, 45, 102, 111, 117, 114, 32, 98, 121, 116, 101, 115, 32, 33], [109, 105, 120, 101, 100, 32, 98, 108, 111, 99, 107, 115], [102, 111, 117, 114, 32, 119, 111, 114, 100, 115, 32, 111, 102, 32, 97, 32, 116, 101, 120, 116]] : List (List UInt8)), y.length ≤ 60 := by decide
        exact hall x hx
      repeat' first | exact trivial | refine mL_nil rfl ?_ | refine mL_d rfl ?_ ?_ | refine mL_own rfl rfl ?_ rfl ?_ | refine mL_row rfl ?_ ?_ | refine mL_pt rfl rfl rfl rfl ?_ | refine mL_box rfl ?_ ?_ | refine mL_agg rfl ?_ ?_ | exact mCs_nil0 | refine mCs_d ?_ ?_ | refine mCs_nil ?_ | refine mCs_own rfl ?_ rfl ?_ | refine mCs_pt rfl rfl rfl ?_
      all_goals rfl

theorem s_spec_l72Note (l : List UInt8) (p : Int) (hp : 0 ≤ p ∧ p ≤ 800000) (hl : l.length ≤ 2000) : Ab.SpecE Try.prog 31 1 [(.t 0, .v (.e (.c (.pt 0 0)))), (.o 0, .box 50 [.d (.sl (bytesRows l)), .d (.i (p))])] (fun s => ∃ (a b c d : Int) (x : List UInt8) (q : Int), (p ≤ q ∧ q ≤ p + 60 ∧ x.length ≤ 60) ∧ s = [(.t 0, .v (.e (.agg [.d (.i a), .d (.i b), .d (.i c), .d (.i d), .d (.s x)]))), (.o 0, .box 50 [.d (.sl (bytesRows l)), .d (.i (q))])]) := by
  have hl2 := hl
  have hall : ∀ y ∈ ([[97], [104, 101, 108, 108, 111], [97, 32, 108, 111, 110, 103, 101, 114, 32, 109, 101, 115, 115, 97, 103, 101], [32, 120, 32], [106, 117, 115, 116, 32, 116, 119, 101, 110, 116, 121, 45, 102, 111, 117, 114, 32, 98, 121, 116, 101, 115, 32, 33]] : List (List UInt8)), y.length ≤ 60 := by decide
  refine specE_of_body tabOk Try.func31 rfl (by kernel_rfl) (by decide) (by kernel_rfl) rfl ?_
  refine SW.seq ?_
  refine SW.regT tabOk [0, 2] ?_
  refine And.intro trivial ?_
  refine SW.seq ?_
  refine SW.regE tabOk [0, 2, 3] ?_
  refine And.intro trivial ?_
  refine es_same ?_
  refine ex_call (robj := [(0, .box 50 [.d (.sl (bytesRows (l))), .d (.i (p))])]) (rl := [(0, 0)]) (bor := []) (s_pick (l) (p) _ (by omega) hl2) rfl rfl rfl rfl ⟨mL_pt rfl rfl rfl rfl (mL_d rfl rfl (mL_box rfl (mCs_d rfl (mCs_d rfl mCs_nil0)) trivial)), rfl⟩ rfl (.inl rfl) (robjOk_spec ⟨rfl, trivial⟩) (fun _ hj => nomatch hj) ?_
  refine And.intro trivial ?_
  refine es_same ?_
  refine ex_call (robj := [(0, .box 50 [.d (.sl (bytesRows (l))), .d (.i (p + 1))])]) (rl := [(0, 0)]) (bor := []) (s_pick (l) (p + 1) _ (by omega) hl2) rfl rfl rfl rfl ⟨mL_pt rfl rfl rfl rfl (mL_d rfl rfl (mL_box rfl (mCs_d rfl (mCs_d rfl mCs_nil0)) trivial)), rfl⟩ rfl (.inl rfl) (robjOk_spec ⟨rfl, trivial⟩) (fun _ hj => nomatch hj) ?_
  refine And.intro trivial (And.intro trivial ?_)
  refine es_same ?_
  refine ex_call (robj := [(0, .box 50 [.d (.sl (bytesRows (l))), .d (.i (p + 1 + 1))])]) (rl := [(0, 0)]) (bor := []) (s_pick (l) (p + 1 + 1) _ (by omega) hl2) rfl rfl rfl rfl ⟨mL_pt rfl rfl rfl rfl (mL_d rfl rfl (mL_box rfl (mCs_d rfl (mCs_d rfl mCs_nil0)) trivial)), rfl⟩ rfl (.inl rfl) (robjOk_spec ⟨rfl, trivial⟩) (fun _ hj => nomatch hj) ?_
  refine And.intro trivial ?_
  refine es_same ?_
  refine ex_call (robj := [(0, .box 50 [.d (.sl (bytesRows (l))), .d (.i (p + 1 + 1 + 1))])]) (rl := [(0, 0)]) (bor := []) (s_pick (l) (p + 1 + 1 + 1) _ (by omega) hl2) rfl rfl rfl rfl ⟨mL_pt rfl rfl rfl rfl (mL_d rfl rfl (mL_box rfl (mCs_d rfl (mCs_d rfl mCs_nil0)) trivial)), rfl⟩ rfl (.inl rfl) (robjOk_spec ⟨rfl, trivial⟩) (fun _ hj => nomatch hj) ?_
  refine And.intro trivial (And.intro trivial (And.intro (by exact ⟨by simp, by decide⟩) ?_))
  refine ee_frz 15 15 rfl rfl rfl rfl ?_
  refine ee_call (robj := [(0, .box 50 [.d (.sl (bytesRows (l))), .d (.i (p + 1 + 1 + 1 + 1))])]) (rl := [(0, 0)]) (bor := []) (news := []) (s_of (l) (p + 1 + 1 + 1 + 1) (([[97], [104, 101, 108, 108, 111], [97, 32, 108, 111, 110, 103, 101, 114, 32, 109, 101, 115, 115, 97, 103, 101], [32, 120, 32], [106, 117, 115, 116, 32, 116, 119, 101, 110, 116, 121, 45, 102, 111, 117, 114, 32, 98, 121, 116, 101, 115, 32, 33]] : List (List UInt8))) (by simp) (by omega) hl2) rfl rfl rfl rfl ⟨mL_pt rfl rfl rfl rfl (mL_d rfl rfl (mL_box rfl (mCs_d rfl (mCs_d rfl mCs_nil0)) trivial)), rfl⟩ (by rintro _ ⟨x, hx, rfl⟩; exact ⟨rfl, .inl rfl, fun j hj => nomatch hj⟩) (robjOk_spec ⟨rfl, trivial⟩) (fun j hj => nomatch hj) ?_
  rintro _ ⟨x, hx, rfl⟩
  refine And.intro (by first | trivial | exact Nat.le_of_ble_eq_true rfl | exact ⟨rfl, Nat.le_of_ble_eq_true rfl⟩ | omega | ((repeat' apply And.intro) <;> first | trivial | rfl | exact Nat.le_of_ble_eq_true rfl | omega) | (simp; done) | (simp; omega)) (And.intro trivial (And.intro ⟨by kernel_rfl, Nat.le_of_ble_eq_true (by kernel_rfl)⟩ ?_))
  refine SW.seq ?_
  refine SW.seq ?_
  refine SW.regT tabOk [0, 2, 3, 19] ?_
  refine And.intro trivial ?_
  refine ex_call (robj := [(0, .box 50 [.d (.sl (bytesRows (l))), .d (.i (p + 1 + 1 + 1 + 1 + 1))])]) (rl := [(0, 0)]) (bor := []) (s_pick (l) (p + 1 + 1 + 1 + 1 + 1) _ (by omega) hl2) rfl rfl rfl rfl ⟨mL_pt rfl rfl rfl rfl (mL_d rfl rfl (mL_box rfl (mCs_d rfl (mCs_d rfl mCs_nil0)) trivial)), rfl⟩ rfl (.inl rfl) (robjOk_spec ⟨rfl, trivial⟩) (fun _ hj => nomatch hj) ?_
  refine SW.block ?_
  refine SW.seq ?_
  refine SW.regT tabOk [0, 2, 3, 19, 20] ?_
  refine And.intro trivial (And.intro trivial ?_)
  refine SW.cond rfl (fun c20 => ?_) (fun c20 => ?_)
  · skip
    have hv := pickV_range l (p := p + 1 + 1 + 1 + 1 + 1 + 1) (n := 2) (by omega) (by omega)
    refine SW.regT tabOk [2, 3] ?_
    refine And.intro (by exact ⟨by simp, by decide⟩) (And.intro trivial ?_)
    refine ex_call (robj := [(0, .box 50 [.d (.sl (bytesRows (l))), .d (.i (p + 1 + 1 + 1 + 1 + 1 + 1))])]) (rl := [(0, 0)]) (bor := []) (s_pick (l) (p + 1 + 1 + 1 + 1 + 1 + 1) _ (by omega) hl2) rfl rfl rfl rfl ⟨mL_pt rfl rfl rfl rfl (mL_d rfl rfl (mL_box rfl (mCs_d rfl (mCs_d rfl mCs_nil0)) trivial)), rfl⟩ rfl (.inl rfl) (robjOk_spec ⟨rfl, trivial⟩) (fun _ hj => nomatch hj) ?_
    refine And.intro ⟨rfl, hv.1, hv.2⟩ (And.intro (oldI (l := [-1, 4]) (by simp; omega) rfl) (And.intro (by first | trivial | rfl) (And.intro ⟨by kernel_rfl, Nat.le_of_ble_eq_true (by kernel_rfl)⟩ ?_)))
    refine SW.seq ?_
    refine SW.regT tabOk [2] ?_
    refine And.intro (by first | trivial | exact Nat.le_of_ble_eq_true rfl | exact ⟨rfl, Nat.le_of_ble_eq_true rfl⟩ | omega | ((repeat' apply And.intro) <;> first | trivial | rfl | exact Nat.le_of_ble_eq_true rfl | omega) | (simp; done) | (simp; omega)) (And.intro ⟨by kernel_rfl, Nat.le_of_ble_eq_true (by kernel_rfl)⟩ ?_)
    refine SW.ret ?_
    first
      | (refine retQE _ ⟨?za4, ?zb4, ?zc4, ?zd4, x, p + 1 + 1 + 1 + 1 + 1 + 1 + 1, ⟨by omega, by omega, hall x hx⟩, rfl⟩ (retOk _ [] [] rfl ?_ rfl rfl)
         repeat' first | exact trivial | refine mL_nil rfl ?_ | refine mL_d rfl ?_ ?_ | refine mL_own rfl rfl ?_ rfl ?_ | refine mL_row rfl ?_ ?_ | refine mL_pt rfl rfl rfl rfl ?_ | refine mL_box rfl ?_ ?_ | refine mL_agg rfl ?_ ?_ | exact mCs_nil0 | refine mCs_d ?_ ?_ | refine mCs_nil ?_ | refine mCs_own rfl ?_ rfl ?_ | refine mCs_pt rfl rfl rfl ?_
         any_goals rfl
         done)
      | (refine retQE _ ⟨?za4, ?zb4, ?zc4, ?zd4, x, p + 1 + 1 + 1 + 1 + 1 + 1, ⟨by omega, by omega, hall x hx⟩, rfl⟩ (retOk _ [] [] rfl ?_ rfl rfl)
         repeat' first | exact trivial | refine mL_nil rfl ?_ | refine mL_d rfl ?_ ?_ | refine mL_own rfl rfl ?_ rfl ?_ | refine mL_row rfl ?_ ?_ | refine mL_pt rfl rfl rfl rfl ?_ | refine mL_box rfl ?_ ?_ | refine mL_agg rfl ?_ ?_ | exact mCs_nil0 | refine mCs_d ?_ ?_ | refine mCs_nil ?_ | refine mCs_own rfl ?_ rfl ?_ | refine mCs_pt rfl rfl rfl ?_
         any_goals rfl
         done)
      | (refine retQE _ ⟨?za4, ?zb4, ?zc4, ?zd4, y, q, ⟨by omega, by omega, by omega⟩, rfl⟩ (retOk _ [] [] rfl ?_ rfl rfl)
         repeat' first | exact trivial | refine mL_nil rfl ?_ | refine mL_d rfl ?_ ?_ | refine mL_own rfl rfl ?_ rfl ?_ | refine mL_row rfl ?_ ?_ | refine mL_pt rfl rfl rfl rfl ?_ | refine mL_box rfl ?_ ?_ | refine mL_agg rfl ?_ ?_ | exact mCs_nil0 | refine mCs_d ?_ ?_ | refine mCs_nil ?_ | refine mCs_own rfl ?_ rfl ?_ | refine mCs_pt rfl rfl rfl ?_
         any_goals rfl
         done)
  · skip
    refine SW.seq ?_
    refine SW.regT tabOk [0, 2, 3, 19, 28] ?_
    refine And.intro trivial (And.intro trivial ?_)
    refine SW.cond rfl (fun c28 => ?_) (fun c28 => ?_)
    · skip
      have hv := pickV_range l (p := p + 1 + 1 + 1 + 1 + 1 + 1) (n := 3) (by omega) (by omega)
      refine SW.regT tabOk [2, 3] ?_
      refine And.intro (by exact ⟨by simp, by decide⟩) (And.intro trivial ?_)
      refine ex_call (robj := [(0, .box 50 [.d (.sl (bytesRows (l))), .d (.i (p + 1 + 1 + 1 + 1 + 1 + 1))])]) (rl := [(0, 0)]) (bor := []) (s_pick (l) (p + 1 + 1 + 1 + 1 + 1 + 1) _ (by omega) hl2) rfl rfl rfl rfl ⟨mL_pt rfl rfl rfl rfl (mL_d rfl rfl (mL_box rfl (mCs_d rfl (mCs_d rfl mCs_nil0)) trivial)), rfl⟩ rfl (.inl rfl) (robjOk_spec ⟨rfl, trivial⟩) (fun _ hj => nomatch hj) ?_
      refine And.intro ⟨rfl, hv.1, hv.2⟩ (And.intro (oldI (l := [0, 99, 100]) (by simp; omega) rfl) (And.intro (by first | trivial | rfl) (And.intro ⟨by kernel_rfl, Nat.le_of_ble_eq_true (by kernel_rfl)⟩ ?_)))
      refine SW.seq ?_
      refine SW.regT tabOk [2] ?_
      refine And.intro (by first | trivial | exact Nat.le_of_ble_eq_true rfl | exact ⟨rfl, Nat.le_of_ble_eq_true rfl⟩ | omega | ((repeat' apply And.intro) <;> first | trivial | rfl | exact Nat.le_of_ble_eq_true rfl | omega) | (simp; done) | (simp; omega)) (And.intro ⟨by kernel_rfl, Nat.le_of_ble_eq_true (by kernel_rfl)⟩ ?_)
      refine SW.ret ?_
      first
        | (refine retQE _ ⟨?za5, ?zb5, ?zc5, ?zd5, x, p + 1 + 1 + 1 + 1 + 1 + 1 + 1, ⟨by omega, by omega, hall x hx⟩, rfl⟩ (retOk _ [] [] rfl ?_ rfl rfl)
           repeat' first | exact trivial | refine mL_nil rfl ?_ | refine mL_d rfl ?_ ?_ | refine mL_own rfl rfl ?_ rfl ?_ | refine mL_row rfl ?_ ?_ | refine mL_pt rfl rfl rfl rfl ?_ | refine mL_box rfl ?_ ?_ | refine mL_agg rfl ?_ ?_ | exact mCs_nil0 | refine mCs_d ?_ ?_ | refine mCs_nil ?_ | refine mCs_own rfl ?_ rfl ?_ | refine mCs_pt rfl rfl rfl ?_
           any_goals rfl
           done)
        | (refine retQE _ ⟨?za5, ?zb5, ?zc5, ?zd5, x, p + 1 + 1 + 1 + 1 + 1 + 1, ⟨by omega, by omega, hall x hx⟩, rfl⟩ (retOk _ [] [] rfl ?_ rfl rfl)
           repeat' first | exact trivial | refine mL_nil rfl ?_ | refine mL_d rfl ?_ ?_ | refine mL_own rfl rfl ?_ rfl ?_ | refine mL_row rfl ?_ ?_ | refine mL_pt rfl rfl rfl rfl ?_ | refine mL_box rfl ?_ ?_ | refine mL_agg rfl ?_ ?_ | exact mCs_nil0 | refine mCs_d ?_ ?_ | refine mCs_nil ?_ | refine mCs_own rfl ?_ rfl ?_ | refine mCs_pt rfl rfl rfl ?_
           any_goals rfl
           done)
        | (refine retQE _ ⟨?za5, ?zb5, ?zc5, ?zd5, y, q, ⟨by omega, by omega, by omega⟩, rfl⟩ (retOk _ [] [] rfl ?_ rfl rfl)
           repeat' first | exact trivial | refine mL_nil rfl ?_ | refine mL_d rfl ?_ ?_ | refine mL_own rfl rfl ?_ rfl ?_ | refine mL_row rfl ?_ ?_ | refine mL_pt rfl rfl rfl rfl ?_ | refine mL_box rfl ?_ ?_ | refine mL_agg rfl ?_ ?_ | exact mCs_nil0 | refine mCs_d ?_ ?_ | refine mCs_nil ?_ | refine mCs_own rfl ?_ rfl ?_ | refine mCs_pt rfl rfl rfl ?_
           any_goals rfl
           done)
    · skip
      refine SW.seq ?_
      refine SW.regT tabOk [0, 2, 3, 19, 36] ?_
      refine And.intro trivial (And.intro trivial ?_)
      refine SW.cond rfl (fun c36 => ?_) (fun c36 => ?_)
      · skip
        have hv := pickV_range l (p := p + 1 + 1 + 1 + 1 + 1 + 1) (n := 3) (by omega) (by omega)
        refine SW.regT tabOk [2, 3] ?_
        refine And.intro (by exact ⟨by simp, by decide⟩) (And.intro trivial ?_)
        refine ex_call (robj := [(0, .box 50 [.d (.sl (bytesRows (l))), .d (.i (p + 1 + 1 + 1 + 1 + 1 + 1))])]) (rl := [(0, 0)]) (bor := []) (s_pick (l) (p + 1 + 1 + 1 + 1 + 1 + 1) _ (by omega) hl2) rfl rfl rfl rfl ⟨mL_pt rfl rfl rfl rfl (mL_d rfl rfl (mL_box rfl (mCs_d rfl (mCs_d rfl mCs_nil0)) trivial)), rfl⟩ rfl (.inl rfl) (robjOk_spec ⟨rfl, trivial⟩) (fun _ hj => nomatch hj) ?_
        refine And.intro ⟨rfl, hv.1, hv.2⟩ (And.intro (oldI (l := [0, 999, 1000]) (by simp; omega) rfl) (And.intro (by first | trivial | rfl) (And.intro ⟨by kernel_rfl, Nat.le_of_ble_eq_true (by kernel_rfl)⟩ ?_)))
        refine SW.seq ?_
        refine SW.regT tabOk [2] ?_
        refine And.intro (by first | trivial | exact Nat.le_of_ble_eq_true rfl | exact ⟨rfl, Nat.le_of_ble_eq_true rfl⟩ | omega | ((repeat' apply And.intro) <;> first | trivial | rfl | exact Nat.le_of_ble_eq_true rfl | omega) | (simp; done) | (simp; omega)) (And.intro ⟨by kernel_rfl, Nat.le_of_ble_eq_true (by kernel_rfl)⟩ ?_)
        refine SW.ret ?_
        first
          | (refine retQE _ ⟨?za6, ?zb6, ?zc6, ?zd6, x, p + 1 + 1 + 1 + 1 + 1 + 1 + 1, ⟨by omega, by omega, hall x hx⟩, rfl⟩ (retOk _ [] [] rfl ?_ rfl rfl)
             repeat' first | exact trivial | refine mL_nil rfl ?_ | refine mL_d rfl ?_ ?_ | refine mL_own rfl rfl ?_ rfl ?_ | refine mL_row rfl ?_ ?_ | refine mL_pt rfl rfl rfl rfl ?_ | refine mL_box rfl ?_ ?_ | refine mL_agg rfl ?_ ?_ | exact mCs_nil0 | refine mCs_d ?_ ?_ | refine mCs_nil ?_ | refine mCs_own rfl ?_ rfl ?_ | refine mCs_pt rfl rfl rfl ?_
             any_goals rfl
             done)
          | (refine retQE _ ⟨?za6, ?zb6, ?zc6, ?zd6, x, p + 1 + 1 + 1 + 1 + 1 + 1, ⟨by omega, by omega, hall x hx⟩, rfl⟩ (retOk _ [] [] rfl ?_ rfl rfl)
             repeat' first | exact trivial | refine mL_nil rfl ?_ | refine mL_d rfl ?_ ?_ | refine mL_own rfl rfl ?_ rfl ?_ | refine mL_row rfl ?_ ?_ | refine mL_pt rfl rfl rfl rfl ?_ | refine mL_box rfl ?_ ?_ | refine mL_agg rfl ?_ ?_ | exact mCs_nil0 | refine mCs_d ?_ ?_ | refine mCs_nil ?_ | refine mCs_own rfl ?_ rfl ?_ | refine mCs_pt rfl rfl rfl ?_
             any_goals rfl
             done)
          | (refine retQE _ ⟨?za6, ?zb6, ?zc6, ?zd6, y, q, ⟨by omega, by omega, by omega⟩, rfl⟩ (retOk _ [] [] rfl ?_ rfl rfl)
             repeat' first | exact trivial | refine mL_nil rfl ?_ | refine mL_d rfl ?_ ?_ | refine mL_own rfl rfl ?_ rfl ?_ | refine mL_row rfl ?_ ?_ | refine mL_pt rfl rfl rfl rfl ?_ | refine mL_box rfl ?_ ?_ | refine mL_agg rfl ?_ ?_ | exact mCs_nil0 | refine mCs_d ?_ ?_ | refine mCs_nil ?_ | refine mCs_own rfl ?_ rfl ?_ | refine mCs_pt rfl rfl rfl ?_
             any_goals rfl
             done)
      · skip
        refine SW.seq ?_
        refine SW.regT tabOk [0, 2, 3, 19, 44] ?_
        refine And.intro trivial (And.intro trivial ?_)
        refine SW.cond rfl (fun c44 => ?_) (fun c44 => ?_)
        · skip
          refine SW.regE tabOk [2, 3] ?_
          refine And.intro trivial ?_
          refine ee_call (robj := [(0, .box 50 [.d (.sl (bytesRows (l))), .d (.i (p + 1 + 1 + 1 + 1 + 1 + 1))])]) (rl := [(0, 0)]) (bor := []) (news := []) (s_spec_l72Text l (p + 1 + 1 + 1 + 1 + 1 + 1) (by omega) hl) rfl rfl rfl rfl ⟨mL_pt rfl rfl rfl rfl (mL_box rfl (mCs_d rfl (mCs_d rfl mCs_nil0)) trivial), rfl⟩ (by rintro _ ⟨y, q, hq, rfl⟩; exact ⟨rfl, .inl rfl, fun j hj => nomatch hj⟩) (robjOk_spec ⟨rfl, trivial⟩) (fun j hj => nomatch hj) ?_
          rintro _ ⟨y, q, hq, rfl⟩
          refine And.intro (by first | trivial | rfl) (And.intro ⟨by kernel_rfl, Nat.le_of_ble_eq_true (by kernel_rfl)⟩ ?_)
          refine SW.seq ?_
          refine SW.regT tabOk [2] ?_
          refine And.intro (by first | trivial | exact Nat.le_of_ble_eq_true rfl | exact ⟨rfl, Nat.le_of_ble_eq_true rfl⟩ | omega | ((repeat' apply And.intro) <;> first | trivial | rfl | exact Nat.le_of_ble_eq_true rfl | omega) | (simp; done) | (simp; omega)) (And.intro ⟨by kernel_rfl, Nat.le_of_ble_eq_true (by kernel_rfl)⟩ ?_)
          refine SW.ret ?_
          first
            | (refine retQE _ ⟨?za7, ?zb7, ?zc7, ?zd7, x, p + 1 + 1 + 1 + 1 + 1 + 1 + 1, ⟨by omega, by omega, hall x hx⟩, rfl⟩ (retOk _ [] [] rfl ?_ rfl rfl)
               repeat' first | exact trivial | refine mL_nil rfl ?_ | refine mL_d rfl ?_ ?_ | refine mL_own rfl rfl ?_ rfl ?_ | refine mL_row rfl ?_ ?_ | refine mL_pt rfl rfl rfl rfl ?_ | refine mL_box rfl ?_ ?_ | refine mL_agg rfl ?_ ?_ | exact mCs_nil0 | refine mCs_d ?_ ?_ | refine mCs_nil ?_ | refine mCs_own rfl ?_ rfl ?_ | refine mCs_pt rfl rfl rfl ?_
               any_goals rfl
               done)
            | (refine retQE _ ⟨?za7, ?zb7, ?zc7, ?zd7, x, p + 1 + 1 + 1 + 1 + 1 + 1, ⟨by omega, by omega, hall x hx⟩, rfl⟩ (retOk _ [] [] rfl ?_ rfl rfl)
               repeat' first | exact trivial | refine mL_nil rfl ?_ | refine mL_d rfl ?_ ?_ | refine mL_own rfl rfl ?_ rfl ?_ | refine mL_row rfl ?_ ?_ | refine mL_pt rfl rfl rfl rfl ?_ | refine mL_box rfl ?_ ?_ | refine mL_agg rfl ?_ ?_ | exact mCs_nil0 | refine mCs_d ?_ ?_ | refine mCs_nil ?_ | refine mCs_own rfl ?_ rfl ?_ | refine mCs_pt rfl rfl rfl ?_
               any_goals rfl
               done)
            | (refine retQE _ ⟨?za7, ?zb7, ?zc7, ?zd7, y, q, ⟨by omega, by omega, by omega⟩, rfl⟩ (retOk _ [] [] rfl ?_ rfl rfl)
               repeat' first | exact trivial | refine mL_nil rfl ?_ | refine mL_d rfl ?_ ?_ | refine mL_own rfl rfl ?_ rfl ?_ | refine mL_row rfl ?_ ?_ | refine mL_pt rfl rfl rfl rfl ?_ | refine mL_box rfl ?_ ?_ | refine mL_agg rfl ?_ ?_ | exact mCs_nil0 | refine mCs_d ?_ ?_ | refine mCs_nil ?_ | refine mCs_own rfl ?_ rfl ?_ | refine mCs_pt rfl rfl rfl ?_
               any_goals rfl
               done)
        · skip
          refine SW.seq ?_
          refine SW.regT tabOk [0, 2, 3, 49] ?_
          refine And.intro trivial (And.intro trivial ?_)
          refine SW.cond rfl (fun c49 => ?_) (fun c49 => ?_)
          · skip
            have hv := pickV_range l (p := p + 1 + 1 + 1 + 1 + 1 + 1) (n := 2) (by omega) (by omega)
            refine SW.regT tabOk [2, 3] ?_
            refine And.intro (by exact ⟨by simp, by decide⟩) (And.intro trivial ?_)
            refine ex_call (robj := [(0, .box 50 [.d (.sl (bytesRows (l))), .d (.i (p + 1 + 1 + 1 + 1 + 1 + 1))])]) (rl := [(0, 0)]) (bor := []) (s_pick (l) (p + 1 + 1 + 1 + 1 + 1 + 1) _ (by omega) hl2) rfl rfl rfl rfl ⟨mL_pt rfl rfl rfl rfl (mL_d rfl rfl (mL_box rfl (mCs_d rfl (mCs_d rfl mCs_nil0)) trivial)), rfl⟩ rfl (.inl rfl) (robjOk_spec ⟨rfl, trivial⟩) (fun _ hj => nomatch hj) ?_
            refine And.intro ⟨rfl, hv.1, hv.2⟩ (And.intro (oldI (l := [-1, 4]) (by simp; omega) rfl) (And.intro (by first | trivial | rfl) (And.intro ⟨by kernel_rfl, Nat.le_of_ble_eq_true (by kernel_rfl)⟩ ?_)))
            refine SW.seq ?_
            refine SW.regT tabOk [2] ?_
            refine And.intro (by first | trivial | exact Nat.le_of_ble_eq_true rfl | exact ⟨rfl, Nat.le_of_ble_eq_true rfl⟩ | omega | ((repeat' apply And.intro) <;> first | trivial | rfl | exact Nat.le_of_ble_eq_true rfl | omega) | (simp; done) | (simp; omega)) (And.intro ⟨by kernel_rfl, Nat.le_of_ble_eq_true (by kernel_rfl)⟩ ?_)
            refine SW.ret ?_
            first
              | (refine retQE _ ⟨?za8, ?zb8, ?zc8, ?zd8, x, p + 1 + 1 + 1 + 1 + 1 + 1 + 1, ⟨by omega, by omega, hall x hx⟩, rfl⟩ (retOk _ [] [] rfl ?_ rfl rfl)
                 repeat' first | exact trivial | refine mL_nil rfl ?_ | refine mL_d rfl ?_ ?_ | refine mL_own rfl rfl ?_ rfl ?_ | refine mL_row rfl ?_ ?_ | refine mL_pt rfl rfl rfl rfl ?_ | refine mL_box rfl ?_ ?_ | refine mL_agg rfl ?_ ?_ | exact mCs_nil0 | refine mCs_d ?_ ?_ | refine mCs_nil ?_ | refine mCs_own rfl ?_ rfl ?_ | refine mCs_pt rfl rfl rfl ?_
                 any_goals rfl
                 done)
              | (refine retQE _ ⟨?za8, ?zb8, ?zc8, ?zd8, x, p + 1 + 1 + 1 + 1 + 1 + 1, ⟨by omega, by omega, hall x hx⟩, rfl⟩ (retOk _ [] [] rfl ?_ rfl rfl)
                 repeat' first | exact trivial | refine mL_nil rfl ?_ | refine mL_d rfl ?_ ?_ | refine mL_own rfl rfl ?_ rfl ?_ | refine mL_row rfl ?_ ?_ | refine mL_pt rfl rfl rfl rfl ?_ | refine mL_box rfl ?_ ?_ | refine mL_agg rfl ?_ ?_ | exact mCs_nil0 | refine mCs_d ?_ ?_ | refine mCs_nil ?_ | refine mCs_own rfl ?_ rfl ?_ | refine mCs_pt rfl rfl rfl ?_
                 any_goals rfl
                 done)
              | (refine retQE _ ⟨?za8, ?zb8, ?zc8, ?zd8, y, q, ⟨by omega, by omega, by omega⟩, rfl⟩ (retOk _ [] [] rfl ?_ rfl rfl)
                 repeat' first | exact trivial | refine mL_nil rfl ?_ | refine mL_d rfl ?_ ?_ | refine mL_own rfl rfl ?_ rfl ?_ | refine mL_row rfl ?_ ?_ | refine mL_pt rfl rfl rfl rfl ?_ | refine mL_box rfl ?_ ?_ | refine mL_agg rfl ?_ ?_ | exact mCs_nil0 | refine mCs_d ?_ ?_ | refine mCs_nil ?_ | refine mCs_own rfl ?_ rfl ?_ | refine mCs_pt rfl rfl rfl ?_
                 any_goals rfl
                 done)
          · skip
            refine SW.skip ?_
            refine SW.seq ?_
            refine SW.regT tabOk [2] ?_
            refine And.intro (by first | trivial | exact Nat.le_of_ble_eq_true rfl | exact ⟨rfl, Nat.le_of_ble_eq_true rfl⟩ | omega | ((repeat' apply And.intro) <;> first | trivial | rfl | exact Nat.le_of_ble_eq_true rfl | omega) | (simp; done) | (simp; omega)) (And.intro ⟨by kernel_rfl, Nat.le_of_ble_eq_true (by kernel_rfl)⟩ ?_)
            refine SW.ret ?_
            first
              | (refine retQE _ ⟨?za9, ?zb9, ?zc9, ?zd9, x, p + 1 + 1 + 1 + 1 + 1 + 1 + 1, ⟨by omega, by omega, hall x hx⟩, rfl⟩ (retOk _ [] [] rfl ?_ rfl rfl)
                 repeat' first | exact trivial | refine mL_nil rfl ?_ | refine mL_d rfl ?_ ?_ | refine mL_own rfl rfl ?_ rfl ?_ | refine mL_row rfl ?_ ?_ | refine mL_pt rfl rfl rfl rfl ?_ | refine mL_box rfl ?_ ?_ | refine mL_agg rfl ?_ ?_ | exact mCs_nil0 | refine mCs_d ?_ ?_ | refine mCs_nil ?_ | refine mCs_own rfl ?_ rfl ?_ | refine mCs_pt rfl rfl rfl ?_
                 any_goals rfl
                 done)
              | (refine retQE _ ⟨?za9, ?zb9, ?zc9, ?zd9, x, p + 1 + 1 + 1 + 1 + 1 + 1, ⟨by omega, by omega, hall x hx⟩, rfl⟩ (retOk _ [] [] rfl ?_ rfl rfl)
                 repeat' first | exact trivial | refine mL_nil rfl ?_ | refine mL_d rfl ?_ ?_ | refine mL_own rfl rfl ?_ rfl ?_ | refine mL_row rfl ?_ ?_ | refine mL_pt rfl rfl rfl rfl ?_ | refine mL_box rfl ?_ ?_ | refine mL_agg rfl ?_ ?_ | exact mCs_nil0 | refine mCs_d ?_ ?_ | refine mCs_nil ?_ | refine mCs_own rfl ?_ rfl ?_ | refine mCs_pt rfl rfl rfl ?_
                 any_goals rfl
                 done)
              | (refine retQE _ ⟨?za9, ?zb9, ?zc9, ?zd9, y, q, ⟨by omega, by omega, by omega⟩, rfl⟩ (retOk _ [] [] rfl ?_ rfl rfl)
                 repeat' first | exact trivial | refine mL_nil rfl ?_ | refine mL_d rfl ?_ ?_ | refine mL_own rfl rfl ?_ rfl ?_ | refine mL_row rfl ?_ ?_ | refine mL_pt rfl rfl rfl rfl ?_ | refine mL_box rfl ?_ ?_ | refine mL_agg rfl ?_ ?_ | exact mCs_nil0 | refine mCs_d ?_ ?_ | refine mCs_nil ?_ | refine mCs_own rfl ?_ rfl ?_ | refine mCs_pt rfl rfl rfl ?_
                 any_goals rfl
                 done)

end Go.Proofs.Ytlkfibmjdigmiaa
