import Derived.Test.YtlkfibmjdigmiaaTab
import Derived.Test.YtlkfibmjdigmiaaWkMixA
import Derived.Test.YtlkfibmjdigmiaaAbDk
import Derived.Test.YtlkfibmjdigmiaaAbBr
namespace Go.Proofs.Ytlkfibmjdigmiaa
open Go Go.Ab Go.RowKit
set_option linter.unusedVariables false
set_option linter.unusedSimpArgs false

theorem s_spec_MixOf (b n : Int) : Ab.SpecE Try.prog 36 2 [(.t 0, .v (I b)), (.t 1, .v (I n))] (fun s => ∃ o : List Int, (o.length ≤ 6 ∧ ∀ x ∈ o, 0 ≤ x ∧ x < b) ∧ s = [(.t 0, .v (.e (.c (.own 0 o.length)))), (.o 0, .row 3 1 (intRows o))]) := by
  refine specE_of_body tabOk Try.func36 rfl (by kernel_rfl) (by decide) (by kernel_rfl) rfl ?_
  refine SW.seq ?_
  refine SW.regT tabOk [0, 1] ?_
  refine And.intro trivial ?_
  refine SW.seq ?_
  refine SW.regT tabOk [0, 1, 5] ?_
  refine And.intro (by first | trivial | exact Nat.le_of_ble_eq_true rfl | exact ⟨rfl, Nat.le_of_ble_eq_true rfl⟩ | omega | ((repeat' apply And.intro) <;> first | trivial | rfl | exact Nat.le_of_ble_eq_true rfl | omega) | (simp; done) | (simp; omega)) (And.intro trivial ?_)
  refine SW.seq ?_
  refine SW.seq ?_
  refine SW.regT tabOk [0, 1, 5, 15] ?_
  refine And.intro trivial (And.intro trivial ?_)
  refine ex_pure (s_spec_l1Ok _ _) rfl rfl rfl rfl rfl rfl rfl rfl ?_
  refine And.intro trivial ?_
  refine SW.cond rfl (fun c15 => ?_) (fun c15 => ?_)
  · skip
    refine SW.seq ?_
    refine SW.regT tabOk [4] ?_
    refine And.intro trivial (And.intro trivial ?_)
    refine SW.ret ?_
    refine retQE _ ⟨[], ⟨by simp, by simp⟩, rfl⟩ (retOk _ [(0, 11)] [] rfl ?_ rfl rfl)
    repeat' first | exact trivial | refine mL_nil rfl ?_ | refine mL_d rfl ?_ ?_ | refine mL_own rfl rfl ?_ rfl ?_ | refine mL_row rfl ?_ ?_ | refine mL_pt rfl rfl rfl rfl ?_ | refine mL_box rfl ?_ ?_ | refine mL_agg rfl ?_ ?_ | exact mCs_nil0 | refine mCs_d ?_ ?_ | refine mCs_nil ?_ | refine mCs_own rfl ?_ rfl ?_ | refine mCs_pt rfl rfl rfl ?_
    all_goals rfl
  · skip
    obtain ⟨hb, hn⟩ := l1Ok_spec (b := b) (n := n) (by simpa using c15)
    refine SW.skip ?_
    refine SW.seq ?_
    refine SW.seq ?_
    refine SW.regT tabOk [0, 1, 5, 19] ?_
    refine And.intro trivial (And.intro trivial (And.intro trivial ?_))
    refine SW.cond rfl (fun c19 => ?_) (fun c19 => ?_)
    · skip
      have hnb : n < b := by simpa using c19
      refine SW.seq ?_
      refine SW.regT tabOk [4] ?_
      refine And.intro trivial (And.intro trivial (And.intro (by first | trivial | exact Nat.le_of_ble_eq_true rfl | exact ⟨rfl, Nat.le_of_ble_eq_true rfl⟩ | omega | ((repeat' apply And.intro) <;> first | trivial | rfl | exact Nat.le_of_ble_eq_true rfl | omega) | (simp; done) | (simp; omega)) (And.intro (by first | trivial | exact Nat.le_of_ble_eq_true rfl | exact ⟨rfl, Nat.le_of_ble_eq_true rfl⟩ | omega | ((repeat' apply And.intro) <;> first | trivial | rfl | exact Nat.le_of_ble_eq_true rfl | omega) | (simp; done) | (simp; omega)) (And.intro trivial ?_))))
      refine SW.ret ?_
      refine retQE _ ⟨[n], ⟨by simp, by simp; omega⟩, rfl⟩ (retOk _ [(0, 11)] [] rfl ?_ rfl rfl)
      repeat' first | exact trivial | refine mL_nil rfl ?_ | refine mL_d rfl ?_ ?_ | refine mL_own rfl rfl ?_ rfl ?_ | refine mL_row rfl ?_ ?_ | refine mL_pt rfl rfl rfl rfl ?_ | refine mL_box rfl ?_ ?_ | refine mL_agg rfl ?_ ?_ | exact mCs_nil0 | refine mCs_d ?_ ?_ | refine mCs_nil ?_ | refine mCs_own rfl ?_ rfl ?_ | refine mCs_pt rfl rfl rfl ?_
      all_goals rfl
    · skip
      refine SW.skip ?_
      refine SW.seq ?_
      refine SW.regT tabOk [0, 1, 5, 6] ?_
      refine And.intro trivial (And.intro (by refine ⟨rfl, by omega, ?_⟩; show ((1 : Nat) : Int) * _ ≤ _; omega) (And.intro trivial ?_))
      refine SW.seq ?_
      refine SW.regT tabOk [0, 1, 5, 6, 7] ?_
      refine And.intro trivial (And.intro trivial (And.intro trivial ?_))
      refine ex_pure (s_spec_RandNext _) rfl rfl rfl rfl rfl rfl rfl rfl ?_
      refine And.intro trivial ?_
      refine SW.seq ?_
      refine SW.seq ?_
      refine SW.regE tabOk [0, 5, 6, 7, 8] ?_
      refine And.intro trivial (And.intro trivial ?_)
      refine ee_call (robj := []) (rl := []) (bor := []) (news := []) (s_spec_MixDegree b n hb hn) rfl rfl rfl rfl ⟨mL_d rfl rfl (mL_d rfl rfl (trivial)), rfl⟩ (by rintro _ ⟨v, hv, rfl⟩; exact ⟨rfl, .inl rfl, fun j hj => nomatch hj⟩) (fun p hp => nomatch hp) (fun j hj => nomatch hj) ?_
      rintro _ ⟨v, hv, rfl⟩
      refine And.intro trivial ?_
      refine SW.block ?_
      -- live at the head: [0, 5, 6, 7, 8]
      obtain ⟨u0, hu0, hu1, hu2⟩ : ∃ u : List Bool, u = List.replicate b.toNat false ∧ u.length = b.toNat ∧ u.count true = 0 := ⟨_, rfl, List.length_replicate .., by simp [List.count_replicate]⟩
      have hr := randNext_range (wrap64 (wrap64 (n * 7) + 1))
      refine SW.loopW (n := v.toNat) (fun m s => ∃ (x k : Int) (u : List Bool), m = k.toNat ∧ ((0 ≤ x ∧ x < 65536) ∧ (0 ≤ k ∧ k ≤ b) ∧ (u.length : Int) = b ∧ (u.count true : Int) + k ≤ b) ∧ s = [(.t 0, .v (I b)), (.t 5, .v (.e (.c (.own 11 (([] : List Int)).length)))), (.t 6, .v (.e (.c (.own 25 (u).length)))), (.t 7, .v (I (x))), (.t 8, .v (I (k))), (.o 11, .row 3 1 (intRows ([]))), (.o 25, .row 4 1 (boolRows (u)))]) ?_ ?_
      · skip
        refine wk [(.t 0, .v (I b)), (.t 5, .v (.e (.c (.own 11 (([] : List Int)).length)))), (.t 6, .v (.e (.c (.own 25 (u0).length)))), (.t 7, .v (I (randNext (wrap64 (wrap64 (n * 7) + 1))))), (.t 8, .v (I (v))), (.o 11, .row 3 1 (intRows ([]))), (.o 25, .row 4 1 (boolRows (u0)))] [] [] (⟨_, v, u0, rfl, ⟨hr, by omega, by omega, by rw [hu2]; omega⟩, rfl⟩) ?_ rfl rfl
        repeat' first | exact trivial | refine mL_nil rfl ?_ | refine mL_d rfl ?_ ?_ | refine mL_own rfl rfl ?_ rfl ?_ | refine mL_row rfl ?_ ?_ | refine mL_pt rfl rfl rfl rfl ?_ | refine mL_box rfl ?_ ?_ | refine mL_agg rfl ?_ ?_ | exact mCs_nil0 | refine mCs_d ?_ ?_ | refine mCs_nil ?_ | refine mCs_own rfl ?_ rfl ?_ | refine mCs_pt rfl rfl rfl ?_
        all_goals first | with_reducible rfl | (first | with_reducible rfl | (rw [hu0]; exact repT _) | (simp [intRows]; done) | (simp [hu1]; done) | omega)
      rintro n s ⟨x, k, u, rfl, hk, rfl⟩
      refine SW.seq ?_
      refine SW.seq ?_
      refine SW.regT tabOk [0, 5, 6, 7, 8, 34] ?_
      refine And.intro trivial (And.intro trivial ?_)
      refine SW.cond rfl (fun c34 => ?_) (fun c34 => ?_)
      · skip
        have hk1 : 0 < k := by simpa using c34
        obtain ⟨f, hf1, hf2⟩ := exists_free (u := u) (by omega)
        refine SW.skip ?_
        refine SW.seq ?_
        refine SW.block ?_
        refine SW.seq ?_
        refine SW.regT tabOk [0, 5, 6, 7, 8] ?_
        refine And.intro trivial ?_
        refine ex_pure (s_spec_RandNext _) rfl rfl rfl rfl rfl rfl rfl rfl ?_
        refine And.intro trivial ?_
        refine SW.seq ?_
        refine SW.regT tabOk [0, 5, 6, 7, 8, 9] ?_
        refine And.intro trivial (And.intro (by decide) (And.intro trivial (And.intro (by omega) (And.intro trivial ?_))))
        refine SW.seq ?_
        refine SW.block ?_
        -- live at the head: [0, 5, 6, 7, 8, 9]
        have hr := randNext_range x
        have ha := tmod_range (x := wrap64 (Int.tdiv (randNext x) 16)) (n := b) (by rw [wrap64_of (by have := tdiv_range hr.1 (n := 16) (by omega); omega)]; exact (tdiv_range hr.1 (by omega)).1) hb.1
        refine SW.loopW (n := (((f : Int) + b - (Int.tmod (wrap64 (Int.tdiv (randNext x) 16)) b)) % b).toNat) (fun m s => ∃ at_ : Int, m = (((f : Int) + b - at_) % b).toNat ∧ (0 ≤ at_ ∧ at_ < b) ∧ s = [(.t 0, .v (I b)), (.t 5, .v (.e (.c (.own 11 (([] : List Int)).length)))), (.t 6, .v (.e (.c (.own 25 (u).length)))), (.t 7, .v (I (randNext x))), (.t 8, .v (I (k))), (.t 9, .v (I (at_))), (.o 11, .row 3 1 (intRows ([]))), (.o 25, .row 4 1 (boolRows (u)))]) ?_ ?_
        · skip
          refine wk [(.t 0, .v (I b)), (.t 5, .v (.e (.c (.own 11 (([] : List Int)).length)))), (.t 6, .v (.e (.c (.own 25 (u).length)))), (.t 7, .v (I (randNext x))), (.t 8, .v (I (k))), (.t 9, .v (I ((Int.tmod (wrap64 (Int.tdiv (randNext x) 16)) b)))), (.o 11, .row 3 1 (intRows ([]))), (.o 25, .row 4 1 (boolRows (u)))] [] [] (⟨_, rfl, ha, rfl⟩) ?_ rfl rfl
          repeat' first | exact trivial | refine mL_nil rfl ?_ | refine mL_d rfl ?_ ?_ | refine mL_own rfl rfl ?_ rfl ?_ | refine mL_row rfl ?_ ?_ | refine mL_pt rfl rfl rfl rfl ?_ | refine mL_box rfl ?_ ?_ | refine mL_agg rfl ?_ ?_ | exact mCs_nil0 | refine mCs_d ?_ ?_ | refine mCs_nil ?_ | refine mCs_own rfl ?_ rfl ?_ | refine mCs_pt rfl rfl rfl ?_
          all_goals first | with_reducible rfl | (first | rfl | (simp; done) | omega)
        rintro n s ⟨at_, rfl, hat, rfl⟩
        have hbo := boolRows_getD (l := u) (i := at_.toNat) (by omega)
        refine SW.seq ?_
        refine SW.seq ?_
        refine SW.regT tabOk [0, 5, 6, 7, 8, 9, 46] ?_
        refine And.intro trivial (And.intro trivial (And.intro (oixT (by omega) (by omega) rfl) (And.intro (oldT (by omega) rfl) ?_)))
        refine SW.cond rfl (fun c46 => ?_) (fun c46 => ?_)
        · skip
          refine SW.skip ?_
          refine SW.block ?_
          refine SW.regT tabOk [0, 5, 6, 7, 8, 9] ?_
          refine And.intro trivial (And.intro trivial (And.intro trivial (And.intro (by omega) (And.intro trivial ?_))))
          have hne : at_ ≠ f := by
            rintro rfl
            rw [hbo] at c46
            have h9 : u.getD (Int.toNat f) false = true := c46
            rw [Int.toNat_natCast, hf2] at h9
            cases h9
          obtain ⟨q1, q2⟩ := nearer hb (f := f) (by omega) hat hne
          refine wk [(.t 0, .v (I b)), (.t 5, .v (.e (.c (.own 11 (([] : List Int)).length)))), (.t 6, .v (.e (.c (.own 25 (u).length)))), (.t 7, .v (I (randNext x))), (.t 8, .v (I (k))), (.t 9, .v (I (Int.tmod (wrap64 (at_ + 1)) b))), (.o 11, .row 3 1 (intRows ([]))), (.o 25, .row 4 1 (boolRows (u)))] [] [] (⟨_, q1, _, rfl, q2, rfl⟩) ?_ rfl rfl
          repeat' first | exact trivial | refine mL_nil rfl ?_ | refine mL_d rfl ?_ ?_ | refine mL_own rfl rfl ?_ rfl ?_ | refine mL_row rfl ?_ ?_ | refine mL_pt rfl rfl rfl rfl ?_ | refine mL_box rfl ?_ ?_ | refine mL_agg rfl ?_ ?_ | exact mCs_nil0 | refine mCs_d ?_ ?_ | refine mCs_nil ?_ | refine mCs_own rfl ?_ rfl ?_ | refine mCs_pt rfl rfl rfl ?_
          all_goals first | with_reducible rfl | (first | rfl | (simp; done) | omega)
        · skip
          refine SW.exit ?_
          have hfree : u.getD at_.toNat false = false := by
            rw [hbo] at c46
            exact c46
          refine SW.regT tabOk [0, 5, 6, 7, 8] ?_
          refine And.intro trivial (And.intro trivial (And.intro (oixT (by omega) (by omega) rfl) (And.intro (ostT (by omega) rfl) ?_)))
          refine SW.regT tabOk [0, 5, 6, 7, 8] ?_
          refine And.intro trivial (And.intro trivial (And.intro trivial ?_))
          refine wk [(.t 0, .v (I b)), (.t 5, .v (.e (.c (.own 11 (([] : List Int)).length)))), (.t 6, .v (.e (.c (.own 25 (u.set at_.toNat true).length)))), (.t 7, .v (I (randNext x))), (.t 8, .v (I (k - 1))), (.o 11, .row 3 1 (intRows ([]))), (.o 25, .row 4 1 (boolRows (u.set at_.toNat true)))] [] [] (⟨(k - 1).toNat, by omega, randNext x, k - 1, u.set at_.toNat true, rfl, by rw [List.length_set, count_set (by omega) hfree]; omega, rfl⟩) ?_ rfl rfl
          repeat' first | exact trivial | refine mL_nil rfl ?_ | refine mL_d rfl ?_ ?_ | refine mL_own rfl rfl ?_ rfl ?_ | refine mL_row rfl ?_ ?_ | refine mL_pt rfl rfl rfl rfl ?_ | refine mL_box rfl ?_ ?_ | refine mL_agg rfl ?_ ?_ | exact mCs_nil0 | refine mCs_d ?_ ?_ | refine mCs_nil ?_ | refine mCs_own rfl ?_ rfl ?_ | refine mCs_pt rfl rfl rfl ?_
          all_goals first | with_reducible rfl | (first | with_reducible rfl | exact congrArg D.i (wrap64_of (by omega)) | (rw [List.length_set]; done) | exact rows_setT (by omega))
      · skip
        have hk1 : ¬ 0 < k := by simpa using c34
        refine SW.exit ?_
        refine SW.seq ?_
        refine SW.seq ?_
        refine SW.regT tabOk [0, 5, 6, 10] ?_
        refine And.intro trivial ?_
        refine SW.block ?_
        -- live at the head: [0, 5, 6, 10]
        refine SW.loopW (n := 6) (fun m s => ∃ (i : Int) (o : List Int), m = (6 - i).toNat ∧ ((0 ≤ i ∧ i ≤ b) ∧ (o.length : Int) ≤ i ∧ ∀ x ∈ o, 0 ≤ x ∧ x < b) ∧ s = [(.t 0, .v (I b)), (.t 5, .v (.e (.c (.own 11 (o).length)))), (.t 6, .v (.e (.c (.own 25 (u).length)))), (.t 10, .v (I (i))), (.o 11, .row 3 1 (intRows (o))), (.o 25, .row 4 1 (boolRows (u)))]) ?_ ?_
        · skip
          refine wk [(.t 0, .v (I b)), (.t 5, .v (.e (.c (.own 11 ([]).length)))), (.t 6, .v (.e (.c (.own 25 (u).length)))), (.t 10, .v (I (0))), (.o 11, .row 3 1 (intRows ([]))), (.o 25, .row 4 1 (boolRows (u)))] [] [] (⟨0, [], by omega, ⟨by omega, by simp, by simp⟩, rfl⟩) ?_ rfl rfl
          repeat' first | exact trivial | refine mL_nil rfl ?_ | refine mL_d rfl ?_ ?_ | refine mL_own rfl rfl ?_ rfl ?_ | refine mL_row rfl ?_ ?_ | refine mL_pt rfl rfl rfl rfl ?_ | refine mL_box rfl ?_ ?_ | refine mL_agg rfl ?_ ?_ | exact mCs_nil0 | refine mCs_d ?_ ?_ | refine mCs_nil ?_ | refine mCs_own rfl ?_ rfl ?_ | refine mCs_pt rfl rfl rfl ?_
          all_goals first | with_reducible rfl | (first | rfl | (simp; done) | omega)
        rintro n s ⟨i, o, rfl, hi, rfl⟩
        refine SW.seq ?_
        refine SW.seq ?_
        refine SW.regT tabOk [0, 5, 6, 10, 56] ?_
        refine And.intro trivial (And.intro trivial (And.intro trivial ?_))
        refine SW.cond rfl (fun c56 => ?_) (fun c56 => ?_)
        · skip
          have hi2 : i < b := by simpa using c56
          refine SW.skip ?_
          refine SW.seq ?_
          refine SW.block ?_
          refine SW.seq ?_
          refine SW.regT tabOk [0, 5, 6, 10, 62] ?_
          refine And.intro trivial (And.intro trivial (And.intro (oixT (by omega) (by omega) rfl) (And.intro (oldT (by omega) rfl) ?_)))
          refine SW.cond rfl (fun c62 => ?_) (fun c62 => ?_)
          · skip
            refine SW.regT tabOk [0, 5, 6, 10] ?_
            refine And.intro trivial (And.intro trivial (And.intro (by first | trivial | exact Nat.le_of_ble_eq_true rfl | exact ⟨rfl, Nat.le_of_ble_eq_true rfl⟩ | omega | ((repeat' apply And.intro) <;> first | trivial | rfl | exact Nat.le_of_ble_eq_true rfl | omega) | (simp; done) | (simp; omega)) (And.intro (by refine ⟨rfl, intRows_length _, by simp, ?_⟩; show (_ + 1) * 8 ≤ _; omega) (And.intro trivial ?_))))
            refine SW.regT tabOk [0, 5, 6, 10] ?_
            refine And.intro trivial (And.intro trivial (And.intro trivial ?_))
            first
            | (refine wk [(.t 0, .v (I b)), (.t 5, .v (.e (.c (.own 11 (o ++ [i]).length)))), (.t 6, .v (.e (.c (.own 25 (u).length)))), (.t 10, .v (I (i + 1))), (.o 11, .row 3 1 (intRows (o ++ [i]))), (.o 25, .row 4 1 (boolRows (u)))] [] [] (⟨(6 - (i + 1)).toNat, by omega, i + 1, o ++ [i], rfl, ⟨by omega, by simp; omega, fun y hy => by rcases List.mem_append.1 hy with h | h; exact hi.2.2 y h; simp at h; omega⟩, rfl⟩) ?_ rfl rfl
               repeat' first | exact trivial | refine mL_nil rfl ?_ | refine mL_d rfl ?_ ?_ | refine mL_own rfl rfl ?_ rfl ?_ | refine mL_row rfl ?_ ?_ | refine mL_pt rfl rfl rfl rfl ?_ | refine mL_box rfl ?_ ?_ | refine mL_agg rfl ?_ ?_ | exact mCs_nil0 | refine mCs_d ?_ ?_ | refine mCs_nil ?_ | refine mCs_own rfl ?_ rfl ?_ | refine mCs_pt rfl rfl rfl ?_
               all_goals first | with_reducible rfl | (first | with_reducible rfl | exact congrArg D.i (wrap64_of (by omega)) | omega | (simp [intRows_length, boolRows_length, strRows_length]; done) | (simp [intRows]; done) | exact intRows_push _ _ | exact rows_setT (by omega)); done)
            | (refine wk [(.t 0, .v (I b)), (.t 5, .v (.e (.c (.own 11 (o).length)))), (.t 6, .v (.e (.c (.own 25 (u).length)))), (.t 10, .v (I (i + 1))), (.o 11, .row 3 1 (intRows (o))), (.o 25, .row 4 1 (boolRows (u)))] [] [] (⟨(6 - (i + 1)).toNat, by omega, i + 1, o, rfl, ⟨by omega, by omega, hi.2.2⟩, rfl⟩) ?_ rfl rfl
               repeat' first | exact trivial | refine mL_nil rfl ?_ | refine mL_d rfl ?_ ?_ | refine mL_own rfl rfl ?_ rfl ?_ | refine mL_row rfl ?_ ?_ | refine mL_pt rfl rfl rfl rfl ?_ | refine mL_box rfl ?_ ?_ | refine mL_agg rfl ?_ ?_ | exact mCs_nil0 | refine mCs_d ?_ ?_ | refine mCs_nil ?_ | refine mCs_own rfl ?_ rfl ?_ | refine mCs_pt rfl rfl rfl ?_
               all_goals first | with_reducible rfl | (first | with_reducible rfl | exact congrArg D.i (wrap64_of (by omega)) | omega | (simp [intRows_length, boolRows_length, strRows_length]; done) | (simp [intRows]; done) | exact intRows_push _ _ | exact rows_setT (by omega)))
          · skip
            refine SW.skip ?_
            refine SW.regT tabOk [0, 5, 6, 10] ?_
            refine And.intro trivial (And.intro trivial (And.intro trivial ?_))
            first
            | (refine wk [(.t 0, .v (I b)), (.t 5, .v (.e (.c (.own 11 (o ++ [i]).length)))), (.t 6, .v (.e (.c (.own 25 (u).length)))), (.t 10, .v (I (i + 1))), (.o 11, .row 3 1 (intRows (o ++ [i]))), (.o 25, .row 4 1 (boolRows (u)))] [] [] (⟨(6 - (i + 1)).toNat, by omega, i + 1, o ++ [i], rfl, ⟨by omega, by simp; omega, fun y hy => by rcases List.mem_append.1 hy with h | h; exact hi.2.2 y h; simp at h; omega⟩, rfl⟩) ?_ rfl rfl
               repeat' first | exact trivial | refine mL_nil rfl ?_ | refine mL_d rfl ?_ ?_ | refine mL_own rfl rfl ?_ rfl ?_ | refine mL_row rfl ?_ ?_ | refine mL_pt rfl rfl rfl rfl ?_ | refine mL_box rfl ?_ ?_ | refine mL_agg rfl ?_ ?_ | exact mCs_nil0 | refine mCs_d ?_ ?_ | refine mCs_nil ?_ | refine mCs_own rfl ?_ rfl ?_ | refine mCs_pt rfl rfl rfl ?_
               all_goals first | with_reducible rfl | (first | with_reducible rfl | exact congrArg D.i (wrap64_of (by omega)) | omega | (simp [intRows_length, boolRows_length, strRows_length]; done) | (simp [intRows]; done) | exact intRows_push _ _ | exact rows_setT (by omega)); done)
            | (refine wk [(.t 0, .v (I b)), (.t 5, .v (.e (.c (.own 11 (o).length)))), (.t 6, .v (.e (.c (.own 25 (u).length)))), (.t 10, .v (I (i + 1))), (.o 11, .row 3 1 (intRows (o))), (.o 25, .row 4 1 (boolRows (u)))] [] [] (⟨(6 - (i + 1)).toNat, by omega, i + 1, o, rfl, ⟨by omega, by omega, hi.2.2⟩, rfl⟩) ?_ rfl rfl
               repeat' first | exact trivial | refine mL_nil rfl ?_ | refine mL_d rfl ?_ ?_ | refine mL_own rfl rfl ?_ rfl ?_ | refine mL_row rfl ?_ ?_ | refine mL_pt rfl rfl rfl rfl ?_ | refine mL_box rfl ?_ ?_ | refine mL_agg rfl ?_ ?_ | exact mCs_nil0 | refine mCs_d ?_ ?_ | refine mCs_nil ?_ | refine mCs_own rfl ?_ rfl ?_ | refine mCs_pt rfl rfl rfl ?_
               all_goals first | with_reducible rfl | (first | with_reducible rfl | exact congrArg D.i (wrap64_of (by omega)) | omega | (simp [intRows_length, boolRows_length, strRows_length]; done) | (simp [intRows]; done) | exact intRows_push _ _ | exact rows_setT (by omega)))
        · skip
          have hi2 : ¬ i < b := by simpa using c56
          refine SW.exit ?_
          refine SW.seq ?_
          refine SW.regT tabOk [4] ?_
          refine And.intro trivial (And.intro trivial ?_)
          refine SW.ret ?_
          refine retQE _ ⟨o, ⟨by omega, hi.2.2⟩, rfl⟩ (retOk _ [(0, 11)] [] rfl ?_ rfl rfl)
          repeat' first | exact trivial | refine mL_nil rfl ?_ | refine mL_d rfl ?_ ?_ | refine mL_own rfl rfl ?_ rfl ?_ | refine mL_row rfl ?_ ?_ | refine mL_pt rfl rfl rfl rfl ?_ | refine mL_box rfl ?_ ?_ | refine mL_agg rfl ?_ ?_ | exact mCs_nil0 | refine mCs_d ?_ ?_ | refine mCs_nil ?_ | refine mCs_own rfl ?_ rfl ?_ | refine mCs_pt rfl rfl rfl ?_
          all_goals rfl

end Go.Proofs.Ytlkfibmjdigmiaa
