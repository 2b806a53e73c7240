import Derived.Test.YtjncgdeohbcihaaTab
import Derived.Test.YtjncgdeohbcihaaWkUnpack
import Derived.Test.YtjncgdeohbcihaaAbDh
import Derived.Test.YtjncgdeohbcihaaAbBr
namespace Go.Proofs.Ytjncgdeohbcihaa
open Go Go.Ab Go.RowKit
set_option linter.unusedVariables false
set_option linter.unusedSimpArgs false

theorem s_laws_toByteS (l : List UInt8) (hl : l.length ≤ 140737488355328) : Ab.Spec Try.prog 10 1 [(.t 0, .v (Dv (.sl (bytesRows l))))] [(.t 0, .v (.e (.c (.own 0 (l).length)))), (.o 0, .row 5 1 (bytesRows (l)))] := by
  refine spec_of_body tabOk Try.func10 rfl (by kernel_rfl) (by decide) (by kernel_rfl) rfl ?_
  refine SW.seq ?_
  refine SW.regT tabOk [0] ?_
  refine And.intro trivial ?_
  refine SW.seq ?_
  refine SW.regT tabOk [0, 3] ?_
  refine And.intro trivial (And.intro (by first | trivial | exact Nat.le_of_ble_eq_true rfl | exact ⟨rfl, Nat.le_of_ble_eq_true rfl⟩ | omega | ((repeat' apply And.intro) <;> first | trivial | rfl | exact Nat.le_of_ble_eq_true rfl | omega) | (simp; done) | (simp; omega)) (And.intro (by exact ⟨rfl, by omega, by rw [bytesRows_length]; show ((1 : Nat) : Int) * _ ≤ _; omega⟩) (And.intro trivial ?_)))
  refine SW.seq ?_
  refine SW.seq ?_
  refine SW.regT tabOk [0, 3, 4] ?_
  refine And.intro trivial ?_
  refine SW.block ?_
  -- live at the head: [0, 3, 4]
  refine SW.loopW (n := l.length) (fun n s => ∃ i : Nat, n = l.length - i ∧ i ≤ l.length ∧ s = [(.t 0, .v (Dv (.sl (bytesRows l)))), (.t 3, .v (.e (.c (.own 7 l.length)))), (.t 4, .v (I (i : Nat))), (.o 7, .row 5 1 (bytesRows (partB l (i))))]) ?_ ?_
  · skip
    refine wk [(.t 0, .v (Dv (.sl (bytesRows l)))), (.t 3, .v (.e (.c (.own 7 l.length)))), (.t 4, .v (I (0 : Nat))), (.o 7, .row 5 1 (bytesRows (partB l (0))))] [] [] (⟨0, rfl, Nat.zero_le _, rfl⟩) ?_ rfl rfl
    repeat' first | exact trivial | refine mL_nil rfl ?_ | refine mL_d rfl ?_ ?_ | refine mL_own rfl rfl ?_ rfl ?_ | refine mL_row rfl ?_ ?_ | refine mL_pt rfl rfl rfl rfl ?_ | refine mL_box rfl ?_ ?_ | refine mL_agg rfl ?_ ?_ | exact mCs_nil0 | refine mCs_d ?_ ?_ | refine mCs_nil ?_ | refine mCs_own rfl ?_ rfl ?_ | refine mCs_pt rfl rfl rfl ?_
    all_goals first | with_reducible rfl | (first | (simp [bytesRows_length]; done) | (rw [bytesRows_length]; exact partB_zero l))
  rintro n s ⟨i, rfl, hi, rfl⟩
  refine SW.seq ?_
  refine SW.seq ?_
  refine SW.regT tabOk [0, 3, 4, 11] ?_
  refine And.intro trivial (And.intro trivial (And.intro (by first | trivial | exact Nat.le_of_ble_eq_true rfl | exact ⟨rfl, Nat.le_of_ble_eq_true rfl⟩ | omega | ((repeat' apply And.intro) <;> first | trivial | rfl | exact Nat.le_of_ble_eq_true rfl | omega) | (simp; done) | (simp; omega)) (And.intro trivial ?_)))
  refine SW.cond rfl (fun c11 => ?_) (fun c11 => ?_)
  · skip
    have hi2 : i < l.length := by simpa [bytesRows_length] using c11
    have hr : (bytesRows (partB l i)).length = l.length := by rw [bytesRows_length, partB_length (by omega)]
    have hb := bytesRows_getD (l := partB l i) (i := i) (by rw [← bytesRows_length, hr]; exact hi2)
    refine SW.skip ?_
    refine SW.seq ?_
    refine SW.block ?_
    refine SW.regT tabOk [0, 3, 4] ?_
    refine And.intro trivial (And.intro trivial (And.intro trivial (And.intro trivial (And.intro (ixB (by omega) (by omega)) (And.intro (ldB (by omega) (by omega)) (And.intro (by exact ⟨hr, by omega, by omega⟩) (And.intro (by first | (rw [hb]; exact ⟨hr, by omega, rfl, Nat.le_refl _⟩) | (rw [Int.toNat_natCast, hb]; exact ⟨hr, by omega, rfl, Nat.le_refl _⟩)) ?_)))))))
    refine SW.regT tabOk [0, 3, 4] ?_
    refine And.intro trivial (And.intro trivial (And.intro trivial ?_))
    refine wk [(.t 0, .v (Dv (.sl (bytesRows l)))), (.t 3, .v (.e (.c (.own 7 l.length)))), (.t 4, .v (I ((i + 1) : Nat))), (.o 7, .row 5 1 (bytesRows (partB l ((i + 1)))))] [] [] (⟨l.length - (i + 1), by omega, i + 1, rfl, by omega, rfl⟩) ?_ rfl rfl
    repeat' first | exact trivial | refine mL_nil rfl ?_ | refine mL_d rfl ?_ ?_ | refine mL_own rfl rfl ?_ rfl ?_ | refine mL_row rfl ?_ ?_ | refine mL_pt rfl rfl rfl rfl ?_ | refine mL_box rfl ?_ ?_ | refine mL_agg rfl ?_ ?_ | exact mCs_nil0 | refine mCs_d ?_ ?_ | refine mCs_nil ?_ | refine mCs_own rfl ?_ rfl ?_ | refine mCs_pt rfl rfl rfl ?_
    all_goals first | with_reducible rfl | (first | (exact congrArg D.i (wrap64_of (by omega))) | (exact partB_set hi2 (valB (by omega) (by omega))))
  · skip
    refine SW.exit ?_
    refine SW.seq ?_
    refine SW.regT tabOk [2] ?_
    refine And.intro trivial (And.intro trivial ?_)
    refine SW.ret ?_
    have e : i = l.length := by simp [bytesRows_length] at c11; omega
    subst e
    refine retOk _ [(0, 7)] [] rfl ?_ rfl rfl
    repeat' first | exact trivial | refine mL_nil rfl ?_ | refine mL_d rfl ?_ ?_ | refine mL_own rfl rfl ?_ rfl ?_ | refine mL_row rfl ?_ ?_ | refine mL_pt rfl rfl rfl rfl ?_ | refine mL_box rfl ?_ ?_ | refine mL_agg rfl ?_ ?_ | exact mCs_nil0 | refine mCs_d ?_ ?_ | refine mCs_nil ?_ | refine mCs_own rfl ?_ rfl ?_ | refine mCs_pt rfl rfl rfl ?_
    all_goals first | (rw [partB_full]; done) | (simp [partB_full]; done)

theorem s_laws_eqFrame (f : FrameR) : Ab.Spec Try.prog 24 2 [(.t 0, .v (f.V)), (.t 1, .v (f.V))] [(.t 0, .v (B true))] := by
  refine spec_of_body tabOk Try.func24 rfl (by kernel_rfl) (by decide) (by kernel_rfl) rfl ?_
  refine SW.seq ?_
  refine SW.regT tabOk [2, 3] ?_
  refine And.intro trivial (And.intro trivial (And.intro trivial ?_))
  refine SW.seq ?_
  refine SW.seq ?_
  refine SW.regT tabOk [2, 3, 9] ?_
  refine And.intro (by first | trivial | rfl) (And.intro (by first | trivial | exact Nat.le_of_ble_eq_true rfl | exact ⟨rfl, Nat.le_of_ble_eq_true rfl⟩ | omega | ((repeat' apply And.intro) <;> first | trivial | rfl | exact Nat.le_of_ble_eq_true rfl | omega) | (simp; done) | (simp; omega)) (And.intro (by first | trivial | rfl) (And.intro (by first | trivial | exact Nat.le_of_ble_eq_true rfl | exact ⟨rfl, Nat.le_of_ble_eq_true rfl⟩ | omega | ((repeat' apply And.intro) <;> first | trivial | rfl | exact Nat.le_of_ble_eq_true rfl | omega) | (simp; done) | (simp; omega)) (And.intro trivial ?_))))
  refine SW.cond rfl (fun c9 => ?_) (fun c9 => ?_)
  · skip
    simp at c9
  · skip
    refine SW.skip ?_
    refine SW.seq ?_
    refine SW.seq ?_
    refine SW.regT tabOk [2, 3, 14] ?_
    refine And.intro (by first | trivial | rfl) (And.intro (by first | trivial | exact Nat.le_of_ble_eq_true rfl | exact ⟨rfl, Nat.le_of_ble_eq_true rfl⟩ | omega | ((repeat' apply And.intro) <;> first | trivial | rfl | exact Nat.le_of_ble_eq_true rfl | omega) | (simp; done) | (simp; omega)) (And.intro (by first | trivial | rfl) (And.intro (by first | trivial | exact Nat.le_of_ble_eq_true rfl | exact ⟨rfl, Nat.le_of_ble_eq_true rfl⟩ | omega | ((repeat' apply And.intro) <;> first | trivial | rfl | exact Nat.le_of_ble_eq_true rfl | omega) | (simp; done) | (simp; omega)) (And.intro trivial ?_))))
    refine SW.cond rfl (fun c14 => ?_) (fun c14 => ?_)
    · skip
      simp at c14
    · skip
      refine SW.skip ?_
      refine SW.seq ?_
      refine SW.seq ?_
      refine SW.regT tabOk [2, 3, 19] ?_
      refine And.intro (by first | trivial | rfl) (And.intro (by first | trivial | exact Nat.le_of_ble_eq_true rfl | exact ⟨rfl, Nat.le_of_ble_eq_true rfl⟩ | omega | ((repeat' apply And.intro) <;> first | trivial | rfl | exact Nat.le_of_ble_eq_true rfl | omega) | (simp; done) | (simp; omega)) (And.intro (by first | trivial | rfl) (And.intro (by first | trivial | exact Nat.le_of_ble_eq_true rfl | exact ⟨rfl, Nat.le_of_ble_eq_true rfl⟩ | omega | ((repeat' apply And.intro) <;> first | trivial | rfl | exact Nat.le_of_ble_eq_true rfl | omega) | (simp; done) | (simp; omega)) (And.intro trivial ?_))))
      refine SW.cond rfl (fun c19 => ?_) (fun c19 => ?_)
      · skip
        simp at c19
      · skip
        refine SW.skip ?_
        refine SW.seq ?_
        refine SW.seq ?_
        refine SW.regT tabOk [2, 3, 24] ?_
        refine And.intro (by first | trivial | rfl) (And.intro (by first | trivial | exact Nat.le_of_ble_eq_true rfl | exact ⟨rfl, Nat.le_of_ble_eq_true rfl⟩ | omega | ((repeat' apply And.intro) <;> first | trivial | rfl | exact Nat.le_of_ble_eq_true rfl | omega) | (simp; done) | (simp; omega)) (And.intro (by first | trivial | rfl) (And.intro (by first | trivial | exact Nat.le_of_ble_eq_true rfl | exact ⟨rfl, Nat.le_of_ble_eq_true rfl⟩ | omega | ((repeat' apply And.intro) <;> first | trivial | rfl | exact Nat.le_of_ble_eq_true rfl | omega) | (simp; done) | (simp; omega)) (And.intro trivial ?_))))
        refine SW.cond rfl (fun c24 => ?_) (fun c24 => ?_)
        · skip
          simp at c24
        · skip
          refine SW.skip ?_
          refine SW.seq ?_
          refine SW.seq ?_
          refine SW.regT tabOk [2, 3, 29] ?_
          refine And.intro (by first | trivial | rfl) (And.intro (by first | trivial | exact Nat.le_of_ble_eq_true rfl | exact ⟨rfl, Nat.le_of_ble_eq_true rfl⟩ | omega | ((repeat' apply And.intro) <;> first | trivial | rfl | exact Nat.le_of_ble_eq_true rfl | omega) | (simp; done) | (simp; omega)) (And.intro (by first | trivial | rfl) (And.intro (by first | trivial | exact Nat.le_of_ble_eq_true rfl | exact ⟨rfl, Nat.le_of_ble_eq_true rfl⟩ | omega | ((repeat' apply And.intro) <;> first | trivial | rfl | exact Nat.le_of_ble_eq_true rfl | omega) | (simp; done) | (simp; omega)) (And.intro trivial ?_))))
          refine SW.cond rfl (fun c29 => ?_) (fun c29 => ?_)
          · skip
            simp at c29
          · skip
            refine SW.skip ?_
            refine SW.seq ?_
            refine SW.seq ?_
            refine SW.regT tabOk [2, 3, 34] ?_
            refine And.intro (by first | trivial | rfl) (And.intro (by first | trivial | exact Nat.le_of_ble_eq_true rfl | exact ⟨rfl, Nat.le_of_ble_eq_true rfl⟩ | omega | ((repeat' apply And.intro) <;> first | trivial | rfl | exact Nat.le_of_ble_eq_true rfl | omega) | (simp; done) | (simp; omega)) (And.intro (by first | trivial | rfl) (And.intro (by first | trivial | exact Nat.le_of_ble_eq_true rfl | exact ⟨rfl, Nat.le_of_ble_eq_true rfl⟩ | omega | ((repeat' apply And.intro) <;> first | trivial | rfl | exact Nat.le_of_ble_eq_true rfl | omega) | (simp; done) | (simp; omega)) (And.intro trivial ?_))))
            refine SW.cond rfl (fun c34 => ?_) (fun c34 => ?_)
            · skip
              simp at c34
            · skip
              refine SW.skip ?_
              refine SW.seq ?_
              refine SW.seq ?_
              refine SW.regT tabOk [2, 3, 39] ?_
              refine And.intro (by first | trivial | rfl) (And.intro (by first | trivial | exact Nat.le_of_ble_eq_true rfl | exact ⟨rfl, Nat.le_of_ble_eq_true rfl⟩ | omega | ((repeat' apply And.intro) <;> first | trivial | rfl | exact Nat.le_of_ble_eq_true rfl | omega) | (simp; done) | (simp; omega)) (And.intro (by first | trivial | rfl) (And.intro (by first | trivial | exact Nat.le_of_ble_eq_true rfl | exact ⟨rfl, Nat.le_of_ble_eq_true rfl⟩ | omega | ((repeat' apply And.intro) <;> first | trivial | rfl | exact Nat.le_of_ble_eq_true rfl | omega) | (simp; done) | (simp; omega)) (And.intro trivial ?_))))
              refine SW.cond rfl (fun c39 => ?_) (fun c39 => ?_)
              · skip
                simp at c39
              · skip
                refine SW.skip ?_
                refine SW.seq ?_
                refine SW.seq ?_
                refine SW.regT tabOk [2, 3, 44] ?_
                refine And.intro (by first | trivial | rfl) (And.intro (by first | trivial | exact Nat.le_of_ble_eq_true rfl | exact ⟨rfl, Nat.le_of_ble_eq_true rfl⟩ | omega | ((repeat' apply And.intro) <;> first | trivial | rfl | exact Nat.le_of_ble_eq_true rfl | omega) | (simp; done) | (simp; omega)) (And.intro (by first | trivial | rfl) (And.intro (by first | trivial | exact Nat.le_of_ble_eq_true rfl | exact ⟨rfl, Nat.le_of_ble_eq_true rfl⟩ | omega | ((repeat' apply And.intro) <;> first | trivial | rfl | exact Nat.le_of_ble_eq_true rfl | omega) | (simp; done) | (simp; omega)) (And.intro trivial ?_))))
                refine SW.cond rfl (fun c44 => ?_) (fun c44 => ?_)
                · skip
                  simp at c44
                · skip
                  refine SW.skip ?_
                  refine SW.seq ?_
                  refine SW.seq ?_
                  refine SW.regT tabOk [2, 3, 49] ?_
                  refine And.intro (by first | trivial | rfl) (And.intro (by first | trivial | exact Nat.le_of_ble_eq_true rfl | exact ⟨rfl, Nat.le_of_ble_eq_true rfl⟩ | omega | ((repeat' apply And.intro) <;> first | trivial | rfl | exact Nat.le_of_ble_eq_true rfl | omega) | (simp; done) | (simp; omega)) (And.intro (by first | trivial | rfl) (And.intro (by first | trivial | exact Nat.le_of_ble_eq_true rfl | exact ⟨rfl, Nat.le_of_ble_eq_true rfl⟩ | omega | ((repeat' apply And.intro) <;> first | trivial | rfl | exact Nat.le_of_ble_eq_true rfl | omega) | (simp; done) | (simp; omega)) (And.intro trivial ?_))))
                  refine SW.cond rfl (fun c49 => ?_) (fun c49 => ?_)
                  · skip
                    simp at c49
                  · skip
                    refine SW.skip ?_
                    refine SW.seq ?_
                    refine SW.seq ?_
                    refine SW.regT tabOk [54] ?_
                    refine And.intro (by first | trivial | rfl) (And.intro (by first | trivial | exact Nat.le_of_ble_eq_true rfl | exact ⟨rfl, Nat.le_of_ble_eq_true rfl⟩ | omega | ((repeat' apply And.intro) <;> first | trivial | rfl | exact Nat.le_of_ble_eq_true rfl | omega) | (simp; done) | (simp; omega)) (And.intro (by first | trivial | rfl) (And.intro (by first | trivial | exact Nat.le_of_ble_eq_true rfl | exact ⟨rfl, Nat.le_of_ble_eq_true rfl⟩ | omega | ((repeat' apply And.intro) <;> first | trivial | rfl | exact Nat.le_of_ble_eq_true rfl | omega) | (simp; done) | (simp; omega)) (And.intro (by first | trivial | exact Nat.le_of_ble_eq_true rfl | exact ⟨rfl, Nat.le_of_ble_eq_true rfl⟩ | omega | ((repeat' apply And.intro) <;> first | trivial | rfl | exact Nat.le_of_ble_eq_true rfl | omega) | (simp; done) | (simp; omega)) ?_))))
                    refine SW.cond rfl (fun c54 => ?_) (fun c54 => ?_)
                    · skip
                      simp at c54
                    · skip
                      refine SW.skip ?_
                      refine SW.seq ?_
                      refine SW.regT tabOk [4] ?_
                      refine And.intro trivial ?_
                      refine SW.ret ?_
                      refine retOk1 rfl ?_
                      rfl

theorem s_laws_FnExactFrameUnpack (l : List UInt8) (hl : l.length ≤ 140737488355328) : Ab.Spec Try.prog 7 1 [(.t 0, .v (Dv (.sl (bytesRows l))))] [(.t 0, .v (B true))] := by
  refine spec_of_body tabOk Try.func7 rfl (by kernel_rfl) (by decide) (by kernel_rfl) rfl ?_
  refine SW.seq ?_
  refine SW.regT tabOk [0, 29, 30, 31] ?_
  refine And.intro trivial ?_
  refine SW.seq ?_
  refine SW.seq ?_
  refine SW.regT tabOk [0, 10, 29, 30, 31] ?_
  refine And.intro trivial (And.intro (by first | trivial | exact Nat.le_of_ble_eq_true rfl | exact ⟨rfl, Nat.le_of_ble_eq_true rfl⟩ | omega | ((repeat' apply And.intro) <;> first | trivial | rfl | exact Nat.le_of_ble_eq_true rfl | omega) | (simp; done) | (simp; omega)) (And.intro trivial ?_))
  refine SW.cond rfl (fun c10 => ?_) (fun c10 => ?_)
  · skip
    refine SW.seq ?_
    refine SW.regT tabOk [2] ?_
    refine And.intro trivial ?_
    refine SW.ret ?_
    refine retOk1 rfl ?_
    rfl
  · skip
    refine SW.skip ?_
    refine SW.seq ?_
    refine SW.regT tabOk [0, 3, 4, 29, 30, 31] ?_
    refine And.intro trivial ?_
    refine ex_callP [(0, 13)] (s_laws_toByteS l (by omega)) rfl rfl rfl rfl rfl rfl rfl (fun j hj => by (obtain rfl : j = 0 := by simpa [newIds, objIds, memN] using hj); rfl) ?_
    refine ex_call (robj := [(13, .row 5 1 (bytesRows (l)))]) (rl := []) (bor := [13]) (s_spec_FrameUnpack l) rfl rfl rfl rfl ⟨mL_froze rfl rfl rfl (by first | exact bytesRows_length _ | (simp [bytesRows_length, markB_length]; done)) rfl (trivial), rfl⟩ rfl (.inr (scalarSt_v rfl)) (robjOk_spec ⟨rfl, trivial⟩) (fun _ hj => nomatch hj) ?_
    refine And.intro trivial (And.intro trivial (And.intro trivial (And.intro trivial (And.intro ⟨by kernel_rfl, Nat.le_of_ble_eq_true (by kernel_rfl)⟩ (And.intro trivial ?_)))))
    refine SW.seq ?_
    refine SW.regT tabOk [0, 3, 4, 5, 29, 30, 31] ?_
    refine And.intro trivial ?_
    refine ex_callP [(0, 18)] (s_laws_toByteS l (by omega)) rfl rfl rfl rfl rfl rfl rfl (fun j hj => by (obtain rfl : j = 0 := by simpa [newIds, objIds, memN] using hj); rfl) ?_
    refine And.intro trivial ?_
    refine SW.seq ?_
    refine SW.regT tabOk [0, 3, 4, 5, 6, 7, 29, 30, 31] ?_
    refine And.intro trivial ?_
    refine ex_call (robj := [(18, .row 5 1 (bytesRows (l)))]) (rl := []) (bor := [18]) (s_impl_FrameUnpack l) rfl rfl rfl rfl ⟨mL_froze rfl rfl rfl (by first | exact bytesRows_length _ | (simp [bytesRows_length, markB_length]; done)) rfl (trivial), rfl⟩ rfl (.inr (scalarSt_v rfl)) (robjOk_spec ⟨rfl, trivial⟩) (fun _ hj => nomatch hj) ?_
    refine And.intro trivial (And.intro trivial (And.intro trivial (And.intro trivial (And.intro ⟨by kernel_rfl, Nat.le_of_ble_eq_true (by kernel_rfl)⟩ (And.intro trivial ?_)))))
    refine SW.seq ?_
    refine SW.seq ?_
    refine SW.regT tabOk [0, 5, 32] ?_
    refine And.intro (by first | trivial | exact Nat.le_of_ble_eq_true rfl | exact ⟨rfl, Nat.le_of_ble_eq_true rfl⟩ | omega | ((repeat' apply And.intro) <;> first | trivial | rfl | exact Nat.le_of_ble_eq_true rfl | omega) | (simp; done) | (simp; omega)) (And.intro (by first | trivial | exact Nat.le_of_ble_eq_true rfl | exact ⟨rfl, Nat.le_of_ble_eq_true rfl⟩ | omega | ((repeat' apply And.intro) <;> first | trivial | rfl | exact Nat.le_of_ble_eq_true rfl | omega) | (simp; done) | (simp; omega)) ?_)
    refine ex_pure (s_laws_eqFrame (unpackF l)) rfl rfl rfl rfl rfl rfl rfl rfl ?_
    refine And.intro trivial (And.intro trivial (And.intro (fun h => trivial) (And.intro (by intro h; (repeat' apply And.intro) <;> first | exact h | trivial) (And.intro (fun h => trivial) (And.intro (by intro h; (repeat' apply And.intro) <;> first | exact h | trivial) (And.intro (fun h => trivial) (And.intro (by intro h; (repeat' apply And.intro) <;> first | exact h | trivial) (And.intro (by constructor <;> intro h <;> first | trivial | exact h | (simpa [gb, condOf] using h)) ?_))))))))
    refine SW.cond rfl (fun c32 => ?_) (fun c32 => ?_)
    · skip
      simp at c32
    · skip
      refine SW.skip ?_
      refine SW.seq ?_
      refine SW.seq ?_
      refine SW.regT tabOk [37] ?_
      refine And.intro trivial (And.intro trivial ?_)
      refine ex_callP [(0, 35)] (s_laws_toByteS l (by omega)) rfl rfl rfl rfl rfl rfl rfl (fun j hj => by (obtain rfl : j = 0 := by simpa [newIds, objIds, memN] using hj); rfl) ?_
      refine ex_call (robj := [(18, .row 5 1 (bytesRows (l))), (35, .row 5 1 (bytesRows (l)))]) (rl := []) (bor := [18, 35]) (s_laws_eqByteS l l (by omega)) rfl rfl rfl rfl ⟨mL_froze rfl rfl rfl (by first | exact bytesRows_length _ | (simp [bytesRows_length, markB_length]; done)) rfl (mL_froze rfl rfl rfl (by first | exact bytesRows_length _ | (simp [bytesRows_length, markB_length]; done)) rfl (trivial)), rfl⟩ rfl (.inr (scalarSt_v rfl)) (robjOk_spec ⟨rfl, rfl, trivial⟩) (fun _ hj => nomatch hj) ?_
      refine And.intro trivial ?_
      refine SW.cond rfl (fun c37 => ?_) (fun c37 => ?_)
      · skip
        simp at c37
      · skip
        refine SW.skip ?_
        refine SW.seq ?_
        refine SW.regT tabOk [2] ?_
        refine And.intro trivial ?_
        refine SW.ret ?_
        refine retOk1 rfl ?_
        rfl

end Go.Proofs.Ytjncgdeohbcihaa
