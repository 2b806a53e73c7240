import Derived.Test.YtjncgdeohbcihaaTab
import Derived.Test.YtjncgdeohbcihaaWkPack
import Derived.Test.YtjncgdeohbcihaaAbDg
import Derived.Test.YtjncgdeohbcihaaAbBr
namespace Go.Proofs.Ytjncgdeohbcihaa
open Go Go.Ab Go.RowKit
set_option linter.unusedVariables false
set_option linter.unusedSimpArgs false

theorem s_laws_eqByteS (l m : List UInt8) (hl : l.length ≤ 140737488355328) : Ab.Spec Try.prog 12 2 [(.t 0, .v (Dv (.sl (bytesRows l)))), (.t 1, .v (Dv (.sl (bytesRows m))))] [(.t 0, .v (B (l == m)))] := by
  refine spec_of_body tabOk Try.func12 rfl (by kernel_rfl) (by decide) (by kernel_rfl) rfl ?_
  refine SW.seq ?_
  refine SW.regT tabOk [0, 1] ?_
  refine And.intro trivial ?_
  refine SW.seq ?_
  refine SW.seq ?_
  refine SW.regT tabOk [0, 1, 10] ?_
  refine And.intro trivial (And.intro (by first | trivial | exact Nat.le_of_ble_eq_true rfl | exact ⟨rfl, Nat.le_of_ble_eq_true rfl⟩ | omega | ((repeat' apply And.intro) <;> first | trivial | rfl | exact Nat.le_of_ble_eq_true rfl | omega) | (simp; done) | (simp; omega)) (And.intro trivial (And.intro (by first | trivial | exact Nat.le_of_ble_eq_true rfl | exact ⟨rfl, Nat.le_of_ble_eq_true rfl⟩ | omega | ((repeat' apply And.intro) <;> first | trivial | rfl | exact Nat.le_of_ble_eq_true rfl | omega) | (simp; done) | (simp; omega)) (And.intro trivial ?_))))
  refine SW.cond rfl (fun c10 => ?_) (fun c10 => ?_)
  · skip
    have hne : ¬ l = m := fun e => by subst e; simp [bytesRows_length] at c10
    refine SW.seq ?_
    refine SW.regT tabOk [4] ?_
    refine And.intro trivial ?_
    refine SW.ret ?_
    refine retOk1 rfl ?_
    simp [hne]
  · skip
    have hlm : l.length = m.length := by simp [bytesRows_length] at c10; omega
    refine SW.skip ?_
    refine SW.seq ?_
    refine SW.seq ?_
    refine SW.regT tabOk [0, 1, 5] ?_
    refine And.intro trivial ?_
    refine SW.block ?_
    -- live at the head: [0, 1, 5]
    refine SW.loopW (n := l.length) (fun n s => ∃ i : Nat, n = l.length - i ∧ i ≤ l.length ∧ l.take i = m.take i ∧ s = [(.t 0, .v (Dv (.sl (bytesRows l)))), (.t 1, .v (Dv (.sl (bytesRows m)))), (.t 5, .v (I (i : Nat)))]) ?_ ?_
    · skip
      refine wk [(.t 0, .v (Dv (.sl (bytesRows l)))), (.t 1, .v (Dv (.sl (bytesRows m)))), (.t 5, .v (I (0 : Nat)))] [] [] (⟨0, rfl, Nat.zero_le _, rfl, rfl⟩) ?_ rfl rfl
      repeat' first | exact trivial | refine mL_nil rfl ?_ | refine mL_d rfl ?_ ?_ | refine mL_own rfl rfl ?_ rfl ?_ | refine mL_row rfl ?_ ?_ | refine mL_pt rfl rfl rfl rfl ?_ | refine mL_box rfl ?_ ?_ | refine mL_agg rfl ?_ ?_ | exact mCs_nil0 | refine mCs_d ?_ ?_ | refine mCs_nil ?_ | refine mCs_own rfl ?_ rfl ?_ | refine mCs_pt rfl rfl rfl ?_
      all_goals first | with_reducible rfl | (first | rfl | (simp; done) | omega)
    rintro n s ⟨i, rfl, hi, he, rfl⟩
    refine SW.seq ?_
    refine SW.seq ?_
    refine SW.regT tabOk [0, 1, 5, 14] ?_
    refine And.intro trivial (And.intro trivial (And.intro (by first | trivial | exact Nat.le_of_ble_eq_true rfl | exact ⟨rfl, Nat.le_of_ble_eq_true rfl⟩ | omega | ((repeat' apply And.intro) <;> first | trivial | rfl | exact Nat.le_of_ble_eq_true rfl | omega) | (simp; done) | (simp; omega)) (And.intro trivial ?_)))
    refine SW.cond rfl (fun c14 => ?_) (fun c14 => ?_)
    · skip
      have hi2 : i < l.length := by simpa [bytesRows_length] using c14
      have hi3 : i < m.length := by omega
      refine SW.skip ?_
      refine SW.seq ?_
      refine SW.block ?_
      refine SW.seq ?_
      refine SW.regD tabOk mo [0, 1, 5, 25] ?_
      refine And.intro trivial (And.intro trivial (And.intro (by have hb := bytesRows_getD (l := l) (i := i) (hi2); refine ⟨⟨by omega, by rw [bytesRows_length]; omega⟩, ?_⟩; simp only [Int.toNat_natCast]; rw [hb]; rfl) (And.intro (by have hb := bytesRows_getD (l := l) (i := i) (hi2); simp only [Int.toNat_natCast]; rw [hb]; exact ⟨Nat.le_refl _, rfl⟩) (And.intro trivial (And.intro trivial (And.intro (by have hb := bytesRows_getD (l := m) (i := i) (hi3); refine ⟨⟨by omega, by rw [bytesRows_length]; omega⟩, ?_⟩; simp only [Int.toNat_natCast]; rw [hb]; rfl) (And.intro (by have hb := bytesRows_getD (l := m) (i := i) (hi3); simp only [Int.toNat_natCast]; rw [hb]; exact ⟨Nat.le_refl _, rfl⟩) (And.intro trivial (And.intro (by kernel_rfl) ?_)))))))))
      refine SW.cond rfl (fun c25 => ?_) (fun c25 => ?_)
      · skip
        refine SW.seq ?_
        refine SW.regT tabOk [4] ?_
        refine And.intro trivial ?_
        refine SW.ret ?_
        refine retOk1 rfl ?_
        have hne : ¬ l = m := by
          intro e; subst e; simp at c25
        simp [hne]
      · skip
        refine SW.skip ?_
        refine SW.regT tabOk [0, 1, 5] ?_
        refine And.intro trivial (And.intro trivial (And.intro trivial ?_))
        have hq : l.getD i 0 = m.getD i 0 := by
          rw [Int.toNat_natCast, bytesRows_getD hi2, bytesRows_getD hi3] at c25
          have h8 : ((l.getD i 0).toNat : Int) = ((m.getD i 0).toNat : Int) := by simpa [toU] using c25
          exact UInt8.toNat_inj.1 (by omega)
        refine wk [(.t 0, .v (Dv (.sl (bytesRows l)))), (.t 1, .v (Dv (.sl (bytesRows m)))), (.t 5, .v (I ((i + 1) : Nat)))] [] [] (⟨l.length - (i + 1), by omega, i + 1, rfl, by omega, eqB_step hlm hi2 he hq, rfl⟩) ?_ rfl rfl
        repeat' first | exact trivial | refine mL_nil rfl ?_ | refine mL_d rfl ?_ ?_ | refine mL_own rfl rfl ?_ rfl ?_ | refine mL_row rfl ?_ ?_ | refine mL_pt rfl rfl rfl rfl ?_ | refine mL_box rfl ?_ ?_ | refine mL_agg rfl ?_ ?_ | exact mCs_nil0 | refine mCs_d ?_ ?_ | refine mCs_nil ?_ | refine mCs_own rfl ?_ rfl ?_ | refine mCs_pt rfl rfl rfl ?_
        all_goals first | with_reducible rfl | (first | (exact congrArg D.i (wrap64_of (by omega))))
    · skip
      refine SW.exit ?_
      refine SW.seq ?_
      refine SW.regT tabOk [4] ?_
      refine And.intro trivial ?_
      refine SW.ret ?_
      refine retOk1 rfl ?_
      have e : i = l.length := by simp [bytesRows_length] at c14; omega
      have h1 : l = m := by rw [e, List.take_length] at he; rw [hlm, List.take_length] at he; exact he
      simp [h1]

theorem s_laws_markByteS (l : List UInt8) (k : Int) (hl : l.length ≤ 140737488355328) (hk : 0 ≤ k ∧ k ≤ 1099511627776) : Ab.Spec Try.prog 20 2 [(.t 0, .v (.e (.c (.own 0 l.length)))), (.t 1, .v (I k)), (.o 0, .row 5 1 (bytesRows l))] [(.t 0, .v (I (k + l.length))), (.o 0, .row 5 1 (bytesRows (markB k l.length)))] := by
  refine spec_of_body tabOk Try.func20 rfl (by kernel_rfl) (by decide) (by kernel_rfl) rfl ?_
  refine SW.seq ?_
  refine SW.regT tabOk [0, 1] ?_
  refine And.intro trivial ?_
  refine SW.seq ?_
  refine SW.seq ?_
  refine SW.regT tabOk [0, 1, 5] ?_
  refine And.intro trivial ?_
  refine SW.block ?_
  -- live at the head: [0, 1, 5]
  refine SW.loopW (n := l.length) (fun n s => ∃ i : Nat, n = l.length - i ∧ i ≤ l.length ∧ s = [(.t 0, .v (.e (.c (.own 0 l.length)))), (.t 1, .v (I (k + (i : Nat)))), (.t 5, .v (I (i : Nat))), (.o 0, .row 5 1 (bytesRows (markB k (i) ++ l.drop (i))))]) ?_ ?_
  · skip
    refine wk [(.t 0, .v (.e (.c (.own 0 l.length)))), (.t 1, .v (I (k + (0 : Nat)))), (.t 5, .v (I (0 : Nat))), (.o 0, .row 5 1 (bytesRows (markB k (0) ++ l.drop (0))))] [] [] (⟨0, rfl, Nat.zero_le _, rfl⟩) ?_ rfl rfl
    repeat' first | exact trivial | refine mL_nil rfl ?_ | refine mL_d rfl ?_ ?_ | refine mL_own rfl rfl ?_ rfl ?_ | refine mL_row rfl ?_ ?_ | refine mL_pt rfl rfl rfl rfl ?_ | refine mL_box rfl ?_ ?_ | refine mL_agg rfl ?_ ?_ | exact mCs_nil0 | refine mCs_d ?_ ?_ | refine mCs_nil ?_ | refine mCs_own rfl ?_ rfl ?_ | refine mCs_pt rfl rfl rfl ?_
    all_goals first | with_reducible rfl | (simp [markB])
  rintro n s ⟨i, rfl, hi, rfl⟩
  refine SW.seq ?_
  refine SW.seq ?_
  refine SW.regT tabOk [0, 1, 5, 9] ?_
  refine And.intro trivial (And.intro trivial (And.intro (by simp [bytesRows_length, markB_length]; omega) (And.intro trivial ?_)))
  refine SW.cond rfl (fun c9 => ?_) (fun c9 => ?_)
  · skip
    have hi2 : i < l.length := by simpa using c9
    have hr : (bytesRows (markB k i ++ l.drop i)).length = l.length := by simp [bytesRows_length, markB_length]; omega
    have hb := bytesRows_getD (l := markB k i ++ l.drop i) (i := i) (by rw [← bytesRows_length, hr]; exact hi2)
    refine SW.skip ?_
    refine SW.seq ?_
    refine SW.block ?_
    refine SW.seq ?_
    refine SW.regT tabOk [0, 1, 5] ?_
    refine And.intro trivial (And.intro trivial (And.intro trivial (And.intro (by first | trivial | rfl) (And.intro (by exact ⟨hr, by omega, by omega⟩) (And.intro (by first | (rw [hb]; exact ⟨hr, by omega, rfl, Nat.le_refl _⟩) | (rw [Int.toNat_natCast, hb]; exact ⟨hr, by omega, rfl, Nat.le_refl _⟩)) ?_)))))
    refine SW.regT tabOk [0, 1, 5] ?_
    refine And.intro trivial (And.intro trivial (And.intro trivial ?_))
    refine SW.regT tabOk [0, 1, 5] ?_
    refine And.intro trivial (And.intro trivial (And.intro trivial ?_))
    refine wk [(.t 0, .v (.e (.c (.own 0 l.length)))), (.t 1, .v (I (k + ((i + 1) : Nat)))), (.t 5, .v (I ((i + 1) : Nat))), (.o 0, .row 5 1 (bytesRows (markB k ((i + 1)) ++ l.drop ((i + 1)))))] [] [] (⟨l.length - (i + 1), by omega, i + 1, rfl, by omega, rfl⟩) ?_ rfl rfl
    repeat' first | exact trivial | refine mL_nil rfl ?_ | refine mL_d rfl ?_ ?_ | refine mL_own rfl rfl ?_ rfl ?_ | refine mL_row rfl ?_ ?_ | refine mL_pt rfl rfl rfl rfl ?_ | refine mL_box rfl ?_ ?_ | refine mL_agg rfl ?_ ?_ | exact mCs_nil0 | refine mCs_d ?_ ?_ | refine mCs_nil ?_ | refine mCs_own rfl ?_ rfl ?_ | refine mCs_pt rfl rfl rfl ?_
    all_goals first | with_reducible rfl | (first | (rw [Int.toNat_natCast]; exact mark_set hi2 hk.1) | exact mark_set hi2 hk.1 | (exact congrArg D.i (wrap64_of (by omega))) | (refine congrArg D.i ?_; rw [wrap64_of (by omega)]; omega))
  · skip
    refine SW.exit ?_
    refine SW.seq ?_
    refine SW.regT tabOk [4] ?_
    refine And.intro trivial (And.intro trivial ?_)
    refine SW.ret ?_
    have e : i = l.length := by simp at c9; omega
    subst e
    refine retOk _ [] [] rfl ?_ rfl rfl
    repeat' first | exact trivial | refine mL_nil rfl ?_ | refine mL_d rfl ?_ ?_ | refine mL_own rfl rfl ?_ rfl ?_ | refine mL_row rfl ?_ ?_ | refine mL_pt rfl rfl rfl rfl ?_ | refine mL_box rfl ?_ ?_ | refine mL_agg rfl ?_ ?_ | exact mCs_nil0 | refine mCs_d ?_ ?_ | refine mCs_nil ?_ | refine mCs_own rfl ?_ rfl ?_ | refine mCs_pt rfl rfl rfl ?_
    all_goals first | with_reducible rfl | (simp; done)

theorem s_laws_heldByteS (k : Int) (n : Nat) (hn : n ≤ 140737488355328) (hk : 0 ≤ k ∧ k ≤ 1099511627776) : Ab.Spec Try.prog 21 2 [(.t 0, .v (Dv (.sl (bytesRows (markB k n))))), (.t 1, .v (I k))] [(.t 0, .v (I (k + n)))] := by
  refine spec_of_body tabOk Try.func21 rfl (by kernel_rfl) (by decide) (by kernel_rfl) rfl ?_
  refine SW.seq ?_
  refine SW.regT tabOk [0, 1] ?_
  refine And.intro trivial ?_
  refine SW.seq ?_
  refine SW.seq ?_
  refine SW.regT tabOk [0, 1, 5] ?_
  refine And.intro trivial ?_
  refine SW.block ?_
  -- live at the head: [0, 1, 5]
  refine SW.loopW (n := n) (fun m s => ∃ i : Nat, m = n - i ∧ i ≤ n ∧ s = [(.t 0, .v (Dv (.sl (bytesRows (markB k n))))), (.t 1, .v (I (k + (i : Nat)))), (.t 5, .v (I (i : Nat)))]) ?_ ?_
  · skip
    refine wk [(.t 0, .v (Dv (.sl (bytesRows (markB k n))))), (.t 1, .v (I (k + (0 : Nat)))), (.t 5, .v (I (0 : Nat)))] [] [] (⟨0, rfl, Nat.zero_le _, rfl⟩) ?_ rfl rfl
    repeat' first | exact trivial | refine mL_nil rfl ?_ | refine mL_d rfl ?_ ?_ | refine mL_own rfl rfl ?_ rfl ?_ | refine mL_row rfl ?_ ?_ | refine mL_pt rfl rfl rfl rfl ?_ | refine mL_box rfl ?_ ?_ | refine mL_agg rfl ?_ ?_ | exact mCs_nil0 | refine mCs_d ?_ ?_ | refine mCs_nil ?_ | refine mCs_own rfl ?_ rfl ?_ | refine mCs_pt rfl rfl rfl ?_
    all_goals first | with_reducible rfl | (simp)
  rintro n s ⟨i, rfl, hi, rfl⟩
  refine SW.seq ?_
  refine SW.seq ?_
  refine SW.regT tabOk [0, 1, 5, 9] ?_
  refine And.intro trivial (And.intro trivial (And.intro (by first | trivial | exact Nat.le_of_ble_eq_true rfl | exact ⟨rfl, Nat.le_of_ble_eq_true rfl⟩ | omega | ((repeat' apply And.intro) <;> first | trivial | rfl | exact Nat.le_of_ble_eq_true rfl | omega) | (simp; done) | (simp; omega)) (And.intro trivial ?_)))
  refine SW.cond rfl (fun c9 => ?_) (fun c9 => ?_)
  · skip
    have hi2 : i < n := by simpa [bytesRows_length, markB_length] using c9
    have hi3 : i < (markB k n).length := by rw [markB_length]; exact hi2
    refine SW.skip ?_
    refine SW.seq ?_
    refine SW.block ?_
    refine SW.seq ?_
    refine SW.seq ?_
    refine SW.regT tabOk [0, 1, 5, 18] ?_
    refine And.intro trivial (And.intro trivial (And.intro (by have hb := bytesRows_getD (l := (markB k n)) (i := i) (hi3); refine ⟨⟨by omega, by rw [bytesRows_length]; omega⟩, ?_⟩; simp only [Int.toNat_natCast]; rw [hb]; rfl) (And.intro (by have hb := bytesRows_getD (l := (markB k n)) (i := i) (hi3); simp only [Int.toNat_natCast]; rw [hb]; exact ⟨Nat.le_refl _, rfl⟩) (And.intro trivial (And.intro (by first | trivial | rfl) (And.intro trivial ?_))))))
    refine SW.cond rfl (fun c18 => ?_) (fun c18 => ?_)
    · skip
      exfalso
      rw [Int.toNat_natCast, bytesRows_getD hi3, markB_getD hi2, wrap8_mark hk.1] at c18
      simp [toU] at c18
    · skip
      refine SW.skip ?_
      refine SW.regT tabOk [0, 1, 5] ?_
      refine And.intro trivial (And.intro trivial (And.intro trivial ?_))
      refine SW.regT tabOk [0, 1, 5] ?_
      refine And.intro trivial (And.intro trivial (And.intro trivial ?_))
      refine wk [(.t 0, .v (Dv (.sl (bytesRows (markB k n))))), (.t 1, .v (I (k + ((i + 1) : Nat)))), (.t 5, .v (I ((i + 1) : Nat)))] [] [] (⟨n - (i + 1), by omega, i + 1, rfl, by omega, rfl⟩) ?_ rfl rfl
      repeat' first | exact trivial | refine mL_nil rfl ?_ | refine mL_d rfl ?_ ?_ | refine mL_own rfl rfl ?_ rfl ?_ | refine mL_row rfl ?_ ?_ | refine mL_pt rfl rfl rfl rfl ?_ | refine mL_box rfl ?_ ?_ | refine mL_agg rfl ?_ ?_ | exact mCs_nil0 | refine mCs_d ?_ ?_ | refine mCs_nil ?_ | refine mCs_own rfl ?_ rfl ?_ | refine mCs_pt rfl rfl rfl ?_
      all_goals first | with_reducible rfl | (first | (exact congrArg D.i (wrap64_of (by omega))) | (refine congrArg D.i ?_; rw [wrap64_of (by omega)]; omega))
  · skip
    refine SW.exit ?_
    refine SW.seq ?_
    refine SW.regT tabOk [4] ?_
    refine And.intro trivial (And.intro trivial ?_)
    refine SW.ret ?_
    have e : i = n := by simp [bytesRows_length, markB_length] at c9; omega
    subst e
    refine retOk1 rfl ?_
    rfl

end Go.Proofs.Ytjncgdeohbcihaa
