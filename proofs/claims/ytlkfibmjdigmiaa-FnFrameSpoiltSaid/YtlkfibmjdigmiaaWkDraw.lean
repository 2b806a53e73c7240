import Derived.Test.YtlkfibmjdigmiaaTab
import Derived.Test.YtlkfibmjdigmiaaWkUnpack
import Derived.Test.YtlkfibmjdigmiaaAbDj
import Derived.Test.YtlkfibmjdigmiaaAbDf
import Derived.Test.YtlkfibmjdigmiaaAbBr
namespace Go.Proofs.Ytlkfibmjdigmiaa
open Go Go.Ab Go.RowKit
set_option linter.unusedVariables false
set_option linter.unusedSimpArgs false

theorem s_pick (l : List UInt8) (p n : Int) (hp : 0 ≤ p ∧ p ≤ 1000000) (hl : l.length ≤ 2000) : Ab.Spec Try.prog 30 2 [(.t 0, .v (.e (.c (.pt 0 0)))), (.t 1, .v (I n)), (.o 0, .box 50 [.d (.sl (bytesRows l)), .d (.i (p))])] [(.t 0, .v (I (pickV l p n))), (.o 0, .box 50 [.d (.sl (bytesRows l)), .d (.i (p + 1))])] := by
  refine spec_of_body tabOk Try.func30 rfl (by kernel_rfl) (by decide) (by kernel_rfl) rfl ?_
  refine SW.seq ?_
  refine SW.regT tabOk [0, 1, 18, 19, 20, 21, 22, 23] ?_
  refine And.intro trivial ?_
  refine SW.seq ?_
  refine SW.regT tabOk [0, 1, 18, 19, 20, 21, 22, 23] ?_
  refine And.intro trivial (And.intro trivial (And.intro trivial (And.intro (by first | trivial | rfl) (And.intro (by first | trivial | exact Nat.le_of_ble_eq_true rfl | exact ⟨rfl, Nat.le_of_ble_eq_true rfl⟩ | omega | ((repeat' apply And.intro) <;> first | trivial | rfl | exact Nat.le_of_ble_eq_true rfl | omega) | (simp; done) | (simp; omega)) (And.intro trivial (And.intro trivial (And.intro (by first | trivial | rfl) (And.intro (by first | trivial | exact Nat.le_of_ble_eq_true rfl | exact ⟨rfl, Nat.le_of_ble_eq_true rfl⟩ | omega | ((repeat' apply And.intro) <;> first | trivial | rfl | exact Nat.le_of_ble_eq_true rfl | omega) | (simp; done) | (simp; omega)) ?_))))))))
  refine SW.seq ?_
  refine SW.seq ?_
  refine SW.wk (J := fun s => s = [(.t 0, .v (.e (.c (.pt 0 0)))), (.t 1, .v (I n)), (.o 0, .box 50 [.d (.sl (bytesRows l)), .d (.i (p + 1))])]) ?_ ?_
  · skip
    refine wk [(.t 0, .v (.e (.c (.pt 0 0)))), (.t 1, .v (I n)), (.o 0, .box 50 [.d (.sl (bytesRows l)), .d (.i (p + 1))])] [] [] (rfl) ?_ rfl rfl
    repeat' first | exact trivial | refine mL_nil rfl ?_ | refine mL_d rfl ?_ ?_ | refine mL_own rfl rfl ?_ rfl ?_ | refine mL_row rfl ?_ ?_ | refine mL_pt rfl rfl rfl rfl ?_ | refine mL_box rfl ?_ ?_ | refine mL_agg rfl ?_ ?_ | exact mCs_nil0 | refine mCs_d ?_ ?_ | refine mCs_nil ?_ | refine mCs_own rfl ?_ rfl ?_ | refine mCs_pt rfl rfl rfl ?_
    all_goals first | with_reducible rfl | (exact congrArg D.i (wrap64_of (by omega)))
  rintro s rfl
  refine SW.regT tabOk [0, 1, 24] ?_
  refine And.intro trivial (And.intro trivial (And.intro trivial (And.intro (fun h => trivial) (And.intro (by intro h; (repeat' apply And.intro) <;> first | exact h | trivial) (And.intro (fun h => trivial) (And.intro (by intro h; (repeat' apply And.intro) <;> first | exact h | trivial) (And.intro (fun h => (by first | trivial | rfl)) (And.intro (by intro h; (repeat' apply And.intro) <;> first | exact h | trivial) (And.intro (fun h => (by first | trivial | exact Nat.le_of_ble_eq_true rfl | exact ⟨rfl, Nat.le_of_ble_eq_true rfl⟩ | omega | ((repeat' apply And.intro) <;> first | trivial | rfl | exact Nat.le_of_ble_eq_true rfl | omega) | (simp; done) | (simp; omega))) (And.intro (by intro h; (repeat' apply And.intro) <;> first | exact h | trivial) (And.intro (fun h => (by first | trivial | exact Nat.le_of_ble_eq_true rfl | exact ⟨rfl, Nat.le_of_ble_eq_true rfl⟩ | omega | ((repeat' apply And.intro) <;> first | trivial | rfl | exact Nat.le_of_ble_eq_true rfl | omega) | (simp; done) | (simp; omega))) (And.intro (by intro h; (repeat' apply And.intro) <;> first | exact h | trivial) (And.intro (fun h => trivial) (And.intro (by intro h; (repeat' apply And.intro) <;> first | exact h | trivial) (And.intro (by constructor <;> intro h <;> first | trivial | exact h | (simp [gb, condOf]; done) | (simpa [gb, condOf] using h)) ?_)))))))))))))))
  refine SW.cond rfl (fun c24 => ?_) (fun c24 => ?_)
  · skip
    refine SW.seq ?_
    refine SW.regT tabOk [4] ?_
    refine And.intro trivial ?_
    refine SW.ret ?_
    refine retOk _ [] [] rfl ?_ rfl rfl
    repeat' first | exact trivial | refine mL_nil rfl ?_ | refine mL_d rfl ?_ ?_ | refine mL_own rfl rfl ?_ rfl ?_ | refine mL_row rfl ?_ ?_ | refine mL_pt rfl rfl rfl rfl ?_ | refine mL_box rfl ?_ ?_ | refine mL_agg rfl ?_ ?_ | exact mCs_nil0 | refine mCs_d ?_ ?_ | refine mCs_nil ?_ | refine mCs_own rfl ?_ rfl ?_ | refine mCs_pt rfl rfl rfl ?_
    all_goals first | with_reducible rfl | skip
    refine congrArg D.i ?_
    unfold pickV
    refine (if_pos ?_).symm
    by_cases h9 : n < 1
    · exact .inl h9
    · right; simp [h9, bytesRows_length, gb] at c24; simp [c24]
  · skip
    have hn : 1 ≤ n ∧ 1 ≤ ((bytesRows l).length : Int) := by
      by_cases h9 : n < 1
      · simp [h9] at c24
      · refine ⟨by omega, ?_⟩; simp [h9, bytesRows_length, gb] at c24 ⊢; have := List.length_pos_iff.2 c24; omega
    have hlr := bytesRows_length l
    refine SW.skip ?_
    refine SW.seq ?_
    refine SW.regT tabOk [0, 1, 5] ?_
    refine And.intro trivial (And.intro trivial (And.intro (by first | trivial | rfl) (And.intro (by first | trivial | exact Nat.le_of_ble_eq_true rfl | exact ⟨rfl, Nat.le_of_ble_eq_true rfl⟩ | omega | ((repeat' apply And.intro) <;> first | trivial | rfl | exact Nat.le_of_ble_eq_true rfl | omega) | (simp; done) | (simp; omega)) (And.intro trivial (And.intro trivial ?_)))))
    refine SW.seq ?_
    refine SW.seq ?_
    refine SW.wk (J := fun s => s = [(.t 0, .v (.e (.c (.pt 0 0)))), (.t 1, .v (I n)), (.t 5, .v (I p)), (.o 0, .box 50 [.d (.sl (bytesRows l)), .d (.i (p + 1))])]) ?_ ?_
    · skip
      refine wk [(.t 0, .v (.e (.c (.pt 0 0)))), (.t 1, .v (I n)), (.t 5, .v (I p)), (.o 0, .box 50 [.d (.sl (bytesRows l)), .d (.i (p + 1))])] [] [] (rfl) ?_ rfl rfl
      repeat' first | exact trivial | refine mL_nil rfl ?_ | refine mL_d rfl ?_ ?_ | refine mL_own rfl rfl ?_ rfl ?_ | refine mL_row rfl ?_ ?_ | refine mL_pt rfl rfl rfl rfl ?_ | refine mL_box rfl ?_ ?_ | refine mL_agg rfl ?_ ?_ | exact mCs_nil0 | refine mCs_d ?_ ?_ | refine mCs_nil ?_ | refine mCs_own rfl ?_ rfl ?_ | refine mCs_pt rfl rfl rfl ?_
      all_goals first | with_reducible rfl | ((refine congrArg D.i ?_; rw [wrap64_of (by omega)]; omega))
    rintro s rfl
    refine SW.regT tabOk [0, 1, 5, 36] ?_
    refine And.intro trivial (And.intro trivial (And.intro trivial (And.intro (by first | trivial | rfl) (And.intro (by first | trivial | exact Nat.le_of_ble_eq_true rfl | exact ⟨rfl, Nat.le_of_ble_eq_true rfl⟩ | omega | ((repeat' apply And.intro) <;> first | trivial | rfl | exact Nat.le_of_ble_eq_true rfl | omega) | (simp; done) | (simp; omega)) (And.intro (by first | trivial | exact Nat.le_of_ble_eq_true rfl | exact ⟨rfl, Nat.le_of_ble_eq_true rfl⟩ | omega | ((repeat' apply And.intro) <;> first | trivial | rfl | exact Nat.le_of_ble_eq_true rfl | omega) | (simp; done) | (simp; omega)) (And.intro trivial ?_))))))
    refine SW.cond rfl (fun c36 => ?_) (fun c36 => ?_)
    · skip
      have hi : p < ((bytesRows l).length : Int) := by simpa using c36
      refine SW.seq ?_
      refine SW.regT tabOk [4] ?_
      refine And.intro trivial (And.intro trivial (And.intro (by first | trivial | rfl) (And.intro (by first | trivial | exact Nat.le_of_ble_eq_true rfl | exact ⟨rfl, Nat.le_of_ble_eq_true rfl⟩ | omega | ((repeat' apply And.intro) <;> first | trivial | rfl | exact Nat.le_of_ble_eq_true rfl | omega) | (simp; done) | (simp; omega)) (And.intro trivial (And.intro (ixB (by omega) (by omega)) (And.intro (ldB (by omega) (by omega)) (And.intro (by first | trivial | rfl) (And.intro trivial (And.intro (by omega) (And.intro trivial ?_))))))))))
      refine SW.ret ?_
      refine retOk _ [] [] rfl ?_ rfl rfl
      repeat' first | exact trivial | refine mL_nil rfl ?_ | refine mL_d rfl ?_ ?_ | refine mL_own rfl rfl ?_ rfl ?_ | refine mL_row rfl ?_ ?_ | refine mL_pt rfl rfl rfl rfl ?_ | refine mL_box rfl ?_ ?_ | refine mL_agg rfl ?_ ?_ | exact mCs_nil0 | refine mCs_d ?_ ?_ | refine mCs_nil ?_ | refine mCs_own rfl ?_ rfl ?_ | refine mCs_pt rfl rfl rfl ?_
      all_goals first | with_reducible rfl | skip
      refine congrArg D.i ?_
      rw [valW hp.1 (by omega)]
      unfold pickV
      rw [if_neg (by omega), if_pos (by omega)]
    · skip
      have hi : ¬ p < ((bytesRows l).length : Int) := by simpa using c36
      refine SW.skip ?_
      refine SW.seq ?_
      have r1 := tmod_range (x := p) (n := ((bytesRows l).length : Int)) hp.1 (by omega)
      have r2 := tmod_range (x := wrap64 (wrap64 (p * 7) + 3)) (n := ((bytesRows l).length : Int)) (by rw [wrap64_of (n := p * 7) (by omega), wrap64_of (by omega)]; omega) (by omega)
      have r3 := tdiv_range (x := p) (n := ((bytesRows l).length : Int)) hp.1 (by omega)
      refine SW.regD tabOk mo [1, 6] ?_
      refine And.intro trivial (And.intro trivial (And.intro (by first | trivial | rfl) (And.intro (by first | trivial | exact Nat.le_of_ble_eq_true rfl | exact ⟨rfl, Nat.le_of_ble_eq_true rfl⟩ | omega | ((repeat' apply And.intro) <;> first | trivial | rfl | exact Nat.le_of_ble_eq_true rfl | omega) | (simp; done) | (simp; omega)) (And.intro trivial (And.intro trivial (And.intro trivial (And.intro (by first | trivial | rfl) (And.intro (by first | trivial | exact Nat.le_of_ble_eq_true rfl | exact ⟨rfl, Nat.le_of_ble_eq_true rfl⟩ | omega | ((repeat' apply And.intro) <;> first | trivial | rfl | exact Nat.le_of_ble_eq_true rfl | omega) | (simp; done) | (simp; omega)) (And.intro (by first | trivial | exact Nat.le_of_ble_eq_true rfl | exact ⟨rfl, Nat.le_of_ble_eq_true rfl⟩ | omega | ((repeat' apply And.intro) <;> first | trivial | rfl | exact Nat.le_of_ble_eq_true rfl | omega) | (simp; done) | (simp; omega)) (And.intro (by omega) (And.intro (ixB (by omega) (by omega)) (And.intro (ldB (by omega) (by omega)) (And.intro (by first | trivial | rfl) (And.intro trivial (And.intro trivial (And.intro trivial (And.intro (by first | trivial | rfl) (And.intro (by first | trivial | exact Nat.le_of_ble_eq_true rfl | exact ⟨rfl, Nat.le_of_ble_eq_true rfl⟩ | omega | ((repeat' apply And.intro) <;> first | trivial | rfl | exact Nat.le_of_ble_eq_true rfl | omega) | (simp; done) | (simp; omega)) (And.intro trivial (And.intro trivial (And.intro trivial (And.intro trivial (And.intro trivial (And.intro (by first | trivial | rfl) (And.intro (by first | trivial | exact Nat.le_of_ble_eq_true rfl | exact ⟨rfl, Nat.le_of_ble_eq_true rfl⟩ | omega | ((repeat' apply And.intro) <;> first | trivial | rfl | exact Nat.le_of_ble_eq_true rfl | omega) | (simp; done) | (simp; omega)) (And.intro (by first | trivial | exact Nat.le_of_ble_eq_true rfl | exact ⟨rfl, Nat.le_of_ble_eq_true rfl⟩ | omega | ((repeat' apply And.intro) <;> first | trivial | rfl | exact Nat.le_of_ble_eq_true rfl | omega) | (simp; done) | (simp; omega)) (And.intro (by omega) (And.intro (ixB (by omega) (by omega)) (And.intro (ldB (by omega) (by omega)) (And.intro (by first | trivial | rfl) (And.intro trivial (And.intro trivial (And.intro trivial (And.intro trivial (And.intro trivial (And.intro trivial (And.intro trivial (And.intro trivial (And.intro (by first | trivial | rfl) (And.intro (by first | trivial | exact Nat.le_of_ble_eq_true rfl | exact ⟨rfl, Nat.le_of_ble_eq_true rfl⟩ | omega | ((repeat' apply And.intro) <;> first | trivial | rfl | exact Nat.le_of_ble_eq_true rfl | omega) | (simp; done) | (simp; omega)) (And.intro (by first | trivial | exact Nat.le_of_ble_eq_true rfl | exact ⟨rfl, Nat.le_of_ble_eq_true rfl⟩ | omega | ((repeat' apply And.intro) <;> first | trivial | rfl | exact Nat.le_of_ble_eq_true rfl | omega) | (simp; done) | (simp; omega)) (And.intro (by omega) (And.intro trivial (And.intro trivial (And.intro trivial (And.intro (by kernel_rfl) ?_))))))))))))))))))))))))))))))))))))))))))))))
      refine SW.seq ?_
      refine SW.regT tabOk [1, 6] ?_
      refine And.intro trivial (And.intro trivial (And.intro (by decide) (And.intro trivial (And.intro trivial ?_))))
      refine SW.seq ?_
      refine SW.regT tabOk [4] ?_
      refine And.intro trivial (And.intro trivial (And.intro (by omega) (And.intro trivial ?_)))
      refine SW.ret ?_
      refine retOk _ [] [] rfl ?_ rfl rfl
      repeat' first | exact trivial | refine mL_nil rfl ?_ | refine mL_d rfl ?_ ?_ | refine mL_own rfl rfl ?_ rfl ?_ | refine mL_row rfl ?_ ?_ | refine mL_pt rfl rfl rfl rfl ?_ | refine mL_box rfl ?_ ?_ | refine mL_agg rfl ?_ ?_ | exact mCs_nil0 | refine mCs_d ?_ ?_ | refine mCs_nil ?_ | refine mCs_own rfl ?_ rfl ?_ | refine mCs_pt rfl rfl rfl ?_
      all_goals first | with_reducible rfl | skip
      refine congrArg D.i ?_
      rw [valW r1.1 (by omega), valW r2.1 (by omega)]
      unfold pickV
      rw [if_neg (by omega), if_neg (by omega), hlr]

theorem s_spec_l6Open (l : List UInt8) (hl : l.length ≤ 140737488355328) : Ab.Spec Try.prog 20 1 [(.t 0, .v (Dv (.sl (bytesRows l))))] [(.t 0, .v (.e (.c (.pt 0 0)))), (.o 0, .box 50 [.d (.sl (bytesRows (l.take 2000))), .d (.i (0))])] := by
  refine spec_of_body tabOk Try.func20 rfl (by kernel_rfl) (by decide) (by kernel_rfl) rfl ?_
  refine SW.seq ?_
  refine SW.regT tabOk [0] ?_
  refine And.intro trivial ?_
  refine SW.seq ?_
  refine SW.seq ?_
  refine SW.regT tabOk [0, 5] ?_
  refine And.intro trivial (And.intro (by first | trivial | exact Nat.le_of_ble_eq_true rfl | exact ⟨rfl, Nat.le_of_ble_eq_true rfl⟩ | omega | ((repeat' apply And.intro) <;> first | trivial | rfl | exact Nat.le_of_ble_eq_true rfl | omega) | (simp; done) | (simp; omega)) (And.intro trivial ?_))
  refine SW.cond rfl (fun c5 => ?_) (fun c5 => ?_)
  · skip
    refine SW.regT tabOk [0] ?_
    refine And.intro trivial (And.intro (by refine ⟨by simp [bnd, loOf, hiOf, bytesRows_length] at *; omega, bytesRows_len1 l⟩) (And.intro trivial ?_))
    refine SW.seq ?_
    refine SW.regT tabOk [2] ?_
    refine And.intro trivial (And.intro (by first | trivial | exact Nat.le_of_ble_eq_true rfl | exact ⟨rfl, Nat.le_of_ble_eq_true rfl⟩ | omega | ((repeat' apply And.intro) <;> first | trivial | rfl | exact Nat.le_of_ble_eq_true rfl | omega) | (simp; done) | (simp; omega)) (And.intro trivial (And.intro trivial ?_)))
    refine SW.ret ?_
    refine retOk _ [(0, 10)] [] rfl ?_ rfl rfl
    repeat' first | exact trivial | refine mL_nil rfl ?_ | refine mL_d rfl ?_ ?_ | refine mL_own rfl rfl ?_ rfl ?_ | refine mL_row rfl ?_ ?_ | refine mL_pt rfl rfl rfl rfl ?_ | refine mL_box rfl ?_ ?_ | refine mL_agg rfl ?_ ?_ | exact mCs_nil0 | refine mCs_d ?_ ?_ | refine mCs_nil ?_ | refine mCs_own rfl ?_ rfl ?_ | refine mCs_pt rfl rfl rfl ?_
    all_goals first | with_reducible rfl | skip
    first | exact congrArg D.sl (bytesRows_cut l 0 2000) | (refine congrArg D.sl (congrArg bytesRows ?_); symm; apply List.take_of_length_le; simp [bytesRows_length] at c5; omega)
  · skip
    refine SW.skip ?_
    refine SW.seq ?_
    refine SW.regT tabOk [2] ?_
    refine And.intro trivial (And.intro (by first | trivial | exact Nat.le_of_ble_eq_true rfl | exact ⟨rfl, Nat.le_of_ble_eq_true rfl⟩ | omega | ((repeat' apply And.intro) <;> first | trivial | rfl | exact Nat.le_of_ble_eq_true rfl | omega) | (simp; done) | (simp; omega)) (And.intro trivial (And.intro trivial ?_)))
    refine SW.ret ?_
    refine retOk _ [(0, 10)] [] rfl ?_ rfl rfl
    repeat' first | exact trivial | refine mL_nil rfl ?_ | refine mL_d rfl ?_ ?_ | refine mL_own rfl rfl ?_ rfl ?_ | refine mL_row rfl ?_ ?_ | refine mL_pt rfl rfl rfl rfl ?_ | refine mL_box rfl ?_ ?_ | refine mL_agg rfl ?_ ?_ | exact mCs_nil0 | refine mCs_d ?_ ?_ | refine mCs_nil ?_ | refine mCs_own rfl ?_ rfl ?_ | refine mCs_pt rfl rfl rfl ?_
    all_goals first | with_reducible rfl | skip
    first | exact congrArg D.sl (bytesRows_cut l 0 2000) | (refine congrArg D.sl (congrArg bytesRows ?_); symm; apply List.take_of_length_le; simp [bytesRows_length] at c5; omega)

end Go.Proofs.Ytlkfibmjdigmiaa
