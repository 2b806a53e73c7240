import Derived.Test.YtlkfibmjdigmiabTab
import Derived.Test.YtlkfibmjdigmiabWkB
import Derived.Test.YtlkfibmjdigmiabAbDn
import Derived.Test.YtlkfibmjdigmiabAbBr
namespace Go.Proofs.Ytlkfibmjdigmiab
open Go Go.Ab Go.RowKit
set_option linter.unusedVariables false
set_option linter.unusedSimpArgs false

theorem mrows_getD {k : Int} {i n : Nat} (h : i < n) : (mrows k n).getD i [] = mrow k i := by
  rw [List.getD_eq_getElem?_getD]; simp [mrows, h]
theorem mbits_getD {k : Int} {i n : Nat} (h : i < n) : (mbits k n).getD i [] = mbit k i := by
  rw [List.getD_eq_getElem?_getD]; simp [mbits, h]
theorem mbits_isB (k : Int) (n : Nat) : ∃ L : List Bool, mbits k n = boolRows L ∧ L.length = n := ⟨(List.range n).map fun i => (Int.tmod (k + (i : Nat)) 3 == 0), by simp [mbits, boolRows, mbit], by simp⟩
theorem s_laws_markBoolS (R : List (List D)) (k : Int) (hR0 : ∀ r ∈ R, r.length = 1) (hl : R.length ≤ 1000) (hk : 1 ≤ k ∧ k ≤ 100000) : Ab.Spec Try.prog 17 2 [(.t 0, .v (.e (.c (.own 0 (R.length))))), (.t 1, .v (I k)), (.o 0, .row 4 1 (R))] [(.t 0, .v (I (k + (R.length : Nat)))), (.o 0, .row 4 1 (mbits k R.length))] := by
  refine spec_of_body tabOk Try.func17 rfl (by kernel_rfl) (by decide) (by kernel_rfl) rfl ?_
  refine SW.seq ?_
  refine SW.regT tabOk [0, 1] ?_
  refine And.intro trivial ?_
  refine SW.seq ?_
  refine SW.seq ?_
  refine SW.regT tabOk [0, 1, 5] ?_
  refine And.intro trivial ?_
  refine SW.block ?_
  -- live at the head: [0, 1, 5]
  refine SW.loopW (n := R.length) (fun n s => ∃ (i : Nat), n = R.length - i ∧ i ≤ R.length ∧ s = [(.t 0, .v (.e (.c (.own 0 (R.length))))), (.t 1, .v (I (k + (i : Nat)))), (.t 5, .v (I (i : Nat))), (.o 0, .row 4 1 (mbits k i ++ R.drop i))]) ?_ ?_
  · skip
    refine wk [(.t 0, .v (.e (.c (.own 0 (R.length))))), (.t 1, .v (I (k + (0 : Nat)))), (.t 5, .v (I (0 : Nat))), (.o 0, .row 4 1 (mbits k 0 ++ R.drop 0))] [] [] (⟨0, rfl, Nat.zero_le _, rfl⟩) ?_ rfl rfl
    repeat' first | exact trivial | refine mL_nil rfl ?_ | refine mL_d rfl ?_ ?_ | refine mL_own rfl rfl ?_ rfl ?_ | refine mL_row rfl ?_ ?_ | refine mL_pt rfl rfl rfl rfl ?_ | refine mL_box rfl ?_ ?_ | refine mL_agg rfl ?_ ?_ | exact mCs_nil0 | refine mCs_d ?_ ?_ | refine mCs_nil ?_ | refine mCs_own rfl ?_ rfl ?_ | refine mCs_pt rfl rfl rfl ?_
    all_goals first | with_reducible rfl | (first | rfl | (refine congrArg D.i ?_; omega))
  rintro n s ⟨i, rfl, hi, rfl⟩
  refine SW.seq ?_
  refine SW.seq ?_
  refine SW.regT tabOk [0, 1, 5, 9] ?_
  refine And.intro trivial (And.intro trivial (And.intro (by first | exact at_len (mbits_length k i) (by rw [List.length_drop]; omega) | (simp [mbits_length]; omega)) (And.intro trivial ?_)))
  refine SW.cond rfl (fun c9 => ?_) (fun c9 => ?_)
  · skip
    have hi2 : i < R.length := by simpa using c9
    obtain ⟨r, B, hB, hB2, hr, hR, hA0⟩ := split_at hi2
    have hr1 := hR0 r hr
    rw [hB]
    have hA := mbits_length k i
    have hlen : i + (B.length + 1) = R.length := by have := congrArg List.length hR; simp at this; omega
    refine SW.skip ?_
    refine SW.seq ?_
    refine SW.block ?_
    refine SW.seq ?_
    refine SW.regT tabOk [0, 1, 5] ?_
    refine And.intro trivial (And.intro trivial (And.intro trivial (And.intro (by decide) (And.intro trivial (And.intro (by exact ⟨at_len hA hlen, by omega, by omega⟩) (And.intro (by rw [Int.toNat_natCast, at_get hA, hr1]; exact ⟨at_len hA hlen, by omega, rfl, Nat.le_refl _⟩) ?_))))))
    refine SW.regT tabOk [0, 1, 5] ?_
    refine And.intro trivial (And.intro trivial (And.intro trivial ?_))
    refine SW.regT tabOk [0, 1, 5] ?_
    refine And.intro trivial (And.intro trivial (And.intro trivial ?_))
    refine wk [(.t 0, .v (.e (.c (.own 0 (R.length))))), (.t 1, .v (I (k + ((i + 1) : Nat)))), (.t 5, .v (I ((i + 1) : Nat))), (.o 0, .row 4 1 (mbits k (i + 1) ++ R.drop (i + 1)))] [] [] (⟨R.length - (i + 1), by omega, i + 1, rfl, by omega, rfl⟩) ?_ rfl rfl
    repeat' first | exact trivial | refine mL_nil rfl ?_ | refine mL_d rfl ?_ ?_ | refine mL_own rfl rfl ?_ rfl ?_ | refine mL_row rfl ?_ ?_ | refine mL_pt rfl rfl rfl rfl ?_ | refine mL_box rfl ?_ ?_ | refine mL_agg rfl ?_ ?_ | exact mCs_nil0 | refine mCs_d ?_ ?_ | refine mCs_nil ?_ | refine mCs_own rfl ?_ rfl ?_ | refine mCs_pt rfl rfl rfl ?_
    all_goals first | with_reducible rfl | (first | with_reducible rfl | exact congrArg D.i (wrap64_of (by omega)) | (refine congrArg D.i ?_; rw [wrap64_of (by omega)]; omega) | (rw [Int.toNat_natCast, at_get hA, at_set hA, mbits_succ, hB2, List.append_assoc]; match r, hr1 with | [x], _ => rfl))
  · skip
    refine SW.exit ?_
    refine SW.seq ?_
    refine SW.regT tabOk [4] ?_
    refine And.intro trivial (And.intro trivial ?_)
    refine SW.ret ?_
    have e : i = R.length := by simp at c9; omega
    subst e
    refine retOk _ [] [] rfl ?_ rfl rfl
    repeat' first | exact trivial | refine mL_nil rfl ?_ | refine mL_d rfl ?_ ?_ | refine mL_own rfl rfl ?_ rfl ?_ | refine mL_row rfl ?_ ?_ | refine mL_pt rfl rfl rfl rfl ?_ | refine mL_box rfl ?_ ?_ | refine mL_agg rfl ?_ ?_ | exact mCs_nil0 | refine mCs_d ?_ ?_ | refine mCs_nil ?_ | refine mCs_own rfl ?_ rfl ?_ | refine mCs_pt rfl rfl rfl ?_
    all_goals first | with_reducible rfl | (simp; done)

theorem s_laws_markRiver (R L : List (List D)) (k : Int) (hR0 : ∀ r ∈ R, isK r) (hl : R.length ≤ 1000) (hL0 : ∀ r ∈ L, r.length = 1) (hL : L.length ≤ 1000) (hk : 1 ≤ k ∧ k ≤ 1000) : Ab.Spec Try.prog 7 2 [(.t 0, .v (.e (.agg [.d (.i 0), .own 0 (R.length), .own 1 (L.length), .nil, .nil, .nil]))), (.t 1, .v (I k)), (.o 0, .row 36 5 (R)), (.o 1, .row 4 1 (L))] [(.t 0, .v (I (k + 4 * (R.length : Nat) + (L.length : Nat)))), (.o 0, .row 36 5 (mrows k R.length)), (.o 1, .row 4 1 (mbits (k + 4 * (R.length : Nat)) L.length))] := by
  refine spec_of_body tabOk Try.func7 rfl (by kernel_rfl) (by decide) (by kernel_rfl) rfl ?_
  refine SW.seq ?_
  refine SW.regT tabOk [1, 2] ?_
  refine And.intro trivial (And.intro trivial ?_)
  refine SW.seq ?_
  refine SW.regT tabOk [1, 2] ?_
  refine And.intro (by first | trivial | rfl) (And.intro (by first | trivial | exact Nat.le_of_ble_eq_true rfl | exact ⟨rfl, Nat.le_of_ble_eq_true rfl⟩ | omega | ((repeat' apply And.intro) <;> first | trivial | rfl | exact Nat.le_of_ble_eq_true rfl | omega) | (simp; done) | (simp; omega)) (And.intro trivial ?_))
  refine ex_call (robj := [(0, _)]) (rl := [(0, 0)]) (bor := []) (s_laws_markKeeperS R k hR0 hl (by omega)) rfl rfl rfl rfl ⟨mL_own rfl rfl rfl rfl (mL_d rfl rfl (mL_row rfl rfl trivial)), rfl⟩ rfl (.inl rfl) (fun p hp => by simp at hp; subst hp; rfl) (fun _ hj => nomatch hj) ?_
  refine And.intro trivial ?_
  refine SW.seq ?_
  refine SW.regT tabOk [1, 2] ?_
  refine And.intro (by first | trivial | rfl) (And.intro (by first | trivial | exact Nat.le_of_ble_eq_true rfl | exact ⟨rfl, Nat.le_of_ble_eq_true rfl⟩ | omega | ((repeat' apply And.intro) <;> first | trivial | rfl | exact Nat.le_of_ble_eq_true rfl | omega) | (simp; done) | (simp; omega)) (And.intro trivial ?_))
  refine ex_call (robj := [(1, _)]) (rl := [(0, 1)]) (bor := []) (s_laws_markBoolS L (k + 4 * (R.length : Nat)) hL0 hL (by omega)) rfl rfl rfl rfl ⟨mL_own rfl rfl rfl rfl (mL_d rfl rfl (mL_row rfl rfl trivial)), rfl⟩ rfl (.inl rfl) (fun p hp => by simp at hp; subst hp; rfl) (fun _ hj => nomatch hj) ?_
  refine And.intro trivial ?_
  refine SW.seq ?_
  refine SW.regT tabOk [1, 2] ?_
  refine And.intro (by first | trivial | rfl) (And.intro (by first | trivial | exact Nat.le_of_ble_eq_true rfl | exact ⟨rfl, Nat.le_of_ble_eq_true rfl⟩ | omega | ((repeat' apply And.intro) <;> first | trivial | rfl | exact Nat.le_of_ble_eq_true rfl | omega) | (simp; done) | (simp; omega)) (And.intro trivial ?_))
  refine ex_pure (s_markParcelS_nil _) rfl rfl rfl rfl rfl rfl rfl rfl ?_
  refine And.intro trivial ?_
  refine SW.seq ?_
  refine SW.regT tabOk [1, 2] ?_
  refine And.intro (by first | trivial | rfl) (And.intro (by first | trivial | exact Nat.le_of_ble_eq_true rfl | exact ⟨rfl, Nat.le_of_ble_eq_true rfl⟩ | omega | ((repeat' apply And.intro) <;> first | trivial | rfl | exact Nat.le_of_ble_eq_true rfl | omega) | (simp; done) | (simp; omega)) (And.intro trivial ?_))
  refine ex_pure (s_markNoteS_nil _) rfl rfl rfl rfl rfl rfl rfl rfl ?_
  refine And.intro trivial ?_
  refine SW.seq ?_
  refine SW.regT tabOk [1] ?_
  refine And.intro (by first | trivial | rfl) (And.intro (by first | trivial | exact Nat.le_of_ble_eq_true rfl | exact ⟨rfl, Nat.le_of_ble_eq_true rfl⟩ | omega | ((repeat' apply And.intro) <;> first | trivial | rfl | exact Nat.le_of_ble_eq_true rfl | omega) | (simp; done) | (simp; omega)) (And.intro trivial ?_))
  refine ex_pure (s_markNoteS_nil _) rfl rfl rfl rfl rfl rfl rfl rfl ?_
  refine And.intro trivial ?_
  refine SW.seq ?_
  refine SW.regT tabOk [4] ?_
  refine And.intro trivial (And.intro trivial ?_)
  refine SW.ret ?_
  refine retOk _ [] [] rfl ?_ rfl rfl
  repeat' first | exact trivial | refine mL_nil rfl ?_ | refine mL_d rfl ?_ ?_ | refine mL_own rfl rfl ?_ rfl ?_ | refine mL_row rfl ?_ ?_ | refine mL_pt rfl rfl rfl rfl ?_ | refine mL_box rfl ?_ ?_ | refine mL_agg rfl ?_ ?_ | exact mCs_nil0 | refine mCs_d ?_ ?_ | refine mCs_nil ?_ | refine mCs_own rfl ?_ rfl ?_ | refine mCs_pt rfl rfl rfl ?_
  all_goals rfl

set_option maxHeartbeats 800000 in
theorem s_laws_heldKeeperS (k : Int) (n : Nat) (hn : n ≤ 1000) (hk : 1 ≤ k ∧ k ≤ 100000) : Ab.Spec Try.prog 20 2 [(.t 0, .v (Dv (.sl (mrows k n)))), (.t 1, .v (I k))] [(.t 0, .v (I (k + 4 * (n : Nat))))] := by
  refine spec_of_body tabOk Try.func20 rfl (by kernel_rfl) (by decide) (by kernel_rfl) rfl ?_
  refine SW.seq ?_
  refine SW.regT tabOk [0, 1] ?_
  refine And.intro trivial ?_
  refine SW.seq ?_
  refine SW.seq ?_
  refine SW.regT tabOk [0, 1, 5] ?_
  refine And.intro trivial ?_
  refine SW.block ?_
  -- live at the head: [0, 1, 5]
  refine SW.loopW (n := n) (fun m s => ∃ (i : Nat), m = n - i ∧ i ≤ n ∧ s = [(.t 0, .v (Dv (.sl (mrows k n)))), (.t 1, .v (I (k + 4 * (i : Nat)))), (.t 5, .v (I (i : Nat)))]) ?_ ?_
  · skip
    refine wk [(.t 0, .v (Dv (.sl (mrows k n)))), (.t 1, .v (I (k + 4 * ((0 : Nat) : Nat)))), (.t 5, .v (I (0 : Nat)))] [] [] (⟨0, rfl, Nat.zero_le _, rfl⟩) ?_ rfl rfl
    repeat' first | exact trivial | refine mL_nil rfl ?_ | refine mL_d rfl ?_ ?_ | refine mL_own rfl rfl ?_ rfl ?_ | refine mL_row rfl ?_ ?_ | refine mL_pt rfl rfl rfl rfl ?_ | refine mL_box rfl ?_ ?_ | refine mL_agg rfl ?_ ?_ | exact mCs_nil0 | refine mCs_d ?_ ?_ | refine mCs_nil ?_ | refine mCs_own rfl ?_ rfl ?_ | refine mCs_pt rfl rfl rfl ?_
    all_goals first | with_reducible rfl | (first | with_reducible rfl | exact congrArg D.i (wrap64_of (by omega)) | (refine congrArg D.i ?_; rw [wrap64_of (by omega)]; omega) | (refine congrArg D.i ?_; omega))
  rintro n s ⟨i, rfl, hi, rfl⟩
  refine SW.seq ?_
  refine SW.seq ?_
  refine SW.regT tabOk [0, 1, 5, 9] ?_
  refine And.intro trivial (And.intro trivial (And.intro (by first | trivial | exact Nat.le_of_ble_eq_true rfl | exact ⟨rfl, Nat.le_of_ble_eq_true rfl⟩ | omega | ((repeat' apply And.intro) <;> first | trivial | rfl | exact Nat.le_of_ble_eq_true rfl | omega) | (simp; done) | (simp; omega)) (And.intro trivial ?_)))
  refine SW.cond rfl (fun c9 => ?_) (fun c9 => ?_)
  · skip
    have hi2 : i < n := by simpa [mrows_length] using c9
    have hg := mrows_getD (k := k) hi2
    refine SW.skip ?_
    refine SW.seq ?_
    refine SW.block ?_
    refine SW.seq ?_
    refine SW.seq ?_
    refine SW.regT tabOk [0, 1, 5, 18] ?_
    refine And.intro trivial (And.intro trivial (And.intro (by rw [Int.toNat_natCast, hg]; exact ⟨⟨by omega, by rw [mrows_length]; omega⟩, rfl⟩) (And.intro (by trivial) (And.intro (by rw [Int.toNat_natCast, hg]; exact ⟨Nat.le_of_ble_eq_true rfl, rfl⟩) (And.intro trivial (And.intro trivial ?_))))))
    refine SW.cond rfl (fun c18 => ?_) (fun c18 => ?_)
    · skip
      rw [Int.toNat_natCast, hg] at c18
      exact absurd c18 (by simp [mrow, kRow, toI, toB, toS])
    · skip
      refine SW.skip ?_
      refine SW.seq ?_
      refine SW.regT tabOk [0, 1, 5] ?_
      refine And.intro trivial (And.intro trivial (And.intro trivial ?_))
      refine SW.seq ?_
      refine SW.seq ?_
      refine SW.wk (J := fun s => s = [(.t 0, .v (Dv (.sl (mrows k n)))), (.t 1, .v (I (k + 4 * (i : Nat) + 1))), (.t 5, .v (I (i : Nat)))]) ?_ ?_
      · skip
        refine wk [(.t 0, .v (Dv (.sl (mrows k n)))), (.t 1, .v (I (k + 4 * (i : Nat) + 1))), (.t 5, .v (I (i : Nat)))] [] [] (rfl) ?_ rfl rfl
        repeat' first | exact trivial | refine mL_nil rfl ?_ | refine mL_d rfl ?_ ?_ | refine mL_own rfl rfl ?_ rfl ?_ | refine mL_row rfl ?_ ?_ | refine mL_pt rfl rfl rfl rfl ?_ | refine mL_box rfl ?_ ?_ | refine mL_agg rfl ?_ ?_ | exact mCs_nil0 | refine mCs_d ?_ ?_ | refine mCs_nil ?_ | refine mCs_own rfl ?_ rfl ?_ | refine mCs_pt rfl rfl rfl ?_
        all_goals first | with_reducible rfl | (first | with_reducible rfl | exact congrArg D.i (wrap64_of (by omega)) | (refine congrArg D.i ?_; rw [wrap64_of (by omega)]; omega) | (refine congrArg D.i ?_; omega))
      rintro s rfl
      refine SW.regT tabOk [0, 1, 5, 29] ?_
      refine And.intro trivial (And.intro trivial (And.intro (by rw [Int.toNat_natCast, hg]; exact ⟨⟨by omega, by rw [mrows_length]; omega⟩, rfl⟩) (And.intro (by trivial) (And.intro (by rw [Int.toNat_natCast, hg]; exact ⟨Nat.le_of_ble_eq_true rfl, rfl⟩) (And.intro trivial (And.intro (by decide) (And.intro trivial (And.intro trivial ?_))))))))
      refine SW.cond rfl (fun c29 => ?_) (fun c29 => ?_)
      · skip
        rw [Int.toNat_natCast, hg] at c29
        exact absurd c29 (by simp [mrow, kRow, toI, toB, toS])
      · skip
        refine SW.skip ?_
        refine SW.seq ?_
        refine SW.regT tabOk [0, 1, 5] ?_
        refine And.intro trivial (And.intro trivial (And.intro trivial ?_))
        refine SW.seq ?_
        refine SW.seq ?_
        refine SW.wk (J := fun s => s = [(.t 0, .v (Dv (.sl (mrows k n)))), (.t 1, .v (I (k + 4 * (i : Nat) + 2))), (.t 5, .v (I (i : Nat)))]) ?_ ?_
        · skip
          refine wk [(.t 0, .v (Dv (.sl (mrows k n)))), (.t 1, .v (I (k + 4 * (i : Nat) + 2))), (.t 5, .v (I (i : Nat)))] [] [] (rfl) ?_ rfl rfl
          repeat' first | exact trivial | refine mL_nil rfl ?_ | refine mL_d rfl ?_ ?_ | refine mL_own rfl rfl ?_ rfl ?_ | refine mL_row rfl ?_ ?_ | refine mL_pt rfl rfl rfl rfl ?_ | refine mL_box rfl ?_ ?_ | refine mL_agg rfl ?_ ?_ | exact mCs_nil0 | refine mCs_d ?_ ?_ | refine mCs_nil ?_ | refine mCs_own rfl ?_ rfl ?_ | refine mCs_pt rfl rfl rfl ?_
          all_goals first | with_reducible rfl | (first | with_reducible rfl | exact congrArg D.i (wrap64_of (by omega)) | (refine congrArg D.i ?_; rw [wrap64_of (by omega)]; omega) | (refine congrArg D.i ?_; omega))
        rintro s rfl
        refine SW.regD tabOk mo [0, 1, 5, 40] ?_
        refine And.intro trivial (And.intro trivial (And.intro (by rw [Int.toNat_natCast, hg]; exact ⟨⟨by omega, by rw [mrows_length]; omega⟩, rfl⟩) (And.intro (by trivial) (And.intro (by trivial) (And.intro (by rw [Int.toNat_natCast, hg]; exact ⟨Nat.le_of_ble_eq_true rfl, rfl⟩) (And.intro trivial ?_))))))
        refine ex_pure (s_laws_markText _ (by omega)) rfl rfl rfl rfl rfl rfl rfl rfl ?_
        refine And.intro (by first | trivial | exact Nat.le_of_ble_eq_true rfl | exact ⟨rfl, Nat.le_of_ble_eq_true rfl⟩ | omega | ((repeat' apply And.intro) <;> first | trivial | rfl | exact Nat.le_of_ble_eq_true rfl | omega) | (simp; done) | (simp; omega)) (And.intro (by kernel_rfl) ?_)
        refine SW.cond rfl (fun c40 => ?_) (fun c40 => ?_)
        · skip
          rw [Int.toNat_natCast, hg] at c40
          exact absurd c40 (by simp [mrow, kRow, toI, toB, toS])
        · skip
          refine SW.skip ?_
          refine SW.seq ?_
          refine SW.regT tabOk [0, 1, 5] ?_
          refine And.intro trivial (And.intro trivial (And.intro trivial ?_))
          refine SW.seq ?_
          refine SW.seq ?_
          refine SW.wk (J := fun s => s = [(.t 0, .v (Dv (.sl (mrows k n)))), (.t 1, .v (I (k + 4 * (i : Nat) + 3))), (.t 5, .v (I (i : Nat)))]) ?_ ?_
          · skip
            refine wk [(.t 0, .v (Dv (.sl (mrows k n)))), (.t 1, .v (I (k + 4 * (i : Nat) + 3))), (.t 5, .v (I (i : Nat)))] [] [] (rfl) ?_ rfl rfl
            repeat' first | exact trivial | refine mL_nil rfl ?_ | refine mL_d rfl ?_ ?_ | refine mL_own rfl rfl ?_ rfl ?_ | refine mL_row rfl ?_ ?_ | refine mL_pt rfl rfl rfl rfl ?_ | refine mL_box rfl ?_ ?_ | refine mL_agg rfl ?_ ?_ | exact mCs_nil0 | refine mCs_d ?_ ?_ | refine mCs_nil ?_ | refine mCs_own rfl ?_ rfl ?_ | refine mCs_pt rfl rfl rfl ?_
            all_goals first | with_reducible rfl | (first | with_reducible rfl | exact congrArg D.i (wrap64_of (by omega)) | (refine congrArg D.i ?_; rw [wrap64_of (by omega)]; omega) | (refine congrArg D.i ?_; omega))
          rintro s rfl
          refine SW.regT tabOk [0, 1, 5, 50] ?_
          refine And.intro trivial (And.intro trivial (And.intro (by rw [Int.toNat_natCast, hg]; exact ⟨⟨by omega, by rw [mrows_length]; omega⟩, rfl⟩) (And.intro (by trivial) (And.intro (by trivial) (And.intro (by rw [Int.toNat_natCast, hg]; exact ⟨Nat.le_of_ble_eq_true rfl, rfl⟩) (And.intro trivial (And.intro trivial ?_)))))))
          refine SW.cond rfl (fun c50 => ?_) (fun c50 => ?_)
          · skip
            rw [Int.toNat_natCast, hg] at c50
            exact absurd c50 (by simp [mrow, kRow, toI, toB, toS])
          · skip
            refine SW.skip ?_
            refine SW.seq ?_
            refine SW.regT tabOk [0, 1, 5] ?_
            refine And.intro trivial (And.intro trivial (And.intro trivial ?_))
            refine SW.seq ?_
            refine SW.wk (J := fun s => s = [(.t 0, .v (Dv (.sl (mrows k n)))), (.t 1, .v (I (k + 4 * (i : Nat) + 4))), (.t 5, .v (I (i : Nat)))]) ?_ ?_
            · skip
              refine wk [(.t 0, .v (Dv (.sl (mrows k n)))), (.t 1, .v (I (k + 4 * (i : Nat) + 4))), (.t 5, .v (I (i : Nat)))] [] [] (rfl) ?_ rfl rfl
              repeat' first | exact trivial | refine mL_nil rfl ?_ | refine mL_d rfl ?_ ?_ | refine mL_own rfl rfl ?_ rfl ?_ | refine mL_row rfl ?_ ?_ | refine mL_pt rfl rfl rfl rfl ?_ | refine mL_box rfl ?_ ?_ | refine mL_agg rfl ?_ ?_ | exact mCs_nil0 | refine mCs_d ?_ ?_ | refine mCs_nil ?_ | refine mCs_own rfl ?_ rfl ?_ | refine mCs_pt rfl rfl rfl ?_
              all_goals first | with_reducible rfl | (first | with_reducible rfl | exact congrArg D.i (wrap64_of (by omega)) | (refine congrArg D.i ?_; rw [wrap64_of (by omega)]; omega) | (refine congrArg D.i ?_; omega))
            rintro s rfl
            refine SW.regT tabOk [0, 1, 5] ?_
            refine And.intro trivial (And.intro trivial (And.intro (by rw [Int.toNat_natCast, hg]; exact ⟨⟨by omega, by rw [mrows_length]; omega⟩, rfl⟩) (And.intro (by trivial) (And.intro (by rw [Int.toNat_natCast, hg]; exact ⟨Nat.le_of_ble_eq_true rfl, rfl⟩) (And.intro trivial ?_)))))
            refine ex_pure (s_heldHalfS_0 (k + 4 * (i : Nat) + 4)) rfl rfl rfl rfl rfl (by rw [Int.toNat_natCast, hg]; rfl) rfl rfl ?_
            refine And.intro trivial ?_
            refine SW.seq ?_
            refine SW.regT tabOk [0, 1, 5, 61] ?_
            refine And.intro trivial (And.intro trivial ?_)
            refine SW.cond rfl (fun c61 => ?_) (fun c61 => ?_)
            · skip
              simp at c61
              omega
            · skip
              refine SW.skip ?_
              refine SW.regT tabOk [0, 1, 5] ?_
              refine And.intro trivial (And.intro trivial (And.intro trivial ?_))
              refine wk [(.t 0, .v (Dv (.sl (mrows k n)))), (.t 1, .v (I (k + 4 * ((i + 1 : Nat) : Int)))), (.t 5, .v (I ((i + 1) : Nat)))] [] [] (⟨n - (i + 1), by omega, i + 1, rfl, by omega, rfl⟩) ?_ rfl rfl
              repeat' first | exact trivial | refine mL_nil rfl ?_ | refine mL_d rfl ?_ ?_ | refine mL_own rfl rfl ?_ rfl ?_ | refine mL_row rfl ?_ ?_ | refine mL_pt rfl rfl rfl rfl ?_ | refine mL_box rfl ?_ ?_ | refine mL_agg rfl ?_ ?_ | exact mCs_nil0 | refine mCs_d ?_ ?_ | refine mCs_nil ?_ | refine mCs_own rfl ?_ rfl ?_ | refine mCs_pt rfl rfl rfl ?_
              all_goals first | with_reducible rfl | (first | with_reducible rfl | exact congrArg D.i (wrap64_of (by omega)) | (refine congrArg D.i ?_; rw [wrap64_of (by omega)]; omega) | (refine congrArg D.i ?_; omega))
  · skip
    refine SW.exit ?_
    refine SW.seq ?_
    refine SW.regT tabOk [4] ?_
    refine And.intro trivial (And.intro trivial ?_)
    refine SW.ret ?_
    have e : i = n := by simp [mrows_length] at c9; omega
    subst e
    refine retOk1 rfl ?_
    rfl

theorem s_laws_heldBoolS (k : Int) (n : Nat) (hn : n ≤ 1000) (hk : 1 ≤ k ∧ k ≤ 100000) : Ab.Spec Try.prog 21 2 [(.t 0, .v (Dv (.sl (mbits k n)))), (.t 1, .v (I k))] [(.t 0, .v (I (k + (n : Nat))))] := by
  refine spec_of_body tabOk Try.func21 rfl (by kernel_rfl) (by decide) (by kernel_rfl) rfl ?_
  refine SW.seq ?_
  refine SW.regT tabOk [0, 1] ?_
  refine And.intro trivial ?_
  refine SW.seq ?_
  refine SW.seq ?_
  refine SW.regT tabOk [0, 1, 5] ?_
  refine And.intro trivial ?_
  refine SW.block ?_
  -- live at the head: [0, 1, 5]
  refine SW.loopW (n := n) (fun m s => ∃ (i : Nat), m = n - i ∧ i ≤ n ∧ s = [(.t 0, .v (Dv (.sl (mbits k n)))), (.t 1, .v (I (k + (i : Nat)))), (.t 5, .v (I (i : Nat)))]) ?_ ?_
  · skip
    refine wk [(.t 0, .v (Dv (.sl (mbits k n)))), (.t 1, .v (I (k + (0 : Nat)))), (.t 5, .v (I (0 : Nat)))] [] [] (⟨0, rfl, Nat.zero_le _, rfl⟩) ?_ rfl rfl
    repeat' first | exact trivial | refine mL_nil rfl ?_ | refine mL_d rfl ?_ ?_ | refine mL_own rfl rfl ?_ rfl ?_ | refine mL_row rfl ?_ ?_ | refine mL_pt rfl rfl rfl rfl ?_ | refine mL_box rfl ?_ ?_ | refine mL_agg rfl ?_ ?_ | exact mCs_nil0 | refine mCs_d ?_ ?_ | refine mCs_nil ?_ | refine mCs_own rfl ?_ rfl ?_ | refine mCs_pt rfl rfl rfl ?_
    all_goals first | with_reducible rfl | (first | with_reducible rfl | exact congrArg D.i (wrap64_of (by omega)) | (refine congrArg D.i ?_; rw [wrap64_of (by omega)]; omega) | (refine congrArg D.i ?_; omega))
  rintro n s ⟨i, rfl, hi, rfl⟩
  refine SW.seq ?_
  refine SW.seq ?_
  refine SW.regT tabOk [0, 1, 5, 9] ?_
  refine And.intro trivial (And.intro trivial (And.intro (by first | trivial | exact Nat.le_of_ble_eq_true rfl | exact ⟨rfl, Nat.le_of_ble_eq_true rfl⟩ | omega | ((repeat' apply And.intro) <;> first | trivial | rfl | exact Nat.le_of_ble_eq_true rfl | omega) | (simp; done) | (simp; omega)) (And.intro trivial ?_)))
  refine SW.cond rfl (fun c9 => ?_) (fun c9 => ?_)
  · skip
    have hi2 : i < n := by simpa [mbits_length] using c9
    have hg := mbits_getD (k := k) hi2
    refine SW.skip ?_
    refine SW.seq ?_
    refine SW.block ?_
    refine SW.seq ?_
    refine SW.seq ?_
    refine SW.regT tabOk [0, 1, 5, 19] ?_
    refine And.intro trivial (And.intro trivial (And.intro (by rw [Int.toNat_natCast, hg]; exact ⟨⟨by omega, by rw [mbits_length]; omega⟩, rfl⟩) (And.intro (by rw [Int.toNat_natCast, hg]; exact ⟨Nat.le_of_ble_eq_true rfl, rfl⟩) (And.intro trivial (And.intro (by decide) (And.intro trivial (And.intro trivial ?_)))))))
    refine SW.cond rfl (fun c19 => ?_) (fun c19 => ?_)
    · skip
      rw [Int.toNat_natCast, hg] at c19
      exact absurd c19 (by simp [mbit, toB])
    · skip
      refine SW.skip ?_
      refine SW.regT tabOk [0, 1, 5] ?_
      refine And.intro trivial (And.intro trivial (And.intro trivial ?_))
      refine SW.regT tabOk [0, 1, 5] ?_
      refine And.intro trivial (And.intro trivial (And.intro trivial ?_))
      refine wk [(.t 0, .v (Dv (.sl (mbits k n)))), (.t 1, .v (I (k + ((i + 1) : Nat)))), (.t 5, .v (I ((i + 1) : Nat)))] [] [] (⟨n - (i + 1), by omega, i + 1, rfl, by omega, rfl⟩) ?_ rfl rfl
      repeat' first | exact trivial | refine mL_nil rfl ?_ | refine mL_d rfl ?_ ?_ | refine mL_own rfl rfl ?_ rfl ?_ | refine mL_row rfl ?_ ?_ | refine mL_pt rfl rfl rfl rfl ?_ | refine mL_box rfl ?_ ?_ | refine mL_agg rfl ?_ ?_ | exact mCs_nil0 | refine mCs_d ?_ ?_ | refine mCs_nil ?_ | refine mCs_own rfl ?_ rfl ?_ | refine mCs_pt rfl rfl rfl ?_
      all_goals first | with_reducible rfl | (first | with_reducible rfl | exact congrArg D.i (wrap64_of (by omega)) | (refine congrArg D.i ?_; rw [wrap64_of (by omega)]; omega) | (refine congrArg D.i ?_; omega))
  · skip
    refine SW.exit ?_
    refine SW.seq ?_
    refine SW.regT tabOk [4] ?_
    refine And.intro trivial (And.intro trivial ?_)
    refine SW.ret ?_
    have e : i = n := by simp [mbits_length] at c9; omega
    subst e
    refine retOk1 rfl ?_
    rfl

theorem s_laws_heldRiver (k : Int) (n m : Nat) (hn : n ≤ 1000) (hm : m ≤ 1000) (hk : 1 ≤ k ∧ k ≤ 1000) : Ab.Spec Try.prog 8 2 [(.t 0, .v (.e (.agg [.d (.i 0), .d (.sl (mrows k n)), .d (.sl (mbits (k + 4 * (n : Nat)) m)), .nil, .nil, .nil]))), (.t 1, .v (I k))] [(.t 0, .v (I (k + 4 * (n : Nat) + (m : Nat))))] := by
  refine spec_of_body tabOk Try.func8 rfl (by kernel_rfl) (by decide) (by kernel_rfl) rfl ?_
  refine SW.seq ?_
  refine SW.regT tabOk [1, 2] ?_
  refine And.intro trivial (And.intro trivial ?_)
  refine SW.seq ?_
  refine SW.regT tabOk [1, 2] ?_
  refine And.intro (by first | trivial | rfl) (And.intro (by first | trivial | exact Nat.le_of_ble_eq_true rfl | exact ⟨rfl, Nat.le_of_ble_eq_true rfl⟩ | omega | ((repeat' apply And.intro) <;> first | trivial | rfl | exact Nat.le_of_ble_eq_true rfl | omega) | (simp; done) | (simp; omega)) (And.intro trivial ?_))
  refine ex_pure (s_laws_heldKeeperS k n hn (by omega)) rfl rfl rfl rfl rfl rfl rfl rfl ?_
  refine And.intro trivial ?_
  refine SW.seq ?_
  refine SW.seq ?_
  refine SW.regT tabOk [1, 2, 10] ?_
  refine And.intro trivial (And.intro trivial ?_)
  refine SW.cond rfl (fun c10 => ?_) (fun c10 => ?_)
  · skip
    simp at c10
    omega
  · skip
    refine SW.skip ?_
    refine SW.seq ?_
    refine SW.regT tabOk [1, 2] ?_
    refine And.intro (by first | trivial | rfl) (And.intro (by first | trivial | exact Nat.le_of_ble_eq_true rfl | exact ⟨rfl, Nat.le_of_ble_eq_true rfl⟩ | omega | ((repeat' apply And.intro) <;> first | trivial | rfl | exact Nat.le_of_ble_eq_true rfl | omega) | (simp; done) | (simp; omega)) (And.intro trivial ?_))
    refine ex_pure (s_laws_heldBoolS (k + 4 * (n : Nat)) m hm (by omega)) rfl rfl rfl rfl rfl rfl rfl rfl ?_
    refine And.intro trivial ?_
    refine SW.seq ?_
    refine SW.seq ?_
    refine SW.regT tabOk [1, 2, 16] ?_
    refine And.intro trivial (And.intro trivial ?_)
    refine SW.cond rfl (fun c16 => ?_) (fun c16 => ?_)
    · skip
      simp at c16
      omega
    · skip
      refine SW.skip ?_
      refine SW.seq ?_
      refine SW.regT tabOk [1, 2] ?_
      refine And.intro (by first | trivial | rfl) (And.intro (by first | trivial | exact Nat.le_of_ble_eq_true rfl | exact ⟨rfl, Nat.le_of_ble_eq_true rfl⟩ | omega | ((repeat' apply And.intro) <;> first | trivial | rfl | exact Nat.le_of_ble_eq_true rfl | omega) | (simp; done) | (simp; omega)) (And.intro trivial ?_))
      refine ex_pure (s_heldParcelS_nil _) rfl rfl rfl rfl rfl rfl rfl rfl ?_
      refine And.intro trivial ?_
      refine SW.seq ?_
      refine SW.seq ?_
      refine SW.regT tabOk [1, 2, 22] ?_
      refine And.intro trivial (And.intro trivial ?_)
      refine SW.cond rfl (fun c22 => ?_) (fun c22 => ?_)
      · skip
        simp at c22
        omega
      · skip
        refine SW.skip ?_
        refine SW.seq ?_
        refine SW.regT tabOk [1, 2] ?_
        refine And.intro (by first | trivial | rfl) (And.intro (by first | trivial | exact Nat.le_of_ble_eq_true rfl | exact ⟨rfl, Nat.le_of_ble_eq_true rfl⟩ | omega | ((repeat' apply And.intro) <;> first | trivial | rfl | exact Nat.le_of_ble_eq_true rfl | omega) | (simp; done) | (simp; omega)) (And.intro trivial ?_))
        refine ex_pure (s_heldNoteS_nil _) rfl rfl rfl rfl rfl rfl rfl rfl ?_
        refine And.intro trivial ?_
        refine SW.seq ?_
        refine SW.seq ?_
        refine SW.regT tabOk [1, 2, 28] ?_
        refine And.intro trivial (And.intro trivial ?_)
        refine SW.cond rfl (fun c28 => ?_) (fun c28 => ?_)
        · skip
          simp at c28
          omega
        · skip
          refine SW.skip ?_
          refine SW.seq ?_
          refine SW.regT tabOk [1] ?_
          refine And.intro (by first | trivial | rfl) (And.intro (by first | trivial | exact Nat.le_of_ble_eq_true rfl | exact ⟨rfl, Nat.le_of_ble_eq_true rfl⟩ | omega | ((repeat' apply And.intro) <;> first | trivial | rfl | exact Nat.le_of_ble_eq_true rfl | omega) | (simp; done) | (simp; omega)) (And.intro trivial ?_))
          refine ex_pure (s_heldNoteS_nil _) rfl rfl rfl rfl rfl rfl rfl rfl ?_
          refine And.intro trivial ?_
          refine SW.seq ?_
          refine SW.seq ?_
          refine SW.regT tabOk [1, 34] ?_
          refine And.intro trivial (And.intro trivial ?_)
          refine SW.cond rfl (fun c34 => ?_) (fun c34 => ?_)
          · skip
            simp at c34
            omega
          · skip
            refine SW.skip ?_
            refine SW.seq ?_
            refine SW.regT tabOk [4] ?_
            refine And.intro trivial (And.intro trivial ?_)
            refine SW.ret ?_
            refine retOk1 rfl ?_
            rfl

end Go.Proofs.Ytlkfibmjdigmiab
