/- Plain functions, and contracts of the functions that the law reaches. -/
import Derived.Shelf.Utf8.RuneCount
import Derived.Shelf.Strconv.Itoa0
import Derived.Shelf.Strconv.Itoa1
import Derived.Shelf.LaysM
import Derived.Shelf.Strconv.Itoa2
import Derived.Shelf.Strconv.Itoa3
import Derived.Shelf.Strings.Search1
import Derived.Shelf.Strings.Search2
import Derived.Shelf.Strings.Search3
import Derived.Shelf.Strings.Cut
import Derived.Shelf.Strings.Count
import Derived.Shelf.Strings.Shaped
import Derived.Shelf.Strings.Split
import Derived.Shelf.Unicode.DecodeSlow
import Derived.Test.YtilahgkblckndaaGreatDoorProg
import Derived.Sort.Grow
import Derived.Deep.Draws
import Derived.Lib.Split
import Derived.Lib.IndexMore
import Derived.Lib.IndexBytes
import Derived.Lib.CountLaws
import Derived.Test.YtilahgkblckndaaGreatDoorB1
namespace Go.Proofs.YtilahgkblckndaaGreatDoor
open Go Go.Ab Go.RowKit
set_option linter.unusedVariables false
set_option linter.unusedSimpArgs false

theorem or4 (a b c d : Bool) : (c || a || b || d) = (a || b || c || d) := by cases a <;> cases b <;> cases c <;> cases d <;> rfl
theorem or3 (a b c : Bool) : (b || a || c) = (a || b || c) := by cases a <;> cases b <;> cases c <;> rfl
theorem or2 (a b : Bool) : (b || a) = (a || b) := by cases a <;> cases b <;> rfl
theorem nand3 (a b c d : Bool) : (!(a && b && c) || d) = (!a || !b || !c || d) := by cases a <;> cases b <;> cases c <;> cases d <;> rfl
set_option maxHeartbeats 800000 in
theorem s_spec_l12Marks (l : List MarkR) (hl : l.length ≤ 100000) : Ab.Spec Tryz.prog 164 1 [(.t 0, .v (Dv (.sl (markRows l))))] [(.t 0, .v (B (decide (l.length ≤ 12) && marksOk l)))] := by
  refine spec_of_body tabOk Tryz.func164 rfl (by kernel_rfl) (by decide) (by kernel_rfl) rfl ?_
  refine SW.seq ?_
  refine SW.regT tabOk [0, 23, 24, 25, 26, 29, 30, 31, 32, 35, 36, 37, 38, 39, 40, 41, 42, 43, 44, 45, 46, 47, 48, 49, 50, 51, 52, 53, 54, 55, 56] ?_
  refine ai trivial ?_
  refine SW.seq ?_
  refine SW.seq ?_
  refine SW.regT tabOk [0, 7, 23, 24, 25, 26, 29, 30, 31, 32, 35, 36, 37, 38, 39, 40, 41, 42, 43, 44, 45, 46, 47, 48, 49, 50, 51, 52, 53, 54, 55, 56] ?_
  refine ai trivial (ai vc (ai trivial ?_))
  refine SW.cond rfl (fun c7 => ?_) (fun c7 => ?_)
  · skip
    have hm : ¬ l.length ≤ 12 := by simp [markRows_length] at c7; omega
    refine SW.seq ?_
    refine SW.regT tabOk [2] ?_
    refine ai trivial ?_
    refine SW.ret ?_
    refine retOk1 rfl (congrArg D.b ?_)
    simp [hm]
  · skip
    have hm : l.length ≤ 12 := by simp [markRows_length] at c7; omega
    refine SW.skip ?_
    refine SW.seq ?_
    refine SW.seq ?_
    refine SW.regT tabOk [0, 3, 23, 24, 25, 26, 29, 30, 31, 32, 35, 36, 37, 38, 39, 40, 41, 42, 43, 44, 45, 46, 47, 48, 49, 50, 51, 52, 53, 54, 55, 56] ?_
    refine ai trivial ?_
    refine SW.block ?_
    -- live at the head: [0, 3, 23, 24, 25, 26, 29, 30, 31, 32, 35, 36, 37, 38, 39, 40, 41, 42, 43, 44, 45, 46, 47, 48, 49, 50, 51, 52, 53, 54, 55, 56]
    refine SW.loopW (n := l.length) (fun n q => ∃ i : Nat, n = l.length - i ∧ i ≤ l.length ∧ (∀ k, k < i → markStep l k = true) ∧ q = [(.t 0, .v (Dv (.sl (markRows l)))), (.t 3, .v (I (i : Nat)))]) ?_ ?_
    · skip
      refine wk [(.t 0, .v (Dv (.sl (markRows l)))), (.t 3, .v (I (0 : Nat)))] [] [] (⟨0, rfl, Nat.zero_le _, fun k h => absurd h (by omega), rfl⟩) ?_ rfl rfl
      repeat' first | exact trivial | refine mL_nil rfl ?_ | refine mL_d rfl ?_ ?_ | refine mL_own rfl rfl ?_ rfl ?_ | refine mL_row rfl ?_ ?_ | refine mL_pt rfl rfl rfl rfl ?_ | refine mL_box rfl ?_ ?_ | refine mL_agg rfl ?_ ?_ | exact mCs_nil0 | refine mCs_d ?_ ?_ | refine mCs_nil ?_ | refine mCs_own rfl ?_ rfl ?_ | refine mCs_pt rfl rfl rfl ?_
      all_goals first | with_reducible rfl | (first | rfl | (simp; done) | omega)
    rintro n s ⟨i, rfl, hi, hk, rfl⟩
    refine SW.seq ?_
    refine SW.seq ?_
    refine SW.regT tabOk [0, 3, 11, 23, 24, 25, 26, 29, 30, 31, 32, 35, 36, 37, 38, 39, 40, 41, 42, 43, 44, 45, 46, 47, 48, 49, 50, 51, 52, 53, 54, 55, 56] ?_
    refine ai trivial (ai trivial (ai vc (ai trivial ?_)))
    refine SW.cond rfl (fun c11 => ?_) (fun c11 => ?_)
    · skip
      have hi2 : i < l.length := by simpa [markRows_length] using c11
      have hg := markRows_getD (l := l) hi2
      refine SW.skip ?_
      refine SW.seq ?_
      refine SW.block ?_
      refine SW.seq ?_
      refine SW.regT tabOk [0, 3, 4, 23, 24, 25, 26, 29, 30, 31, 32, 35, 36, 37, 38, 39, 40, 41, 42, 43, 44, 45, 46, 47, 48, 49, 50, 51, 52, 53, 54, 55, 56] ?_
      refine ai trivial (ai trivial (ai (by rw [Int.toNat_natCast, hg]; exact ⟨⟨by omega, by rw [markRows_length]; omega⟩, rfl⟩) (ai (by rw [Int.toNat_natCast, hg]; exact ⟨Nat.le_of_ble_eq_true rfl, rfl⟩) (ai trivial (ai ⟨by kernel_rfl, Nat.le_of_ble_eq_true (by kernel_rfl)⟩ ?_)))))
      refine SW.seq ?_
      refine SW.wk (J := fun s => s = [(.t 0, .v (Dv (.sl (markRows l)))), (.t 3, .v (I (i : Nat))), (.t 4, .v (.e (.c (.pt 4 0)))), (.o 4, .box 157 [.d (.i (l.getD i .zero).frm), .d (.i (l.getD i .zero).num), .d (.i (l.getD i .zero).til)])]) ?_ ?_
      · skip
        refine wk [(.t 0, .v (Dv (.sl (markRows l)))), (.t 3, .v (I (i : Nat))), (.t 4, .v (.e (.c (.pt 4 0)))), (.o 4, .box 157 [.d (.i (l.getD i .zero).frm), .d (.i (l.getD i .zero).num), .d (.i (l.getD i .zero).til)])] [] [] (rfl) ?_ rfl rfl
        repeat' first | exact trivial | refine mL_nil rfl ?_ | refine mL_d rfl ?_ ?_ | refine mL_own rfl rfl ?_ rfl ?_ | refine mL_row rfl ?_ ?_ | refine mL_pt rfl rfl rfl rfl ?_ | refine mL_box rfl ?_ ?_ | refine mL_agg rfl ?_ ?_ | exact mCs_nil0 | refine mCs_d ?_ ?_ | refine mCs_nil ?_ | refine mCs_own rfl ?_ rfl ?_ | refine mCs_pt rfl rfl rfl ?_
        all_goals first | with_reducible rfl | (first | with_reducible rfl | (rw [Int.toNat_natCast, hg]; rfl))
      rintro s rfl
      refine SW.regD tabOk mo [0, 3, 23, 24, 25, 26, 29, 30, 31, 32, 35, 36, 37, 38, 39, 40, 41, 42, 43, 44, 45, 46, 47, 48, 49, 50, 51, 52, 53, 54, 55, 56, 57] ?_
      refine ai (by first | trivial | rfl) (ai vc ?_)
      refine ex_pure (s_spec_l3Keeper _) rfl rfl rfl rfl rfl rfl rfl rfl ?_
      refine ai trivial (ai trivial (ai (fun h => (by first | trivial | rfl)) (ai rk (ai (fun h => vc) (ai rk ?_)))))
      refine exc_pure (fun h => (s_spec_l6In _ _ _)) rfl rfl rfl rfl rfl rfl rfl rfl rk ?_
      refine ai (fun h => trivial) (ai rk (ai pk (ai trivial (ai (fun h => (by first | trivial | rfl)) (ai rk (ai (fun h => vc) (ai rk ?_)))))))
      refine exc_pure (fun h => (s_spec_l6In _ _ _)) rfl rfl rfl rfl rfl rfl rfl rfl rk ?_
      refine ai (fun h => trivial) (ai rk (ai pk (ai trivial (ai (fun h => trivial) (ai rk (ai (fun h => trivial) (ai rk (ai (fun h => trivial) (ai rk (ai (fun h => trivial) (ai rk (ai (fun h => trivial) (ai rk (ai (fun h => trivial) (ai rk (ai (fun h => (by have h0 : 0 < i := (by have h9 := h; simp [gb] at h9; omega); rw [pred_cast h0 (by omega), Int.toNat_natCast, markRows_getD (by omega), markRows_length]; exact ⟨⟨by omega, by omega⟩, rfl⟩)) (ai rk (ai (fun h => (by first | trivial | rfl)) (ai rk (ai (fun h => (by have h0 : 0 < i := (by have h9 := h; simp [gb] at h9; omega); rw [pred_cast h0 (by omega), Int.toNat_natCast, markRows_getD (by omega)]; exact ⟨Nat.le_of_ble_eq_true rfl, rfl⟩)) (ai rk (ai (fun h => trivial) (ai rk (ai (fun h => trivial) (ai rk (ai (fun h => trivial) (ai rk (ai (fun h => (by have h0 : 0 < i := (by have h9 := h; simp [gb] at h9; omega); rw [pred_cast h0 (by omega), Int.toNat_natCast, markRows_getD (by omega), markRows_length]; exact ⟨⟨by omega, by omega⟩, rfl⟩)) (ai rk (ai (fun h => (by first | trivial | rfl)) (ai rk (ai (fun h => (by have h0 : 0 < i := (by have h9 := h; simp [gb] at h9; omega); rw [pred_cast h0 (by omega), Int.toNat_natCast, markRows_getD (by omega)]; exact ⟨Nat.le_of_ble_eq_true rfl, rfl⟩)) (ai rk (ai (fun h => (by first | trivial | rfl)) (ai rk (ai (fun h => vc) (ai rk (ai (fun h => (by first | trivial | rfl)) (ai rk (ai (fun h => vc) (ai rk ?_)))))))))))))))))))))))))))))))))))))))))
      refine exc_pure (fun h => (s_spec_l12Less _ _ _ _)) rfl rfl rfl rfl rfl rfl rfl rfl rk ?_
      refine ai (fun h => trivial) (ai rk (ai (fun h => pk) (ai rk (ai pk (ai (by kernel_rfl) ?_)))))
      refine SW.cond rfl (fun c57 => ?_) (fun c57 => ?_)
      · skip
        refine SW.seq ?_
        refine SW.regT tabOk [2] ?_
        refine ai trivial ?_
        refine SW.ret ?_
        refine retOk1 rfl (congrArg D.b ?_)
        have hs : markStep l i = false := markStep_gen ((nand3 _ _ _ _).trans c57) (fun h0 => by simp only [pred_cast h0 (show i ≤ 1000000 by omega), Int.toNat_natCast, markRows_getD (show i - 1 < l.length by omega)]; rfl)
        rw [marksOk, all_false hi2 hs]; simp
      · skip
        refine SW.skip ?_
        refine SW.regT tabOk [0, 3, 23, 24, 25, 26, 29, 30, 31, 32, 35, 36, 37, 38, 39, 40, 41, 42, 43, 44, 45, 46, 47, 48, 49, 50, 51, 52, 53, 54, 55, 56] ?_
        refine ai trivial (ai trivial (ai trivial ?_))
        have hs : markStep l i = true := markStep_gen ((nand3 _ _ _ _).trans c57) (fun h0 => by simp only [pred_cast h0 (show i ≤ 1000000 by omega), Int.toNat_natCast, markRows_getD (show i - 1 < l.length by omega)]; rfl)
        refine wk [(.t 0, .v (Dv (.sl (markRows l)))), (.t 3, .v (I ((i + 1) : Nat)))] [] [] (⟨l.length - (i + 1), by omega, i + 1, rfl, by omega, fun k h => by by_cases e : k = i; exact e ▸ hs; exact hk k (by omega), rfl⟩) ?_ rfl rfl
        repeat' first | exact trivial | refine mL_nil rfl ?_ | refine mL_d rfl ?_ ?_ | refine mL_own rfl rfl ?_ rfl ?_ | refine mL_row rfl ?_ ?_ | refine mL_pt rfl rfl rfl rfl ?_ | refine mL_box rfl ?_ ?_ | refine mL_agg rfl ?_ ?_ | exact mCs_nil0 | refine mCs_d ?_ ?_ | refine mCs_nil ?_ | refine mCs_own rfl ?_ rfl ?_ | refine mCs_pt rfl rfl rfl ?_
        all_goals first | with_reducible rfl | (first | with_reducible rfl | exact congrArg D.i (wrap64_of (by omega)))
    · skip
      have hi3 : i = l.length := by simp [markRows_length] at c11; omega
      refine SW.exit ?_
      refine SW.seq ?_
      refine SW.regT tabOk [2] ?_
      refine ai trivial ?_
      refine SW.ret ?_
      refine retOk1 rfl (congrArg D.b ?_)
      subst hi3
      rw [marksOk, all_true hk]; simp [hm]

set_option maxHeartbeats 3200000 in
theorem s_spec_KeepOk (k : KeepR) (hb1 : k.held.length ≤ 100000 ∧ k.marks.length ≤ 100000 ∧ k.inbox.length ≤ 100000) (hx : ∀ x ∈ k.held, x.text.length ≤ 140737488355328) (hy : ∀ x ∈ k.inbox, x.text.length ≤ 140737488355328) : Ab.Spec Tryz.prog 121 1 [(.t 0, .v (k.V))] [(.t 0, .v (B (keepOk k)))] := by
  refine spec_of_body tabOk Tryz.func121 rfl (by kernel_rfl) (by decide) (by kernel_rfl) rfl ?_
  refine SW.seq ?_
  refine SW.regT tabOk [1, 14, 15, 16, 17, 20, 21, 22, 23, 26, 27, 28, 29, 32, 33, 34, 35, 38, 39, 40, 41, 61, 62, 63, 64, 65, 68, 69, 70, 71, 72, 73, 74, 75, 76, 77, 78, 79, 82, 83, 84, 85, 86, 87, 88, 89, 109, 110, 111, 112, 113, 114, 115, 116, 117, 118, 119, 120, 140, 141, 142, 143, 144, 145, 146, 147, 148, 149, 150, 151, 154, 155, 156, 157, 158, 159, 160, 161, 162, 163, 164, 165, 166, 167, 168] ?_
  refine ai trivial (ai trivial ?_)
  refine SW.seq ?_
  refine SW.seq ?_
  refine SW.regT tabOk [1, 42, 61, 62, 63, 64, 65, 68, 69, 70, 71, 72, 73, 74, 75, 76, 77, 78, 79, 82, 83, 84, 85, 86, 87, 88, 89, 109, 110, 111, 112, 113, 114, 115, 116, 117, 118, 119, 120, 140, 141, 142, 143, 144, 145, 146, 147, 148, 149, 150, 151, 154, 155, 156, 157, 158, 159, 160, 161, 162, 163, 164, 165, 166, 167, 168] ?_
  refine ai (by first | trivial | rfl) (ai vc ?_)
  refine ex_pure (s_spec_l3Keeper _) rfl rfl rfl rfl rfl rfl rfl rfl ?_
  refine ai trivial (ai trivial (ai (fun h => (by first | trivial | rfl)) (ai rk (ai (fun h => vc) (ai rk ?_)))))
  refine exc_pure (fun h => (s_spec_l6In _ _ _)) rfl rfl rfl rfl rfl rfl rfl rfl rk ?_
  refine ai (fun h => trivial) (ai rk (ai pk (ai trivial (ai (fun h => (by first | trivial | rfl)) (ai rk (ai (fun h => vc) (ai rk ?_)))))))
  refine exc_pure (fun h => (s_spec_l6In _ _ _)) rfl rfl rfl rfl rfl rfl rfl rfl rk ?_
  refine ai (fun h => trivial) (ai rk (ai pk (ai trivial (ai (fun h => (by first | trivial | rfl)) (ai rk (ai (fun h => vc) (ai rk ?_)))))))
  refine exc_pure (fun h => (s_spec_l12Notes k.held 6 hx hb1.1)) rfl rfl rfl rfl rfl rfl rfl rfl rk ?_
  refine ai (fun h => trivial) (ai rk (ai pk (ai trivial (ai (fun h => (by first | trivial | rfl)) (ai rk (ai (fun h => vc) (ai rk ?_)))))))
  refine exc_pure (fun h => (s_spec_l12Marks k.marks hb1.2.1)) rfl rfl rfl rfl rfl rfl rfl rfl rk ?_
  refine ai (fun h => trivial) (ai rk (ai pk (ai trivial (ai (fun h => (by first | trivial | rfl)) (ai rk (ai (fun h => vc) (ai rk ?_)))))))
  refine exc_pure (fun h => (s_spec_l12Notes k.inbox 6 hy hb1.2.2)) rfl rfl rfl rfl rfl rfl rfl rfl rk ?_
  refine ai (fun h => trivial) (ai rk (ai pk ?_))
  refine SW.cond rfl (fun c42 => ?_) (fun c42 => ?_)
  · skip
    refine SW.seq ?_
    refine SW.regT tabOk [2] ?_
    refine ai trivial ?_
    refine SW.ret ?_
    refine retOk1 rfl (congrArg D.b ?_)
    refine (keepOk_no fun h => ?_).symm
    obtain ⟨⟨h1, h2, h3, h4, h5, h6⟩, ⟨h7, h8, h9⟩, h10, h11, h12⟩ := (keepOk_parts k).1 h
    have h4b : ((k.held.length : Int) ≤ 6) := by omega
    have h6b : ((k.inbox.length : Int) ≤ 6) := by omega
    simp only [gb, inB, h1, h7, h8, h9, h5, h4b, h6b, h2.1, h2.2, h3.1, h3.2, decide_true, Bool.and_true, Bool.not_true, Bool.or_false] at c42
    cases c42
  · skip
    have hf : (isNode k.id = true ∧ (0 ≤ k.time ∧ k.time ≤ 999) ∧ (1 ≤ k.next ∧ k.next ≤ 100) ∧ k.held.length ≤ 6 ∧ k.marks.length ≤ 12 ∧ k.inbox.length ≤ 6) ∧ notesOk k.held = true ∧ marksOk k.marks = true ∧ notesOk k.inbox = true := by
      simp only [gb, inB, Bool.or_eq_false_iff, Bool.not_eq_false, decide_eq_false_iff_not, Bool.not_eq_eq_eq_not, Bool.not_false, Bool.and_eq_true, decide_eq_true_eq] at c42
      obtain ⟨⟨⟨⟨⟨q1, q2⟩, q3⟩, q4, q4b⟩, q5, q5b⟩, q6, q6b⟩ := c42
      exact ⟨⟨q1, q2, q3, by omega, by omega, by omega⟩, q4b, q5b, q6b⟩
    obtain ⟨⟨f1, f2, f3, f4, f5, f6⟩, hg3⟩ := hf
    refine SW.skip ?_
    refine SW.seq ?_
    refine SW.seq ?_
    refine SW.regT tabOk [1, 3, 61, 62, 63, 64, 65, 68, 69, 70, 71, 72, 73, 74, 75, 76, 77, 78, 79, 82, 83, 84, 85, 86, 87, 88, 89, 109, 110, 111, 112, 113, 114, 115, 116, 117, 118, 119, 120, 140, 141, 142, 143, 144, 145, 146, 147, 148, 149, 150, 151, 154, 155, 156, 157, 158, 159, 160, 161, 162, 163, 164, 165, 166, 167, 168] ?_
    refine ai trivial ?_
    refine SW.block ?_
    -- live at the head: [1, 3, 61, 62, 63, 64, 65, 68, 69, 70, 71, 72, 73, 74, 75, 76, 77, 78, 79, 82, 83, 84, 85, 86, 87, 88, 89, 109, 110, 111, 112, 113, 114, 115, 116, 117, 118, 119, 120, 140, 141, 142, 143, 144, 145, 146, 147, 148, 149, 150, 151, 154, 155, 156, 157, 158, 159, 160, 161, 162, 163, 164, 165, 166, 167, 168]
    refine SW.loopW (n := k.held.length) (fun n q => ∃ i : Nat, n = k.held.length - i ∧ i ≤ k.held.length ∧ (∀ j, j < i → heldOk k j = true) ∧ q = [(.t 1, .v (.e (.c (.pt 1 0)))), (.t 3, .v (I (i : Nat))), (.o 1, .box 83 [.d (.i k.id), .d (.i k.time), .d (.i k.next), .d (.sl (noteRows k.held)), .d (.sl (markRows k.marks)), .d (.sl (noteRows k.inbox))])]) ?_ ?_
    · skip
      refine wk [(.t 1, .v (.e (.c (.pt 1 0)))), (.t 3, .v (I (0 : Nat))), (.o 1, .box 83 [.d (.i k.id), .d (.i k.time), .d (.i k.next), .d (.sl (noteRows k.held)), .d (.sl (markRows k.marks)), .d (.sl (noteRows k.inbox))])] [] [] (⟨0, rfl, Nat.zero_le _, fun j h => absurd h (by omega), rfl⟩) ?_ rfl rfl
      repeat' first | exact trivial | refine mL_nil rfl ?_ | refine mL_d rfl ?_ ?_ | refine mL_own rfl rfl ?_ rfl ?_ | refine mL_row rfl ?_ ?_ | refine mL_pt rfl rfl rfl rfl ?_ | refine mL_box rfl ?_ ?_ | refine mL_agg rfl ?_ ?_ | exact mCs_nil0 | refine mCs_d ?_ ?_ | refine mCs_nil ?_ | refine mCs_own rfl ?_ rfl ?_ | refine mCs_pt rfl rfl rfl ?_
      all_goals first | with_reducible rfl | (first | with_reducible rfl | (rw [noteRows_length]; done) | rfl)
    rintro n s ⟨i, rfl, hi, hk, rfl⟩
    refine SW.seq ?_
    refine SW.seq ?_
    refine SW.regT tabOk [1, 3, 47, 61, 62, 63, 64, 65, 68, 69, 70, 71, 72, 73, 74, 75, 76, 77, 78, 79, 82, 83, 84, 85, 86, 87, 88, 89, 109, 110, 111, 112, 113, 114, 115, 116, 117, 118, 119, 120, 140, 141, 142, 143, 144, 145, 146, 147, 148, 149, 150, 151, 154, 155, 156, 157, 158, 159, 160, 161, 162, 163, 164, 165, 166, 167, 168] ?_
    refine ai trivial (ai (by first | trivial | rfl) (ai vc (ai vc (ai trivial ?_))))
    refine SW.cond rfl (fun c47 => ?_) (fun c47 => ?_)
    · skip
      have hi2 : i < k.held.length := by simpa [noteRows_length] using c47
      have hg := noteRows_getD (l := k.held) hi2
      refine SW.skip ?_
      refine SW.seq ?_
      refine SW.block ?_
      refine SW.seq ?_
      refine SW.regT tabOk [1, 3, 4, 61, 62, 63, 64, 65, 68, 69, 70, 71, 72, 73, 74, 75, 76, 77, 78, 79, 82, 83, 84, 85, 86, 87, 88, 89, 109, 110, 111, 112, 113, 114, 115, 116, 117, 118, 119, 120, 140, 141, 142, 143, 144, 145, 146, 147, 148, 149, 150, 151, 154, 155, 156, 157, 158, 159, 160, 161, 162, 163, 164, 165, 166, 167, 168] ?_
      refine ai (by first | trivial | rfl) (ai vc (ai trivial (ai (by rw [Int.toNat_natCast, hg]; exact ⟨⟨by omega, by rw [noteRows_length]; omega⟩, rfl⟩) (ai (by rw [Int.toNat_natCast, hg]; exact ⟨Nat.le_of_ble_eq_true rfl, rfl⟩) (ai trivial (ai ⟨by kernel_rfl, Nat.le_of_ble_eq_true (by kernel_rfl)⟩ ?_))))))
      refine SW.seq ?_
      refine SW.wk (J := fun s => s = [(.t 1, .v (.e (.c (.pt 1 0)))), (.t 3, .v (I (i : Nat))), (.o 1, .box 83 [.d (.i k.id), .d (.i k.time), .d (.i k.next), .d (.sl (noteRows k.held)), .d (.sl (markRows k.marks)), .d (.sl (noteRows k.inbox))]), (.t 4, .v (.e (.c (.pt 4 0)))), (.o 4, .box 64 [.d (.i (k.held.getD i .zero).frm), .d (.i (k.held.getD i .zero).num), .d (.i (k.held.getD i .zero).to), .d (.i (k.held.getD i .zero).til), .d (.s (k.held.getD i .zero).text)])]) ?_ ?_
      · skip
        refine wk [(.t 1, .v (.e (.c (.pt 1 0)))), (.t 3, .v (I (i : Nat))), (.o 1, .box 83 [.d (.i k.id), .d (.i k.time), .d (.i k.next), .d (.sl (noteRows k.held)), .d (.sl (markRows k.marks)), .d (.sl (noteRows k.inbox))]), (.t 4, .v (.e (.c (.pt 4 0)))), (.o 4, .box 64 [.d (.i (k.held.getD i .zero).frm), .d (.i (k.held.getD i .zero).num), .d (.i (k.held.getD i .zero).to), .d (.i (k.held.getD i .zero).til), .d (.s (k.held.getD i .zero).text)])] [] [] (rfl) ?_ rfl rfl
        repeat' first | exact trivial | refine mL_nil rfl ?_ | refine mL_d rfl ?_ ?_ | refine mL_own rfl rfl ?_ rfl ?_ | refine mL_row rfl ?_ ?_ | refine mL_pt rfl rfl rfl rfl ?_ | refine mL_box rfl ?_ ?_ | refine mL_agg rfl ?_ ?_ | exact mCs_nil0 | refine mCs_d ?_ ?_ | refine mCs_nil ?_ | refine mCs_own rfl ?_ rfl ?_ | refine mCs_pt rfl rfl rfl ?_
        all_goals first | with_reducible rfl | (first | with_reducible rfl | (rw [Int.toNat_natCast, hg]; rfl))
      rintro s rfl
      refine SW.regT tabOk [1, 3, 61, 62, 63, 64, 65, 68, 69, 70, 71, 72, 73, 74, 75, 76, 77, 78, 79, 82, 83, 84, 85, 86, 87, 88, 89, 90, 109, 110, 111, 112, 113, 114, 115, 116, 117, 118, 119, 120, 140, 141, 142, 143, 144, 145, 146, 147, 148, 149, 150, 151, 154, 155, 156, 157, 158, 159, 160, 161, 162, 163, 164, 165, 166, 167, 168] ?_
      refine ai (by first | trivial | rfl) (ai vc (ai (by first | trivial | rfl) (ai vc (ai trivial (ai trivial (ai (fun h => vc) (ai rk (ai (fun h => (by first | trivial | rfl)) (ai rk (ai (fun h => vc) (ai rk ?_)))))))))))
      refine exc_pure (fun h => (s_spec_l12Way (k.held.getD i .zero) k.id)) rfl rfl rfl rfl rfl rfl rfl rfl rk ?_
      refine ai (fun h => trivial) (ai rk (ai pk (ai trivial (ai (fun h => (by first | trivial | rfl)) (ai rk (ai (fun h => vc) (ai rk (ai (fun h => (by first | trivial | rfl)) (ai rk (ai (fun h => vc) (ai rk (ai (fun h => trivial) (ai rk (ai (fun h => trivial) (ai rk (ai (fun h => (by first | trivial | rfl)) (ai rk (ai (fun h => vc) (ai rk (ai (fun h => (by first | trivial | rfl)) (ai rk (ai (fun h => vc) (ai rk (ai (fun h => trivial) (ai rk (ai (fun h => pk) (ai rk (ai pk (ai trivial (ai (fun h => (by first | trivial | rfl)) (ai rk (ai (fun h => vc) (ai rk (ai (fun h => (by first | trivial | rfl)) (ai rk (ai (fun h => vc) (ai rk (ai (fun h => (by first | trivial | rfl)) (ai rk (ai (fun h => vc) (ai rk ?_)))))))))))))))))))))))))))))))))))))))))
      refine exc_pure (fun h => (s_spec_l12Mark k.marks _ _ (by omega))) rfl rfl rfl rfl rfl rfl rfl rfl rk ?_
      refine ai (fun h => trivial) (ai rk (ai pk ?_))
      refine SW.cond rfl (fun c90 => ?_) (fun c90 => ?_)
      · skip
        refine SW.seq ?_
        refine SW.regT tabOk [2] ?_
        refine ai trivial ?_
        refine SW.ret ?_
        refine retOk1 rfl (congrArg D.b ?_)
        refine (keepOk_no fun h => ?_).symm
        obtain ⟨⟨h1, h2, h3, h4, h5, h6⟩, ⟨h7, h8, h9⟩, h10, h11, h12⟩ := (keepOk_parts k).1 h
        rw [all_false hi2 (heldOk_gen ((or4 _ _ _ _).trans c90))] at h10
        cases h10
      · skip
        refine SW.skip ?_
        refine SW.regT tabOk [1, 3, 61, 62, 63, 64, 65, 68, 69, 70, 71, 72, 73, 74, 75, 76, 77, 78, 79, 82, 83, 84, 85, 86, 87, 88, 89, 109, 110, 111, 112, 113, 114, 115, 116, 117, 118, 119, 120, 140, 141, 142, 143, 144, 145, 146, 147, 148, 149, 150, 151, 154, 155, 156, 157, 158, 159, 160, 161, 162, 163, 164, 165, 166, 167, 168] ?_
        refine ai trivial (ai trivial (ai trivial ?_))
        have hs : heldOk k i = true := heldOk_gen ((or4 _ _ _ _).trans c90)
        refine wk [(.t 1, .v (.e (.c (.pt 1 0)))), (.t 3, .v (I ((i + 1) : Nat))), (.o 1, .box 83 [.d (.i k.id), .d (.i k.time), .d (.i k.next), .d (.sl (noteRows k.held)), .d (.sl (markRows k.marks)), .d (.sl (noteRows k.inbox))])] [] [] (⟨k.held.length - (i + 1), by omega, i + 1, rfl, by omega, fun j h => by by_cases e : j = i; exact e ▸ hs; exact hk j (by omega), rfl⟩) ?_ rfl rfl
        repeat' first | exact trivial | refine mL_nil rfl ?_ | refine mL_d rfl ?_ ?_ | refine mL_own rfl rfl ?_ rfl ?_ | refine mL_row rfl ?_ ?_ | refine mL_pt rfl rfl rfl rfl ?_ | refine mL_box rfl ?_ ?_ | refine mL_agg rfl ?_ ?_ | exact mCs_nil0 | refine mCs_d ?_ ?_ | refine mCs_nil ?_ | refine mCs_own rfl ?_ rfl ?_ | refine mCs_pt rfl rfl rfl ?_
        all_goals first | with_reducible rfl | (first | with_reducible rfl | exact congrArg D.i (wrap64_of (by omega)))
    · skip
      have hiA : i = k.held.length := by simp [noteRows_length] at c47; omega
      have hkA := hk
      clear hk hi
      refine SW.exit ?_
      refine SW.seq ?_
      refine SW.seq ?_
      refine SW.regT tabOk [1, 5, 109, 110, 111, 112, 113, 114, 115, 116, 117, 118, 119, 120, 140, 141, 142, 143, 144, 145, 146, 147, 148, 149, 150, 151, 154, 155, 156, 157, 158, 159, 160, 161, 162, 163, 164, 165, 166, 167, 168] ?_
      refine ai trivial ?_
      refine SW.block ?_
      -- live at the head: [1, 5, 109, 110, 111, 112, 113, 114, 115, 116, 117, 118, 119, 120, 140, 141, 142, 143, 144, 145, 146, 147, 148, 149, 150, 151, 154, 155, 156, 157, 158, 159, 160, 161, 162, 163, 164, 165, 166, 167, 168]
      refine SW.loopW (n := k.marks.length) (fun n q => ∃ i : Nat, n = k.marks.length - i ∧ i ≤ k.marks.length ∧ (∀ j, j < i → marked k j = true) ∧ q = [(.t 1, .v (.e (.c (.pt 1 0)))), (.t 5, .v (I (i : Nat))), (.o 1, .box 83 [.d (.i k.id), .d (.i k.time), .d (.i k.next), .d (.sl (noteRows k.held)), .d (.sl (markRows k.marks)), .d (.sl (noteRows k.inbox))])]) ?_ ?_
      · skip
        refine wk [(.t 1, .v (.e (.c (.pt 1 0)))), (.t 5, .v (I (0 : Nat))), (.o 1, .box 83 [.d (.i k.id), .d (.i k.time), .d (.i k.next), .d (.sl (noteRows k.held)), .d (.sl (markRows k.marks)), .d (.sl (noteRows k.inbox))])] [] [] (⟨0, rfl, Nat.zero_le _, fun j h => absurd h (by omega), rfl⟩) ?_ rfl rfl
        repeat' first | exact trivial | refine mL_nil rfl ?_ | refine mL_d rfl ?_ ?_ | refine mL_own rfl rfl ?_ rfl ?_ | refine mL_row rfl ?_ ?_ | refine mL_pt rfl rfl rfl rfl ?_ | refine mL_box rfl ?_ ?_ | refine mL_agg rfl ?_ ?_ | exact mCs_nil0 | refine mCs_d ?_ ?_ | refine mCs_nil ?_ | refine mCs_own rfl ?_ rfl ?_ | refine mCs_pt rfl rfl rfl ?_
        all_goals first | with_reducible rfl | (first | with_reducible rfl | (rw [markRows_length]; done) | rfl)
      rintro n s ⟨i, rfl, hi, hk, rfl⟩
      refine SW.seq ?_
      refine SW.seq ?_
      refine SW.regT tabOk [1, 5, 95, 109, 110, 111, 112, 113, 114, 115, 116, 117, 118, 119, 120, 140, 141, 142, 143, 144, 145, 146, 147, 148, 149, 150, 151, 154, 155, 156, 157, 158, 159, 160, 161, 162, 163, 164, 165, 166, 167, 168] ?_
      refine ai trivial (ai (by first | trivial | rfl) (ai vc (ai vc (ai trivial ?_))))
      refine SW.cond rfl (fun c95 => ?_) (fun c95 => ?_)
      · skip
        have hi2 : i < k.marks.length := by simpa [markRows_length] using c95
        have hg := markRows_getD (l := k.marks) hi2
        refine SW.skip ?_
        refine SW.seq ?_
        refine SW.block ?_
        refine SW.seq ?_
        refine SW.regT tabOk [1, 5, 6, 109, 110, 111, 112, 113, 114, 115, 116, 117, 118, 119, 120, 140, 141, 142, 143, 144, 145, 146, 147, 148, 149, 150, 151, 154, 155, 156, 157, 158, 159, 160, 161, 162, 163, 164, 165, 166, 167, 168] ?_
        refine ai (by first | trivial | rfl) (ai vc (ai trivial (ai (by rw [Int.toNat_natCast, hg]; exact ⟨⟨by omega, by rw [markRows_length]; omega⟩, rfl⟩) (ai (by rw [Int.toNat_natCast, hg]; exact ⟨Nat.le_of_ble_eq_true rfl, rfl⟩) (ai trivial (ai ⟨by kernel_rfl, Nat.le_of_ble_eq_true (by kernel_rfl)⟩ ?_))))))
        refine SW.seq ?_
        refine SW.wk (J := fun s => s = [(.t 1, .v (.e (.c (.pt 1 0)))), (.t 5, .v (I (i : Nat))), (.o 1, .box 83 [.d (.i k.id), .d (.i k.time), .d (.i k.next), .d (.sl (noteRows k.held)), .d (.sl (markRows k.marks)), .d (.sl (noteRows k.inbox))]), (.t 6, .v (.e (.c (.pt 6 0)))), (.o 6, .box 157 [.d (.i (k.marks.getD i .zero).frm), .d (.i (k.marks.getD i .zero).num), .d (.i (k.marks.getD i .zero).til)])]) ?_ ?_
        · skip
          refine wk [(.t 1, .v (.e (.c (.pt 1 0)))), (.t 5, .v (I (i : Nat))), (.o 1, .box 83 [.d (.i k.id), .d (.i k.time), .d (.i k.next), .d (.sl (noteRows k.held)), .d (.sl (markRows k.marks)), .d (.sl (noteRows k.inbox))]), (.t 6, .v (.e (.c (.pt 6 0)))), (.o 6, .box 157 [.d (.i (k.marks.getD i .zero).frm), .d (.i (k.marks.getD i .zero).num), .d (.i (k.marks.getD i .zero).til)])] [] [] (rfl) ?_ rfl rfl
          repeat' first | exact trivial | refine mL_nil rfl ?_ | refine mL_d rfl ?_ ?_ | refine mL_own rfl rfl ?_ rfl ?_ | refine mL_row rfl ?_ ?_ | refine mL_pt rfl rfl rfl rfl ?_ | refine mL_box rfl ?_ ?_ | refine mL_agg rfl ?_ ?_ | exact mCs_nil0 | refine mCs_d ?_ ?_ | refine mCs_nil ?_ | refine mCs_own rfl ?_ rfl ?_ | refine mCs_pt rfl rfl rfl ?_
          all_goals first | with_reducible rfl | (first | with_reducible rfl | (rw [Int.toNat_natCast, hg]; rfl))
        rintro s rfl
        refine SW.regT tabOk [1, 5, 109, 110, 111, 112, 113, 114, 115, 116, 117, 118, 119, 120, 121, 140, 141, 142, 143, 144, 145, 146, 147, 148, 149, 150, 151, 154, 155, 156, 157, 158, 159, 160, 161, 162, 163, 164, 165, 166, 167, 168] ?_
        refine ai (by first | trivial | rfl) (ai vc (ai (by first | trivial | rfl) (ai vc (ai trivial (ai trivial (ai (fun h => (by first | trivial | rfl)) (ai rk (ai (fun h => vc) (ai rk (ai (fun h => (by first | trivial | rfl)) (ai rk (ai (fun h => vc) (ai rk (ai (fun h => trivial) (ai rk (ai (fun h => trivial) (ai rk (ai (fun h => (by first | trivial | rfl)) (ai rk (ai (fun h => vc) (ai rk (ai (fun h => (by first | trivial | rfl)) (ai rk (ai (fun h => vc) (ai rk (ai (fun h => trivial) (ai rk (ai (fun h => pk) (ai rk (ai pk ?_))))))))))))))))))))))))))))))
        refine SW.cond rfl (fun c121 => ?_) (fun c121 => ?_)
        · skip
          refine SW.seq ?_
          refine SW.regT tabOk [2] ?_
          refine ai trivial ?_
          refine SW.ret ?_
          refine retOk1 rfl (congrArg D.b ?_)
          refine (keepOk_no fun h => ?_).symm
          obtain ⟨⟨h1, h2, h3, h4, h5, h6⟩, ⟨h7, h8, h9⟩, h10, h11, h12⟩ := (keepOk_parts k).1 h
          rw [all_false hi2 (marked_gen ((or2 _ _).trans c121))] at h11
          cases h11
        · skip
          refine SW.skip ?_
          refine SW.regT tabOk [1, 5, 109, 110, 111, 112, 113, 114, 115, 116, 117, 118, 119, 120, 140, 141, 142, 143, 144, 145, 146, 147, 148, 149, 150, 151, 154, 155, 156, 157, 158, 159, 160, 161, 162, 163, 164, 165, 166, 167, 168] ?_
          refine ai trivial (ai trivial (ai trivial ?_))
          have hs : marked k i = true := marked_gen ((or2 _ _).trans c121)
          refine wk [(.t 1, .v (.e (.c (.pt 1 0)))), (.t 5, .v (I ((i + 1) : Nat))), (.o 1, .box 83 [.d (.i k.id), .d (.i k.time), .d (.i k.next), .d (.sl (noteRows k.held)), .d (.sl (markRows k.marks)), .d (.sl (noteRows k.inbox))])] [] [] (⟨k.marks.length - (i + 1), by omega, i + 1, rfl, by omega, fun j h => by by_cases e : j = i; exact e ▸ hs; exact hk j (by omega), rfl⟩) ?_ rfl rfl
          repeat' first | exact trivial | refine mL_nil rfl ?_ | refine mL_d rfl ?_ ?_ | refine mL_own rfl rfl ?_ rfl ?_ | refine mL_row rfl ?_ ?_ | refine mL_pt rfl rfl rfl rfl ?_ | refine mL_box rfl ?_ ?_ | refine mL_agg rfl ?_ ?_ | exact mCs_nil0 | refine mCs_d ?_ ?_ | refine mCs_nil ?_ | refine mCs_own rfl ?_ rfl ?_ | refine mCs_pt rfl rfl rfl ?_
          all_goals first | with_reducible rfl | (first | with_reducible rfl | exact congrArg D.i (wrap64_of (by omega)))
      · skip
        have hiB : i = k.marks.length := by simp [markRows_length] at c95; omega
        have hkB := hk
        clear hk hi
        refine SW.exit ?_
        refine SW.seq ?_
        refine SW.seq ?_
        refine SW.regT tabOk [1, 7, 140, 141, 142, 143, 144, 145, 146, 147, 148, 149, 150, 151, 154, 155, 156, 157, 158, 159, 160, 161, 162, 163, 164, 165, 166, 167, 168] ?_
        refine ai trivial ?_
        refine SW.block ?_
        -- live at the head: [1, 7, 140, 141, 142, 143, 144, 145, 146, 147, 148, 149, 150, 151, 154, 155, 156, 157, 158, 159, 160, 161, 162, 163, 164, 165, 166, 167, 168]
        refine SW.loopW (n := k.inbox.length) (fun n q => ∃ i : Nat, n = k.inbox.length - i ∧ i ≤ k.inbox.length ∧ (∀ j, j < i → inboxOk k j = true) ∧ q = [(.t 1, .v (.e (.c (.pt 1 0)))), (.t 7, .v (I (i : Nat))), (.o 1, .box 83 [.d (.i k.id), .d (.i k.time), .d (.i k.next), .d (.sl (noteRows k.held)), .d (.sl (markRows k.marks)), .d (.sl (noteRows k.inbox))])]) ?_ ?_
        · skip
          refine wk [(.t 1, .v (.e (.c (.pt 1 0)))), (.t 7, .v (I (0 : Nat))), (.o 1, .box 83 [.d (.i k.id), .d (.i k.time), .d (.i k.next), .d (.sl (noteRows k.held)), .d (.sl (markRows k.marks)), .d (.sl (noteRows k.inbox))])] [] [] (⟨0, rfl, Nat.zero_le _, fun j h => absurd h (by omega), rfl⟩) ?_ rfl rfl
          repeat' first | exact trivial | refine mL_nil rfl ?_ | refine mL_d rfl ?_ ?_ | refine mL_own rfl rfl ?_ rfl ?_ | refine mL_row rfl ?_ ?_ | refine mL_pt rfl rfl rfl rfl ?_ | refine mL_box rfl ?_ ?_ | refine mL_agg rfl ?_ ?_ | exact mCs_nil0 | refine mCs_d ?_ ?_ | refine mCs_nil ?_ | refine mCs_own rfl ?_ rfl ?_ | refine mCs_pt rfl rfl rfl ?_
          all_goals first | with_reducible rfl | (first | with_reducible rfl | (rw [noteRows_length]; done) | rfl)
        rintro n s ⟨i, rfl, hi, hk, rfl⟩
        refine SW.seq ?_
        refine SW.seq ?_
        refine SW.regT tabOk [1, 7, 126, 140, 141, 142, 143, 144, 145, 146, 147, 148, 149, 150, 151, 154, 155, 156, 157, 158, 159, 160, 161, 162, 163, 164, 165, 166, 167, 168] ?_
        refine ai trivial (ai (by first | trivial | rfl) (ai vc (ai vc (ai trivial ?_))))
        refine SW.cond rfl (fun c126 => ?_) (fun c126 => ?_)
        · skip
          have hi2 : i < k.inbox.length := by simpa [noteRows_length] using c126
          have hg := noteRows_getD (l := k.inbox) hi2
          refine SW.skip ?_
          refine SW.seq ?_
          refine SW.block ?_
          refine SW.seq ?_
          refine SW.regT tabOk [1, 7, 8, 140, 141, 142, 143, 144, 145, 146, 147, 148, 149, 150, 151, 154, 155, 156, 157, 158, 159, 160, 161, 162, 163, 164, 165, 166, 167, 168] ?_
          refine ai (by first | trivial | rfl) (ai vc (ai trivial (ai (by rw [Int.toNat_natCast, hg]; exact ⟨⟨by omega, by rw [noteRows_length]; omega⟩, rfl⟩) (ai (by rw [Int.toNat_natCast, hg]; exact ⟨Nat.le_of_ble_eq_true rfl, rfl⟩) (ai trivial (ai ⟨by kernel_rfl, Nat.le_of_ble_eq_true (by kernel_rfl)⟩ ?_))))))
          refine SW.seq ?_
          refine SW.wk (J := fun s => s = [(.t 1, .v (.e (.c (.pt 1 0)))), (.t 7, .v (I (i : Nat))), (.o 1, .box 83 [.d (.i k.id), .d (.i k.time), .d (.i k.next), .d (.sl (noteRows k.held)), .d (.sl (markRows k.marks)), .d (.sl (noteRows k.inbox))]), (.t 8, .v (.e (.c (.pt 8 0)))), (.o 8, .box 64 [.d (.i (k.inbox.getD i .zero).frm), .d (.i (k.inbox.getD i .zero).num), .d (.i (k.inbox.getD i .zero).to), .d (.i (k.inbox.getD i .zero).til), .d (.s (k.inbox.getD i .zero).text)])]) ?_ ?_
          · skip
            refine wk [(.t 1, .v (.e (.c (.pt 1 0)))), (.t 7, .v (I (i : Nat))), (.o 1, .box 83 [.d (.i k.id), .d (.i k.time), .d (.i k.next), .d (.sl (noteRows k.held)), .d (.sl (markRows k.marks)), .d (.sl (noteRows k.inbox))]), (.t 8, .v (.e (.c (.pt 8 0)))), (.o 8, .box 64 [.d (.i (k.inbox.getD i .zero).frm), .d (.i (k.inbox.getD i .zero).num), .d (.i (k.inbox.getD i .zero).to), .d (.i (k.inbox.getD i .zero).til), .d (.s (k.inbox.getD i .zero).text)])] [] [] (rfl) ?_ rfl rfl
            repeat' first | exact trivial | refine mL_nil rfl ?_ | refine mL_d rfl ?_ ?_ | refine mL_own rfl rfl ?_ rfl ?_ | refine mL_row rfl ?_ ?_ | refine mL_pt rfl rfl rfl rfl ?_ | refine mL_box rfl ?_ ?_ | refine mL_agg rfl ?_ ?_ | exact mCs_nil0 | refine mCs_d ?_ ?_ | refine mCs_nil ?_ | refine mCs_own rfl ?_ rfl ?_ | refine mCs_pt rfl rfl rfl ?_
            all_goals first | with_reducible rfl | (first | with_reducible rfl | (rw [Int.toNat_natCast, hg]; rfl))
          rintro s rfl
          refine SW.regT tabOk [1, 7, 140, 141, 142, 143, 144, 145, 146, 147, 148, 149, 150, 151, 154, 155, 156, 157, 158, 159, 160, 161, 162, 163, 164, 165, 166, 167, 168, 169] ?_
          refine ai (by first | trivial | rfl) (ai vc (ai (by first | trivial | rfl) (ai vc (ai trivial (ai trivial (ai (fun h => (by first | trivial | rfl)) (ai rk (ai (fun h => vc) (ai rk (ai (fun h => (by first | trivial | rfl)) (ai rk (ai (fun h => vc) (ai rk (ai (fun h => trivial) (ai rk (ai (fun h => trivial) (ai rk (ai (fun h => (by first | trivial | rfl)) (ai rk (ai (fun h => vc) (ai rk (ai (fun h => (by first | trivial | rfl)) (ai rk (ai (fun h => vc) (ai rk (ai (fun h => trivial) (ai rk (ai (fun h => pk) (ai rk (ai pk (ai trivial (ai (fun h => (by first | trivial | rfl)) (ai rk (ai (fun h => vc) (ai rk (ai (fun h => (by first | trivial | rfl)) (ai rk (ai (fun h => vc) (ai rk (ai (fun h => trivial) (ai rk (ai (fun h => trivial) (ai rk (ai (fun h => (by first | trivial | rfl)) (ai rk (ai (fun h => vc) (ai rk (ai (fun h => (by first | trivial | rfl)) (ai rk (ai (fun h => vc) (ai rk (ai (fun h => (by first | trivial | rfl)) (ai rk (ai (fun h => vc) (ai rk ?_)))))))))))))))))))))))))))))))))))))))))))))))))))))))
          refine exc_pure (fun h => (s_spec_l12Mark k.marks _ _ (by omega))) rfl rfl rfl rfl rfl rfl rfl rfl rk ?_
          refine ai (fun h => trivial) (ai rk (ai (fun h => pk) (ai rk (ai pk ?_))))
          refine SW.cond rfl (fun c169 => ?_) (fun c169 => ?_)
          · skip
            refine SW.seq ?_
            refine SW.regT tabOk [2] ?_
            refine ai trivial ?_
            refine SW.ret ?_
            refine retOk1 rfl (congrArg D.b ?_)
            refine (keepOk_no fun h => ?_).symm
            obtain ⟨⟨h1, h2, h3, h4, h5, h6⟩, ⟨h7, h8, h9⟩, h10, h11, h12⟩ := (keepOk_parts k).1 h
            rw [all_false hi2 (inboxOk_gen ((or3 _ _ _).trans c169))] at h12
            cases h12
          · skip
            refine SW.skip ?_
            refine SW.regT tabOk [1, 7, 140, 141, 142, 143, 144, 145, 146, 147, 148, 149, 150, 151, 154, 155, 156, 157, 158, 159, 160, 161, 162, 163, 164, 165, 166, 167, 168] ?_
            refine ai trivial (ai trivial (ai trivial ?_))
            have hs : inboxOk k i = true := inboxOk_gen ((or3 _ _ _).trans c169)
            refine wk [(.t 1, .v (.e (.c (.pt 1 0)))), (.t 7, .v (I ((i + 1) : Nat))), (.o 1, .box 83 [.d (.i k.id), .d (.i k.time), .d (.i k.next), .d (.sl (noteRows k.held)), .d (.sl (markRows k.marks)), .d (.sl (noteRows k.inbox))])] [] [] (⟨k.inbox.length - (i + 1), by omega, i + 1, rfl, by omega, fun j h => by by_cases e : j = i; exact e ▸ hs; exact hk j (by omega), rfl⟩) ?_ rfl rfl
            repeat' first | exact trivial | refine mL_nil rfl ?_ | refine mL_d rfl ?_ ?_ | refine mL_own rfl rfl ?_ rfl ?_ | refine mL_row rfl ?_ ?_ | refine mL_pt rfl rfl rfl rfl ?_ | refine mL_box rfl ?_ ?_ | refine mL_agg rfl ?_ ?_ | exact mCs_nil0 | refine mCs_d ?_ ?_ | refine mCs_nil ?_ | refine mCs_own rfl ?_ rfl ?_ | refine mCs_pt rfl rfl rfl ?_
            all_goals first | with_reducible rfl | (first | with_reducible rfl | exact congrArg D.i (wrap64_of (by omega)))
        · skip
          have hiC : i = k.inbox.length := by simp [noteRows_length] at c126; omega
          refine SW.exit ?_
          refine SW.seq ?_
          refine SW.regT tabOk [2] ?_
          refine ai trivial ?_
          refine SW.ret ?_
          refine retOk1 rfl (congrArg D.b ?_)
          refine ((keepOk_parts k).2 ⟨⟨f1, f2, f3, f4, f5, f6⟩, hg3, all_true ?_, all_true ?_, all_true ?_⟩).symm
          · rw [← hiA]; exact hkA
          · rw [← hiB]; exact hkB
          · rw [← hiC]; exact hk

end Go.Proofs.YtilahgkblckndaaGreatDoor

namespace Go.Ab
open Go Go.RowKit
set_option linter.unusedVariables false

theorem dec_len (n : Nat) : (dec n).length ≤ n + 1 := by
  induction n using Nat.strongRecOn with
  | _ n ih =>
    by_cases h : n < 10
    · rw [dec_small h]; simp
    · rw [dec_big (by omega), List.length_append]
      have := ih (n / 10) (by omega)
      simp only [List.length_cons, List.length_nil]; omega
theorem dig_char {d : Nat} (h : d < 10) : u8 (wrap64 (48 + (d : Int))) = UInt8.ofNat (48 + d) := by
  rw [wrap64_of (by omega)]
  apply UInt8.toNat_inj.1
  have h1 := u8_toNat (48 + (d : Int))
  rw [digit_toNat h]
  unfold wrap8 at h1
  omega
theorem take_digits {s : List UInt8} {i : Nat} (h : ∀ k, k < i → isDigit (s.getD k 0) = true) (hi : i ≤ s.length) : ∀ b ∈ s.take i, isDigit b = true := by
  intro b hb
  obtain ⟨k, hk⟩ := List.mem_iff_getElem?.1 hb
  have hlt : k < i := by
    have := (List.getElem?_eq_some_iff.1 hk).1
    rw [List.length_take] at this; omega
  rw [List.getElem?_take_of_lt hlt] at hk
  have := h k hlt
  rw [List.getD_eq_getElem?_getD, hk] at this
  exact this
theorem digits_of {s : List UInt8} (h : ∀ k, k < s.length → isDigit (s.getD k 0) = true) : digits s = true := by
  have := take_digits h (Nat.le_refl _)
  rw [List.take_length] at this
  exact List.all_eq_true.2 this
theorem not_digits {s : List UInt8} {k : Nat} (hk : k < s.length) (h : isDigit (s.getD k 0) = false) : digits s = false := by
  unfold digits
  rw [List.all_eq_false]
  refine ⟨s.getD k 0, ?_, by rw [h]; decide⟩
  rw [List.getD_eq_getElem?_getD, List.getElem?_eq_getElem hk]
  exact List.getElem_mem _
theorem isDigit_in (s : List UInt8) (i : Nat) : isDigit (s.getD i 0) = inB (byteI s i) 48 57 := by
  unfold isDigit inB byteI
  congr 1 <;> (apply decide_eq_decide.2; omega)
theorem val_step {s : List UInt8} {i a : Nat} (hi : i < s.length) (hd : isDigit (s.getD i 0) = true) (ha : figV (s.take i) = a) (hb : a < 1000000) :
    wrap64 (wrap64 (10 * (a : Int)) + wrap64 (wrap8 (((s.getD i 0).toNat : Int) - 48))) = (figV (s.take (i + 1)) : Nat) ∧ wrap64 (wrap64 ((a : Int) * 10) + wrap64 (wrap8 (((s.getD i 0).toNat : Int) - 48))) = (figV (s.take (i + 1)) : Nat) := by
  rw [figV_take hi, ha]
  simp only [isDigit, Bool.and_eq_true, decide_eq_true_eq] at hd
  have h8 : wrap8 (((s.getD i 0).toNat : Int) - 48) = ((s.getD i 0).toNat : Int) - 48 := by unfold wrap8; omega
  rw [h8, wrap64_of (n := ((s.getD i 0).toNat : Int) - 48) (by omega), wrap64_of (n := 10 * (a : Int)) (by omega), wrap64_of (n := (a : Int) * 10) (by omega), wrap64_of (by omega), wrap64_of (by omega)]
  omega
theorem val_bound {s : List UInt8} {i : Nat} (h : ∀ k, k < i → isDigit (s.getD k 0) = true) (hi : i ≤ s.length) (h5 : i ≤ 5) : figV (s.take i) < 100000 :=
  Nat.lt_of_lt_of_le (figV_lt i (s.take i) (by rw [List.length_take]; omega) (take_digits h hi)) (Nat.pow_le_pow_right (by decide) h5)
end Go.Ab

namespace Go.Proofs.YtilahgkblckndaaGreatDoor
open Go Go.Ab Go.RowKit
set_option linter.unusedVariables false
set_option linter.unusedSimpArgs false

theorem s_spec_l6Dec (n : Nat) (hn : n ≤ 1000000000) : Ab.Spec Tryz.prog 82 1 [(.t 0, .v (I (n : Nat)))] [(.t 0, .v (Dv (.s (dec n))))] := by
  induction n using Nat.strongRecOn
  rename_i n ih
  refine spec_of_body tabOk Tryz.func82 rfl (by kernel_rfl) (by decide) (by kernel_rfl) rfl ?_
  refine SW.seq ?_
  refine SW.regT tabOk [0] ?_
  refine ai trivial ?_
  refine SW.seq ?_
  refine SW.seq ?_
  refine SW.regT tabOk [0, 4] ?_
  refine ai trivial (ai trivial ?_)
  refine SW.cond rfl (fun c4 => ?_) (fun c4 => ?_)
  · skip
    simp at c4
    omega
  · skip
    refine SW.skip ?_
    refine SW.seq ?_
    refine SW.seq ?_
    refine SW.regT tabOk [0, 6] ?_
    refine ai trivial (ai trivial ?_)
    refine SW.cond rfl (fun c6 => ?_) (fun c6 => ?_)
    · skip
      simp at c6
      omega
    · skip
      refine SW.skip ?_
      refine SW.seq ?_
      refine SW.seq ?_
      refine SW.regT tabOk [0, 12] ?_
      refine ai trivial (ai trivial ?_)
      refine SW.cond rfl (fun c12 => ?_) (fun c12 => ?_)
      · skip
        have h10 : n < 10 := by simp at c12; omega
        refine SW.seq ?_
        refine SW.regT tabOk [2] ?_
        refine ai trivial (ai trivial (ai (by first | trivial | rfl) (ai (by exact ⟨by simp, Nat.le_of_ble_eq_true rfl⟩) (ai (by exact ⟨rfl, congrArg (fun r => [r]) (u8_row _)⟩) (ai trivial ?_)))))
        refine SW.ret ?_
        refine retOk1 rfl (congrArg D.s ?_)
        rw [dec_small h10, ← dig_char h10]
        rfl
      · skip
        have h10 : ¬ n < 10 := by simp at c12; omega
        have hq : wrap64 (Int.tdiv (n : Int) 10) = ((n / 10 : Nat) : Int) := by rw [Int.tdiv_eq_ediv_of_nonneg (by omega), wrap64_of (by omega)]; omega
        have hr : Int.tmod (n : Int) 10 = ((n % 10 : Nat) : Int) := by rw [Int.tmod_eq_emod_of_nonneg (by omega)]; omega
        have hdl := dec_len (n / 10)
        refine SW.skip ?_
        refine SW.seq ?_
        refine SW.regD tabOk mo [2] ?_
        refine ai trivial (ai (by omega) ?_)
        refine ex_pure (ih (n / 10) (by omega) (by omega)) rfl rfl rfl rfl rfl (by rw [hq]; rfl) rfl rfl ?_
        refine ai trivial (ai (by omega) (ai trivial (ai (by first | trivial | rfl) (ai (by exact ⟨by simp, Nat.le_of_ble_eq_true rfl⟩) (ai (by exact ⟨rfl, congrArg (fun r => [r]) (u8_row _)⟩) (ai (by show _ ≤ 9223372036854775807; simp only [rowsBytes, List.length_map, List.length_cons, List.length_nil]; omega) (ai trivial (ai (by kernel_rfl) ?_))))))))
        refine SW.ret ?_
        refine retOk1 rfl (congrArg D.s ?_)
        refine Eq.trans ?_ (dec_big (by omega)).symm
        rw [hr, ← dig_char (Nat.mod_lt n (by decide))]
        rfl

theorem s_impl_natural (s : List UInt8) (hl : s.length ≤ 140737488355328) : Ab.Spec Tryz.prog 182 1 [(.t 0, .v (Dv (.s s)))] [(.t 0, .v (.tup [.c (.d (.i (match natV s with | some n => (n : Int) | none => 0))), .c (.d (.b (natV s).isSome))]))] := by
  refine spec_of_body tabOk Tryz.func182 rfl (by kernel_rfl) (by decide) (by kernel_rfl) rfl ?_
  refine SW.seq ?_
  refine SW.regT tabOk [0, 11, 12, 13, 14, 15, 16, 17, 18] ?_
  refine ai trivial (ai trivial ?_)
  refine SW.seq ?_
  refine SW.seq ?_
  refine SW.regT tabOk [0, 19] ?_
  refine ai trivial (ai vc ?_)
  refine ex_pure (s_impl_in _ _ _) rfl rfl rfl rfl rfl rfl rfl rfl ?_
  refine ai trivial (ai trivial (ai (fun h => trivial) (ai rk (ai (fun h => (by have h9 := h; simp [gb, inB] at h9; exact ⟨by omega, by omega⟩)) (ai rk (ai (fun h => trivial) (ai rk (ai (fun h => trivial) (ai rk (ai (fun h => trivial) (ai rk (ai (fun h => vc) (ai rk (ai (fun h => trivial) (ai rk (ai (fun h => pk) (ai rk (ai pk ?_))))))))))))))))))
  refine SW.cond rfl (fun c19 => ?_) (fun c19 => ?_)
  · skip
    refine SW.seq ?_
    refine SW.regT tabOk [2, 3] ?_
    refine ai trivial (ai trivial ?_)
    refine SW.ret ?_
    have hno : natV s = none := by
      unfold natV
      rw [if_neg]
      rintro ⟨h1, h2, h3⟩
      have h4 : inB (s.length : Int) 1 5 = true := by simp only [inB, Bool.and_eq_true, decide_eq_true_eq]; omega
      rw [h4] at c19
      simp only [Bool.not_true, Bool.false_or, Bool.and_eq_true, beq_iff_eq, decide_eq_true_eq] at c19
      refine h2 ⟨UInt8.toNat_inj.1 ?_, by omega⟩
      have h5 : ((s.getD 0 0).toNat : Int) = 48 := c19.1
      have h6 : (48 : UInt8).toNat = 48 := rfl
      omega
    refine retOkP rfl rfl ?_
    rw [hno]
    rfl
  · skip
    have hL : (1 ≤ s.length ∧ s.length ≤ 5) ∧ ¬ (s.getD 0 0 = 48 ∧ 1 < s.length) := by
      by_cases h1 : 1 ≤ s.length ∧ s.length ≤ 5
      · refine ⟨h1, fun h2 => ?_⟩
        have h3 : (((s.getD (Int.toNat 0) 0).toNat : Int) == 48) = true := by rw [show Int.toNat 0 = 0 from rfl, h2.1]; rfl
        have h4 : decide ((s.length : Int) > 1) = true := decide_eq_true (by omega)
        rw [h3, h4] at c19
        simp at c19
      · have h3 : inB (s.length : Int) 1 5 = false := by
          cases h : inB (s.length : Int) 1 5 with
          | false => rfl
          | true => simp only [inB, Bool.and_eq_true, decide_eq_true_eq] at h; omega
        rw [h3] at c19
        simp at c19
    refine SW.skip ?_
    refine SW.seq ?_
    refine SW.regT tabOk [0, 4] ?_
    refine ai trivial ?_
    refine SW.seq ?_
    refine SW.seq ?_
    refine SW.regT tabOk [0, 4, 5] ?_
    refine ai trivial ?_
    refine SW.block ?_
    -- live at the head: [0, 4, 5]
    refine SW.loopW (n := s.length) (fun m q => ∃ i : Nat, m = s.length - i ∧ i ≤ s.length ∧ (∀ k, k < i → isDigit (s.getD k 0) = true) ∧ q = [(.t 0, .v (Dv (.s s))), (.t 4, .v (I (figV (s.take (i)) : Nat))), (.t 5, .v (I (i : Nat)))]) ?_ ?_
    · skip
      refine wk [(.t 0, .v (Dv (.s s))), (.t 4, .v (I (figV (s.take (0)) : Nat))), (.t 5, .v (I (0 : Nat)))] [] [] (⟨0, rfl, Nat.zero_le _, fun k h => absurd h (by omega), rfl⟩) ?_ rfl rfl
      repeat' first | exact trivial | refine mL_nil rfl ?_ | refine mL_d rfl ?_ ?_ | refine mL_own rfl rfl ?_ rfl ?_ | refine mL_row rfl ?_ ?_ | refine mL_pt rfl rfl rfl rfl ?_ | refine mL_box rfl ?_ ?_ | refine mL_agg rfl ?_ ?_ | exact mCs_nil0 | refine mCs_d ?_ ?_ | refine mCs_nil ?_ | refine mCs_own rfl ?_ rfl ?_ | refine mCs_pt rfl rfl rfl ?_
      all_goals first | with_reducible rfl | (first | with_reducible rfl | (simp [figV]; done))
    rintro n s ⟨i, rfl, hi, hk, rfl⟩
    refine SW.seq ?_
    refine SW.seq ?_
    refine SW.regT tabOk [0, 4, 5, 23] ?_
    refine ai trivial (ai trivial (ai vc (ai trivial ?_)))
    refine SW.cond rfl (fun c23 => ?_) (fun c23 => ?_)
    · skip
      have hi2 : i < s.length := by simpa using c23
      have hb8 := byteI_range s i
      have hw : wrap64 ((s.getD ((i : Nat) : Int).toNat 0).toNat : Int) = byteI s i := wrap64_of (by unfold byteI at hb8; rw [Int.toNat_natCast]; omega)
      have hvb := val_bound hk hi (by omega)
      refine SW.skip ?_
      refine SW.seq ?_
      refine SW.block ?_
      refine SW.seq ?_
      refine SW.seq ?_
      refine SW.regT tabOk [0, 4, 5, 31] ?_
      refine ai trivial (ai trivial (ai (by exact ⟨by omega, by omega⟩) (ai (by first | trivial | rfl) ?_)))
      refine ex_pure (s_impl_in _ _ _) rfl rfl rfl rfl rfl rfl rfl rfl ?_
      refine ai trivial ?_
      refine SW.cond rfl (fun c31 => ?_) (fun c31 => ?_)
      · skip
        refine SW.seq ?_
        refine SW.regT tabOk [2, 3] ?_
        refine ai trivial (ai trivial ?_)
        refine SW.ret ?_
        have hno : natV s = none := by
          unfold natV
          rw [if_neg]
          rintro ⟨h1, h2, h3⟩
          have h9 := c31
          rw [hw, ← isDigit_in] at h9
          have hs : isDigit (s.getD i 0) = false := by simpa using h9
          rw [not_digits hi2 hs] at h3
          cases h3
        refine retOkP rfl rfl ?_
        rw [hno]
        rfl
      · skip
        refine SW.skip ?_
        refine SW.regT tabOk [0, 4, 5] ?_
        refine ai trivial (ai trivial (ai trivial (ai trivial (ai (by exact ⟨by omega, by omega⟩) (ai trivial (ai (by first | trivial | rfl) (ai trivial (ai trivial ?_))))))))
        refine SW.regT tabOk [0, 4, 5] ?_
        refine ai trivial (ai trivial (ai trivial ?_))
        have hs : isDigit (s.getD i 0) = true := by
          have h9 := c31
          rw [hw, ← isDigit_in] at h9
          simpa using h9
        refine wk [(.t 0, .v (Dv (.s s))), (.t 4, .v (I (figV (s.take (i + 1)) : Nat))), (.t 5, .v (I (i + 1 : Nat)))] [] [] (⟨s.length - (i + 1), by omega, i + 1, rfl, by omega, fun k h => by by_cases e : k = i; exact e ▸ hs; exact hk k (by omega), rfl⟩) ?_ rfl rfl
        repeat' first | exact trivial | refine mL_nil rfl ?_ | refine mL_d rfl ?_ ?_ | refine mL_own rfl rfl ?_ rfl ?_ | refine mL_row rfl ?_ ?_ | refine mL_pt rfl rfl rfl rfl ?_ | refine mL_box rfl ?_ ?_ | refine mL_agg rfl ?_ ?_ | exact mCs_nil0 | refine mCs_d ?_ ?_ | refine mCs_nil ?_ | refine mCs_own rfl ?_ rfl ?_ | refine mCs_pt rfl rfl rfl ?_
        all_goals first | with_reducible rfl | (first | with_reducible rfl | (rw [Int.toNat_natCast]; exact congrArg D.i (val_step hi2 hs rfl (by omega)).1) | exact congrArg D.i (wrap64_of (by omega)))
    · skip
      have hi3 : i = s.length := by simp at c23; omega
      refine SW.exit ?_
      refine SW.seq ?_
      refine SW.regT tabOk [2, 3] ?_
      refine ai trivial (ai trivial (ai trivial ?_))
      refine SW.ret ?_
      have hyes : natV s = some (figV s) := by
        unfold natV
        rw [if_pos ⟨hL.1, hL.2, digits_of (hi3 ▸ hk)⟩]
      refine retOkP rfl rfl ?_
      rw [hyes, hi3, List.take_length]
      rfl

theorem s_spec_l3Dec (s : List UInt8) (hl : s.length ≤ 140737488355328) : Ab.Spec Tryz.prog 179 1 [(.t 0, .v (Dv (.s s)))] [(.t 0, .v (I (decV s)))] := by
  refine spec_of_body tabOk Tryz.func179 rfl (by kernel_rfl) (by decide) (by kernel_rfl) rfl ?_
  refine SW.seq ?_
  refine SW.regT tabOk [0, 9, 10, 11, 24, 25, 26, 27] ?_
  refine ai trivial ?_
  refine SW.seq ?_
  refine SW.seq ?_
  refine SW.regT tabOk [0, 12, 24, 25, 26, 27] ?_
  refine ai trivial (ai vc (ai trivial (ai trivial (ai (fun h => trivial) (ai rk (ai (fun h => vc) (ai rk (ai (fun h => trivial) (ai rk (ai pk ?_))))))))))
  refine SW.cond rfl (fun c12 => ?_) (fun c12 => ?_)
  · skip
    have hL : ¬ (1 ≤ s.length ∧ s.length ≤ 4) := by simp [gb] at c12; omega
    refine SW.seq ?_
    refine SW.regT tabOk [2] ?_
    refine ai trivial ?_
    refine SW.ret ?_
    refine retOk1 rfl (congrArg D.i ?_)
    unfold decV
    rw [if_neg]
    rintro ⟨h1, h2, h3⟩
    exact hL h1
  · skip
    have hL : 1 ≤ s.length ∧ s.length ≤ 4 := by
      simp only [Bool.or_eq_false_iff, decide_eq_false_iff_not] at c12
      omega
    refine SW.skip ?_
    refine SW.seq ?_
    refine SW.regT tabOk [0, 3, 24, 25, 26, 27] ?_
    refine ai trivial ?_
    refine SW.seq ?_
    refine SW.seq ?_
    refine SW.regT tabOk [0, 3, 4, 24, 25, 26, 27] ?_
    refine ai trivial ?_
    refine SW.block ?_
    -- live at the head: [0, 3, 4, 24, 25, 26, 27]
    refine SW.loopW (n := s.length) (fun m q => ∃ i : Nat, m = s.length - i ∧ i ≤ s.length ∧ (∀ k, k < i → isDigit (s.getD k 0) = true) ∧ q = [(.t 0, .v (Dv (.s s))), (.t 3, .v (I (figV (s.take (i)) : Nat))), (.t 4, .v (I (i : Nat)))]) ?_ ?_
    · skip
      refine wk [(.t 0, .v (Dv (.s s))), (.t 3, .v (I (figV (s.take (0)) : Nat))), (.t 4, .v (I (0 : Nat)))] [] [] (⟨0, rfl, Nat.zero_le _, fun k h => absurd h (by omega), rfl⟩) ?_ rfl rfl
      repeat' first | exact trivial | refine mL_nil rfl ?_ | refine mL_d rfl ?_ ?_ | refine mL_own rfl rfl ?_ rfl ?_ | refine mL_row rfl ?_ ?_ | refine mL_pt rfl rfl rfl rfl ?_ | refine mL_box rfl ?_ ?_ | refine mL_agg rfl ?_ ?_ | exact mCs_nil0 | refine mCs_d ?_ ?_ | refine mCs_nil ?_ | refine mCs_own rfl ?_ rfl ?_ | refine mCs_pt rfl rfl rfl ?_
      all_goals first | with_reducible rfl | (first | with_reducible rfl | (simp [figV]; done))
    rintro n s ⟨i, rfl, hi, hk, rfl⟩
    refine SW.seq ?_
    refine SW.seq ?_
    refine SW.regT tabOk [0, 3, 4, 16, 24, 25, 26, 27] ?_
    refine ai trivial (ai trivial (ai vc (ai trivial ?_)))
    refine SW.cond rfl (fun c16 => ?_) (fun c16 => ?_)
    · skip
      have hi2 : i < s.length := by simpa using c16
      have hvb := val_bound hk hi (by omega)
      refine SW.skip ?_
      refine SW.seq ?_
      refine SW.block ?_
      refine SW.seq ?_
      refine SW.seq ?_
      refine SW.regT tabOk [0, 3, 4, 24, 25, 26, 27, 28] ?_
      refine ai trivial (ai trivial (ai (by exact ⟨by omega, by omega⟩) (ai trivial (ai trivial (ai (fun h => trivial) (ai rk (ai (fun h => trivial) (ai rk (ai (fun h => (by exact ⟨by omega, by omega⟩)) (ai rk (ai (fun h => trivial) (ai rk (ai pk ?_)))))))))))))
      refine SW.cond rfl (fun c28 => ?_) (fun c28 => ?_)
      · skip
        refine SW.seq ?_
        refine SW.regT tabOk [2] ?_
        refine ai trivial ?_
        refine SW.ret ?_
        refine retOk1 rfl (congrArg D.i ?_)
        unfold decV
        rw [if_neg]
        rintro ⟨h1, h2, h3⟩
        have hs : isDigit (s.getD i 0) = false := by
          have h9 := c28
          rw [Int.toNat_natCast] at h9
          simp [gb] at h9
          simp [isDigit]; omega
        rw [not_digits hi2 hs] at h2
        cases h2
      · skip
        refine SW.skip ?_
        refine SW.regT tabOk [0, 3, 4, 24, 25, 26, 27] ?_
        refine ai trivial (ai trivial (ai trivial (ai trivial (ai (by exact ⟨by omega, by omega⟩) (ai trivial (ai (by first | trivial | rfl) (ai trivial (ai trivial ?_))))))))
        refine SW.regT tabOk [0, 3, 4, 24, 25, 26, 27] ?_
        refine ai trivial (ai trivial (ai trivial ?_))
        have hs : isDigit (s.getD i 0) = true := by
          have h9 := c28
          rw [Int.toNat_natCast] at h9
          simp [gb] at h9
          simp [isDigit]; omega
        refine wk [(.t 0, .v (Dv (.s s))), (.t 3, .v (I (figV (s.take (i + 1)) : Nat))), (.t 4, .v (I (i + 1 : Nat)))] [] [] (⟨s.length - (i + 1), by omega, i + 1, rfl, by omega, fun k h => by by_cases e : k = i; exact e ▸ hs; exact hk k (by omega), rfl⟩) ?_ rfl rfl
        repeat' first | exact trivial | refine mL_nil rfl ?_ | refine mL_d rfl ?_ ?_ | refine mL_own rfl rfl ?_ rfl ?_ | refine mL_row rfl ?_ ?_ | refine mL_pt rfl rfl rfl rfl ?_ | refine mL_box rfl ?_ ?_ | refine mL_agg rfl ?_ ?_ | exact mCs_nil0 | refine mCs_d ?_ ?_ | refine mCs_nil ?_ | refine mCs_own rfl ?_ rfl ?_ | refine mCs_pt rfl rfl rfl ?_
        all_goals first | with_reducible rfl | (first | with_reducible rfl | (rw [Int.toNat_natCast]; exact congrArg D.i (val_step hi2 hs rfl (by omega)).2) | exact congrArg D.i (wrap64_of (by omega)))
    · skip
      have hi3 : i = s.length := by simp at c16; omega
      have hvb := val_bound hk hi (by omega)
      refine SW.exit ?_
      refine SW.seq ?_
      refine SW.seq ?_
      refine SW.regT tabOk [3, 40] ?_
      refine ai trivial ?_
      refine ex_pure (s_spec_l6Dec (figV (s.take i)) (by omega)) rfl rfl rfl rfl rfl rfl rfl rfl ?_
      refine ai trivial (ai vc ?_)
      refine SW.cond rfl (fun c40 => ?_) (fun c40 => ?_)
      · skip
        refine SW.seq ?_
        refine SW.regT tabOk [2] ?_
        refine ai trivial ?_
        refine SW.ret ?_
        refine retOk1 rfl (congrArg D.i ?_)
        unfold decV
        rw [if_neg]
        rintro ⟨h1, h2, h3⟩
        rw [hi3, List.take_length, h3] at c40
        simp at c40
      · skip
        refine SW.skip ?_
        refine SW.seq ?_
        refine SW.regT tabOk [2] ?_
        refine ai trivial (ai trivial ?_)
        refine SW.ret ?_
        refine retOk1 rfl (congrArg D.i ?_)
        rw [hi3, List.take_length] at c40
        unfold decV
        rw [if_pos ⟨hL, digits_of (hi3 ▸ hk), by simpa using c40⟩, hi3, List.take_length]

end Go.Proofs.YtilahgkblckndaaGreatDoor

namespace Go.Ab
open Go Go.RowKit
set_option linter.unusedVariables false

theorem decV_range (t : List UInt8) : -1 ≤ decV t ∧ decV t ≤ 9999 := by
  unfold decV
  split
  · rename_i h
    have h1 := figV_lt t.length t rfl (List.all_eq_true.1 h.2.1)
    have h2 : 10 ^ t.length ≤ 10 ^ 4 := Nat.pow_le_pow_right (by decide) h.1.2
    have h3 : (10 : Nat) ^ 4 = 10000 := rfl
    omega
  · omega
theorem recAt_of {s : List UInt8} {i : Nat} (hc : colonAt s = some i) :
    recAt s = if 1 ≤ decV (s.take i) ∧ decV (s.take i) ≤ 60 ∧ i + 2 + (decV (s.take i)).toNat ≤ s.length ∧ s.getD (i + 1 + (decV (s.take i)).toNat) 0 = 59 then some ((s.take (i + 1 + (decV (s.take i)).toNat)).drop (i + 1), i + 2 + (decV (s.take i)).toNat) else none := by
  obtain ⟨q1, q2, q3, q4, q5⟩ := colonF_spec hc
  have hd := decV_natV (s := s.take i) (by rw [List.length_take]; omega)
  unfold recAt
  rw [hc]
  simp only
  cases hn : natV (s.take i) with
  | none =>
    rw [hn] at hd
    simp only at hd
    rw [if_neg (by omega)]
  | some n =>
    rw [hn] at hd
    simp only at hd
    rw [hd]
    simp only [Int.toNat_natCast]
    by_cases h : 1 ≤ n ∧ n ≤ 60 ∧ i + 2 + n ≤ s.length ∧ s.getD (i + 1 + n) 0 = 59
    · rw [if_pos h, if_pos ⟨by omega, by omega, h.2.2.1, h.2.2.2⟩]
    · rw [if_neg h, if_neg (fun e => h ⟨by omega, by omega, e.2.2.1, e.2.2.2⟩)]
def recS (s : List UInt8) : List UInt8 := match recAt s with | some p => p.1 | none => []
def recN (s : List UInt8) : Nat := match recAt s with | some p => p.2 | none => 0
theorem recN_zero {s : List UInt8} : recN s = 0 ↔ recAt s = none := by
  unfold recN
  cases h : recAt s with
  | none => simp
  | some p =>
    obtain ⟨r, n⟩ := p
    have := recAt_spec h
    simp; omega
theorem colonAt_none {s : List UInt8} (h : ∀ j, j < 3 → j < s.length → s.getD j 0 ≠ 58) : colonAt s = none := colonF_no fun j _ h2 h3 => h j (by omega) h3
theorem colonAt_of {s : List UInt8} {i : Nat} (h3 : i < 3) (hi : i < s.length) (hc : s.getD i 0 = 58) (h : ∀ j, j < i → s.getD j 0 ≠ 58) : colonAt s = some i := colonF_of (Nat.zero_le _) (by omega) hi hc fun j _ h2 => h j h2
theorem recAt_noColon {s : List UInt8} (h : colonAt s = none) : recAt s = none := by unfold recAt; rw [h]
end Go.Ab

namespace Go.Proofs.YtilahgkblckndaaGreatDoor
open Go Go.Ab Go.RowKit
set_option linter.unusedVariables false
set_option linter.unusedSimpArgs false

set_option maxHeartbeats 800000 in
theorem s_spec_l11One (s : List UInt8) (hl : s.length ≤ 1000000) : Ab.Spec Tryz.prog 149 1 [(.t 0, .v (Dv (.s s)))] [(.t 0, .v (.tup [.c (.d (.s (recS s))), .c (.d (.i (recN s : Nat)))]))] := by
  refine spec_of_body tabOk Tryz.func149 rfl (by kernel_rfl) (by decide) (by kernel_rfl) rfl ?_
  refine SW.seq ?_
  refine SW.regT tabOk [0, 11, 12, 27, 28, 31, 32, 33, 34, 35, 36, 37, 40, 41, 42, 43, 44, 45, 46] ?_
  refine ai trivial (ai trivial ?_)
  refine SW.seq ?_
  refine SW.seq ?_
  refine SW.regT tabOk [0, 4, 11, 12, 27, 28, 31, 32, 33, 34, 35, 36, 37, 40, 41, 42, 43, 44, 45, 46] ?_
  refine ai trivial ?_
  refine SW.block ?_
  -- live at the head: [0, 4, 11, 12, 27, 28, 31, 32, 33, 34, 35, 36, 37, 40, 41, 42, 43, 44, 45, 46]
  refine SW.loopW (n := 3) (fun m q => ∃ i : Nat, m = 3 - i ∧ (i ≤ s.length ∧ i ≤ 3) ∧ (∀ j, j < i → s.getD j 0 ≠ 58) ∧ q = [(.t 0, .v (Dv (.s s))), (.t 4, .v (I (i : Nat)))]) ?_ ?_
  · skip
    refine wk [(.t 0, .v (Dv (.s s))), (.t 4, .v (I (0 : Nat)))] [] [] (⟨0, rfl, ⟨Nat.zero_le _, by omega⟩, fun j h => absurd h (by omega), rfl⟩) ?_ rfl rfl
    repeat' first | exact trivial | refine mL_nil rfl ?_ | refine mL_d rfl ?_ ?_ | refine mL_own rfl rfl ?_ rfl ?_ | refine mL_row rfl ?_ ?_ | refine mL_pt rfl rfl rfl rfl ?_ | refine mL_box rfl ?_ ?_ | refine mL_agg rfl ?_ ?_ | exact mCs_nil0 | refine mCs_d ?_ ?_ | refine mCs_nil ?_ | refine mCs_own rfl ?_ rfl ?_ | refine mCs_pt rfl rfl rfl ?_
    all_goals first | with_reducible rfl | (first | rfl | (simp; done) | omega)
  rintro n s ⟨i, rfl, hi, hk, rfl⟩
  refine SW.seq ?_
  refine SW.seq ?_
  refine SW.regT tabOk [0, 4, 11, 12, 13, 27, 28, 31, 32, 33, 34, 35, 36, 37, 40, 41, 42, 43, 44, 45, 46] ?_
  refine ai trivial (ai trivial (ai vc (ai trivial (ai trivial (ai (fun h => trivial) (ai rk (ai (fun h => trivial) (ai rk (ai pk ?_)))))))))
  refine SW.cond rfl (fun c13 => ?_) (fun c13 => ?_)
  · skip
    have hi2 : i < s.length ∧ i < 3 := by simp only [Bool.and_eq_true, decide_eq_true_eq] at c13; omega
    refine SW.skip ?_
    refine SW.seq ?_
    refine SW.block ?_
    refine SW.seq ?_
    refine SW.seq ?_
    refine SW.regT tabOk [0, 4, 11, 12, 19, 27, 28, 31, 32, 33, 34, 35, 36, 37, 40, 41, 42, 43, 44, 45, 46] ?_
    refine ai trivial (ai trivial (ai (by exact ⟨by omega, by omega⟩) (ai trivial ?_)))
    refine SW.cond rfl (fun c19 => ?_) (fun c19 => ?_)
    · skip
      refine SW.exit ?_
      refine SW.regT tabOk [0, 4, 11, 12, 27, 28, 31, 32, 33, 34, 35, 36, 37, 40, 41, 42, 43, 44, 45, 46] ?_
      refine ai trivial (ai trivial (ai trivial ?_))
      have hs : s.getD i 0 ≠ 58 := by
        have h9 := c19
        rw [Int.toNat_natCast] at h9
        intro e
        rw [e] at h9
        exact absurd h9 (by decide)
      refine wk [(.t 0, .v (Dv (.s s))), (.t 4, .v (I ((i + 1) : Nat)))] [] [] (⟨3 - (i + 1), by omega, i + 1, rfl, ⟨by omega, by omega⟩, fun j h => by by_cases e : j = i; exact e ▸ hs; exact hk j (by omega), rfl⟩) ?_ rfl rfl
      repeat' first | exact trivial | refine mL_nil rfl ?_ | refine mL_d rfl ?_ ?_ | refine mL_own rfl rfl ?_ rfl ?_ | refine mL_row rfl ?_ ?_ | refine mL_pt rfl rfl rfl rfl ?_ | refine mL_box rfl ?_ ?_ | refine mL_agg rfl ?_ ?_ | exact mCs_nil0 | refine mCs_d ?_ ?_ | refine mCs_nil ?_ | refine mCs_own rfl ?_ rfl ?_ | refine mCs_pt rfl rfl rfl ?_
      all_goals first | with_reducible rfl | (first | with_reducible rfl | exact congrArg D.i (wrap64_of (by omega)))
    · skip
      have hcol : colonAt s = some i := by
        refine colonAt_of hi2.2 hi2.1 ?_ hk
        have h9 := c19
        rw [Int.toNat_natCast] at h9
        have h10 : ((s.getD i 0).toNat : Int) = 58 := by simpa only [bne_eq_false_iff_eq] using h9
        apply UInt8.toNat_inj.1
        have h6 : (58 : UInt8).toNat = 58 := rfl
        omega
      have hv := decV_range (s.take i)
      have hra := recAt_of hcol
      refine SW.skip ?_
      refine SW.seq ?_
      refine SW.regT tabOk [0, 4, 5, 27, 28, 31, 32, 33, 34, 35, 36, 37, 40, 41, 42, 43, 44, 45, 46] ?_
      refine ai trivial (ai trivial (ai (by simp [bnd, loOf, hiOf]; omega) ?_))
      refine ex_pure (s_spec_l3Dec (s.take i) (by rw [List.length_take]; omega)) rfl rfl rfl rfl rfl rfl rfl rfl ?_
      refine ai trivial ?_
      refine SW.seq ?_
      refine SW.seq ?_
      refine SW.regT tabOk [0, 4, 5, 47] ?_
      refine ai trivial (ai trivial (ai trivial (ai (fun h => trivial) (ai rk (ai (fun h => trivial) (ai rk (ai pk (ai trivial (ai (fun h => trivial) (ai rk (ai (fun h => vc) (ai rk (ai (fun h => trivial) (ai rk (ai (fun h => trivial) (ai rk (ai (fun h => trivial) (ai rk (ai (fun h => trivial) (ai rk (ai (fun h => trivial) (ai rk (ai pk (ai trivial (ai (fun h => trivial) (ai rk (ai (fun h => trivial) (ai rk (ai (fun h => trivial) (ai rk (ai (fun h => trivial) (ai rk (ai (fun h => trivial) (ai rk (ai (fun h => (by have h9 := h; simp only [gb, Bool.and_eq_true, Bool.not_eq_true', Bool.or_eq_false_iff, decide_eq_false_iff_not] at h9; rw [wrap64_of (n := (i : Int) + 2) (by omega), wrap64_of (n := (i : Int) + 2 + decV (s.take i)) (by omega)] at h9; rw [wrap64_of (n := (i : Int) + 1) (by omega), wrap64_of (n := (i : Int) + 1 + decV (s.take i)) (by omega)]; omega)) (ai rk (ai (fun h => trivial) (ai rk (ai pk ?_)))))))))))))))))))))))))))))))))))))))
      refine SW.cond rfl (fun c47 => ?_) (fun c47 => ?_)
      · skip
        refine SW.seq ?_
        refine SW.regT tabOk [2, 3] ?_
        refine ai trivial (ai trivial ?_)
        refine SW.ret ?_
        have hno : recAt s = none := by
          rw [hra, if_neg]
          rintro ⟨p1, p2, p3, p4⟩
          have h9 := c47
          rw [wrap64_of (n := (i : Int) + 2) (by omega), wrap64_of (n := (i : Int) + 2 + decV (s.take i)) (by omega), wrap64_of (n := (i : Int) + 1) (by omega), wrap64_of (n := (i : Int) + 1 + decV (s.take i)) (by omega), show ((i : Int) + 1 + decV (s.take i)).toNat = i + 1 + (decV (s.take i)).toNat by omega, p4] at h9
          simp at h9
          omega
        refine retOkP rfl rfl ?_
        rw [recS, recN, hno]
        rfl
      · skip
        have hok : 1 ≤ decV (s.take i) ∧ decV (s.take i) ≤ 60 ∧ i + 2 + (decV (s.take i)).toNat ≤ s.length ∧ s.getD (i + 1 + (decV (s.take i)).toNat) 0 = 59 := by
          have h9 := c47
          rw [wrap64_of (n := (i : Int) + 2) (by omega), wrap64_of (n := (i : Int) + 2 + decV (s.take i)) (by omega), wrap64_of (n := (i : Int) + 1) (by omega), wrap64_of (n := (i : Int) + 1 + decV (s.take i)) (by omega)] at h9
          simp only [Bool.or_eq_false_iff, decide_eq_false_iff_not, bne_eq_false_iff_eq] at h9
          obtain ⟨⟨⟨p1, p2⟩, p3⟩, p4⟩ := h9
          rw [show ((i : Int) + 1 + decV (s.take i)).toNat = i + 1 + (decV (s.take i)).toNat by omega] at p4
          refine ⟨by omega, by omega, by omega, UInt8.toNat_inj.1 ?_⟩
          have h6 : (59 : UInt8).toNat = 59 := rfl
          omega
        refine SW.skip ?_
        refine SW.seq ?_
        refine SW.regT tabOk [2, 3] ?_
        refine ai trivial (ai trivial (ai trivial (ai trivial (ai trivial (ai trivial (ai trivial (ai (by rw [wrap64_of (n := (i : Int) + 1) (by omega), wrap64_of (n := (i : Int) + 1 + decV (s.take i)) (by omega)]; simp [bnd, loOf, hiOf]; omega) (ai trivial (ai trivial (ai trivial (ai trivial (ai trivial (ai trivial ?_)))))))))))))
        refine SW.ret ?_
        have hyes := hra.trans (if_pos hok)
        refine retOkP rfl rfl ?_
        rw [recS, recN, hyes]
        rw [wrap64_of (n := (i : Int) + 1) (by omega), wrap64_of (n := (i : Int) + 1 + decV (s.take i)) (by omega), wrap64_of (n := (i : Int) + 2) (by omega), wrap64_of (n := (i : Int) + 2 + decV (s.take i)) (by omega)]
        have e1 : ((i : Int) + 1).toNat = i + 1 := by omega
        have e2 : ((i : Int) + 1 + decV (s.take i)).toNat = i + 1 + (decV (s.take i)).toNat := by omega
        have e3 : (i : Int) + 2 + decV (s.take i) = ((i + 2 + (decV (s.take i)).toNat : Nat) : Int) := by omega
        rw [e3]
        show V.tup [.c (.d (.s (List.drop ((i : Int) + 1).toNat (List.take ((i : Int) + 1 + decV (s.take i)).toNat s)))), _] = _
        rw [e1, e2]
  · skip
    have hi3 : i = 3 ∨ i = s.length := by
      by_cases h3 : i < 3
      · right; have h4 : decide ((i : Int) < 3) = true := decide_eq_true (by omega)
        rw [h4, Bool.and_true, decide_eq_false_iff_not] at c13; omega
      · left; omega
    refine SW.exit ?_
    refine SW.seq ?_
    refine SW.regT tabOk [2, 3] ?_
    refine ai trivial (ai trivial ?_)
    refine SW.ret ?_
    have hno : recAt s = none := by
      exact recAt_noColon (colonAt_none fun j h3 hjl => hk j (by omega))
    refine retOkP rfl rfl ?_
    rw [recS, recN, hno]
    rfl

end Go.Proofs.YtilahgkblckndaaGreatDoor

namespace Go.Proofs.YtilahgkblckndaaGreatDoor
open Go Go.Ab Go.RowKit
set_option linter.unusedVariables false
set_option linter.unusedSimpArgs false

set_option maxHeartbeats 800000 in
theorem s_spec_ShelfRead (s : List UInt8) (hl : s.length ≤ 1000000) : Ab.Spec Tryz.prog 97 1 [(.t 0, .v (Dv (.s s)))] [(.t 0, .v (.tup [.c (.own 0 (shelfRead s).1.length), .c (.d (.i ((shelfRead s).2 : Nat)))])), (.o 0, .row 9 1 (strRows (shelfRead s).1))] := by
  refine spec_of_body tabOk Tryz.func97 rfl (by kernel_rfl) (by decide) (by kernel_rfl) rfl ?_
  refine SW.seq ?_
  refine SW.regT tabOk [0] ?_
  refine ai trivial (ai trivial ?_)
  refine SW.seq ?_
  refine SW.regT tabOk [0, 4] ?_
  refine ai vc (ai trivial ?_)
  refine SW.seq ?_
  refine SW.regT tabOk [0, 4, 5] ?_
  refine ai trivial ?_
  refine SW.seq ?_
  refine SW.block ?_
  -- live at the head: [0, 4, 5]
  refine SW.loopW (n := s.length) (fun m q => ∃ (a : Nat) (o : List (List UInt8)), m = s.length - a ∧ (a ≤ s.length ∧ o.length ≤ a) ∧ (o ++ (shelfRead (s.drop a)).1 = (shelfRead s).1 ∧ a + (shelfRead (s.drop a)).2 = (shelfRead s).2) ∧ q = [(.t 0, .v (Dv (.s s))), (.t 4, .v (.e (.c (.own 8 (o).length)))), (.t 5, .v (I (a : Nat))), (.o 8, .row 9 1 (strRows (o)))]) ?_ ?_
  · skip
    refine wk [(.t 0, .v (Dv (.s s))), (.t 4, .v (.e (.c (.own 8 ([]).length)))), (.t 5, .v (I (0 : Nat))), (.o 8, .row 9 1 (strRows ([])))] [] [] (⟨0, [], rfl, ⟨Nat.zero_le _, by simp⟩, ⟨rfl, by rw [List.drop_zero, Nat.zero_add]⟩, rfl⟩) ?_ rfl rfl
    repeat' first | exact trivial | refine mL_nil rfl ?_ | refine mL_d rfl ?_ ?_ | refine mL_own rfl rfl ?_ rfl ?_ | refine mL_row rfl ?_ ?_ | refine mL_pt rfl rfl rfl rfl ?_ | refine mL_box rfl ?_ ?_ | refine mL_agg rfl ?_ ?_ | exact mCs_nil0 | refine mCs_d ?_ ?_ | refine mCs_nil ?_ | refine mCs_own rfl ?_ rfl ?_ | refine mCs_pt rfl rfl rfl ?_
    all_goals first | with_reducible rfl | (first | with_reducible rfl | rfl)
  rintro n s ⟨a, o, rfl, ha, hr, rfl⟩
  refine SW.seq ?_
  refine SW.seq ?_
  refine SW.regT tabOk [0, 4, 5, 12] ?_
  refine ai trivial (ai trivial (ai vc (ai trivial ?_)))
  refine SW.cond rfl (fun c12 => ?_) (fun c12 => ?_)
  · skip
    have ha2 : a < s.length := by simpa using c12
    refine SW.skip ?_
    refine SW.block ?_
    refine SW.seq ?_
    refine SW.regT tabOk [0, 4, 5, 6, 7] ?_
    refine ai trivial (ai trivial (ai (by simp [bnd, loOf, hiOf]; omega) ?_))
    refine ex_pure (s_spec_l11One (s.drop a) (by rw [List.length_drop]; omega)) rfl rfl rfl rfl rfl (by show _ = argSt 0 [Dv (.s (List.drop ((a : Int)).toNat (List.take s.length s)))]; rw [Int.toNat_natCast, List.take_length]; rfl) rfl rfl ?_
    refine ai trivial (ai trivial (ai trivial (ai trivial (ai trivial ?_))))
    refine SW.seq ?_
    refine SW.seq ?_
    refine SW.regT tabOk [0, 4, 5, 6, 7, 21] ?_
    refine ai trivial (ai trivial ?_)
    refine SW.cond rfl (fun c21 => ?_) (fun c21 => ?_)
    · skip
      have hz : recAt (s.drop a) = none := by
        refine recN_zero.1 ?_
        have h9 : ((recN (s.drop a) : Nat) : Int) = 0 := by simpa using c21
        omega
      rw [shelfRead_stop hz, List.append_nil, Nat.add_zero] at hr
      refine SW.seq ?_
      refine SW.regT tabOk [2, 3] ?_
      refine ai trivial (ai trivial (ai trivial (ai trivial ?_)))
      refine SW.ret ?_
      rw [← hr.1, ← hr.2]
      exact retOk _ [(0, 8)] [] rfl ⟨⟨_, rfl, ⟨rfl, rfl, _, _, _, rfl⟩, rfl, trivial⟩, mL_row rfl rfl trivial⟩ rfl rfl
    · skip
      obtain ⟨r, n, hra⟩ : ∃ r n, recAt (s.drop a) = some (r, n) := by
        cases h : recAt (s.drop a) with
        | none =>
          rw [recN_zero.2 h] at c21
          exact absurd c21 (by decide)
        | some p => exact ⟨p.1, p.2, rfl⟩
      have hS : recS (s.drop a) = r := by rw [recS, hra]
      have hN : recN (s.drop a) = n := by rw [recN, hra]
      have hrs := recAt_spec hra
      rw [List.length_drop] at hrs
      refine SW.skip ?_
      refine SW.seq ?_
      refine SW.regT tabOk [0, 4, 5, 7] ?_
      refine ai trivial (ai trivial (ai vc (ai (by refine ⟨rfl, strRows_length _, by simp, ?_⟩; show (_ + 1) * 16 ≤ _; omega) (ai trivial ?_))))
      refine SW.regT tabOk [0, 4, 5] ?_
      refine ai trivial (ai trivial (ai trivial (ai trivial ?_)))
      have hstep := shelfRead_step hra
      rw [List.drop_drop] at hstep
      rw [hstep] at hr
      refine wk [(.t 0, .v (Dv (.s s))), (.t 4, .v (.e (.c (.own 8 (o ++ [r]).length)))), (.t 5, .v (I ((a + n) : Nat))), (.o 8, .row 9 1 (strRows (o ++ [r])))] [] [] (⟨s.length - (a + n), by omega, a + n, o ++ [r], rfl, ⟨by omega, by rw [List.length_append]; simp; omega⟩, ⟨by rw [← hr.1, List.append_assoc]; rfl, by rw [← hr.2]; simp only; omega⟩, rfl⟩) ?_ rfl rfl
      repeat' first | exact trivial | refine mL_nil rfl ?_ | refine mL_d rfl ?_ ?_ | refine mL_own rfl rfl ?_ rfl ?_ | refine mL_row rfl ?_ ?_ | refine mL_pt rfl rfl rfl rfl ?_ | refine mL_box rfl ?_ ?_ | refine mL_agg rfl ?_ ?_ | exact mCs_nil0 | refine mCs_d ?_ ?_ | refine mCs_nil ?_ | refine mCs_own rfl ?_ rfl ?_ | refine mCs_pt rfl rfl rfl ?_
      all_goals first | with_reducible rfl | (first | with_reducible rfl | (rw [List.length_append]; done) | (refine congrArg D.i ?_; rw [hN, wrap64_of (by omega)]; omega) | (rw [hS]; exact strRows_push _ _) | (simp [strRows_length]; done))
  · skip
    have ha3 : a = s.length := by simp at c12; omega
    have hd0 : s.drop a = [] := by rw [ha3]; exact List.drop_length
    rw [hd0, shelfRead_stop recAt_nil, List.append_nil, Nat.add_zero] at hr
    refine SW.exit ?_
    refine SW.seq ?_
    refine SW.regT tabOk [2, 3] ?_
    refine ai trivial (ai trivial (ai trivial (ai trivial ?_)))
    refine SW.ret ?_
    rw [← hr.1, ← hr.2]
    exact retOk _ [(0, 8)] [] rfl ⟨⟨_, rfl, ⟨rfl, rfl, _, _, _, rfl⟩, rfl, trivial⟩, mL_row rfl rfl trivial⟩ rfl rfl

end Go.Proofs.YtilahgkblckndaaGreatDoor

namespace Go.Ab
open Go Go.RowKit
set_option linter.unusedVariables false

def natN (t : List UInt8) : Int := match natV t with | some n => (n : Int) | none => 0
theorem natN_range (t : List UInt8) : 0 ≤ natN t ∧ natN t ≤ 99999 := by
  unfold natN natV
  split
  · rename_i n h
    split at h
    · rename_i hc
      cases h
      have h1 := figV_lt t.length t rfl (List.all_eq_true.1 hc.2.2)
      have h2 : 10 ^ t.length ≤ 10 ^ 5 := Nat.pow_le_pow_right (by decide) hc.1.2
      have h3 : (10 : Nat) ^ 5 = 100000 := rfl
      omega
    · cases h
  · omega
theorem cut_eq (s : List UInt8) (a i : Nat) : (s.take (a + i)).drop a = (s.drop a).take i := by
  rw [List.drop_take]; congr 1; omega
theorem drop_getD (s : List UInt8) (a j : Nat) : (s.drop a).getD j 0 = s.getD (a + j) 0 := by
  rw [List.getD_eq_getElem?_getD, List.getD_eq_getElem?_getD, List.getElem?_drop]
theorem three_big {t : List UInt8} (h3 : t.length = 3) {n : Nat} (h : natV t = some n) : 100 ≤ n := by
  unfold natV at h
  split at h
  · rename_i hc
    cases h
    match t, h3 with
    | [x, y, z], _ =>
      have hd := List.all_eq_true.1 hc.2.2
      have hx := hd x (by simp)
      simp only [isDigit, Bool.and_eq_true, decide_eq_true_eq] at hx
      have hx0 : x ≠ 48 := fun e => hc.2.1 ⟨e, by simp⟩
      have hx1 : x.toNat ≠ 48 := fun e => hx0 (UInt8.toNat_inj.1 e)
      show 100 ≤ ((0 * 10 + (x.toNat - 48)) * 10 + (y.toNat - 48)) * 10 + (z.toNat - 48)
      omega
  · cases h
section
variable {s : List UInt8} {a c : Nat}
theorem rec_none_noColon (hk : ∀ j, a ≤ j → j < c → s.getD j 0 ≠ 58) (h : s.length ≤ c ∨ a + 3 ≤ c) : recAt (s.drop a) = none := by
  refine recAt_noColon (colonAt_none fun j h3 hj => ?_)
  rw [List.length_drop] at hj
  rw [drop_getD]
  exact hk (a + j) (by omega) (by omega)
theorem rec_col (ha : a ≤ c) (hk : ∀ j, a ≤ j → j < c → s.getD j 0 ≠ 58) (h3 : c < a + 3) (hc : c < s.length) (h58 : s.getD c 0 = 58) : colonAt (s.drop a) = some (c - a) := by
  refine colonAt_of (by omega) (by rw [List.length_drop]; omega) (by rw [drop_getD, show a + (c - a) = c by omega]; exact h58) fun j hj => ?_
  rw [drop_getD]
  exact hk (a + j) (by omega) (by omega)
def implOk (s : List UInt8) (a c : Nat) : Prop := ∃ n, natV ((s.take c).drop a) = some n ∧ 1 ≤ n ∧ n ≤ 60 ∧ c + 1 + n < s.length ∧ s.getD (c + 1 + n) 0 = 59
theorem rec_impl (ha : a ≤ c) (hk : ∀ j, a ≤ j → j < c → s.getD j 0 ≠ 58) (h3 : c ≤ a + 3) (hc : c < s.length) (h58 : s.getD c 0 = 58) :
    (¬ implOk s a c → recAt (s.drop a) = none) ∧ (∀ n, natV ((s.take c).drop a) = some n → 1 ≤ n → n ≤ 60 → c + 1 + n < s.length → s.getD (c + 1 + n) 0 = 59 → recAt (s.drop a) = some ((s.take (c + 1 + n)).drop (c + 1), c + 2 + n - a)) := by
  have hcut : (s.take c).drop a = (s.drop a).take (c - a) := by rw [← cut_eq, show a + (c - a) = c by omega]
  have hlen : ((s.take c).drop a).length = c - a := by rw [List.length_drop, List.length_take]; omega
  by_cases h4 : c = a + 3
  · have hno : recAt (s.drop a) = none := rec_none_noColon hk (.inr (by omega))
    refine ⟨fun _ => hno, fun n h1 h2 h5 h6 h7 => ?_⟩
    have := three_big (by rw [hlen]; omega) h1
    omega
  · have hcol := rec_col ha hk (by omega) hc h58
    have key : ∀ n, natV ((s.take c).drop a) = some n → 1 ≤ n → n ≤ 60 → c + 1 + n < s.length → s.getD (c + 1 + n) 0 = 59 → recAt (s.drop a) = some ((s.take (c + 1 + n)).drop (c + 1), c + 2 + n - a) := by
      intro n h1 h2 h5 h6 h7
      unfold recAt
      rw [hcol]
      simp only
      rw [← hcut, h1]
      simp only
      rw [if_pos ⟨h2, h5, by rw [List.length_drop]; omega, by rw [drop_getD, show a + (c - a + 1 + n) = c + 1 + n by omega]; exact h7⟩]
      congr 2
      · rw [← cut_eq, List.drop_drop, show a + (c - a + 1 + n) = c + 1 + n by omega, show a + (c - a + 1) = c + 1 by omega]
      · omega
    refine ⟨fun hno => ?_, key⟩
    unfold recAt
    rw [hcol]
    simp only
    rw [← hcut]
    cases hn : natV ((s.take c).drop a) with
    | none => rfl
    | some n =>
      simp only
      rw [if_neg]
      rintro ⟨h1, h2, h5, h6⟩
      rw [List.length_drop] at h5
      rw [drop_getD, show a + (c - a + 1 + n) = c + 1 + n by omega] at h6
      exact hno ⟨n, hn, h1, h2, by omega, h6⟩
end
end Go.Ab

namespace Go.Proofs.YtilahgkblckndaaGreatDoor
open Go Go.Ab Go.RowKit
set_option linter.unusedVariables false
set_option linter.unusedSimpArgs false

theorem s_copied_S (l : List (List UInt8)) (hl : l.length ≤ 1000000) : Ab.Spec Tryz.prog 127 1 [(.t 0, .v (Dv (.sl (strRows l))))] [(.t 0, .v (.e (.c (.own 0 l.length)))), (.o 0, .row 9 1 (strRows (l)))] := by
  refine spec_of_body tabOk Tryz.func127 rfl (by kernel_rfl) (by decide) (by kernel_rfl) rfl ?_
  refine SW.seq ?_
  refine SW.regT tabOk [0] ?_
  refine ai trivial ?_
  refine SW.seq ?_
  refine SW.seq ?_
  refine SW.regT tabOk [0, 6] ?_
  refine ai trivial (ai vc (ai trivial ?_))
  refine SW.cond rfl (fun c6 => ?_) (fun c6 => ?_)
  · skip
    refine SW.seq ?_
    refine SW.regT tabOk [2] ?_
    refine ai trivial ?_
    refine SW.nilOwn 2 0 9 1 rfl rfl ?_
    refine SW.ret ?_
    refine retOk _ [] [] rfl ?_ rfl rfl
    repeat' first | exact trivial | refine mL_nil rfl ?_ | refine mL_d rfl ?_ ?_ | refine mL_own rfl rfl ?_ rfl ?_ | refine mL_row rfl ?_ ?_ | refine mL_pt rfl rfl rfl rfl ?_ | refine mL_box rfl ?_ ?_ | refine mL_agg rfl ?_ ?_ | exact mCs_nil0 | refine mCs_d ?_ ?_ | refine mCs_nil ?_ | refine mCs_own rfl ?_ rfl ?_ | refine mCs_pt rfl rfl rfl ?_
    all_goals (simp [strRows_length] at c6; simp [c6, strRows])
  · skip
    refine SW.skip ?_
    refine SW.seq ?_
    refine SW.regT tabOk [0, 3] ?_
    refine ai trivial (ai vc (ai (by refine ⟨rfl, by omega, ?_⟩; rw [strRows_length]; show ((16 : Nat) : Int) * _ ≤ _; omega) (ai trivial ?_)))
    refine SW.seq ?_
    refine SW.regT tabOk [3] ?_
    refine ai trivial (ai trivial (ai (by refine ⟨trivial, by simp, strRows_len1 l⟩) ?_))
    refine SW.seq ?_
    refine SW.regT tabOk [2] ?_
    refine ai trivial (ai trivial ?_)
    refine SW.ret ?_
    refine retOk _ [(0, 9)] [] rfl ?_ rfl rfl
    repeat' first | exact trivial | refine mL_nil rfl ?_ | refine mL_d rfl ?_ ?_ | refine mL_own rfl rfl ?_ rfl ?_ | refine mL_row rfl ?_ ?_ | refine mL_pt rfl rfl rfl rfl ?_ | refine mL_box rfl ?_ ?_ | refine mL_agg rfl ?_ ?_ | exact mCs_nil0 | refine mCs_d ?_ ?_ | refine mCs_nil ?_ | refine mCs_own rfl ?_ rfl ?_ | refine mCs_pt rfl rfl rfl ?_
    all_goals first | (simp [strRows_length]; done) | (simp; done)

theorem pk3 {p : Prop} (h : p := by constructor <;> intro h <;> first | (simp only [gb, condOf]; done) | (simpa only [gb, condOf] using h) | (simp only [gb, condOf] at h ⊢; first | (simp; done) | (simpa using h)) | (simpa [gb, condOf] using h)) : p := h
theorem sc_strs (o : List (List UInt8)) : scalarSt [(.t 0, .v (.e (.c (.own 0 o.length)))), (.o 0, .row 9 1 (strRows (o)))] := by
  intro p hp
  simp at hp
  rcases hp with rfl | rfl
  · trivial
  · intro r hr d hd
    obtain ⟨x, _, rfl⟩ := List.mem_map.1 hr
    simp at hd; subst hd; trivial
set_option maxHeartbeats 1600000 in
theorem s_impl_ShelfRead (s : List UInt8) (hl : s.length ≤ 1000000) : Ab.Spec Tryz.prog 155 1 [(.t 0, .v (Dv (.s s)))] [(.t 0, .v (.tup [.c (.own 0 (shelfRead s).1.length), .c (.d (.i ((shelfRead s).2 : Nat)))])), (.o 0, .row 9 1 (strRows (shelfRead s).1))] := by
  refine spec_of_body tabOk Tryz.func155 rfl (by kernel_rfl) (by decide) (by kernel_rfl) rfl ?_
  refine SW.seq ?_
  refine SW.regT tabOk [0, 20, 21, 22, 23, 26, 27, 28, 29, 38, 39, 40, 41, 58, 59, 60, 63, 64, 65, 66, 69, 70, 71, 72] ?_
  refine ai trivial (ai trivial ?_)
  refine SW.seq ?_
  refine SW.regT tabOk [0, 4, 20, 21, 22, 23, 26, 27, 28, 29, 38, 39, 40, 41, 58, 59, 60, 63, 64, 65, 66, 69, 70, 71, 72] ?_
  refine ai trivial ?_
  refine SW.seq ?_
  refine SW.regT tabOk [0, 4, 5, 20, 21, 22, 23, 26, 27, 28, 29, 38, 39, 40, 41, 58, 59, 60, 63, 64, 65, 66, 69, 70, 71, 72] ?_
  refine ai trivial ?_
  refine SW.seq ?_
  refine SW.block ?_
  -- live at the head: [0, 4, 5, 20, 21, 22, 23, 26, 27, 28, 29, 38, 39, 40, 41, 58, 59, 60, 63, 64, 65, 66, 69, 70, 71, 72]
  refine SW.nilOwn 4 8 9 1 rfl rfl ?_
  refine SW.loopW (n := s.length) (fun m q => ∃ (a : Nat) (o : List (List UInt8)), m = s.length - a ∧ (a ≤ s.length ∧ o.length ≤ a) ∧ (o ++ (shelfRead (s.drop a)).1 = (shelfRead s).1 ∧ a + (shelfRead (s.drop a)).2 = (shelfRead s).2) ∧ q = [(.t 0, .v (Dv (.s s))), (.t 4, .v (.e (.c (.own 8 (o).length)))), (.t 5, .v (I (a : Nat))), (.o 8, .row 9 1 (strRows (o)))]) ?_ ?_
  · skip
    refine wk [(.t 0, .v (Dv (.s s))), (.t 4, .v (.e (.c (.own 8 ([]).length)))), (.t 5, .v (I (0 : Nat))), (.o 8, .row 9 1 (strRows ([])))] [] [] (⟨0, [], rfl, ⟨Nat.zero_le _, by simp⟩, ⟨rfl, by rw [List.drop_zero, Nat.zero_add]⟩, rfl⟩) ?_ rfl rfl
    repeat' first | exact trivial | refine mL_nil rfl ?_ | refine mL_d rfl ?_ ?_ | refine mL_own rfl rfl ?_ rfl ?_ | refine mL_row rfl ?_ ?_ | refine mL_pt rfl rfl rfl rfl ?_ | refine mL_box rfl ?_ ?_ | refine mL_agg rfl ?_ ?_ | exact mCs_nil0 | refine mCs_d ?_ ?_ | refine mCs_nil ?_ | refine mCs_own rfl ?_ rfl ?_ | refine mCs_pt rfl rfl rfl ?_
    all_goals first | with_reducible rfl | (first | with_reducible rfl | rfl)
  rintro n s ⟨a, o, rfl, ha, hr, rfl⟩
  refine SW.seq ?_
  refine SW.seq ?_
  refine SW.regT tabOk [0, 4, 5, 13, 20, 21, 22, 23, 26, 27, 28, 29, 38, 39, 40, 41, 58, 59, 60, 63, 64, 65, 66, 69, 70, 71, 72] ?_
  refine ai trivial (ai trivial (ai vc (ai trivial ?_)))
  refine SW.cond rfl (fun c13 => ?_) (fun c13 => ?_)
  · skip
    have ha2 : a < s.length := by simpa using c13
    refine SW.skip ?_
    refine SW.block ?_
    refine SW.seq ?_
    refine SW.regT tabOk [0, 4, 5, 6, 20, 21, 22, 23, 26, 27, 28, 29, 38, 39, 40, 41, 58, 59, 60, 63, 64, 65, 66, 69, 70, 71, 72] ?_
    refine ai trivial (ai trivial ?_)
    refine SW.seq ?_
    refine SW.block ?_
    -- live at the head: [0, 4, 5, 6, 20, 21, 22, 23, 26, 27, 28, 29, 38, 39, 40, 41, 58, 59, 60, 63, 64, 65, 66, 69, 70, 71, 72]
    refine SW.loopW (n := 3) (fun m q => ∃ c : Nat, m = a + 3 - c ∧ (a ≤ c ∧ c ≤ a + 3 ∧ c ≤ s.length) ∧ (∀ j, a ≤ j → j < c → s.getD j 0 ≠ 58) ∧ q = [(.t 0, .v (Dv (.s s))), (.t 4, .v (.e (.c (.own 8 (o).length)))), (.t 5, .v (I (a : Nat))), (.t 6, .v (I (c : Nat))), (.o 8, .row 9 1 (strRows (o)))]) ?_ ?_
    · skip
      refine wk [(.t 0, .v (Dv (.s s))), (.t 4, .v (.e (.c (.own 8 (o).length)))), (.t 5, .v (I (a : Nat))), (.t 6, .v (I (a : Nat))), (.o 8, .row 9 1 (strRows (o)))] [] [] (⟨a, by omega, by omega, fun j h1 h2 => absurd h1 (by omega), rfl⟩) ?_ rfl rfl
      repeat' first | exact trivial | refine mL_nil rfl ?_ | refine mL_d rfl ?_ ?_ | refine mL_own rfl rfl ?_ rfl ?_ | refine mL_row rfl ?_ ?_ | refine mL_pt rfl rfl rfl rfl ?_ | refine mL_box rfl ?_ ?_ | refine mL_agg rfl ?_ ?_ | exact mCs_nil0 | refine mCs_d ?_ ?_ | refine mCs_nil ?_ | refine mCs_own rfl ?_ rfl ?_ | refine mCs_pt rfl rfl rfl ?_
      all_goals first | with_reducible rfl | (first | rfl | (simp; done) | omega)
    rintro n s ⟨c, rfl, hc, hk, rfl⟩
    refine SW.seq ?_
    refine SW.seq ?_
    refine SW.regT tabOk [0, 4, 5, 6, 20, 21, 22, 23, 26, 27, 28, 29, 30, 38, 39, 40, 41, 58, 59, 60, 63, 64, 65, 66, 69, 70, 71, 72] ?_
    refine ai trivial (ai trivial (ai vc (ai trivial (ai trivial (ai (fun h => trivial) (ai rk (ai (fun h => trivial) (ai rk (ai (fun h => trivial) (ai rk (ai (fun h => trivial) (ai rk (ai pk (ai trivial (ai (fun h => trivial) (ai rk (ai (fun h => trivial) (ai rk (ai (fun h => (by have h9 := h; simp only [gb, Bool.and_eq_true, decide_eq_true_eq] at h9; exact ⟨by omega, by omega⟩)) (ai rk (ai (fun h => trivial) (ai rk (ai pk ?_)))))))))))))))))))))))
    refine SW.cond rfl (fun c30 => ?_) (fun c30 => ?_)
    · skip
      refine SW.skip ?_
      refine SW.block ?_
      refine SW.regT tabOk [0, 4, 5, 6, 20, 21, 22, 23, 26, 27, 28, 29, 38, 39, 40, 41, 58, 59, 60, 63, 64, 65, 66, 69, 70, 71, 72] ?_
      refine ai trivial (ai trivial (ai trivial ?_))
      have hs : s.getD c 0 ≠ 58 := by
        have h9 := c30
        simp only [Bool.and_eq_true] at h9
        have h10 := h9.2
        rw [Int.toNat_natCast] at h10
        intro e
        rw [e] at h10
        exact absurd h10 (by decide)
      have hcl : c < s.length ∧ c < a + 3 := by
        have h9 := c30
        rw [wrap64_of (by omega)] at h9
        simp only [Bool.and_eq_true, decide_eq_true_eq] at h9
        omega
      refine wk [(.t 0, .v (Dv (.s s))), (.t 4, .v (.e (.c (.own 8 (o).length)))), (.t 5, .v (I (a : Nat))), (.t 6, .v (I ((c + 1) : Nat))), (.o 8, .row 9 1 (strRows (o)))] [] [] (⟨a + 3 - (c + 1), by omega, c + 1, rfl, by omega, fun j h1 h2 => by by_cases e : j = c; exact e ▸ hs; exact hk j h1 (by omega), rfl⟩) ?_ rfl rfl
      repeat' first | exact trivial | refine mL_nil rfl ?_ | refine mL_d rfl ?_ ?_ | refine mL_own rfl rfl ?_ rfl ?_ | refine mL_row rfl ?_ ?_ | refine mL_pt rfl rfl rfl rfl ?_ | refine mL_box rfl ?_ ?_ | refine mL_agg rfl ?_ ?_ | exact mCs_nil0 | refine mCs_d ?_ ?_ | refine mCs_nil ?_ | refine mCs_own rfl ?_ rfl ?_ | refine mCs_pt rfl rfl rfl ?_
      all_goals first | with_reducible rfl | (first | with_reducible rfl | exact congrArg D.i (wrap64_of (by omega)))
    · skip
      have hstop : s.length ≤ c ∨ a + 3 ≤ c ∨ s.getD c 0 = 58 := by
        have h9 := c30
        rw [wrap64_of (by omega), Int.toNat_natCast] at h9
        by_cases h1 : c < s.length
        · by_cases h2 : c < a + 3
          · rw [decide_eq_true (show (c : Int) < (s.length : Int) by omega), decide_eq_true (show (c : Int) < (a : Int) + 3 by omega)] at h9
            have h10 : ((s.getD c 0).toNat : Int) = 58 := by simpa only [Bool.true_and, bne_eq_false_iff_eq] using h9
            right; right
            apply UInt8.toNat_inj.1
            have h6 : (58 : UInt8).toNat = 58 := rfl
            omega
          · right; left; omega
        · left; omega
      refine SW.exit ?_
      refine SW.seq ?_
      refine SW.seq ?_
      refine SW.regT tabOk [0, 4, 5, 6, 20, 21, 22, 23, 26, 27, 28, 29, 38, 39, 40, 41, 42, 58, 59, 60, 63, 64, 65, 66, 69, 70, 71, 72] ?_
      refine ai trivial (ai trivial (ai vc (ai trivial (ai trivial (ai (fun h => trivial) (ai rk (ai (fun h => trivial) (ai rk (ai (fun h => (by have h9 := h; simp only [gb, Bool.not_eq_true', decide_eq_false_iff_not] at h9; exact ⟨by omega, by omega⟩)) (ai rk (ai (fun h => trivial) (ai rk (ai pk ?_)))))))))))))
      refine SW.cond rfl (fun c42 => ?_) (fun c42 => ?_)
      · skip
        have hz : recAt (s.drop a) = none := by
          refine rec_none_noColon hk ?_
          by_cases h1 : c < s.length
          · rcases hstop with h | h | h
            · exact .inl h
            · exact .inr h
            · exfalso
              have h9 := c42
              rw [Int.toNat_natCast, h, decide_eq_false (show ¬ ((c : Int) ≥ (s.length : Int)) by omega)] at h9
              exact absurd h9 (by decide)
          · exact .inl (by omega)
        rw [shelfRead_stop hz, List.append_nil, Nat.add_zero] at hr
        refine SW.exit ?_
        refine SW.seq ?_
        refine SW.regT tabOk [2, 3] ?_
        refine ai trivial ?_
        refine ex_call (robj := [(8, .row 9 1 (strRows o))]) (rl := [(0, 85)]) (bor := [8]) (s_copied_S o (by omega)) rfl rfl rfl rfl ⟨mL_froze rfl rfl rfl (strRows_length _) rfl trivial, rfl⟩ rfl (.inr (sc_strs o)) (robjOk_spec ⟨rfl, trivial⟩) (fun j hj => by (obtain rfl : j = 0 := by simpa [newIds, objIds, memN] using hj); rfl) ?_
        refine ai trivial (ai trivial (ai trivial ?_))
        refine SW.ret ?_
        rw [← hr.1, ← hr.2]
        exact retOk _ [(0, 85)] [] rfl ⟨⟨_, rfl, ⟨rfl, rfl, _, _, _, rfl⟩, rfl, trivial⟩, mL_row rfl rfl trivial⟩ rfl rfl
      · skip
        have hcl : c < s.length := by
          have h9 := c42
          simp only [Bool.or_eq_false_iff, decide_eq_false_iff_not] at h9
          omega
        have h58 : s.getD c 0 = 58 := by
          have h9 := c42
          simp only [Bool.or_eq_false_iff, decide_eq_false_iff_not] at h9
          have h10 := h9.2
          rw [Int.toNat_natCast] at h10
          have h11 : ((s.getD c 0).toNat : Int) = 58 := by simpa only [bne_eq_false_iff_eq] using h10
          apply UInt8.toNat_inj.1
          have h6 : (58 : UInt8).toNat = 58 := rfl
          omega
        obtain ⟨himp1, himp2⟩ := rec_impl hc.1 hk hc.2.1 hcl h58
        have hN := natN_range ((s.take c).drop a)
        have hw1 : wrap64 ((c : Int) + 1) = ((c + 1 : Nat) : Int) := by rw [wrap64_of (by omega)]; omega
        have hw2 : wrap64 (((c + 1 : Nat) : Int) + natN ((s.take c).drop a)) = ((c + 1 + (natN ((s.take c).drop a)).toNat : Nat) : Int) := by rw [wrap64_of (by omega)]; omega
        refine SW.skip ?_
        refine SW.seq ?_
        refine SW.regT tabOk [0, 4, 5, 6, 7, 8, 20, 21, 22, 23, 26, 27, 28, 29, 38, 39, 40, 41, 58, 59, 60, 63, 64, 65, 66, 69, 70, 71, 72] ?_
        refine ai trivial (ai trivial (ai trivial (ai (by simp [bnd, loOf, hiOf]; omega) ?_)))
        refine ex_pure (s_impl_natural ((s.take c).drop a) (by rw [List.length_drop, List.length_take]; omega)) rfl rfl rfl rfl rfl rfl rfl rfl ?_
        refine ai trivial (ai trivial (ai trivial (ai trivial (ai trivial ?_))))
        refine SW.seq ?_
        refine SW.regT tabOk [0, 4, 5, 6, 7, 8, 9, 20, 21, 22, 23, 26, 27, 28, 29, 38, 39, 40, 41, 58, 59, 60, 63, 64, 65, 66, 69, 70, 71, 72] ?_
        refine ai trivial (ai trivial (ai trivial (ai trivial (ai trivial ?_))))
        refine SW.seq ?_
        refine SW.seq ?_
        refine SW.wk (J := fun q => q = [(.t 0, .v (Dv (.s s))), (.t 4, .v (.e (.c (.own 8 (o).length)))), (.t 5, .v (I (a : Nat))), (.t 6, .v (I (c : Nat))), (.t 7, .v (I (natN ((s.take c).drop a)))), (.t 8, .v (B (natV ((s.take c).drop a)).isSome)), (.t 9, .v (I (c + 1 + (natN ((s.take c).drop a)).toNat : Nat))), (.o 8, .row 9 1 (strRows (o)))]) ?_ ?_
        · skip
          refine wk [(.t 0, .v (Dv (.s s))), (.t 4, .v (.e (.c (.own 8 (o).length)))), (.t 5, .v (I (a : Nat))), (.t 6, .v (I (c : Nat))), (.t 7, .v (I (natN ((s.take c).drop a)))), (.t 8, .v (B (natV ((s.take c).drop a)).isSome)), (.t 9, .v (I (c + 1 + (natN ((s.take c).drop a)).toNat : Nat))), (.o 8, .row 9 1 (strRows (o)))] [] [] (rfl) ?_ rfl rfl
          repeat' first | exact trivial | refine mL_nil rfl ?_ | refine mL_d rfl ?_ ?_ | refine mL_own rfl rfl ?_ rfl ?_ | refine mL_row rfl ?_ ?_ | refine mL_pt rfl rfl rfl rfl ?_ | refine mL_box rfl ?_ ?_ | refine mL_agg rfl ?_ ?_ | exact mCs_nil0 | refine mCs_d ?_ ?_ | refine mCs_nil ?_ | refine mCs_own rfl ?_ rfl ?_ | refine mCs_pt rfl rfl rfl ?_
          all_goals first | with_reducible rfl | (first | with_reducible rfl | (rw [hw1]; exact congrArg D.i hw2) | (unfold natN; rfl))
        rintro q rfl
        refine SW.regT tabOk [0, 4, 5, 6, 9, 20, 21, 22, 23, 26, 27, 28, 29, 38, 39, 40, 41, 58, 59, 60, 63, 64, 65, 66, 69, 70, 71, 72, 73] ?_
        refine ai trivial (ai trivial (ai trivial (ai (fun h => trivial) (ai rk ?_))))
        refine exc_pure (fun h => (s_impl_in _ _ _)) rfl rfl rfl rfl rfl rfl rfl rfl rk ?_
        refine ai (fun h => trivial) (ai rk (ai pk3 (ai trivial (ai (fun h => trivial) (ai rk (ai (fun h => trivial) (ai rk (ai (fun h => vc) (ai rk (ai (fun h => trivial) (ai rk (ai pk3 (ai trivial (ai (fun h => trivial) (ai rk (ai (fun h => trivial) (ai rk (ai (fun h => (by have h9 := h; simp only [gb, Bool.not_eq_true', Bool.or_eq_false_iff, decide_eq_false_iff_not] at h9; exact ⟨by omega, by omega⟩)) (ai rk (ai (fun h => trivial) (ai rk (ai pk3 ?_))))))))))))))))))))))
        refine SW.cond rfl (fun c73 => ?_) (fun c73 => ?_)
        · skip
          have hz : recAt (s.drop a) = none := by
            refine himp1 ?_
            rintro ⟨n, h1, h2, h3, h4, h5⟩
            have hNn : natN ((s.take c).drop a) = n := by rw [natN, h1]
            have h9 := c73
            rw [hNn, h1, Int.toNat_natCast, Int.toNat_natCast, h5] at h9
            simp only [inB, decide_eq_true (show (1 : Int) ≤ (n : Int) by omega), decide_eq_true (show (n : Int) ≤ 60 by omega), decide_eq_false (show ¬ (((c + 1 + n : Nat) : Int) ≥ (s.length : Int)) by omega)] at h9
            simp at h9
          rw [shelfRead_stop hz, List.append_nil, Nat.add_zero] at hr
          refine SW.exit ?_
          refine SW.seq ?_
          refine SW.regT tabOk [2, 3] ?_
          refine ai trivial ?_
          refine ex_call (robj := [(8, .row 9 1 (strRows o))]) (rl := [(0, 85)]) (bor := [8]) (s_copied_S o (by omega)) rfl rfl rfl rfl ⟨mL_froze rfl rfl rfl (strRows_length _) rfl trivial, rfl⟩ rfl (.inr (sc_strs o)) (robjOk_spec ⟨rfl, trivial⟩) (fun j hj => by (obtain rfl : j = 0 := by simpa [newIds, objIds, memN] using hj); rfl) ?_
          refine ai trivial (ai trivial (ai trivial ?_))
          refine SW.ret ?_
          rw [← hr.1, ← hr.2]
          exact retOk _ [(0, 85)] [] rfl ⟨⟨_, rfl, ⟨rfl, rfl, _, _, _, rfl⟩, rfl, trivial⟩, mL_row rfl rfl trivial⟩ rfl rfl
        · skip
          have h9 := c73
          simp only [Bool.or_eq_false_iff, decide_eq_false_iff_not, Bool.not_eq_false, Bool.not_eq_eq_eq_not, Bool.not_false] at h9
          obtain ⟨⟨⟨g1, g2⟩, g3⟩, g4⟩ := h9
          obtain ⟨n, hn⟩ := Option.isSome_iff_exists.1 g1
          have hNn : natN ((s.take c).drop a) = n := by rw [natN, hn]
          rw [hNn] at g2 g3 g4
          rw [Int.toNat_natCast] at g3 g4
          simp only [inB, Bool.and_eq_true, decide_eq_true_eq] at g2
          have h59 : s.getD (c + 1 + n) 0 = 59 := by
            rw [Int.toNat_natCast] at g4
            have h11 : ((s.getD (c + 1 + n) 0).toNat : Int) = 59 := by simpa only [bne_eq_false_iff_eq] using g4
            apply UInt8.toNat_inj.1
            have h6 : (59 : UInt8).toNat = 59 := rfl
            omega
          have hra := himp2 n hn (by omega) (by omega) (by omega) h59
          refine SW.skip ?_
          refine SW.seq ?_
          refine SW.regT tabOk [0, 4, 9, 20, 21, 22, 23, 26, 27, 28, 29, 38, 39, 40, 41, 58, 59, 60, 63, 64, 65, 66, 69, 70, 71, 72] ?_
          refine ai trivial (ai trivial (ai trivial (ai trivial (ai trivial (ai (by rw [hw1, hNn, Int.toNat_natCast]; simp [bnd, loOf, hiOf]; omega) (ai (by exact ⟨by simp, Nat.le_of_ble_eq_true rfl⟩) (ai (by refine ⟨rfl, strRows_length _, by simp, ?_⟩; show (_ + 1) * 16 ≤ _; omega) (ai trivial ?_))))))))
          refine SW.regT tabOk [0, 4, 5, 20, 21, 22, 23, 26, 27, 28, 29, 38, 39, 40, 41, 58, 59, 60, 63, 64, 65, 66, 69, 70, 71, 72] ?_
          refine ai trivial (ai trivial (ai trivial ?_))
          have hstep := shelfRead_step hra
          rw [List.drop_drop, show a + (c + 2 + n - a) = c + 2 + n by omega] at hstep
          rw [hstep] at hr
          refine wk [(.t 0, .v (Dv (.s s))), (.t 4, .v (.e (.c (.own 8 (o ++ [(s.take (c + 1 + n)).drop (c + 1)]).length)))), (.t 5, .v (I ((c + 2 + n) : Nat))), (.o 8, .row 9 1 (strRows (o ++ [(s.take (c + 1 + n)).drop (c + 1)])))] [] [] (⟨s.length - (c + 2 + n), by omega, c + 2 + n, o ++ [(s.take (c + 1 + n)).drop (c + 1)], rfl, ⟨by omega, by rw [List.length_append]; simp; omega⟩, ⟨by rw [← hr.1, List.append_assoc]; rfl, by rw [← hr.2]; simp only; omega⟩, rfl⟩) ?_ rfl rfl
          repeat' first | exact trivial | refine mL_nil rfl ?_ | refine mL_d rfl ?_ ?_ | refine mL_own rfl rfl ?_ rfl ?_ | refine mL_row rfl ?_ ?_ | refine mL_pt rfl rfl rfl rfl ?_ | refine mL_box rfl ?_ ?_ | refine mL_agg rfl ?_ ?_ | exact mCs_nil0 | refine mCs_d ?_ ?_ | refine mCs_nil ?_ | refine mCs_own rfl ?_ rfl ?_ | refine mCs_pt rfl rfl rfl ?_
          all_goals first | with_reducible rfl | (first | with_reducible rfl | (rw [List.length_append]; done) | (refine congrArg D.i ?_; rw [hNn, wrap64_of (by omega)]; omega) | (rw [hw1, hNn]; exact strRows_push _ _) | (simp [strRows_length]; done))
  · skip
    have ha3 : a = s.length := by simp at c13; omega
    have hd0 : s.drop a = [] := by rw [ha3]; exact List.drop_length
    rw [hd0, shelfRead_stop recAt_nil, List.append_nil, Nat.add_zero] at hr
    refine SW.exit ?_
    refine SW.seq ?_
    refine SW.regT tabOk [2, 3] ?_
    refine ai trivial ?_
    refine ex_call (robj := [(8, .row 9 1 (strRows o))]) (rl := [(0, 85)]) (bor := [8]) (s_copied_S o (by omega)) rfl rfl rfl rfl ⟨mL_froze rfl rfl rfl (strRows_length _) rfl trivial, rfl⟩ rfl (.inr (sc_strs o)) (robjOk_spec ⟨rfl, trivial⟩) (fun j hj => by (obtain rfl : j = 0 := by simpa [newIds, objIds, memN] using hj); rfl) ?_
    refine ai trivial (ai trivial (ai trivial ?_))
    refine SW.ret ?_
    rw [← hr.1, ← hr.2]
    exact retOk _ [(0, 85)] [] rfl ⟨⟨_, rfl, ⟨rfl, rfl, _, _, _, rfl⟩, rfl, trivial⟩, mL_row rfl rfl trivial⟩ rfl rfl

end Go.Proofs.YtilahgkblckndaaGreatDoor

namespace Go.Proofs
open Go.Shelf
def Tryz.laysM171_ren : Go.Shelf.Ren := ⟨fun | 171 => 84 | 243 => 134 | 246 => 172 | 283 => 197 | 284 => 198 | 285 => 199 | 286 => 200 | 129 => 213 | 317 => 212 | 318 => 214 | 319 => 215 | 320 => 216 | 337 => 225 | 338 => 226 | n => n, fun | 3 => 3 | 9 => 9 | 2 => 2 | 4 => 4 | 171 => 215 | 0 => 0 | 53 => 216 | 37 => 167 | 5 => 5 | 173 => 219 | 212 => 234 | 51 => 235 | 20 => 20 | 213 => 236 | 46 => 237 | 232 => 245 | 233 => 246 | n => n, fun | 17 => 0 | 18 => 1 | 19 => 2 | n => n⟩
theorem Tryz.laysM171 : Go.Proofs.LaysM.n171 Tryz.prog Tryz.laysM171_ren := {
  mixed := by kernel_rfl
  f129 := Tryz.func213.trans (congrArg some (by kernel_rfl))
  f171 := Tryz.func84.trans (congrArg some (by kernel_rfl))
  f243 := Tryz.func134.trans (congrArg some (by kernel_rfl))
  f246 := Tryz.func172.trans (congrArg some (by kernel_rfl))
  f283 := Tryz.func197.trans (congrArg some (by kernel_rfl))
  f284 := Tryz.func198.trans (congrArg some (by kernel_rfl))
  f285 := Tryz.func199.trans (congrArg some (by kernel_rfl))
  f286 := Tryz.func200.trans (congrArg some (by kernel_rfl))
  f317 := Tryz.func212.trans (congrArg some (by kernel_rfl))
  f318 := Tryz.func214.trans (congrArg some (by kernel_rfl))
  f319 := Tryz.func215.trans (congrArg some (by kernel_rfl))
  f320 := Tryz.func216.trans (congrArg some (by kernel_rfl))
  f337 := Tryz.func225.trans (congrArg some (by kernel_rfl))
  f338 := Tryz.func226.trans (congrArg some (by kernel_rfl))
  t0 := Tryz.underlying0
  a0 := Tryz.isAgg0
  z0 := Tryz.sizeOf0
  v0 := Tryz.zeroValue0
  t2 := Tryz.underlying2
  a2 := Tryz.isAgg2
  z2 := Tryz.sizeOf2
  v2 := Tryz.zeroValue2
  t3 := Tryz.underlying3
  a3 := Tryz.isAgg3
  z3 := Tryz.sizeOf3
  v3 := Tryz.zeroValue3
  t4 := Tryz.underlying4
  a4 := Tryz.isAgg4
  z4 := Tryz.sizeOf4
  v4 := Tryz.zeroValue4
  t5 := Tryz.underlying5
  a5 := Tryz.isAgg5
  z5 := Tryz.sizeOf5
  v5 := Tryz.zeroValue5
  t9 := Tryz.underlying9
  a9 := Tryz.isAgg9
  z9 := Tryz.sizeOf9
  v9 := Tryz.zeroValue9
  t20 := Tryz.underlying20
  a20 := Tryz.isAgg20
  z20 := Tryz.sizeOf20
  v20 := Tryz.zeroValue20
  t37 := Tryz.underlying167
  a37 := Tryz.isAgg167
  z37 := Tryz.sizeOf167
  v37 := Tryz.zeroValue167
  t46 := Tryz.underlying237
  a46 := Tryz.isAgg237
  z46 := Tryz.sizeOf237
  v46 := Tryz.zeroValue237
  t51 := Tryz.underlying235
  a51 := Tryz.isAgg235
  z51 := Tryz.sizeOf235
  v51 := Tryz.zeroValue235
  t53 := Tryz.underlying216
  a53 := Tryz.isAgg216
  z53 := Tryz.sizeOf216
  v53 := Tryz.zeroValue216
  t171 := Tryz.underlying215
  a171 := Tryz.isAgg215
  z171 := Tryz.sizeOf215
  v171 := Tryz.zeroValue215
  t173 := Tryz.underlying219
  a173 := Tryz.isAgg219
  z173 := Tryz.sizeOf219
  v173 := Tryz.zeroValue219
  t212 := Tryz.underlying234
  a212 := Tryz.isAgg234
  z212 := Tryz.sizeOf234
  v212 := Tryz.zeroValue234
  t213 := Tryz.underlying236
  a213 := Tryz.isAgg236
  z213 := Tryz.sizeOf236
  t232 := Tryz.underlying245
  a232 := Tryz.isAgg245
  z232 := Tryz.sizeOf245
  v232 := Tryz.zeroValue245
  t233 := Tryz.underlying246
  a233 := Tryz.isAgg246
  z233 := Tryz.sizeOf246
  v233 := Tryz.zeroValue246
  g17 := by kernel_rfl
  g18 := by kernel_rfl
  g19 := by kernel_rfl
  i0 := by kernel_rfl
  i2 := by kernel_rfl
  i3 := by kernel_rfl
  i4 := by kernel_rfl
  i5 := by kernel_rfl
  i9 := by kernel_rfl
  i20 := by kernel_rfl
  i37 := by kernel_rfl
  i46 := by kernel_rfl
  i51 := by kernel_rfl
  i53 := by kernel_rfl
  i171 := by kernel_rfl
  i173 := by kernel_rfl
  i212 := by kernel_rfl
  i232 := by kernel_rfl
  i233 := by kernel_rfl
  m17 := by kernel_rfl
  m18 := by kernel_rfl
  m19 := by kernel_rfl }
open Go.RowKit Go.Sort Go.Lib in
theorem Tryz.strconv_Itoa (n : Int) (h0 : -9223372036854775808 ≤ n) (h1 : n ≤ 9223372036854775807) (w : World) (htab : Lib.TabIs Tryz.prog w "internal/strconv.uint64pow10" .u64 Lib.pow10Tab) :
    Calls Tryz.prog 84 #[.int .i64 n] w fun e w' => e = .returned (.string ⟨(Lib.itoa n).toArray⟩) ∧ ∃ k os, w' = grow (w.drewN k) os := Any.strconv_Itoa Tryz.laysM171 n h0 h1 w htab
def Tryz.lays145_ren : Go.Shelf.Ren := ⟨fun | 145 => 202 | 220 => 217 | 219 => 227 | 217 => 231 | 225 => 232 | 224 => 233 | 267 => 234 | 266 => 238 | 314 => 239 | n => n, fun | 9 => 9 | 4 => 4 | 59 => 222 | 3 => 3 | 5 => 5 | 46 => 237 | 146 => 250 | 51 => 235 | n => n, fun | 1 => 3 | n => n⟩
theorem Tryz.lays145 : Go.Proofs.Lays.n145 Tryz.prog Tryz.lays145_ren := {
  mixed := by kernel_rfl
  f145 := Tryz.func202.trans (congrArg some (by kernel_rfl))
  f217 := Tryz.func231.trans (congrArg some (by kernel_rfl))
  f219 := Tryz.func227.trans (congrArg some (by kernel_rfl))
  f220 := Tryz.func217.trans (congrArg some (by kernel_rfl))
  f224 := Tryz.func233.trans (congrArg some (by kernel_rfl))
  f225 := Tryz.func232.trans (congrArg some (by kernel_rfl))
  f266 := Tryz.func238.trans (congrArg some (by kernel_rfl))
  f267 := Tryz.func234.trans (congrArg some (by kernel_rfl))
  f314 := Tryz.func239.trans (congrArg some (by kernel_rfl))
  t3 := Tryz.underlying3
  a3 := Tryz.isAgg3
  z3 := Tryz.sizeOf3
  v3 := Tryz.zeroValue3
  t4 := Tryz.underlying4
  a4 := Tryz.isAgg4
  z4 := Tryz.sizeOf4
  v4 := Tryz.zeroValue4
  t5 := Tryz.underlying5
  a5 := Tryz.isAgg5
  z5 := Tryz.sizeOf5
  v5 := Tryz.zeroValue5
  t9 := Tryz.underlying9
  a9 := Tryz.isAgg9
  z9 := Tryz.sizeOf9
  v9 := Tryz.zeroValue9
  t46 := Tryz.underlying237
  a46 := Tryz.isAgg237
  z46 := Tryz.sizeOf237
  v46 := Tryz.zeroValue237
  t51 := Tryz.underlying235
  a51 := Tryz.isAgg235
  z51 := Tryz.sizeOf235
  v51 := Tryz.zeroValue235
  t59 := Tryz.underlying222
  a59 := Tryz.isAgg222
  z59 := Tryz.sizeOf222
  v59 := Tryz.zeroValue222
  t146 := Tryz.underlying250
  a146 := Tryz.isAgg250
  z146 := Tryz.sizeOf250
  v146 := Tryz.zeroValue250
  g1 := by kernel_rfl }
open Go.RowKit Go.Lib in
theorem Tryz.strings_Cut (s sep : ByteArray) (m : Int) (w : World) (hs : s.size < 4294967281) (hm : w.cell? ⟨3, 0, none⟩ = some (.int .i64 m)) :
    Calls Tryz.prog 202 #[.string s, .string sep] w fun e w' => e = .returned (.tuple #[.string ⟨(Lib.cut s.data.toList sep.data.toList).1.toArray⟩, .string ⟨(Lib.cut s.data.toList sep.data.toList).2.1.toArray⟩, .bool (Lib.cut s.data.toList sep.data.toList).2.2]) ∧ ∃ n, w' = w.drewN n := Any.strings_Cut Tryz.lays145 s sep m w hs hm
def Tryz.lays146_ren : Go.Shelf.Ren := ⟨fun | 146 => 207 | 221 => 222 | 268 => 228 | 138 => 229 | 143 => 230 | 195 => 235 | 197 => 236 | 218 => 237 | 219 => 227 | 260 => 240 | 217 => 231 | 225 => 232 | 224 => 233 | 267 => 234 | 266 => 238 | 314 => 239 | n => n, fun | 9 => 9 | 31 => 115 | 3 => 3 | 4 => 4 | 0 => 0 | 105 => 248 | 21 => 21 | 5 => 5 | 46 => 237 | 119 => 252 | 139 => 255 | 138 => 254 | 146 => 250 | 51 => 235 | n => n, fun | 1 => 3 | 3 => 4 | 4 => 5 | n => n⟩
theorem Tryz.lays146 : Go.Proofs.Lays.n146 Tryz.prog Tryz.lays146_ren := {
  mixed := by kernel_rfl
  f138 := Tryz.func229.trans (congrArg some (by kernel_rfl))
  f143 := Tryz.func230.trans (congrArg some (by kernel_rfl))
  f146 := Tryz.func207.trans (congrArg some (by kernel_rfl))
  f195 := Tryz.func235.trans (congrArg some (by kernel_rfl))
  f197 := Tryz.func236.trans (congrArg some (by kernel_rfl))
  f217 := Tryz.func231.trans (congrArg some (by kernel_rfl))
  f218 := Tryz.func237.trans (congrArg some (by kernel_rfl))
  f219 := Tryz.func227.trans (congrArg some (by kernel_rfl))
  f221 := Tryz.func222.trans (congrArg some (by kernel_rfl))
  f224 := Tryz.func233.trans (congrArg some (by kernel_rfl))
  f225 := Tryz.func232.trans (congrArg some (by kernel_rfl))
  f260 := Tryz.func240.trans (congrArg some (by kernel_rfl))
  f266 := Tryz.func238.trans (congrArg some (by kernel_rfl))
  f267 := Tryz.func234.trans (congrArg some (by kernel_rfl))
  f268 := Tryz.func228.trans (congrArg some (by kernel_rfl))
  f314 := Tryz.func239.trans (congrArg some (by kernel_rfl))
  t0 := Tryz.underlying0
  a0 := Tryz.isAgg0
  z0 := Tryz.sizeOf0
  v0 := Tryz.zeroValue0
  t3 := Tryz.underlying3
  a3 := Tryz.isAgg3
  z3 := Tryz.sizeOf3
  v3 := Tryz.zeroValue3
  t4 := Tryz.underlying4
  a4 := Tryz.isAgg4
  z4 := Tryz.sizeOf4
  v4 := Tryz.zeroValue4
  t5 := Tryz.underlying5
  a5 := Tryz.isAgg5
  z5 := Tryz.sizeOf5
  v5 := Tryz.zeroValue5
  t9 := Tryz.underlying9
  a9 := Tryz.isAgg9
  z9 := Tryz.sizeOf9
  v9 := Tryz.zeroValue9
  t21 := Tryz.underlying21
  a21 := Tryz.isAgg21
  z21 := Tryz.sizeOf21
  v21 := Tryz.zeroValue21
  t31 := Tryz.underlying115
  a31 := Tryz.isAgg115
  z31 := Tryz.sizeOf115
  v31 := Tryz.zeroValue115
  t46 := Tryz.underlying237
  a46 := Tryz.isAgg237
  z46 := Tryz.sizeOf237
  v46 := Tryz.zeroValue237
  t51 := Tryz.underlying235
  a51 := Tryz.isAgg235
  z51 := Tryz.sizeOf235
  v51 := Tryz.zeroValue235
  t105 := Tryz.underlying248
  a105 := Tryz.isAgg248
  z105 := Tryz.sizeOf248
  v105 := Tryz.zeroValue248
  t119 := Tryz.underlying252
  a119 := Tryz.isAgg252
  z119 := Tryz.sizeOf252
  t138 := Tryz.underlying254
  a138 := Tryz.isAgg254
  z138 := Tryz.sizeOf254
  v138 := Tryz.zeroValue254
  t139 := Tryz.underlying255
  a139 := Tryz.isAgg255
  z139 := Tryz.sizeOf255
  v139 := Tryz.zeroValue255
  t146 := Tryz.underlying250
  a146 := Tryz.isAgg250
  z146 := Tryz.sizeOf250
  v146 := Tryz.zeroValue250
  g1 := by kernel_rfl
  g3 := by kernel_rfl
  g4 := by kernel_rfl }
open Go.RowKit Go.Lib in
theorem Tryz.strings_Split (s sep : ByteArray) (m : Int) (w : World) (hs : s.size < 4294967281) (hm : w.cell? ⟨3, 0, none⟩ = some (.int .i64 m)) (h1 : 1 ≤ sep.size) :
    Calls Tryz.prog 207 #[.string s, .string sep] w fun e w' =>
      e = .returned (.slice (some ⟨w.heap.size, 0, none⟩) (Lib.countB s sep + 1) (Lib.countB s sep + 1)) ∧ w' = w.alloc (.cells ((Lib.splitB sep 0 (Lib.countB s sep) s).map Value.string).toArray 9) := Any.strings_Split Tryz.lays146 (by kernel_rfl) s sep m w hs hm h1
def Tryz.lays147_ren : Go.Shelf.Ren := ⟨fun | 147 => 219 | 221 => 222 | 268 => 228 | 138 => 229 | 143 => 230 | 195 => 235 | 197 => 236 | 218 => 237 | 219 => 227 | 260 => 240 | 217 => 231 | 225 => 232 | 224 => 233 | 267 => 234 | 266 => 238 | 314 => 239 | n => n, fun | 9 => 9 | 3 => 3 | 31 => 115 | 4 => 4 | 0 => 0 | 105 => 248 | 21 => 21 | 5 => 5 | 46 => 237 | 119 => 252 | 139 => 255 | 138 => 254 | 146 => 250 | 51 => 235 | n => n, fun | 1 => 3 | 3 => 4 | 4 => 5 | n => n⟩
theorem Tryz.lays147 : Go.Proofs.Lays.n147 Tryz.prog Tryz.lays147_ren := {
  mixed := by kernel_rfl
  f138 := Tryz.func229.trans (congrArg some (by kernel_rfl))
  f143 := Tryz.func230.trans (congrArg some (by kernel_rfl))
  f147 := Tryz.func219.trans (congrArg some (by kernel_rfl))
  f195 := Tryz.func235.trans (congrArg some (by kernel_rfl))
  f197 := Tryz.func236.trans (congrArg some (by kernel_rfl))
  f217 := Tryz.func231.trans (congrArg some (by kernel_rfl))
  f218 := Tryz.func237.trans (congrArg some (by kernel_rfl))
  f219 := Tryz.func227.trans (congrArg some (by kernel_rfl))
  f221 := Tryz.func222.trans (congrArg some (by kernel_rfl))
  f224 := Tryz.func233.trans (congrArg some (by kernel_rfl))
  f225 := Tryz.func232.trans (congrArg some (by kernel_rfl))
  f260 := Tryz.func240.trans (congrArg some (by kernel_rfl))
  f266 := Tryz.func238.trans (congrArg some (by kernel_rfl))
  f267 := Tryz.func234.trans (congrArg some (by kernel_rfl))
  f268 := Tryz.func228.trans (congrArg some (by kernel_rfl))
  f314 := Tryz.func239.trans (congrArg some (by kernel_rfl))
  t0 := Tryz.underlying0
  a0 := Tryz.isAgg0
  z0 := Tryz.sizeOf0
  v0 := Tryz.zeroValue0
  t3 := Tryz.underlying3
  a3 := Tryz.isAgg3
  z3 := Tryz.sizeOf3
  v3 := Tryz.zeroValue3
  t4 := Tryz.underlying4
  a4 := Tryz.isAgg4
  z4 := Tryz.sizeOf4
  v4 := Tryz.zeroValue4
  t5 := Tryz.underlying5
  a5 := Tryz.isAgg5
  z5 := Tryz.sizeOf5
  v5 := Tryz.zeroValue5
  t9 := Tryz.underlying9
  a9 := Tryz.isAgg9
  z9 := Tryz.sizeOf9
  v9 := Tryz.zeroValue9
  t21 := Tryz.underlying21
  a21 := Tryz.isAgg21
  z21 := Tryz.sizeOf21
  v21 := Tryz.zeroValue21
  t31 := Tryz.underlying115
  a31 := Tryz.isAgg115
  z31 := Tryz.sizeOf115
  v31 := Tryz.zeroValue115
  t46 := Tryz.underlying237
  a46 := Tryz.isAgg237
  z46 := Tryz.sizeOf237
  v46 := Tryz.zeroValue237
  t51 := Tryz.underlying235
  a51 := Tryz.isAgg235
  z51 := Tryz.sizeOf235
  v51 := Tryz.zeroValue235
  t105 := Tryz.underlying248
  a105 := Tryz.isAgg248
  z105 := Tryz.sizeOf248
  v105 := Tryz.zeroValue248
  t119 := Tryz.underlying252
  a119 := Tryz.isAgg252
  z119 := Tryz.sizeOf252
  t138 := Tryz.underlying254
  a138 := Tryz.isAgg254
  z138 := Tryz.sizeOf254
  v138 := Tryz.zeroValue254
  t139 := Tryz.underlying255
  a139 := Tryz.isAgg255
  z139 := Tryz.sizeOf255
  v139 := Tryz.zeroValue255
  t146 := Tryz.underlying250
  a146 := Tryz.isAgg250
  z146 := Tryz.sizeOf250
  v146 := Tryz.zeroValue250
  g1 := by kernel_rfl
  g3 := by kernel_rfl
  g4 := by kernel_rfl }
open Go.RowKit Go.Lib in
theorem Tryz.strings_SplitN (s sep : ByteArray) (n : Nat) (m : Int) (w : World) (hs : s.size < 4294967281) (hm : w.cell? ⟨3, 0, none⟩ = some (.int .i64 m)) (h1 : 1 ≤ sep.size) (hn : 1 ≤ n) (hn63 : n ≤ 9223372036854775807) :
    Calls Tryz.prog 219 #[.string s, .string sep, .int .i64 n] w fun e w' =>
      e = .returned (.slice (some ⟨w.heap.size, 0, none⟩) (Lib.splitB sep 0 (min n (s.size + 1) - 1) s).length (min n (s.size + 1))) ∧ w' = w.alloc (.cells (Lib.cellsOf (Lib.splitB sep 0 (min n (s.size + 1) - 1) s) (min n (s.size + 1))) 9) := Any.strings_SplitN Tryz.lays147 (by kernel_rfl) s sep n m w hs hm h1 hn hn63
end Go.Proofs

namespace Go.Ab
open Go Go.RowKit Go.Sort
set_option linter.unusedVariables false
set_option linter.unusedSimpArgs false

theorem spec_lib {P : Program} {f : FuncId} {ds : List D} {X : V} (hc : CallOk P f) (h : ∀ (S : Nat → Prop) (w : World) (args : Array Value), Glob P w → args.size = ds.length → (∀ (i : Nat) d v, ds[i]? = some d → args[i]? = some v → DR w S d v) →
    Calls P f args w fun e w' => ∃ v S', e = .returned v ∧ Fr (fun _ => False) w w' ∧ (∀ σ ι, VaR σ ι w' S' X v) ∧ ∀ b, S' b → w.heap.size ≤ b ∧ b < w'.heap.size) : Spec P f ds.length (argSt 0 (ds.map Dv)) [(.t 0, .v X)] := by
  refine ⟨hc, fun ι ν S w args hgb hvr hsz hargs => calls_mono (fun e w' => ?_) (h S w args (hgb w (Fr.refl _ _)) hsz fun i d v hi hv => ?_)⟩
  · rintro ⟨v, S', rfl, hfr, hx, hS⟩
    refine ⟨v, fun _ => undef, S', rfl, hfr.weak (fun _ h => h.elim), ⟨fun s k hk => ?_, fun o k hk => ?_, fun o b hm2 => ?_, fun o o' b hm2 => ?_, fun b hb => (hS b hb).2⟩, fun b hb => .inr (hS b hb).1, fun o b hm2 => ?_, fun o k k' hk hk' => ?_⟩
    · simp only [look] at hk
      split at hk
      · rename_i e3; cases e3; cases hk; exact hx _ _
      · cases hk
    · simp [look] at hk
    · obtain ⟨⟨k, hk, _⟩, _⟩ := hm2; simp [look] at hk
    · obtain ⟨⟨k, hk, _⟩, _⟩ := hm2; simp [look] at hk
    · obtain ⟨⟨k, hk, _⟩, _⟩ := hm2; simp [look] at hk
    · simp [look] at hk'
  · have hlt : i < ds.length := (List.getElem?_eq_some_iff.1 hi).1
    have hv2 := hargs i hlt
    rw [hv] at hv2
    cases hv2
    have hl : look (argSt 0 (ds.map Dv)) (.t i) = some (.v (Dv d)) := by
      have := look_argSt 0 (ds.map Dv) [] i (Nat.zero_le _) (by simpa using hlt)
      rw [List.append_nil] at this
      rw [this]; simp [hi]
    exact hvr.slots i _ hl
theorem fr_drew (w : World) (k : Nat) : Fr (fun _ => False) w (w.drewN k) := ⟨rfl, rfl, rfl, Nat.le_refl _, fun _ _ _ => rfl⟩
theorem fr_grow (w : World) (os : Array Obj) : Fr (fun _ => False) w (grow w os) :=
  ⟨rfl, rfl, rfl, by simp [grow], fun b hb _ => by simp [grow, Array.getElem?_append_left hb]⟩
theorem glob_cell {P : Program} {w : World} (h : Glob P w) {g : Nat} (hg : P.globalNamed "internal/bytealg.MaxLen" = some g) : ∃ m, w.cell? ⟨g, 0, none⟩ = some (.int .i64 m) := by
  obtain ⟨_, m, hm⟩ := h
  refine ⟨m, ?_⟩
  unfold World.var? at hm
  rw [hg] at hm
  simp only [Option.bind_some] at hm
  split at hm
  · rename_i cs t fz hh
    cases hm
    unfold World.cell?
    simp [hh]
  · cases hm
theorem bytesOf (l : List UInt8) : (⟨l.toArray⟩ : ByteArray).data.toList = l := rfl
theorem DR.s_inv {w : World} {S : Nat → Prop} {l : List UInt8} {v : Value} (h : DR w S (.s l) v) : v = .string ⟨l.toArray⟩ := by cases h; rfl
theorem DR.i_inv {w : World} {S : Nat → Prop} {n : Int} {v : Value} (h : DR w S (.i n) v) : v = .int .i64 n := by cases h; rfl

theorem dec_lib (n : Nat) : Lib.decDigits n = dec n := by
  induction n using Nat.strongRecOn with
  | _ n ih =>
    unfold Lib.decDigits
    by_cases h : n < 10
    · rw [dif_pos h, dec_small h]
    · rw [dif_neg h, dec_big (by omega), ih (n / 10) (by omega)]
theorem spec_itoa {P : Program} {f : FuncId} (hc : CallOk P f) (n : Nat) (hn : n ≤ 1000000)
    (h : ∀ (w : World), Lib.TabIs P w "internal/strconv.uint64pow10" .u64 Lib.pow10Tab → Calls P f #[.int .i64 n] w fun e w' => e = .returned (.string ⟨(Lib.itoa n).toArray⟩) ∧ ∃ k os, w' = grow (w.drewN k) os) :
    Spec P f 1 [(.t 0, .v (I n))] [(.t 0, .v (Dv (.s (dec n))))] := by
  refine spec_lib (ds := [.i n]) hc fun S w args hg hsz ha => ?_
  have ha0 := ha 0 (.i n) (args[0]'(by rw [hsz]; simp)) rfl (Array.getElem?_eq_getElem (by rw [hsz]; simp))
  have e : args = #[.int .i64 n] := by
    apply Array.ext
    · rw [hsz]; rfl
    · intro i h1 h2
      have : i = 0 := by have : i < 1 := by simpa using h2
                         omega
      subst this
      exact ha0.i_inv
  subst e
  refine calls_mono (fun e w' => ?_) (h w hg.1)
  rintro ⟨rfl, k, os, rfl⟩
  have e2 : Lib.itoa (n : Int) = dec n := by
    unfold Lib.itoa
    rw [if_neg (by omega), Int.toNat_natCast, dec_lib]
  exact ⟨_, fun _ => False, rfl, (fr_drew w k).trans (fr_grow _ os) (fun _ _ h => h), fun σ ι => by rw [e2]; exact DR.s _, fun b hb => hb.elim⟩

def wordOf (s : List UInt8) : List UInt8 := s.takeWhile (· != 32)
def restOf (s : List UInt8) : List UInt8 := (s.dropWhile (· != 32)).drop 1
def hasSp (s : List UInt8) : Bool := s.any (· == 32)
def cuts : Nat → List UInt8 → List (List UInt8)
  | 0, s => [s]
  | n + 1, s => if hasSp s then wordOf s :: cuts n (restOf s) else [s]
theorem indexByte_word : ∀ (s : List UInt8), (hasSp s = true → Lib.indexByte s 32 = (wordOf s).length ∧ s.take (wordOf s).length = wordOf s ∧ s.drop ((wordOf s).length + 1) = restOf s ∧ (wordOf s).length < s.length) ∧ (hasSp s = false → Lib.indexByte s 32 = -1 ∧ wordOf s = s ∧ restOf s = [])
  | [] => ⟨fun h => by simp [hasSp] at h, fun _ => ⟨rfl, rfl, rfl⟩⟩
  | b :: l => by
    obtain ⟨h1, h2⟩ := indexByte_word l
    unfold Lib.indexByte
    by_cases hb : b = 32
    · subst hb
      refine ⟨fun _ => ?_, fun h => by simp [hasSp] at h⟩
      simp [wordOf, restOf]
    · have e1 : hasSp (b :: l) = hasSp l := by simp [hasSp, hb]
      have e2 : wordOf (b :: l) = b :: wordOf l := by simp [wordOf, hb]
      have e3 : restOf (b :: l) = restOf l := by simp [restOf, hb]
      rw [if_neg (by simpa using hb), e1, e2, e3]
      refine ⟨fun h => ?_, fun h => ?_⟩
      · obtain ⟨q1, q2, q3, q4⟩ := h1 h
        rw [q1, if_neg (by simp)]
        refine ⟨by simp, by simp [q2], by simpa using q3, by simpa using q4⟩
      · obtain ⟨q1, q2, q3⟩ := h2 h
        rw [q1, if_pos (by decide)]
        exact ⟨rfl, by rw [q2], q3⟩
theorem cut_lib (s : List UInt8) : Lib.cut s [32] = (wordOf s, restOf s, hasSp s) := by
  obtain ⟨h1, h2⟩ := indexByte_word s
  unfold Lib.cut
  rw [Lib.index_one]
  cases h : hasSp s with
  | true =>
    obtain ⟨q1, q2, q3, q4⟩ := h1 h
    rw [q1, if_pos (by omega), Int.toNat_natCast, q2]
    show (_, List.drop ((wordOf s).length + 1) s, _) = _
    rw [q3]
  | false =>
    obtain ⟨q1, q2, q3⟩ := h2 h
    rw [q1, if_neg (by decide), q2, q3]
theorem split_lib : ∀ (n : Nat) (s : List UInt8), Lib.splitK [32] 0 n s = cuts n s
  | 0, s => rfl
  | n + 1, s => by
    obtain ⟨h1, h2⟩ := indexByte_word s
    unfold Lib.splitK cuts
    rw [Lib.index_one]
    cases h : hasSp s with
    | true =>
      obtain ⟨q1, q2, q3, q4⟩ := h1 h
      rw [q1, if_neg (by simp), if_pos rfl, Int.toNat_natCast, Nat.add_zero, q2]
      show _ :: Lib.splitK [32] 0 n (List.drop ((wordOf s).length + 1) s) = _
      rw [q3, split_lib n]
    | false =>
      obtain ⟨q1, q2, q3⟩ := h2 h
      rw [q1, if_pos (by decide), if_neg (by simp)]
theorem spec_cut {P : Program} {f : FuncId} (hc : CallOk P f) (s : List UInt8) (hs : s.length ≤ 1000000)
    (h : ∀ (w : World), Glob P w → Calls P f #[.string ⟨s.toArray⟩, .string ⟨#[32]⟩] w fun e w' => e = .returned (.tuple #[.string ⟨(Lib.cut s [32]).1.toArray⟩, .string ⟨(Lib.cut s [32]).2.1.toArray⟩, .bool (Lib.cut s [32]).2.2]) ∧ ∃ n, w' = w.drewN n) :
    Spec P f 2 [(.t 0, .v (Dv (.s s))), (.t 1, .v (Dv (.s [32])))] [(.t 0, .v (.tup [.c (.d (.s (wordOf s))), .c (.d (.s (restOf s))), .c (.d (.b (hasSp s)))]))] := by
  refine spec_lib (ds := [.s s, .s [32]]) hc fun S w args hg hsz ha => ?_
  have ha0 := ha 0 (.s s) (args[0]'(by rw [hsz]; simp)) rfl (Array.getElem?_eq_getElem (by rw [hsz]; simp))
  have ha1 := ha 1 (.s [32]) (args[1]'(by rw [hsz]; simp)) rfl (Array.getElem?_eq_getElem (by rw [hsz]; simp))
  have e : args = #[.string ⟨s.toArray⟩, .string ⟨#[32]⟩] := by
    apply Array.ext
    · rw [hsz]; rfl
    · intro i h1 h2
      have : i = 0 ∨ i = 1 := by have : i < 2 := by simpa using h2
                                 omega
      rcases this with rfl | rfl
      · exact ha0.s_inv
      · exact ha1.s_inv
  subst e
  refine calls_mono (fun e w' => ?_) (h w hg)
  rintro ⟨rfl, n, rfl⟩
  rw [cut_lib]
  refine ⟨_, fun _ => False, rfl, fr_drew w n, fun σ ι => ⟨[.string ⟨(wordOf s).toArray⟩, .string ⟨(restOf s).toArray⟩, .bool (hasSp s)], rfl, rfl, fun k x u hx hu => ?_⟩, fun b hb => hb.elim⟩
  match k, hx, hu with
  | 0, hx, hu => cases hx; cases hu; exact DR.s _
  | 1, hx, hu => cases hx; cases hu; exact DR.s _
  | 2, hx, hu => cases hx; cases hu; exact DR.b _
  | k + 3, hx, hu => simp at hx
theorem DR_strs (w : World) (l : List (List UInt8)) (cs : Array Value) (e : TypeId) (cap : Nat) (hl : l.length ≤ cap) (hm : cap ≤ maxLen) (hcs : ∀ (i : Nat) x, l[i]? = some x → cs[i]? = some (.string ⟨x.toArray⟩)) :
    DR (w.alloc (.cells cs e)) (fun b => b = w.heap.size) (.sl (strRows l)) (.slice (some ⟨w.heap.size, 0, none⟩) l.length cap) := by
  have hh : (w.alloc (.cells cs e)).heap[w.heap.size]? = some (.cells cs e (0, 0)) := heap_alloc_new w _
  have := DR.sl (w := w.alloc (.cells cs e)) (S := fun b => b = w.heap.size) (strRows l) (some ⟨w.heap.size, 0, none⟩) cap 1 ⟨w.heap.size, 0, none⟩ (fun i k => .string ⟨(l.getD i []).toArray⟩)
    (by rw [strRows_length]; exact hl) hm (strRows_len1 l) (fun _ => rfl) (fun i r k d hi hk => ?_) (fun i r k d hi hk => ?_)
  · rw [strRows_length] at this; exact this
  · have hi2 : i < l.length := by have := (List.getElem?_eq_some_iff.1 hi).1; rwa [strRows_length] at this
    have hr : r = [.s (l.getD i [])] := by
      have h1 := strRows_getD hi2
      rw [List.getD_eq_getElem?_getD, hi] at h1
      exact h1
    subst hr
    have hk0 : k = 0 := by have := (List.getElem?_eq_some_iff.1 hk).1; simp at this; exact this
    subst hk0
    refine ⟨rfl, ?_⟩
    rw [add_mk, cell_of_row _ _ _ cs e (0, 0) hh]
    rw [show 0 + (i * 1 + 0) = i by omega]
    exact hcs i (l.getD i []) (by rw [List.getD_eq_getElem?_getD, List.getElem?_eq_getElem hi2]; rfl)
  · have hi2 : i < l.length := by have := (List.getElem?_eq_some_iff.1 hi).1; rwa [strRows_length] at this
    have hr : r = [.s (l.getD i [])] := by
      have h1 := strRows_getD hi2
      rw [List.getD_eq_getElem?_getD, hi] at h1
      exact h1
    subst hr
    have hk0 : k = 0 := by have := (List.getElem?_eq_some_iff.1 hk).1; simp at this; exact this
    subst hk0
    cases hk
    exact DR.s _
theorem restOf_lt {s : List UInt8} (h : hasSp s = true) : (restOf s).length < s.length := by
  obtain ⟨q1, q2, q3, q4⟩ := (indexByte_word s).1 h
  rw [← q3, List.length_drop]; omega
theorem count_sp (s : List UInt8) : Lib.count s [32] = if hasSp s = true then 1 + Lib.count (restOf s) [32] else 0 := by
  obtain ⟨h1, h2⟩ := indexByte_word s
  cases h : hasSp s with
  | true =>
    obtain ⟨q1, q2, q3, q4⟩ := h1 h
    rw [if_pos rfl, Lib.count_hit (i := (wordOf s).length) (by simp) (by rw [Lib.index_one, q1])]
    show 1 + Lib.count (List.drop ((wordOf s).length + 1) s) _ = _
    rw [q3]
  | false =>
    rw [if_neg (by simp), Lib.count_miss (by rw [Lib.index_one, (h2 h).1])]
theorem cuts_all : ∀ (n : Nat) (s : List UInt8), Lib.count s [32] = n → (cuts n s).length = n + 1
  | 0, s, h => rfl
  | n + 1, s, h => by
    rw [count_sp] at h
    unfold cuts
    by_cases hs : hasSp s = true
    · rw [if_pos hs] at h
      rw [if_pos hs, List.length_cons, cuts_all n (restOf s) (by omega)]
    · rw [if_neg hs] at h; omega
theorem cuts_len : ∀ (n : Nat) (s : List UInt8), (cuts n s).length ≤ n + 1 ∧ 1 ≤ (cuts n s).length
  | 0, s => ⟨Nat.le_refl _, Nat.le_refl _⟩
  | n + 1, s => by
    unfold cuts
    split
    · have := cuts_len n (restOf s)
      rw [List.length_cons]; omega
    · simp
theorem cuts_any : ∀ (n m : Nat) (s : List UInt8), s.length ≤ n → s.length ≤ m → cuts n s = cuts m s
  | 0, 0, s, _, _ => rfl
  | 0, m + 1, s, h, _ => by
    rw [List.eq_nil_of_length_eq_zero (Nat.le_zero.1 h)]; rfl
  | n + 1, 0, s, _, h => by
    rw [List.eq_nil_of_length_eq_zero (Nat.le_zero.1 h)]; rfl
  | n + 1, m + 1, s, h1, h2 => by
    unfold cuts
    by_cases hs : hasSp s = true
    · have := restOf_lt hs
      rw [if_pos hs, if_pos hs, cuts_any n m (restOf s) (by omega) (by omega)]
    · rw [if_neg hs, if_neg hs]
theorem cuts_min (n : Nat) (s : List UInt8) : cuts (min (n + 1) (s.length + 1) - 1) s = cuts n s := by
  by_cases h : n ≤ s.length
  · rw [show min (n + 1) (s.length + 1) - 1 = n by omega]
  · exact cuts_any _ _ s (by omega) (by omega)
def splitSp (s : List UInt8) : List (List UInt8) := cuts (Lib.count s [32]) s
theorem args2 {args : Array Value} {w : World} {S : Nat → Prop} {s : List UInt8} {rest : List D} {vs : List Value} (hsz : args.size = vs.length) (h : ∀ (i : Nat) d v, rest[i]? = some d → args[i]? = some v → DR w S d v) (hl : rest.length = vs.length) (hd : ∀ (i : Nat) d v, rest[i]? = some d → DR w S d v → vs[i]? = some v) : args = vs.toArray := by
  apply Array.ext
  · rw [hsz]; simp
  · intro i h1 h2
    have hi : i < rest.length := by rw [hl, ← hsz]; exact h1
    have h3 := hd i rest[i] args[i] (List.getElem?_eq_getElem hi) (h i rest[i] args[i] (List.getElem?_eq_getElem hi) (Array.getElem?_eq_getElem h1))
    rw [List.getElem_toArray]
    rw [List.getElem?_eq_getElem (by simpa using h2)] at h3
    exact (Option.some.inj h3).symm
theorem splitB_cuts (n : Nat) (s : List UInt8) : (Lib.splitB ⟨#[32]⟩ 0 n ⟨s.toArray⟩).map (·.data.toList) = cuts n s := by
  rw [Lib.splitB_data]; exact split_lib n s
theorem splitB_at {n : Nat} {s : List UInt8} {i : Nat} {x : List UInt8} (h : (cuts n s)[i]? = some x) : ((Lib.splitB ⟨#[32]⟩ 0 n ⟨s.toArray⟩).map Value.string)[i]? = some (.string ⟨x.toArray⟩) := by
  rw [← splitB_cuts, List.getElem?_map] at h
  rw [List.getElem?_map]
  cases hq : (Lib.splitB ⟨#[32]⟩ 0 n ⟨s.toArray⟩)[i]? with
  | none => rw [hq] at h; cases h
  | some b => rw [hq] at h; cases h; rfl
theorem splitB_len (n : Nat) (s : List UInt8) : (Lib.splitB ⟨#[32]⟩ 0 n ⟨s.toArray⟩).length = (cuts n s).length := by rw [← splitB_cuts, List.length_map]
theorem spec_split {P : Program} {f : FuncId} {e : TypeId} (hc : CallOk P f) (s : List UInt8) (hs : s.length ≤ 1000000)
    (h : ∀ (w : World), Glob P w → Calls P f #[.string ⟨s.toArray⟩, .string ⟨#[32]⟩] w fun ex w' => ex = .returned (.slice (some ⟨w.heap.size, 0, none⟩) (Lib.count s [32] + 1) (Lib.count s [32] + 1)) ∧ w' = w.alloc (.cells ((Lib.splitB ⟨#[32]⟩ 0 (Lib.count s [32]) ⟨s.toArray⟩).map Value.string).toArray e)) :
    Spec P f 2 [(.t 0, .v (Dv (.s s))), (.t 1, .v (Dv (.s [32])))] [(.t 0, .v (Dv (.sl (strRows (splitSp s)))))] := by
  refine spec_lib (ds := [.s s, .s [32]]) hc fun S w args hg hsz ha => ?_
  obtain rfl : args = #[.string ⟨s.toArray⟩, .string ⟨#[32]⟩] := by
    refine args2 (s := s) (vs := [.string ⟨s.toArray⟩, .string ⟨#[32]⟩]) hsz ha rfl fun i d v hi hd => ?_
    match i, hi with
    | 0, hi => cases hi; rw [hd.s_inv]; rfl
    | 1, hi => cases hi; rw [hd.s_inv]; rfl
    | k + 2, hi => simp at hi
  refine calls_mono (fun ex w' => ?_) (h w hg)
  rintro ⟨rfl, rfl⟩
  have hl : (splitSp s).length = Lib.count s [32] + 1 := cuts_all _ s rfl
  have hcl := Lib.count_le s [32]
  refine ⟨_, fun b => b = w.heap.size, rfl, by rw [alloc_eq_grow]; exact fr_grow w _, fun σ ι => ?_, fun b hb => ?_⟩
  · have := DR_strs w (splitSp s) ((Lib.splitB ⟨#[32]⟩ 0 (Lib.count s [32]) ⟨s.toArray⟩).map Value.string).toArray e (Lib.count s [32] + 1) (by omega) (by unfold maxLen; omega) fun i x hx => by
      rw [List.getElem?_toArray]; exact splitB_at hx
    rw [hl] at this
    exact this
  · subst hb
    refine ⟨Nat.le_refl _, ?_⟩
    rw [alloc_eq_grow]; simp [grow]
theorem spec_splitN {P : Program} {f : FuncId} {e : TypeId} (hc : CallOk P f) (n : Nat) (s : List UInt8) (hs : s.length ≤ 1000000) (hn : n ≤ 1000)
    (h : ∀ (w : World), Glob P w → Calls P f #[.string ⟨s.toArray⟩, .string ⟨#[32]⟩, .int .i64 ((n + 1 : Nat) : Int)] w fun ex w' => ex = .returned (.slice (some ⟨w.heap.size, 0, none⟩) (Lib.splitB ⟨#[32]⟩ 0 (min (n + 1) (s.length + 1) - 1) ⟨s.toArray⟩).length (min (n + 1) (s.length + 1))) ∧ w' = w.alloc (.cells (Lib.cellsOf (Lib.splitB ⟨#[32]⟩ 0 (min (n + 1) (s.length + 1) - 1) ⟨s.toArray⟩) (min (n + 1) (s.length + 1))) e)) :
    Spec P f 3 [(.t 0, .v (Dv (.s s))), (.t 1, .v (Dv (.s [32]))), (.t 2, .v (I ((n + 1 : Nat) : Int)))] [(.t 0, .v (Dv (.sl (strRows (cuts n s)))))] := by
  refine spec_lib (ds := [.s s, .s [32], .i ((n + 1 : Nat) : Int)]) hc fun S w args hg hsz ha => ?_
  obtain rfl : args = #[.string ⟨s.toArray⟩, .string ⟨#[32]⟩, .int .i64 ((n + 1 : Nat) : Int)] := by
    refine args2 (s := s) (vs := [.string ⟨s.toArray⟩, .string ⟨#[32]⟩, .int .i64 ((n + 1 : Nat) : Int)]) hsz ha rfl fun i d v hi hd => ?_
    match i, hi with
    | 0, hi => cases hi; rw [hd.s_inv]; rfl
    | 1, hi => cases hi; rw [hd.s_inv]; rfl
    | 2, hi => cases hi; rw [hd.i_inv]; rfl
    | k + 3, hi => simp at hi
  refine calls_mono (fun ex w' => ?_) (h w hg)
  rintro ⟨rfl, rfl⟩
  have hcl := cuts_len (min (n + 1) (s.length + 1) - 1) s
  refine ⟨_, fun b => b = w.heap.size, rfl, by rw [alloc_eq_grow]; exact fr_grow w _, fun σ ι => ?_, fun b hb => ?_⟩
  · have := DR_strs w (cuts (min (n + 1) (s.length + 1) - 1) s) (Lib.cellsOf (Lib.splitB ⟨#[32]⟩ 0 (min (n + 1) (s.length + 1) - 1) ⟨s.toArray⟩) (min (n + 1) (s.length + 1))) e (min (n + 1) (s.length + 1)) (by omega) (by unfold maxLen; omega) fun i x hx => by
      have h1 := splitB_at hx
      unfold Lib.cellsOf
      rw [List.getElem?_toArray, List.getElem?_append_left (List.getElem?_eq_some_iff.1 h1).1]
      exact h1
    rw [← splitB_len, cuts_min] at this
    exact this
  · subst hb
    refine ⟨Nat.le_refl _, ?_⟩
    rw [alloc_eq_grow]; simp [grow]
end Go.Ab

namespace Go.Proofs.YtilahgkblckndaaGreatDoor
open Go Go.Ab Go.RowKit
set_option linter.unusedVariables false
set_option linter.unusedSimpArgs false

theorem s_strconv_Itoa (n : Nat) (hn : n ≤ 1000000) : Ab.Spec Tryz.prog 84 1 [(.t 0, .v (I n))] [(.t 0, .v (Dv (.s (dec n))))] := spec_itoa ⟨Tryz.f84, Tryz.func84, by kernel_rfl, by kernel_rfl⟩ n hn fun w ht => Tryz.strconv_Itoa n (by omega) (by omega) w ht
theorem s_strings_Cut (s : List UInt8) (hs : s.length ≤ 1000000) : Ab.Spec Tryz.prog 202 2 [(.t 0, .v (Dv (.s s))), (.t 1, .v (Dv (.s [32])))] [(.t 0, .v (.tup [.c (.d (.s (wordOf s))), .c (.d (.s (restOf s))), .c (.d (.b (hasSp s)))]))] := by
  refine spec_cut ⟨Tryz.f202, Tryz.func202, by kernel_rfl, by kernel_rfl⟩ s hs fun w hg => ?_
  obtain ⟨m, hm⟩ := glob_cell hg (g := 3) (by kernel_rfl)
  exact Tryz.strings_Cut ⟨s.toArray⟩ ⟨#[32]⟩ m w (show s.toArray.size < 4294967281 by simp; omega) hm
theorem s_strings_Split (s : List UInt8) (hs : s.length ≤ 1000000) : Ab.Spec Tryz.prog 207 2 [(.t 0, .v (Dv (.s s))), (.t 1, .v (Dv (.s [32])))] [(.t 0, .v (Dv (.sl (strRows (splitSp s)))))] := by
  refine spec_split (e := 9) ⟨Tryz.f207, Tryz.func207, by kernel_rfl, by kernel_rfl⟩ s hs fun w hg => ?_
  obtain ⟨m, hm⟩ := glob_cell hg (g := 3) (by kernel_rfl)
  exact Tryz.strings_Split ⟨s.toArray⟩ ⟨#[32]⟩ m w (show s.toArray.size < 4294967281 by simp; omega) hm (show 1 ≤ 1 by omega)
theorem s_strings_SplitN (s : List UInt8) (hs : s.length ≤ 1000000) : Ab.Spec Tryz.prog 219 3 [(.t 0, .v (Dv (.s s))), (.t 1, .v (Dv (.s [32]))), (.t 2, .v (I 5))] [(.t 0, .v (Dv (.sl (strRows (cuts 4 s)))))] := by
  refine spec_splitN (e := 9) ⟨Tryz.f219, Tryz.func219, by kernel_rfl, by kernel_rfl⟩ 4 s hs (by omega) fun w hg => ?_
  obtain ⟨m, hm⟩ := glob_cell hg (g := 3) (by kernel_rfl)
  exact Tryz.strings_SplitN ⟨s.toArray⟩ ⟨#[32]⟩ 5 m w (show s.toArray.size < 4294967281 by simp; omega) hm (show 1 ≤ 1 by omega) (by omega) (by omega)
end Go.Proofs.YtilahgkblckndaaGreatDoor

namespace Go.Ab
open Go Go.RowKit
set_option linter.unusedVariables false
set_option linter.unusedSimpArgs false

def noteLine (n : NoteR) : List UInt8 := dec n.frm.toNat ++ [32] ++ dec n.num.toNat ++ [32] ++ dec n.to.toNat ++ [32] ++ dec n.til.toNat ++ [32] ++ n.text
def noteWr (n : NoteR) : List UInt8 := if noteOk n then noteLine n else []
def restN : Nat → List UInt8 → List UInt8
  | 0, s => s
  | n + 1, s => restOf (restN n s)
def numAt (s : List UInt8) (i : Nat) : Int := decV (wordOf (restN i s))
def numsL (n : Nat) (s : List UInt8) : List Int := (List.range n).map (numAt s)
theorem numsL_length (n : Nat) (s : List UInt8) : (numsL n s).length = n := by simp [numsL]
theorem numsL_succ (n : Nat) (s : List UInt8) : numsL (n + 1) s = numsL n s ++ [numAt s n] := by simp [numsL, List.range_succ]
theorem restOf_le (s : List UInt8) : (restOf s).length ≤ s.length := by
  cases h : hasSp s with
  | true => exact Nat.le_of_lt (restOf_lt h)
  | false => rw [((indexByte_word s).2 h).2.2]; exact Nat.zero_le _
theorem restN_le (n : Nat) (s : List UInt8) : (restN n s).length ≤ s.length := by
  induction n with
  | zero => exact Nat.le_refl _
  | succ n ih => exact Nat.le_trans (restOf_le _) ih
theorem wordOf_le (s : List UInt8) : (wordOf s).length ≤ s.length := by
  cases h : hasSp s with
  | true => exact Nat.le_of_lt ((indexByte_word s).1 h).2.2.2
  | false => rw [((indexByte_word s).2 h).2.1]; exact Nat.le_refl _
def natsOk (l : List (List UInt8)) : Bool := l.all fun w => (natV w).isSome
def natsV (l : List (List UInt8)) : List Int := if natsOk l then l.map natN else []
def candS (t : List UInt8) : NoteR := ⟨numAt t 0, numAt t 1, numAt t 2, numAt t 3, restN 4 t⟩
def readS (t : List UInt8) : NoteR × Bool := if t = [] ∨ noteWr (candS t) ≠ t then (.zero, false) else (candS t, true)
def candI (t : List UInt8) : NoteR := ⟨natN ((cuts 4 t).getD 0 []), natN ((cuts 4 t).getD 1 []), natN ((cuts 4 t).getD 2 []), natN ((cuts 4 t).getD 3 []), (cuts 4 t).getD 4 []⟩
def readI (t : List UInt8) : NoteR × Bool := if (cuts 4 t).length ≠ 5 ∨ natsOk ((cuts 4 t).take 4) = false ∨ noteOk (candI t) = false ∨ noteWr (candI t) ≠ t then (.zero, false) else (candI t, true)

theorem word_app {w r : List UInt8} (h : ∀ b ∈ w, b ≠ 32) : wordOf (w ++ 32 :: r) = w ∧ restOf (w ++ 32 :: r) = r ∧ hasSp (w ++ 32 :: r) = true := by
  induction w with
  | nil => exact ⟨by simp [wordOf], by simp [restOf], by simp [hasSp]⟩
  | cons b w ih =>
    have hb : b ≠ 32 := h b (List.mem_cons_self ..)
    obtain ⟨h1, h2, h3⟩ := ih fun x hx => h x (List.mem_cons_of_mem _ hx)
    refine ⟨?_, ?_, ?_⟩
    · rw [List.cons_append]
      have : wordOf (b :: (w ++ 32 :: r)) = b :: wordOf (w ++ 32 :: r) := by simp [wordOf, hb]
      rw [this, h1]
    · rw [List.cons_append]
      have : restOf (b :: (w ++ 32 :: r)) = restOf (w ++ 32 :: r) := by simp [restOf, hb]
      rw [this, h2]
    · simp [hasSp]
theorem dec_nosp (n : Nat) : ∀ b ∈ dec n, b ≠ 32 := by
  intro b hb e
  have := dec_digits n b hb
  subst e
  exact absurd this (by decide)
theorem dec_len_of {k : Nat} : ∀ {n : Nat}, n < 10 ^ (k + 1) → (dec n).length ≤ k + 1 := by
  induction k with
  | zero =>
    intro n h
    rw [dec_small (by simpa using h)]; simp
  | succ k ih =>
    intro n h
    by_cases hs : n < 10
    · rw [dec_small hs]; simp
    · rw [dec_big (by omega), List.length_append]
      have := ih (n := n / 10) (by rw [Nat.pow_succ] at h; omega)
      simp; omega
theorem natV_dec {n : Nat} (h : n < 100000) : natV (dec n) = some n := by
  have hl : (dec n).length ≤ 5 := dec_len_of (k := 4) (by simpa using h)
  have h1 : 1 ≤ (dec n).length := List.length_pos_iff.2 (dec_ne n)
  have hd : digits (dec n) = true := List.all_eq_true.2 (dec_digits n)
  unfold natV
  rw [if_pos ⟨⟨h1, hl⟩, (dec_written h1 hd).1 (by rw [figV_dec]), hd⟩, figV_dec]
theorem decV_dec {n : Nat} (h : n < 10000) : decV (dec n) = n := by
  have hl : (dec n).length ≤ 4 := dec_len_of (k := 3) (by simpa using h)
  have h1 : 1 ≤ (dec n).length := List.length_pos_iff.2 (dec_ne n)
  unfold decV
  rw [if_pos ⟨⟨h1, hl⟩, List.all_eq_true.2 (dec_digits n), by rw [figV_dec]⟩, figV_dec]
theorem noteOk_parts {n : NoteR} (h : noteOk n = true) : (0 ≤ n.frm ∧ n.frm ≤ 3) ∧ (0 ≤ n.to ∧ n.to ≤ 3) ∧ (1 ≤ n.num ∧ n.num ≤ 99) ∧ (1 ≤ n.til ∧ n.til ≤ 999) ∧ (1 ≤ n.text.length ∧ n.text.length ≤ 24) := by
  simp only [noteOk, isNode, inB, textOk, Bool.and_eq_true, decide_eq_true_eq] at h
  omega
theorem line_parts (n : NoteR) : noteLine n = dec n.frm.toNat ++ 32 :: (dec n.num.toNat ++ 32 :: (dec n.to.toNat ++ 32 :: (dec n.til.toNat ++ 32 :: n.text))) := by simp [noteLine]
theorem cand_line {n : NoteR} (h : noteOk n = true) : candS (noteLine n) = n ∧ (cuts 4 (noteLine n)).length = 5 ∧ natsOk ((cuts 4 (noteLine n)).take 4) = true ∧ candI (noteLine n) = n := by
  obtain ⟨p1, p2, p3, p4, p5⟩ := noteOk_parts h
  obtain ⟨a1, a2, a3⟩ := word_app (r := dec n.num.toNat ++ 32 :: (dec n.to.toNat ++ 32 :: (dec n.til.toNat ++ 32 :: n.text))) (dec_nosp n.frm.toNat)
  obtain ⟨b1, b2, b3⟩ := word_app (r := dec n.to.toNat ++ 32 :: (dec n.til.toNat ++ 32 :: n.text)) (dec_nosp n.num.toNat)
  obtain ⟨c1, c2, c3⟩ := word_app (r := dec n.til.toNat ++ 32 :: n.text) (dec_nosp n.to.toNat)
  obtain ⟨d1, d2, d3⟩ := word_app (r := n.text) (dec_nosp n.til.toNat)
  have hc : cuts 4 (noteLine n) = [dec n.frm.toNat, dec n.num.toNat, dec n.to.toNat, dec n.til.toNat, n.text] := by
    rw [line_parts]
    simp only [cuts, a1, a2, a3, b1, b2, b3, c1, c2, c3, d1, d2, d3, if_true]
  have e : ∀ {x : Int}, 0 ≤ x → ((x.toNat : Nat) : Int) = x := fun h => by omega
  have v1 : decV (dec n.frm.toNat) = n.frm := by rw [decV_dec (by omega), e (by omega)]
  have v2 : decV (dec n.num.toNat) = n.num := by rw [decV_dec (by omega), e (by omega)]
  have v3 : decV (dec n.to.toNat) = n.to := by rw [decV_dec (by omega), e (by omega)]
  have v4 : decV (dec n.til.toNat) = n.til := by rw [decV_dec (by omega), e (by omega)]
  have w1 : natV (dec n.frm.toNat) = some n.frm.toNat := natV_dec (by omega)
  have w2 : natV (dec n.num.toNat) = some n.num.toNat := natV_dec (by omega)
  have w3 : natV (dec n.to.toNat) = some n.to.toNat := natV_dec (by omega)
  have w4 : natV (dec n.til.toNat) = some n.til.toNat := natV_dec (by omega)
  have u1 : natN (dec n.frm.toNat) = n.frm := by rw [natN, w1]; exact e (by omega)
  have u2 : natN (dec n.num.toNat) = n.num := by rw [natN, w2]; exact e (by omega)
  have u3 : natN (dec n.to.toNat) = n.to := by rw [natN, w3]; exact e (by omega)
  have u4 : natN (dec n.til.toNat) = n.til := by rw [natN, w4]; exact e (by omega)
  refine ⟨?_, by rw [hc]; rfl, ?_, ?_⟩
  · rw [line_parts]
    simp only [candS, numAt, restN, a1, a2, b1, b2, c1, c2, d1, d2, v1, v2, v3, v4]
  · rw [hc]
    simp [natsOk, w1, w2, w3, w4]
  · simp only [candI, hc, List.getD_cons_zero, List.getD_cons_succ, u1, u2, u3, u4]
theorem line_ne (n : NoteR) : noteLine n ≠ [] := by
  rw [line_parts]; simp
theorem readS_iff (t : List UInt8) (x : NoteR) (h : noteOk x = true) (e : noteLine x = t) : readS t = (x, true) := by
  subst e
  unfold readS
  rw [(cand_line h).1, if_neg]
  rintro (h1 | h1)
  · exact line_ne x h1
  · exact h1 (if_pos h)
theorem readI_iff (t : List UInt8) (x : NoteR) (h : noteOk x = true) (e : noteLine x = t) : readI t = (x, true) := by
  subst e
  obtain ⟨h1, h2, h3, h4⟩ := cand_line h
  unfold readI
  rw [h4, if_neg]
  rintro (h5 | h5 | h5 | h5)
  · exact h5 h2
  · rw [h3] at h5; cases h5
  · rw [h] at h5; cases h5
  · exact h5 (if_pos h)
theorem read_or (t : List UInt8) : (∃ x, noteOk x = true ∧ noteLine x = t ∧ readS t = (x, true) ∧ readI t = (x, true)) ∨ (readS t = (.zero, false) ∧ readI t = (.zero, false)) := by
  by_cases h : ∃ x, noteOk x = true ∧ noteLine x = t
  · obtain ⟨x, h1, h2⟩ := h
    exact .inl ⟨x, h1, h2, readS_iff t x h1 h2, readI_iff t x h1 h2⟩
  · refine .inr ⟨?_, ?_⟩
    · unfold readS
      rw [if_pos]
      by_cases h1 : t = []
      · exact .inl h1
      · refine .inr fun h2 => ?_
        unfold noteWr at h2
        split at h2
        · rename_i h3; exact h ⟨_, h3, h2⟩
        · exact h1 h2.symm
    · unfold readI
      rw [if_pos]
      by_cases h1 : noteOk (candI t) = true
      · refine .inr (.inr (.inr fun h2 => ?_))
        rw [noteWr, if_pos h1] at h2
        exact h ⟨_, h1, h2⟩
      · exact .inr (.inr (.inl (by simpa using h1)))
theorem readI_eq (t : List UInt8) : readI t = readS t := by
  rcases read_or t with ⟨x, _, _, h1, h2⟩ | ⟨h1, h2⟩ <;> rw [h1, h2]
end Go.Ab

namespace Go.Ab
open Go Go.RowKit
set_option linter.unusedVariables false
set_option linter.unusedSimpArgs false

theorem word_hit {s : List UInt8} {i : Nat} (hk : ∀ j, j < i → s.getD j 0 ≠ 32) (hi : i < s.length) (h : s.getD i 0 = 32) : wordOf s = s.take i ∧ restOf s = s.drop (i + 1) ∧ hasSp s = true := by
  have e : s = s.take i ++ 32 :: s.drop (i + 1) := by
    rw [← h, List.getD_eq_getElem?_getD, List.getElem?_eq_getElem hi]
    show s = List.take i s ++ s[i] :: List.drop (i + 1) s
    rw [← List.drop_eq_getElem_cons hi, List.take_append_drop]
  have hw : ∀ b ∈ s.take i, b ≠ 32 := by
    intro b hb
    obtain ⟨j, hj⟩ := List.mem_iff_getElem?.1 hb
    have hlt : j < i := by
      have := (List.getElem?_eq_some_iff.1 hj).1
      rw [List.length_take] at this; omega
    rw [List.getElem?_take_of_lt hlt] at hj
    have := hk j hlt
    rw [List.getD_eq_getElem?_getD, hj] at this
    exact this
  obtain ⟨h1, h2, h3⟩ := word_app (r := s.drop (i + 1)) hw
  rw [← e] at h1 h2 h3
  exact ⟨h1, h2, h3⟩
theorem word_none {s : List UInt8} (hk : ∀ j, j < s.length → s.getD j 0 ≠ 32) : wordOf s = s ∧ restOf s = [] ∧ hasSp s = false := by
  have hn : hasSp s = false := by
    unfold hasSp
    rw [List.any_eq_false]
    intro b hb
    obtain ⟨j, hj⟩ := List.mem_iff_getElem?.1 hb
    have := hk j (List.getElem?_eq_some_iff.1 hj).1
    rw [List.getD_eq_getElem?_getD, hj] at this
    simpa using this
  obtain ⟨q1, q2, q3⟩ := (indexByte_word s).2 hn
  exact ⟨q2, q3, hn⟩
theorem natsOk_no {l : List (List UInt8)} {i : Nat} (hi : i < l.length) (h : (natV (l.getD i [])).isSome = false) : natsOk l = false := by
  unfold natsOk
  rw [List.all_eq_false]
  refine ⟨l.getD i [], ?_, by rw [h]; decide⟩
  rw [List.getD_eq_getElem?_getD, List.getElem?_eq_getElem hi]
  exact List.getElem_mem _
theorem natsOk_yes {l : List (List UInt8)} (h : ∀ i, i < l.length → (natV (l.getD i [])).isSome = true) : natsOk l = true := by
  unfold natsOk
  rw [List.all_eq_true]
  intro x hx
  obtain ⟨j, hj⟩ := List.mem_iff_getElem?.1 hx
  have := h j (List.getElem?_eq_some_iff.1 hj).1
  rw [List.getD_eq_getElem?_getD, hj] at this
  exact this
theorem take_map_succ {l : List (List UInt8)} {i : Nat} (h : i < l.length) : (l.take (i + 1)).map natN = (l.take i).map natN ++ [natN (l.getD i [])] := by
  rw [List.take_add_one, List.getElem?_eq_getElem h, List.getD_eq_getElem?_getD, List.getElem?_eq_getElem h, List.map_append]
  rfl
def decI (n : Int) : List UInt8 := if n < 0 then 45 :: dec (-n).toNat else dec n.toNat
theorem mem_getD {α : Type} {l : List α} {i : Nat} {z : α} (h : i < l.length) : l.getD i z ∈ l := by
  rw [List.getD_eq_getElem?_getD, List.getElem?_eq_getElem h]
  exact List.getElem_mem _
end Go.Ab

namespace Go.Proofs.YtilahgkblckndaaGreatDoor
open Go Go.Ab Go.RowKit
set_option linter.unusedVariables false
set_option linter.unusedSimpArgs false

theorem s_natural (s : List UInt8) (hl : s.length ≤ 140737488355328) : Ab.Spec Tryz.prog 182 1 [(.t 0, .v (Dv (.s s)))] [(.t 0, .v (.tup [.c (.d (.i (natN s))), .c (.d (.b (natV s).isSome))]))] := s_impl_natural s hl
theorem s_itoaI (n : Int) (h : 0 ≤ n ∧ n ≤ 1000000) : Ab.Spec Tryz.prog 84 1 [(.t 0, .v (I n))] [(.t 0, .v (Dv (.s (dec n.toNat))))] := by
  obtain ⟨m, rfl⟩ := Int.eq_ofNat_of_zero_le h.1
  exact s_strconv_Itoa m (by omega)
theorem s_l6DecI (n : Int) (h : 0 ≤ n ∧ n ≤ 1000000) : Ab.Spec Tryz.prog 82 1 [(.t 0, .v (I n))] [(.t 0, .v (Dv (.s (dec n.toNat))))] := by
  obtain ⟨m, rfl⟩ := Int.eq_ofNat_of_zero_le h.1
  exact s_spec_l6Dec m (by omega)
theorem s_impl_naturals (l : List (List UInt8)) (hl : l.length ≤ 1000000) (hx : ∀ x ∈ l, x.length ≤ 1000000) : Ab.Spec Tryz.prog 206 1 [(.t 0, .v (Dv (.sl (strRows l))))] [(.t 0, .v (.tup [.c (.d (.sl (intRows (natsV l)))), .c (.d (.b (natsOk l)))]))] := by
  refine spec_of_body tabOk Tryz.func206 rfl (by kernel_rfl) (by decide) (by kernel_rfl) rfl ?_
  refine SW.seq ?_
  refine SW.regT tabOk [0] ?_
  refine ai trivial (ai trivial ?_)
  refine SW.seq ?_
  refine SW.regT tabOk [0, 4] ?_
  refine ai trivial ?_
  refine SW.seq ?_
  refine SW.seq ?_
  refine SW.regT tabOk [4, 9, 10, 11] ?_
  refine ai trivial (ai vc (ai trivial ?_))
  refine SW.block ?_
  -- live at the head: [4, 9, 10, 11]
  refine SW.nilOwn 4 8 3 1 rfl rfl ?_
  refine SW.loopW (n := l.length) (fun m q => ∃ i : Nat, m = l.length - i ∧ i ≤ l.length ∧ (∀ j, j < i → (natV (l.getD j [])).isSome = true) ∧ q = [(.t 4, .v (.e (.c (.own 8 (i))))), (.t 9, .v (Dv (.sl (strRows l)))), (.t 10, .v (I (l.length : Nat))), (.t 11, .v (I (i : Nat))), (.o 8, .row 3 1 (intRows ((l.take (i)).map natN)))]) ?_ ?_
  · skip
    refine wk [(.t 4, .v (.e (.c (.own 8 (0))))), (.t 9, .v (Dv (.sl (strRows l)))), (.t 10, .v (I (l.length : Nat))), (.t 11, .v (I (0 : Nat))), (.o 8, .row 3 1 (intRows ((l.take (0)).map natN)))] [] [] (⟨0, rfl, Nat.zero_le _, fun j h => absurd h (by omega), rfl⟩) ?_ rfl rfl
    repeat' first | exact trivial | refine mL_nil rfl ?_ | refine mL_d rfl ?_ ?_ | refine mL_own rfl rfl ?_ rfl ?_ | refine mL_row rfl ?_ ?_ | refine mL_pt rfl rfl rfl rfl ?_ | refine mL_box rfl ?_ ?_ | refine mL_agg rfl ?_ ?_ | exact mCs_nil0 | refine mCs_d ?_ ?_ | refine mCs_nil ?_ | refine mCs_own rfl ?_ rfl ?_ | refine mCs_pt rfl rfl rfl ?_
    all_goals first | with_reducible rfl | (first | with_reducible rfl | rfl | (rw [strRows_length]; done) | (simp [strRows_length]; done))
  rintro n s ⟨i, rfl, hi, hk, rfl⟩
  refine SW.seq ?_
  refine SW.regT tabOk [4, 9, 10, 11, 12] ?_
  refine ai trivial ?_
  refine SW.seq ?_
  refine SW.cond rfl (fun c12 => ?_) (fun c12 => ?_)
  · skip
    have hi2 : i < l.length := by simpa using c12
    have hg := strRows_getD (l := l) hi2
    refine SW.skip ?_
    refine SW.seq ?_
    refine SW.block ?_
    refine SW.seq ?_
    refine SW.regT tabOk [4, 6, 9, 10, 11] ?_
    refine ai (by rw [Int.toNat_natCast, hg]; exact ⟨⟨by omega, by rw [strRows_length]; omega⟩, rfl⟩) (ai (by rw [Int.toNat_natCast, hg]; exact ⟨Nat.le_of_ble_eq_true rfl, rfl⟩) (ai trivial ?_))
    refine SW.seq ?_
    refine SW.wk (J := fun s => s = [(.t 4, .v (.e (.c (.own 8 (i))))), (.t 6, .v (Dv (.s (l.getD i [])))), (.t 9, .v (Dv (.sl (strRows l)))), (.t 10, .v (I (l.length : Nat))), (.t 11, .v (I (i : Nat))), (.o 8, .row 3 1 (intRows ((l.take (i)).map natN)))]) ?_ ?_
    · skip
      refine wk [(.t 4, .v (.e (.c (.own 8 (i))))), (.t 6, .v (Dv (.s (l.getD i [])))), (.t 9, .v (Dv (.sl (strRows l)))), (.t 10, .v (I (l.length : Nat))), (.t 11, .v (I (i : Nat))), (.o 8, .row 3 1 (intRows ((l.take (i)).map natN)))] [] [] (rfl) ?_ rfl rfl
      repeat' first | exact trivial | refine mL_nil rfl ?_ | refine mL_d rfl ?_ ?_ | refine mL_own rfl rfl ?_ rfl ?_ | refine mL_row rfl ?_ ?_ | refine mL_pt rfl rfl rfl rfl ?_ | refine mL_box rfl ?_ ?_ | refine mL_agg rfl ?_ ?_ | exact mCs_nil0 | refine mCs_d ?_ ?_ | refine mCs_nil ?_ | refine mCs_own rfl ?_ rfl ?_ | refine mCs_pt rfl rfl rfl ?_
      all_goals first | with_reducible rfl | (first | with_reducible rfl | (rw [Int.toNat_natCast, hg]; rfl))
    rintro s rfl
    refine SW.regT tabOk [4, 7, 8, 9, 10, 11] ?_
    refine ai trivial ?_
    refine ex_pure (s_natural (l.getD i []) (by have := hx _ (mem_getD (z := []) hi2); omega)) rfl rfl rfl rfl rfl rfl rfl rfl ?_
    refine ai trivial (ai trivial (ai trivial (ai trivial (ai trivial ?_))))
    refine SW.seq ?_
    refine SW.seq ?_
    refine SW.regT tabOk [4, 7, 9, 10, 11, 21] ?_
    refine ai trivial (ai trivial ?_)
    refine SW.cond rfl (fun c21 => ?_) (fun c21 => ?_)
    · skip
      refine SW.seq ?_
      refine SW.regT tabOk [2, 3] ?_
      refine ai trivial (ai trivial ?_)
      refine SW.ret ?_
      have hno := natsOk_no hi2 (by simpa using c21)
      exact retOk _ [] [] rfl ⟨⟨_, rfl, congrArg D.sl (show intRows (natsV l) = [] by rw [natsV, hno]; rfl), congrArg D.b hno.symm, trivial⟩, trivial⟩ rfl rfl
    · skip
      refine SW.skip ?_
      refine SW.regT tabOk [4, 9, 10, 11] ?_
      refine ai trivial (ai trivial (ai (by exact ⟨by simp, Nat.le_of_ble_eq_true rfl⟩) (ai (by refine ⟨rfl, by rw [intRows_length, List.length_map, List.length_take]; omega, by simp, ?_⟩; show (_ + 1) * 8 ≤ _; omega) (ai trivial ?_))))
      refine SW.regT tabOk [4, 9, 10, 11] ?_
      refine ai trivial (ai trivial ?_)
      have hs : (natV (l.getD i [])).isSome = true := by simpa using c21
      refine wk [(.t 4, .v (.e (.c (.own 8 ((i + 1)))))), (.t 9, .v (Dv (.sl (strRows l)))), (.t 10, .v (I (l.length : Nat))), (.t 11, .v (I ((i + 1) : Nat))), (.o 8, .row 3 1 (intRows ((l.take ((i + 1))).map natN)))] [] [] (⟨l.length - (i + 1), by omega, i + 1, rfl, by omega, fun j h => by by_cases e : j = i; exact e ▸ hs; exact hk j (by omega), rfl⟩) ?_ rfl rfl
      repeat' first | exact trivial | refine mL_nil rfl ?_ | refine mL_d rfl ?_ ?_ | refine mL_own rfl rfl ?_ rfl ?_ | refine mL_row rfl ?_ ?_ | refine mL_pt rfl rfl rfl rfl ?_ | refine mL_box rfl ?_ ?_ | refine mL_agg rfl ?_ ?_ | exact mCs_nil0 | refine mCs_d ?_ ?_ | refine mCs_nil ?_ | refine mCs_own rfl ?_ rfl ?_ | refine mCs_pt rfl rfl rfl ?_
      all_goals first | with_reducible rfl | (first | with_reducible rfl | rfl | (rw [take_map_succ hi2]; exact intRows_push _ _) | (exact congrArg D.i (by rw [wrap64_of (by omega)]; omega)) | (simp [intRows_length, List.length_take]; omega))
  · skip
    have hi3 : i = l.length := by simp at c12; omega
    refine SW.exit ?_
    refine SW.seq ?_
    refine SW.regT tabOk [2, 3] ?_
    refine ai trivial (ai trivial (ai trivial ?_))
    refine SW.ret ?_
    have hyes := natsOk_yes (hi3 ▸ hk)
    exact retOk _ [] [8] rfl ⟨⟨_, rfl, ⟨by simp, _, _, _, rfl, by rw [intRows_length, List.length_map, List.length_take]; omega, congrArg D.sl (by rw [natsV, if_pos hyes, hi3, List.take_length])⟩, congrArg D.b hyes.symm, trivial⟩, trivial⟩ rfl rfl

theorem s_spec_l3Word (s : List UInt8) (hl : s.length ≤ 1000000) : Ab.Spec Tryz.prog 188 1 [(.t 0, .v (Dv (.s s)))] [(.t 0, .v (.tup [.c (.d (.s (wordOf s))), .c (.d (.s (restOf s)))]))] := by
  refine spec_of_body tabOk Tryz.func188 rfl (by kernel_rfl) (by decide) (by kernel_rfl) rfl ?_
  refine SW.seq ?_
  refine SW.regT tabOk [0] ?_
  refine ai trivial (ai trivial ?_)
  refine SW.seq ?_
  refine SW.seq ?_
  refine SW.regT tabOk [0, 4] ?_
  refine ai trivial ?_
  refine SW.block ?_
  -- live at the head: [0, 4]
  refine SW.loopW (n := s.length) (fun m q => ∃ i : Nat, m = s.length - i ∧ i ≤ s.length ∧ (∀ j, j < i → s.getD j 0 ≠ 32) ∧ q = [(.t 0, .v (Dv (.s s))), (.t 4, .v (I (i : Nat)))]) ?_ ?_
  · skip
    refine wk [(.t 0, .v (Dv (.s s))), (.t 4, .v (I (0 : Nat)))] [] [] (⟨0, rfl, Nat.zero_le _, fun j h => absurd h (by omega), rfl⟩) ?_ rfl rfl
    repeat' first | exact trivial | refine mL_nil rfl ?_ | refine mL_d rfl ?_ ?_ | refine mL_own rfl rfl ?_ rfl ?_ | refine mL_row rfl ?_ ?_ | refine mL_pt rfl rfl rfl rfl ?_ | refine mL_box rfl ?_ ?_ | refine mL_agg rfl ?_ ?_ | exact mCs_nil0 | refine mCs_d ?_ ?_ | refine mCs_nil ?_ | refine mCs_own rfl ?_ rfl ?_ | refine mCs_pt rfl rfl rfl ?_
    all_goals first | with_reducible rfl | (first | rfl | (simp; done) | omega)
  rintro n s ⟨i, rfl, hi, hk, rfl⟩
  refine SW.seq ?_
  refine SW.seq ?_
  refine SW.regT tabOk [0, 4, 8] ?_
  refine ai trivial (ai trivial (ai vc (ai trivial ?_)))
  refine SW.cond rfl (fun c8 => ?_) (fun c8 => ?_)
  · skip
    have hi2 : i < s.length := by simpa using c8
    refine SW.skip ?_
    refine SW.seq ?_
    refine SW.block ?_
    refine SW.seq ?_
    refine SW.regT tabOk [0, 4, 14] ?_
    refine ai trivial (ai trivial (ai (by exact ⟨by omega, by omega⟩) (ai trivial ?_)))
    refine SW.cond rfl (fun c14 => ?_) (fun c14 => ?_)
    · skip
      have h32 : s.getD i 0 = 32 := by
        have h9 := c14
        rw [Int.toNat_natCast] at h9
        have h10 : ((s.getD i 0).toNat : Int) = 32 := by simpa only [beq_iff_eq] using h9
        apply UInt8.toNat_inj.1
        have h6 : (32 : UInt8).toNat = 32 := rfl
        omega
      obtain ⟨e1, e2, e3⟩ := word_hit hk hi2 h32
      refine SW.seq ?_
      refine SW.regD tabOk mo [2, 3] ?_
      refine ai trivial (ai trivial (ai (by simp [bnd, loOf, hiOf]; omega) (ai trivial (ai trivial (ai trivial (ai (by rw [wrap64_of (by omega)]; simp [bnd, loOf, hiOf]; omega) (ai trivial (ai trivial (ai (by kernel_rfl) ?_)))))))))
      refine SW.ret ?_
      refine retOkP rfl rfl ?_
      rw [e1, e2, wrap64_of (by omega)]
      simp [loOf, hiOf]
    · skip
      refine SW.skip ?_
      refine SW.regT tabOk [0, 4] ?_
      refine ai trivial (ai trivial (ai trivial ?_))
      have hs : s.getD i 0 ≠ 32 := by
        have h9 := c14
        rw [Int.toNat_natCast] at h9
        intro e
        rw [e] at h9
        exact absurd h9 (by decide)
      refine wk [(.t 0, .v (Dv (.s s))), (.t 4, .v (I ((i + 1) : Nat)))] [] [] (⟨s.length - (i + 1), by omega, i + 1, rfl, by omega, fun j h => by by_cases e : j = i; exact e ▸ hs; exact hk j (by omega), rfl⟩) ?_ rfl rfl
      repeat' first | exact trivial | refine mL_nil rfl ?_ | refine mL_d rfl ?_ ?_ | refine mL_own rfl rfl ?_ rfl ?_ | refine mL_row rfl ?_ ?_ | refine mL_pt rfl rfl rfl rfl ?_ | refine mL_box rfl ?_ ?_ | refine mL_agg rfl ?_ ?_ | exact mCs_nil0 | refine mCs_d ?_ ?_ | refine mCs_nil ?_ | refine mCs_own rfl ?_ rfl ?_ | refine mCs_pt rfl rfl rfl ?_
      all_goals first | with_reducible rfl | (first | with_reducible rfl | exact congrArg D.i (wrap64_of (by omega)))
  · skip
    have hi3 : i = s.length := by simp at c8; omega
    refine SW.exit ?_
    refine SW.seq ?_
    refine SW.regT tabOk [2, 3] ?_
    refine ai trivial (ai trivial (ai trivial ?_))
    refine SW.ret ?_
    obtain ⟨e1, e2, e3⟩ := word_none (hi3 ▸ hk)
    refine retOkP rfl rfl ?_
    rw [e1, e2]
    rfl

end Go.Proofs.YtilahgkblckndaaGreatDoor

namespace Go.Proofs.YtilahgkblckndaaGreatDoor
open Go Go.Ab Go.RowKit
set_option linter.unusedVariables false
set_option linter.unusedSimpArgs false

theorem s_spec_l3Nums (s : List UInt8) (n : Nat) (hl : s.length ≤ 1000000) (hn : n ≤ 100) : Ab.Spec Tryz.prog 193 2 [(.t 0, .v (Dv (.s s))), (.t 1, .v (I (n : Nat)))] [(.t 0, .v (.tup [.c (.d (.sl (intRows (numsL n s)))), .c (.d (.s (restN n s)))]))] := by
  refine spec_of_body tabOk Tryz.func193 rfl (by kernel_rfl) (by decide) (by kernel_rfl) rfl ?_
  refine SW.seq ?_
  refine SW.regT tabOk [0, 1] ?_
  refine ai trivial (ai trivial ?_)
  refine SW.seq ?_
  refine SW.regT tabOk [0, 1, 6] ?_
  refine ai (by exact ⟨by simp, Nat.le_of_ble_eq_true rfl⟩) (ai trivial ?_)
  refine SW.seq ?_
  refine SW.seq ?_
  refine SW.regT tabOk [0, 1, 6, 7] ?_
  refine ai trivial ?_
  refine SW.block ?_
  -- live at the head: [0, 1, 6, 7]
  refine SW.loopW (n := n) (fun m q => ∃ i : Nat, m = n - i ∧ i ≤ n ∧ q = [(.t 0, .v (Dv (.s (restN (i) s)))), (.t 1, .v (I (n : Nat))), (.t 6, .v (.e (.c (.own 10 (i))))), (.t 7, .v (I (i : Nat))), (.o 10, .row 3 1 (intRows (numsL (i) s)))]) ?_ ?_
  · skip
    refine wk [(.t 0, .v (Dv (.s (restN (0) s)))), (.t 1, .v (I (n : Nat))), (.t 6, .v (.e (.c (.own 10 (0))))), (.t 7, .v (I (0 : Nat))), (.o 10, .row 3 1 (intRows (numsL (0) s)))] [] [] (⟨0, rfl, Nat.zero_le _, rfl⟩) ?_ rfl rfl
    repeat' first | exact trivial | refine mL_nil rfl ?_ | refine mL_d rfl ?_ ?_ | refine mL_own rfl rfl ?_ rfl ?_ | refine mL_row rfl ?_ ?_ | refine mL_pt rfl rfl rfl rfl ?_ | refine mL_box rfl ?_ ?_ | refine mL_agg rfl ?_ ?_ | exact mCs_nil0 | refine mCs_d ?_ ?_ | refine mCs_nil ?_ | refine mCs_own rfl ?_ rfl ?_ | refine mCs_pt rfl rfl rfl ?_
    all_goals first | with_reducible rfl | (first | with_reducible rfl | rfl)
  rintro n s ⟨i, rfl, hi, rfl⟩
  refine SW.seq ?_
  refine SW.seq ?_
  refine SW.regT tabOk [0, 1, 6, 7, 13] ?_
  refine ai trivial (ai trivial (ai trivial ?_))
  refine SW.cond rfl (fun c13 => ?_) (fun c13 => ?_)
  · skip
    have hi2 : i < n := by simpa using c13
    have hr := restN_le i s
    have hr2 := wordOf_le (restN i s)
    refine SW.skip ?_
    refine SW.seq ?_
    refine SW.block ?_
    refine SW.seq ?_
    refine SW.regT tabOk [1, 6, 7, 8, 9] ?_
    refine ai trivial ?_
    refine ex_pure (s_spec_l3Word (restN i s) (by omega)) rfl rfl rfl rfl rfl rfl rfl rfl ?_
    refine ai trivial (ai trivial (ai trivial (ai trivial (ai trivial ?_))))
    refine SW.seq ?_
    refine SW.regT tabOk [1, 6, 7, 9] ?_
    refine ai trivial (ai trivial ?_)
    refine ex_pure (s_spec_l3Dec (wordOf (restN i s)) (by omega)) rfl rfl rfl rfl rfl rfl rfl rfl ?_
    refine ai (by exact ⟨by simp, Nat.le_of_ble_eq_true rfl⟩) (ai (by refine ⟨rfl, by rw [intRows_length, numsL_length], by simp, ?_⟩; show (_ + 1) * 8 ≤ _; omega) (ai trivial ?_))
    refine SW.regT tabOk [0, 1, 6, 7] ?_
    refine ai trivial (ai trivial ?_)
    refine SW.regT tabOk [0, 1, 6, 7] ?_
    refine ai trivial (ai trivial (ai trivial ?_))
    refine wk [(.t 0, .v (Dv (.s (restN ((i + 1)) s)))), (.t 1, .v (I (n : Nat))), (.t 6, .v (.e (.c (.own 10 ((i + 1)))))), (.t 7, .v (I ((i + 1) : Nat))), (.o 10, .row 3 1 (intRows (numsL ((i + 1)) s)))] [] [] (⟨n - (i + 1), by omega, i + 1, rfl, by omega, rfl⟩) ?_ rfl rfl
    repeat' first | exact trivial | refine mL_nil rfl ?_ | refine mL_d rfl ?_ ?_ | refine mL_own rfl rfl ?_ rfl ?_ | refine mL_row rfl ?_ ?_ | refine mL_pt rfl rfl rfl rfl ?_ | refine mL_box rfl ?_ ?_ | refine mL_agg rfl ?_ ?_ | exact mCs_nil0 | refine mCs_d ?_ ?_ | refine mCs_nil ?_ | refine mCs_own rfl ?_ rfl ?_ | refine mCs_pt rfl rfl rfl ?_
    all_goals first | with_reducible rfl | (first | with_reducible rfl | rfl | (rw [numsL_succ]; exact intRows_push _ _) | (exact congrArg D.i (by rw [wrap64_of (by omega)]; omega)) | (simp [intRows_length, numsL_length]; done))
  · skip
    have hi3 : i = n := by simp at c13; omega
    refine SW.exit ?_
    refine SW.seq ?_
    refine SW.regT tabOk [4, 5] ?_
    refine ai trivial (ai trivial (ai trivial (ai trivial ?_)))
    refine SW.ret ?_
    subst hi3
    exact retOk _ [] [10] rfl ⟨⟨_, rfl, ⟨by simp, _, _, _, rfl, by rw [intRows_length, numsL_length], rfl⟩, rfl, trivial⟩, trivial⟩ rfl rfl

theorem s_impl_NoteWrite (n : NoteR) (hl : n.text.length ≤ 140737488355328) : Ab.Spec Tryz.prog 86 1 [(.t 0, .v (n.V))] [(.t 0, .v (Dv (.s (noteWr n))))] := by
  refine spec_of_body tabOk Tryz.func86 rfl (by kernel_rfl) (by decide) (by kernel_rfl) rfl ?_
  refine SW.seq ?_
  refine SW.regT tabOk [1] ?_
  refine ai trivial (ai trivial ?_)
  refine SW.seq ?_
  refine SW.seq ?_
  refine SW.regT tabOk [1, 5] ?_
  refine ai vc ?_
  refine ex_pure (s_impl_NoteOk _ vc) rfl rfl rfl rfl rfl rfl rfl rfl ?_
  refine ai trivial ?_
  refine SW.cond rfl (fun c5 => ?_) (fun c5 => ?_)
  · skip
    refine SW.seq ?_
    refine SW.regT tabOk [2] ?_
    refine ai trivial ?_
    refine SW.ret ?_
    refine retOk1 rfl (congrArg D.s ?_)
    have hno : noteOk n = false := by simpa using c5
    rw [noteWr, hno]; rfl
  · skip
    have hok : noteOk n = true := by simpa using c5
    obtain ⟨p1, p2, p3, p4, p5⟩ := noteOk_parts hok
    have q1 := dec_len_of (k := 3) (n := n.frm.toNat) (by simp; omega)
    have q2 := dec_len_of (k := 3) (n := n.num.toNat) (by simp; omega)
    have q3 := dec_len_of (k := 3) (n := n.to.toNat) (by simp; omega)
    have q4 := dec_len_of (k := 3) (n := n.til.toNat) (by simp; omega)
    refine SW.skip ?_
    refine SW.seq ?_
    refine SW.regD tabOk mo [2] ?_
    refine ai (by first | trivial | rfl) (ai vc ?_)
    refine ex_pure (s_itoaI n.frm (by omega)) rfl rfl rfl rfl rfl rfl rfl rfl ?_
    refine ai (by show _ ≤ 9223372036854775807; simp only [List.length_append, List.length_cons, List.length_nil]; omega) (ai (by first | trivial | rfl) (ai vc ?_))
    refine ex_pure (s_itoaI n.num (by omega)) rfl rfl rfl rfl rfl rfl rfl rfl ?_
    refine ai (by show _ ≤ 9223372036854775807; simp only [List.length_append, List.length_cons, List.length_nil]; omega) (ai (by show _ ≤ 9223372036854775807; simp only [List.length_append, List.length_cons, List.length_nil]; omega) (ai (by first | trivial | rfl) (ai vc ?_)))
    refine ex_pure (s_itoaI n.to (by omega)) rfl rfl rfl rfl rfl rfl rfl rfl ?_
    refine ai (by show _ ≤ 9223372036854775807; simp only [List.length_append, List.length_cons, List.length_nil]; omega) (ai (by show _ ≤ 9223372036854775807; simp only [List.length_append, List.length_cons, List.length_nil]; omega) (ai (by first | trivial | rfl) (ai vc ?_)))
    refine ex_pure (s_itoaI n.til (by omega)) rfl rfl rfl rfl rfl rfl rfl rfl ?_
    refine ai (by show _ ≤ 9223372036854775807; simp only [List.length_append, List.length_cons, List.length_nil]; omega) (ai (by show _ ≤ 9223372036854775807; simp only [List.length_append, List.length_cons, List.length_nil]; omega) (ai (by first | trivial | rfl) (ai vc (ai (by show _ ≤ 9223372036854775807; simp only [List.length_append, List.length_cons, List.length_nil]; omega) (ai trivial (ai (by kernel_rfl) ?_))))))
    refine SW.ret ?_
    refine retOk1 rfl (congrArg D.s ?_)
    rw [noteWr, if_pos hok]; rfl

theorem s_spec_NoteWrite (n : NoteR) (hl : n.text.length ≤ 140737488355328) : Ab.Spec Tryz.prog 85 1 [(.t 0, .v (n.V))] [(.t 0, .v (Dv (.s (noteWr n))))] := by
  refine spec_of_body tabOk Tryz.func85 rfl (by kernel_rfl) (by decide) (by kernel_rfl) rfl ?_
  refine SW.seq ?_
  refine SW.regT tabOk [1] ?_
  refine ai trivial (ai trivial ?_)
  refine SW.seq ?_
  refine SW.seq ?_
  refine SW.regT tabOk [1, 5] ?_
  refine ai vc ?_
  refine ex_pure (s_spec_NoteOk _ vc) rfl rfl rfl rfl rfl rfl rfl rfl ?_
  refine ai trivial ?_
  refine SW.cond rfl (fun c5 => ?_) (fun c5 => ?_)
  · skip
    refine SW.seq ?_
    refine SW.regT tabOk [2] ?_
    refine ai trivial ?_
    refine SW.ret ?_
    refine retOk1 rfl (congrArg D.s ?_)
    have hno : noteOk n = false := by simpa using c5
    rw [noteWr, hno]; rfl
  · skip
    have hok : noteOk n = true := by simpa using c5
    obtain ⟨p1, p2, p3, p4, p5⟩ := noteOk_parts hok
    have q1 := dec_len_of (k := 3) (n := n.frm.toNat) (by simp; omega)
    have q2 := dec_len_of (k := 3) (n := n.num.toNat) (by simp; omega)
    have q3 := dec_len_of (k := 3) (n := n.to.toNat) (by simp; omega)
    have q4 := dec_len_of (k := 3) (n := n.til.toNat) (by simp; omega)
    refine SW.skip ?_
    refine SW.seq ?_
    refine SW.regD tabOk mo [2] ?_
    refine ai (by first | trivial | rfl) (ai vc ?_)
    refine ex_pure (s_l6DecI n.frm (by omega)) rfl rfl rfl rfl rfl rfl rfl rfl ?_
    refine ai (by show _ ≤ 9223372036854775807; simp only [List.length_append, List.length_cons, List.length_nil]; omega) (ai (by first | trivial | rfl) (ai vc ?_))
    refine ex_pure (s_l6DecI n.num (by omega)) rfl rfl rfl rfl rfl rfl rfl rfl ?_
    refine ai (by show _ ≤ 9223372036854775807; simp only [List.length_append, List.length_cons, List.length_nil]; omega) (ai (by show _ ≤ 9223372036854775807; simp only [List.length_append, List.length_cons, List.length_nil]; omega) (ai (by first | trivial | rfl) (ai vc ?_)))
    refine ex_pure (s_l6DecI n.to (by omega)) rfl rfl rfl rfl rfl rfl rfl rfl ?_
    refine ai (by show _ ≤ 9223372036854775807; simp only [List.length_append, List.length_cons, List.length_nil]; omega) (ai (by show _ ≤ 9223372036854775807; simp only [List.length_append, List.length_cons, List.length_nil]; omega) (ai (by first | trivial | rfl) (ai vc ?_)))
    refine ex_pure (s_l6DecI n.til (by omega)) rfl rfl rfl rfl rfl rfl rfl rfl ?_
    refine ai (by show _ ≤ 9223372036854775807; simp only [List.length_append, List.length_cons, List.length_nil]; omega) (ai (by show _ ≤ 9223372036854775807; simp only [List.length_append, List.length_cons, List.length_nil]; omega) (ai (by first | trivial | rfl) (ai vc (ai (by show _ ≤ 9223372036854775807; simp only [List.length_append, List.length_cons, List.length_nil]; omega) (ai trivial (ai (by kernel_rfl) ?_))))))
    refine SW.ret ?_
    refine retOk1 rfl (congrArg D.s ?_)
    rw [noteWr, if_pos hok]; rfl

end Go.Proofs.YtilahgkblckndaaGreatDoor

namespace Go.Ab
open Go Go.RowKit
set_option linter.unusedVariables false
set_option linter.unusedSimpArgs false

theorem cuts_le : ∀ (n : Nat) (s : List UInt8), ∀ x ∈ cuts n s, x.length ≤ s.length
  | 0, s, x, h => by
    rw [List.mem_singleton.1 h]; exact Nat.le_refl _
  | n + 1, s, x, h => by
    unfold cuts at h
    by_cases hs : hasSp s = true
    · rw [if_pos hs] at h
      rcases List.mem_cons.1 h with rfl | h
      · exact wordOf_le s
      · exact Nat.le_trans (cuts_le n _ x h) (restOf_le s)
    · rw [if_neg hs] at h
      rw [List.mem_singleton.1 h]; exact Nat.le_refl _
theorem getD_take {α : Type} {l : List α} {n i : Nat} {z : α} (h : i < n) : (l.take n).getD i z = l.getD i z := by
  rw [List.getD_eq_getElem?_getD, List.getElem?_take_of_lt h, ← List.getD_eq_getElem?_getD]
theorem natsV_len {l : List (List UInt8)} (h : natsOk l = true) : (natsV l).length = l.length := by rw [natsV, if_pos h, List.length_map]
theorem natsV_at {l : List (List UInt8)} (h : natsOk l = true) {i : Nat} (hi : i < l.length) : (natsV l).getD i 0 = natN (l.getD i []) := by
  rw [natsV, if_pos h, List.getD_eq_getElem?_getD, List.getElem?_map, List.getElem?_eq_getElem hi, List.getD_eq_getElem?_getD, List.getElem?_eq_getElem hi]
  rfl
theorem int_ld {l : List Int} {i : Nat} (h : i < l.length) : (intRows l).getD (i : Int).toNat [] = [.i (l.getD i 0)] := by
  rw [Int.toNat_natCast, intRows_getD h]
theorem strRows_take (l : List (List UInt8)) (n : Nat) : (strRows l).take n = strRows (l.take n) := by simp [strRows, List.map_take]
theorem numsL_at {n : Nat} {s : List UInt8} {i : Nat} (h : i < n) : (numsL n s).getD i 0 = numAt s i := by
  unfold numsL
  rw [List.getD_eq_getElem?_getD, List.getElem?_map, List.getElem?_range h]
  rfl
theorem readI_no {t : List UInt8} (h : (cuts 4 t).length ≠ 5 ∨ natsOk ((cuts 4 t).take 4) = false ∨ noteOk (candI t) = false ∨ noteWr (candI t) ≠ t) : readS t = (.zero, false) := by
  rw [← readI_eq, readI, if_pos h]
theorem readI_yes {t : List UInt8} (h1 : (cuts 4 t).length = 5) (h2 : natsOk ((cuts 4 t).take 4) = true) (h3 : noteOk (candI t) = true) (h4 : noteWr (candI t) = t) : readS t = (candI t, true) := by
  rw [← readI_eq, readI, if_neg]
  rintro (h | h | h | h)
  · exact h h1
  · rw [h2] at h; cases h
  · rw [h3] at h; cases h
  · exact h h4
theorem nat_at {l : List (List UInt8)} (h : natsOk (l.take 4) = true) (h5 : l.length = 5) {i : Nat} (hi : i < 4) : toI (((intRows (natsV (l.take 4))).getD i []).getD 0 (.i 0)) = natN (l.getD i []) := by
  have hl : i < (l.take 4).length := by rw [List.length_take]; omega
  rw [intRows_getD (by rw [natsV_len h]; exact hl)]
  show (natsV (l.take 4)).getD i 0 = _
  rw [natsV_at h hl, getD_take hi]
theorem nums_at {s : List UInt8} {i : Nat} (hi : i < 4) : toI (((intRows (numsL 4 s)).getD i []).getD 0 (.i 0)) = numAt s i := by
  rw [intRows_getD (by rw [numsL_length]; exact hi)]
  exact numsL_at hi
end Go.Ab

namespace Go.Proofs.YtilahgkblckndaaGreatDoor
open Go Go.Ab Go.RowKit
set_option linter.unusedVariables false
set_option linter.unusedSimpArgs false

set_option maxHeartbeats 1600000 in
theorem s_impl_NoteRead (s : List UInt8) (hl : s.length ≤ 1000000) : Ab.Spec Tryz.prog 204 1 [(.t 0, .v (Dv (.s s)))] [(.t 0, .v (.tup [.agg [.d (.i ((readS s).1).frm), .d (.i ((readS s).1).num), .d (.i ((readS s).1).to), .d (.i ((readS s).1).til), .d (.s ((readS s).1).text)], .c (.d (.b (readS s).2))]))] := by
  refine spec_of_body tabOk Tryz.func204 rfl (by kernel_rfl) (by decide) (by kernel_rfl) rfl ?_
  refine SW.seq ?_
  refine SW.regT tabOk [0, 2, 43, 44, 45, 46] ?_
  refine ai trivial (ai trivial ?_)
  refine SW.seq ?_
  refine SW.regT tabOk [0, 2, 4, 43, 44, 45, 46] ?_
  refine ai trivial ?_
  refine ex_pure (s_strings_SplitN s hl) rfl rfl rfl rfl rfl rfl rfl rfl ?_
  refine ai trivial ?_
  refine SW.seq ?_
  refine SW.seq ?_
  refine SW.regT tabOk [0, 2, 4, 12, 43, 44, 45, 46] ?_
  refine ai trivial (ai vc (ai trivial ?_))
  refine SW.cond rfl (fun c12 => ?_) (fun c12 => ?_)
  · skip
    refine SW.seq ?_
    refine SW.regT tabOk [2, 3] ?_
    refine ai vc (ai ⟨by kernel_rfl, Nat.le_of_ble_eq_true (by kernel_rfl)⟩ (ai trivial ?_))
    refine SW.ret ?_
    refine retOkP rfl rfl ?_
    rw [readI_no (.inl (by simp [strRows_length] at c12; omega))]
    rfl
  · skip
    have h5 : (cuts 4 s).length = 5 := by simp [strRows_length] at c12; omega
    refine SW.skip ?_
    refine SW.seq ?_
    refine SW.regT tabOk [0, 2, 4, 5, 6, 43, 44, 45, 46] ?_
    refine ai trivial (ai (by refine ⟨?_, strRows_len1 _⟩; rw [strRows_length, h5]; simp [bnd, loOf, hiOf]) ?_)
    refine ex_pure (s_impl_naturals ((cuts 4 s).take 4) (by rw [List.length_take]; omega) (fun x hx => by have := cuts_le 4 s x (List.mem_of_mem_take hx); omega)) rfl rfl rfl rfl rfl (by show _ = argSt 0 [Dv (.sl (List.drop 0 (List.take 4 (strRows (cuts 4 s)))))]; rw [List.drop_zero, strRows_take]; rfl) rfl rfl ?_
    refine ai trivial (ai trivial (ai trivial (ai trivial (ai trivial ?_))))
    refine SW.seq ?_
    refine SW.seq ?_
    refine SW.regT tabOk [0, 2, 4, 5, 21, 43, 44, 45, 46] ?_
    refine ai trivial (ai trivial ?_)
    refine SW.cond rfl (fun c21 => ?_) (fun c21 => ?_)
    · skip
      refine SW.seq ?_
      refine SW.regT tabOk [2, 3] ?_
      refine ai vc (ai ⟨by kernel_rfl, Nat.le_of_ble_eq_true (by kernel_rfl)⟩ (ai trivial ?_))
      refine SW.ret ?_
      refine retOkP rfl rfl ?_
      rw [readI_no (.inr (.inl (by simpa using c21)))]
      rfl
    · skip
      have hok : natsOk ((cuts 4 s).take 4) = true := by simpa using c21
      refine SW.skip ?_
      refine SW.seq ?_
      refine SW.regD tabOk mo [0, 2, 7, 43, 44, 45, 46] ?_
      refine ai trivial (ai (by exact ixI (l := natsV ((cuts 4 s).take 4)) (by omega) (by rw [natsV_len hok, List.length_take]; omega)) (ai (by have := int_ld (l := natsV ((cuts 4 s).take 4)) (i := 0) (by rw [natsV_len hok, List.length_take]; omega); first | (rw [show ((0 : Int)).toNat = ((0 : Nat) : Int).toNat from rfl, this]; exact ⟨Nat.le_of_ble_eq_true rfl, rfl⟩)) (ai trivial (ai (by exact ixI (l := natsV ((cuts 4 s).take 4)) (by omega) (by rw [natsV_len hok, List.length_take]; omega)) (ai (by have := int_ld (l := natsV ((cuts 4 s).take 4)) (i := 1) (by rw [natsV_len hok, List.length_take]; omega); first | (rw [show ((1 : Int)).toNat = ((1 : Nat) : Int).toNat from rfl, this]; exact ⟨Nat.le_of_ble_eq_true rfl, rfl⟩)) (ai trivial (ai (by exact ixI (l := natsV ((cuts 4 s).take 4)) (by omega) (by rw [natsV_len hok, List.length_take]; omega)) (ai (by have := int_ld (l := natsV ((cuts 4 s).take 4)) (i := 2) (by rw [natsV_len hok, List.length_take]; omega); first | (rw [show ((2 : Int)).toNat = ((2 : Nat) : Int).toNat from rfl, this]; exact ⟨Nat.le_of_ble_eq_true rfl, rfl⟩)) (ai trivial (ai (by exact ixI (l := natsV ((cuts 4 s).take 4)) (by omega) (by rw [natsV_len hok, List.length_take]; omega)) (ai (by have := int_ld (l := natsV ((cuts 4 s).take 4)) (i := 3) (by rw [natsV_len hok, List.length_take]; omega); first | (rw [show ((3 : Int)).toNat = ((3 : Nat) : Int).toNat from rfl, this]; exact ⟨Nat.le_of_ble_eq_true rfl, rfl⟩)) (ai trivial (ai (by exact ixS (l := cuts 4 s) (by omega) (by omega)) (ai (by exact ldS (l := cuts 4 s) (by omega) (by omega)) (ai vc (ai trivial (ai ⟨by kernel_rfl, Nat.le_of_ble_eq_true (by kernel_rfl)⟩ (ai (by kernel_rfl) ?_))))))))))))))))))
      refine SW.seq ?_
      refine SW.seq ?_
      refine SW.wk (J := fun q => q = [(.t 0, .v (Dv (.s s))), (.t 2, .v (.e (.c (.pt 2 0)))), (.t 7, .v (.e (.c (.pt 7 0)))), (.o 2, .box 64 [.d (.i 0), .d (.i 0), .d (.i 0), .d (.i 0), .d (.s [])]), (.o 7, .box 64 [.d (.i (candI s).frm), .d (.i (candI s).num), .d (.i (candI s).to), .d (.i (candI s).til), .d (.s (candI s).text)])]) ?_ ?_
      · skip
        refine wk [(.t 0, .v (Dv (.s s))), (.t 2, .v (.e (.c (.pt 2 0)))), (.t 7, .v (.e (.c (.pt 7 0)))), (.o 2, .box 64 [.d (.i 0), .d (.i 0), .d (.i 0), .d (.i 0), .d (.s [])]), (.o 7, .box 64 [.d (.i (candI s).frm), .d (.i (candI s).num), .d (.i (candI s).to), .d (.i (candI s).til), .d (.s (candI s).text)])] [] [] (rfl) ?_ rfl rfl
        repeat' first | exact trivial | refine mL_nil rfl ?_ | refine mL_d rfl ?_ ?_ | refine mL_own rfl rfl ?_ rfl ?_ | refine mL_row rfl ?_ ?_ | refine mL_pt rfl rfl rfl rfl ?_ | refine mL_box rfl ?_ ?_ | refine mL_agg rfl ?_ ?_ | exact mCs_nil0 | refine mCs_d ?_ ?_ | refine mCs_nil ?_ | refine mCs_own rfl ?_ rfl ?_ | refine mCs_pt rfl rfl rfl ?_
        all_goals first | with_reducible rfl | (first | with_reducible rfl | exact congrArg D.i (nat_at hok h5 (i := 0) (by omega)) | exact congrArg D.i (nat_at hok h5 (i := 1) (by omega)) | exact congrArg D.i (nat_at hok h5 (i := 2) (by omega)) | exact congrArg D.i (nat_at hok h5 (i := 3) (by omega)) | exact congrArg D.s (valS (l := cuts 4 s) (j := 4) (by omega) (by omega)))
      rintro q rfl
      refine SW.regT tabOk [2, 7, 47] ?_
      refine ai vc ?_
      refine ex_pure (s_impl_NoteOk (candI s) (by have := cuts_le 4 s _ (mem_getD (z := []) (show 4 < (cuts 4 s).length by omega)); show ((cuts 4 s).getD 4 []).length ≤ _; omega)) rfl rfl rfl rfl rfl rfl rfl rfl ?_
      refine ai trivial (ai trivial (ai (fun h => vc) (ai rk ?_)))
      refine exc_pure (fun h => (s_impl_NoteWrite (candI s) (by have := cuts_le 4 s _ (mem_getD (z := []) (show 4 < (cuts 4 s).length by omega)); show ((cuts 4 s).getD 4 []).length ≤ _; omega))) rfl rfl rfl rfl rfl rfl rfl rfl rk ?_
      refine ai (fun h => trivial) (ai rk (ai (fun h => vc) (ai rk (ai pk ?_))))
      refine SW.cond rfl (fun c47 => ?_) (fun c47 => ?_)
      · skip
        refine SW.seq ?_
        refine SW.regT tabOk [2, 3] ?_
        refine ai vc (ai ⟨by kernel_rfl, Nat.le_of_ble_eq_true (by kernel_rfl)⟩ (ai trivial ?_))
        refine SW.ret ?_
        refine retOkP rfl rfl ?_
        rw [readI_no (.inr (.inr (by cases h : noteOk (candI s) with | false => exact .inl rfl | true => rw [h] at c47; exact .inr (by simpa using c47))))]
        rfl
      · skip
        refine SW.skip ?_
        refine SW.seq ?_
        refine SW.regT tabOk [2, 3] ?_
        refine ai vc (ai ⟨by kernel_rfl, Nat.le_of_ble_eq_true (by kernel_rfl)⟩ (ai trivial ?_))
        refine SW.ret ?_
        have h6 : noteOk (candI s) = true ∧ noteWr (candI s) = s := by simpa using c47
        refine retOkP rfl rfl ?_
        rw [readI_yes h5 hok h6.1 h6.2]
        rfl

set_option maxHeartbeats 1600000 in
theorem s_spec_NoteRead (s : List UInt8) (hl : s.length ≤ 1000000) : Ab.Spec Tryz.prog 190 1 [(.t 0, .v (Dv (.s s)))] [(.t 0, .v (.tup [.agg [.d (.i ((readS s).1).frm), .d (.i ((readS s).1).num), .d (.i ((readS s).1).to), .d (.i ((readS s).1).til), .d (.s ((readS s).1).text)], .c (.d (.b (readS s).2))]))] := by
  refine spec_of_body tabOk Tryz.func190 rfl (by kernel_rfl) (by decide) (by kernel_rfl) rfl ?_
  refine SW.seq ?_
  refine SW.regT tabOk [0, 2, 29, 30, 31, 32] ?_
  refine ai trivial (ai trivial ?_)
  refine SW.seq ?_
  refine SW.regT tabOk [0, 2, 4, 5, 29, 30, 31, 32] ?_
  refine ai trivial ?_
  refine ex_pure (s_spec_l3Nums s 4 hl (by omega)) rfl rfl rfl rfl rfl rfl rfl rfl ?_
  refine ai trivial (ai trivial (ai trivial (ai trivial (ai trivial ?_))))
  refine SW.seq ?_
  refine SW.regD tabOk mo [0, 2, 6, 29, 30, 31, 32] ?_
  refine ai trivial (ai (by exact ixI (l := numsL 4 s) (by omega) (by rw [numsL_length]; omega)) (ai (by have := int_ld (l := numsL 4 s) (i := 0) (by rw [numsL_length]; omega); first | (rw [show ((0 : Int)).toNat = ((0 : Nat) : Int).toNat from rfl, this]; exact ⟨Nat.le_of_ble_eq_true rfl, rfl⟩)) (ai trivial (ai (by exact ixI (l := numsL 4 s) (by omega) (by rw [numsL_length]; omega)) (ai (by have := int_ld (l := numsL 4 s) (i := 1) (by rw [numsL_length]; omega); first | (rw [show ((1 : Int)).toNat = ((1 : Nat) : Int).toNat from rfl, this]; exact ⟨Nat.le_of_ble_eq_true rfl, rfl⟩)) (ai trivial (ai (by exact ixI (l := numsL 4 s) (by omega) (by rw [numsL_length]; omega)) (ai (by have := int_ld (l := numsL 4 s) (i := 2) (by rw [numsL_length]; omega); first | (rw [show ((2 : Int)).toNat = ((2 : Nat) : Int).toNat from rfl, this]; exact ⟨Nat.le_of_ble_eq_true rfl, rfl⟩)) (ai trivial (ai (by exact ixI (l := numsL 4 s) (by omega) (by rw [numsL_length]; omega)) (ai (by have := int_ld (l := numsL 4 s) (i := 3) (by rw [numsL_length]; omega); first | (rw [show ((3 : Int)).toNat = ((3 : Nat) : Int).toNat from rfl, this]; exact ⟨Nat.le_of_ble_eq_true rfl, rfl⟩)) (ai trivial (ai vc (ai trivial (ai ⟨by kernel_rfl, Nat.le_of_ble_eq_true (by kernel_rfl)⟩ (ai (by kernel_rfl) ?_))))))))))))))))
  refine SW.seq ?_
  refine SW.seq ?_
  refine SW.wk (J := fun q => q = [(.t 0, .v (Dv (.s s))), (.t 2, .v (.e (.c (.pt 2 0)))), (.t 6, .v (.e (.c (.pt 6 0)))), (.o 2, .box 64 [.d (.i 0), .d (.i 0), .d (.i 0), .d (.i 0), .d (.s [])]), (.o 6, .box 64 [.d (.i (candS s).frm), .d (.i (candS s).num), .d (.i (candS s).to), .d (.i (candS s).til), .d (.s (candS s).text)])]) ?_ ?_
  · skip
    refine wk [(.t 0, .v (Dv (.s s))), (.t 2, .v (.e (.c (.pt 2 0)))), (.t 6, .v (.e (.c (.pt 6 0)))), (.o 2, .box 64 [.d (.i 0), .d (.i 0), .d (.i 0), .d (.i 0), .d (.s [])]), (.o 6, .box 64 [.d (.i (candS s).frm), .d (.i (candS s).num), .d (.i (candS s).to), .d (.i (candS s).til), .d (.s (candS s).text)])] [] [] (rfl) ?_ rfl rfl
    repeat' first | exact trivial | refine mL_nil rfl ?_ | refine mL_d rfl ?_ ?_ | refine mL_own rfl rfl ?_ rfl ?_ | refine mL_row rfl ?_ ?_ | refine mL_pt rfl rfl rfl rfl ?_ | refine mL_box rfl ?_ ?_ | refine mL_agg rfl ?_ ?_ | exact mCs_nil0 | refine mCs_d ?_ ?_ | refine mCs_nil ?_ | refine mCs_own rfl ?_ rfl ?_ | refine mCs_pt rfl rfl rfl ?_
    all_goals first | with_reducible rfl | (first | with_reducible rfl | exact congrArg D.i (nums_at (i := 0) (by omega)) | exact congrArg D.i (nums_at (i := 1) (by omega)) | exact congrArg D.i (nums_at (i := 2) (by omega)) | exact congrArg D.i (nums_at (i := 3) (by omega)) | rfl)
  rintro q rfl
  refine SW.regT tabOk [2, 6, 33] ?_
  refine ai trivial (ai vc (ai trivial (ai (fun h => vc) (ai rk ?_))))
  refine exc_pure (fun h => (s_spec_NoteWrite (candS s) (by have := restN_le 4 s; show (restN 4 s).length ≤ _; omega))) rfl rfl rfl rfl rfl rfl rfl rfl rk ?_
  refine ai (fun h => trivial) (ai rk (ai (fun h => vc) (ai rk (ai pk ?_))))
  refine SW.cond rfl (fun c33 => ?_) (fun c33 => ?_)
  · skip
    refine SW.seq ?_
    refine SW.regT tabOk [2, 3] ?_
    refine ai vc (ai ⟨by kernel_rfl, Nat.le_of_ble_eq_true (by kernel_rfl)⟩ (ai trivial ?_))
    refine SW.ret ?_
    refine retOkP rfl rfl ?_
    have hno : readS s = (.zero, false) := by
      rw [readS, if_pos]
      by_cases h : s = []
      · exact .inl h
      · rw [show (s == []) = false by simpa using h] at c33; exact .inr (by simpa using c33)
    rw [hno]
    rfl
  · skip
    refine SW.skip ?_
    refine SW.seq ?_
    refine SW.regT tabOk [2, 3] ?_
    refine ai vc (ai ⟨by kernel_rfl, Nat.le_of_ble_eq_true (by kernel_rfl)⟩ (ai trivial ?_))
    refine SW.ret ?_
    refine retOkP rfl rfl ?_
    have hyes : readS s = (candS s, true) := by
      rw [readS, if_neg]
      rintro (h | h)
      · subst h; simp at c33
      · by_cases h2 : s = []
        · subst h2; simp at c33
        · rw [show (s == []) = false by simpa using h2] at c33; exact h (by simpa using c33)
    rw [hyes]
    rfl

end Go.Proofs.YtilahgkblckndaaGreatDoor

namespace Go.Ab
open Go Go.RowKit
set_option linter.unusedVariables false
set_option linter.unusedSimpArgs false

def KeepR.zero : KeepR := ⟨0, 0, 0, [], [], []⟩
def keepStart (id : Int) : KeepR := if isNode id then ⟨id, 0, 1, [], [], []⟩ else .zero
def noteIn (l : List NoteR) (n : NoteR) : List NoteR := l.takeWhile (fun x => before x.frm x.num n.frm n.num) ++ n :: l.dropWhile (fun x => before x.frm x.num n.frm n.num)
def markIn (l : List MarkR) (n : MarkR) : List MarkR := l.takeWhile (fun x => before x.frm x.num n.frm n.num) ++ n :: l.dropWhile (fun x => before x.frm x.num n.frm n.num)
def noteInS (l : List NoteR) (n : NoteR) : List NoteR := l.takeWhile (fun x => !before n.frm n.num x.frm x.num) ++ n :: l.dropWhile (fun x => !before n.frm n.num x.frm x.num)
def markInS (l : List MarkR) (n : MarkR) : List MarkR := l.takeWhile (fun x => !before n.frm n.num x.frm x.num) ++ n :: l.dropWhile (fun x => !before n.frm n.num x.frm x.num)
def cutAt {α : Type} (l : List α) (i : Nat) : List α := l.take i ++ l.drop (i + 1)
def advance (k : KeepR) (t : Int) : KeepR := { k with time := t, held := k.held.filter (fun n => decide (t < n.til)), marks := k.marks.filter (fun n => decide (t < n.til)) }
def fresh (k : KeepR) (n : NoteR) : Bool := noteOk n && decide (k.time < n.til) && decide (noteAt k.held n.frm n.num < 0) && decide (noteAt k.inbox n.frm n.num < 0) && decide (markAt k.marks n.frm n.num < 0)
def accept (k : KeepR) (n : NoteR) : KeepR × Bool :=
  if fresh k n && decide ((k.held.length : Int) + k.marks.length + 1 ≤ 12) then
    (if n.to == k.id then { k with inbox := noteIn k.inbox n, marks := markIn k.marks ⟨n.frm, n.num, n.til⟩ } else { k with held := noteIn k.held n }, true)
  else (k, false)
def wTime : List UInt8 := [116, 105, 109, 101]
def wNext : List UInt8 := [110, 101, 120, 116]
def wOwn : List UInt8 := [111, 119, 110]
def wTake : List UInt8 := [116, 97, 107, 101]
def wHeld : List UInt8 := [104, 101, 108, 100]
def wInbox : List UInt8 := [105, 110, 98, 111, 120]
def wLet : List UInt8 := [108, 101, 116]
def wEat : List UInt8 := [101, 97, 116]
def wMark : List UInt8 := [109, 97, 114, 107]
def doNum (k : KeepR) (w : List UInt8) (n : Int) : KeepR × Bool :=
  if w == wTime && decide (k.time < n) then (advance k n, true)
  else if w == wNext && decide (k.next < n) then ({ k with next := n }, true)
  else (k, false)
def doNote (k : KeepR) (w : List UInt8) (n : NoteR) : KeepR × Bool :=
  if w == wOwn && n.frm == k.id && n.num == k.next then accept { k with next := wrap64 (k.next + 1) } n
  else if w == wTake && n.frm != k.id then accept k n
  else if decide (0 ≤ noteAt k.held n.frm n.num) || decide (0 ≤ noteAt k.inbox n.frm n.num) then (k, false)
  else if w == wHeld then ({ k with held := noteIn k.held n }, true)
  else if w == wInbox then ({ k with inbox := noteIn k.inbox n }, true)
  else (k, false)
def doMark (k : KeepR) (w : List UInt8) (m : MarkR) : KeepR × Bool :=
  if w == wLet && decide (0 ≤ noteAt k.held m.frm m.num) && (k.held.getD (noteAt k.held m.frm m.num).toNat .zero).til == m.til then
    ({ k with held := cutAt k.held (noteAt k.held m.frm m.num).toNat, marks := markIn k.marks m }, true)
  else if w == wEat && decide (0 ≤ noteAt k.inbox m.frm m.num) && (k.inbox.getD (noteAt k.inbox m.frm m.num).toNat .zero).til == m.til then
    ({ k with inbox := cutAt k.inbox (noteAt k.inbox m.frm m.num).toNat }, true)
  else if w == wMark && decide (markAt k.marks m.frm m.num < 0) then ({ k with marks := markIn k.marks m }, true)
  else (k, false)
def three (l : List (List UInt8)) : MarkR := ⟨natN (l.getD 0 []), natN (l.getD 1 []), natN (l.getD 2 [])⟩
def recDoI (k : KeepR) (rec : List UInt8) : KeepR × Bool :=
  if hasSp rec then
    if wordOf rec == wTime || wordOf rec == wNext then (if (natV (restOf rec)).isSome then doNum k (wordOf rec) (natN (restOf rec)) else (k, false))
    else if wordOf rec == wOwn || wordOf rec == wTake || wordOf rec == wHeld || wordOf rec == wInbox then (if (readS (restOf rec)).2 then doNote k (wordOf rec) (readS (restOf rec)).1 else (k, false))
    else if wordOf rec == wLet || wordOf rec == wEat || wordOf rec == wMark then (if natsOk (splitSp (restOf rec)) && (splitSp (restOf rec)).length == 3 then doMark k (wordOf rec) (three (splitSp (restOf rec))) else (k, false))
    else (k, false)
  else (k, false)
def doneOf (k : KeepR) (x : KeepR × Bool) : KeepR × Bool := if x.2 && keepOk x.1 then (x.1, true) else (k, false)
def keepDo (k : KeepR) (rec : List UInt8) : KeepR × Bool := if keepOk k then doneOf k (recDoI k rec) else (.zero, false)
def freshS (k : KeepR) (n : NoteR) : Bool := noteOk n && decide (k.time < n.til) && decide (noteAt k.held n.frm n.num < 0) && decide (markAt k.marks n.frm n.num < 0) && decide (noteAt k.inbox n.frm n.num < 0)
def takeS (k : KeepR) (n : NoteR) : KeepR × Bool :=
  if freshS k n then
    if n.to != k.id then ({ k with held := noteInS k.held n }, decide (((noteInS k.held n).length : Int) + k.marks.length ≤ 12))
    else ({ k with inbox := noteInS k.inbox n, marks := markInS k.marks ⟨n.frm, n.num, n.til⟩ }, decide ((k.held.length : Int) + (markInS k.marks ⟨n.frm, n.num, n.til⟩).length ≤ 12))
  else (k, false)
def letS (k : KeepR) (f m : Int) : KeepR × Bool :=
  if 0 ≤ noteAt k.held f m then ({ k with held := cutAt k.held (noteAt k.held f m).toNat, marks := markInS k.marks ⟨f, m, (k.held.getD (noteAt k.held f m).toNat .zero).til⟩ }, true) else (k, false)
def eatS (k : KeepR) (f m : Int) : KeepR × Bool :=
  if 0 ≤ noteAt k.inbox f m then ({ k with inbox := cutAt k.inbox (noteAt k.inbox f m).toNat }, true) else (k, false)
def threeS (r : List UInt8) : MarkR := ⟨numAt r 0, numAt r 1, numAt r 2⟩
def lineS (m : MarkR) : List UInt8 := decI m.frm ++ [32] ++ decI m.num ++ [32] ++ decI m.til
def recDoS (k : KeepR) (rec : List UInt8) : KeepR × Bool :=
  if wordOf rec == wTime then (if decV (restOf rec) ≤ k.time then (k, false) else (advance k (decV (restOf rec)), true))
  else if wordOf rec == wOwn then
    (if !(readS (restOf rec)).2 || (readS (restOf rec)).1.frm != k.id || (readS (restOf rec)).1.num != k.next then (k, false) else takeS { k with next := wrap64 (k.next + 1) } (readS (restOf rec)).1)
  else if wordOf rec == wTake then (if !(readS (restOf rec)).2 || (readS (restOf rec)).1.frm == k.id then (k, false) else takeS k (readS (restOf rec)).1)
  else if wordOf rec == wNext then (if decV (restOf rec) ≤ k.next then (k, false) else ({ k with next := decV (restOf rec) }, true))
  else if wordOf rec == wHeld || wordOf rec == wInbox then
    (if !(readS (restOf rec)).2 || decide (noteAt k.held (readS (restOf rec)).1.frm (readS (restOf rec)).1.num ≥ 0) || decide (noteAt k.inbox (readS (restOf rec)).1.frm (readS (restOf rec)).1.num ≥ 0) then (k, false)
      else if wordOf rec == wHeld then ({ k with held := noteInS k.held (readS (restOf rec)).1 }, true) else ({ k with inbox := noteInS k.inbox (readS (restOf rec)).1 }, true))
  else if !(restN 3 (restOf rec) == []) || !(restOf rec == lineS (threeS (restOf rec))) then (k, false)
  else if wordOf rec == wLet then
    (if decide (noteAt k.held (threeS (restOf rec)).frm (threeS (restOf rec)).num < 0) || (k.held.getD (noteAt k.held (threeS (restOf rec)).frm (threeS (restOf rec)).num).toNat .zero).til != (threeS (restOf rec)).til then (k, false)
      else letS k (threeS (restOf rec)).frm (threeS (restOf rec)).num)
  else if wordOf rec == wEat then
    (if decide (noteAt k.inbox (threeS (restOf rec)).frm (threeS (restOf rec)).num < 0) || (k.inbox.getD (noteAt k.inbox (threeS (restOf rec)).frm (threeS (restOf rec)).num).toNat .zero).til != (threeS (restOf rec)).til then (k, false)
      else eatS k (threeS (restOf rec)).frm (threeS (restOf rec)).num)
  else if wordOf rec == wMark then (if markAt k.marks (threeS (restOf rec)).frm (threeS (restOf rec)).num ≥ 0 then (k, false) else ({ k with marks := markInS k.marks (threeS (restOf rec)) }, true))
  else (k, false)
def keepDoS (k : KeepR) (rec : List UInt8) : KeepR × Bool := if keepOk k then doneOf k (recDoS k rec) else (.zero, false)
def keepGo : KeepR → List (List UInt8) → KeepR × Bool
  | k, [] => (k, true)
  | k, r :: rs => if (keepDo k r).2 then keepGo (keepDo k r).1 rs else (.zero, false)
def keepOf (id : Int) (recs : List (List UInt8)) : KeepR × Bool := if isNode id then keepGo (keepStart id) recs else (.zero, false)
end Go.Ab

namespace Go.Ab
open Go Go.RowKit
set_option linter.unusedVariables false
set_option linter.unusedSimpArgs false

section
variable {α : Type} {l : List α} {z : α} {i : Nat}
theorem take_succ (h : i < l.length) : l.take (i + 1) = l.take i ++ [l.getD i z] := by
  rw [List.take_add_one, List.getElem?_eq_getElem h, List.getD_eq_getElem?_getD, List.getElem?_eq_getElem h]
  rfl
theorem takeWhile_at {p : α → Bool} (hi : i ≤ l.length) (hk : ∀ j, j < i → p (l.getD j z) = true) (h : i = l.length ∨ p (l.getD i z) = false) : l.takeWhile p = l.take i ∧ l.dropWhile p = l.drop i := by
  induction l generalizing i with
  | nil => simp at hi; subst hi; simp
  | cons x l ih =>
    cases i with
    | zero =>
      have hx : p x = false := by
        rcases h with h | h
        · simp at h
        · simpa using h
      simp [List.takeWhile, List.dropWhile, hx]
    | succ i =>
      have hx : p x = true := by simpa using hk 0 (by omega)
      obtain ⟨h1, h2⟩ := ih (i := i) (by simpa using hi) (fun j hj => by simpa using hk (j + 1) (by omega)) (by
        rcases h with h | h
        · left; simpa using h
        · right; simpa using h)
      simp [List.takeWhile, List.dropWhile, hx, h1, h2]
def insW (p : α → Bool) (n : α) (l : List α) : List α := l.takeWhile p ++ n :: l.dropWhile p
theorem insW_at {p : α → Bool} {n : α} (hi : i ≤ l.length) (hk : ∀ j, j < i → p (l.getD j z) = true) (h : i = l.length ∨ p (l.getD i z) = false) : insW p n l = l.take i ++ n :: l.drop i := by
  obtain ⟨h1, h2⟩ := takeWhile_at hi hk h
  rw [insW, h1, h2]
theorem insW_length {p : α → Bool} {n : α} : (insW p n l).length = l.length + 1 := by
  have h := congrArg List.length (List.takeWhile_append_dropWhile (p := p) (l := l))
  rw [List.length_append] at h
  rw [insW, List.length_append, List.length_cons]; omega
theorem insW_mem {p : α → Bool} {n x : α} : x ∈ insW p n l ↔ x = n ∨ x ∈ l := by
  have h : x ∈ l ↔ x ∈ l.takeWhile p ∨ x ∈ l.dropWhile p := by
    conv => lhs; rw [← List.takeWhile_append_dropWhile (p := p) (l := l)]
    exact List.mem_append
  rw [insW, List.mem_append, List.mem_cons, h]
  constructor
  · rintro (h | h | h)
    · exact .inr (.inl h)
    · exact .inl h
    · exact .inr (.inr h)
  · rintro (h | h | h)
    · exact .inr (.inl h)
    · exact .inl h
    · exact .inr (.inr h)
def midW (q : α → Bool) (n : α) (l : List α) : List α := if l.any q then insW (fun x => !q x) n l else l
theorem insW_snoc {q : α → Bool} {n x : α} (h : l.any q = true) : insW (fun x => !q x) n (l ++ [x]) = insW (fun x => !q x) n l ++ [x] := by
  induction l with
  | nil => simp at h
  | cons y l ih =>
    by_cases hy : q y = true
    · simp [insW, hy]
    · have hy' : q y = false := by simpa using hy
      have h2 : l.any q = true := by simpa [hy'] using h
      have := ih h2
      simp only [insW] at this ⊢
      simp [hy', this]
theorem insW_none {q : α → Bool} {n : α} (h : l.any q = false) : insW (fun x => !q x) n l = l ++ [n] := by
  induction l with
  | nil => simp [insW]
  | cons y l ih =>
    have hy : q y = false := by
      cases hq : q y with
      | false => rfl
      | true => simp [hq] at h
    have h2 : l.any q = false := by simpa [hy] using h
    have := ih h2
    simp only [insW] at this ⊢
    simp [hy, this]
theorem midW_put {q : α → Bool} {n x : α} (h : l.any q = false) (hx : q x = true) : midW q n (l ++ [x]) = midW q n l ++ [n] ++ [x] := by
  have e1 : (l ++ [x]).any q = true := by simp [hx]
  have e2 : midW q n l = l := by rw [midW, h]; rfl
  rw [e2, midW, if_pos e1]
  induction l with
  | nil => simp [insW, hx]
  | cons y l ih =>
    have hy : q y = false := by
      cases hq : q y with
      | false => rfl
      | true => simp [hq] at h
    have h2 : l.any q = false := by simpa [hy] using h
    have := ih h2 (by simp [hx]) (by rw [midW, h2]; rfl)
    simp only [insW] at this ⊢
    simp [hy] at this ⊢
    exact this
theorem midW_go {q : α → Bool} {n x : α} (h : l.any q = true ∨ q x = false) : midW q n (l ++ [x]) = midW q n l ++ [x] := by
  cases ha : l.any q with
  | true =>
    have e1 : (l ++ [x]).any q = true := by rw [List.any_append, ha]; rfl
    rw [midW, if_pos e1, midW, ha, if_pos rfl, insW_snoc ha]
  | false =>
    have hx : q x = false := by
      rcases h with h | h
      · rw [ha] at h; cases h
      · exact h
    have e1 : (l ++ [x]).any q = false := by rw [List.any_append, ha]; simp [hx]
    rw [midW, midW, e1, ha]; rfl
theorem any_snoc {q : α → Bool} {x : α} : (l ++ [x]).any q = (l.any q || q x) := by simp
theorem midW_end {q : α → Bool} {n : α} : insW (fun x => !q x) n l = if l.any q then midW q n l else midW q n l ++ [n] := by
  cases ha : l.any q with
  | true => rw [if_pos rfl, midW, ha, if_pos rfl]
  | false => rw [if_neg (by simp), midW, ha, insW_none ha]; rfl
theorem filter_snoc {p : α → Bool} (h : i < l.length) : (l.take (i + 1)).filter p = (l.take i).filter p ++ (if p (l.getD i z) then [l.getD i z] else []) := by
  rw [take_succ (z := z) h, List.filter_append]
  congr 1
  by_cases hp : p (l.getD i z) = true
  · rw [if_pos hp, List.filter_cons_of_pos hp]; rfl
  · rw [if_neg hp, List.filter_cons_of_neg hp]; rfl
theorem filter_yes {p : α → Bool} (h : i < l.length) (hp : p (l.getD i z) = true) : (l.take (i + 1)).filter p = (l.take i).filter p ++ [l.getD i z] := by
  rw [filter_snoc (z := z) h, if_pos hp]
theorem filter_no {p : α → Bool} (h : i < l.length) (hp : p (l.getD i z) = false) : (l.take (i + 1)).filter p = (l.take i).filter p := by
  rw [filter_snoc (z := z) h, hp]; simp
theorem cutAt_mem {x : α} (h : x ∈ cutAt l i) : x ∈ l := by
  rcases List.mem_append.1 h with h | h
  · exact List.mem_of_mem_take h
  · exact List.mem_of_mem_drop h
end
theorem noteIn_is (l : List NoteR) (n : NoteR) : noteIn l n = insW (fun x => before x.frm x.num n.frm n.num) n l := rfl
theorem markIn_is (l : List MarkR) (n : MarkR) : markIn l n = insW (fun x => before x.frm x.num n.frm n.num) n l := rfl
theorem noteInS_is (l : List NoteR) (n : NoteR) : noteInS l n = insW (fun x => !before n.frm n.num x.frm x.num) n l := rfl
theorem markInS_is (l : List MarkR) (n : MarkR) : markInS l n = insW (fun x => !before n.frm n.num x.frm x.num) n l := rfl

theorem bn {b : Bool} (h : b = false) : ¬ b = true := by simp [h]
theorem accept_gen {k : KeepR} {n : NoteR} {c : Bool} (hb : k.held.length ≤ 100000 ∧ k.marks.length ≤ 100000 ∧ k.inbox.length ≤ 100000)
    (h : (!noteOk n || decide (n.til ≤ k.time) || decide (noteAt k.held n.frm n.num ≥ 0) || decide (noteAt k.inbox n.frm n.num ≥ 0) || decide (markAt k.marks n.frm n.num ≥ 0) || decide (wrap64 (wrap64 ((noteRows k.held).length + (markRows k.marks).length) + 1) > 12)) = c) :
    (fresh k n && decide ((k.held.length : Int) + k.marks.length + 1 ≤ 12)) = !c := by
  subst h
  rw [noteRows_length, markRows_length, wrap64_of (n := (k.held.length : Int) + k.marks.length) (by omega), wrap64_of (by omega)]
  unfold fresh
  simp only [ge_lt, Bool.not_or, Bool.not_not, gt_iff_lt]
theorem noteAt_lt (l : List NoteR) (f m : Int) : -1 ≤ noteAt l f m ∧ noteAt l f m < l.length := by
  rcases placeOf_range (noteIs l f m) l.length 0 with h | ⟨k, h, _, h2, _⟩ <;> rw [noteAt, h] <;> omega
theorem accept_in {k : KeepR} {n : NoteR} (ha : (fresh k n && decide ((k.held.length : Int) + k.marks.length + 1 ≤ 12)) = true) (hto : (n.to == k.id) = true) : accept k n = ({ k with inbox := noteIn k.inbox n, marks := markIn k.marks ⟨n.frm, n.num, n.til⟩ }, true) := by
  unfold accept
  rw [if_pos ha, if_pos hto]
theorem accept_on {k : KeepR} {n : NoteR} (ha : (fresh k n && decide ((k.held.length : Int) + k.marks.length + 1 ≤ 12)) = true) (hto : (n.to == k.id) = false) : accept k n = ({ k with held := noteIn k.held n }, true) := by
  unfold accept
  rw [if_pos ha, hto]
  rfl
theorem noteRows_push (l : List NoteR) (x : NoteR) : noteRows l ++ [x.row] = noteRows (l ++ [x]) := by simp [noteRows]
theorem markRows_push (l : List MarkR) (x : MarkR) : markRows l ++ [x.row] = markRows (l ++ [x]) := by simp [markRows]
theorem noteRows_cut (l : List NoteR) (a b : Nat) : ∀ r ∈ ((noteRows l).take a).drop b, r.length = 5 := fun r hr => noteRows_len5 l r (List.mem_of_mem_take (List.mem_of_mem_drop hr))
theorem markRows_cut (l : List MarkR) (a b : Nat) : ∀ r ∈ ((markRows l).take a).drop b, r.length = 3 := fun r hr => markRows_len3 l r (List.mem_of_mem_take (List.mem_of_mem_drop hr))
theorem cut_from (L : List (List D)) (i : Nat) : (L.take (hiOf none L.length)).drop (loOf (some (i : Int))) = L.drop i := by
  simp [hiOf, loOf]
theorem cut_to (L : List (List D)) (i n : Nat) : (L.take (hiOf (some (i : Int)) n)).drop (loOf none) = L.take i := by
  simp [hiOf, loOf]
theorem hiOf_none (n : Nat) : hiOf none n = n := by simp [hiOf]
theorem hiOf_some (i n : Nat) : hiOf (some (i : Int)) n = i := by simp [hiOf]
theorem loOf_none : loOf none = 0 := rfl
theorem loOf_some (i : Nat) : loOf (some (i : Int)) = i := by simp [loOf]
section
variable {τ σ' : St} {rl : List (Nat × Nat)} {bor : List Nat} {r : List (Loc × K)}
theorem mL_tup {s : Nat} {xs ys : List E} (h : look τ (.t s) = some (.v (.tup xs))) (e : mEs τ σ' rl bor xs ys) (hr : mL τ σ' rl bor r) : mL τ σ' rl bor ((.t s, .v (.tup ys)) :: r) := ⟨⟨_, h, e⟩, hr⟩
theorem mEs_nil0 : mEs τ σ' rl bor [] [] := trivial
theorem mEs_agg {cs ds : List C} {xs ys : List E} (e : mCs τ σ' rl bor cs ds) (h : mEs τ σ' rl bor xs ys) : mEs τ σ' rl bor (.agg cs :: xs) (.agg ds :: ys) := ⟨e, h⟩
theorem mEs_d {x y : D} {xs ys : List E} (e : x = y) (h : mEs τ σ' rl bor xs ys) : mEs τ σ' rl bor (.c (.d x) :: xs) (.c (.d y) :: ys) := ⟨e, h⟩
theorem mEs_nil_d {y : D} {xs ys : List E} (e : y = .sl []) (h : mEs τ σ' rl bor xs ys) : mEs τ σ' rl bor (.c .nil :: xs) (.c (.d y) :: ys) := ⟨e, h⟩
theorem mEs_froze {o n : Nat} {y : D} {e : TypeId} {es : Nat} {rows : List (List D)} {xs ys : List E} (hb : memN o bor = true) (hj : look τ (.o o) = some (.row e es rows)) (e1 : rows.length = n) (e2 : y = .sl rows) (h : mEs τ σ' rl bor xs ys) : mEs τ σ' rl bor (.c (.own o n) :: xs) (.c (.d y) :: ys) := ⟨⟨memN_iff.1 hb, e, es, rows, hj, e1, e2⟩, h⟩
end
theorem RW.nilBox {P : Program} {cx : Cx P} {σ : St} {ι : Nat → Value} {S : Nat → Prop} {a : Act} {w : World} (h : RW cx σ ι S a w) {b j q : Nat} {ty : TypeId} {cs : List C} (e : TypeId) (es : Nat) (hs : look σ (.o b) = some (.box ty cs)) (hq : cs[q]? = some .nil) (hj : look σ (.o j) = none) :
    ∃ ι', RW cx (upd (upd σ (.o j) (.row e es [])) (.o b) (.box ty (cs.set q (.own j 0)))) ι' S a w := by
  have hblk : ∀ b, blk (.slice none 0 0) = some b → some b = (none : Option Nat) ∨ w.heap.size ≤ b := fun b hb => by simp [blk] at hb
  have h1 := h.turn (id := j) (old := none) (k := .row e es []) (p := .slice none 0 0) (w' := w) ⟨rfl, rfl, rfl, Nat.le_refl _, (fun _ _ _ => rfl), (fun b hb => by cases hb), .inl hj, hblk, .inl ⟨rfl, rfl⟩⟩
  have hbj : b ≠ j := fun e => by subst e; rw [hj] at hs; cases hs
  have hs1 : look (upd σ (.o j) (.row e es [])) (.o b) = some (.box ty cs) := by rw [look_upd_ne _ _ (by simpa using fun h => hbj h.symm)]; exact hs
  obtain ⟨blk0, vs, hp, hh, hsz, hc⟩ := h1.vr.objs b _ hs1
  refine ⟨_, h1.turn (id := b) (old := some blk0) (k := .box ty (cs.set q (.own j 0))) (p := .pointer (some ⟨blk0, 0, none⟩)) (w' := w) ⟨rfl, rfl, rfl, Nat.le_refl _, (fun _ _ _ => rfl), (fun b' hb' => ?_), .inr ⟨_, hs1, ?_⟩, (fun b' hb' => ?_), ?_⟩⟩
  · cases hb'
    refine ⟨⟨_, hs1, trivial⟩, ?_⟩
    show blk (if b = j then Value.slice none 0 0 else ι b) = _
    rw [hp]; rfl
  · show Evo (if b = j then Value.slice none 0 0 else ι b) _ _ _
    rw [hp]; rfl
  · simp [blk] at hb'; exact .inl (by rw [hb'])
  · refine ⟨blk0, vs, rfl, hh, by rw [List.length_set]; exact hsz, fun k c u hk hu => ?_⟩
    have hjj : look (upd (upd σ (.o j) (.row e es [])) (.o b) (.box ty (cs.set q (.own j 0)))) (.o j) = some (.row e es []) := by
      rw [look_upd_ne _ _ (by simpa using hbj), look_upd_same]
    by_cases hkq : k = q
    · subst hkq
      have hlt : k < cs.length := (List.getElem?_eq_some_iff.1 hq).1
      rw [List.getElem?_set_self hlt] at hk
      cases hk
      have hv : u = .slice none 0 0 := hc k .nil u hq hu
      subst hv
      refine ⟨rfl, .inl ⟨e, es, [], hjj, Nat.le_refl _, fun _ => ?_⟩⟩
      simp [hbj.symm]
    · rw [List.getElem?_set_ne (fun h => hkq h.symm)] at hk
      refine CR.step ?_ (hc k c u hk hu)
      refine ⟨fun _ h => h, fun _ _ => rfl, fun o k0 ho => ?_⟩
      by_cases eo : o = b
      · subst eo
        rw [hs1] at ho; cases ho
        refine ⟨_, look_upd_same _ _ _, ?_⟩
        simp only [if_true]
        rw [hp]
        simp [Evo]
      · refine ⟨k0, by rw [look_upd_ne _ _ (by simpa using fun h => eo h.symm)]; exact ho, ?_⟩
        simp only [if_neg eo]
        exact Evo.refl' _ _
theorem SW.nilBox {P : Program} {io : List Nat} {Q : Ex → St → Prop} {σ : St} {c : Code} (b j q : Nat) {ty : TypeId} {cs : List C} (e : TypeId) (es : Nat) (hs : look σ (.o b) = some (.box ty cs)) (hq : cs[q]? = some .nil) (hj : look σ (.o j) = none)
    (h : updsK σ [(.o j, .row e es []), (.o b, .box ty (cs.set q (.own j 0)))] (SW P io c Q)) : SW P io c Q σ := by
  rw [updsK_iff] at h
  intro cx ι S a w hio hw hf
  obtain ⟨ι', hw'⟩ := hw.nilBox e es hs hq hj
  exact h cx ι' S a w hio hw' hf
end Go.Ab

namespace Go.Proofs.YtilahgkblckndaaGreatDoor
open Go Go.Ab Go.RowKit
set_option linter.unusedVariables false
set_option linter.unusedSimpArgs false

theorem s_copied_NoteR (l : List NoteR) (hl : l.length ≤ 1000000) : Ab.Spec Tryz.prog 209 1 [(.t 0, .v (Dv (.sl (noteRows l))))] [(.t 0, .v (Dv (.sl (noteRows l))))] := by
  refine spec_of_body tabOk Tryz.func209 rfl (by kernel_rfl) (by decide) (by kernel_rfl) rfl ?_
  refine SW.seq ?_
  refine SW.regT tabOk [0] ?_
  refine ai trivial ?_
  refine SW.seq ?_
  refine SW.seq ?_
  refine SW.regT tabOk [0, 6] ?_
  refine ai trivial (ai vc (ai trivial ?_))
  refine SW.cond rfl (fun c6 => ?_) (fun c6 => ?_)
  · skip
    refine SW.seq ?_
    refine SW.regT tabOk [2] ?_
    refine ai trivial ?_
    refine SW.ret ?_
    refine retOk _ [] [] rfl (mL_nil_d rfl (congrArg D.sl ?_) trivial) rfl rfl
    simp [noteRows_length] at c6; simp [c6, noteRows]
  · skip
    refine SW.skip ?_
    refine SW.seq ?_
    refine SW.regT tabOk [0, 3] ?_
    refine ai trivial (ai vc (ai (by refine ⟨rfl, by omega, ?_⟩; rw [noteRows_length]; show ((48 : Nat) : Int) * _ ≤ _; omega) (ai trivial ?_)))
    refine SW.seq ?_
    refine SW.regT tabOk [3] ?_
    refine ai trivial (ai trivial (ai (by refine ⟨trivial, by simp, noteRows_len5 l⟩) ?_))
    refine SW.seq ?_
    refine SW.regT tabOk [2] ?_
    refine ai trivial (ai trivial ?_)
    refine SW.ret ?_
    refine retOk _ [] [9] rfl (mL_froze rfl rfl rfl ?_ (congrArg D.sl ?_) trivial) rfl rfl
    · simp
    · simp

theorem s_copied_MarkR (l : List MarkR) (hl : l.length ≤ 1000000) : Ab.Spec Tryz.prog 210 1 [(.t 0, .v (Dv (.sl (markRows l))))] [(.t 0, .v (Dv (.sl (markRows l))))] := by
  refine spec_of_body tabOk Tryz.func210 rfl (by kernel_rfl) (by decide) (by kernel_rfl) rfl ?_
  refine SW.seq ?_
  refine SW.regT tabOk [0] ?_
  refine ai trivial ?_
  refine SW.seq ?_
  refine SW.seq ?_
  refine SW.regT tabOk [0, 6] ?_
  refine ai trivial (ai vc (ai trivial ?_))
  refine SW.cond rfl (fun c6 => ?_) (fun c6 => ?_)
  · skip
    refine SW.seq ?_
    refine SW.regT tabOk [2] ?_
    refine ai trivial ?_
    refine SW.ret ?_
    refine retOk _ [] [] rfl (mL_nil_d rfl (congrArg D.sl ?_) trivial) rfl rfl
    simp [markRows_length] at c6; simp [c6, markRows]
  · skip
    refine SW.skip ?_
    refine SW.seq ?_
    refine SW.regT tabOk [0, 3] ?_
    refine ai trivial (ai vc (ai (by refine ⟨rfl, by omega, ?_⟩; rw [markRows_length]; show ((24 : Nat) : Int) * _ ≤ _; omega) (ai trivial ?_)))
    refine SW.seq ?_
    refine SW.regT tabOk [3] ?_
    refine ai trivial (ai trivial (ai (by refine ⟨trivial, by simp, markRows_len3 l⟩) ?_))
    refine SW.seq ?_
    refine SW.regT tabOk [2] ?_
    refine ai trivial (ai trivial ?_)
    refine SW.ret ?_
    refine retOk _ [] [9] rfl (mL_froze rfl rfl rfl ?_ (congrArg D.sl ?_) trivial) rfl rfl
    · simp
    · simp

theorem s_impl_keepCopy (k : KeepR) (hb : k.held.length ≤ 1000000 ∧ k.marks.length ≤ 1000000 ∧ k.inbox.length ≤ 1000000) : Ab.Spec Tryz.prog 177 1 [(.t 0, .v (k.V))] [(.t 0, .v (k.V))] := by
  refine spec_of_body tabOk Tryz.func177 rfl (by kernel_rfl) (by decide) (by kernel_rfl) rfl ?_
  refine SW.seq ?_
  refine SW.regT tabOk [1, 2] ?_
  refine ai trivial (ai trivial ?_)
  refine SW.seq ?_
  refine SW.regT tabOk [1, 2, 3] ?_
  refine ai vc (ai trivial (ai ⟨by kernel_rfl, Nat.le_of_ble_eq_true (by kernel_rfl)⟩ ?_))
  refine SW.seq ?_
  refine SW.regT tabOk [1, 2, 3] ?_
  refine ai (by first | trivial | rfl) (ai vc ?_)
  refine ex_pure (s_copied_NoteR k.held hb.1) rfl rfl rfl rfl rfl rfl rfl rfl ?_
  refine ai (by first | trivial | rfl) (ai ⟨by kernel_rfl, Nat.le_of_ble_eq_true (by kernel_rfl)⟩ ?_)
  refine SW.seq ?_
  refine SW.regT tabOk [1, 2, 3] ?_
  refine ai (by first | trivial | rfl) (ai vc ?_)
  refine ex_pure (s_copied_MarkR k.marks hb.2.1) rfl rfl rfl rfl rfl rfl rfl rfl ?_
  refine ai (by first | trivial | rfl) (ai ⟨by kernel_rfl, Nat.le_of_ble_eq_true (by kernel_rfl)⟩ ?_)
  refine SW.seq ?_
  refine SW.regT tabOk [2, 3] ?_
  refine ai (by first | trivial | rfl) (ai vc ?_)
  refine ex_pure (s_copied_NoteR k.inbox hb.2.2) rfl rfl rfl rfl rfl rfl rfl rfl ?_
  refine ai (by first | trivial | rfl) (ai ⟨by kernel_rfl, Nat.le_of_ble_eq_true (by kernel_rfl)⟩ ?_)
  refine SW.seq ?_
  refine SW.regT tabOk [2] ?_
  refine ai vc (ai ⟨by kernel_rfl, Nat.le_of_ble_eq_true (by kernel_rfl)⟩ ?_)
  refine SW.ret ?_
  exact retOkP rfl rfl rfl

theorem s_spec_l12Copy (k : KeepR) (hb : k.held.length ≤ 1000000 ∧ k.marks.length ≤ 1000000 ∧ k.inbox.length ≤ 1000000) : Ab.Spec Tryz.prog 170 1 [(.t 0, .v (k.V))] [(.t 0, .v (k.V))] := by
  refine spec_of_body tabOk Tryz.func170 rfl (by kernel_rfl) (by decide) (by kernel_rfl) rfl ?_
  refine SW.seq ?_
  refine SW.regT tabOk [1, 2] ?_
  refine ai trivial (ai trivial ?_)
  refine SW.seq ?_
  refine SW.regT tabOk [1, 2] ?_
  refine ai (by simp) (ai (by first | trivial | rfl) (ai vc (ai (by refine ⟨trivial, rfl, ?_, ?_⟩ <;> first | exact noteRows_len5 _ | exact markRows_len3 _ | (simp only [noteRows_length, markRows_length, List.length_nil, Nat.zero_add]; show _ * 48 ≤ _; omega)) (ai (by first | trivial | rfl) (ai ⟨by kernel_rfl, Nat.le_of_ble_eq_true (by kernel_rfl)⟩ ?_)))))
  refine SW.seq ?_
  refine SW.regT tabOk [1, 2] ?_
  refine ai (by simp) (ai (by first | trivial | rfl) (ai vc (ai (by refine ⟨trivial, rfl, ?_, ?_⟩ <;> first | exact noteRows_len5 _ | exact markRows_len3 _ | (simp only [noteRows_length, markRows_length, List.length_nil, Nat.zero_add]; show _ * 24 ≤ _; omega)) (ai (by first | trivial | rfl) (ai ⟨by kernel_rfl, Nat.le_of_ble_eq_true (by kernel_rfl)⟩ ?_)))))
  refine SW.seq ?_
  refine SW.regT tabOk [1, 2] ?_
  refine ai (by simp) (ai (by first | trivial | rfl) (ai vc (ai (by refine ⟨trivial, rfl, ?_, ?_⟩ <;> first | exact noteRows_len5 _ | exact markRows_len3 _ | (simp only [noteRows_length, markRows_length, List.length_nil, Nat.zero_add]; show _ * 48 ≤ _; omega)) (ai (by first | trivial | rfl) (ai ⟨by kernel_rfl, Nat.le_of_ble_eq_true (by kernel_rfl)⟩ ?_)))))
  refine SW.seq ?_
  refine SW.regT tabOk [2] ?_
  refine ai vc (ai ⟨by kernel_rfl, Nat.le_of_ble_eq_true (by kernel_rfl)⟩ ?_)
  refine SW.ret ?_
  refine retOk _ [] [3, 8, 13] rfl ?_ rfl rfl
  repeat' first | exact trivial | exact mCs_nil0 | exact mEs_nil0 | refine mL_agg rfl ?_ ?_ | refine mL_tup rfl ?_ ?_ | refine mEs_agg ?_ ?_ | refine mEs_froze rfl rfl ?_ ?_ ?_ | refine mEs_nil_d ?_ ?_ | refine mEs_d ?_ ?_ | refine mCs_froze rfl rfl ?_ ?_ ?_ | refine mCs_nil_d ?_ ?_ | refine mCs_d ?_ ?_
  all_goals (first | with_reducible rfl | (simp; done))

end Go.Proofs.YtilahgkblckndaaGreatDoor

namespace Go.Proofs.YtilahgkblckndaaGreatDoor
open Go Go.Ab Go.RowKit
set_option linter.unusedVariables false
set_option linter.unusedSimpArgs false

set_option maxHeartbeats 800000 in
theorem s_impl_noteIn (l : List NoteR) (n : NoteR) (hl : l.length ≤ 100000) : Ab.Spec Tryz.prog 221 2 [(.t 0, .v (Dv (.sl (noteRows l)))), (.t 1, .v (n.V))] [(.t 0, .v (Dv (.sl (noteRows (noteIn l n)))))] := by
  refine spec_of_body tabOk Tryz.func221 rfl (by kernel_rfl) (by decide) (by kernel_rfl) rfl ?_
  refine SW.seq ?_
  refine SW.regT tabOk [0, 3, 11, 12, 13, 14, 15, 16, 17, 18, 19, 20, 21, 22, 23, 24, 25] ?_
  refine ai trivial (ai trivial ?_)
  refine SW.seq ?_
  refine SW.regT tabOk [0, 3, 5, 11, 12, 13, 14, 15, 16, 17, 18, 19, 20, 21, 22, 23, 24, 25] ?_
  refine ai trivial ?_
  refine SW.seq ?_
  refine SW.block ?_
  -- live at the head: [0, 3, 5, 11, 12, 13, 14, 15, 16, 17, 18, 19, 20, 21, 22, 23, 24, 25]
  refine SW.loopW (n := l.length) (fun m q => ∃ i : Nat, m = l.length - i ∧ i ≤ l.length ∧ (∀ j, j < i → before (l.getD j .zero).frm (l.getD j .zero).num n.frm n.num = true) ∧ q = [(.t 0, .v (Dv (.sl (noteRows l)))), (.t 3, .v (.e (.c (.pt 3 0)))), (.t 5, .v (I (i : Nat))), (.o 3, .box 64 [.d (.i (n).frm), .d (.i (n).num), .d (.i (n).to), .d (.i (n).til), .d (.s (n).text)])]) ?_ ?_
  · skip
    refine wk [(.t 0, .v (Dv (.sl (noteRows l)))), (.t 3, .v (.e (.c (.pt 3 0)))), (.t 5, .v (I (0 : Nat))), (.o 3, .box 64 [.d (.i (n).frm), .d (.i (n).num), .d (.i (n).to), .d (.i (n).til), .d (.s (n).text)])] [] [] (⟨0, rfl, Nat.zero_le _, fun j h => absurd h (by omega), rfl⟩) ?_ rfl rfl
    repeat' first | exact trivial | refine mL_nil rfl ?_ | refine mL_d rfl ?_ ?_ | refine mL_own rfl rfl ?_ rfl ?_ | refine mL_row rfl ?_ ?_ | refine mL_pt rfl rfl rfl rfl ?_ | refine mL_box rfl ?_ ?_ | refine mL_agg rfl ?_ ?_ | exact mCs_nil0 | refine mCs_d ?_ ?_ | refine mCs_nil ?_ | refine mCs_own rfl ?_ rfl ?_ | refine mCs_pt rfl rfl rfl ?_
    all_goals first | with_reducible rfl | (first | rfl | (simp; done) | omega)
  rintro n s ⟨i, rfl, hi, hk, rfl⟩
  refine SW.seq ?_
  refine SW.seq ?_
  refine SW.regD tabOk mo [0, 3, 5, 11, 12, 13, 14, 15, 16, 17, 18, 19, 20, 21, 22, 23, 24, 25, 26] ?_
  refine ai trivial (ai trivial (ai vc (ai trivial (ai trivial (ai (fun h => trivial) (ai rk (ai (fun h => trivial) (ai rk (ai (fun h => (by have h8 := h; simp [gb, noteRows_length] at h8; have h9 : i < l.length := (by omega); rw [Int.toNat_natCast, noteRows_getD h9]; exact ⟨⟨by omega, by rw [noteRows_length]; omega⟩, rfl⟩)) (ai rk (ai (fun h => (by first | trivial | rfl)) (ai rk (ai (fun h => (by have h8 := h; simp [gb, noteRows_length] at h8; have h9 : i < l.length := (by omega); rw [Int.toNat_natCast, noteRows_getD h9]; exact ⟨Nat.le_of_ble_eq_true rfl, rfl⟩)) (ai rk (ai (fun h => trivial) (ai rk (ai (fun h => trivial) (ai rk (ai (fun h => (by have h8 := h; simp [gb, noteRows_length] at h8; have h9 : i < l.length := (by omega); rw [Int.toNat_natCast, noteRows_getD h9]; exact ⟨⟨by omega, by rw [noteRows_length]; omega⟩, rfl⟩)) (ai rk (ai (fun h => (by first | trivial | rfl)) (ai rk (ai (fun h => (by have h8 := h; simp [gb, noteRows_length] at h8; have h9 : i < l.length := (by omega); rw [Int.toNat_natCast, noteRows_getD h9]; exact ⟨Nat.le_of_ble_eq_true rfl, rfl⟩)) (ai rk (ai (fun h => (by first | trivial | rfl)) (ai rk (ai (fun h => vc) (ai rk (ai (fun h => (by first | trivial | rfl)) (ai rk (ai (fun h => vc) (ai rk ?_))))))))))))))))))))))))))))))))
  refine exc_pure (fun h => (s_impl_before _ _ _ _)) rfl rfl rfl rfl rfl rfl rfl rfl rk ?_
  refine ai pk (ai (by kernel_rfl) ?_)
  refine SW.cond rfl (fun c26 => ?_) (fun c26 => ?_)
  · skip
    have h9 := c26
    simp only [Bool.and_eq_true, decide_eq_true_eq, noteRows_length] at h9
    have hi2 : i < l.length := by omega
    have hb : before (l.getD i .zero).frm (l.getD i .zero).num n.frm n.num = true := by
      have h10 := h9.2
      rw [Int.toNat_natCast, noteRows_getD hi2] at h10
      exact h10
    refine SW.skip ?_
    refine SW.block ?_
    refine SW.regT tabOk [0, 3, 5, 11, 12, 13, 14, 15, 16, 17, 18, 19, 20, 21, 22, 23, 24, 25] ?_
    refine ai trivial (ai trivial (ai trivial ?_))
    refine wk [(.t 0, .v (Dv (.sl (noteRows l)))), (.t 3, .v (.e (.c (.pt 3 0)))), (.t 5, .v (I ((i + 1) : Nat))), (.o 3, .box 64 [.d (.i (n).frm), .d (.i (n).num), .d (.i (n).to), .d (.i (n).til), .d (.s (n).text)])] [] [] (⟨l.length - (i + 1), by omega, i + 1, rfl, by omega, fun j h => by by_cases e : j = i; exact e ▸ hb; exact hk j (by omega), rfl⟩) ?_ rfl rfl
    repeat' first | exact trivial | refine mL_nil rfl ?_ | refine mL_d rfl ?_ ?_ | refine mL_own rfl rfl ?_ rfl ?_ | refine mL_row rfl ?_ ?_ | refine mL_pt rfl rfl rfl rfl ?_ | refine mL_box rfl ?_ ?_ | refine mL_agg rfl ?_ ?_ | exact mCs_nil0 | refine mCs_d ?_ ?_ | refine mCs_nil ?_ | refine mCs_own rfl ?_ rfl ?_ | refine mCs_pt rfl rfl rfl ?_
    all_goals first | with_reducible rfl | (first | with_reducible rfl | exact congrArg D.i (wrap64_of (by omega)))
  · skip
    have hend : i = l.length ∨ before (l.getD i .zero).frm (l.getD i .zero).num n.frm n.num = false := by
      by_cases h : i < l.length
      · right
        have h9 := c26
        rw [decide_eq_true (show ((i : Nat) : Int) < ((noteRows l).length : Int) by rw [noteRows_length]; omega), Bool.true_and, Int.toNat_natCast, noteRows_getD h] at h9
        exact h9
      · left; omega
    have hins : noteIn l n = _ := insW_at (z := NoteR.zero) (p := fun x => before x.frm x.num n.frm n.num) (n := n) hi hk hend
    refine SW.exit ?_
    refine SW.seq ?_
    refine SW.regD tabOk mo [4] ?_
    refine ai (by simp) (ai trivial (ai trivial (ai (by exact ⟨by rw [noteRows_length]; exact ⟨by first | (simp; done) | (simp; omega), by first | (simp; done) | (simp; omega), by first | (simp; done) | (simp; omega)⟩, noteRows_len5 _⟩) (ai (by exact ⟨by first | trivial | rfl | (simp; done), by first | rfl | (simp [noteRows_length]; done), by first | exact noteRows_cut l _ _ | (simp; done), by (try simp only [List.length_append, List.length_cons, List.length_nil, List.length_take, List.length_drop, noteRows_length, hiOf_none, hiOf_some, loOf_none, loOf_some]); show _ * 48 ≤ _; omega⟩) (ai vc (ai (by exact ⟨by simp, Nat.le_of_ble_eq_true rfl⟩) (ai (by exact ⟨by first | trivial | rfl | (simp; done), by first | rfl | (simp [noteRows_length]; done), by first | exact noteRows_cut l _ _ | (simp; done), by (try simp only [List.length_append, List.length_cons, List.length_nil, List.length_take, List.length_drop, noteRows_length, hiOf_none, hiOf_some, loOf_none, loOf_some]); show _ * 48 ≤ _; omega⟩) (ai trivial (ai trivial (ai (by exact ⟨by rw [noteRows_length]; exact ⟨by first | (simp; done) | (simp; omega), by first | (simp; done) | (simp; omega), by first | (simp; done) | (simp; omega)⟩, noteRows_len5 _⟩) (ai (by exact ⟨by first | trivial | rfl | (simp; done), by first | rfl | (simp [noteRows_length]; done), by first | exact noteRows_cut l _ _ | (simp; done), by (try simp only [List.length_append, List.length_cons, List.length_nil, List.length_take, List.length_drop, noteRows_length, hiOf_none, hiOf_some, loOf_none, loOf_some]); show _ * 48 ≤ _; omega⟩) (ai trivial (ai (by kernel_rfl) ?_)))))))))))))
    refine SW.ret ?_
    refine retOk _ [] [29] rfl (mL_froze rfl rfl rfl ?_ (congrArg D.sl ?_) trivial) rfl rfl
    · rfl
    · rw [hins, cut_from, cut_to]; simp [noteRows, List.map_take, List.map_drop, NoteR.row]

theorem s_impl_noteOut (l : List NoteR) (a : Int) (ha : 0 ≤ a ∧ a < l.length) (hl : l.length ≤ 100000) : Ab.Spec Tryz.prog 223 2 [(.t 0, .v (Dv (.sl (noteRows l)))), (.t 1, .v (I a))] [(.t 0, .v (Dv (.sl (noteRows (cutAt l a.toNat)))))] := by
  obtain ⟨i, rfl⟩ := Int.eq_ofNat_of_zero_le ha.1
  have hw : wrap64 ((i : Int) + 1) = ((i + 1 : Nat) : Int) := by rw [wrap64_of (by omega)]; omega
  refine spec_of_body tabOk Tryz.func223 rfl (by kernel_rfl) (by decide) (by kernel_rfl) rfl ?_
  refine SW.seq ?_
  refine SW.regT tabOk [0, 1] ?_
  refine ai trivial ?_
  refine SW.seq ?_
  refine SW.regD tabOk mo [4] ?_
  refine ai (by simp) (ai trivial (ai trivial (ai (by exact ⟨by rw [noteRows_length]; exact ⟨by first | (simp; done) | (simp; omega), by first | (simp; done) | (simp; omega), by first | (simp; done) | (simp; omega)⟩, noteRows_len5 _⟩) (ai (by exact ⟨by first | trivial | rfl | (simp; done), by first | rfl | (simp [noteRows_length]; done), by first | exact noteRows_cut l _ _ | (simp; done), by (try simp only [List.length_append, List.length_cons, List.length_nil, List.length_take, List.length_drop, noteRows_length, hiOf_none, hiOf_some, loOf_none, loOf_some]); show _ * 48 ≤ _; omega⟩) (ai trivial (ai trivial (ai trivial (ai (by rw [hw]; exact ⟨by rw [noteRows_length]; exact ⟨by first | (simp; done) | (simp; omega), by first | (simp; done) | (simp; omega), by first | (simp; done) | (simp; omega)⟩, noteRows_len5 _⟩) (ai (by exact ⟨by first | trivial | rfl | (simp; done), by first | rfl | (simp [noteRows_length]; done), by first | exact noteRows_cut l _ _ | (simp; done), by (try simp only [hw]); (try simp only [List.length_append, List.length_cons, List.length_nil, List.length_take, List.length_drop, noteRows_length, hiOf_none, hiOf_some, loOf_none, loOf_some]); show _ * 48 ≤ _; omega⟩) (ai trivial (ai (by kernel_rfl) ?_)))))))))))
  refine SW.ret ?_
  refine retOk _ [] [5] rfl (mL_froze rfl rfl rfl ?_ (congrArg D.sl ?_) trivial) rfl rfl
  · rfl
  · rw [hw, cut_from, cut_to]; simp [noteRows, cutAt, List.map_take, List.map_drop]

theorem midL_NoteR {l : List NoteR} {i : Nat} {n : NoteR} : (noteRows (midW (fun x : NoteR => before n.frm n.num x.frm x.num) n (l.take i))).length ≤ l.length + 1 := by
  rw [noteRows_length, midW]
  split
  · rw [insW_length, List.length_take]; omega
  · rw [List.length_take]; omega
set_option maxHeartbeats 800000 in
theorem s_spec_l12PutNote (l : List NoteR) (n : NoteR) (hl : l.length ≤ 100000) : Ab.Spec Tryz.prog 192 2 [(.t 0, .v (Dv (.sl (noteRows l)))), (.t 1, .v (n.V))] [(.t 0, .v (Dv (.sl (noteRows (noteInS l n)))))] := by
  refine spec_of_body tabOk Tryz.func192 rfl (by kernel_rfl) (by decide) (by kernel_rfl) rfl ?_
  refine SW.seq ?_
  refine SW.regT tabOk [0, 3, 18, 19, 20, 21, 22, 23, 24, 25, 26, 27, 28, 29, 30, 31, 32] ?_
  refine ai trivial (ai trivial ?_)
  refine SW.seq ?_
  refine SW.regT tabOk [0, 3, 5, 18, 19, 20, 21, 22, 23, 24, 25, 26, 27, 28, 29, 30, 31, 32] ?_
  refine ai (by simp) (ai trivial ?_)
  refine SW.seq ?_
  refine SW.regT tabOk [0, 3, 5, 6, 18, 19, 20, 21, 22, 23, 24, 25, 26, 27, 28, 29, 30, 31, 32] ?_
  refine ai trivial ?_
  refine SW.seq ?_
  refine SW.seq ?_
  refine SW.regT tabOk [0, 3, 5, 6, 7, 18, 19, 20, 21, 22, 23, 24, 25, 26, 27, 28, 29, 30, 31, 32] ?_
  refine ai trivial ?_
  refine SW.block ?_
  -- live at the head: [0, 3, 5, 6, 7, 18, 19, 20, 21, 22, 23, 24, 25, 26, 27, 28, 29, 30, 31, 32]
  refine SW.loopW (n := l.length) (fun m q => ∃ i : Nat, m = l.length - i ∧ i ≤ l.length ∧ q = [(.t 0, .v (Dv (.sl (noteRows l)))), (.t 3, .v (.e (.c (.pt 3 0)))), (.t 5, .v (.e (.c (.own 8 (noteRows (midW (fun x : NoteR => before n.frm n.num x.frm x.num) n (l.take i))).length)))), (.t 6, .v (B ((l.take i).any (fun x : NoteR => before n.frm n.num x.frm x.num)))), (.t 7, .v (I (i : Nat))), (.o 3, .box 64 [.d (.i (n).frm), .d (.i (n).num), .d (.i (n).to), .d (.i (n).til), .d (.s (n).text)]), (.o 8, .row 64 5 (noteRows (midW (fun x : NoteR => before n.frm n.num x.frm x.num) n (l.take i))))]) ?_ ?_
  · skip
    refine wk [(.t 0, .v (Dv (.sl (noteRows l)))), (.t 3, .v (.e (.c (.pt 3 0)))), (.t 5, .v (.e (.c (.own 8 (noteRows (midW (fun x : NoteR => before n.frm n.num x.frm x.num) n (l.take 0))).length)))), (.t 6, .v (B ((l.take 0).any (fun x : NoteR => before n.frm n.num x.frm x.num)))), (.t 7, .v (I (0 : Nat))), (.o 3, .box 64 [.d (.i (n).frm), .d (.i (n).num), .d (.i (n).to), .d (.i (n).til), .d (.s (n).text)]), (.o 8, .row 64 5 (noteRows (midW (fun x : NoteR => before n.frm n.num x.frm x.num) n (l.take 0))))] [] [] (⟨0, rfl, Nat.zero_le _, rfl⟩) ?_ rfl rfl
    repeat' first | exact trivial | refine mL_nil rfl ?_ | refine mL_d rfl ?_ ?_ | refine mL_own rfl rfl ?_ rfl ?_ | refine mL_row rfl ?_ ?_ | refine mL_pt rfl rfl rfl rfl ?_ | refine mL_box rfl ?_ ?_ | refine mL_agg rfl ?_ ?_ | exact mCs_nil0 | refine mCs_d ?_ ?_ | refine mCs_nil ?_ | refine mCs_own rfl ?_ rfl ?_ | refine mCs_pt rfl rfl rfl ?_
    all_goals first | with_reducible rfl | (first | with_reducible rfl | rfl | (simp [midW]; done))
  rintro n s ⟨i, rfl, hi, rfl⟩
  refine SW.seq ?_
  refine SW.seq ?_
  refine SW.regT tabOk [0, 3, 5, 6, 7, 12, 18, 19, 20, 21, 22, 23, 24, 25, 26, 27, 28, 29, 30, 31, 32] ?_
  refine ai trivial (ai trivial (ai vc (ai trivial ?_)))
  refine SW.cond rfl (fun c12 => ?_) (fun c12 => ?_)
  · skip
    have hi2 : i < l.length := by simpa [noteRows_length] using c12
    have hg := noteRows_getD (l := l) hi2
    refine SW.skip ?_
    refine SW.seq ?_
    refine SW.block ?_
    refine SW.seq ?_
    refine SW.seq ?_
    refine SW.regD tabOk mo [0, 3, 5, 6, 7, 18, 19, 20, 21, 22, 23, 24, 25, 26, 27, 28, 29, 30, 31, 32, 33] ?_
    refine ai trivial (ai trivial (ai trivial (ai (fun h => (by first | trivial | rfl)) (ai rk (ai (fun h => vc) (ai rk (ai (fun h => (by first | trivial | rfl)) (ai rk (ai (fun h => vc) (ai rk (ai (fun h => trivial) (ai rk (ai (fun h => trivial) (ai rk (ai (fun h => (by have h9 := hi2; rw [Int.toNat_natCast, noteRows_getD h9]; exact ⟨⟨by omega, by rw [noteRows_length]; omega⟩, rfl⟩)) (ai rk (ai (fun h => (by first | trivial | rfl)) (ai rk (ai (fun h => (by have h9 := hi2; rw [Int.toNat_natCast, noteRows_getD h9]; exact ⟨Nat.le_of_ble_eq_true rfl, rfl⟩)) (ai rk (ai (fun h => trivial) (ai rk (ai (fun h => trivial) (ai rk (ai (fun h => (by have h9 := hi2; rw [Int.toNat_natCast, noteRows_getD h9]; exact ⟨⟨by omega, by rw [noteRows_length]; omega⟩, rfl⟩)) (ai rk (ai (fun h => (by first | trivial | rfl)) (ai rk (ai (fun h => (by have h9 := hi2; rw [Int.toNat_natCast, noteRows_getD h9]; exact ⟨Nat.le_of_ble_eq_true rfl, rfl⟩)) (ai rk ?_))))))))))))))))))))))))))))))
    refine exc_pure (fun h => (s_spec_l12Less _ _ _ _)) rfl rfl rfl rfl rfl rfl rfl rfl rk ?_
    refine ai pk (ai (by kernel_rfl) ?_)
    refine SW.cond rfl (fun c33 => ?_) (fun c33 => ?_)
    · skip
      have h9 := c33
      rw [Int.toNat_natCast, hg] at h9
      rw [Bool.and_eq_true] at h9
      have hq : (l.take i).any (fun x : NoteR => before n.frm n.num x.frm x.num) = false ∧ before n.frm n.num (l.getD i .zero).frm (l.getD i .zero).num = true := ⟨by simpa only [Bool.not_eq_true'] using h9.1, h9.2⟩
      have hm := midW_put (q := (fun x : NoteR => before n.frm n.num x.frm x.num)) (n := n) (x := l.getD i .zero) hq.1 hq.2
      rw [← take_succ hi2] at hm
      have ha : (l.take (i + 1)).any (fun x : NoteR => before n.frm n.num x.frm x.num) = true := by rw [take_succ (z := NoteR.zero) hi2, any_snoc, hq.1]; exact hq.2
      refine SW.seq ?_
      refine SW.regT tabOk [0, 3, 5, 7, 18, 19, 20, 21, 22, 23, 24, 25, 26, 27, 28, 29, 30, 31, 32] ?_
      refine ai trivial (ai vc (ai (by exact ⟨by simp, Nat.le_of_ble_eq_true rfl⟩) (ai (by exact ⟨by first | trivial | rfl | (simp; done), by first | rfl | (simp; done), by first | (simp; done) | (intro r hr; rw [List.mem_singleton.1 hr]; rfl), by (try simp only [List.length_append, List.length_cons, List.length_nil]); have hm := midL_NoteR (l := l) (i := i) (n := n); show _ * 48 ≤ _; omega⟩) (ai trivial ?_))))
      refine SW.regT tabOk [0, 3, 5, 6, 7, 18, 19, 20, 21, 22, 23, 24, 25, 26, 27, 28, 29, 30, 31, 32] ?_
      refine ai trivial ?_
      refine SW.regT tabOk [0, 3, 5, 6, 7, 18, 19, 20, 21, 22, 23, 24, 25, 26, 27, 28, 29, 30, 31, 32] ?_
      refine ai trivial (ai trivial (ai trivial (ai (by have h9 := hi2; rw [Int.toNat_natCast, noteRows_getD h9]; exact ⟨⟨by omega, by rw [noteRows_length]; omega⟩, rfl⟩) (ai (by have h9 := hi2; rw [Int.toNat_natCast, noteRows_getD h9]; exact ⟨Nat.le_of_ble_eq_true rfl, rfl⟩) (ai (by exact ⟨by simp, Nat.le_of_ble_eq_true rfl⟩) (ai (by exact ⟨by first | trivial | rfl | (simp; done), by first | rfl | (simp; done), by first | (simp; done) | (intro r hr; rw [List.mem_singleton.1 hr]; rfl), by (try simp only [List.length_append, List.length_cons, List.length_nil]); have hm := midL_NoteR (l := l) (i := i) (n := n); show _ * 48 ≤ _; omega⟩) (ai trivial ?_)))))))
      refine SW.regT tabOk [0, 3, 5, 6, 7, 18, 19, 20, 21, 22, 23, 24, 25, 26, 27, 28, 29, 30, 31, 32] ?_
      refine ai trivial (ai trivial (ai trivial ?_))
      refine wk [(.t 0, .v (Dv (.sl (noteRows l)))), (.t 3, .v (.e (.c (.pt 3 0)))), (.t 5, .v (.e (.c (.own 8 (noteRows (midW (fun x : NoteR => before n.frm n.num x.frm x.num) n (l.take (i + 1)))).length)))), (.t 6, .v (B ((l.take (i + 1)).any (fun x : NoteR => before n.frm n.num x.frm x.num)))), (.t 7, .v (I ((i + 1) : Nat))), (.o 3, .box 64 [.d (.i (n).frm), .d (.i (n).num), .d (.i (n).to), .d (.i (n).til), .d (.s (n).text)]), (.o 8, .row 64 5 (noteRows (midW (fun x : NoteR => before n.frm n.num x.frm x.num) n (l.take (i + 1)))))] [] [] (⟨l.length - (i + 1), by omega, i + 1, rfl, by omega, rfl⟩) ?_ rfl rfl
      repeat' first | exact trivial | refine mL_nil rfl ?_ | refine mL_d rfl ?_ ?_ | refine mL_own rfl rfl ?_ rfl ?_ | refine mL_row rfl ?_ ?_ | refine mL_pt rfl rfl rfl rfl ?_ | refine mL_box rfl ?_ ?_ | refine mL_agg rfl ?_ ?_ | exact mCs_nil0 | refine mCs_d ?_ ?_ | refine mCs_nil ?_ | refine mCs_own rfl ?_ rfl ?_ | refine mCs_pt rfl rfl rfl ?_
      all_goals first | with_reducible rfl | (first | with_reducible rfl | exact congrArg D.i (by rw [wrap64_of (by omega)]; omega) | (rw [ha]; done) | exact congrArg D.b ha.symm | (rw [hm]; simp [noteRows, Int.toNat_natCast]; done) | (rw [hm, Int.toNat_natCast, hg]; simp only [noteRows, List.map_append, List.map_cons, List.map_nil]; rfl))
    · skip
      have h9 := c33
      rw [Int.toNat_natCast, hg] at h9
      have hq : (l.take i).any (fun x : NoteR => before n.frm n.num x.frm x.num) = true ∨ before n.frm n.num (l.getD i .zero).frm (l.getD i .zero).num = false := by
        cases h : (l.take i).any (fun x : NoteR => before n.frm n.num x.frm x.num) with
        | true => exact .inl rfl
        | false => rw [h] at h9; exact .inr h9
      have hm := midW_go (q := (fun x : NoteR => before n.frm n.num x.frm x.num)) (n := n) (x := l.getD i .zero) hq
      rw [← take_succ hi2] at hm
      have ha : (l.take (i + 1)).any (fun x : NoteR => before n.frm n.num x.frm x.num) = (l.take i).any (fun x : NoteR => before n.frm n.num x.frm x.num) := by
        rw [take_succ (z := NoteR.zero) hi2, any_snoc]
        rcases hq with h | h
        · rw [h]; rfl
        · show ((l.take i).any (fun x : NoteR => before n.frm n.num x.frm x.num) || (before n.frm n.num (l.getD i .zero).frm (l.getD i .zero).num)) = _
          rw [h, Bool.or_false]
      refine SW.skip ?_
      refine SW.regT tabOk [0, 3, 5, 6, 7, 18, 19, 20, 21, 22, 23, 24, 25, 26, 27, 28, 29, 30, 31, 32] ?_
      refine ai trivial (ai trivial (ai trivial (ai (by have h9 := hi2; rw [Int.toNat_natCast, noteRows_getD h9]; exact ⟨⟨by omega, by rw [noteRows_length]; omega⟩, rfl⟩) (ai (by have h9 := hi2; rw [Int.toNat_natCast, noteRows_getD h9]; exact ⟨Nat.le_of_ble_eq_true rfl, rfl⟩) (ai (by exact ⟨by simp, Nat.le_of_ble_eq_true rfl⟩) (ai (by exact ⟨by first | trivial | rfl | (simp; done), by first | rfl | (simp; done), by first | (simp; done) | (intro r hr; rw [List.mem_singleton.1 hr]; rfl), by (try simp only [List.length_append, List.length_cons, List.length_nil]); have hm := midL_NoteR (l := l) (i := i) (n := n); show _ * 48 ≤ _; omega⟩) (ai trivial ?_)))))))
      refine SW.regT tabOk [0, 3, 5, 6, 7, 18, 19, 20, 21, 22, 23, 24, 25, 26, 27, 28, 29, 30, 31, 32] ?_
      refine ai trivial (ai trivial (ai trivial ?_))
      refine wk [(.t 0, .v (Dv (.sl (noteRows l)))), (.t 3, .v (.e (.c (.pt 3 0)))), (.t 5, .v (.e (.c (.own 8 (noteRows (midW (fun x : NoteR => before n.frm n.num x.frm x.num) n (l.take (i + 1)))).length)))), (.t 6, .v (B ((l.take (i + 1)).any (fun x : NoteR => before n.frm n.num x.frm x.num)))), (.t 7, .v (I ((i + 1) : Nat))), (.o 3, .box 64 [.d (.i (n).frm), .d (.i (n).num), .d (.i (n).to), .d (.i (n).til), .d (.s (n).text)]), (.o 8, .row 64 5 (noteRows (midW (fun x : NoteR => before n.frm n.num x.frm x.num) n (l.take (i + 1)))))] [] [] (⟨l.length - (i + 1), by omega, i + 1, rfl, by omega, rfl⟩) ?_ rfl rfl
      repeat' first | exact trivial | refine mL_nil rfl ?_ | refine mL_d rfl ?_ ?_ | refine mL_own rfl rfl ?_ rfl ?_ | refine mL_row rfl ?_ ?_ | refine mL_pt rfl rfl rfl rfl ?_ | refine mL_box rfl ?_ ?_ | refine mL_agg rfl ?_ ?_ | exact mCs_nil0 | refine mCs_d ?_ ?_ | refine mCs_nil ?_ | refine mCs_own rfl ?_ rfl ?_ | refine mCs_pt rfl rfl rfl ?_
      all_goals first | with_reducible rfl | (first | with_reducible rfl | exact congrArg D.i (by rw [wrap64_of (by omega)]; omega) | (rw [ha]; done) | exact congrArg D.b ha.symm | (rw [hm]; simp [noteRows, Int.toNat_natCast]; done) | (rw [hm, Int.toNat_natCast, hg]; simp only [noteRows, List.map_append, List.map_cons, List.map_nil]; rfl))
  · skip
    have hi3 : i = l.length := by simp [noteRows_length] at c12; omega
    subst hi3
    refine SW.exit ?_
    refine SW.seq ?_
    refine SW.seq ?_
    refine SW.regT tabOk [3, 5, 46] ?_
    refine ai trivial (ai trivial ?_)
    refine SW.cond rfl (fun c46 => ?_) (fun c46 => ?_)
    · skip
      have he : (l.take l.length).any (fun x : NoteR => before n.frm n.num x.frm x.num) = false := by simpa using c46
      refine SW.regT tabOk [5] ?_
      refine ai trivial (ai vc (ai (by exact ⟨by simp, Nat.le_of_ble_eq_true rfl⟩) (ai (by exact ⟨by first | trivial | rfl | (simp; done), by first | rfl | (simp; done), by first | (simp; done) | (intro r hr; rw [List.mem_singleton.1 hr]; rfl), by (try simp only [List.length_append, List.length_cons, List.length_nil]); have hm := midL_NoteR (l := l) (i := l.length) (n := n); show _ * 48 ≤ _; omega⟩) (ai trivial ?_))))
      refine SW.seq ?_
      refine SW.regT tabOk [4] ?_
      refine ai trivial (ai trivial ?_)
      refine SW.ret ?_
      refine retOk _ [] [8] rfl (mL_froze rfl rfl rfl ?_ (congrArg D.sl ?_) trivial) rfl rfl
      · rfl
      · rw [List.take_length] at he ⊢; rw [noteInS_is, midW_end, he]; simp [noteRows, NoteR.row]
    · skip
      have he : (l.take l.length).any (fun x : NoteR => before n.frm n.num x.frm x.num) = true := by simpa using c46
      refine SW.skip ?_
      refine SW.seq ?_
      refine SW.regT tabOk [4] ?_
      refine ai trivial (ai trivial ?_)
      refine SW.ret ?_
      refine retOk _ [] [8] rfl (mL_froze rfl rfl rfl ?_ (congrArg D.sl ?_) trivial) rfl rfl
      · rfl
      · rw [List.take_length] at he ⊢; rw [noteInS_is, midW_end, he]; simp [noteRows, NoteR.row]

set_option maxHeartbeats 800000 in
theorem s_impl_markIn (l : List MarkR) (n : MarkR) (hl : l.length ≤ 100000) : Ab.Spec Tryz.prog 224 2 [(.t 0, .v (Dv (.sl (markRows l)))), (.t 1, .v (n.V))] [(.t 0, .v (Dv (.sl (markRows (markIn l n)))))] := by
  refine spec_of_body tabOk Tryz.func224 rfl (by kernel_rfl) (by decide) (by kernel_rfl) rfl ?_
  refine SW.seq ?_
  refine SW.regT tabOk [0, 3, 11, 12, 13, 14, 15, 16, 17, 18, 19, 20, 21, 22, 23, 24, 25] ?_
  refine ai trivial (ai trivial ?_)
  refine SW.seq ?_
  refine SW.regT tabOk [0, 3, 5, 11, 12, 13, 14, 15, 16, 17, 18, 19, 20, 21, 22, 23, 24, 25] ?_
  refine ai trivial ?_
  refine SW.seq ?_
  refine SW.block ?_
  -- live at the head: [0, 3, 5, 11, 12, 13, 14, 15, 16, 17, 18, 19, 20, 21, 22, 23, 24, 25]
  refine SW.loopW (n := l.length) (fun m q => ∃ i : Nat, m = l.length - i ∧ i ≤ l.length ∧ (∀ j, j < i → before (l.getD j .zero).frm (l.getD j .zero).num n.frm n.num = true) ∧ q = [(.t 0, .v (Dv (.sl (markRows l)))), (.t 3, .v (.e (.c (.pt 3 0)))), (.t 5, .v (I (i : Nat))), (.o 3, .box 157 [.d (.i (n).frm), .d (.i (n).num), .d (.i (n).til)])]) ?_ ?_
  · skip
    refine wk [(.t 0, .v (Dv (.sl (markRows l)))), (.t 3, .v (.e (.c (.pt 3 0)))), (.t 5, .v (I (0 : Nat))), (.o 3, .box 157 [.d (.i (n).frm), .d (.i (n).num), .d (.i (n).til)])] [] [] (⟨0, rfl, Nat.zero_le _, fun j h => absurd h (by omega), rfl⟩) ?_ rfl rfl
    repeat' first | exact trivial | refine mL_nil rfl ?_ | refine mL_d rfl ?_ ?_ | refine mL_own rfl rfl ?_ rfl ?_ | refine mL_row rfl ?_ ?_ | refine mL_pt rfl rfl rfl rfl ?_ | refine mL_box rfl ?_ ?_ | refine mL_agg rfl ?_ ?_ | exact mCs_nil0 | refine mCs_d ?_ ?_ | refine mCs_nil ?_ | refine mCs_own rfl ?_ rfl ?_ | refine mCs_pt rfl rfl rfl ?_
    all_goals first | with_reducible rfl | (first | rfl | (simp; done) | omega)
  rintro n s ⟨i, rfl, hi, hk, rfl⟩
  refine SW.seq ?_
  refine SW.seq ?_
  refine SW.regD tabOk mo [0, 3, 5, 11, 12, 13, 14, 15, 16, 17, 18, 19, 20, 21, 22, 23, 24, 25, 26] ?_
  refine ai trivial (ai trivial (ai vc (ai trivial (ai trivial (ai (fun h => trivial) (ai rk (ai (fun h => trivial) (ai rk (ai (fun h => (by have h8 := h; simp [gb, markRows_length] at h8; have h9 : i < l.length := (by omega); rw [Int.toNat_natCast, markRows_getD h9]; exact ⟨⟨by omega, by rw [markRows_length]; omega⟩, rfl⟩)) (ai rk (ai (fun h => (by first | trivial | rfl)) (ai rk (ai (fun h => (by have h8 := h; simp [gb, markRows_length] at h8; have h9 : i < l.length := (by omega); rw [Int.toNat_natCast, markRows_getD h9]; exact ⟨Nat.le_of_ble_eq_true rfl, rfl⟩)) (ai rk (ai (fun h => trivial) (ai rk (ai (fun h => trivial) (ai rk (ai (fun h => (by have h8 := h; simp [gb, markRows_length] at h8; have h9 : i < l.length := (by omega); rw [Int.toNat_natCast, markRows_getD h9]; exact ⟨⟨by omega, by rw [markRows_length]; omega⟩, rfl⟩)) (ai rk (ai (fun h => (by first | trivial | rfl)) (ai rk (ai (fun h => (by have h8 := h; simp [gb, markRows_length] at h8; have h9 : i < l.length := (by omega); rw [Int.toNat_natCast, markRows_getD h9]; exact ⟨Nat.le_of_ble_eq_true rfl, rfl⟩)) (ai rk (ai (fun h => (by first | trivial | rfl)) (ai rk (ai (fun h => vc) (ai rk (ai (fun h => (by first | trivial | rfl)) (ai rk (ai (fun h => vc) (ai rk ?_))))))))))))))))))))))))))))))))
  refine exc_pure (fun h => (s_impl_before _ _ _ _)) rfl rfl rfl rfl rfl rfl rfl rfl rk ?_
  refine ai pk (ai (by kernel_rfl) ?_)
  refine SW.cond rfl (fun c26 => ?_) (fun c26 => ?_)
  · skip
    have h9 := c26
    simp only [Bool.and_eq_true, decide_eq_true_eq, markRows_length] at h9
    have hi2 : i < l.length := by omega
    have hb : before (l.getD i .zero).frm (l.getD i .zero).num n.frm n.num = true := by
      have h10 := h9.2
      rw [Int.toNat_natCast, markRows_getD hi2] at h10
      exact h10
    refine SW.skip ?_
    refine SW.block ?_
    refine SW.regT tabOk [0, 3, 5, 11, 12, 13, 14, 15, 16, 17, 18, 19, 20, 21, 22, 23, 24, 25] ?_
    refine ai trivial (ai trivial (ai trivial ?_))
    refine wk [(.t 0, .v (Dv (.sl (markRows l)))), (.t 3, .v (.e (.c (.pt 3 0)))), (.t 5, .v (I ((i + 1) : Nat))), (.o 3, .box 157 [.d (.i (n).frm), .d (.i (n).num), .d (.i (n).til)])] [] [] (⟨l.length - (i + 1), by omega, i + 1, rfl, by omega, fun j h => by by_cases e : j = i; exact e ▸ hb; exact hk j (by omega), rfl⟩) ?_ rfl rfl
    repeat' first | exact trivial | refine mL_nil rfl ?_ | refine mL_d rfl ?_ ?_ | refine mL_own rfl rfl ?_ rfl ?_ | refine mL_row rfl ?_ ?_ | refine mL_pt rfl rfl rfl rfl ?_ | refine mL_box rfl ?_ ?_ | refine mL_agg rfl ?_ ?_ | exact mCs_nil0 | refine mCs_d ?_ ?_ | refine mCs_nil ?_ | refine mCs_own rfl ?_ rfl ?_ | refine mCs_pt rfl rfl rfl ?_
    all_goals first | with_reducible rfl | (first | with_reducible rfl | exact congrArg D.i (wrap64_of (by omega)))
  · skip
    have hend : i = l.length ∨ before (l.getD i .zero).frm (l.getD i .zero).num n.frm n.num = false := by
      by_cases h : i < l.length
      · right
        have h9 := c26
        rw [decide_eq_true (show ((i : Nat) : Int) < ((markRows l).length : Int) by rw [markRows_length]; omega), Bool.true_and, Int.toNat_natCast, markRows_getD h] at h9
        exact h9
      · left; omega
    have hins : markIn l n = _ := insW_at (z := MarkR.zero) (p := fun x => before x.frm x.num n.frm n.num) (n := n) hi hk hend
    refine SW.exit ?_
    refine SW.seq ?_
    refine SW.regD tabOk mo [4] ?_
    refine ai (by simp) (ai trivial (ai trivial (ai (by exact ⟨by rw [markRows_length]; exact ⟨by first | (simp; done) | (simp; omega), by first | (simp; done) | (simp; omega), by first | (simp; done) | (simp; omega)⟩, markRows_len3 _⟩) (ai (by exact ⟨by first | trivial | rfl | (simp; done), by first | rfl | (simp [markRows_length]; done), by first | exact markRows_cut l _ _ | (simp; done), by (try simp only [List.length_append, List.length_cons, List.length_nil, List.length_take, List.length_drop, markRows_length, hiOf_none, hiOf_some, loOf_none, loOf_some]); show _ * 24 ≤ _; omega⟩) (ai vc (ai (by exact ⟨by simp, Nat.le_of_ble_eq_true rfl⟩) (ai (by exact ⟨by first | trivial | rfl | (simp; done), by first | rfl | (simp [markRows_length]; done), by first | exact markRows_cut l _ _ | (simp; done), by (try simp only [List.length_append, List.length_cons, List.length_nil, List.length_take, List.length_drop, markRows_length, hiOf_none, hiOf_some, loOf_none, loOf_some]); show _ * 24 ≤ _; omega⟩) (ai trivial (ai trivial (ai (by exact ⟨by rw [markRows_length]; exact ⟨by first | (simp; done) | (simp; omega), by first | (simp; done) | (simp; omega), by first | (simp; done) | (simp; omega)⟩, markRows_len3 _⟩) (ai (by exact ⟨by first | trivial | rfl | (simp; done), by first | rfl | (simp [markRows_length]; done), by first | exact markRows_cut l _ _ | (simp; done), by (try simp only [List.length_append, List.length_cons, List.length_nil, List.length_take, List.length_drop, markRows_length, hiOf_none, hiOf_some, loOf_none, loOf_some]); show _ * 24 ≤ _; omega⟩) (ai trivial (ai (by kernel_rfl) ?_)))))))))))))
    refine SW.ret ?_
    refine retOk _ [] [29] rfl (mL_froze rfl rfl rfl ?_ (congrArg D.sl ?_) trivial) rfl rfl
    · rfl
    · rw [hins, cut_from, cut_to]; simp [markRows, List.map_take, List.map_drop, MarkR.row]

theorem midL_MarkR {l : List MarkR} {i : Nat} {n : MarkR} : (markRows (midW (fun x : MarkR => before n.frm n.num x.frm x.num) n (l.take i))).length ≤ l.length + 1 := by
  rw [markRows_length, midW]
  split
  · rw [insW_length, List.length_take]; omega
  · rw [List.length_take]; omega
set_option maxHeartbeats 800000 in
theorem s_spec_l12PutMark (l : List MarkR) (n : MarkR) (hl : l.length ≤ 100000) : Ab.Spec Tryz.prog 196 2 [(.t 0, .v (Dv (.sl (markRows l)))), (.t 1, .v (n.V))] [(.t 0, .v (Dv (.sl (markRows (markInS l n)))))] := by
  refine spec_of_body tabOk Tryz.func196 rfl (by kernel_rfl) (by decide) (by kernel_rfl) rfl ?_
  refine SW.seq ?_
  refine SW.regT tabOk [0, 3, 18, 19, 20, 21, 22, 23, 24, 25, 26, 27, 28, 29, 30, 31, 32] ?_
  refine ai trivial (ai trivial ?_)
  refine SW.seq ?_
  refine SW.regT tabOk [0, 3, 5, 18, 19, 20, 21, 22, 23, 24, 25, 26, 27, 28, 29, 30, 31, 32] ?_
  refine ai (by simp) (ai trivial ?_)
  refine SW.seq ?_
  refine SW.regT tabOk [0, 3, 5, 6, 18, 19, 20, 21, 22, 23, 24, 25, 26, 27, 28, 29, 30, 31, 32] ?_
  refine ai trivial ?_
  refine SW.seq ?_
  refine SW.seq ?_
  refine SW.regT tabOk [0, 3, 5, 6, 7, 18, 19, 20, 21, 22, 23, 24, 25, 26, 27, 28, 29, 30, 31, 32] ?_
  refine ai trivial ?_
  refine SW.block ?_
  -- live at the head: [0, 3, 5, 6, 7, 18, 19, 20, 21, 22, 23, 24, 25, 26, 27, 28, 29, 30, 31, 32]
  refine SW.loopW (n := l.length) (fun m q => ∃ i : Nat, m = l.length - i ∧ i ≤ l.length ∧ q = [(.t 0, .v (Dv (.sl (markRows l)))), (.t 3, .v (.e (.c (.pt 3 0)))), (.t 5, .v (.e (.c (.own 8 (markRows (midW (fun x : MarkR => before n.frm n.num x.frm x.num) n (l.take i))).length)))), (.t 6, .v (B ((l.take i).any (fun x : MarkR => before n.frm n.num x.frm x.num)))), (.t 7, .v (I (i : Nat))), (.o 3, .box 157 [.d (.i (n).frm), .d (.i (n).num), .d (.i (n).til)]), (.o 8, .row 157 3 (markRows (midW (fun x : MarkR => before n.frm n.num x.frm x.num) n (l.take i))))]) ?_ ?_
  · skip
    refine wk [(.t 0, .v (Dv (.sl (markRows l)))), (.t 3, .v (.e (.c (.pt 3 0)))), (.t 5, .v (.e (.c (.own 8 (markRows (midW (fun x : MarkR => before n.frm n.num x.frm x.num) n (l.take 0))).length)))), (.t 6, .v (B ((l.take 0).any (fun x : MarkR => before n.frm n.num x.frm x.num)))), (.t 7, .v (I (0 : Nat))), (.o 3, .box 157 [.d (.i (n).frm), .d (.i (n).num), .d (.i (n).til)]), (.o 8, .row 157 3 (markRows (midW (fun x : MarkR => before n.frm n.num x.frm x.num) n (l.take 0))))] [] [] (⟨0, rfl, Nat.zero_le _, rfl⟩) ?_ rfl rfl
    repeat' first | exact trivial | refine mL_nil rfl ?_ | refine mL_d rfl ?_ ?_ | refine mL_own rfl rfl ?_ rfl ?_ | refine mL_row rfl ?_ ?_ | refine mL_pt rfl rfl rfl rfl ?_ | refine mL_box rfl ?_ ?_ | refine mL_agg rfl ?_ ?_ | exact mCs_nil0 | refine mCs_d ?_ ?_ | refine mCs_nil ?_ | refine mCs_own rfl ?_ rfl ?_ | refine mCs_pt rfl rfl rfl ?_
    all_goals first | with_reducible rfl | (first | with_reducible rfl | rfl | (simp [midW]; done))
  rintro n s ⟨i, rfl, hi, rfl⟩
  refine SW.seq ?_
  refine SW.seq ?_
  refine SW.regT tabOk [0, 3, 5, 6, 7, 12, 18, 19, 20, 21, 22, 23, 24, 25, 26, 27, 28, 29, 30, 31, 32] ?_
  refine ai trivial (ai trivial (ai vc (ai trivial ?_)))
  refine SW.cond rfl (fun c12 => ?_) (fun c12 => ?_)
  · skip
    have hi2 : i < l.length := by simpa [markRows_length] using c12
    have hg := markRows_getD (l := l) hi2
    refine SW.skip ?_
    refine SW.seq ?_
    refine SW.block ?_
    refine SW.seq ?_
    refine SW.seq ?_
    refine SW.regD tabOk mo [0, 3, 5, 6, 7, 18, 19, 20, 21, 22, 23, 24, 25, 26, 27, 28, 29, 30, 31, 32, 33] ?_
    refine ai trivial (ai trivial (ai trivial (ai (fun h => (by first | trivial | rfl)) (ai rk (ai (fun h => vc) (ai rk (ai (fun h => (by first | trivial | rfl)) (ai rk (ai (fun h => vc) (ai rk (ai (fun h => trivial) (ai rk (ai (fun h => trivial) (ai rk (ai (fun h => (by have h9 := hi2; rw [Int.toNat_natCast, markRows_getD h9]; exact ⟨⟨by omega, by rw [markRows_length]; omega⟩, rfl⟩)) (ai rk (ai (fun h => (by first | trivial | rfl)) (ai rk (ai (fun h => (by have h9 := hi2; rw [Int.toNat_natCast, markRows_getD h9]; exact ⟨Nat.le_of_ble_eq_true rfl, rfl⟩)) (ai rk (ai (fun h => trivial) (ai rk (ai (fun h => trivial) (ai rk (ai (fun h => (by have h9 := hi2; rw [Int.toNat_natCast, markRows_getD h9]; exact ⟨⟨by omega, by rw [markRows_length]; omega⟩, rfl⟩)) (ai rk (ai (fun h => (by first | trivial | rfl)) (ai rk (ai (fun h => (by have h9 := hi2; rw [Int.toNat_natCast, markRows_getD h9]; exact ⟨Nat.le_of_ble_eq_true rfl, rfl⟩)) (ai rk ?_))))))))))))))))))))))))))))))
    refine exc_pure (fun h => (s_spec_l12Less _ _ _ _)) rfl rfl rfl rfl rfl rfl rfl rfl rk ?_
    refine ai pk (ai (by kernel_rfl) ?_)
    refine SW.cond rfl (fun c33 => ?_) (fun c33 => ?_)
    · skip
      have h9 := c33
      rw [Int.toNat_natCast, hg] at h9
      rw [Bool.and_eq_true] at h9
      have hq : (l.take i).any (fun x : MarkR => before n.frm n.num x.frm x.num) = false ∧ before n.frm n.num (l.getD i .zero).frm (l.getD i .zero).num = true := ⟨by simpa only [Bool.not_eq_true'] using h9.1, h9.2⟩
      have hm := midW_put (q := (fun x : MarkR => before n.frm n.num x.frm x.num)) (n := n) (x := l.getD i .zero) hq.1 hq.2
      rw [← take_succ hi2] at hm
      have ha : (l.take (i + 1)).any (fun x : MarkR => before n.frm n.num x.frm x.num) = true := by rw [take_succ (z := MarkR.zero) hi2, any_snoc, hq.1]; exact hq.2
      refine SW.seq ?_
      refine SW.regT tabOk [0, 3, 5, 7, 18, 19, 20, 21, 22, 23, 24, 25, 26, 27, 28, 29, 30, 31, 32] ?_
      refine ai trivial (ai vc (ai (by exact ⟨by simp, Nat.le_of_ble_eq_true rfl⟩) (ai (by exact ⟨by first | trivial | rfl | (simp; done), by first | rfl | (simp; done), by first | (simp; done) | (intro r hr; rw [List.mem_singleton.1 hr]; rfl), by (try simp only [List.length_append, List.length_cons, List.length_nil]); have hm := midL_MarkR (l := l) (i := i) (n := n); show _ * 24 ≤ _; omega⟩) (ai trivial ?_))))
      refine SW.regT tabOk [0, 3, 5, 6, 7, 18, 19, 20, 21, 22, 23, 24, 25, 26, 27, 28, 29, 30, 31, 32] ?_
      refine ai trivial ?_
      refine SW.regT tabOk [0, 3, 5, 6, 7, 18, 19, 20, 21, 22, 23, 24, 25, 26, 27, 28, 29, 30, 31, 32] ?_
      refine ai trivial (ai trivial (ai trivial (ai (by have h9 := hi2; rw [Int.toNat_natCast, markRows_getD h9]; exact ⟨⟨by omega, by rw [markRows_length]; omega⟩, rfl⟩) (ai (by have h9 := hi2; rw [Int.toNat_natCast, markRows_getD h9]; exact ⟨Nat.le_of_ble_eq_true rfl, rfl⟩) (ai (by exact ⟨by simp, Nat.le_of_ble_eq_true rfl⟩) (ai (by exact ⟨by first | trivial | rfl | (simp; done), by first | rfl | (simp; done), by first | (simp; done) | (intro r hr; rw [List.mem_singleton.1 hr]; rfl), by (try simp only [List.length_append, List.length_cons, List.length_nil]); have hm := midL_MarkR (l := l) (i := i) (n := n); show _ * 24 ≤ _; omega⟩) (ai trivial ?_)))))))
      refine SW.regT tabOk [0, 3, 5, 6, 7, 18, 19, 20, 21, 22, 23, 24, 25, 26, 27, 28, 29, 30, 31, 32] ?_
      refine ai trivial (ai trivial (ai trivial ?_))
      refine wk [(.t 0, .v (Dv (.sl (markRows l)))), (.t 3, .v (.e (.c (.pt 3 0)))), (.t 5, .v (.e (.c (.own 8 (markRows (midW (fun x : MarkR => before n.frm n.num x.frm x.num) n (l.take (i + 1)))).length)))), (.t 6, .v (B ((l.take (i + 1)).any (fun x : MarkR => before n.frm n.num x.frm x.num)))), (.t 7, .v (I ((i + 1) : Nat))), (.o 3, .box 157 [.d (.i (n).frm), .d (.i (n).num), .d (.i (n).til)]), (.o 8, .row 157 3 (markRows (midW (fun x : MarkR => before n.frm n.num x.frm x.num) n (l.take (i + 1)))))] [] [] (⟨l.length - (i + 1), by omega, i + 1, rfl, by omega, rfl⟩) ?_ rfl rfl
      repeat' first | exact trivial | refine mL_nil rfl ?_ | refine mL_d rfl ?_ ?_ | refine mL_own rfl rfl ?_ rfl ?_ | refine mL_row rfl ?_ ?_ | refine mL_pt rfl rfl rfl rfl ?_ | refine mL_box rfl ?_ ?_ | refine mL_agg rfl ?_ ?_ | exact mCs_nil0 | refine mCs_d ?_ ?_ | refine mCs_nil ?_ | refine mCs_own rfl ?_ rfl ?_ | refine mCs_pt rfl rfl rfl ?_
      all_goals first | with_reducible rfl | (first | with_reducible rfl | exact congrArg D.i (by rw [wrap64_of (by omega)]; omega) | (rw [ha]; done) | exact congrArg D.b ha.symm | (rw [hm]; simp [markRows, Int.toNat_natCast]; done) | (rw [hm, Int.toNat_natCast, hg]; simp only [markRows, List.map_append, List.map_cons, List.map_nil]; rfl))
    · skip
      have h9 := c33
      rw [Int.toNat_natCast, hg] at h9
      have hq : (l.take i).any (fun x : MarkR => before n.frm n.num x.frm x.num) = true ∨ before n.frm n.num (l.getD i .zero).frm (l.getD i .zero).num = false := by
        cases h : (l.take i).any (fun x : MarkR => before n.frm n.num x.frm x.num) with
        | true => exact .inl rfl
        | false => rw [h] at h9; exact .inr h9
      have hm := midW_go (q := (fun x : MarkR => before n.frm n.num x.frm x.num)) (n := n) (x := l.getD i .zero) hq
      rw [← take_succ hi2] at hm
      have ha : (l.take (i + 1)).any (fun x : MarkR => before n.frm n.num x.frm x.num) = (l.take i).any (fun x : MarkR => before n.frm n.num x.frm x.num) := by
        rw [take_succ (z := MarkR.zero) hi2, any_snoc]
        rcases hq with h | h
        · rw [h]; rfl
        · show ((l.take i).any (fun x : MarkR => before n.frm n.num x.frm x.num) || (before n.frm n.num (l.getD i .zero).frm (l.getD i .zero).num)) = _
          rw [h, Bool.or_false]
      refine SW.skip ?_
      refine SW.regT tabOk [0, 3, 5, 6, 7, 18, 19, 20, 21, 22, 23, 24, 25, 26, 27, 28, 29, 30, 31, 32] ?_
      refine ai trivial (ai trivial (ai trivial (ai (by have h9 := hi2; rw [Int.toNat_natCast, markRows_getD h9]; exact ⟨⟨by omega, by rw [markRows_length]; omega⟩, rfl⟩) (ai (by have h9 := hi2; rw [Int.toNat_natCast, markRows_getD h9]; exact ⟨Nat.le_of_ble_eq_true rfl, rfl⟩) (ai (by exact ⟨by simp, Nat.le_of_ble_eq_true rfl⟩) (ai (by exact ⟨by first | trivial | rfl | (simp; done), by first | rfl | (simp; done), by first | (simp; done) | (intro r hr; rw [List.mem_singleton.1 hr]; rfl), by (try simp only [List.length_append, List.length_cons, List.length_nil]); have hm := midL_MarkR (l := l) (i := i) (n := n); show _ * 24 ≤ _; omega⟩) (ai trivial ?_)))))))
      refine SW.regT tabOk [0, 3, 5, 6, 7, 18, 19, 20, 21, 22, 23, 24, 25, 26, 27, 28, 29, 30, 31, 32] ?_
      refine ai trivial (ai trivial (ai trivial ?_))
      refine wk [(.t 0, .v (Dv (.sl (markRows l)))), (.t 3, .v (.e (.c (.pt 3 0)))), (.t 5, .v (.e (.c (.own 8 (markRows (midW (fun x : MarkR => before n.frm n.num x.frm x.num) n (l.take (i + 1)))).length)))), (.t 6, .v (B ((l.take (i + 1)).any (fun x : MarkR => before n.frm n.num x.frm x.num)))), (.t 7, .v (I ((i + 1) : Nat))), (.o 3, .box 157 [.d (.i (n).frm), .d (.i (n).num), .d (.i (n).til)]), (.o 8, .row 157 3 (markRows (midW (fun x : MarkR => before n.frm n.num x.frm x.num) n (l.take (i + 1)))))] [] [] (⟨l.length - (i + 1), by omega, i + 1, rfl, by omega, rfl⟩) ?_ rfl rfl
      repeat' first | exact trivial | refine mL_nil rfl ?_ | refine mL_d rfl ?_ ?_ | refine mL_own rfl rfl ?_ rfl ?_ | refine mL_row rfl ?_ ?_ | refine mL_pt rfl rfl rfl rfl ?_ | refine mL_box rfl ?_ ?_ | refine mL_agg rfl ?_ ?_ | exact mCs_nil0 | refine mCs_d ?_ ?_ | refine mCs_nil ?_ | refine mCs_own rfl ?_ rfl ?_ | refine mCs_pt rfl rfl rfl ?_
      all_goals first | with_reducible rfl | (first | with_reducible rfl | exact congrArg D.i (by rw [wrap64_of (by omega)]; omega) | (rw [ha]; done) | exact congrArg D.b ha.symm | (rw [hm]; simp [markRows, Int.toNat_natCast]; done) | (rw [hm, Int.toNat_natCast, hg]; simp only [markRows, List.map_append, List.map_cons, List.map_nil]; rfl))
  · skip
    have hi3 : i = l.length := by simp [markRows_length] at c12; omega
    subst hi3
    refine SW.exit ?_
    refine SW.seq ?_
    refine SW.seq ?_
    refine SW.regT tabOk [3, 5, 46] ?_
    refine ai trivial (ai trivial ?_)
    refine SW.cond rfl (fun c46 => ?_) (fun c46 => ?_)
    · skip
      have he : (l.take l.length).any (fun x : MarkR => before n.frm n.num x.frm x.num) = false := by simpa using c46
      refine SW.regT tabOk [5] ?_
      refine ai trivial (ai vc (ai (by exact ⟨by simp, Nat.le_of_ble_eq_true rfl⟩) (ai (by exact ⟨by first | trivial | rfl | (simp; done), by first | rfl | (simp; done), by first | (simp; done) | (intro r hr; rw [List.mem_singleton.1 hr]; rfl), by (try simp only [List.length_append, List.length_cons, List.length_nil]); have hm := midL_MarkR (l := l) (i := l.length) (n := n); show _ * 24 ≤ _; omega⟩) (ai trivial ?_))))
      refine SW.seq ?_
      refine SW.regT tabOk [4] ?_
      refine ai trivial (ai trivial ?_)
      refine SW.ret ?_
      refine retOk _ [] [8] rfl (mL_froze rfl rfl rfl ?_ (congrArg D.sl ?_) trivial) rfl rfl
      · rfl
      · rw [List.take_length] at he ⊢; rw [markInS_is, midW_end, he]; simp [markRows, MarkR.row]
    · skip
      have he : (l.take l.length).any (fun x : MarkR => before n.frm n.num x.frm x.num) = true := by simpa using c46
      refine SW.skip ?_
      refine SW.seq ?_
      refine SW.regT tabOk [4] ?_
      refine ai trivial (ai trivial ?_)
      refine SW.ret ?_
      refine retOk _ [] [8] rfl (mL_froze rfl rfl rfl ?_ (congrArg D.sl ?_) trivial) rfl rfl
      · rfl
      · rw [List.take_length] at he ⊢; rw [markInS_is, midW_end, he]; simp [markRows, MarkR.row]

end Go.Proofs.YtilahgkblckndaaGreatDoor

