/- Plain functions, and contracts of the functions that the law reaches. -/
import Derived.Test.YtilahgkblckndaaGreatDoorB2
namespace Go.Proofs.YtilahgkblckndaaGreatDoor
open Go Go.Ab Go.RowKit
set_option linter.unusedVariables false
set_option linter.unusedSimpArgs false

set_option maxHeartbeats 1600000 in
theorem s_impl_advance (k : KeepR) (t : Int) (hb : k.held.length ≤ 100000 ∧ k.marks.length ≤ 100000 ∧ k.inbox.length ≤ 100000) : Ab.Spec Tryz.prog 218 2 [(.t 0, .v (k.V)), (.t 1, .v (I t))] [(.t 0, .v ((advance k t).V))] := by
  refine spec_of_body tabOk Tryz.func218 rfl (by kernel_rfl) (by decide) (by kernel_rfl) rfl ?_
  refine SW.seq ?_
  refine SW.regT tabOk [1, 2, 4] ?_
  refine ai trivial (ai trivial ?_)
  refine SW.seq ?_
  refine SW.regT tabOk [1, 2, 4, 5] ?_
  refine ai (by first | trivial | rfl) (ai vc (ai trivial (ai (by first | trivial | rfl) (ai vc (ai (by first | trivial | rfl) (ai vc (ai vc (ai trivial (ai ⟨by kernel_rfl, Nat.le_of_ble_eq_true (by kernel_rfl)⟩ ?_)))))))))
  refine SW.seq ?_
  refine SW.seq ?_
  refine SW.regT tabOk [1, 2, 4, 5, 19, 20, 21] ?_
  refine ai (by first | trivial | rfl) (ai vc (ai vc (ai trivial ?_)))
  refine SW.block ?_
  -- live at the head: [1, 2, 4, 5, 19, 20, 21]
  refine SW.nilBox 5 100 3 64 5 rfl rfl rfl ?_
  refine SW.nilBox 5 101 4 157 3 rfl rfl rfl ?_
  refine SW.loopW (n := k.held.length) (fun m q => ∃ i : Nat, m = k.held.length - i ∧ i ≤ k.held.length ∧ q = [(.t 1, .v (I t)), (.t 2, .v (.e (.c (.pt 2 0)))), (.t 4, .v (.e (.c (.pt 4 0)))), (.t 5, .v (.e (.c (.pt 5 0)))), (.t 19, .v (Dv (.sl (noteRows k.held)))), (.t 20, .v (I (k.held.length : Nat))), (.t 21, .v (I (i : Nat))), (.o 2, .box 83 [.d (.i k.id), .d (.i k.time), .d (.i k.next), .d (.sl (noteRows k.held)), .d (.sl (markRows k.marks)), .d (.sl (noteRows k.inbox))]), (.o 4, .box 83 [.d (.i 0), .d (.i 0), .d (.i 0), .nil, .nil, .nil]), (.o 5, .box 83 [.d (.i k.id), .d (.i t), .d (.i k.next), .own 100 (noteRows ((k.held.take i).filter (fun n => decide (t < n.til)))).length, .own 101 (markRows []).length, .d (.sl (noteRows k.inbox))]), (.o 100, .row 64 5 (noteRows ((k.held.take i).filter (fun n => decide (t < n.til))))), (.o 101, .row 157 3 (markRows []))]) ?_ ?_
  · skip
    refine wk [(.t 1, .v (I t)), (.t 2, .v (.e (.c (.pt 2 0)))), (.t 4, .v (.e (.c (.pt 4 0)))), (.t 5, .v (.e (.c (.pt 5 0)))), (.t 19, .v (Dv (.sl (noteRows k.held)))), (.t 20, .v (I (k.held.length : Nat))), (.t 21, .v (I (0 : Nat))), (.o 2, .box 83 [.d (.i k.id), .d (.i k.time), .d (.i k.next), .d (.sl (noteRows k.held)), .d (.sl (markRows k.marks)), .d (.sl (noteRows k.inbox))]), (.o 4, .box 83 [.d (.i 0), .d (.i 0), .d (.i 0), .nil, .nil, .nil]), (.o 5, .box 83 [.d (.i k.id), .d (.i t), .d (.i k.next), .own 100 (noteRows ((k.held.take 0).filter (fun n => decide (t < n.til)))).length, .own 101 (markRows []).length, .d (.sl (noteRows k.inbox))]), (.o 100, .row 64 5 (noteRows ((k.held.take 0).filter (fun n => decide (t < n.til))))), (.o 101, .row 157 3 (markRows []))] [] [] (⟨0, rfl, Nat.zero_le _, rfl⟩) ?_ rfl rfl
    repeat' first | exact trivial | refine mL_nil rfl ?_ | refine mL_d rfl ?_ ?_ | refine mL_own rfl rfl ?_ rfl ?_ | refine mL_row rfl ?_ ?_ | refine mL_pt rfl rfl rfl rfl ?_ | refine mL_box rfl ?_ ?_ | refine mL_agg rfl ?_ ?_ | exact mCs_nil0 | refine mCs_d ?_ ?_ | refine mCs_nil ?_ | refine mCs_own rfl ?_ rfl ?_ | refine mCs_pt rfl rfl rfl ?_
    all_goals first | with_reducible rfl | (first | with_reducible rfl | rfl | (rw [noteRows_length]; done) | (rw [markRows_length]; done))
  rintro n s ⟨i, rfl, hi, rfl⟩
  refine SW.seq ?_
  refine SW.regT tabOk [1, 2, 4, 5, 19, 20, 21, 22] ?_
  refine ai trivial ?_
  refine SW.seq ?_
  refine SW.cond rfl (fun c22 => ?_) (fun c22 => ?_)
  · skip
    have hi2 : i < k.held.length := by simpa using c22
    have hg := noteRows_getD (l := k.held) hi2
    refine SW.skip ?_
    refine SW.seq ?_
    refine SW.block ?_
    refine SW.seq ?_
    refine SW.regT tabOk [1, 2, 4, 5, 7, 19, 20, 21] ?_
    refine ai (by rw [Int.toNat_natCast, hg]; exact ⟨⟨by omega, by rw [noteRows_length]; omega⟩, rfl⟩) (ai (by rw [Int.toNat_natCast, hg]; exact ⟨Nat.le_of_ble_eq_true rfl, rfl⟩) (ai trivial (ai ⟨by kernel_rfl, Nat.le_of_ble_eq_true (by kernel_rfl)⟩ ?_)))
    refine SW.seq ?_
    refine SW.wk (J := fun s => s = [(.t 1, .v (I t)), (.t 2, .v (.e (.c (.pt 2 0)))), (.t 4, .v (.e (.c (.pt 4 0)))), (.t 5, .v (.e (.c (.pt 5 0)))), (.t 19, .v (Dv (.sl (noteRows k.held)))), (.t 20, .v (I (k.held.length : Nat))), (.t 21, .v (I (i : Nat))), (.o 2, .box 83 [.d (.i k.id), .d (.i k.time), .d (.i k.next), .d (.sl (noteRows k.held)), .d (.sl (markRows k.marks)), .d (.sl (noteRows k.inbox))]), (.o 4, .box 83 [.d (.i 0), .d (.i 0), .d (.i 0), .nil, .nil, .nil]), (.o 5, .box 83 [.d (.i k.id), .d (.i t), .d (.i k.next), .own 100 (noteRows ((k.held.take i).filter (fun n => decide (t < n.til)))).length, .own 101 (markRows []).length, .d (.sl (noteRows k.inbox))]), (.o 100, .row 64 5 (noteRows ((k.held.take i).filter (fun n => decide (t < n.til))))), (.o 101, .row 157 3 (markRows [])), (.t 7, .v (.e (.c (.pt 7 0)))), (.o 7, .box 64 [.d (.i (k.held.getD i .zero).frm), .d (.i (k.held.getD i .zero).num), .d (.i (k.held.getD i .zero).to), .d (.i (k.held.getD i .zero).til), .d (.s (k.held.getD i .zero).text)])]) ?_ ?_
    · skip
      refine wk [(.t 1, .v (I t)), (.t 2, .v (.e (.c (.pt 2 0)))), (.t 4, .v (.e (.c (.pt 4 0)))), (.t 5, .v (.e (.c (.pt 5 0)))), (.t 19, .v (Dv (.sl (noteRows k.held)))), (.t 20, .v (I (k.held.length : Nat))), (.t 21, .v (I (i : Nat))), (.o 2, .box 83 [.d (.i k.id), .d (.i k.time), .d (.i k.next), .d (.sl (noteRows k.held)), .d (.sl (markRows k.marks)), .d (.sl (noteRows k.inbox))]), (.o 4, .box 83 [.d (.i 0), .d (.i 0), .d (.i 0), .nil, .nil, .nil]), (.o 5, .box 83 [.d (.i k.id), .d (.i t), .d (.i k.next), .own 100 (noteRows ((k.held.take i).filter (fun n => decide (t < n.til)))).length, .own 101 (markRows []).length, .d (.sl (noteRows k.inbox))]), (.o 100, .row 64 5 (noteRows ((k.held.take i).filter (fun n => decide (t < n.til))))), (.o 101, .row 157 3 (markRows [])), (.t 7, .v (.e (.c (.pt 7 0)))), (.o 7, .box 64 [.d (.i (k.held.getD i .zero).frm), .d (.i (k.held.getD i .zero).num), .d (.i (k.held.getD i .zero).to), .d (.i (k.held.getD i .zero).til), .d (.s (k.held.getD i .zero).text)])] [] [] (rfl) ?_ rfl rfl
      repeat' first | exact trivial | refine mL_nil rfl ?_ | refine mL_d rfl ?_ ?_ | refine mL_own rfl rfl ?_ rfl ?_ | refine mL_row rfl ?_ ?_ | refine mL_pt rfl rfl rfl rfl ?_ | refine mL_box rfl ?_ ?_ | refine mL_agg rfl ?_ ?_ | exact mCs_nil0 | refine mCs_d ?_ ?_ | refine mCs_nil ?_ | refine mCs_own rfl ?_ rfl ?_ | refine mCs_pt rfl rfl rfl ?_
      all_goals first | with_reducible rfl | (first | with_reducible rfl | (rw [Int.toNat_natCast, hg]; rfl))
    rintro s rfl
    refine SW.regT tabOk [1, 2, 4, 5, 7, 19, 20, 21, 28] ?_
    refine ai (by first | trivial | rfl) (ai vc (ai trivial (ai trivial ?_)))
    refine SW.cond rfl (fun c28 => ?_) (fun c28 => ?_)
    · skip
      have hp : (fun n : NoteR => decide (t < n.til)) (k.held.getD i .zero) = true := c28
      have hf := filter_yes (z := NoteR.zero) (p := fun n => decide (t < n.til)) hi2 hp
      refine SW.regT tabOk [1, 2, 4, 5, 19, 20, 21] ?_
      refine ai (by first | trivial | rfl) (ai vc (ai vc (ai (by exact ⟨by simp, Nat.le_of_ble_eq_true rfl⟩) (ai (by exact ⟨by first | trivial | rfl | (simp; done), by first | rfl | (simp; done), by first | (simp; done) | (intro r hr; rw [List.mem_singleton.1 hr]; rfl), by (have hm := (List.length_filter_le (fun n => decide (t < n.til)) (k.held.take i))); rw [List.length_take] at hm; simp only [noteRows_length, List.length_cons, List.length_nil]; show _ * 48 ≤ _; omega⟩) (ai (by first | trivial | rfl) (ai ⟨by kernel_rfl, Nat.le_of_ble_eq_true (by kernel_rfl)⟩ ?_))))))
      refine SW.regT tabOk [1, 2, 4, 5, 19, 20, 21] ?_
      refine ai trivial (ai trivial ?_)
      refine wk [(.t 1, .v (I t)), (.t 2, .v (.e (.c (.pt 2 0)))), (.t 4, .v (.e (.c (.pt 4 0)))), (.t 5, .v (.e (.c (.pt 5 0)))), (.t 19, .v (Dv (.sl (noteRows k.held)))), (.t 20, .v (I (k.held.length : Nat))), (.t 21, .v (I ((i + 1) : Nat))), (.o 2, .box 83 [.d (.i k.id), .d (.i k.time), .d (.i k.next), .d (.sl (noteRows k.held)), .d (.sl (markRows k.marks)), .d (.sl (noteRows k.inbox))]), (.o 4, .box 83 [.d (.i 0), .d (.i 0), .d (.i 0), .nil, .nil, .nil]), (.o 5, .box 83 [.d (.i k.id), .d (.i t), .d (.i k.next), .own 100 (noteRows ((k.held.take (i + 1)).filter (fun n => decide (t < n.til)))).length, .own 101 (markRows []).length, .d (.sl (noteRows k.inbox))]), (.o 100, .row 64 5 (noteRows ((k.held.take (i + 1)).filter (fun n => decide (t < n.til))))), (.o 101, .row 157 3 (markRows []))] [] [] (⟨k.held.length - (i + 1), by omega, i + 1, rfl, by omega, rfl⟩) ?_ rfl rfl
      repeat' first | exact trivial | refine mL_nil rfl ?_ | refine mL_d rfl ?_ ?_ | refine mL_own rfl rfl ?_ rfl ?_ | refine mL_row rfl ?_ ?_ | refine mL_pt rfl rfl rfl rfl ?_ | refine mL_box rfl ?_ ?_ | refine mL_agg rfl ?_ ?_ | exact mCs_nil0 | refine mCs_d ?_ ?_ | refine mCs_nil ?_ | refine mCs_own rfl ?_ rfl ?_ | refine mCs_pt rfl rfl rfl ?_
      all_goals first | with_reducible rfl | (first | with_reducible rfl | exact congrArg D.i (by rw [wrap64_of (by omega)]; omega) | (rw [hf]; simp [noteRows, markRows, NoteR.row, MarkR.row]; done) | (rw [hf]; done))
    · skip
      have hp : (fun n : NoteR => decide (t < n.til)) (k.held.getD i .zero) = false := c28
      have hf := filter_no (z := NoteR.zero) (p := fun n => decide (t < n.til)) hi2 hp
      refine SW.skip ?_
      refine SW.regT tabOk [1, 2, 4, 5, 19, 20, 21] ?_
      refine ai trivial (ai trivial ?_)
      refine wk [(.t 1, .v (I t)), (.t 2, .v (.e (.c (.pt 2 0)))), (.t 4, .v (.e (.c (.pt 4 0)))), (.t 5, .v (.e (.c (.pt 5 0)))), (.t 19, .v (Dv (.sl (noteRows k.held)))), (.t 20, .v (I (k.held.length : Nat))), (.t 21, .v (I ((i + 1) : Nat))), (.o 2, .box 83 [.d (.i k.id), .d (.i k.time), .d (.i k.next), .d (.sl (noteRows k.held)), .d (.sl (markRows k.marks)), .d (.sl (noteRows k.inbox))]), (.o 4, .box 83 [.d (.i 0), .d (.i 0), .d (.i 0), .nil, .nil, .nil]), (.o 5, .box 83 [.d (.i k.id), .d (.i t), .d (.i k.next), .own 100 (noteRows ((k.held.take (i + 1)).filter (fun n => decide (t < n.til)))).length, .own 101 (markRows []).length, .d (.sl (noteRows k.inbox))]), (.o 100, .row 64 5 (noteRows ((k.held.take (i + 1)).filter (fun n => decide (t < n.til))))), (.o 101, .row 157 3 (markRows []))] [] [] (⟨k.held.length - (i + 1), by omega, i + 1, rfl, by omega, rfl⟩) ?_ rfl rfl
      repeat' first | exact trivial | refine mL_nil rfl ?_ | refine mL_d rfl ?_ ?_ | refine mL_own rfl rfl ?_ rfl ?_ | refine mL_row rfl ?_ ?_ | refine mL_pt rfl rfl rfl rfl ?_ | refine mL_box rfl ?_ ?_ | refine mL_agg rfl ?_ ?_ | exact mCs_nil0 | refine mCs_d ?_ ?_ | refine mCs_nil ?_ | refine mCs_own rfl ?_ rfl ?_ | refine mCs_pt rfl rfl rfl ?_
      all_goals first | with_reducible rfl | (first | with_reducible rfl | exact congrArg D.i (by rw [wrap64_of (by omega)]; omega) | (rw [hf]; simp [noteRows, markRows, NoteR.row, MarkR.row]; done) | (rw [hf]; done))
  · skip
    have hi3 : i = k.held.length := by simp at c22; omega
    subst hi3
    clear hi
    refine SW.exit ?_
    refine SW.seq ?_
    refine SW.seq ?_
    refine SW.regT tabOk [1, 4, 5, 37, 38, 39] ?_
    refine ai (by first | trivial | rfl) (ai vc (ai vc (ai trivial ?_)))
    refine SW.block ?_
    -- live at the head: [1, 4, 5, 37, 38, 39]
    refine SW.loopW (n := k.marks.length) (fun m q => ∃ i : Nat, m = k.marks.length - i ∧ i ≤ k.marks.length ∧ q = [(.t 1, .v (I t)), (.t 4, .v (.e (.c (.pt 4 0)))), (.t 5, .v (.e (.c (.pt 5 0)))), (.t 37, .v (Dv (.sl (markRows k.marks)))), (.t 38, .v (I (k.marks.length : Nat))), (.t 39, .v (I (i : Nat))), (.o 4, .box 83 [.d (.i 0), .d (.i 0), .d (.i 0), .nil, .nil, .nil]), (.o 5, .box 83 [.d (.i k.id), .d (.i t), .d (.i k.next), .own 100 (noteRows ((k.held.take k.held.length).filter (fun n => decide (t < n.til)))).length, .own 101 (markRows ((k.marks.take i).filter (fun n => decide (t < n.til)))).length, .d (.sl (noteRows k.inbox))]), (.o 100, .row 64 5 (noteRows ((k.held.take k.held.length).filter (fun n => decide (t < n.til))))), (.o 101, .row 157 3 (markRows ((k.marks.take i).filter (fun n => decide (t < n.til)))))]) ?_ ?_
    · skip
      refine wk [(.t 1, .v (I t)), (.t 4, .v (.e (.c (.pt 4 0)))), (.t 5, .v (.e (.c (.pt 5 0)))), (.t 37, .v (Dv (.sl (markRows k.marks)))), (.t 38, .v (I (k.marks.length : Nat))), (.t 39, .v (I (0 : Nat))), (.o 4, .box 83 [.d (.i 0), .d (.i 0), .d (.i 0), .nil, .nil, .nil]), (.o 5, .box 83 [.d (.i k.id), .d (.i t), .d (.i k.next), .own 100 (noteRows ((k.held.take k.held.length).filter (fun n => decide (t < n.til)))).length, .own 101 (markRows ((k.marks.take 0).filter (fun n => decide (t < n.til)))).length, .d (.sl (noteRows k.inbox))]), (.o 100, .row 64 5 (noteRows ((k.held.take k.held.length).filter (fun n => decide (t < n.til))))), (.o 101, .row 157 3 (markRows ((k.marks.take 0).filter (fun n => decide (t < n.til)))))] [] [] (⟨0, rfl, Nat.zero_le _, rfl⟩) ?_ rfl rfl
      repeat' first | exact trivial | refine mL_nil rfl ?_ | refine mL_d rfl ?_ ?_ | refine mL_own rfl rfl ?_ rfl ?_ | refine mL_row rfl ?_ ?_ | refine mL_pt rfl rfl rfl rfl ?_ | refine mL_box rfl ?_ ?_ | refine mL_agg rfl ?_ ?_ | exact mCs_nil0 | refine mCs_d ?_ ?_ | refine mCs_nil ?_ | refine mCs_own rfl ?_ rfl ?_ | refine mCs_pt rfl rfl rfl ?_
      all_goals first | with_reducible rfl | (first | with_reducible rfl | rfl | (rw [noteRows_length]; done) | (rw [markRows_length]; done))
    rintro n s ⟨i, rfl, hi, rfl⟩
    refine SW.seq ?_
    refine SW.regT tabOk [1, 4, 5, 37, 38, 39, 40] ?_
    refine ai trivial ?_
    refine SW.seq ?_
    refine SW.cond rfl (fun c40 => ?_) (fun c40 => ?_)
    · skip
      have hi2 : i < k.marks.length := by simpa using c40
      have hg := markRows_getD (l := k.marks) hi2
      refine SW.skip ?_
      refine SW.seq ?_
      refine SW.block ?_
      refine SW.seq ?_
      refine SW.regT tabOk [1, 4, 5, 9, 37, 38, 39] ?_
      refine ai (by rw [Int.toNat_natCast, hg]; exact ⟨⟨by omega, by rw [markRows_length]; omega⟩, rfl⟩) (ai (by rw [Int.toNat_natCast, hg]; exact ⟨Nat.le_of_ble_eq_true rfl, rfl⟩) (ai trivial (ai ⟨by kernel_rfl, Nat.le_of_ble_eq_true (by kernel_rfl)⟩ ?_)))
      refine SW.seq ?_
      refine SW.wk (J := fun s => s = [(.t 1, .v (I t)), (.t 4, .v (.e (.c (.pt 4 0)))), (.t 5, .v (.e (.c (.pt 5 0)))), (.t 37, .v (Dv (.sl (markRows k.marks)))), (.t 38, .v (I (k.marks.length : Nat))), (.t 39, .v (I (i : Nat))), (.o 4, .box 83 [.d (.i 0), .d (.i 0), .d (.i 0), .nil, .nil, .nil]), (.o 5, .box 83 [.d (.i k.id), .d (.i t), .d (.i k.next), .own 100 (noteRows ((k.held.take k.held.length).filter (fun n => decide (t < n.til)))).length, .own 101 (markRows ((k.marks.take i).filter (fun n => decide (t < n.til)))).length, .d (.sl (noteRows k.inbox))]), (.o 100, .row 64 5 (noteRows ((k.held.take k.held.length).filter (fun n => decide (t < n.til))))), (.o 101, .row 157 3 (markRows ((k.marks.take i).filter (fun n => decide (t < n.til))))), (.t 9, .v (.e (.c (.pt 9 0)))), (.o 9, .box 157 [.d (.i (k.marks.getD i .zero).frm), .d (.i (k.marks.getD i .zero).num), .d (.i (k.marks.getD i .zero).til)])]) ?_ ?_
      · skip
        refine wk [(.t 1, .v (I t)), (.t 4, .v (.e (.c (.pt 4 0)))), (.t 5, .v (.e (.c (.pt 5 0)))), (.t 37, .v (Dv (.sl (markRows k.marks)))), (.t 38, .v (I (k.marks.length : Nat))), (.t 39, .v (I (i : Nat))), (.o 4, .box 83 [.d (.i 0), .d (.i 0), .d (.i 0), .nil, .nil, .nil]), (.o 5, .box 83 [.d (.i k.id), .d (.i t), .d (.i k.next), .own 100 (noteRows ((k.held.take k.held.length).filter (fun n => decide (t < n.til)))).length, .own 101 (markRows ((k.marks.take i).filter (fun n => decide (t < n.til)))).length, .d (.sl (noteRows k.inbox))]), (.o 100, .row 64 5 (noteRows ((k.held.take k.held.length).filter (fun n => decide (t < n.til))))), (.o 101, .row 157 3 (markRows ((k.marks.take i).filter (fun n => decide (t < n.til))))), (.t 9, .v (.e (.c (.pt 9 0)))), (.o 9, .box 157 [.d (.i (k.marks.getD i .zero).frm), .d (.i (k.marks.getD i .zero).num), .d (.i (k.marks.getD i .zero).til)])] [] [] (rfl) ?_ rfl rfl
        repeat' first | exact trivial | refine mL_nil rfl ?_ | refine mL_d rfl ?_ ?_ | refine mL_own rfl rfl ?_ rfl ?_ | refine mL_row rfl ?_ ?_ | refine mL_pt rfl rfl rfl rfl ?_ | refine mL_box rfl ?_ ?_ | refine mL_agg rfl ?_ ?_ | exact mCs_nil0 | refine mCs_d ?_ ?_ | refine mCs_nil ?_ | refine mCs_own rfl ?_ rfl ?_ | refine mCs_pt rfl rfl rfl ?_
        all_goals first | with_reducible rfl | (first | with_reducible rfl | (rw [Int.toNat_natCast, hg]; rfl))
      rintro s rfl
      refine SW.regT tabOk [1, 4, 5, 9, 37, 38, 39, 46] ?_
      refine ai (by first | trivial | rfl) (ai vc (ai trivial (ai trivial ?_)))
      refine SW.cond rfl (fun c46 => ?_) (fun c46 => ?_)
      · skip
        have hp : (fun n : MarkR => decide (t < n.til)) (k.marks.getD i .zero) = true := c46
        have hf := filter_yes (z := MarkR.zero) (p := fun n => decide (t < n.til)) hi2 hp
        refine SW.regT tabOk [1, 4, 5, 37, 38, 39] ?_
        refine ai (by first | trivial | rfl) (ai vc (ai vc (ai (by exact ⟨by simp, Nat.le_of_ble_eq_true rfl⟩) (ai (by exact ⟨by first | trivial | rfl | (simp; done), by first | rfl | (simp; done), by first | (simp; done) | (intro r hr; rw [List.mem_singleton.1 hr]; rfl), by (have hm := (List.length_filter_le (fun n => decide (t < n.til)) (k.marks.take i))); rw [List.length_take] at hm; simp only [markRows_length, List.length_cons, List.length_nil]; show _ * 24 ≤ _; omega⟩) (ai (by first | trivial | rfl) (ai ⟨by kernel_rfl, Nat.le_of_ble_eq_true (by kernel_rfl)⟩ ?_))))))
        refine SW.regT tabOk [1, 4, 5, 37, 38, 39] ?_
        refine ai trivial (ai trivial ?_)
        refine wk [(.t 1, .v (I t)), (.t 4, .v (.e (.c (.pt 4 0)))), (.t 5, .v (.e (.c (.pt 5 0)))), (.t 37, .v (Dv (.sl (markRows k.marks)))), (.t 38, .v (I (k.marks.length : Nat))), (.t 39, .v (I ((i + 1) : Nat))), (.o 4, .box 83 [.d (.i 0), .d (.i 0), .d (.i 0), .nil, .nil, .nil]), (.o 5, .box 83 [.d (.i k.id), .d (.i t), .d (.i k.next), .own 100 (noteRows ((k.held.take k.held.length).filter (fun n => decide (t < n.til)))).length, .own 101 (markRows ((k.marks.take (i + 1)).filter (fun n => decide (t < n.til)))).length, .d (.sl (noteRows k.inbox))]), (.o 100, .row 64 5 (noteRows ((k.held.take k.held.length).filter (fun n => decide (t < n.til))))), (.o 101, .row 157 3 (markRows ((k.marks.take (i + 1)).filter (fun n => decide (t < n.til)))))] [] [] (⟨k.marks.length - (i + 1), by omega, i + 1, rfl, by omega, rfl⟩) ?_ rfl rfl
        repeat' first | exact trivial | refine mL_nil rfl ?_ | refine mL_d rfl ?_ ?_ | refine mL_own rfl rfl ?_ rfl ?_ | refine mL_row rfl ?_ ?_ | refine mL_pt rfl rfl rfl rfl ?_ | refine mL_box rfl ?_ ?_ | refine mL_agg rfl ?_ ?_ | exact mCs_nil0 | refine mCs_d ?_ ?_ | refine mCs_nil ?_ | refine mCs_own rfl ?_ rfl ?_ | refine mCs_pt rfl rfl rfl ?_
        all_goals first | with_reducible rfl | (first | with_reducible rfl | exact congrArg D.i (by rw [wrap64_of (by omega)]; omega) | (rw [hf]; simp [noteRows, markRows, NoteR.row, MarkR.row]; done) | (rw [hf]; done))
      · skip
        have hp : (fun n : MarkR => decide (t < n.til)) (k.marks.getD i .zero) = false := c46
        have hf := filter_no (z := MarkR.zero) (p := fun n => decide (t < n.til)) hi2 hp
        refine SW.skip ?_
        refine SW.regT tabOk [1, 4, 5, 37, 38, 39] ?_
        refine ai trivial (ai trivial ?_)
        refine wk [(.t 1, .v (I t)), (.t 4, .v (.e (.c (.pt 4 0)))), (.t 5, .v (.e (.c (.pt 5 0)))), (.t 37, .v (Dv (.sl (markRows k.marks)))), (.t 38, .v (I (k.marks.length : Nat))), (.t 39, .v (I ((i + 1) : Nat))), (.o 4, .box 83 [.d (.i 0), .d (.i 0), .d (.i 0), .nil, .nil, .nil]), (.o 5, .box 83 [.d (.i k.id), .d (.i t), .d (.i k.next), .own 100 (noteRows ((k.held.take k.held.length).filter (fun n => decide (t < n.til)))).length, .own 101 (markRows ((k.marks.take (i + 1)).filter (fun n => decide (t < n.til)))).length, .d (.sl (noteRows k.inbox))]), (.o 100, .row 64 5 (noteRows ((k.held.take k.held.length).filter (fun n => decide (t < n.til))))), (.o 101, .row 157 3 (markRows ((k.marks.take (i + 1)).filter (fun n => decide (t < n.til)))))] [] [] (⟨k.marks.length - (i + 1), by omega, i + 1, rfl, by omega, rfl⟩) ?_ rfl rfl
        repeat' first | exact trivial | refine mL_nil rfl ?_ | refine mL_d rfl ?_ ?_ | refine mL_own rfl rfl ?_ rfl ?_ | refine mL_row rfl ?_ ?_ | refine mL_pt rfl rfl rfl rfl ?_ | refine mL_box rfl ?_ ?_ | refine mL_agg rfl ?_ ?_ | exact mCs_nil0 | refine mCs_d ?_ ?_ | refine mCs_nil ?_ | refine mCs_own rfl ?_ rfl ?_ | refine mCs_pt rfl rfl rfl ?_
        all_goals first | with_reducible rfl | (first | with_reducible rfl | exact congrArg D.i (by rw [wrap64_of (by omega)]; omega) | (rw [hf]; simp [noteRows, markRows, NoteR.row, MarkR.row]; done) | (rw [hf]; done))
    · skip
      have hi3 : i = k.marks.length := by simp at c40; omega
      subst hi3
      refine SW.exit ?_
      refine SW.seq ?_
      refine SW.regT tabOk [4] ?_
      refine ai vc (ai ⟨by kernel_rfl, Nat.le_of_ble_eq_true (by kernel_rfl)⟩ ?_)
      refine SW.ret ?_
      refine retOk _ [] [100, 101] rfl ?_ rfl rfl
      repeat' first | exact trivial | exact mCs_nil0 | exact mEs_nil0 | refine mL_agg rfl ?_ ?_ | refine mL_tup rfl ?_ ?_ | refine mEs_agg ?_ ?_ | refine mEs_froze rfl rfl ?_ ?_ ?_ | refine mEs_nil_d ?_ ?_ | refine mEs_d ?_ ?_ | refine mCs_froze rfl rfl ?_ ?_ ?_ | refine mCs_nil_d ?_ ?_ | refine mCs_d ?_ ?_
      all_goals (first | with_reducible rfl | (simp [advance]; done))

set_option maxHeartbeats 1600000 in
theorem s_spec_l12Time (k : KeepR) (t : Int) (hb : k.held.length ≤ 100000 ∧ k.marks.length ≤ 100000 ∧ k.inbox.length ≤ 100000) : Ab.Spec Tryz.prog 189 2 [(.t 0, .v (k.V)), (.t 1, .v (I t))] [(.t 0, .v ((advance k t).V))] := by
  refine spec_of_body tabOk Tryz.func189 rfl (by kernel_rfl) (by decide) (by kernel_rfl) rfl ?_
  refine SW.seq ?_
  refine SW.regT tabOk [1, 2, 4] ?_
  refine ai trivial (ai trivial ?_)
  refine SW.seq ?_
  refine SW.regT tabOk [1, 2, 4, 5] ?_
  refine ai (by simp) (ai trivial ?_)
  refine SW.seq ?_
  refine SW.seq ?_
  refine SW.regT tabOk [1, 2, 4, 5, 6] ?_
  refine ai trivial ?_
  refine SW.block ?_
  -- live at the head: [1, 2, 4, 5, 6]
  refine SW.loopW (n := k.held.length) (fun m q => ∃ i : Nat, m = k.held.length - i ∧ i ≤ k.held.length ∧ q = [(.t 1, .v (I t)), (.t 2, .v (.e (.c (.pt 2 0)))), (.t 4, .v (.e (.c (.pt 4 0)))), (.t 5, .v (.e (.c (.own 9 (noteRows ((k.held.take i).filter (fun n => decide (t < n.til)))).length)))), (.t 6, .v (I (i : Nat))), (.o 2, .box 83 [.d (.i k.id), .d (.i k.time), .d (.i k.next), .d (.sl (noteRows k.held)), .d (.sl (markRows k.marks)), .d (.sl (noteRows k.inbox))]), (.o 4, .box 83 [.d (.i 0), .d (.i 0), .d (.i 0), .nil, .nil, .nil]), (.o 9, .row 64 5 (noteRows ((k.held.take i).filter (fun n => decide (t < n.til)))))]) ?_ ?_
  · skip
    refine wk [(.t 1, .v (I t)), (.t 2, .v (.e (.c (.pt 2 0)))), (.t 4, .v (.e (.c (.pt 4 0)))), (.t 5, .v (.e (.c (.own 9 (noteRows ((k.held.take 0).filter (fun n => decide (t < n.til)))).length)))), (.t 6, .v (I (0 : Nat))), (.o 2, .box 83 [.d (.i k.id), .d (.i k.time), .d (.i k.next), .d (.sl (noteRows k.held)), .d (.sl (markRows k.marks)), .d (.sl (noteRows k.inbox))]), (.o 4, .box 83 [.d (.i 0), .d (.i 0), .d (.i 0), .nil, .nil, .nil]), (.o 9, .row 64 5 (noteRows ((k.held.take 0).filter (fun n => decide (t < n.til)))))] [] [] (⟨0, rfl, Nat.zero_le _, rfl⟩) ?_ rfl rfl
    repeat' first | exact trivial | refine mL_nil rfl ?_ | refine mL_d rfl ?_ ?_ | refine mL_own rfl rfl ?_ rfl ?_ | refine mL_row rfl ?_ ?_ | refine mL_pt rfl rfl rfl rfl ?_ | refine mL_box rfl ?_ ?_ | refine mL_agg rfl ?_ ?_ | exact mCs_nil0 | refine mCs_d ?_ ?_ | refine mCs_nil ?_ | refine mCs_own rfl ?_ rfl ?_ | refine mCs_pt rfl rfl rfl ?_
    all_goals first | with_reducible rfl | (first | with_reducible rfl | rfl | (rw [noteRows_length]; done) | (rw [markRows_length]; done))
  rintro n s ⟨i, rfl, hi, rfl⟩
  refine SW.seq ?_
  refine SW.seq ?_
  refine SW.regT tabOk [1, 2, 4, 5, 6, 14] ?_
  refine ai trivial (ai (by first | trivial | rfl) (ai vc (ai vc (ai trivial ?_))))
  refine SW.cond rfl (fun c14 => ?_) (fun c14 => ?_)
  · skip
    have hi2 : i < k.held.length := by simpa [noteRows_length] using c14
    have hg := noteRows_getD (l := k.held) hi2
    refine SW.skip ?_
    refine SW.seq ?_
    refine SW.block ?_
    refine SW.seq ?_
    refine SW.regT tabOk [1, 2, 4, 5, 6, 24] ?_
    refine ai (by first | trivial | rfl) (ai vc (ai trivial (ai (by rw [Int.toNat_natCast, hg]; exact ⟨⟨by omega, by rw [noteRows_length]; omega⟩, rfl⟩) (ai (by first | trivial | rfl) (ai (by rw [Int.toNat_natCast, hg]; exact ⟨Nat.le_of_ble_eq_true rfl, rfl⟩) (ai trivial (ai trivial ?_)))))))
    refine SW.cond rfl (fun c24 => ?_) (fun c24 => ?_)
    · skip
      rw [Int.toNat_natCast, hg] at c24
      have hp : (fun n : NoteR => decide (t < n.til)) (k.held.getD i .zero) = true := c24
      have hf := filter_yes (z := NoteR.zero) (p := fun n => decide (t < n.til)) hi2 hp
      refine SW.regT tabOk [1, 2, 4, 5, 6] ?_
      refine ai trivial (ai (by first | trivial | rfl) (ai vc (ai trivial (ai (by rw [Int.toNat_natCast, hg]; exact ⟨⟨by omega, by rw [noteRows_length]; omega⟩, rfl⟩) (ai (by rw [Int.toNat_natCast, hg]; exact ⟨Nat.le_of_ble_eq_true rfl, rfl⟩) (ai (by exact ⟨by simp, Nat.le_of_ble_eq_true rfl⟩) (ai (by exact ⟨by first | trivial | rfl | (simp; done), by first | rfl | (simp; done), by first | (simp; done) | (intro r hr; rw [List.mem_singleton.1 hr]; rfl), by (have hm := (List.length_filter_le (fun n => decide (t < n.til)) (k.held.take i))); rw [List.length_take] at hm; simp only [noteRows_length, List.length_cons, List.length_nil]; show _ * 48 ≤ _; omega⟩) (ai trivial ?_))))))))
      refine SW.regT tabOk [1, 2, 4, 5, 6] ?_
      refine ai trivial (ai trivial (ai trivial ?_))
      refine wk [(.t 1, .v (I t)), (.t 2, .v (.e (.c (.pt 2 0)))), (.t 4, .v (.e (.c (.pt 4 0)))), (.t 5, .v (.e (.c (.own 9 (noteRows ((k.held.take (i + 1)).filter (fun n => decide (t < n.til)))).length)))), (.t 6, .v (I ((i + 1) : Nat))), (.o 2, .box 83 [.d (.i k.id), .d (.i k.time), .d (.i k.next), .d (.sl (noteRows k.held)), .d (.sl (markRows k.marks)), .d (.sl (noteRows k.inbox))]), (.o 4, .box 83 [.d (.i 0), .d (.i 0), .d (.i 0), .nil, .nil, .nil]), (.o 9, .row 64 5 (noteRows ((k.held.take (i + 1)).filter (fun n => decide (t < n.til)))))] [] [] (⟨k.held.length - (i + 1), by omega, i + 1, rfl, by omega, rfl⟩) ?_ rfl rfl
      repeat' first | exact trivial | refine mL_nil rfl ?_ | refine mL_d rfl ?_ ?_ | refine mL_own rfl rfl ?_ rfl ?_ | refine mL_row rfl ?_ ?_ | refine mL_pt rfl rfl rfl rfl ?_ | refine mL_box rfl ?_ ?_ | refine mL_agg rfl ?_ ?_ | exact mCs_nil0 | refine mCs_d ?_ ?_ | refine mCs_nil ?_ | refine mCs_own rfl ?_ rfl ?_ | refine mCs_pt rfl rfl rfl ?_
      all_goals first | with_reducible rfl | (first | with_reducible rfl | exact congrArg D.i (by rw [wrap64_of (by omega)]; omega) | (rw [hf, Int.toNat_natCast, hg]; exact noteRows_push _ _) | (rw [hf]; simp [noteRows, markRows]; done) | (rw [hf]; done))
    · skip
      rw [Int.toNat_natCast, hg] at c24
      have hp : (fun n : NoteR => decide (t < n.til)) (k.held.getD i .zero) = false := c24
      have hf := filter_no (z := NoteR.zero) (p := fun n => decide (t < n.til)) hi2 hp
      refine SW.skip ?_
      refine SW.regT tabOk [1, 2, 4, 5, 6] ?_
      refine ai trivial (ai trivial (ai trivial ?_))
      refine wk [(.t 1, .v (I t)), (.t 2, .v (.e (.c (.pt 2 0)))), (.t 4, .v (.e (.c (.pt 4 0)))), (.t 5, .v (.e (.c (.own 9 (noteRows ((k.held.take (i + 1)).filter (fun n => decide (t < n.til)))).length)))), (.t 6, .v (I ((i + 1) : Nat))), (.o 2, .box 83 [.d (.i k.id), .d (.i k.time), .d (.i k.next), .d (.sl (noteRows k.held)), .d (.sl (markRows k.marks)), .d (.sl (noteRows k.inbox))]), (.o 4, .box 83 [.d (.i 0), .d (.i 0), .d (.i 0), .nil, .nil, .nil]), (.o 9, .row 64 5 (noteRows ((k.held.take (i + 1)).filter (fun n => decide (t < n.til)))))] [] [] (⟨k.held.length - (i + 1), by omega, i + 1, rfl, by omega, rfl⟩) ?_ rfl rfl
      repeat' first | exact trivial | refine mL_nil rfl ?_ | refine mL_d rfl ?_ ?_ | refine mL_own rfl rfl ?_ rfl ?_ | refine mL_row rfl ?_ ?_ | refine mL_pt rfl rfl rfl rfl ?_ | refine mL_box rfl ?_ ?_ | refine mL_agg rfl ?_ ?_ | exact mCs_nil0 | refine mCs_d ?_ ?_ | refine mCs_nil ?_ | refine mCs_own rfl ?_ rfl ?_ | refine mCs_pt rfl rfl rfl ?_
      all_goals first | with_reducible rfl | (first | with_reducible rfl | exact congrArg D.i (by rw [wrap64_of (by omega)]; omega) | (rw [hf, Int.toNat_natCast, hg]; exact noteRows_push _ _) | (rw [hf]; simp [noteRows, markRows]; done) | (rw [hf]; done))
  · skip
    have hi3 : i = k.held.length := by simp [noteRows_length] at c14; omega
    subst hi3
    clear hi
    refine SW.exit ?_
    refine SW.seq ?_
    refine SW.regT tabOk [1, 2, 4, 5, 7] ?_
    refine ai (by simp) (ai trivial ?_)
    refine SW.seq ?_
    refine SW.seq ?_
    refine SW.regT tabOk [1, 2, 4, 5, 7, 8] ?_
    refine ai trivial ?_
    refine SW.block ?_
    -- live at the head: [1, 2, 4, 5, 7, 8]
    refine SW.loopW (n := k.marks.length) (fun m q => ∃ i : Nat, m = k.marks.length - i ∧ i ≤ k.marks.length ∧ q = [(.t 1, .v (I t)), (.t 2, .v (.e (.c (.pt 2 0)))), (.t 4, .v (.e (.c (.pt 4 0)))), (.t 5, .v (.e (.c (.own 9 (noteRows ((k.held.take k.held.length).filter (fun n => decide (t < n.til)))).length)))), (.t 7, .v (.e (.c (.own 33 (markRows ((k.marks.take i).filter (fun n => decide (t < n.til)))).length)))), (.t 8, .v (I (i : Nat))), (.o 2, .box 83 [.d (.i k.id), .d (.i k.time), .d (.i k.next), .d (.sl (noteRows k.held)), .d (.sl (markRows k.marks)), .d (.sl (noteRows k.inbox))]), (.o 4, .box 83 [.d (.i 0), .d (.i 0), .d (.i 0), .nil, .nil, .nil]), (.o 9, .row 64 5 (noteRows ((k.held.take k.held.length).filter (fun n => decide (t < n.til))))), (.o 33, .row 157 3 (markRows ((k.marks.take i).filter (fun n => decide (t < n.til)))))]) ?_ ?_
    · skip
      refine wk [(.t 1, .v (I t)), (.t 2, .v (.e (.c (.pt 2 0)))), (.t 4, .v (.e (.c (.pt 4 0)))), (.t 5, .v (.e (.c (.own 9 (noteRows ((k.held.take k.held.length).filter (fun n => decide (t < n.til)))).length)))), (.t 7, .v (.e (.c (.own 33 (markRows ((k.marks.take 0).filter (fun n => decide (t < n.til)))).length)))), (.t 8, .v (I (0 : Nat))), (.o 2, .box 83 [.d (.i k.id), .d (.i k.time), .d (.i k.next), .d (.sl (noteRows k.held)), .d (.sl (markRows k.marks)), .d (.sl (noteRows k.inbox))]), (.o 4, .box 83 [.d (.i 0), .d (.i 0), .d (.i 0), .nil, .nil, .nil]), (.o 9, .row 64 5 (noteRows ((k.held.take k.held.length).filter (fun n => decide (t < n.til))))), (.o 33, .row 157 3 (markRows ((k.marks.take 0).filter (fun n => decide (t < n.til)))))] [] [] (⟨0, rfl, Nat.zero_le _, rfl⟩) ?_ rfl rfl
      repeat' first | exact trivial | refine mL_nil rfl ?_ | refine mL_d rfl ?_ ?_ | refine mL_own rfl rfl ?_ rfl ?_ | refine mL_row rfl ?_ ?_ | refine mL_pt rfl rfl rfl rfl ?_ | refine mL_box rfl ?_ ?_ | refine mL_agg rfl ?_ ?_ | exact mCs_nil0 | refine mCs_d ?_ ?_ | refine mCs_nil ?_ | refine mCs_own rfl ?_ rfl ?_ | refine mCs_pt rfl rfl rfl ?_
      all_goals first | with_reducible rfl | (first | with_reducible rfl | rfl | (rw [noteRows_length]; done) | (rw [markRows_length]; done))
    rintro n s ⟨i, rfl, hi, rfl⟩
    refine SW.seq ?_
    refine SW.seq ?_
    refine SW.regT tabOk [1, 2, 4, 5, 7, 8, 38] ?_
    refine ai trivial (ai (by first | trivial | rfl) (ai vc (ai vc (ai trivial ?_))))
    refine SW.cond rfl (fun c38 => ?_) (fun c38 => ?_)
    · skip
      have hi2 : i < k.marks.length := by simpa [markRows_length] using c38
      have hg := markRows_getD (l := k.marks) hi2
      refine SW.skip ?_
      refine SW.seq ?_
      refine SW.block ?_
      refine SW.seq ?_
      refine SW.regT tabOk [1, 2, 4, 5, 7, 8, 48] ?_
      refine ai (by first | trivial | rfl) (ai vc (ai trivial (ai (by rw [Int.toNat_natCast, hg]; exact ⟨⟨by omega, by rw [markRows_length]; omega⟩, rfl⟩) (ai (by first | trivial | rfl) (ai (by rw [Int.toNat_natCast, hg]; exact ⟨Nat.le_of_ble_eq_true rfl, rfl⟩) (ai trivial (ai trivial ?_)))))))
      refine SW.cond rfl (fun c48 => ?_) (fun c48 => ?_)
      · skip
        rw [Int.toNat_natCast, hg] at c48
        have hp : (fun n : MarkR => decide (t < n.til)) (k.marks.getD i .zero) = true := c48
        have hf := filter_yes (z := MarkR.zero) (p := fun n => decide (t < n.til)) hi2 hp
        refine SW.regT tabOk [1, 2, 4, 5, 7, 8] ?_
        refine ai trivial (ai (by first | trivial | rfl) (ai vc (ai trivial (ai (by rw [Int.toNat_natCast, hg]; exact ⟨⟨by omega, by rw [markRows_length]; omega⟩, rfl⟩) (ai (by rw [Int.toNat_natCast, hg]; exact ⟨Nat.le_of_ble_eq_true rfl, rfl⟩) (ai (by exact ⟨by simp, Nat.le_of_ble_eq_true rfl⟩) (ai (by exact ⟨by first | trivial | rfl | (simp; done), by first | rfl | (simp; done), by first | (simp; done) | (intro r hr; rw [List.mem_singleton.1 hr]; rfl), by (have hm := (List.length_filter_le (fun n => decide (t < n.til)) (k.marks.take i))); rw [List.length_take] at hm; simp only [markRows_length, List.length_cons, List.length_nil]; show _ * 24 ≤ _; omega⟩) (ai trivial ?_))))))))
        refine SW.regT tabOk [1, 2, 4, 5, 7, 8] ?_
        refine ai trivial (ai trivial (ai trivial ?_))
        refine wk [(.t 1, .v (I t)), (.t 2, .v (.e (.c (.pt 2 0)))), (.t 4, .v (.e (.c (.pt 4 0)))), (.t 5, .v (.e (.c (.own 9 (noteRows ((k.held.take k.held.length).filter (fun n => decide (t < n.til)))).length)))), (.t 7, .v (.e (.c (.own 33 (markRows ((k.marks.take (i + 1)).filter (fun n => decide (t < n.til)))).length)))), (.t 8, .v (I ((i + 1) : Nat))), (.o 2, .box 83 [.d (.i k.id), .d (.i k.time), .d (.i k.next), .d (.sl (noteRows k.held)), .d (.sl (markRows k.marks)), .d (.sl (noteRows k.inbox))]), (.o 4, .box 83 [.d (.i 0), .d (.i 0), .d (.i 0), .nil, .nil, .nil]), (.o 9, .row 64 5 (noteRows ((k.held.take k.held.length).filter (fun n => decide (t < n.til))))), (.o 33, .row 157 3 (markRows ((k.marks.take (i + 1)).filter (fun n => decide (t < n.til)))))] [] [] (⟨k.marks.length - (i + 1), by omega, i + 1, rfl, by omega, rfl⟩) ?_ rfl rfl
        repeat' first | exact trivial | refine mL_nil rfl ?_ | refine mL_d rfl ?_ ?_ | refine mL_own rfl rfl ?_ rfl ?_ | refine mL_row rfl ?_ ?_ | refine mL_pt rfl rfl rfl rfl ?_ | refine mL_box rfl ?_ ?_ | refine mL_agg rfl ?_ ?_ | exact mCs_nil0 | refine mCs_d ?_ ?_ | refine mCs_nil ?_ | refine mCs_own rfl ?_ rfl ?_ | refine mCs_pt rfl rfl rfl ?_
        all_goals first | with_reducible rfl | (first | with_reducible rfl | exact congrArg D.i (by rw [wrap64_of (by omega)]; omega) | (rw [hf, Int.toNat_natCast, hg]; exact markRows_push _ _) | (rw [hf]; simp [noteRows, markRows]; done) | (rw [hf]; done))
      · skip
        rw [Int.toNat_natCast, hg] at c48
        have hp : (fun n : MarkR => decide (t < n.til)) (k.marks.getD i .zero) = false := c48
        have hf := filter_no (z := MarkR.zero) (p := fun n => decide (t < n.til)) hi2 hp
        refine SW.skip ?_
        refine SW.regT tabOk [1, 2, 4, 5, 7, 8] ?_
        refine ai trivial (ai trivial (ai trivial ?_))
        refine wk [(.t 1, .v (I t)), (.t 2, .v (.e (.c (.pt 2 0)))), (.t 4, .v (.e (.c (.pt 4 0)))), (.t 5, .v (.e (.c (.own 9 (noteRows ((k.held.take k.held.length).filter (fun n => decide (t < n.til)))).length)))), (.t 7, .v (.e (.c (.own 33 (markRows ((k.marks.take (i + 1)).filter (fun n => decide (t < n.til)))).length)))), (.t 8, .v (I ((i + 1) : Nat))), (.o 2, .box 83 [.d (.i k.id), .d (.i k.time), .d (.i k.next), .d (.sl (noteRows k.held)), .d (.sl (markRows k.marks)), .d (.sl (noteRows k.inbox))]), (.o 4, .box 83 [.d (.i 0), .d (.i 0), .d (.i 0), .nil, .nil, .nil]), (.o 9, .row 64 5 (noteRows ((k.held.take k.held.length).filter (fun n => decide (t < n.til))))), (.o 33, .row 157 3 (markRows ((k.marks.take (i + 1)).filter (fun n => decide (t < n.til)))))] [] [] (⟨k.marks.length - (i + 1), by omega, i + 1, rfl, by omega, rfl⟩) ?_ rfl rfl
        repeat' first | exact trivial | refine mL_nil rfl ?_ | refine mL_d rfl ?_ ?_ | refine mL_own rfl rfl ?_ rfl ?_ | refine mL_row rfl ?_ ?_ | refine mL_pt rfl rfl rfl rfl ?_ | refine mL_box rfl ?_ ?_ | refine mL_agg rfl ?_ ?_ | exact mCs_nil0 | refine mCs_d ?_ ?_ | refine mCs_nil ?_ | refine mCs_own rfl ?_ rfl ?_ | refine mCs_pt rfl rfl rfl ?_
        all_goals first | with_reducible rfl | (first | with_reducible rfl | exact congrArg D.i (by rw [wrap64_of (by omega)]; omega) | (rw [hf, Int.toNat_natCast, hg]; exact markRows_push _ _) | (rw [hf]; simp [noteRows, markRows]; done) | (rw [hf]; done))
    · skip
      have hi3 : i = k.marks.length := by simp [markRows_length] at c38; omega
      subst hi3
      refine SW.exit ?_
      refine SW.seq ?_
      refine SW.regT tabOk [2, 4, 5, 7] ?_
      refine ai trivial (ai (by first | trivial | rfl) (ai ⟨by kernel_rfl, Nat.le_of_ble_eq_true (by kernel_rfl)⟩ ?_))
      refine SW.seq ?_
      refine SW.regT tabOk [2, 4, 7] ?_
      refine ai trivial (ai (by first | trivial | rfl) (ai ⟨by kernel_rfl, Nat.le_of_ble_eq_true (by kernel_rfl)⟩ ?_))
      refine SW.seq ?_
      refine SW.regT tabOk [2, 4] ?_
      refine ai trivial (ai (by first | trivial | rfl) (ai ⟨by kernel_rfl, Nat.le_of_ble_eq_true (by kernel_rfl)⟩ ?_))
      refine SW.seq ?_
      refine SW.regT tabOk [4] ?_
      refine ai vc (ai ⟨by kernel_rfl, Nat.le_of_ble_eq_true (by kernel_rfl)⟩ ?_)
      refine SW.ret ?_
      refine retOk _ [] [9, 33] rfl ?_ rfl rfl
      repeat' first | exact trivial | exact mCs_nil0 | exact mEs_nil0 | refine mL_agg rfl ?_ ?_ | refine mL_tup rfl ?_ ?_ | refine mEs_agg ?_ ?_ | refine mEs_froze rfl rfl ?_ ?_ ?_ | refine mEs_nil_d ?_ ?_ | refine mEs_d ?_ ?_ | refine mCs_froze rfl rfl ?_ ?_ ?_ | refine mCs_nil_d ?_ ?_ | refine mCs_d ?_ ?_
      all_goals (first | with_reducible rfl | (simp [advance]; done))

end Go.Proofs.YtilahgkblckndaaGreatDoor

namespace Go.Proofs.YtilahgkblckndaaGreatDoor
open Go Go.Ab Go.RowKit
set_option linter.unusedVariables false
set_option linter.unusedSimpArgs false

set_option maxHeartbeats 1600000 in
theorem s_impl_accept (k : KeepR) (n : NoteR) (hb : k.held.length ≤ 100000 ∧ k.marks.length ≤ 100000 ∧ k.inbox.length ≤ 100000) (hn : n.text.length ≤ 140737488355328) : Ab.Spec Tryz.prog 220 2 [(.t 0, .v (k.V)), (.t 1, .v (n.V))] [(.t 0, .v (.tup [.agg [.d (.i ((accept k n).1).id), .d (.i ((accept k n).1).time), .d (.i ((accept k n).1).next), .d (.sl (noteRows ((accept k n).1).held)), .d (.sl (markRows ((accept k n).1).marks)), .d (.sl (noteRows ((accept k n).1).inbox))], .c (.d (.b (accept k n).2))]))] := by
  refine spec_of_body tabOk Tryz.func220 rfl (by kernel_rfl) (by decide) (by kernel_rfl) rfl ?_
  refine SW.seq ?_
  refine SW.regT tabOk [2, 3, 4, 10, 11, 12, 13, 14, 17, 18, 19, 20, 21, 22, 23, 24, 27, 28, 29, 30, 31, 32, 33, 34, 37, 38, 39, 40, 41, 42, 43, 44, 47, 48, 49, 50, 51, 52, 53, 54, 55] ?_
  refine ai trivial (ai trivial (ai trivial (ai trivial ?_)))
  refine SW.seq ?_
  refine SW.seq ?_
  refine SW.regT tabOk [2, 3, 4, 56] ?_
  refine ai vc ?_
  refine ex_pure (s_impl_NoteOk n hn) rfl rfl rfl rfl rfl rfl rfl rfl ?_
  refine ai trivial (ai trivial (ai (fun h => (by first | trivial | rfl)) (ai rk (ai (fun h => vc) (ai rk (ai (fun h => (by first | trivial | rfl)) (ai rk (ai (fun h => vc) (ai rk (ai (fun h => trivial) (ai rk (ai pk (ai trivial (ai (fun h => (by first | trivial | rfl)) (ai rk (ai (fun h => vc) (ai rk (ai (fun h => (by first | trivial | rfl)) (ai rk (ai (fun h => vc) (ai rk (ai (fun h => (by first | trivial | rfl)) (ai rk (ai (fun h => vc) (ai rk ?_)))))))))))))))))))))))))
  refine exc_pure (fun h => (s_impl_noteAt k.held _ _ (by omega))) rfl rfl rfl rfl rfl rfl rfl rfl rk ?_
  refine ai (fun h => trivial) (ai rk (ai pk (ai trivial (ai (fun h => (by first | trivial | rfl)) (ai rk (ai (fun h => vc) (ai rk (ai (fun h => (by first | trivial | rfl)) (ai rk (ai (fun h => vc) (ai rk (ai (fun h => (by first | trivial | rfl)) (ai rk (ai (fun h => vc) (ai rk ?_)))))))))))))))
  refine exc_pure (fun h => (s_impl_noteAt k.inbox _ _ (by omega))) rfl rfl rfl rfl rfl rfl rfl rfl rk ?_
  refine ai (fun h => trivial) (ai rk (ai pk (ai trivial (ai (fun h => (by first | trivial | rfl)) (ai rk (ai (fun h => vc) (ai rk (ai (fun h => (by first | trivial | rfl)) (ai rk (ai (fun h => vc) (ai rk (ai (fun h => (by first | trivial | rfl)) (ai rk (ai (fun h => vc) (ai rk ?_)))))))))))))))
  refine exc_pure (fun h => (s_impl_markAt k.marks _ _ (by omega))) rfl rfl rfl rfl rfl rfl rfl rfl rk ?_
  refine ai (fun h => trivial) (ai rk (ai pk (ai trivial (ai (fun h => (by first | trivial | rfl)) (ai rk (ai (fun h => vc) (ai rk (ai (fun h => vc) (ai rk (ai (fun h => (by first | trivial | rfl)) (ai rk (ai (fun h => vc) (ai rk (ai (fun h => vc) (ai rk (ai (fun h => trivial) (ai rk (ai (fun h => trivial) (ai rk (ai (fun h => trivial) (ai rk (ai pk ?_))))))))))))))))))))))
  refine SW.cond rfl (fun c56 => ?_) (fun c56 => ?_)
  · skip
    have ha := accept_gen hb c56
    refine SW.seq ?_
    refine SW.regT tabOk [4, 5] ?_
    refine ai vc (ai ⟨by kernel_rfl, Nat.le_of_ble_eq_true (by kernel_rfl)⟩ (ai trivial ?_))
    refine SW.ret ?_
    have hr : accept k n = (k, false) := if_neg (bn ha)
    refine retOkP rfl rfl ?_
    rw [hr] <;> rfl
  · skip
    have ha := accept_gen hb c56
    refine SW.skip ?_
    refine SW.seq ?_
    refine SW.seq ?_
    refine SW.regT tabOk [2, 3, 4, 62] ?_
    refine ai (by first | trivial | rfl) (ai vc (ai (by first | trivial | rfl) (ai vc (ai trivial ?_))))
    refine SW.cond rfl (fun c62 => ?_) (fun c62 => ?_)
    · skip
      refine SW.seq ?_
      refine SW.regT tabOk [2, 3, 4] ?_
      refine ai (by first | trivial | rfl) (ai vc (ai vc ?_))
      refine ex_pure (s_impl_noteIn k.inbox n hb.2.2) rfl rfl rfl rfl rfl rfl rfl rfl ?_
      refine ai (by first | trivial | rfl) (ai ⟨by kernel_rfl, Nat.le_of_ble_eq_true (by kernel_rfl)⟩ ?_)
      refine SW.regT tabOk [2, 4] ?_
      refine ai (by first | trivial | rfl) (ai vc (ai (by first | trivial | rfl) (ai vc (ai (by first | trivial | rfl) (ai vc (ai (by first | trivial | rfl) (ai vc (ai vc ?_))))))))
      refine ex_pure (s_impl_markIn k.marks ⟨n.frm, n.num, n.til⟩ hb.2.1) rfl rfl rfl rfl rfl rfl rfl rfl ?_
      refine ai (by first | trivial | rfl) (ai ⟨by kernel_rfl, Nat.le_of_ble_eq_true (by kernel_rfl)⟩ ?_)
      refine SW.seq ?_
      refine SW.regT tabOk [4, 5] ?_
      refine ai vc (ai ⟨by kernel_rfl, Nat.le_of_ble_eq_true (by kernel_rfl)⟩ (ai trivial ?_))
      refine SW.ret ?_
      first | have hr := accept_in ha c62 | have hr := accept_on ha c62
      refine retOkP rfl rfl ?_
      rw [hr] <;> rfl
    · skip
      refine SW.regT tabOk [2, 4] ?_
      refine ai (by first | trivial | rfl) (ai vc (ai vc ?_))
      refine ex_pure (s_impl_noteIn k.held n hb.1) rfl rfl rfl rfl rfl rfl rfl rfl ?_
      refine ai (by first | trivial | rfl) (ai ⟨by kernel_rfl, Nat.le_of_ble_eq_true (by kernel_rfl)⟩ ?_)
      refine SW.seq ?_
      refine SW.regT tabOk [4, 5] ?_
      refine ai vc (ai ⟨by kernel_rfl, Nat.le_of_ble_eq_true (by kernel_rfl)⟩ (ai trivial ?_))
      refine SW.ret ?_
      first | have hr := accept_in ha c62 | have hr := accept_on ha c62
      refine retOkP rfl rfl ?_
      rw [hr] <;> rfl

theorem s_impl_doNum (k : KeepR) (w : List UInt8) (n : Int) (hb : k.held.length ≤ 100000 ∧ k.marks.length ≤ 100000 ∧ k.inbox.length ≤ 100000) : Ab.Spec Tryz.prog 203 3 [(.t 0, .v (k.V)), (.t 1, .v (Dv (.s w))), (.t 2, .v (I n))] [(.t 0, .v (.tup [.agg [.d (.i ((doNum k w n).1).id), .d (.i ((doNum k w n).1).time), .d (.i ((doNum k w n).1).next), .d (.sl (noteRows ((doNum k w n).1).held)), .d (.sl (markRows ((doNum k w n).1).marks)), .d (.sl (noteRows ((doNum k w n).1).inbox))], .c (.d (.b (doNum k w n).2))]))] := by
  refine spec_of_body tabOk Tryz.func203 rfl (by kernel_rfl) (by decide) (by kernel_rfl) rfl ?_
  refine SW.seq ?_
  refine SW.regT tabOk [1, 2, 3, 6, 12, 13, 14, 15, 24, 25, 26, 27] ?_
  refine ai trivial (ai trivial (ai trivial ?_))
  refine SW.seq ?_
  refine SW.block ?_
  refine SW.seq ?_
  refine SW.regT tabOk [1, 2, 3, 6, 8, 24, 25, 26, 27] ?_
  refine ai trivial (ai vc (ai trivial (ai (fun h => trivial) (ai rk (ai (fun h => (by first | trivial | rfl)) (ai rk (ai (fun h => vc) (ai rk (ai (fun h => trivial) (ai rk (ai pk (ai trivial ?_))))))))))))
  refine SW.cond rfl (fun c8 => ?_) (fun c8 => ?_)
  · skip
    refine SW.seq ?_
    refine SW.regT tabOk [6, 7] ?_
    refine ai vc (ai trivial ?_)
    refine ex_pure (s_impl_advance k n hb) rfl rfl rfl rfl rfl rfl rfl rfl ?_
    refine ai ⟨by kernel_rfl, Nat.le_of_ble_eq_true (by kernel_rfl)⟩ (ai trivial ?_)
    refine SW.ret ?_
    have hr : doNum k w n = (advance k n, true) := if_pos c8
    refine retOkP rfl rfl ?_
    rw [hr] <;> rfl
  · skip
    refine SW.seq ?_
    refine SW.regT tabOk [2, 3, 6, 20] ?_
    refine ai trivial (ai vc (ai trivial (ai (fun h => trivial) (ai rk (ai (fun h => (by first | trivial | rfl)) (ai rk (ai (fun h => vc) (ai rk (ai (fun h => trivial) (ai rk (ai pk (ai trivial ?_))))))))))))
    refine SW.cond rfl (fun c20 => ?_) (fun c20 => ?_)
    · skip
      refine SW.seq ?_
      refine SW.regT tabOk [3, 6] ?_
      refine ai trivial (ai (by first | trivial | rfl) (ai ⟨by kernel_rfl, Nat.le_of_ble_eq_true (by kernel_rfl)⟩ ?_))
      refine SW.seq ?_
      refine SW.regT tabOk [6, 7] ?_
      refine ai vc (ai ⟨by kernel_rfl, Nat.le_of_ble_eq_true (by kernel_rfl)⟩ (ai trivial ?_))
      refine SW.ret ?_
      have hr : doNum k w n = ({ k with next := n }, true) := (if_neg (bn c8)).trans (if_pos c20)
      refine retOkP rfl rfl ?_
      rw [hr] <;> rfl
    · skip
      refine SW.skip ?_
      refine SW.seq ?_
      refine SW.regT tabOk [6, 7] ?_
      refine ai vc (ai ⟨by kernel_rfl, Nat.le_of_ble_eq_true (by kernel_rfl)⟩ (ai trivial ?_))
      refine SW.ret ?_
      have hr : doNum k w n = (k, false) := (if_neg (bn c8)).trans (if_neg (bn c20))
      refine retOkP rfl rfl ?_
      rw [hr] <;> rfl

set_option maxHeartbeats 1600000 in
theorem s_impl_doNote (k : KeepR) (w : List UInt8) (n : NoteR) (hb : k.held.length ≤ 100000 ∧ k.marks.length ≤ 100000 ∧ k.inbox.length ≤ 100000) (hn : n.text.length ≤ 140737488355328) : Ab.Spec Tryz.prog 205 3 [(.t 0, .v (k.V)), (.t 1, .v (Dv (.s w))), (.t 2, .v (n.V))] [(.t 0, .v (.tup [.agg [.d (.i ((doNote k w n).1).id), .d (.i ((doNote k w n).1).time), .d (.i ((doNote k w n).1).next), .d (.sl (noteRows ((doNote k w n).1).held)), .d (.sl (markRows ((doNote k w n).1).marks)), .d (.sl (noteRows ((doNote k w n).1).inbox))], .c (.d (.b (doNote k w n).2))]))] := by
  refine spec_of_body tabOk Tryz.func205 rfl (by kernel_rfl) (by decide) (by kernel_rfl) rfl ?_
  refine SW.seq ?_
  refine SW.regT tabOk [1, 3, 5, 6, 12, 13, 14, 15, 16, 19, 20, 21, 22, 23, 38, 39, 40, 41, 42, 59, 60, 61, 62, 63, 64, 65, 66] ?_
  refine ai trivial (ai trivial (ai trivial (ai trivial ?_)))
  refine SW.seq ?_
  refine SW.block ?_
  refine SW.seq ?_
  refine SW.regT tabOk [1, 3, 5, 6, 8, 38, 39, 40, 41, 42, 59, 60, 61, 62, 63, 64, 65, 66] ?_
  refine ai trivial (ai vc (ai trivial (ai (fun h => (by first | trivial | rfl)) (ai rk (ai (fun h => vc) (ai rk (ai (fun h => (by first | trivial | rfl)) (ai rk (ai (fun h => vc) (ai rk (ai (fun h => trivial) (ai rk (ai pk (ai trivial (ai (fun h => (by first | trivial | rfl)) (ai rk (ai (fun h => vc) (ai rk (ai (fun h => (by first | trivial | rfl)) (ai rk (ai (fun h => vc) (ai rk (ai (fun h => trivial) (ai rk (ai pk (ai trivial ?_))))))))))))))))))))))))))
  refine SW.cond rfl (fun c8 => ?_) (fun c8 => ?_)
  · skip
    refine SW.seq ?_
    refine SW.regT tabOk [3, 5, 6] ?_
    refine ai (by first | trivial | rfl) (ai vc (ai trivial (ai (by first | trivial | rfl) (ai ⟨by kernel_rfl, Nat.le_of_ble_eq_true (by kernel_rfl)⟩ ?_))))
    refine SW.seq ?_
    refine SW.regT tabOk [6, 7] ?_
    refine ai vc (ai vc ?_)
    refine ex_pure (s_impl_accept { k with next := wrap64 (k.next + 1) } n hb hn) rfl rfl rfl rfl rfl rfl rfl rfl ?_
    refine ai trivial (ai trivial (ai ⟨by kernel_rfl, Nat.le_of_ble_eq_true (by kernel_rfl)⟩ (ai trivial ?_)))
    refine SW.ret ?_
    have hr : doNote k w n = accept { k with next := wrap64 (k.next + 1) } n := if_pos c8
    refine retOkP rfl rfl ?_
    rw [hr] <;> rfl
  · skip
    refine SW.seq ?_
    refine SW.regT tabOk [1, 3, 5, 6, 34, 59, 60, 61, 62, 63, 64, 65, 66] ?_
    refine ai trivial (ai vc (ai trivial (ai (fun h => (by first | trivial | rfl)) (ai rk (ai (fun h => vc) (ai rk (ai (fun h => (by first | trivial | rfl)) (ai rk (ai (fun h => vc) (ai rk (ai (fun h => trivial) (ai rk (ai pk (ai trivial ?_))))))))))))))
    refine SW.cond rfl (fun c34 => ?_) (fun c34 => ?_)
    · skip
      refine SW.seq ?_
      refine SW.regT tabOk [6, 7] ?_
      refine ai vc (ai vc ?_)
      refine ex_pure (s_impl_accept k n hb hn) rfl rfl rfl rfl rfl rfl rfl rfl ?_
      refine ai trivial (ai trivial (ai ⟨by kernel_rfl, Nat.le_of_ble_eq_true (by kernel_rfl)⟩ (ai trivial ?_)))
      refine SW.ret ?_
      have hr : doNote k w n = accept k n := (if_neg (bn c8)).trans (if_pos c34)
      refine retOkP rfl rfl ?_
      rw [hr] <;> rfl
    · skip
      refine SW.seq ?_
      refine SW.regT tabOk [1, 3, 5, 6, 49] ?_
      refine ai (by first | trivial | rfl) (ai vc (ai (by first | trivial | rfl) (ai vc (ai (by first | trivial | rfl) (ai vc ?_)))))
      refine ex_pure (s_impl_noteAt k.held _ _ (by omega)) rfl rfl rfl rfl rfl rfl rfl rfl ?_
      refine ai trivial (ai trivial (ai (fun h => (by first | trivial | rfl)) (ai rk (ai (fun h => vc) (ai rk (ai (fun h => (by first | trivial | rfl)) (ai rk (ai (fun h => vc) (ai rk (ai (fun h => (by first | trivial | rfl)) (ai rk (ai (fun h => vc) (ai rk ?_)))))))))))))
      refine exc_pure (fun h => (s_impl_noteAt k.inbox _ _ (by omega))) rfl rfl rfl rfl rfl rfl rfl rfl rk ?_
      refine ai (fun h => trivial) (ai rk (ai pk (ai trivial ?_)))
      refine SW.cond rfl (fun c49 => ?_) (fun c49 => ?_)
      · skip
        refine SW.skip ?_
        refine SW.seq ?_
        refine SW.regT tabOk [6, 7] ?_
        refine ai vc (ai ⟨by kernel_rfl, Nat.le_of_ble_eq_true (by kernel_rfl)⟩ (ai trivial ?_))
        refine SW.ret ?_
        have hr : doNote k w n = (k, false) := by
          first | exact (if_neg (bn c8)).trans ((if_neg (bn c34)).trans (if_pos c49)) | exact (if_neg (bn c8)).trans ((if_neg (bn c34)).trans ((if_neg (bn c49)).trans ((if_neg (bn c68)).trans (if_neg (bn c77)))))
        refine retOkP rfl rfl ?_
        rw [hr] <;> rfl
      · skip
        refine SW.seq ?_
        refine SW.regT tabOk [1, 3, 5, 6, 68] ?_
        refine ai trivial (ai vc (ai trivial ?_))
        refine SW.cond rfl (fun c68 => ?_) (fun c68 => ?_)
        · skip
          refine SW.seq ?_
          refine SW.regT tabOk [3, 6] ?_
          refine ai (by first | trivial | rfl) (ai vc (ai vc ?_))
          refine ex_pure (s_impl_noteIn k.held n hb.1) rfl rfl rfl rfl rfl rfl rfl rfl ?_
          refine ai (by first | trivial | rfl) (ai ⟨by kernel_rfl, Nat.le_of_ble_eq_true (by kernel_rfl)⟩ ?_)
          refine SW.seq ?_
          refine SW.regT tabOk [6, 7] ?_
          refine ai vc (ai ⟨by kernel_rfl, Nat.le_of_ble_eq_true (by kernel_rfl)⟩ (ai trivial ?_))
          refine SW.ret ?_
          have hr : doNote k w n = ({ k with held := noteIn k.held n }, true) := (if_neg (bn c8)).trans ((if_neg (bn c34)).trans ((if_neg (bn c49)).trans (if_pos c68)))
          refine retOkP rfl rfl ?_
          rw [hr] <;> rfl
        · skip
          refine SW.seq ?_
          refine SW.regT tabOk [3, 5, 6, 77] ?_
          refine ai trivial (ai vc (ai trivial ?_))
          refine SW.cond rfl (fun c77 => ?_) (fun c77 => ?_)
          · skip
            refine SW.seq ?_
            refine SW.regT tabOk [3, 6] ?_
            refine ai (by first | trivial | rfl) (ai vc (ai vc ?_))
            refine ex_pure (s_impl_noteIn k.inbox n hb.2.2) rfl rfl rfl rfl rfl rfl rfl rfl ?_
            refine ai (by first | trivial | rfl) (ai ⟨by kernel_rfl, Nat.le_of_ble_eq_true (by kernel_rfl)⟩ ?_)
            refine SW.seq ?_
            refine SW.regT tabOk [6, 7] ?_
            refine ai vc (ai ⟨by kernel_rfl, Nat.le_of_ble_eq_true (by kernel_rfl)⟩ (ai trivial ?_))
            refine SW.ret ?_
            have hr : doNote k w n = ({ k with inbox := noteIn k.inbox n }, true) := (if_neg (bn c8)).trans ((if_neg (bn c34)).trans ((if_neg (bn c49)).trans ((if_neg (bn c68)).trans (if_pos c77))))
            refine retOkP rfl rfl ?_
            rw [hr] <;> rfl
          · skip
            refine SW.skip ?_
            refine SW.seq ?_
            refine SW.regT tabOk [6, 7] ?_
            refine ai vc (ai ⟨by kernel_rfl, Nat.le_of_ble_eq_true (by kernel_rfl)⟩ (ai trivial ?_))
            refine SW.ret ?_
            have hr : doNote k w n = (k, false) := by
              first | exact (if_neg (bn c8)).trans ((if_neg (bn c34)).trans (if_pos c49)) | exact (if_neg (bn c8)).trans ((if_neg (bn c34)).trans ((if_neg (bn c49)).trans ((if_neg (bn c68)).trans (if_neg (bn c77)))))
            refine retOkP rfl rfl ?_
            rw [hr] <;> rfl

set_option maxHeartbeats 1600000 in
theorem s_impl_doMark (k : KeepR) (w : List UInt8) (m : MarkR) (hb : k.held.length ≤ 100000 ∧ k.marks.length ≤ 100000 ∧ k.inbox.length ≤ 100000) : Ab.Spec Tryz.prog 208 3 [(.t 0, .v (k.V)), (.t 1, .v (Dv (.s w))), (.t 2, .v (m.V))] [(.t 0, .v (.tup [.agg [.d (.i ((doMark k w m).1).id), .d (.i ((doMark k w m).1).time), .d (.i ((doMark k w m).1).next), .d (.sl (noteRows ((doMark k w m).1).held)), .d (.sl (markRows ((doMark k w m).1).marks)), .d (.sl (noteRows ((doMark k w m).1).inbox))], .c (.d (.b (doMark k w m).2))]))] := by
  refine spec_of_body tabOk Tryz.func208 rfl (by kernel_rfl) (by decide) (by kernel_rfl) rfl ?_
  refine SW.seq ?_
  refine SW.regT tabOk [1, 3, 5, 6, 37, 38, 41, 42, 43, 44, 45, 46, 47, 48, 49, 66, 67, 70, 71, 72, 73, 74, 75, 76, 77, 78, 90, 91] ?_
  refine ai trivial (ai trivial (ai trivial (ai trivial ?_)))
  refine SW.seq ?_
  refine SW.regD tabOk mo [1, 3, 5, 6, 8, 9, 37, 38, 41, 42, 43, 44, 45, 46, 47, 48, 49, 66, 67, 70, 71, 72, 73, 74, 75, 76, 77, 78, 90, 91] ?_
  refine ai (by first | trivial | rfl) (ai vc (ai (by first | trivial | rfl) (ai vc (ai (by first | trivial | rfl) (ai vc ?_)))))
  refine ex_pure (s_impl_noteAt k.held _ _ (by omega)) rfl rfl rfl rfl rfl rfl rfl rfl ?_
  refine ai (by first | trivial | rfl) (ai vc (ai (by first | trivial | rfl) (ai vc (ai (by first | trivial | rfl) (ai vc ?_)))))
  refine ex_pure (s_impl_noteAt k.inbox _ _ (by omega)) rfl rfl rfl rfl rfl rfl rfl rfl ?_
  refine ai trivial (ai trivial (ai (by kernel_rfl) ?_))
  refine SW.seq ?_
  refine SW.regT tabOk [1, 3, 5, 6, 8, 9, 10, 37, 38, 41, 42, 43, 44, 45, 46, 47, 48, 49, 66, 67, 70, 71, 72, 73, 74, 75, 76, 77, 78, 90, 91] ?_
  refine ai (by first | trivial | rfl) (ai vc (ai (by first | trivial | rfl) (ai vc (ai (by first | trivial | rfl) (ai vc ?_)))))
  refine ex_pure (s_impl_markAt k.marks _ _ (by omega)) rfl rfl rfl rfl rfl rfl rfl rfl ?_
  refine ai trivial (ai trivial ?_)
  refine SW.seq ?_
  refine SW.block ?_
  refine SW.seq ?_
  refine SW.regD tabOk mo [1, 3, 5, 6, 8, 9, 10, 33, 66, 67, 70, 71, 72, 73, 74, 75, 76, 77, 78, 90, 91] ?_
  refine ai trivial (ai vc (ai trivial (ai (fun h => trivial) (ai rk (ai (fun h => trivial) (ai rk (ai pk (ai trivial (ai (fun h => (by first | trivial | rfl)) (ai rk (ai (fun h => vc) (ai rk (ai (fun h => trivial) (ai rk (ai (fun h => (by skip; have hp : 0 ≤ noteAt k.held m.frm m.num := (by have h8 := h; simp only [gb, Bool.and_eq_true, decide_eq_true_eq] at h8; exact h8.2); have hr := noteAt_lt k.held m.frm m.num; rw [noteRows_getD (by omega)]; exact ⟨⟨hp, by rw [noteRows_length]; omega⟩, rfl⟩)) (ai rk (ai (fun h => (by first | trivial | rfl)) (ai rk (ai (fun h => (by have hp : 0 ≤ noteAt k.held m.frm m.num := (by have h8 := h; simp only [gb, Bool.and_eq_true, decide_eq_true_eq] at h8; exact h8.2); have hr := noteAt_lt k.held m.frm m.num; rw [noteRows_getD (by omega)]; exact ⟨Nat.le_of_ble_eq_true rfl, rfl⟩)) (ai rk (ai (fun h => (by first | trivial | rfl)) (ai rk (ai (fun h => vc) (ai rk (ai (fun h => trivial) (ai rk (ai pk (ai trivial (ai (by kernel_rfl) ?_)))))))))))))))))))))))))))))
  refine SW.cond rfl (fun c33 => ?_) (fun c33 => ?_)
  · skip
    have hc : (w == wLet && decide (0 ≤ noteAt k.held m.frm m.num) && (k.held.getD (noteAt k.held m.frm m.num).toNat .zero).til == m.til) = true := by
      have h9 := c33
      by_cases hp : 0 ≤ noteAt k.held m.frm m.num
      · have hr := noteAt_lt k.held m.frm m.num
        rw [noteRows_getD (by omega)] at h9
        exact h9
      · rw [show decide (noteAt k.held m.frm m.num ≥ 0) = false from decide_eq_false hp, Bool.and_false, Bool.false_and] at h9
        rw [show decide (0 ≤ noteAt k.held m.frm m.num) = false from decide_eq_false hp, Bool.and_false, Bool.false_and] <;> exact h9
    have hp : 0 ≤ noteAt k.held m.frm m.num := by
      simp only [Bool.and_eq_true, decide_eq_true_eq] at hc
      exact hc.1.2
    have hr := noteAt_lt k.held m.frm m.num
    refine SW.seq ?_
    refine SW.regT tabOk [3, 5, 6] ?_
    refine ai (by first | trivial | rfl) (ai vc (ai trivial ?_))
    refine ex_pure (s_impl_noteOut k.held (noteAt k.held m.frm m.num) ⟨hp, by omega⟩ hb.1) rfl rfl rfl rfl rfl rfl rfl rfl ?_
    refine ai (by first | trivial | rfl) (ai ⟨by kernel_rfl, Nat.le_of_ble_eq_true (by kernel_rfl)⟩ ?_)
    refine SW.seq ?_
    refine SW.regT tabOk [3, 6] ?_
    refine ai (by first | trivial | rfl) (ai vc (ai vc ?_))
    refine ex_pure (s_impl_markIn k.marks m hb.2.1) rfl rfl rfl rfl rfl rfl rfl rfl ?_
    refine ai (by first | trivial | rfl) (ai ⟨by kernel_rfl, Nat.le_of_ble_eq_true (by kernel_rfl)⟩ ?_)
    refine SW.seq ?_
    refine SW.regT tabOk [6, 7] ?_
    refine ai vc (ai ⟨by kernel_rfl, Nat.le_of_ble_eq_true (by kernel_rfl)⟩ (ai trivial ?_))
    refine SW.ret ?_
    have hr : doMark k w m = ({ k with held := cutAt k.held (noteAt k.held m.frm m.num).toNat, marks := markIn k.marks m }, true) := if_pos hc
    refine retOkP rfl rfl ?_
    rw [hr] <;> rfl
  · skip
    have hc : (w == wLet && decide (0 ≤ noteAt k.held m.frm m.num) && (k.held.getD (noteAt k.held m.frm m.num).toNat .zero).til == m.til) = false := by
      have h9 := c33
      by_cases hp : 0 ≤ noteAt k.held m.frm m.num
      · have hr := noteAt_lt k.held m.frm m.num
        rw [noteRows_getD (by omega)] at h9
        exact h9
      · rw [show decide (noteAt k.held m.frm m.num ≥ 0) = false from decide_eq_false hp, Bool.and_false, Bool.false_and] at h9
        rw [show decide (0 ≤ noteAt k.held m.frm m.num) = false from decide_eq_false hp, Bool.and_false, Bool.false_and] <;> exact h9
    have hc1 := hc
    clear hc
    refine SW.seq ?_
    refine SW.regD tabOk mo [1, 3, 5, 6, 9, 10, 62, 90, 91] ?_
    refine ai trivial (ai vc (ai trivial (ai (fun h => trivial) (ai rk (ai (fun h => trivial) (ai rk (ai pk (ai trivial (ai (fun h => (by first | trivial | rfl)) (ai rk (ai (fun h => vc) (ai rk (ai (fun h => trivial) (ai rk (ai (fun h => (by skip; have hp : 0 ≤ noteAt k.inbox m.frm m.num := (by have h8 := h; simp only [gb, Bool.and_eq_true, decide_eq_true_eq] at h8; exact h8.2); have hr := noteAt_lt k.inbox m.frm m.num; rw [noteRows_getD (by omega)]; exact ⟨⟨hp, by rw [noteRows_length]; omega⟩, rfl⟩)) (ai rk (ai (fun h => (by first | trivial | rfl)) (ai rk (ai (fun h => (by have hp : 0 ≤ noteAt k.inbox m.frm m.num := (by have h8 := h; simp only [gb, Bool.and_eq_true, decide_eq_true_eq] at h8; exact h8.2); have hr := noteAt_lt k.inbox m.frm m.num; rw [noteRows_getD (by omega)]; exact ⟨Nat.le_of_ble_eq_true rfl, rfl⟩)) (ai rk (ai (fun h => (by first | trivial | rfl)) (ai rk (ai (fun h => vc) (ai rk (ai (fun h => trivial) (ai rk (ai pk (ai trivial (ai (by kernel_rfl) ?_)))))))))))))))))))))))))))))
    refine SW.cond rfl (fun c62 => ?_) (fun c62 => ?_)
    · skip
      have hc : (w == wEat && decide (0 ≤ noteAt k.inbox m.frm m.num) && (k.inbox.getD (noteAt k.inbox m.frm m.num).toNat .zero).til == m.til) = true := by
        have h9 := c62
        by_cases hp : 0 ≤ noteAt k.inbox m.frm m.num
        · have hr := noteAt_lt k.inbox m.frm m.num
          rw [noteRows_getD (by omega)] at h9
          exact h9
        · rw [show decide (noteAt k.inbox m.frm m.num ≥ 0) = false from decide_eq_false hp, Bool.and_false, Bool.false_and] at h9
          rw [show decide (0 ≤ noteAt k.inbox m.frm m.num) = false from decide_eq_false hp, Bool.and_false, Bool.false_and] <;> exact h9
      have hp : 0 ≤ noteAt k.inbox m.frm m.num := by
        simp only [Bool.and_eq_true, decide_eq_true_eq] at hc
        exact hc.1.2
      have hr := noteAt_lt k.inbox m.frm m.num
      refine SW.seq ?_
      refine SW.regT tabOk [3, 6] ?_
      refine ai (by first | trivial | rfl) (ai vc (ai trivial ?_))
      refine ex_pure (s_impl_noteOut k.inbox (noteAt k.inbox m.frm m.num) ⟨hp, by omega⟩ hb.2.2) rfl rfl rfl rfl rfl rfl rfl rfl ?_
      refine ai (by first | trivial | rfl) (ai ⟨by kernel_rfl, Nat.le_of_ble_eq_true (by kernel_rfl)⟩ ?_)
      refine SW.seq ?_
      refine SW.regT tabOk [6, 7] ?_
      refine ai vc (ai ⟨by kernel_rfl, Nat.le_of_ble_eq_true (by kernel_rfl)⟩ (ai trivial ?_))
      refine SW.ret ?_
      have hr : doMark k w m = ({ k with inbox := cutAt k.inbox (noteAt k.inbox m.frm m.num).toNat }, true) := (if_neg (bn hc1)).trans (if_pos hc)
      refine retOkP rfl rfl ?_
      rw [hr] <;> rfl
    · skip
      have hc : (w == wEat && decide (0 ≤ noteAt k.inbox m.frm m.num) && (k.inbox.getD (noteAt k.inbox m.frm m.num).toNat .zero).til == m.til) = false := by
        have h9 := c62
        by_cases hp : 0 ≤ noteAt k.inbox m.frm m.num
        · have hr := noteAt_lt k.inbox m.frm m.num
          rw [noteRows_getD (by omega)] at h9
          exact h9
        · rw [show decide (noteAt k.inbox m.frm m.num ≥ 0) = false from decide_eq_false hp, Bool.and_false, Bool.false_and] at h9
          rw [show decide (0 ≤ noteAt k.inbox m.frm m.num) = false from decide_eq_false hp, Bool.and_false, Bool.false_and] <;> exact h9
      refine SW.seq ?_
      refine SW.regT tabOk [3, 5, 6, 86] ?_
      refine ai trivial (ai vc (ai trivial (ai (fun h => trivial) (ai rk (ai (fun h => trivial) (ai rk (ai pk (ai trivial ?_))))))))
      refine SW.cond rfl (fun c86 => ?_) (fun c86 => ?_)
      · skip
        have hm : (w == wMark && decide (markAt k.marks m.frm m.num < 0)) = true := by
          have h9 := c86
          rw [ge_lt, Bool.not_not] at h9
          exact h9
        refine SW.seq ?_
        refine SW.regT tabOk [3, 6] ?_
        refine ai (by first | trivial | rfl) (ai vc (ai vc ?_))
        refine ex_pure (s_impl_markIn k.marks m hb.2.1) rfl rfl rfl rfl rfl rfl rfl rfl ?_
        refine ai (by first | trivial | rfl) (ai ⟨by kernel_rfl, Nat.le_of_ble_eq_true (by kernel_rfl)⟩ ?_)
        refine SW.seq ?_
        refine SW.regT tabOk [6, 7] ?_
        refine ai vc (ai ⟨by kernel_rfl, Nat.le_of_ble_eq_true (by kernel_rfl)⟩ (ai trivial ?_))
        refine SW.ret ?_
        have hr : doMark k w m = ({ k with marks := markIn k.marks m }, true) := (if_neg (bn hc1)).trans ((if_neg (bn hc)).trans (if_pos hm))
        refine retOkP rfl rfl ?_
        rw [hr] <;> rfl
      · skip
        have hm : (w == wMark && decide (markAt k.marks m.frm m.num < 0)) = false := by
          have h9 := c86
          rw [ge_lt, Bool.not_not] at h9
          exact h9
        refine SW.skip ?_
        refine SW.seq ?_
        refine SW.regT tabOk [6, 7] ?_
        refine ai vc (ai ⟨by kernel_rfl, Nat.le_of_ble_eq_true (by kernel_rfl)⟩ (ai trivial ?_))
        refine SW.ret ?_
        have hr : doMark k w m = (k, false) := (if_neg (bn hc1)).trans ((if_neg (bn hc)).trans (if_neg (bn hm)))
        refine retOkP rfl rfl ?_
        rw [hr] <;> rfl

end Go.Proofs.YtilahgkblckndaaGreatDoor

namespace Go.Ab
open Go Go.RowKit
set_option linter.unusedVariables false
set_option linter.unusedSimpArgs false

theorem Spec.told {P : Program} {f : FuncId} {n : Nat} {σin σout σ' : St} {rl : List (Nat × Nat)} {bor : List Nat} (h : Spec P f n σin σout) (hm : mL σout σ' rl bor σ') (hm2 : mapOk σ' rl bor = true) (h0 : objIds σin = []) : Spec P f n σin σ' := by
  have hno : ∀ o k, look σin (.o o) = some k → False := fun o k hk => by have := mem_objIds hk; rw [h0] at this; cases this
  refine ⟨h.1, fun ι ν S w args hg h1 h2 h3 => calls_mono (fun ex w' => ?_) (h.2 ι ν S w args hg h1 h2 h3)⟩
  rintro ⟨v, ι', S', rfl, hp⟩
  have hM : Match σout σ' rl bor := ⟨hm, hm2⟩
  refine ⟨v, fun j => ι' (ren rl j), giveS σout ι' bor S', rfl, hp.fr, VR_match hM (fun _ _ h => h) hp.vr, fun b hb => ?_, fun o b hmu => ?_, fun o k k' hk hk' => (hno o k hk).elim⟩
  · rcases hb with hb | ⟨o, _, hb⟩
    · exact hp.rd b hb
    · rcases hp.own o b hb with h | ⟨⟨k, hk, _⟩, _⟩
      · exact .inr h
      · exact (hno o k hk).elim
  · obtain ⟨⟨k', hk', hl'⟩, hb⟩ := hmu
    obtain ⟨k, hk, hmk⟩ := hM.ids o k' hk'
    rcases hp.own (ren rl o) b ⟨⟨k, hk, (mK_live hmk).1⟩, hb⟩ with h | ⟨⟨k, hk, _⟩, _⟩
    · exact .inl h
    · exact (hno _ k hk).elim
theorem args3 {X Y : V} {a a' b b' c c' : Int} (e0 : a = a') (e1 : b = b') (e2 : c = c') : [(Loc.t 0, K.v X), (.t 1, .v Y), (.t 2, .v (.e (.agg [.d (.i a'), .d (.i b'), .d (.i c')])))] = argSt 0 [X, Y, .e (.agg [.d (.i a), .d (.i b), .d (.i c)])] := by
  subst e0; subst e1; subst e2; rfl
theorem nat_at3 {l : List (List UInt8)} (h : natsOk l = true) {i : Nat} (hi : i < l.length) : toI (((intRows (natsV l)).getD i []).getD 0 (.i 0)) = natN (l.getD i []) := by
  rw [intRows_getD (by rw [natsV_len h]; exact hi)]
  show (natsV l).getD i 0 = _
  rw [natsV_at h hi]
theorem readS_text (t : List UInt8) : (readS t).1.text.length ≤ t.length := by
  unfold readS
  split
  · exact Nat.zero_le _
  · exact restN_le 4 t
theorem count_le : ∀ (n : Nat) (s : List UInt8), s.length ≤ n → Lib.count s [32] ≤ s.length
  | 0, s, h => by
    rw [List.eq_nil_of_length_eq_zero (Nat.le_zero.1 h), count_sp]; exact Nat.le_refl _
  | n + 1, s, h => by
    rw [count_sp]
    by_cases hs : hasSp s = true
    · have := restOf_lt hs
      have := count_le n (restOf s) (by omega)
      rw [if_pos hs]; omega
    · rw [if_neg hs]; exact Nat.zero_le _
theorem split_len (s : List UInt8) : (splitSp s).length ≤ s.length + 1 := by
  have := count_le s.length s (Nat.le_refl _)
  have := (cuts_len (Lib.count s [32]) s).1
  unfold splitSp; omega
theorem split_le (s : List UInt8) : ∀ x ∈ splitSp s, x.length ≤ s.length := cuts_le _ s
section
variable {k : KeepR} {rec : List UInt8}
theorem recI_none (h : hasSp rec = false) : recDoI k rec = (k, false) := if_neg (bn h)
theorem recI_num (h : hasSp rec = true) (hw : (wordOf rec == wTime || wordOf rec == wNext) = true) (hn : (natV (restOf rec)).isSome = true) : recDoI k rec = doNum k (wordOf rec) (natN (restOf rec)) := (if_pos h).trans ((if_pos hw).trans (if_pos hn))
theorem recI_num0 (h : hasSp rec = true) (hw : (wordOf rec == wTime || wordOf rec == wNext) = true) (hn : (natV (restOf rec)).isSome = false) : recDoI k rec = (k, false) := (if_pos h).trans ((if_pos hw).trans (if_neg (bn hn)))
theorem recI_note (h : hasSp rec = true) (hw : (wordOf rec == wTime || wordOf rec == wNext) = false) (hw2 : (wordOf rec == wOwn || wordOf rec == wTake || wordOf rec == wHeld || wordOf rec == wInbox) = true) (hn : (readS (restOf rec)).2 = true) : recDoI k rec = doNote k (wordOf rec) (readS (restOf rec)).1 := (if_pos h).trans ((if_neg (bn hw)).trans ((if_pos hw2).trans (if_pos hn)))
theorem recI_note0 (h : hasSp rec = true) (hw : (wordOf rec == wTime || wordOf rec == wNext) = false) (hw2 : (wordOf rec == wOwn || wordOf rec == wTake || wordOf rec == wHeld || wordOf rec == wInbox) = true) (hn : (readS (restOf rec)).2 = false) : recDoI k rec = (k, false) := (if_pos h).trans ((if_neg (bn hw)).trans ((if_pos hw2).trans (if_neg (bn hn))))
theorem recI_mark (h : hasSp rec = true) (hw : (wordOf rec == wTime || wordOf rec == wNext) = false) (hw2 : (wordOf rec == wOwn || wordOf rec == wTake || wordOf rec == wHeld || wordOf rec == wInbox) = false) (hw3 : (wordOf rec == wLet || wordOf rec == wEat || wordOf rec == wMark) = true) (hn : (natsOk (splitSp (restOf rec)) && (splitSp (restOf rec)).length == 3) = true) :
    recDoI k rec = doMark k (wordOf rec) (three (splitSp (restOf rec))) := (if_pos h).trans ((if_neg (bn hw)).trans ((if_neg (bn hw2)).trans ((if_pos hw3).trans (if_pos hn))))
theorem recI_mark0 (h : hasSp rec = true) (hw : (wordOf rec == wTime || wordOf rec == wNext) = false) (hw2 : (wordOf rec == wOwn || wordOf rec == wTake || wordOf rec == wHeld || wordOf rec == wInbox) = false) (hw3 : (wordOf rec == wLet || wordOf rec == wEat || wordOf rec == wMark) = true) (hn : (natsOk (splitSp (restOf rec)) && (splitSp (restOf rec)).length == 3) = false) :
    recDoI k rec = (k, false) := (if_pos h).trans ((if_neg (bn hw)).trans ((if_neg (bn hw2)).trans ((if_pos hw3).trans (if_neg (bn hn)))))
theorem recI_bad (h : hasSp rec = true) (hw : (wordOf rec == wTime || wordOf rec == wNext) = false) (hw2 : (wordOf rec == wOwn || wordOf rec == wTake || wordOf rec == wHeld || wordOf rec == wInbox) = false) (hw3 : (wordOf rec == wLet || wordOf rec == wEat || wordOf rec == wMark) = false) :
    recDoI k rec = (k, false) := (if_pos h).trans ((if_neg (bn hw)).trans ((if_neg (bn hw2)).trans (if_neg (bn hw3))))
theorem three_len {l : List (List UInt8)} {c : Bool} (h : (natsOk l && ((intRows (natsV l)).length : Int) == 3) = c) : (natsOk l && l.length == 3) = c := by
  subst h
  cases hn : natsOk l with
  | false => rfl
  | true =>
    rw [intRows_length, natsV_len hn, Bool.true_and, Bool.true_and]
    by_cases h : l.length = 3
    · rw [h]; rfl
    · rw [show (l.length == 3) = false by simpa using h]
      symm
      rw [beq_eq_false_iff_ne]
      omega
end
def KB (k : KeepR) : Prop := (k.held.length ≤ 100000 ∧ k.marks.length ≤ 100000 ∧ k.inbox.length ≤ 100000) ∧ (∀ x ∈ k.held, x.text.length ≤ 140737488355328) ∧ (∀ x ∈ k.inbox, x.text.length ≤ 140737488355328)
theorem KB.zero : KB .zero := ⟨⟨Nat.zero_le _, Nat.zero_le _, Nat.zero_le _⟩, fun x h => (by cases h), fun x h => (by cases h)⟩
theorem notesOk_mem {l : List NoteR} (h : notesOk l = true) {x : NoteR} (hx : x ∈ l) : noteOk x = true := by
  obtain ⟨i, hi⟩ := List.mem_iff_getElem?.1 hx
  have hlt := (List.getElem?_eq_some_iff.1 hi).1
  have h1 := List.all_eq_true.1 h i (List.mem_range.2 hlt)
  unfold noteStep at h1
  rw [Bool.and_eq_true] at h1
  have h2 := h1.1
  rw [List.getD_eq_getElem?_getD, hi] at h2
  exact h2
theorem noteOk_text {n : NoteR} (h : noteOk n = true) : n.text.length ≤ 140737488355328 := by
  have := noteOk_parts h; omega
def KS (k : KeepR) : Prop := (k.held.length ≤ 7 ∧ k.marks.length ≤ 13 ∧ k.inbox.length ≤ 7) ∧ (∀ x ∈ k.held, x.text.length ≤ 140737488355328) ∧ (∀ x ∈ k.inbox, x.text.length ≤ 140737488355328)
theorem KS.big {k : KeepR} (h : KS k) : KB k := ⟨⟨by have := h.1; omega, by have := h.1; omega, by have := h.1; omega⟩, h.2⟩
def K6 (k : KeepR) : Prop := (k.held.length ≤ 6 ∧ k.marks.length ≤ 12 ∧ k.inbox.length ≤ 6) ∧ (∀ x ∈ k.held, x.text.length ≤ 140737488355328) ∧ (∀ x ∈ k.inbox, x.text.length ≤ 140737488355328)
theorem keepOk_six {k : KeepR} (h : keepOk k = true) : K6 k := by
  obtain ⟨⟨_, _, _, h1, h2, h3⟩, ⟨h4, h5, h6⟩, _⟩ := (keepOk_parts k).1 h
  exact ⟨⟨h1, h2, h3⟩, fun x hx => noteOk_text (notesOk_mem h4 hx), fun x hx => noteOk_text (notesOk_mem h6 hx)⟩
theorem K6.seven {k : KeepR} (h : K6 k) : KS k := ⟨⟨by have := h.1; omega, by have := h.1; omega, by have := h.1; omega⟩, h.2⟩
theorem cutAt_le {α : Type} (l : List α) (i : Nat) : (cutAt l i).length ≤ l.length := by
  rw [cutAt, List.length_append, List.length_take, List.length_drop]; omega
theorem accept_KS {k : KeepR} {n : NoteR} (h : K6 k) (hn : n.text.length ≤ 140737488355328) : KS (accept k n).1 := by
  unfold accept
  split
  · simp only
    split
    · refine ⟨⟨by have := h.1; simp only; omega, ?_, ?_⟩, h.2.1, ?_⟩
      · have := h.1; rw [markIn_is, insW_length]; omega
      · have := h.1; rw [noteIn_is, insW_length]; omega
      · intro x hx
        rw [noteIn_is, insW_mem] at hx
        rcases hx with rfl | hx
        · exact hn
        · exact h.2.2 x hx
    · refine ⟨⟨?_, by have := h.1; simp only; omega, by have := h.1; simp only; omega⟩, ?_, h.2.2⟩
      · have := h.1; rw [noteIn_is, insW_length]; omega
      · intro x hx
        rw [noteIn_is, insW_mem] at hx
        rcases hx with rfl | hx
        · exact hn
        · exact h.2.1 x hx
  · exact h.seven
theorem advance_KS {k : KeepR} {t : Int} (h : K6 k) : KS (advance k t) := by
  have h1 := List.length_filter_le (fun n : NoteR => decide (t < n.til)) k.held
  have h2 := List.length_filter_le (fun n : MarkR => decide (t < n.til)) k.marks
  exact ⟨⟨by have := h.1; simp only [advance]; omega, by have := h.1; simp only [advance]; omega, by have := h.1; simp only [advance]; omega⟩, fun x hx => h.2.1 x (List.mem_filter.1 hx).1, h.2.2⟩
theorem held_KS {k : KeepR} {n : NoteR} (h : K6 k) (hn : n.text.length ≤ 140737488355328) {p : NoteR → Bool} : KS { k with held := insW p n k.held } :=
  ⟨⟨by have := h.1; simp only [insW_length]; omega, by have := h.1; simp only; omega, by have := h.1; simp only; omega⟩, fun x hx => by rcases insW_mem.1 hx with rfl | hx; exact hn; exact h.2.1 x hx, h.2.2⟩
theorem inbox_KS {k : KeepR} {n : NoteR} (h : K6 k) (hn : n.text.length ≤ 140737488355328) {p : NoteR → Bool} : KS { k with inbox := insW p n k.inbox } :=
  ⟨⟨by have := h.1; simp only; omega, by have := h.1; simp only; omega, by have := h.1; simp only [insW_length]; omega⟩, h.2.1, fun x hx => by rcases insW_mem.1 hx with rfl | hx; exact hn; exact h.2.2 x hx⟩
theorem doNum_KS {k : KeepR} {w : List UInt8} {n : Int} (h : K6 k) : KS (doNum k w n).1 := by
  unfold doNum
  split
  · exact advance_KS h
  · split
    · exact h.seven
    · exact h.seven
theorem doNote_KS {k : KeepR} {w : List UInt8} {n : NoteR} (h : K6 k) (hn : n.text.length ≤ 140737488355328) : KS (doNote k w n).1 := by
  unfold doNote
  split
  · exact accept_KS (k := { k with next := wrap64 (k.next + 1) }) h hn
  · split
    · exact accept_KS h hn
    · split
      · exact h.seven
      · split
        · exact held_KS h hn
        · split
          · exact inbox_KS h hn
          · exact h.seven
theorem doMark_KS {k : KeepR} {w : List UInt8} {m : MarkR} (h : K6 k) : KS (doMark k w m).1 := by
  unfold doMark
  split
  · refine ⟨⟨?_, ?_, by have := h.1; simp only; omega⟩, fun x hx => h.2.1 x (cutAt_mem hx), h.2.2⟩
    · have := h.1; have h1 := cutAt_le k.held (noteAt k.held m.frm m.num).toNat; simp only; omega
    · have := h.1; rw [markIn_is, insW_length]; omega
  · split
    · refine ⟨⟨by have := h.1; simp only; omega, by have := h.1; simp only; omega, ?_⟩, h.2.1, fun x hx => h.2.2 x (cutAt_mem hx)⟩
      have := h.1; have h1 := cutAt_le k.inbox (noteAt k.inbox m.frm m.num).toNat; simp only; omega
    · split
      · exact ⟨⟨by have := h.1; simp only; omega, by have := h.1; rw [markIn_is, insW_length]; omega, by have := h.1; simp only; omega⟩, h.2⟩
      · exact h.seven
theorem recDoI_KS {k : KeepR} {rec : List UInt8} (h : K6 k) (hr : rec.length ≤ 1000000) : KS (recDoI k rec).1 := by
  have ht : (readS (restOf rec)).1.text.length ≤ 140737488355328 := by
    have h1 := readS_text (restOf rec)
    have h2 := restOf_le rec
    omega
  unfold recDoI
  repeat' split
  all_goals first | exact h.seven | exact doNum_KS h | exact doNote_KS h ht | exact doMark_KS h
theorem keepDo_K6 {k : KeepR} {rec : List UInt8} : K6 (keepDo k rec).1 := by
  unfold keepDo
  split
  · rename_i hk
    unfold doneOf
    split
    · rename_i h
      rw [Bool.and_eq_true] at h
      exact keepOk_six h.2
    · exact keepOk_six hk
  · exact ⟨⟨Nat.zero_le _, Nat.zero_le _, Nat.zero_le _⟩, fun x h => (by cases h), fun x h => (by cases h)⟩
theorem keepStart_K6 (id : Int) : K6 (keepStart id) := by
  unfold keepStart
  split <;> exact ⟨⟨Nat.zero_le _, Nat.zero_le _, Nat.zero_le _⟩, fun x h => (by cases h), fun x h => (by cases h)⟩
end Go.Ab

namespace Go.Proofs.YtilahgkblckndaaGreatDoor
open Go Go.Ab Go.RowKit
set_option linter.unusedVariables false
set_option linter.unusedSimpArgs false

set_option maxHeartbeats 3200000 in
theorem s_impl_apply (k : KeepR) (rec : List UInt8) (hb : k.held.length ≤ 100000 ∧ k.marks.length ≤ 100000 ∧ k.inbox.length ≤ 100000) (hr : rec.length ≤ 900000) : Ab.Spec Tryz.prog 176 2 [(.t 0, .v (k.V)), (.t 1, .v (Dv (.s rec)))] [(.t 0, .v (.tup [.agg [.d (.i ((recDoI k rec).1).id), .d (.i ((recDoI k rec).1).time), .d (.i ((recDoI k rec).1).next), .d (.sl (noteRows ((recDoI k rec).1).held)), .d (.sl (markRows ((recDoI k rec).1).marks)), .d (.sl (noteRows ((recDoI k rec).1).inbox))], .c (.d (.b (recDoI k rec).2))]))] := by
  have hl1 := restOf_le rec
  have hl2 := wordOf_le rec
  have hl3 := readS_text (restOf rec)
  refine spec_of_body tabOk Tryz.func176 rfl (by kernel_rfl) (by decide) (by kernel_rfl) rfl ?_
  refine SW.seq ?_
  refine SW.regT tabOk [1, 2, 4, 69, 70, 71] ?_
  refine ai trivial (ai trivial (ai trivial ?_))
  refine SW.seq ?_
  refine SW.regT tabOk [2, 4, 6, 7, 8, 69, 70, 71] ?_
  refine ai trivial ?_
  refine ex_pure (s_strings_Cut rec (by omega)) rfl rfl rfl rfl rfl rfl rfl rfl ?_
  refine ai trivial (ai trivial (ai trivial (ai trivial (ai trivial (ai trivial (ai trivial ?_))))))
  refine SW.seq ?_
  refine SW.seq ?_
  refine SW.regT tabOk [2, 4, 6, 7, 22, 69, 70, 71] ?_
  refine ai trivial (ai trivial ?_)
  refine SW.cond rfl (fun c22 => ?_) (fun c22 => ?_)
  · skip
    have hs : hasSp rec = false := by simpa using c22
    refine SW.seq ?_
    refine SW.regT tabOk [4, 5] ?_
    refine ai vc (ai ⟨by kernel_rfl, Nat.le_of_ble_eq_true (by kernel_rfl)⟩ (ai trivial ?_))
    refine SW.ret ?_
    have hr : recDoI k rec = (k, false) := recI_none hs
    refine retOkP rfl rfl ?_
    rw [hr] <;> rfl
  · skip
    have hs : hasSp rec = true := by simpa using c22
    refine SW.skip ?_
    refine SW.seq ?_
    refine SW.seq ?_
    refine SW.regT tabOk [2, 4, 6, 7, 24, 69, 70, 71] ?_
    refine ai trivial ?_
    refine SW.block ?_
    refine SW.midW (fun q => q = [(.t 2, .v (.e (.c (.pt 2 0)))), (.t 4, .v (.e (.c (.pt 4 0)))), (.t 6, .v (Dv (.s (wordOf rec)))), (.t 7, .v (Dv (.s (restOf rec)))), (.t 24, .v (Dv (.s (wordOf rec)))), (.t 25, .v (B (wordOf rec == wTime || wordOf rec == wNext))), (.o 2, .box 83 [.d (.i k.id), .d (.i k.time), .d (.i k.next), .d (.sl (noteRows k.held)), .d (.sl (markRows k.marks)), .d (.sl (noteRows k.inbox))]), (.o 4, .box 83 [.d (.i 0), .d (.i 0), .d (.i 0), .nil, .nil, .nil])]) ?_ ?_
    · skip
      refine SW.seq ?_
      refine SW.regT tabOk [2, 4, 6, 7, 24, 25, 69, 70, 71] ?_
      refine ai vc (ai trivial ?_)
      refine SW.cond rfl (fun c25 => ?_) (fun c25 => ?_)
      · skip
        refine SW.skip ?_
        refine wk [(.t 2, .v (.e (.c (.pt 2 0)))), (.t 4, .v (.e (.c (.pt 4 0)))), (.t 6, .v (Dv (.s (wordOf rec)))), (.t 7, .v (Dv (.s (restOf rec)))), (.t 24, .v (Dv (.s (wordOf rec)))), (.t 25, .v (B (wordOf rec == wTime || wordOf rec == wNext))), (.o 2, .box 83 [.d (.i k.id), .d (.i k.time), .d (.i k.next), .d (.sl (noteRows k.held)), .d (.sl (markRows k.marks)), .d (.sl (noteRows k.inbox))]), (.o 4, .box 83 [.d (.i 0), .d (.i 0), .d (.i 0), .nil, .nil, .nil])] [] [] (rfl) ?_ rfl rfl
        repeat' first | exact trivial | refine mL_nil rfl ?_ | refine mL_d rfl ?_ ?_ | refine mL_own rfl rfl ?_ rfl ?_ | refine mL_row rfl ?_ ?_ | refine mL_pt rfl rfl rfl rfl ?_ | refine mL_box rfl ?_ ?_ | refine mL_agg rfl ?_ ?_ | exact mCs_nil0 | refine mCs_d ?_ ?_ | refine mCs_nil ?_ | refine mCs_own rfl ?_ rfl ?_ | refine mCs_pt rfl rfl rfl ?_
        all_goals first | with_reducible rfl | (first | with_reducible rfl | (refine congrArg D.b ?_; simp_all [wTime, wNext, wOwn, wTake, wHeld, wInbox, wLet, wEat, wMark]))
      · skip
        refine SW.regT tabOk [2, 4, 6, 7, 24, 25, 69, 70, 71] ?_
        refine ai vc (ai trivial ?_)
        refine wk [(.t 2, .v (.e (.c (.pt 2 0)))), (.t 4, .v (.e (.c (.pt 4 0)))), (.t 6, .v (Dv (.s (wordOf rec)))), (.t 7, .v (Dv (.s (restOf rec)))), (.t 24, .v (Dv (.s (wordOf rec)))), (.t 25, .v (B (wordOf rec == wTime || wordOf rec == wNext))), (.o 2, .box 83 [.d (.i k.id), .d (.i k.time), .d (.i k.next), .d (.sl (noteRows k.held)), .d (.sl (markRows k.marks)), .d (.sl (noteRows k.inbox))]), (.o 4, .box 83 [.d (.i 0), .d (.i 0), .d (.i 0), .nil, .nil, .nil])] [] [] (rfl) ?_ rfl rfl
        repeat' first | exact trivial | refine mL_nil rfl ?_ | refine mL_d rfl ?_ ?_ | refine mL_own rfl rfl ?_ rfl ?_ | refine mL_row rfl ?_ ?_ | refine mL_pt rfl rfl rfl rfl ?_ | refine mL_box rfl ?_ ?_ | refine mL_agg rfl ?_ ?_ | exact mCs_nil0 | refine mCs_d ?_ ?_ | refine mCs_nil ?_ | refine mCs_own rfl ?_ rfl ?_ | refine mCs_pt rfl rfl rfl ?_
        all_goals first | with_reducible rfl | (first | with_reducible rfl | (refine congrArg D.b ?_; simp_all [wTime, wNext, wOwn, wTake, wHeld, wInbox, wLet, wEat, wMark]))
    · rintro s rfl
      refine SW.cond rfl (fun c25 => ?_) (fun c25 => ?_)
      · skip
        refine SW.seq ?_
        refine SW.regT tabOk [2, 4, 6, 9, 10] ?_
        refine ai trivial ?_
        refine ex_pure (s_natural (restOf rec) (by omega)) rfl rfl rfl rfl rfl rfl rfl rfl ?_
        refine ai trivial (ai trivial (ai trivial (ai trivial (ai trivial ?_))))
        refine SW.seq ?_
        refine SW.regT tabOk [2, 4, 6, 9, 33] ?_
        refine ai trivial ?_
        refine SW.cond rfl (fun c33 => ?_) (fun c33 => ?_)
        · skip
          refine SW.seq ?_
          refine SW.regT tabOk [4, 5] ?_
          refine ai vc (ai trivial (ai trivial ?_))
          refine ex_pure (s_impl_doNum k (wordOf rec) (natN (restOf rec)) hb) rfl rfl rfl rfl rfl rfl rfl rfl ?_
          refine ai trivial (ai trivial (ai ⟨by kernel_rfl, Nat.le_of_ble_eq_true (by kernel_rfl)⟩ (ai trivial ?_)))
          refine SW.ret ?_
          have hr : recDoI k rec = _ := recI_num hs c25 c33
          refine retOkP rfl rfl ?_
          rw [hr] <;> rfl
        · skip
          refine SW.skip ?_
          refine SW.seq ?_
          refine SW.regT tabOk [4, 5] ?_
          refine ai vc (ai ⟨by kernel_rfl, Nat.le_of_ble_eq_true (by kernel_rfl)⟩ (ai trivial ?_))
          refine SW.ret ?_
          have hr2 : recDoI k rec = (k, false) := by
            first | exact recI_num0 hs c25 c33 | exact recI_note0 hs c25 c40 c50 | exact recI_mark0 hs c25 c40 c57 hm3 | exact recI_bad hs c25 c40 c57
          refine retOkP rfl rfl ?_
          rw [hr2] <;> rfl
      · skip
        refine SW.midW (fun q => q = [(.t 2, .v (.e (.c (.pt 2 0)))), (.t 4, .v (.e (.c (.pt 4 0)))), (.t 6, .v (Dv (.s (wordOf rec)))), (.t 7, .v (Dv (.s (restOf rec)))), (.t 24, .v (Dv (.s (wordOf rec)))), (.t 40, .v (B (wordOf rec == wOwn || wordOf rec == wTake || wordOf rec == wHeld || wordOf rec == wInbox))), (.o 2, .box 83 [.d (.i k.id), .d (.i k.time), .d (.i k.next), .d (.sl (noteRows k.held)), .d (.sl (markRows k.marks)), .d (.sl (noteRows k.inbox))]), (.o 4, .box 83 [.d (.i 0), .d (.i 0), .d (.i 0), .nil, .nil, .nil])]) ?_ ?_
        · skip
          refine SW.seq ?_
          refine SW.regT tabOk [2, 4, 6, 7, 24, 40, 69, 70, 71] ?_
          refine ai vc (ai trivial ?_)
          refine SW.cond rfl (fun c40 => ?_) (fun c40 => ?_)
          · skip
            refine SW.skip ?_
            refine wk [(.t 2, .v (.e (.c (.pt 2 0)))), (.t 4, .v (.e (.c (.pt 4 0)))), (.t 6, .v (Dv (.s (wordOf rec)))), (.t 7, .v (Dv (.s (restOf rec)))), (.t 24, .v (Dv (.s (wordOf rec)))), (.t 40, .v (B (wordOf rec == wOwn || wordOf rec == wTake || wordOf rec == wHeld || wordOf rec == wInbox))), (.o 2, .box 83 [.d (.i k.id), .d (.i k.time), .d (.i k.next), .d (.sl (noteRows k.held)), .d (.sl (markRows k.marks)), .d (.sl (noteRows k.inbox))]), (.o 4, .box 83 [.d (.i 0), .d (.i 0), .d (.i 0), .nil, .nil, .nil])] [] [] (rfl) ?_ rfl rfl
            repeat' first | exact trivial | refine mL_nil rfl ?_ | refine mL_d rfl ?_ ?_ | refine mL_own rfl rfl ?_ rfl ?_ | refine mL_row rfl ?_ ?_ | refine mL_pt rfl rfl rfl rfl ?_ | refine mL_box rfl ?_ ?_ | refine mL_agg rfl ?_ ?_ | exact mCs_nil0 | refine mCs_d ?_ ?_ | refine mCs_nil ?_ | refine mCs_own rfl ?_ rfl ?_ | refine mCs_pt rfl rfl rfl ?_
            all_goals first | with_reducible rfl | (first | with_reducible rfl | (refine congrArg D.b ?_; simp_all [wTime, wNext, wOwn, wTake, wHeld, wInbox, wLet, wEat, wMark]))
          · skip
            refine SW.seq ?_
            refine SW.regT tabOk [2, 4, 6, 7, 24, 40, 69, 70, 71] ?_
            refine ai vc (ai trivial ?_)
            refine SW.cond rfl (fun c40_2 => ?_) (fun c40_2 => ?_)
            · skip
              refine SW.skip ?_
              refine wk [(.t 2, .v (.e (.c (.pt 2 0)))), (.t 4, .v (.e (.c (.pt 4 0)))), (.t 6, .v (Dv (.s (wordOf rec)))), (.t 7, .v (Dv (.s (restOf rec)))), (.t 24, .v (Dv (.s (wordOf rec)))), (.t 40, .v (B (wordOf rec == wOwn || wordOf rec == wTake || wordOf rec == wHeld || wordOf rec == wInbox))), (.o 2, .box 83 [.d (.i k.id), .d (.i k.time), .d (.i k.next), .d (.sl (noteRows k.held)), .d (.sl (markRows k.marks)), .d (.sl (noteRows k.inbox))]), (.o 4, .box 83 [.d (.i 0), .d (.i 0), .d (.i 0), .nil, .nil, .nil])] [] [] (rfl) ?_ rfl rfl
              repeat' first | exact trivial | refine mL_nil rfl ?_ | refine mL_d rfl ?_ ?_ | refine mL_own rfl rfl ?_ rfl ?_ | refine mL_row rfl ?_ ?_ | refine mL_pt rfl rfl rfl rfl ?_ | refine mL_box rfl ?_ ?_ | refine mL_agg rfl ?_ ?_ | exact mCs_nil0 | refine mCs_d ?_ ?_ | refine mCs_nil ?_ | refine mCs_own rfl ?_ rfl ?_ | refine mCs_pt rfl rfl rfl ?_
              all_goals first | with_reducible rfl | (first | with_reducible rfl | (refine congrArg D.b ?_; simp_all [wTime, wNext, wOwn, wTake, wHeld, wInbox, wLet, wEat, wMark]))
            · skip
              refine SW.seq ?_
              refine SW.regT tabOk [2, 4, 6, 7, 24, 40, 69, 70, 71] ?_
              refine ai vc (ai trivial ?_)
              refine SW.cond rfl (fun c40_3 => ?_) (fun c40_3 => ?_)
              · skip
                refine SW.skip ?_
                refine wk [(.t 2, .v (.e (.c (.pt 2 0)))), (.t 4, .v (.e (.c (.pt 4 0)))), (.t 6, .v (Dv (.s (wordOf rec)))), (.t 7, .v (Dv (.s (restOf rec)))), (.t 24, .v (Dv (.s (wordOf rec)))), (.t 40, .v (B (wordOf rec == wOwn || wordOf rec == wTake || wordOf rec == wHeld || wordOf rec == wInbox))), (.o 2, .box 83 [.d (.i k.id), .d (.i k.time), .d (.i k.next), .d (.sl (noteRows k.held)), .d (.sl (markRows k.marks)), .d (.sl (noteRows k.inbox))]), (.o 4, .box 83 [.d (.i 0), .d (.i 0), .d (.i 0), .nil, .nil, .nil])] [] [] (rfl) ?_ rfl rfl
                repeat' first | exact trivial | refine mL_nil rfl ?_ | refine mL_d rfl ?_ ?_ | refine mL_own rfl rfl ?_ rfl ?_ | refine mL_row rfl ?_ ?_ | refine mL_pt rfl rfl rfl rfl ?_ | refine mL_box rfl ?_ ?_ | refine mL_agg rfl ?_ ?_ | exact mCs_nil0 | refine mCs_d ?_ ?_ | refine mCs_nil ?_ | refine mCs_own rfl ?_ rfl ?_ | refine mCs_pt rfl rfl rfl ?_
                all_goals first | with_reducible rfl | (first | with_reducible rfl | (refine congrArg D.b ?_; simp_all [wTime, wNext, wOwn, wTake, wHeld, wInbox, wLet, wEat, wMark]))
              · skip
                refine SW.regT tabOk [2, 4, 6, 7, 24, 40, 69, 70, 71] ?_
                refine ai vc (ai trivial ?_)
                refine wk [(.t 2, .v (.e (.c (.pt 2 0)))), (.t 4, .v (.e (.c (.pt 4 0)))), (.t 6, .v (Dv (.s (wordOf rec)))), (.t 7, .v (Dv (.s (restOf rec)))), (.t 24, .v (Dv (.s (wordOf rec)))), (.t 40, .v (B (wordOf rec == wOwn || wordOf rec == wTake || wordOf rec == wHeld || wordOf rec == wInbox))), (.o 2, .box 83 [.d (.i k.id), .d (.i k.time), .d (.i k.next), .d (.sl (noteRows k.held)), .d (.sl (markRows k.marks)), .d (.sl (noteRows k.inbox))]), (.o 4, .box 83 [.d (.i 0), .d (.i 0), .d (.i 0), .nil, .nil, .nil])] [] [] (rfl) ?_ rfl rfl
                repeat' first | exact trivial | refine mL_nil rfl ?_ | refine mL_d rfl ?_ ?_ | refine mL_own rfl rfl ?_ rfl ?_ | refine mL_row rfl ?_ ?_ | refine mL_pt rfl rfl rfl rfl ?_ | refine mL_box rfl ?_ ?_ | refine mL_agg rfl ?_ ?_ | exact mCs_nil0 | refine mCs_d ?_ ?_ | refine mCs_nil ?_ | refine mCs_own rfl ?_ rfl ?_ | refine mCs_pt rfl rfl rfl ?_
                all_goals first | with_reducible rfl | (first | with_reducible rfl | (refine congrArg D.b ?_; simp_all [wTime, wNext, wOwn, wTake, wHeld, wInbox, wLet, wEat, wMark]))
        · rintro s rfl
          refine SW.cond rfl (fun c40 => ?_) (fun c40 => ?_)
          · skip
            refine SW.seq ?_
            refine SW.regT tabOk [2, 4, 6, 11, 12] ?_
            refine ai trivial ?_
            refine ex_pure (s_impl_NoteRead (restOf rec) (by omega)) rfl rfl rfl rfl rfl rfl rfl rfl ?_
            refine ai trivial (ai trivial (ai trivial (ai trivial (ai ⟨by kernel_rfl, Nat.le_of_ble_eq_true (by kernel_rfl)⟩ (ai trivial ?_)))))
            refine SW.seq ?_
            refine SW.regT tabOk [2, 4, 6, 11, 50] ?_
            refine ai trivial ?_
            refine SW.cond rfl (fun c50 => ?_) (fun c50 => ?_)
            · skip
              refine SW.seq ?_
              refine SW.regT tabOk [4, 5] ?_
              refine ai vc (ai trivial (ai vc ?_))
              refine ex_pure (s_impl_doNote k (wordOf rec) (readS (restOf rec)).1 hb (by omega)) rfl rfl rfl rfl rfl rfl rfl rfl ?_
              refine ai trivial (ai trivial (ai ⟨by kernel_rfl, Nat.le_of_ble_eq_true (by kernel_rfl)⟩ (ai trivial ?_)))
              refine SW.ret ?_
              have hr : recDoI k rec = _ := recI_note hs c25 c40 c50
              refine retOkP rfl rfl ?_
              rw [hr] <;> rfl
            · skip
              refine SW.skip ?_
              refine SW.seq ?_
              refine SW.regT tabOk [4, 5] ?_
              refine ai vc (ai ⟨by kernel_rfl, Nat.le_of_ble_eq_true (by kernel_rfl)⟩ (ai trivial ?_))
              refine SW.ret ?_
              have hr2 : recDoI k rec = (k, false) := by
                first | exact recI_num0 hs c25 c33 | exact recI_note0 hs c25 c40 c50 | exact recI_mark0 hs c25 c40 c57 hm3 | exact recI_bad hs c25 c40 c57
              refine retOkP rfl rfl ?_
              rw [hr2] <;> rfl
          · skip
            refine SW.midW (fun q => q = [(.t 2, .v (.e (.c (.pt 2 0)))), (.t 4, .v (.e (.c (.pt 4 0)))), (.t 6, .v (Dv (.s (wordOf rec)))), (.t 7, .v (Dv (.s (restOf rec)))), (.t 57, .v (B (wordOf rec == wLet || wordOf rec == wEat || wordOf rec == wMark))), (.o 2, .box 83 [.d (.i k.id), .d (.i k.time), .d (.i k.next), .d (.sl (noteRows k.held)), .d (.sl (markRows k.marks)), .d (.sl (noteRows k.inbox))]), (.o 4, .box 83 [.d (.i 0), .d (.i 0), .d (.i 0), .nil, .nil, .nil])]) ?_ ?_
            · skip
              refine SW.seq ?_
              refine SW.regT tabOk [2, 4, 6, 7, 24, 57, 69, 70, 71] ?_
              refine ai vc (ai trivial ?_)
              refine SW.cond rfl (fun c57 => ?_) (fun c57 => ?_)
              · skip
                refine SW.skip ?_
                refine wk [(.t 2, .v (.e (.c (.pt 2 0)))), (.t 4, .v (.e (.c (.pt 4 0)))), (.t 6, .v (Dv (.s (wordOf rec)))), (.t 7, .v (Dv (.s (restOf rec)))), (.t 57, .v (B (wordOf rec == wLet || wordOf rec == wEat || wordOf rec == wMark))), (.o 2, .box 83 [.d (.i k.id), .d (.i k.time), .d (.i k.next), .d (.sl (noteRows k.held)), .d (.sl (markRows k.marks)), .d (.sl (noteRows k.inbox))]), (.o 4, .box 83 [.d (.i 0), .d (.i 0), .d (.i 0), .nil, .nil, .nil])] [] [] (rfl) ?_ rfl rfl
                repeat' first | exact trivial | refine mL_nil rfl ?_ | refine mL_d rfl ?_ ?_ | refine mL_own rfl rfl ?_ rfl ?_ | refine mL_row rfl ?_ ?_ | refine mL_pt rfl rfl rfl rfl ?_ | refine mL_box rfl ?_ ?_ | refine mL_agg rfl ?_ ?_ | exact mCs_nil0 | refine mCs_d ?_ ?_ | refine mCs_nil ?_ | refine mCs_own rfl ?_ rfl ?_ | refine mCs_pt rfl rfl rfl ?_
                all_goals first | with_reducible rfl | (first | with_reducible rfl | (refine congrArg D.b ?_; simp_all [wTime, wNext, wOwn, wTake, wHeld, wInbox, wLet, wEat, wMark]))
              · skip
                refine SW.seq ?_
                refine SW.regT tabOk [2, 4, 6, 7, 24, 57, 69, 70, 71] ?_
                refine ai vc (ai trivial ?_)
                refine SW.cond rfl (fun c57_2 => ?_) (fun c57_2 => ?_)
                · skip
                  refine SW.skip ?_
                  refine wk [(.t 2, .v (.e (.c (.pt 2 0)))), (.t 4, .v (.e (.c (.pt 4 0)))), (.t 6, .v (Dv (.s (wordOf rec)))), (.t 7, .v (Dv (.s (restOf rec)))), (.t 57, .v (B (wordOf rec == wLet || wordOf rec == wEat || wordOf rec == wMark))), (.o 2, .box 83 [.d (.i k.id), .d (.i k.time), .d (.i k.next), .d (.sl (noteRows k.held)), .d (.sl (markRows k.marks)), .d (.sl (noteRows k.inbox))]), (.o 4, .box 83 [.d (.i 0), .d (.i 0), .d (.i 0), .nil, .nil, .nil])] [] [] (rfl) ?_ rfl rfl
                  repeat' first | exact trivial | refine mL_nil rfl ?_ | refine mL_d rfl ?_ ?_ | refine mL_own rfl rfl ?_ rfl ?_ | refine mL_row rfl ?_ ?_ | refine mL_pt rfl rfl rfl rfl ?_ | refine mL_box rfl ?_ ?_ | refine mL_agg rfl ?_ ?_ | exact mCs_nil0 | refine mCs_d ?_ ?_ | refine mCs_nil ?_ | refine mCs_own rfl ?_ rfl ?_ | refine mCs_pt rfl rfl rfl ?_
                  all_goals first | with_reducible rfl | (first | with_reducible rfl | (refine congrArg D.b ?_; simp_all [wTime, wNext, wOwn, wTake, wHeld, wInbox, wLet, wEat, wMark]))
                · skip
                  refine SW.regT tabOk [2, 4, 6, 7, 57, 69, 70, 71] ?_
                  refine ai vc (ai trivial ?_)
                  refine wk [(.t 2, .v (.e (.c (.pt 2 0)))), (.t 4, .v (.e (.c (.pt 4 0)))), (.t 6, .v (Dv (.s (wordOf rec)))), (.t 7, .v (Dv (.s (restOf rec)))), (.t 57, .v (B (wordOf rec == wLet || wordOf rec == wEat || wordOf rec == wMark))), (.o 2, .box 83 [.d (.i k.id), .d (.i k.time), .d (.i k.next), .d (.sl (noteRows k.held)), .d (.sl (markRows k.marks)), .d (.sl (noteRows k.inbox))]), (.o 4, .box 83 [.d (.i 0), .d (.i 0), .d (.i 0), .nil, .nil, .nil])] [] [] (rfl) ?_ rfl rfl
                  repeat' first | exact trivial | refine mL_nil rfl ?_ | refine mL_d rfl ?_ ?_ | refine mL_own rfl rfl ?_ rfl ?_ | refine mL_row rfl ?_ ?_ | refine mL_pt rfl rfl rfl rfl ?_ | refine mL_box rfl ?_ ?_ | refine mL_agg rfl ?_ ?_ | exact mCs_nil0 | refine mCs_d ?_ ?_ | refine mCs_nil ?_ | refine mCs_own rfl ?_ rfl ?_ | refine mCs_pt rfl rfl rfl ?_
                  all_goals first | with_reducible rfl | (first | with_reducible rfl | (refine congrArg D.b ?_; simp_all [wTime, wNext, wOwn, wTake, wHeld, wInbox, wLet, wEat, wMark]))
            · rintro s rfl
              refine SW.cond rfl (fun c57 => ?_) (fun c57 => ?_)
              · skip
                refine SW.seq ?_
                refine SW.regT tabOk [2, 4, 6, 13, 14, 69, 70, 71] ?_
                refine ai trivial ?_
                refine ex_pure (s_strings_Split (restOf rec) (by omega)) rfl rfl rfl rfl rfl rfl rfl rfl ?_
                refine ex_pure (s_impl_naturals (splitSp (restOf rec)) (by have := split_len (restOf rec); omega) (fun x hx => by have := split_le (restOf rec) x hx; omega)) rfl rfl rfl rfl rfl rfl rfl rfl ?_
                refine ai trivial (ai trivial (ai trivial (ai trivial (ai trivial ?_))))
                refine SW.seq ?_
                refine SW.regT tabOk [2, 4, 6, 13, 72] ?_
                refine ai trivial (ai trivial (ai (fun h => trivial) (ai rk (ai (fun h => vc) (ai rk (ai (fun h => (by trivial)) (ai rk (ai pk ?_))))))))
                refine SW.cond rfl (fun c72 => ?_) (fun c72 => ?_)
                · skip
                  have hm3 := three_len c72
                  have hm4 := hm3
                  rw [Bool.and_eq_true, beq_iff_eq] at hm4
                  obtain ⟨hno, hl4⟩ := hm4
                  have e0 : toI (((intRows (natsV (splitSp (restOf rec)))).getD 0 []).getD 0 (.i 0)) = natN ((splitSp (restOf rec)).getD 0 []) := nat_at3 hno (by omega)
                  have e1 : toI (((intRows (natsV (splitSp (restOf rec)))).getD 1 []).getD 0 (.i 0)) = natN ((splitSp (restOf rec)).getD 1 []) := nat_at3 hno (by omega)
                  have e2 : toI (((intRows (natsV (splitSp (restOf rec)))).getD 2 []).getD 0 (.i 0)) = natN ((splitSp (restOf rec)).getD 2 []) := nat_at3 hno (by omega)
                  refine SW.seq ?_
                  refine SW.regD tabOk mo [4, 5] ?_
                  refine ai vc (ai trivial (ai trivial (ai (by exact ixI (l := natsV (splitSp (restOf rec))) (by omega) (by rw [natsV_len hno]; omega)) (ai (by have := int_ld (l := natsV (splitSp (restOf rec))) (i := 0) (by rw [natsV_len hno]; omega); first | (rw [show ((0 : Int)).toNat = ((0 : Nat) : Int).toNat from rfl, this]; exact ⟨Nat.le_of_ble_eq_true rfl, rfl⟩)) (ai trivial (ai (by exact ixI (l := natsV (splitSp (restOf rec))) (by omega) (by rw [natsV_len hno]; omega)) (ai (by have := int_ld (l := natsV (splitSp (restOf rec))) (i := 1) (by rw [natsV_len hno]; omega); first | (rw [show ((1 : Int)).toNat = ((1 : Nat) : Int).toNat from rfl, this]; exact ⟨Nat.le_of_ble_eq_true rfl, rfl⟩)) (ai trivial (ai (by exact ixI (l := natsV (splitSp (restOf rec))) (by omega) (by rw [natsV_len hno]; omega)) (ai (by have := int_ld (l := natsV (splitSp (restOf rec))) (i := 2) (by rw [natsV_len hno]; omega); first | (rw [show ((2 : Int)).toNat = ((2 : Nat) : Int).toNat from rfl, this]; exact ⟨Nat.le_of_ble_eq_true rfl, rfl⟩)) (ai vc ?_)))))))))))
                  refine ex_pure (s_impl_doMark k (wordOf rec) (three (splitSp (restOf rec))) hb) rfl rfl rfl rfl rfl (by exact args3 e0 e1 e2) rfl rfl ?_
                  refine ai trivial (ai trivial (ai ⟨by kernel_rfl, Nat.le_of_ble_eq_true (by kernel_rfl)⟩ (ai trivial (ai (by kernel_rfl) ?_))))
                  refine SW.ret ?_
                  have hr : recDoI k rec = _ := recI_mark hs c25 c40 c57 hm3
                  refine retOkP rfl rfl ?_
                  rw [hr] <;> rfl
                · skip
                  have hm3 := three_len c72
                  refine SW.skip ?_
                  refine SW.seq ?_
                  refine SW.regT tabOk [4, 5] ?_
                  refine ai vc (ai ⟨by kernel_rfl, Nat.le_of_ble_eq_true (by kernel_rfl)⟩ (ai trivial ?_))
                  refine SW.ret ?_
                  have hr2 : recDoI k rec = (k, false) := by
                    first | exact recI_num0 hs c25 c33 | exact recI_note0 hs c25 c40 c50 | exact recI_mark0 hs c25 c40 c57 hm3 | exact recI_bad hs c25 c40 c57
                  refine retOkP rfl rfl ?_
                  rw [hr2] <;> rfl
              · skip
                refine SW.skip ?_
                refine SW.seq ?_
                refine SW.regT tabOk [4, 5] ?_
                refine ai vc (ai ⟨by kernel_rfl, Nat.le_of_ble_eq_true (by kernel_rfl)⟩ (ai trivial ?_))
                refine SW.ret ?_
                have hr2 : recDoI k rec = (k, false) := by
                  first | exact recI_num0 hs c25 c33 | exact recI_note0 hs c25 c40 c50 | exact recI_mark0 hs c25 c40 c57 hm3 | exact recI_bad hs c25 c40 c57
                refine retOkP rfl rfl ?_
                rw [hr2] <;> rfl

theorem s_impl_KeepStart (id : Int) : Ab.Spec Tryz.prog 183 1 [(.t 0, .v (I id))] [(.t 0, .v ((keepStart id).V))] := by
  refine spec_of_body tabOk Tryz.func183 rfl (by kernel_rfl) (by decide) (by kernel_rfl) rfl ?_
  refine SW.seq ?_
  refine SW.regT tabOk [0, 2] ?_
  refine ai trivial ?_
  refine SW.seq ?_
  refine SW.seq ?_
  refine SW.regT tabOk [0, 2, 5] ?_
  refine ai trivial ?_
  refine ex_pure (s_impl_isNode _) rfl rfl rfl rfl rfl rfl rfl rfl ?_
  refine ai trivial ?_
  refine SW.cond rfl (fun c5 => ?_) (fun c5 => ?_)
  · skip
    have hr : keepStart id = .zero := if_neg (by simpa using c5)
    refine SW.seq ?_
    refine SW.regT tabOk [2] ?_
    refine ai vc (ai ⟨by kernel_rfl, Nat.le_of_ble_eq_true (by kernel_rfl)⟩ ?_)
    refine SW.ret ?_
    rw [hr]
    refine retOk _ [] [] rfl ?_ rfl rfl
    repeat' first | exact trivial | exact mCs_nil0 | exact mEs_nil0 | refine mL_agg rfl ?_ ?_ | refine mL_tup rfl ?_ ?_ | refine mEs_agg ?_ ?_ | refine mEs_froze rfl rfl ?_ ?_ ?_ | refine mEs_nil_d ?_ ?_ | refine mEs_d ?_ ?_ | refine mCs_froze rfl rfl ?_ ?_ ?_ | refine mCs_nil_d ?_ ?_ | refine mCs_d ?_ ?_
    all_goals (rfl)
  · skip
    have hr : keepStart id = ⟨id, 0, 1, [], [], []⟩ := if_pos (by simpa using c5)
    refine SW.skip ?_
    refine SW.seq ?_
    refine SW.regT tabOk [2] ?_
    refine ai trivial (ai vc (ai ⟨by kernel_rfl, Nat.le_of_ble_eq_true (by kernel_rfl)⟩ ?_))
    refine SW.ret ?_
    rw [hr]
    refine retOk _ [] [] rfl ?_ rfl rfl
    repeat' first | exact trivial | exact mCs_nil0 | exact mEs_nil0 | refine mL_agg rfl ?_ ?_ | refine mL_tup rfl ?_ ?_ | refine mEs_agg ?_ ?_ | refine mEs_froze rfl rfl ?_ ?_ ?_ | refine mEs_nil_d ?_ ?_ | refine mEs_d ?_ ?_ | refine mCs_froze rfl rfl ?_ ?_ ?_ | refine mCs_nil_d ?_ ?_ | refine mCs_d ?_ ?_
    all_goals (rfl)

set_option maxHeartbeats 1600000 in
theorem s_impl_KeepDo (k : KeepR) (rec : List UInt8) (hk : KB k) (hr : rec.length ≤ 900000) : Ab.Spec Tryz.prog 146 2 [(.t 0, .v (k.V)), (.t 1, .v (Dv (.s rec)))] [(.t 0, .v (.tup [.agg [.d (.i ((keepDo k rec).1).id), .d (.i ((keepDo k rec).1).time), .d (.i ((keepDo k rec).1).next), .d (.sl (noteRows ((keepDo k rec).1).held)), .d (.sl (markRows ((keepDo k rec).1).marks)), .d (.sl (noteRows ((keepDo k rec).1).inbox))], .c (.d (.b (keepDo k rec).2))]))] := by
  refine spec_of_body tabOk Tryz.func146 rfl (by kernel_rfl) (by decide) (by kernel_rfl) rfl ?_
  refine SW.seq ?_
  refine SW.regT tabOk [1, 2, 4, 22, 23, 24] ?_
  refine ai trivial (ai trivial (ai trivial ?_))
  refine SW.seq ?_
  refine SW.seq ?_
  refine SW.regT tabOk [1, 2, 4, 10, 22, 23, 24] ?_
  refine ai vc ?_
  refine ex_pure (s_impl_KeepOk k hk.2.1 hk.2.2) rfl rfl rfl rfl rfl rfl rfl rfl ?_
  refine ai trivial ?_
  refine SW.cond rfl (fun c10 => ?_) (fun c10 => ?_)
  · skip
    refine SW.seq ?_
    refine SW.regT tabOk [4, 5] ?_
    refine ai vc (ai ⟨by kernel_rfl, Nat.le_of_ble_eq_true (by kernel_rfl)⟩ (ai trivial ?_))
    refine SW.ret ?_
    have hr : keepDo k rec = (.zero, false) := if_neg (by simpa using c10)
    rw [hr]
    refine retOk _ [] [] rfl ?_ rfl rfl
    repeat' first | exact trivial | exact mCs_nil0 | exact mEs_nil0 | refine mL_agg rfl ?_ ?_ | refine mL_tup rfl ?_ ?_ | refine mEs_agg ?_ ?_ | refine mEs_froze rfl rfl ?_ ?_ ?_ | refine mEs_nil_d ?_ ?_ | refine mEs_d ?_ ?_ | refine mCs_froze rfl rfl ?_ ?_ ?_ | refine mCs_nil_d ?_ ?_ | refine mCs_d ?_ ?_
    all_goals (rfl)
  · skip
    have hok : keepOk k = true := by simpa using c10
    refine SW.skip ?_
    refine SW.seq ?_
    refine SW.regT tabOk [2, 4, 6, 7, 22, 23, 24] ?_
    refine ai vc ?_
    refine ex_pure (s_impl_keepCopy k (by have := hk.1; omega)) rfl rfl rfl rfl rfl rfl rfl rfl ?_
    refine ai trivial ?_
    refine ex_pure (s_impl_apply k rec hk.1 hr) rfl rfl rfl rfl rfl rfl rfl rfl ?_
    refine ai trivial (ai trivial (ai trivial (ai trivial (ai ⟨by kernel_rfl, Nat.le_of_ble_eq_true (by kernel_rfl)⟩ (ai trivial ?_)))))
    refine SW.seq ?_
    refine SW.seq ?_
    refine SW.regT tabOk [2, 4, 6, 25] ?_
    refine ai trivial (ai trivial (ai trivial (ai (fun h => vc) (ai rk ?_))))
    refine exc_pure (fun h => s_impl_KeepOk (recDoI k rec).1 (recDoI_KS (keepOk_six hok) (by omega)).2.1 (recDoI_KS (keepOk_six hok) (by omega)).2.2) rfl rfl rfl rfl rfl rfl rfl rfl rk ?_
    refine ai (fun h => trivial) (ai rk (ai pk ?_))
    refine SW.cond rfl (fun c25 => ?_) (fun c25 => ?_)
    · skip
      refine SW.seq ?_
      refine SW.regT tabOk [4, 5] ?_
      refine ai vc ?_
      refine ex_pure (s_impl_keepCopy k (by have := hk.1; omega)) rfl rfl rfl rfl rfl rfl rfl rfl ?_
      refine ai ⟨by kernel_rfl, Nat.le_of_ble_eq_true (by kernel_rfl)⟩ (ai trivial ?_)
      refine SW.ret ?_
      have hr : keepDo k rec = (k, false) := (if_pos hok).trans (if_neg (by intro h; rw [Bool.and_eq_true] at h; rw [h.1, h.2] at c25; cases c25))
      rw [hr]
      refine retOk _ [] [] rfl ?_ rfl rfl
      repeat' first | exact trivial | exact mCs_nil0 | exact mEs_nil0 | refine mL_agg rfl ?_ ?_ | refine mL_tup rfl ?_ ?_ | refine mEs_agg ?_ ?_ | refine mEs_froze rfl rfl ?_ ?_ ?_ | refine mEs_nil_d ?_ ?_ | refine mEs_d ?_ ?_ | refine mCs_froze rfl rfl ?_ ?_ ?_ | refine mCs_nil_d ?_ ?_ | refine mCs_d ?_ ?_
      all_goals (rfl)
    · skip
      refine SW.skip ?_
      refine SW.seq ?_
      refine SW.regT tabOk [4, 5] ?_
      refine ai vc ?_
      refine ex_pure (s_impl_keepCopy (recDoI k rec).1 (by have := (recDoI_KS (keepOk_six hok) (show rec.length ≤ 1000000 by omega)).1; omega)) rfl rfl rfl rfl rfl rfl rfl rfl ?_
      refine ai ⟨by kernel_rfl, Nat.le_of_ble_eq_true (by kernel_rfl)⟩ (ai trivial ?_)
      refine SW.ret ?_
      have hr : keepDo k rec = ((recDoI k rec).1, true) := (if_pos hok).trans (if_pos (by simpa using c25))
      rw [hr]
      refine retOk _ [] [] rfl ?_ rfl rfl
      repeat' first | exact trivial | exact mCs_nil0 | exact mEs_nil0 | refine mL_agg rfl ?_ ?_ | refine mL_tup rfl ?_ ?_ | refine mEs_agg ?_ ?_ | refine mEs_froze rfl rfl ?_ ?_ ?_ | refine mEs_nil_d ?_ ?_ | refine mEs_d ?_ ?_ | refine mCs_froze rfl rfl ?_ ?_ ?_ | refine mCs_nil_d ?_ ?_ | refine mCs_d ?_ ?_
      all_goals (rfl)

set_option maxHeartbeats 1600000 in
theorem s_impl_KeepOf (id : Int) (l : List (List UInt8)) (hl : l.length ≤ 900000) (hx : ∀ x ∈ l, x.length ≤ 900000) : Ab.Spec Tryz.prog 156 2 [(.t 0, .v (I id)), (.t 1, .v (Dv (.sl (strRows l))))] [(.t 0, .v (.tup [.agg [.d (.i ((keepOf id l).1).id), .d (.i ((keepOf id l).1).time), .d (.i ((keepOf id l).1).next), .d (.sl (noteRows ((keepOf id l).1).held)), .d (.sl (markRows ((keepOf id l).1).marks)), .d (.sl (noteRows ((keepOf id l).1).inbox))], .c (.d (.b (keepOf id l).2))]))] := by
  refine spec_of_body tabOk Tryz.func156 rfl (by kernel_rfl) (by decide) (by kernel_rfl) rfl ?_
  refine SW.seq ?_
  refine SW.regT tabOk [0, 1, 4] ?_
  refine ai trivial (ai trivial ?_)
  refine SW.seq ?_
  refine SW.seq ?_
  refine SW.regT tabOk [0, 1, 4, 13] ?_
  refine ai trivial ?_
  refine ex_pure (s_impl_isNode _) rfl rfl rfl rfl rfl rfl rfl rfl ?_
  refine ai trivial ?_
  refine SW.cond rfl (fun c13 => ?_) (fun c13 => ?_)
  · skip
    refine SW.seq ?_
    refine SW.regT tabOk [4, 5] ?_
    refine ai vc (ai ⟨by kernel_rfl, Nat.le_of_ble_eq_true (by kernel_rfl)⟩ (ai trivial ?_))
    refine SW.ret ?_
    have hr : keepOf id l = (.zero, false) := if_neg (by simpa using c13)
    rw [hr]
    refine retOk _ [] [] rfl ?_ rfl rfl
    repeat' first | exact trivial | exact mCs_nil0 | exact mEs_nil0 | refine mL_agg rfl ?_ ?_ | refine mL_tup rfl ?_ ?_ | refine mEs_agg ?_ ?_ | refine mEs_froze rfl rfl ?_ ?_ ?_ | refine mEs_nil_d ?_ ?_ | refine mEs_d ?_ ?_ | refine mCs_froze rfl rfl ?_ ?_ ?_ | refine mCs_nil_d ?_ ?_ | refine mCs_d ?_ ?_
    all_goals (rfl)
  · skip
    have hnode : isNode id = true := by simpa using c13
    refine SW.skip ?_
    refine SW.seq ?_
    refine SW.regT tabOk [1, 4, 6] ?_
    refine ai trivial ?_
    refine ex_pure (s_impl_KeepStart id) rfl rfl rfl rfl rfl rfl rfl rfl ?_
    refine ai trivial (ai ⟨by kernel_rfl, Nat.le_of_ble_eq_true (by kernel_rfl)⟩ ?_)
    refine SW.seq ?_
    refine SW.seq ?_
    refine SW.regT tabOk [4, 6, 17, 18, 19] ?_
    refine ai trivial (ai vc (ai trivial ?_))
    refine SW.block ?_
    -- live at the head: [4, 6, 17, 18, 19]
    refine SW.loopW (n := l.length) (fun m s => ∃ (i : Nat) (q : KeepR), m = l.length - i ∧ i ≤ l.length ∧ K6 q ∧ keepGo (keepStart id) l = keepGo q (l.drop i) ∧ s = [(.t 4, .v (.e (.c (.pt 4 0)))), (.t 6, .v (.e (.c (.pt 6 0)))), (.t 17, .v (Dv (.sl (strRows l)))), (.t 18, .v (I (l.length : Nat))), (.t 19, .v (I (i : Nat))), (.o 4, .box 83 [.d (.i 0), .d (.i 0), .d (.i 0), .nil, .nil, .nil]), (.o 6, .box 83 [.d (.i (q).id), .d (.i (q).time), .d (.i (q).next), .d (.sl (noteRows (q).held)), .d (.sl (markRows (q).marks)), .d (.sl (noteRows (q).inbox))])]) ?_ ?_
    · skip
      refine wk [(.t 4, .v (.e (.c (.pt 4 0)))), (.t 6, .v (.e (.c (.pt 6 0)))), (.t 17, .v (Dv (.sl (strRows l)))), (.t 18, .v (I (l.length : Nat))), (.t 19, .v (I (0 : Nat))), (.o 4, .box 83 [.d (.i 0), .d (.i 0), .d (.i 0), .nil, .nil, .nil]), (.o 6, .box 83 [.d (.i (keepStart id).id), .d (.i (keepStart id).time), .d (.i (keepStart id).next), .d (.sl (noteRows (keepStart id).held)), .d (.sl (markRows (keepStart id).marks)), .d (.sl (noteRows (keepStart id).inbox))])] [] [] (⟨0, keepStart id, rfl, Nat.zero_le _, keepStart_K6 id, rfl, rfl⟩) ?_ rfl rfl
      repeat' first | exact trivial | refine mL_nil rfl ?_ | refine mL_d rfl ?_ ?_ | refine mL_own rfl rfl ?_ rfl ?_ | refine mL_row rfl ?_ ?_ | refine mL_pt rfl rfl rfl rfl ?_ | refine mL_box rfl ?_ ?_ | refine mL_agg rfl ?_ ?_ | exact mCs_nil0 | refine mCs_d ?_ ?_ | refine mCs_nil ?_ | refine mCs_own rfl ?_ rfl ?_ | refine mCs_pt rfl rfl rfl ?_
      all_goals first | with_reducible rfl | (first | with_reducible rfl | rfl | (rw [strRows_length]; done))
    rintro n s ⟨i, q, rfl, hi, hq, hgo, rfl⟩
    refine SW.seq ?_
    refine SW.regT tabOk [4, 6, 17, 18, 19, 20] ?_
    refine ai trivial ?_
    refine SW.seq ?_
    refine SW.cond rfl (fun c20 => ?_) (fun c20 => ?_)
    · skip
      have hi2 : i < l.length := by simpa using c20
      have hg := strRows_getD (l := l) hi2
      have hmem : l.getD i [] ∈ l := mem_getD hi2
      refine SW.skip ?_
      refine SW.seq ?_
      refine SW.block ?_
      refine SW.seq ?_
      refine SW.regT tabOk [4, 6, 8, 17, 18, 19] ?_
      refine ai (by rw [Int.toNat_natCast, hg]; exact ⟨⟨by omega, by rw [strRows_length]; omega⟩, rfl⟩) (ai (by rw [Int.toNat_natCast, hg]; exact ⟨Nat.le_of_ble_eq_true rfl, rfl⟩) (ai trivial ?_))
      refine SW.seq ?_
      refine SW.wk (J := fun s => s = [(.t 4, .v (.e (.c (.pt 4 0)))), (.t 6, .v (.e (.c (.pt 6 0)))), (.t 8, .v (Dv (.s (l.getD i [])))), (.t 17, .v (Dv (.sl (strRows l)))), (.t 18, .v (I (l.length : Nat))), (.t 19, .v (I (i : Nat))), (.o 4, .box 83 [.d (.i 0), .d (.i 0), .d (.i 0), .nil, .nil, .nil]), (.o 6, .box 83 [.d (.i (q).id), .d (.i (q).time), .d (.i (q).next), .d (.sl (noteRows (q).held)), .d (.sl (markRows (q).marks)), .d (.sl (noteRows (q).inbox))])]) ?_ ?_
      · skip
        refine wk [(.t 4, .v (.e (.c (.pt 4 0)))), (.t 6, .v (.e (.c (.pt 6 0)))), (.t 8, .v (Dv (.s (l.getD i [])))), (.t 17, .v (Dv (.sl (strRows l)))), (.t 18, .v (I (l.length : Nat))), (.t 19, .v (I (i : Nat))), (.o 4, .box 83 [.d (.i 0), .d (.i 0), .d (.i 0), .nil, .nil, .nil]), (.o 6, .box 83 [.d (.i (q).id), .d (.i (q).time), .d (.i (q).next), .d (.sl (noteRows (q).held)), .d (.sl (markRows (q).marks)), .d (.sl (noteRows (q).inbox))])] [] [] (rfl) ?_ rfl rfl
        repeat' first | exact trivial | refine mL_nil rfl ?_ | refine mL_d rfl ?_ ?_ | refine mL_own rfl rfl ?_ rfl ?_ | refine mL_row rfl ?_ ?_ | refine mL_pt rfl rfl rfl rfl ?_ | refine mL_box rfl ?_ ?_ | refine mL_agg rfl ?_ ?_ | exact mCs_nil0 | refine mCs_d ?_ ?_ | refine mCs_nil ?_ | refine mCs_own rfl ?_ rfl ?_ | refine mCs_pt rfl rfl rfl ?_
        all_goals first | with_reducible rfl | (first | with_reducible rfl | (rw [Int.toNat_natCast, hg]; rfl))
      rintro s rfl
      refine SW.regT tabOk [4, 6, 9, 10, 17, 18, 19] ?_
      refine ai vc (ai trivial ?_)
      refine ex_pure (s_impl_KeepDo q (l.getD i []) hq.seven.big (hx _ hmem)) rfl rfl rfl rfl rfl rfl rfl rfl ?_
      refine ai trivial (ai trivial (ai trivial (ai trivial (ai ⟨by kernel_rfl, Nat.le_of_ble_eq_true (by kernel_rfl)⟩ (ai trivial ?_)))))
      refine SW.seq ?_
      refine SW.seq ?_
      refine SW.regT tabOk [4, 6, 9, 17, 18, 19, 30] ?_
      refine ai trivial (ai trivial ?_)
      refine SW.cond rfl (fun c30 => ?_) (fun c30 => ?_)
      · skip
        have hno : (keepDo q (l.getD i [])).2 = false := by simpa using c30
        rw [List.drop_eq_getElem_cons hi2, keepGo, show l[i] = l.getD i [] by rw [List.getD_eq_getElem?_getD, List.getElem?_eq_getElem hi2]; rfl, hno] at hgo
        refine SW.seq ?_
        refine SW.regT tabOk [4, 5] ?_
        refine ai vc (ai ⟨by kernel_rfl, Nat.le_of_ble_eq_true (by kernel_rfl)⟩ (ai trivial ?_))
        refine SW.ret ?_
        have hr : keepOf id l = (.zero, false) := (if_pos hnode).trans (hgo.trans (if_neg (by simp)))
        rw [hr]
        refine retOk _ [] [] rfl ?_ rfl rfl
        repeat' first | exact trivial | exact mCs_nil0 | exact mEs_nil0 | refine mL_agg rfl ?_ ?_ | refine mL_tup rfl ?_ ?_ | refine mEs_agg ?_ ?_ | refine mEs_froze rfl rfl ?_ ?_ ?_ | refine mEs_nil_d ?_ ?_ | refine mEs_d ?_ ?_ | refine mCs_froze rfl rfl ?_ ?_ ?_ | refine mCs_nil_d ?_ ?_ | refine mCs_d ?_ ?_
        all_goals (rfl)
      · skip
        have hno : (keepDo q (l.getD i [])).2 = true := by simpa using c30
        rw [List.drop_eq_getElem_cons hi2, keepGo, show l[i] = l.getD i [] by rw [List.getD_eq_getElem?_getD, List.getElem?_eq_getElem hi2]; rfl, if_pos hno] at hgo
        refine SW.skip ?_
        refine SW.regT tabOk [4, 6, 17, 18, 19] ?_
        refine ai vc (ai ⟨by kernel_rfl, Nat.le_of_ble_eq_true (by kernel_rfl)⟩ ?_)
        refine SW.regT tabOk [4, 6, 17, 18, 19] ?_
        refine ai trivial (ai trivial ?_)
        refine wk [(.t 4, .v (.e (.c (.pt 4 0)))), (.t 6, .v (.e (.c (.pt 6 0)))), (.t 17, .v (Dv (.sl (strRows l)))), (.t 18, .v (I (l.length : Nat))), (.t 19, .v (I ((i + 1) : Nat))), (.o 4, .box 83 [.d (.i 0), .d (.i 0), .d (.i 0), .nil, .nil, .nil]), (.o 6, .box 83 [.d (.i ((keepDo q (l.getD i [])).1).id), .d (.i ((keepDo q (l.getD i [])).1).time), .d (.i ((keepDo q (l.getD i [])).1).next), .d (.sl (noteRows ((keepDo q (l.getD i [])).1).held)), .d (.sl (markRows ((keepDo q (l.getD i [])).1).marks)), .d (.sl (noteRows ((keepDo q (l.getD i [])).1).inbox))])] [] [] (⟨l.length - (i + 1), by omega, i + 1, (keepDo q (l.getD i [])).1, rfl, by omega, keepDo_K6, hgo, rfl⟩) ?_ rfl rfl
        repeat' first | exact trivial | refine mL_nil rfl ?_ | refine mL_d rfl ?_ ?_ | refine mL_own rfl rfl ?_ rfl ?_ | refine mL_row rfl ?_ ?_ | refine mL_pt rfl rfl rfl rfl ?_ | refine mL_box rfl ?_ ?_ | refine mL_agg rfl ?_ ?_ | exact mCs_nil0 | refine mCs_d ?_ ?_ | refine mCs_nil ?_ | refine mCs_own rfl ?_ rfl ?_ | refine mCs_pt rfl rfl rfl ?_
        all_goals first | with_reducible rfl | (first | with_reducible rfl | exact congrArg D.i (wrap64_of (by omega)))
    · skip
      have hi3 : i = l.length := by simp at c20; omega
      subst hi3
      refine SW.exit ?_
      refine SW.seq ?_
      refine SW.regT tabOk [4, 5] ?_
      refine ai vc (ai ⟨by kernel_rfl, Nat.le_of_ble_eq_true (by kernel_rfl)⟩ (ai trivial ?_))
      refine SW.ret ?_
      have hr : keepOf id l = (q, true) := (if_pos hnode).trans (hgo.trans (by rw [List.drop_length]; rfl))
      rw [hr]
      refine retOk _ [] [] rfl ?_ rfl rfl
      repeat' first | exact trivial | exact mCs_nil0 | exact mEs_nil0 | refine mL_agg rfl ?_ ?_ | refine mL_tup rfl ?_ ?_ | refine mEs_agg ?_ ?_ | refine mEs_froze rfl rfl ?_ ?_ ?_ | refine mEs_nil_d ?_ ?_ | refine mEs_d ?_ ?_ | refine mCs_froze rfl rfl ?_ ?_ ?_ | refine mCs_nil_d ?_ ?_ | refine mCs_d ?_ ?_
      all_goals (rfl)

end Go.Proofs.YtilahgkblckndaaGreatDoor

namespace Go.Ab
open Go Go.RowKit
set_option linter.unusedVariables false
set_option linter.unusedSimpArgs false

theorem args1 {a a' : Int} (e : a = a') : [(Loc.t 0, K.v (I a'))] = argSt 0 [I a] := by subst e; rfl
theorem args12 {X : V} {a a' b b' : Int} (e0 : a = a') (e1 : b = b') : [(Loc.t 0, K.v X), (.t 1, .v (I a')), (.t 2, .v (I b'))] = argSt 0 [X, I a, I b] := by subst e0; subst e1; rfl
theorem args13 {X : V} {a a' b b' c c' : Int} (e0 : a = a') (e1 : b = b') (e2 : c = c') : [(Loc.t 0, K.v X), (.t 1, .v (.e (.agg [.d (.i a'), .d (.i b'), .d (.i c')])))] = argSt 0 [X, .e (.agg [.d (.i a), .d (.i b), .d (.i c)])] := by subst e0; subst e1; subst e2; rfl
theorem nums_at3 {n : Nat} {s : List UInt8} {i : Nat} (hi : i < n) : toI (((intRows (numsL n s)).getD i []).getD 0 (.i 0)) = numAt s i := by
  rw [intRows_getD (by rw [numsL_length]; exact hi)]
  exact numsL_at hi
theorem decI_len {n : Int} (h : -1 ≤ n ∧ n ≤ 9999) : (decI n).length ≤ 6 := by
  unfold decI
  by_cases h0 : n < 0
  · rw [if_pos h0]
    have := dec_len_of (k := 3) (n := (-n).toNat) (by simp; omega)
    simp; omega
  · rw [if_neg h0]
    have := dec_len_of (k := 3) (n := n.toNat) (by simp; omega)
    omega
theorem numAt_range (s : List UInt8) (i : Nat) : -1 ≤ numAt s i ∧ numAt s i ≤ 9999 := decV_range _
theorem lt_or_ge0 {a : Int} {x y c : Bool} (h : (decide (a < 0) || x) = c) (hx : 0 ≤ a → x = y) : (decide (a < 0) || y) = c := by
  by_cases h0 : 0 ≤ a
  · rw [← hx h0]; exact h
  · rw [show decide (a < 0) = true from decide_eq_true (by omega), Bool.true_or] at h ⊢; exact h
theorem takeS_no {k : KeepR} {n : NoteR} (h : (!freshS k n) = true) : takeS k n = (k, false) := if_neg (by simpa using h)
theorem takeS_on {k : KeepR} {n : NoteR} (hb : k.held.length ≤ 100000 ∧ k.marks.length ≤ 100000 ∧ k.inbox.length ≤ 100000) (h : (!freshS k n) = false) (ht : (n.to != k.id) = true) :
    takeS k n = ({ k with held := noteInS k.held n }, decide (wrap64 ((noteRows (noteInS k.held n)).length + (markRows k.marks).length) ≤ 12)) := by
  have hl : (noteInS k.held n).length = k.held.length + 1 := insW_length
  rw [noteRows_length, markRows_length, wrap64_of (by omega)]
  exact (if_pos (by simpa using h)).trans (if_pos ht)
theorem takeS_in {k : KeepR} {n : NoteR} (hb : k.held.length ≤ 100000 ∧ k.marks.length ≤ 100000 ∧ k.inbox.length ≤ 100000) (h : (!freshS k n) = false) (ht : (n.to != k.id) = false) :
    takeS k n = ({ k with inbox := noteInS k.inbox n, marks := markInS k.marks ⟨n.frm, n.num, n.til⟩ }, decide (wrap64 ((noteRows k.held).length + (markRows (markInS k.marks ⟨n.frm, n.num, n.til⟩)).length) ≤ 12)) := by
  have hl : (markInS k.marks ⟨n.frm, n.num, n.til⟩).length = k.marks.length + 1 := insW_length
  rw [noteRows_length, markRows_length, wrap64_of (by omega)]
  exact (if_pos (by simpa using h)).trans (if_neg (bn ht))
theorem letS_KS {k : KeepR} {a b : Int} (h : K6 k) : KS (letS k a b).1 := by
  unfold letS
  split
  · refine ⟨⟨?_, ?_, by have := h.1; simp only; omega⟩, fun x hx => h.2.1 x (cutAt_mem hx), h.2.2⟩
    · have := h.1; have h1 := cutAt_le k.held (noteAt k.held a b).toNat; simp only; omega
    · have := h.1; rw [markInS_is, insW_length]; omega
  · exact h.seven
theorem eatS_KS {k : KeepR} {a b : Int} (h : K6 k) : KS (eatS k a b).1 := by
  unfold eatS
  split
  · refine ⟨⟨by have := h.1; simp only; omega, by have := h.1; simp only; omega, ?_⟩, h.2.1, fun x hx => h.2.2 x (cutAt_mem hx)⟩
    have := h.1; have h1 := cutAt_le k.inbox (noteAt k.inbox a b).toNat; simp only; omega
  · exact h.seven
theorem takeS_KS {k : KeepR} {n : NoteR} (h : K6 k) (hn : n.text.length ≤ 140737488355328) : KS (takeS k n).1 := by
  unfold takeS
  split
  · split
    · exact held_KS h hn
    · refine ⟨⟨by have := h.1; simp only; omega, ?_, ?_⟩, h.2.1, ?_⟩
      · have := h.1; rw [markInS_is, insW_length]; omega
      · have := h.1; rw [noteInS_is, insW_length]; omega
      · intro x hx
        rw [noteInS_is, insW_mem] at hx
        rcases hx with rfl | hx
        · exact hn
        · exact h.2.2 x hx
  · exact h.seven
theorem KS_ite {c : Prop} [Decidable c] {a b : KeepR × Bool} (ha : KS a.1) (hb : KS b.1) : KS (if c then a else b).1 := by
  split
  · exact ha
  · exact hb
theorem recDoS_KS {k : KeepR} {rec : List UInt8} (h : K6 k) (hr : rec.length ≤ 1000000) : KS (recDoS k rec).1 := by
  have ht : (readS (restOf rec)).1.text.length ≤ 140737488355328 := by
    have h1 := readS_text (restOf rec)
    have h2 := restOf_le rec
    omega
  have hm : KS { k with marks := markInS k.marks (threeS (restOf rec)) } := ⟨⟨by have := h.1; simp only; omega, by have := h.1; simp only [markInS_is, insW_length]; omega, by have := h.1; simp only; omega⟩, h.2⟩
  unfold recDoS
  exact KS_ite (KS_ite h.seven (advance_KS h)) (KS_ite (KS_ite h.seven (takeS_KS (k := { k with next := wrap64 (k.next + 1) }) h ht)) (KS_ite (KS_ite h.seven (takeS_KS h ht)) (KS_ite (KS_ite h.seven h.seven)
    (KS_ite (KS_ite h.seven (KS_ite (held_KS h ht) (inbox_KS h ht))) (KS_ite h.seven (KS_ite (KS_ite h.seven (letS_KS h)) (KS_ite (KS_ite h.seven (eatS_KS h)) (KS_ite (KS_ite h.seven hm) h.seven))))))))
end Go.Ab

namespace Go.Proofs.YtilahgkblckndaaGreatDoor
open Go Go.Ab Go.RowKit
set_option linter.unusedVariables false
set_option linter.unusedSimpArgs false

set_option maxHeartbeats 800000 in
theorem s_spec_l12Fresh (k : KeepR) (n : NoteR) (hb : k.held.length ≤ 100000 ∧ k.marks.length ≤ 100000 ∧ k.inbox.length ≤ 100000) (hn : n.text.length ≤ 140737488355328) : Ab.Spec Tryz.prog 211 2 [(.t 0, .v (k.V)), (.t 1, .v (n.V))] [(.t 0, .v (B (freshS k n)))] := by
  refine spec_of_body tabOk Tryz.func211 rfl (by kernel_rfl) (by decide) (by kernel_rfl) rfl ?_
  refine SW.seq ?_
  refine SW.regT tabOk [2, 3, 8, 9, 10, 11, 12, 15, 16, 17, 18, 19, 20, 21, 22, 25, 26, 27, 28, 29, 30, 31, 32, 35, 36, 37, 38, 39, 40, 41, 42] ?_
  refine ai trivial (ai trivial (ai trivial ?_))
  refine SW.seq ?_
  refine SW.regT tabOk [4] ?_
  refine ai vc ?_
  refine ex_pure (s_spec_NoteOk n hn) rfl rfl rfl rfl rfl rfl rfl rfl ?_
  refine ai trivial (ai (fun h => (by first | trivial | rfl)) (ai rk (ai (fun h => vc) (ai rk (ai (fun h => (by first | trivial | rfl)) (ai rk (ai (fun h => vc) (ai rk (ai (fun h => trivial) (ai rk (ai pk (ai trivial (ai (fun h => (by first | trivial | rfl)) (ai rk (ai (fun h => vc) (ai rk (ai (fun h => (by first | trivial | rfl)) (ai rk (ai (fun h => vc) (ai rk (ai (fun h => (by first | trivial | rfl)) (ai rk (ai (fun h => vc) (ai rk ?_))))))))))))))))))))))))
  refine exc_pure (fun h => (s_spec_l12Held k.held _ _ (by omega))) rfl rfl rfl rfl rfl rfl rfl rfl rk ?_
  refine ai (fun h => trivial) (ai rk (ai pk (ai trivial (ai (fun h => (by first | trivial | rfl)) (ai rk (ai (fun h => vc) (ai rk (ai (fun h => (by first | trivial | rfl)) (ai rk (ai (fun h => vc) (ai rk (ai (fun h => (by first | trivial | rfl)) (ai rk (ai (fun h => vc) (ai rk ?_)))))))))))))))
  refine exc_pure (fun h => (s_spec_l12Mark k.marks _ _ (by omega))) rfl rfl rfl rfl rfl rfl rfl rfl rk ?_
  refine ai (fun h => trivial) (ai rk (ai pk (ai trivial (ai (fun h => (by first | trivial | rfl)) (ai rk (ai (fun h => vc) (ai rk (ai (fun h => (by first | trivial | rfl)) (ai rk (ai (fun h => vc) (ai rk (ai (fun h => (by first | trivial | rfl)) (ai rk (ai (fun h => vc) (ai rk ?_)))))))))))))))
  refine exc_pure (fun h => (s_spec_l12Held k.inbox _ _ (by omega))) rfl rfl rfl rfl rfl rfl rfl rfl rk ?_
  refine ai (fun h => trivial) (ai rk (ai pk (ai trivial ?_)))
  refine SW.ret ?_
  refine retOk1 rfl (congrArg D.b ?_)
  rfl

set_option maxHeartbeats 1600000 in
theorem s_spec_l12Take (k : KeepR) (n : NoteR) (hb : k.held.length ≤ 100000 ∧ k.marks.length ≤ 100000 ∧ k.inbox.length ≤ 100000) (hn : n.text.length ≤ 140737488355328) : Ab.Spec Tryz.prog 191 2 [(.t 0, .v (k.V)), (.t 1, .v (n.V))] [(.t 0, .v (.tup [.agg [.d (.i ((takeS k n).1).id), .d (.i ((takeS k n).1).time), .d (.i ((takeS k n).1).next), .d (.sl (noteRows ((takeS k n).1).held)), .d (.sl (markRows ((takeS k n).1).marks)), .d (.sl (noteRows ((takeS k n).1).inbox))], .c (.d (.b (takeS k n).2))]))] := by
  refine spec_of_body tabOk Tryz.func191 rfl (by kernel_rfl) (by decide) (by kernel_rfl) rfl ?_
  refine SW.seq ?_
  refine SW.regT tabOk [2, 3, 4] ?_
  refine ai trivial (ai trivial (ai trivial (ai trivial ?_)))
  refine SW.seq ?_
  refine SW.seq ?_
  refine SW.regT tabOk [2, 3, 4, 9] ?_
  refine ai vc (ai vc ?_)
  refine ex_pure (s_spec_l12Fresh k n hb hn) rfl rfl rfl rfl rfl rfl rfl rfl ?_
  refine ai trivial ?_
  refine SW.cond rfl (fun c9 => ?_) (fun c9 => ?_)
  · skip
    refine SW.seq ?_
    refine SW.regT tabOk [4, 5] ?_
    refine ai vc (ai ⟨by kernel_rfl, Nat.le_of_ble_eq_true (by kernel_rfl)⟩ (ai trivial ?_))
    refine SW.ret ?_
    have hr : takeS k n = _ := takeS_no c9
    refine retOkP rfl rfl ?_
    rw [hr] <;> rfl
  · skip
    refine SW.skip ?_
    refine SW.seq ?_
    refine SW.seq ?_
    refine SW.regT tabOk [2, 3, 4, 15] ?_
    refine ai (by first | trivial | rfl) (ai vc (ai (by first | trivial | rfl) (ai vc (ai trivial ?_))))
    refine SW.cond rfl (fun c15 => ?_) (fun c15 => ?_)
    · skip
      refine SW.seq ?_
      refine SW.regT tabOk [2, 4] ?_
      refine ai (by first | trivial | rfl) (ai vc (ai vc ?_))
      refine ex_pure (s_spec_l12PutNote k.held n hb.1) rfl rfl rfl rfl rfl rfl rfl rfl ?_
      refine ai (by first | trivial | rfl) (ai ⟨by kernel_rfl, Nat.le_of_ble_eq_true (by kernel_rfl)⟩ ?_)
      refine SW.seq ?_
      refine SW.regD tabOk mo [4, 5] ?_
      refine ai vc (ai (by first | trivial | rfl) (ai vc (ai vc (ai (by first | trivial | rfl) (ai vc (ai vc (ai trivial (ai trivial (ai ⟨by kernel_rfl, Nat.le_of_ble_eq_true (by kernel_rfl)⟩ (ai trivial (ai (by kernel_rfl) ?_)))))))))))
      refine SW.ret ?_
      have hr : takeS k n = _ := takeS_on hb c9 c15
      refine retOkP rfl rfl ?_
      rw [hr] <;> rfl
    · skip
      refine SW.skip ?_
      refine SW.seq ?_
      refine SW.regT tabOk [2, 3, 4] ?_
      refine ai (by first | trivial | rfl) (ai vc (ai vc ?_))
      refine ex_pure (s_spec_l12PutNote k.inbox n hb.2.2) rfl rfl rfl rfl rfl rfl rfl rfl ?_
      refine ai (by first | trivial | rfl) (ai ⟨by kernel_rfl, Nat.le_of_ble_eq_true (by kernel_rfl)⟩ ?_)
      refine SW.seq ?_
      refine SW.regT tabOk [2, 4] ?_
      refine ai (by first | trivial | rfl) (ai vc (ai (by first | trivial | rfl) (ai vc (ai (by first | trivial | rfl) (ai vc (ai (by first | trivial | rfl) (ai vc (ai vc ?_))))))))
      refine ex_pure (s_spec_l12PutMark k.marks ⟨n.frm, n.num, n.til⟩ hb.2.1) rfl rfl rfl rfl rfl rfl rfl rfl ?_
      refine ai (by first | trivial | rfl) (ai ⟨by kernel_rfl, Nat.le_of_ble_eq_true (by kernel_rfl)⟩ ?_)
      refine SW.seq ?_
      refine SW.regD tabOk mo [4, 5] ?_
      refine ai vc (ai (by first | trivial | rfl) (ai vc (ai vc (ai (by first | trivial | rfl) (ai vc (ai vc (ai trivial (ai trivial (ai ⟨by kernel_rfl, Nat.le_of_ble_eq_true (by kernel_rfl)⟩ (ai trivial (ai (by kernel_rfl) ?_)))))))))))
      refine SW.ret ?_
      have hr : takeS k n = _ := takeS_in hb c9 c15
      refine retOkP rfl rfl ?_
      rw [hr] <;> rfl

set_option maxHeartbeats 1600000 in
theorem s_spec_l12Let (k : KeepR) (a b : Int) (hb : k.held.length ≤ 100000 ∧ k.marks.length ≤ 100000 ∧ k.inbox.length ≤ 100000) : Ab.Spec Tryz.prog 194 3 [(.t 0, .v (k.V)), (.t 1, .v (I a)), (.t 2, .v (I b))] [(.t 0, .v (.tup [.agg [.d (.i ((letS k a b).1).id), .d (.i ((letS k a b).1).time), .d (.i ((letS k a b).1).next), .d (.sl (noteRows ((letS k a b).1).held)), .d (.sl (markRows ((letS k a b).1).marks)), .d (.sl (noteRows ((letS k a b).1).inbox))], .c (.d (.b (letS k a b).2))]))] := by
  refine spec_of_body tabOk Tryz.func194 rfl (by kernel_rfl) (by decide) (by kernel_rfl) rfl ?_
  refine SW.seq ?_
  refine SW.regT tabOk [1, 2, 3, 6] ?_
  refine ai trivial (ai trivial (ai trivial ?_))
  refine SW.seq ?_
  refine SW.regT tabOk [1, 2, 3, 6, 8] ?_
  refine ai (by first | trivial | rfl) (ai vc (ai trivial (ai trivial ?_)))
  refine ex_pure (s_spec_l12Held k.held a b (by omega)) rfl rfl rfl rfl rfl rfl rfl rfl ?_
  refine ai trivial ?_
  refine SW.seq ?_
  refine SW.seq ?_
  refine SW.regT tabOk [1, 2, 3, 6, 8, 16] ?_
  refine ai trivial (ai trivial ?_)
  refine SW.cond rfl (fun c16 => ?_) (fun c16 => ?_)
  · skip
    have hr : letS k a b = (k, false) := if_neg (by simpa using c16)
    refine SW.seq ?_
    refine SW.regT tabOk [6, 7] ?_
    refine ai vc (ai ⟨by kernel_rfl, Nat.le_of_ble_eq_true (by kernel_rfl)⟩ (ai trivial ?_))
    refine SW.ret ?_
    rw [hr]
    refine retOk _ [] [] rfl ?_ rfl rfl
    repeat' first | exact trivial | exact mCs_nil0 | exact mEs_nil0 | refine mL_agg rfl ?_ ?_ | refine mL_tup rfl ?_ ?_ | refine mEs_agg ?_ ?_ | refine mEs_froze rfl rfl ?_ ?_ ?_ | refine mEs_nil_d ?_ ?_ | refine mEs_d ?_ ?_ | refine mCs_froze rfl rfl ?_ ?_ ?_ | refine mCs_nil_d ?_ ?_ | refine mCs_d ?_ ?_
    all_goals (rfl)
  · skip
    have hp : 0 ≤ noteAt k.held a b := by simpa using c16
    have hr0 := noteAt_lt k.held a b
    obtain ⟨i, hi⟩ := Int.eq_ofNat_of_zero_le hp
    rw [hi] at hr0
    have hw : wrap64 ((i : Int) + 1) = ((i + 1 : Nat) : Int) := by rw [wrap64_of (by omega)]; omega
    have hr : letS k a b = _ := if_pos hp
    have hg := noteRows_getD (l := k.held) (i := i) (by omega)
    have et : toI (((noteRows k.held).getD (noteAt k.held a b).toNat []).getD 3 (.i 0)) = (k.held.getD i .zero).til := by rw [hi, Int.toNat_natCast, hg]; rfl
    refine SW.skip ?_
    refine SW.seq ?_
    refine SW.regT tabOk [1, 2, 3, 6, 8, 9] ?_
    refine ai (by first | trivial | rfl) (ai vc (ai trivial (ai (by rw [hi, Int.toNat_natCast, hg]; exact ⟨⟨by omega, by rw [noteRows_length]; omega⟩, rfl⟩) (ai (by rw [hi, Int.toNat_natCast, hg]; exact ⟨Nat.le_of_ble_eq_true rfl, rfl⟩) (ai trivial (ai ⟨by kernel_rfl, Nat.le_of_ble_eq_true (by kernel_rfl)⟩ ?_))))))
    refine SW.seq ?_
    refine SW.regD tabOk mo [1, 2, 3, 6, 9] ?_
    refine ai (by simp) (ai (by first | trivial | rfl) (ai vc (ai trivial (ai (by rw [hi]; (try rw [hw]); exact ⟨by rw [noteRows_length]; exact ⟨by first | (simp; done) | (simp; omega), by first | (simp; done) | (simp; omega), by first | (simp; done) | (simp; omega)⟩, noteRows_len5 _⟩) (ai (by rw [hi]; (try rw [hw]); exact ⟨by first | trivial | rfl | (simp; done), by first | rfl | (simp [noteRows_length]; done), by first | exact noteRows_cut _ _ _ | (simp; done), by (try simp only [List.length_append, List.length_cons, List.length_nil, List.length_take, List.length_drop, noteRows_length, hiOf_none, hiOf_some, loOf_none, loOf_some]); show _ * 48 ≤ _; omega⟩) (ai (by first | trivial | rfl) (ai vc (ai trivial (ai trivial (ai (by rw [hi]; (try rw [hw]); exact ⟨by rw [noteRows_length]; exact ⟨by first | (simp; done) | (simp; omega), by first | (simp; done) | (simp; omega), by first | (simp; done) | (simp; omega)⟩, noteRows_len5 _⟩) (ai (by rw [hi]; (try rw [hw]); exact ⟨by first | trivial | rfl | (simp; done), by first | rfl | (simp [noteRows_length]; done), by first | exact noteRows_cut _ _ _ | (simp; done), by (try simp only [List.length_append, List.length_cons, List.length_nil, List.length_take, List.length_drop, noteRows_length, hiOf_none, hiOf_some, loOf_none, loOf_some]); show _ * 48 ≤ _; omega⟩) (ai (by first | trivial | rfl) (ai ⟨by kernel_rfl, Nat.le_of_ble_eq_true (by kernel_rfl)⟩ (ai (by kernel_rfl) ?_))))))))))))))
    refine SW.seq ?_
    refine SW.regT tabOk [3, 6] ?_
    refine ai (by first | trivial | rfl) (ai vc (ai trivial (ai trivial (ai (by first | trivial | rfl) (ai vc (ai vc ?_))))))
    refine ex_pure (s_spec_l12PutMark k.marks ⟨a, b, (k.held.getD i .zero).til⟩ hb.2.1) rfl rfl rfl rfl rfl (by exact args13 rfl rfl et) rfl rfl ?_
    refine ai (by first | trivial | rfl) (ai ⟨by kernel_rfl, Nat.le_of_ble_eq_true (by kernel_rfl)⟩ ?_)
    refine SW.seq ?_
    refine SW.regT tabOk [6, 7] ?_
    refine ai vc (ai ⟨by kernel_rfl, Nat.le_of_ble_eq_true (by kernel_rfl)⟩ (ai trivial ?_))
    refine SW.ret ?_
    rw [hr]
    refine retOk _ [] [23] rfl ?_ rfl rfl
    repeat' first | exact trivial | exact mCs_nil0 | exact mEs_nil0 | refine mL_agg rfl ?_ ?_ | refine mL_tup rfl ?_ ?_ | refine mEs_agg ?_ ?_ | refine mEs_froze rfl rfl ?_ ?_ ?_ | refine mEs_nil_d ?_ ?_ | refine mEs_d ?_ ?_ | refine mCs_froze rfl rfl ?_ ?_ ?_ | refine mCs_nil_d ?_ ?_ | refine mCs_d ?_ ?_
    all_goals (first | with_reducible rfl | (rw [hi, hw, cut_from, cut_to, Int.toNat_natCast]; simp [noteRows, cutAt, List.map_take, List.map_drop]; done) | (rw [hi]; rfl) | rfl)

set_option maxHeartbeats 1600000 in
theorem s_spec_l12Eat (k : KeepR) (a b : Int) (hb : k.held.length ≤ 100000 ∧ k.marks.length ≤ 100000 ∧ k.inbox.length ≤ 100000) : Ab.Spec Tryz.prog 195 3 [(.t 0, .v (k.V)), (.t 1, .v (I a)), (.t 2, .v (I b))] [(.t 0, .v (.tup [.agg [.d (.i ((eatS k a b).1).id), .d (.i ((eatS k a b).1).time), .d (.i ((eatS k a b).1).next), .d (.sl (noteRows ((eatS k a b).1).held)), .d (.sl (markRows ((eatS k a b).1).marks)), .d (.sl (noteRows ((eatS k a b).1).inbox))], .c (.d (.b (eatS k a b).2))]))] := by
  refine spec_of_body tabOk Tryz.func195 rfl (by kernel_rfl) (by decide) (by kernel_rfl) rfl ?_
  refine SW.seq ?_
  refine SW.regT tabOk [1, 2, 3, 6] ?_
  refine ai trivial (ai trivial (ai trivial ?_))
  refine SW.seq ?_
  refine SW.regT tabOk [3, 6, 8] ?_
  refine ai (by first | trivial | rfl) (ai vc (ai trivial (ai trivial ?_)))
  refine ex_pure (s_spec_l12Held k.inbox a b (by omega)) rfl rfl rfl rfl rfl rfl rfl rfl ?_
  refine ai trivial ?_
  refine SW.seq ?_
  refine SW.seq ?_
  refine SW.regT tabOk [3, 6, 8, 15] ?_
  refine ai trivial (ai trivial ?_)
  refine SW.cond rfl (fun c15 => ?_) (fun c15 => ?_)
  · skip
    have hr : eatS k a b = (k, false) := if_neg (by simpa using c15)
    refine SW.seq ?_
    refine SW.regT tabOk [6, 7] ?_
    refine ai vc (ai ⟨by kernel_rfl, Nat.le_of_ble_eq_true (by kernel_rfl)⟩ (ai trivial ?_))
    refine SW.ret ?_
    rw [hr]
    refine retOk _ [] [] rfl ?_ rfl rfl
    repeat' first | exact trivial | exact mCs_nil0 | exact mEs_nil0 | refine mL_agg rfl ?_ ?_ | refine mL_tup rfl ?_ ?_ | refine mEs_agg ?_ ?_ | refine mEs_froze rfl rfl ?_ ?_ ?_ | refine mEs_nil_d ?_ ?_ | refine mEs_d ?_ ?_ | refine mCs_froze rfl rfl ?_ ?_ ?_ | refine mCs_nil_d ?_ ?_ | refine mCs_d ?_ ?_
    all_goals (rfl)
  · skip
    have hp : 0 ≤ noteAt k.inbox a b := by simpa using c15
    have hr0 := noteAt_lt k.inbox a b
    obtain ⟨i, hi⟩ := Int.eq_ofNat_of_zero_le hp
    rw [hi] at hr0
    have hw : wrap64 ((i : Int) + 1) = ((i + 1 : Nat) : Int) := by rw [wrap64_of (by omega)]; omega
    have hr : eatS k a b = _ := if_pos hp
    refine SW.skip ?_
    refine SW.seq ?_
    refine SW.regD tabOk mo [3, 6] ?_
    refine ai (by simp) (ai (by first | trivial | rfl) (ai vc (ai trivial (ai (by rw [hi]; (try rw [hw]); exact ⟨by rw [noteRows_length]; exact ⟨by first | (simp; done) | (simp; omega), by first | (simp; done) | (simp; omega), by first | (simp; done) | (simp; omega)⟩, noteRows_len5 _⟩) (ai (by rw [hi]; (try rw [hw]); exact ⟨by first | trivial | rfl | (simp; done), by first | rfl | (simp [noteRows_length]; done), by first | exact noteRows_cut _ _ _ | (simp; done), by (try simp only [List.length_append, List.length_cons, List.length_nil, List.length_take, List.length_drop, noteRows_length, hiOf_none, hiOf_some, loOf_none, loOf_some]); show _ * 48 ≤ _; omega⟩) (ai (by first | trivial | rfl) (ai vc (ai trivial (ai trivial (ai (by rw [hi]; (try rw [hw]); exact ⟨by rw [noteRows_length]; exact ⟨by first | (simp; done) | (simp; omega), by first | (simp; done) | (simp; omega), by first | (simp; done) | (simp; omega)⟩, noteRows_len5 _⟩) (ai (by rw [hi]; (try rw [hw]); exact ⟨by first | trivial | rfl | (simp; done), by first | rfl | (simp [noteRows_length]; done), by first | exact noteRows_cut _ _ _ | (simp; done), by (try simp only [List.length_append, List.length_cons, List.length_nil, List.length_take, List.length_drop, noteRows_length, hiOf_none, hiOf_some, loOf_none, loOf_some]); show _ * 48 ≤ _; omega⟩) (ai (by first | trivial | rfl) (ai ⟨by kernel_rfl, Nat.le_of_ble_eq_true (by kernel_rfl)⟩ (ai (by kernel_rfl) ?_))))))))))))))
    refine SW.seq ?_
    refine SW.regT tabOk [6, 7] ?_
    refine ai vc (ai ⟨by kernel_rfl, Nat.le_of_ble_eq_true (by kernel_rfl)⟩ (ai trivial ?_))
    refine SW.ret ?_
    rw [hr]
    refine retOk _ [] [17] rfl ?_ rfl rfl
    repeat' first | exact trivial | exact mCs_nil0 | exact mEs_nil0 | refine mL_agg rfl ?_ ?_ | refine mL_tup rfl ?_ ?_ | refine mEs_agg ?_ ?_ | refine mEs_froze rfl rfl ?_ ?_ ?_ | refine mEs_nil_d ?_ ?_ | refine mEs_d ?_ ?_ | refine mCs_froze rfl rfl ?_ ?_ ?_ | refine mCs_nil_d ?_ ?_ | refine mCs_d ?_ ?_
    all_goals (first | with_reducible rfl | (rw [hi, hw, cut_from, cut_to, Int.toNat_natCast]; simp [noteRows, cutAt, List.map_take, List.map_drop]; done) | rfl)

theorem s_l6DecNeg (m : Nat) (hm : 1 ≤ m ∧ m ≤ 1000000) : Ab.Spec Tryz.prog 82 1 [(.t 0, .v (I (-(m : Int))))] [(.t 0, .v (Dv (.s (45 :: dec m))))] := by
  refine spec_of_body tabOk Tryz.func82 rfl (by kernel_rfl) (by decide) (by kernel_rfl) rfl ?_
  refine SW.seq ?_
  refine SW.regT tabOk [0] ?_
  refine ai trivial ?_
  refine SW.seq ?_
  refine SW.seq ?_
  refine SW.regT tabOk [0, 4] ?_
  refine ai trivial (ai trivial ?_)
  refine SW.cond rfl (fun c4 => ?_) (fun c4 => ?_)
  · skip
    simp at c4
    omega
  · skip
    refine SW.skip ?_
    refine SW.seq ?_
    refine SW.seq ?_
    refine SW.regT tabOk [0, 6] ?_
    refine ai trivial (ai trivial ?_)
    refine SW.cond rfl (fun c6 => ?_) (fun c6 => ?_)
    · skip
      refine SW.seq ?_
      refine SW.regT tabOk [2] ?_
      refine ai trivial (ai trivial ?_)
      refine ex_pure (s_spec_l6Dec m (by omega)) rfl rfl rfl rfl rfl (by exact args1 (show wrap64 (0 - -(m : Int)) = m by rw [wrap64_of (by omega)]; omega)) rfl rfl ?_
      refine ai (by have := dec_len m; show _ ≤ 9223372036854775807; simp only [List.length_cons, List.length_nil]; omega) (ai trivial ?_)
      refine SW.ret ?_
      refine retOk1 rfl (congrArg D.s ?_)
      rfl
    · skip
      simp at c6
      omega

theorem s_l6DecJ (n : Int) (h : -1 ≤ n ∧ n ≤ 9999) : Ab.Spec Tryz.prog 82 1 [(.t 0, .v (I n))] [(.t 0, .v (Dv (.s (decI n))))] := by
  unfold decI
  by_cases h0 : n < 0
  · obtain rfl : n = -1 := by omega
    exact s_l6DecNeg 1 (by omega)
  · rw [if_neg h0]
    exact s_l6DecI n (by omega)
end Go.Proofs.YtilahgkblckndaaGreatDoor

namespace Go.Ab
open Go Go.RowKit
set_option linter.unusedVariables false
set_option linter.unusedSimpArgs false

theorem argsS {X : V} {a a' : List UInt8} (e : a = a') : [(Loc.t 0, K.v X), (.t 1, .v (Dv (.s a')))] = argSt 0 [X, Dv (.s a)] := by subst e; rfl
theorem before_total {a b c d : Int} (h : ¬ (a = c ∧ b = d)) : before a b c d = !before c d a b := by
  unfold before
  by_cases h1 : a = c
  · subst h1
    have h2 : ¬ b = d := fun e => h ⟨rfl, e⟩
    by_cases h3 : b < d
    · simp [h3, Int.not_lt.2 (Int.le_of_lt h3)]
    · simp [h3, show d < b by omega]
  · by_cases h3 : a < c
    · simp [h3, Int.not_lt.2 (Int.le_of_lt h3)]
      exact .inl fun e => h1 e.symm
    · simp [h3, h1, show c < a by omega]
theorem takeWhile_congr {α : Type} {p q : α → Bool} : ∀ {l : List α}, (∀ x ∈ l, p x = q x) → l.takeWhile p = l.takeWhile q ∧ l.dropWhile p = l.dropWhile q
  | [], _ => ⟨rfl, rfl⟩
  | x :: l, h => by
    have hx := h x (List.mem_cons_self ..)
    obtain ⟨h1, h2⟩ := takeWhile_congr (l := l) fun y hy => h y (List.mem_cons_of_mem _ hy)
    simp only [List.takeWhile, List.dropWhile, hx, h1, h2, and_self]
theorem noteAt_neg {l : List NoteR} {f m : Int} (h : noteAt l f m < 0) {x : NoteR} (hx : x ∈ l) : ¬ (x.frm = f ∧ x.num = m) := by
  rintro ⟨e1, e2⟩
  obtain ⟨i, hi⟩ := List.mem_iff_getElem?.1 hx
  have hlt := (List.getElem?_eq_some_iff.1 hi).1
  rcases placeOf_range (noteIs l f m) l.length 0 with h1 | ⟨k, h1, _, h2, _⟩
  · have h3 : noteIs l f m i = true := by
      unfold noteIs
      rw [List.getD_eq_getElem?_getD, hi]
      simp [e1, e2]
    have : ∀ n j, j ≤ i → i < j + n → placeOf (noteIs l f m) j n ≠ -1 := by
      intro n
      induction n with
      | zero => intro j h4 h5; omega
      | succ n ih =>
        intro j h4 h5
        unfold placeOf
        split
        · omega
        · rename_i h6
          by_cases e : j = i
          · subst e; exact absurd h3 h6
          · exact ih (j + 1) (by omega) (by omega)
    exact this l.length 0 (Nat.zero_le _) (by omega) h1
  · rw [noteAt, h1] at h; omega
theorem markAt_neg {l : List MarkR} {f m : Int} (h : markAt l f m < 0) {x : MarkR} (hx : x ∈ l) : ¬ (x.frm = f ∧ x.num = m) := by
  rintro ⟨e1, e2⟩
  obtain ⟨i, hi⟩ := List.mem_iff_getElem?.1 hx
  have hlt := (List.getElem?_eq_some_iff.1 hi).1
  rcases placeOf_range (markIs l f m) l.length 0 with h1 | ⟨k, h1, _, h2, _⟩
  · have h3 : markIs l f m i = true := by
      unfold markIs
      rw [List.getD_eq_getElem?_getD, hi]
      simp [e1, e2]
    have : ∀ n j, j ≤ i → i < j + n → placeOf (markIs l f m) j n ≠ -1 := by
      intro n
      induction n with
      | zero => intro j h4 h5; omega
      | succ n ih =>
        intro j h4 h5
        unfold placeOf
        split
        · omega
        · rename_i h6
          by_cases e : j = i
          · subst e; exact absurd h3 h6
          · exact ih (j + 1) (by omega) (by omega)
    exact this l.length 0 (Nat.zero_le _) (by omega) h1
  · rw [markAt, h1] at h; omega
theorem noteInS_eq {l : List NoteR} {n : NoteR} (h : noteAt l n.frm n.num < 0) : noteInS l n = noteIn l n := by
  obtain ⟨h1, h2⟩ := takeWhile_congr (p := fun x : NoteR => !before n.frm n.num x.frm x.num) (q := fun x => before x.frm x.num n.frm n.num) (l := l) fun x hx => (before_total (noteAt_neg h hx)).symm
  unfold noteInS noteIn
  rw [h1, h2]
theorem markInS_eq {l : List MarkR} {n : MarkR} (h : markAt l n.frm n.num < 0) : markInS l n = markIn l n := by
  obtain ⟨h1, h2⟩ := takeWhile_congr (p := fun x : MarkR => !before n.frm n.num x.frm x.num) (q := fun x => before x.frm x.num n.frm n.num) (l := l) fun x hx => (before_total (markAt_neg h hx)).symm
  unfold markInS markIn
  rw [h1, h2]
theorem freshS_eq (k : KeepR) (n : NoteR) : freshS k n = fresh k n := by
  unfold freshS fresh
  cases decide (noteAt k.inbox n.frm n.num < 0) <;> cases decide (markAt k.marks n.frm n.num < 0) <;> simp
def Alike (k : KeepR) (x y : KeepR × Bool) : Prop := doneOf k x = doneOf k y
theorem Alike.rfl {k : KeepR} {x : KeepR × Bool} : Alike k x x := Eq.refl _
theorem Alike.of {k : KeepR} {x y : KeepR × Bool} (h : x = y) : Alike k x y := h ▸ Alike.rfl
theorem done_no {k : KeepR} {x : KeepR × Bool} (h : x.2 = false ∨ keepOk x.1 = false) : doneOf k x = (k, false) := by
  unfold doneOf
  rw [if_neg]
  rcases h with h | h <;> simp [h]
theorem Alike.no {k : KeepR} {x y : KeepR × Bool} (h : x.2 = false ∨ keepOk x.1 = false) (h' : y.2 = false ∨ keepOk y.1 = false) : Alike k x y := (done_no h).trans (done_no h').symm
theorem take_alike {k0 k : KeepR} (n : NoteR) : Alike k0 (accept k n) (takeS k n) := by
  unfold accept takeS
  rw [freshS_eq]
  cases hf : fresh k n with
  | false => exact .of (by simp)
  | true =>
    have h2 := hf
    simp only [fresh, Bool.and_eq_true, decide_eq_true_eq] at h2
    obtain ⟨⟨⟨⟨_, _⟩, q1⟩, q2⟩, q3⟩ := h2
    have hm : (markIn k.marks ⟨n.frm, n.num, n.til⟩).length = k.marks.length + 1 := insW_length
    have hh : (noteIn k.held n).length = k.held.length + 1 := insW_length
    rw [noteInS_eq q1, noteInS_eq q2, markInS_eq (n := ⟨n.frm, n.num, n.til⟩) q3, hm, hh]
    by_cases hl : (k.held.length : Int) + k.marks.length + 1 ≤ 12
    · have e1 : decide ((k.held.length : Int) + k.marks.length + 1 ≤ 12) = true := decide_eq_true hl
      have e2 : decide (((k.held.length + 1 : Nat) : Int) + k.marks.length ≤ 12) = true := decide_eq_true (by omega)
      have e3 : decide ((k.held.length : Int) + ((k.marks.length + 1 : Nat) : Int) ≤ 12) = true := decide_eq_true (by omega)
      rw [e1, e2, e3]
      by_cases ht : n.to = k.id
      · simp [ht]; exact .rfl
      · simp [ht]; exact .rfl
    · have e1 : decide ((k.held.length : Int) + k.marks.length + 1 ≤ 12) = false := decide_eq_false hl
      have e2 : decide (((k.held.length + 1 : Nat) : Int) + k.marks.length ≤ 12) = false := decide_eq_false (by omega)
      have e3 : decide ((k.held.length : Int) + ((k.marks.length + 1 : Nat) : Int) ≤ 12) = false := decide_eq_false (by omega)
      rw [e1, e2, e3]
      refine .no (.inl (by simp)) (.inl ?_)
      by_cases ht : n.to = k.id <;> simp [ht]
theorem natV_some {s : List UInt8} {n : Nat} (h : natV s = some n) : dec n = s ∧ 1 ≤ s.length ∧ s.length ≤ 5 := by
  unfold natV at h
  split at h
  · rename_i hc
    cases h
    exact ⟨(dec_written hc.1.1 hc.2.2).2 hc.2.1, hc.1.1, hc.1.2⟩
  · cases h
theorem natV_big {s : List UInt8} {n : Nat} (h : natV s = some n) (h5 : 4 < s.length) : 10000 ≤ n := by
  obtain ⟨h1, _, _⟩ := natV_some h
  by_cases hn : n < 10 ^ (3 + 1)
  · have := dec_len_of hn
    rw [h1] at this; omega
  · simpa using hn
theorem natV_small {s : List UInt8} {n : Nat} (h : natV s = some n) (hn : n < 10000) : decV s = n := by
  have hl : s.length ≤ 4 := by
    by_cases h5 : 4 < s.length
    · have := natV_big h h5; omega
    · omega
  rw [decV_natV hl, h]
theorem decV_none {s : List UInt8} (h : natV s = none) : decV s = -1 := by
  by_cases hl : s.length ≤ 4
  · rw [decV_natV hl, h]
  · unfold decV
    rw [if_neg (by omega)]
theorem decV_long {s : List UInt8} (h : 4 < s.length) : decV s = -1 := by
  unfold decV
  rw [if_neg (by omega)]
theorem advance_bad {k : KeepR} {n : Int} (h : 999 < n) : keepOk (advance k n) = false := by
  cases hk : keepOk (advance k n) with
  | false => rfl
  | true =>
    obtain ⟨⟨_, ⟨_, h2⟩, _⟩, _⟩ := (keepOk_parts _).1 hk
    simp only [advance] at h2
    omega
theorem next_bad {k : KeepR} {n : Int} (h : 100 < n) : keepOk { k with next := n } = false := by
  cases hk : keepOk { k with next := n } with
  | false => rfl
  | true =>
    obtain ⟨⟨_, _, ⟨_, h2⟩, _⟩, _⟩ := (keepOk_parts _).1 hk
    simp only at h2
    omega
theorem natN_some {s : List UInt8} {n : Nat} (h : natV s = some n) : natN s = n := by rw [natN, h]
theorem time_alike {k : KeepR} (hk : keepOk k = true) (r : List UInt8) : Alike k (if (natV r).isSome then doNum k wTime (natN r) else (k, false)) (if decV r ≤ k.time then (k, false) else (advance k (decV r), true)) := by
  obtain ⟨⟨_, ⟨t0, t1⟩, _⟩, _⟩ := (keepOk_parts _).1 hk
  cases h : natV r with
  | none =>
    rw [decV_none h, if_neg (show ¬ ((none : Option Nat).isSome = true) by simp), if_pos (show (-1 : Int) ≤ k.time by omega)]
    exact .rfl
  | some n =>
    rw [natN_some h, if_pos (show (some n).isSome = true from rfl)]
    by_cases hn : n < 10000
    · rw [natV_small h hn]
      by_cases ht : k.time < n
      · rw [if_neg (by omega)]
        exact .of (if_pos (by simp [ht]))
      · rw [if_pos (by omega)]
        exact .of ((if_neg (by simp [ht])).trans (if_neg (by simp [wTime, wNext])))
    · have hl : decV r = -1 := decV_long (by
        by_cases h5 : 4 < r.length
        · exact h5
        · have := natV_some h
          have h6 := decV_natV (s := r) (by omega)
          rw [h] at h6
          have h7 := decV_range r
          simp only at h6
          omega)
      rw [hl, if_pos (by omega), doNum, if_pos (by simp; omega)]
      exact .no (.inr (advance_bad (by omega))) (.inl rfl)
theorem next_alike {k : KeepR} (hk : keepOk k = true) (r : List UInt8) : Alike k (if (natV r).isSome then doNum k wNext (natN r) else (k, false)) (if decV r ≤ k.next then (k, false) else ({ k with next := decV r }, true)) := by
  obtain ⟨⟨_, _, ⟨t0, t1⟩, _⟩, _⟩ := (keepOk_parts _).1 hk
  cases h : natV r with
  | none =>
    rw [decV_none h, if_neg (show ¬ ((none : Option Nat).isSome = true) by simp), if_pos (show (-1 : Int) ≤ k.next by omega)]
    exact .rfl
  | some n =>
    rw [natN_some h, if_pos (show (some n).isSome = true from rfl)]
    have e1 : (wNext == wTime) = false := by decide
    by_cases hn : n < 10000
    · rw [natV_small h hn]
      by_cases ht : k.next < n
      · rw [if_neg (by omega)]
        exact .of ((if_neg (by simp [e1])).trans (if_pos (by simp [ht])))
      · rw [if_pos (by omega)]
        exact .of ((if_neg (by simp [e1])).trans (if_neg (by simp [ht])))
    · have hl : decV r = -1 := decV_long (by
        by_cases h5 : 4 < r.length
        · exact h5
        · have := natV_some h
          have h6 := decV_natV (s := r) (by omega)
          rw [h] at h6
          have h7 := decV_range r
          simp only at h6
          omega)
      rw [hl, if_pos (by omega), doNum, if_neg (by simp [e1]), if_pos (by simp; omega)]
      exact .no (.inr (next_bad (by omega))) (.inl rfl)
theorem own_alike {k : KeepR} (x : NoteR × Bool) : Alike k (if x.2 then doNote k wOwn x.1 else (k, false)) (if !x.2 || x.1.frm != k.id || x.1.num != k.next then (k, false) else takeS { k with next := wrap64 (k.next + 1) } x.1) := by
  obtain ⟨n, b⟩ := x
  cases b with
  | false => exact .of (by simp)
  | true =>
    rw [if_pos (show (n, true).2 = true from rfl)]
    show Alike k (doNote k wOwn n) (if (!true) || n.frm != k.id || n.num != k.next then (k, false) else takeS { k with next := wrap64 (k.next + 1) } n)
    by_cases h : n.frm = k.id ∧ n.num = k.next
    · have hL : doNote k wOwn n = accept { k with next := wrap64 (k.next + 1) } n := if_pos (by simp [h])
      rw [hL, if_neg (by simp [h])]
      exact take_alike n
    · have hL : doNote k wOwn n = (k, false) := by
        refine (if_neg (by simp; exact fun a b => h ⟨a, b⟩)).trans ((if_neg (by simp [wOwn, wTake])).trans ?_)
        split
        · rfl
        · simp [wOwn, wHeld, wInbox]
      have hR : ((!true) || n.frm != k.id || n.num != k.next) = true := by
        by_cases h1 : n.frm = k.id
        · have h2 : ¬ n.num = k.next := fun h2 => h ⟨h1, h2⟩
          simp [h2]
        · simp [h1]
      rw [hL, if_pos hR]
      exact .rfl
theorem take_alike2 {k : KeepR} (x : NoteR × Bool) : Alike k (if x.2 then doNote k wTake x.1 else (k, false)) (if !x.2 || x.1.frm == k.id then (k, false) else takeS k x.1) := by
  obtain ⟨n, b⟩ := x
  cases b with
  | false => exact .of (by simp)
  | true =>
    rw [if_pos (show (n, true).2 = true from rfl)]
    show Alike k (doNote k wTake n) (if (!true) || n.frm == k.id then (k, false) else takeS k n)
    by_cases h : n.frm = k.id
    · have hL : doNote k wTake n = (k, false) := by
        refine (if_neg (by simp [wTake, wOwn])).trans ((if_neg (by simp [h])).trans ?_)
        split
        · rfl
        · simp [wTake, wHeld, wInbox]
      rw [hL, if_pos (by simp [h])]
      exact .rfl
    · have hL : doNote k wTake n = accept k n := (if_neg (by simp [wTake, wOwn])).trans (if_pos (by simp [h]))
      rw [hL, if_neg (by simp [h])]
      exact take_alike n
theorem held_alike {k : KeepR} (w : List UInt8) (hw : w = wHeld ∨ w = wInbox) (x : NoteR × Bool) : Alike k (if x.2 then doNote k w x.1 else (k, false))
    (if !x.2 || decide (noteAt k.held x.1.frm x.1.num ≥ 0) || decide (noteAt k.inbox x.1.frm x.1.num ≥ 0) then (k, false)
      else if w == wHeld then ({ k with held := noteInS k.held x.1 }, true) else ({ k with inbox := noteInS k.inbox x.1 }, true)) := by
  obtain ⟨n, b⟩ := x
  cases b with
  | false => exact .of (by simp)
  | true =>
    have e1 : (w == wOwn) = false := by rcases hw with rfl | rfl <;> decide
    have e2 : (w == wTake) = false := by rcases hw with rfl | rfl <;> decide
    rw [if_pos (show (n, true).2 = true from rfl)]
    show Alike k (doNote k w n) (if (!true) || decide (noteAt k.held n.frm n.num ≥ 0) || decide (noteAt k.inbox n.frm n.num ≥ 0) then (k, false)
      else if w == wHeld then ({ k with held := noteInS k.held n }, true) else ({ k with inbox := noteInS k.inbox n }, true))
    by_cases h : 0 ≤ noteAt k.held n.frm n.num ∨ 0 ≤ noteAt k.inbox n.frm n.num
    · have hL : doNote k w n = (k, false) := (if_neg (by simp [e1])).trans ((if_neg (by simp [e2])).trans (if_pos (by simpa using h)))
      rw [hL, if_pos (by simpa using h)]
      exact .rfl
    · have h1 : noteAt k.held n.frm n.num < 0 := by omega
      have h2 : noteAt k.inbox n.frm n.num < 0 := by omega
      have h3 : ¬ (decide (0 ≤ noteAt k.held n.frm n.num) || decide (0 ≤ noteAt k.inbox n.frm n.num)) = true := by simpa using h
      have h4 : ¬ ((!true) || decide (noteAt k.held n.frm n.num ≥ 0) || decide (noteAt k.inbox n.frm n.num ≥ 0)) = true := by simpa using h
      rw [if_neg h4]
      rcases hw with rfl | rfl
      · have hL : doNote k wHeld n = ({ k with held := noteIn k.held n }, true) := (if_neg (by simp [e1])).trans ((if_neg (by simp [e2])).trans ((if_neg h3).trans (if_pos (by decide))))
        rw [hL, if_pos (by decide), noteInS_eq h1]
        exact .rfl
      · have hL : doNote k wInbox n = ({ k with inbox := noteIn k.inbox n }, true) := (if_neg (by simp [e1])).trans ((if_neg (by simp [e2])).trans ((if_neg h3).trans ((if_neg (by decide)).trans (if_pos (by decide)))))
        rw [hL, if_neg (by decide), noteInS_eq h2]
        exact .rfl
end Go.Ab

namespace Go.Ab
open Go Go.RowKit
set_option linter.unusedVariables false
set_option linter.unusedSimpArgs false

def dline (m : MarkR) : List UInt8 := dec m.frm.toNat ++ 32 :: (dec m.num.toNat ++ 32 :: dec m.til.toNat)
theorem markOk_parts {m : MarkR} (h : markOk m = true) : (0 ≤ m.frm ∧ m.frm ≤ 3) ∧ (1 ≤ m.num ∧ m.num ≤ 99) ∧ (1 ≤ m.til ∧ m.til ≤ 999) := by
  simp only [markOk, isNode, inB, Bool.and_eq_true, decide_eq_true_eq] at h
  omega
theorem noteOk_mark {n : NoteR} (h : noteOk n = true) : markOk ⟨n.frm, n.num, n.til⟩ = true := by
  simp only [noteOk, markOk, Bool.and_eq_true] at h ⊢
  exact ⟨⟨h.1.1.1.1, h.1.1.2⟩, h.1.2⟩
theorem nosp_has {s : List UInt8} (h : ∀ b ∈ s, b ≠ 32) : hasSp s = false := by
  unfold hasSp
  rw [List.any_eq_false]
  intro b hb
  have := h b hb
  simpa using this
theorem count_no {s : List UInt8} (h : hasSp s = false) : Lib.count s [32] = 0 := by rw [count_sp, h]; rfl
theorem split3 {a b c : List UInt8} (ha : ∀ x ∈ a, x ≠ 32) (hb : ∀ x ∈ b, x ≠ 32) (hc : ∀ x ∈ c, x ≠ 32) :
    splitSp (a ++ 32 :: (b ++ 32 :: c)) = [a, b, c] ∧ restN 3 (a ++ 32 :: (b ++ 32 :: c)) = [] ∧ wordOf (a ++ 32 :: (b ++ 32 :: c)) = a ∧ wordOf (restN 1 (a ++ 32 :: (b ++ 32 :: c))) = b ∧ wordOf (restN 2 (a ++ 32 :: (b ++ 32 :: c))) = c := by
  obtain ⟨a1, a2, a3⟩ := word_app (r := b ++ 32 :: c) ha
  obtain ⟨b1, b2, b3⟩ := word_app (r := c) hb
  have c3 := nosp_has hc
  obtain ⟨_, c1, c2⟩ := (indexByte_word c).2 c3
  have hn : Lib.count (a ++ 32 :: (b ++ 32 :: c)) [32] = 2 := by
    rw [count_sp, if_pos a3, a2, count_sp, if_pos b3, b2, count_no c3]
  refine ⟨?_, ?_, a1, ?_, ?_⟩
  · rw [splitSp, hn]
    simp only [cuts, a1, a2, a3, b1, b2, b3, if_true]
  · simp only [restN, a2, b2, c2]
  · simp only [restN, a2, b1]
  · simp only [restN, a2, b2, c1]
theorem decI_nat {n : Int} (h : 0 ≤ n) : decI n = dec n.toNat := if_neg (by omega)
theorem lineS_eq {m : MarkR} (h : markOk m = true) : lineS m = dline m := by
  obtain ⟨h1, h2, h3⟩ := markOk_parts h
  unfold lineS dline
  rw [decI_nat (by omega), decI_nat (by omega), decI_nat (by omega)]
  simp
theorem line_mark {m : MarkR} (h : markOk m = true) : natsOk (splitSp (dline m)) = true ∧ (splitSp (dline m)).length = 3 ∧ three (splitSp (dline m)) = m ∧ restN 3 (dline m) = [] ∧ threeS (dline m) = m := by
  obtain ⟨h1, h2, h3⟩ := markOk_parts h
  obtain ⟨q1, q2, q3, q4, q5⟩ := split3 (dec_nosp m.frm.toNat) (dec_nosp m.num.toNat) (dec_nosp m.til.toNat)
  have e : ∀ {x : Int}, 0 ≤ x → ((x.toNat : Nat) : Int) = x := fun h => by omega
  have w1 : natV (dec m.frm.toNat) = some m.frm.toNat := natV_dec (by omega)
  have w2 : natV (dec m.num.toNat) = some m.num.toNat := natV_dec (by omega)
  have w3 : natV (dec m.til.toNat) = some m.til.toNat := natV_dec (by omega)
  have u1 : natN (dec m.frm.toNat) = m.frm := by rw [natN, w1]; exact e (by omega)
  have u2 : natN (dec m.num.toNat) = m.num := by rw [natN, w2]; exact e (by omega)
  have u3 : natN (dec m.til.toNat) = m.til := by rw [natN, w3]; exact e (by omega)
  have v1 : decV (dec m.frm.toNat) = m.frm := by rw [decV_dec (by omega), e (by omega)]
  have v2 : decV (dec m.num.toNat) = m.num := by rw [decV_dec (by omega), e (by omega)]
  have v3 : decV (dec m.til.toNat) = m.til := by rw [decV_dec (by omega), e (by omega)]
  unfold dline
  refine ⟨?_, ?_, ?_, q2, ?_⟩
  · rw [q1]; simp [natsOk, w1, w2, w3]
  · rw [q1]; rfl
  · rw [q1]; simp [three, u1, u2, u3]
  · unfold threeS numAt
    have q6 : wordOf (restN 0 (dec m.frm.toNat ++ 32 :: (dec m.num.toNat ++ 32 :: dec m.til.toNat))) = dec m.frm.toNat := q3
    rw [q6, q4, q5, v1, v2, v3]
theorem split_join {s : List UInt8} (h : hasSp s = true) : s = wordOf s ++ 32 :: restOf s := by
  obtain ⟨q1, q2, q3, q4⟩ := (indexByte_word s).1 h
  have h3 : s[(wordOf s).length]'q4 = 32 := by
    have h1 : Lib.indexByte s 32 = (wordOf s).length := q1
    have h2 : s.drop (wordOf s).length = s[(wordOf s).length]'q4 :: s.drop ((wordOf s).length + 1) := List.drop_eq_getElem_cons q4
    have h4 : s.drop (wordOf s).length = s.dropWhile (· != 32) := by
      have h5 := List.takeWhile_append_dropWhile (p := (· != (32 : UInt8))) (l := s)
      have h6 : s.take (wordOf s).length ++ s.drop (wordOf s).length = s := List.take_append_drop _ _
      rw [q2] at h6
      exact List.append_cancel_left (h6.trans h5.symm)
    have h7 : ∀ l : List UInt8, ∀ x t, l.dropWhile (· != 32) = x :: t → x = 32 := by
      intro l
      induction l with
      | nil => intro x t h; cases h
      | cons y l ih =>
        intro x t h
        by_cases hy : y = 32
        · subst hy
          simp at h
          exact h.1.symm
        · rw [List.dropWhile_cons_of_pos (by simpa using hy)] at h
          exact ih x t h
    exact h7 s _ _ (h4.symm.trans h2)
  have h8 : s.take (wordOf s).length ++ s.drop (wordOf s).length = s := List.take_append_drop _ _
  rw [q2, List.drop_eq_getElem_cons q4, h3, q3] at h8
  exact h8.symm
theorem split_three {s : List UInt8} (h : (splitSp s).length = 3) : ∃ a b c, splitSp s = [a, b, c] ∧ s = a ++ 32 :: (b ++ 32 :: c) := by
  have h0 := cuts_all _ s rfl
  have hn : Lib.count s [32] = 2 := by
    rw [splitSp] at h; omega
  have h1 : hasSp s = true := by
    cases hs : hasSp s with
    | true => rfl
    | false => rw [count_no hs] at hn; cases hn
  rw [count_sp, if_pos h1] at hn
  have h2 : hasSp (restOf s) = true := by
    cases hs : hasSp (restOf s) with
    | true => rfl
    | false => rw [count_no hs] at hn; cases hn
  have hn2 : Lib.count s [32] = 2 := by rw [count_sp, if_pos h1]; exact hn
  refine ⟨wordOf s, wordOf (restOf s), restOf (restOf s), ?_, ?_⟩
  · rw [splitSp, hn2]
    simp only [cuts, h1, h2, if_true]
  · rw [← split_join h2, ← split_join h1]
theorem nats_line {s : List UInt8} (h : (natsOk (splitSp s) && (splitSp s).length == 3) = true) : s = dline (three (splitSp s)) := by
  rw [Bool.and_eq_true, beq_iff_eq] at h
  obtain ⟨a, b, c, hl, hs⟩ := split_three h.2
  have hk := h.1
  rw [hl] at hk ⊢
  simp only [natsOk, List.all_cons, List.all_nil, Bool.and_true, Bool.and_eq_true] at hk
  obtain ⟨ha, hb, hc⟩ := hk
  obtain ⟨x, hx⟩ := Option.isSome_iff_exists.1 ha
  obtain ⟨y, hy⟩ := Option.isSome_iff_exists.1 hb
  obtain ⟨z, hz⟩ := Option.isSome_iff_exists.1 hc
  unfold dline three
  simp only [List.getD_cons_zero, List.getD_cons_succ, natN_some hx, natN_some hy, natN_some hz, Int.toNat_natCast, (natV_some hx).1, (natV_some hy).1, (natV_some hz).1]
  exact hs
theorem note_place {l : List NoteR} (hk : notesOk l = true) {f m : Int} (hp : 0 ≤ noteAt l f m) : noteOk (l.getD (noteAt l f m).toNat .zero) = true ∧ (l.getD (noteAt l f m).toNat .zero).frm = f ∧ (l.getD (noteAt l f m).toNat .zero).num = m ∧ (noteAt l f m).toNat < l.length := by
  rcases placeOf_range (noteIs l f m) l.length 0 with h | ⟨k, h, _, h2, h3, _⟩
  · rw [noteAt, h] at hp; omega
  · have e : noteAt l f m = k := h
    rw [e, Int.toNat_natCast]
    have h4 := h3
    unfold noteIs at h4
    simp only [Bool.and_eq_true, beq_iff_eq] at h4
    exact ⟨notesOk_mem hk (mem_getD (by omega)), h4.1, h4.2, by omega⟩
theorem marksOk_mem {l : List MarkR} (h : marksOk l = true) {x : MarkR} (hx : x ∈ l) : markOk x = true := by
  obtain ⟨i, hi⟩ := List.mem_iff_getElem?.1 hx
  have hlt := (List.getElem?_eq_some_iff.1 hi).1
  have h1 := List.all_eq_true.1 h i (List.mem_range.2 hlt)
  unfold markStep at h1
  rw [Bool.and_eq_true] at h1
  have h2 := h1.1
  rw [List.getD_eq_getElem?_getD, hi] at h2
  exact h2
theorem mark_bad {k : KeepR} {m : MarkR} (hm : markOk m = false) {p : MarkR → Bool} : keepOk { k with marks := insW p m k.marks } = false := by
  cases h : keepOk { k with marks := insW p m k.marks } with
  | false => rfl
  | true =>
    obtain ⟨_, ⟨_, h2, _⟩, _⟩ := (keepOk_parts _).1 h
    rw [marksOk_mem h2 (insW_mem.2 (.inl rfl))] at hm
    cases hm
theorem no_place {l : List NoteR} (hk : notesOk l = true) {m : MarkR} (hm : markOk m = false) : ¬ (0 ≤ noteAt l m.frm m.num ∧ (l.getD (noteAt l m.frm m.num).toNat .zero).til = m.til) := by
  rintro ⟨h1, h2⟩
  obtain ⟨q1, q2, q3, _⟩ := note_place hk h1
  have := noteOk_mark q1
  rw [q2, q3, h2] at this
  rw [show m = ⟨m.frm, m.num, m.til⟩ from rfl, this] at hm
  cases hm
theorem doMark_bad {k : KeepR} (hk : keepOk k = true) {w : List UInt8} {m : MarkR} (hm : markOk m = false) : doneOf k (doMark k w m) = (k, false) := by
  obtain ⟨_, ⟨h1, _, h2⟩, _⟩ := (keepOk_parts _).1 hk
  unfold doMark
  rw [if_neg (by
    intro h
    simp only [Bool.and_eq_true, decide_eq_true_eq, beq_iff_eq] at h
    exact no_place h1 hm ⟨h.1.2, h.2⟩), if_neg (by
    intro h
    simp only [Bool.and_eq_true, decide_eq_true_eq, beq_iff_eq] at h
    exact no_place h2 hm ⟨h.1.2, h.2⟩)]
  split
  · exact done_no (.inr (mark_bad hm))
  · exact done_no (.inl rfl)
def markS (k : KeepR) (w : List UInt8) (m : MarkR) : KeepR × Bool :=
  if w == wLet then (if decide (noteAt k.held m.frm m.num < 0) || (k.held.getD (noteAt k.held m.frm m.num).toNat .zero).til != m.til then (k, false) else letS k m.frm m.num)
  else if w == wEat then (if decide (noteAt k.inbox m.frm m.num < 0) || (k.inbox.getD (noteAt k.inbox m.frm m.num).toNat .zero).til != m.til then (k, false) else eatS k m.frm m.num)
  else if w == wMark then (if markAt k.marks m.frm m.num ≥ 0 then (k, false) else ({ k with marks := markInS k.marks m }, true))
  else (k, false)
theorem or_place {l : List NoteR} {m : MarkR} (h : ¬ (0 ≤ noteAt l m.frm m.num ∧ (l.getD (noteAt l m.frm m.num).toNat .zero).til = m.til)) : (decide (noteAt l m.frm m.num < 0) || (l.getD (noteAt l m.frm m.num).toNat .zero).til != m.til) = true := by
  by_cases h1 : noteAt l m.frm m.num < 0
  · simp [h1]
  · have h2 : ¬ (l.getD (noteAt l m.frm m.num).toNat .zero).til = m.til := fun e => h ⟨by omega, e⟩
    rw [Bool.or_eq_true]
    exact .inr (by simpa only [bne_iff_ne, ne_eq] using h2)
theorem markS_bad {k : KeepR} (hk : keepOk k = true) {w : List UInt8} {m : MarkR} (hm : markOk m = false) : doneOf k (markS k w m) = (k, false) := by
  obtain ⟨_, ⟨h1, _, h2⟩, _⟩ := (keepOk_parts _).1 hk
  unfold markS
  rw [if_pos (or_place (no_place h1 hm)), if_pos (or_place (no_place h2 hm))]
  split
  · exact done_no (.inl rfl)
  · split
    · exact done_no (.inl rfl)
    · split
      · split
        · exact done_no (.inl rfl)
        · exact done_no (.inr (mark_bad hm))
      · exact done_no (.inl rfl)
theorem held_unmarked {k : KeepR} (hk : keepOk k = true) {i : Nat} (hi : i < k.held.length) : markAt k.marks (k.held.getD i .zero).frm (k.held.getD i .zero).num < 0 := by
  obtain ⟨_, _, h, _⟩ := (keepOk_parts _).1 hk
  have h1 := List.all_eq_true.1 h i (List.mem_range.2 hi)
  unfold heldOk at h1
  simp only [Bool.and_eq_true, decide_eq_true_eq] at h1
  exact h1.2
theorem mark_same {k : KeepR} (hk : keepOk k = true) (w : List UInt8) (m : MarkR) : doMark k w m = markS k w m := by
  obtain ⟨_, ⟨h1, _, h2⟩, _⟩ := (keepOk_parts _).1 hk
  have l1 : (wLet == wEat) = false := by decide
  have l2 : (wLet == wMark) = false := by decide
  have l3 : (wEat == wMark) = false := by decide
  have l4 : (wEat == wLet) = false := by decide
  have l5 : (wMark == wLet) = false := by decide
  have l6 : (wMark == wEat) = false := by decide
  unfold doMark markS
  by_cases w1 : w = wLet
  · subst w1
    rw [if_pos (show (wLet == wLet) = true by decide)]
    by_cases h : 0 ≤ noteAt k.held m.frm m.num ∧ (k.held.getD (noteAt k.held m.frm m.num).toNat .zero).til = m.til
    · obtain ⟨q1, q2, q3, q4⟩ := note_place h1 h.1
      have hu := held_unmarked hk q4
      rw [q2, q3] at hu
      rw [if_pos (by rw [h.2]; simp [h.1]), if_neg (by rw [h.2]; simp [h.1]), letS, if_pos h.1, h.2, markInS_eq (n := ⟨m.frm, m.num, m.til⟩) hu]
    · rw [if_pos (or_place h), if_neg (by
        intro h9
        simp only [Bool.and_eq_true, decide_eq_true_eq, beq_iff_eq] at h9
        exact h ⟨h9.1.2, h9.2⟩), if_neg (by rw [l1]; simp), if_neg (by rw [l2]; simp)]
  · have w1' : (w == wLet) = false := by simpa using w1
    rw [if_neg (by rw [w1']; simp), if_neg (show ¬ (w == wLet) = true by rw [w1']; simp)]
    by_cases w2 : w = wEat
    · subst w2
      rw [if_pos (show (wEat == wEat) = true by decide)]
      by_cases h : 0 ≤ noteAt k.inbox m.frm m.num ∧ (k.inbox.getD (noteAt k.inbox m.frm m.num).toNat .zero).til = m.til
      · rw [if_pos (by rw [h.2]; simp [h.1]), if_neg (by rw [h.2]; simp [h.1]), eatS, if_pos h.1]
      · rw [if_pos (or_place h), if_neg (by
          intro h9
          simp only [Bool.and_eq_true, decide_eq_true_eq, beq_iff_eq] at h9
          exact h ⟨h9.1.2, h9.2⟩), if_neg (by rw [l3]; simp)]
    · have w2' : (w == wEat) = false := by simpa using w2
      rw [if_neg (by rw [w2']; simp), if_neg (show ¬ (w == wEat) = true by rw [w2']; simp)]
      by_cases w3 : w = wMark
      · subst w3
        rw [if_pos (show (wMark == wMark) = true by decide)]
        by_cases h : markAt k.marks m.frm m.num < 0
        · rw [if_pos (by simp [h]), if_neg (by omega), markInS_eq h]
        · rw [if_neg (by simp [h]), if_pos (by omega)]
      · have w3' : (w == wMark) = false := by simpa using w3
        rw [if_neg (by rw [w3']; simp), if_neg (show ¬ (w == wMark) = true by rw [w3']; simp)]
theorem mark_alike {k : KeepR} (hk : keepOk k = true) (w r : List UInt8) :
    Alike k (if natsOk (splitSp r) && (splitSp r).length == 3 then doMark k w (three (splitSp r)) else (k, false)) (if !(restN 3 r == []) || !(r == lineS (threeS r)) then (k, false) else markS k w (threeS r)) := by
  by_cases h : ∃ m, markOk m = true ∧ r = dline m
  · obtain ⟨m, hm, rfl⟩ := h
    obtain ⟨q1, q2, q3, q4, q5⟩ := line_mark hm
    rw [q3, q4, q5, lineS_eq hm, q1, q2, if_pos (by decide), if_neg (by simp), mark_same hk]
    exact .rfl
  · have hL : doneOf k (if natsOk (splitSp r) && (splitSp r).length == 3 then doMark k w (three (splitSp r)) else (k, false)) = (k, false) := by
      split
      · rename_i h1
        refine doMark_bad hk ?_
        cases h2 : markOk (three (splitSp r)) with
        | false => rfl
        | true => exact absurd ⟨_, h2, nats_line h1⟩ h
      · exact done_no (.inl rfl)
    have hR : doneOf k (if !(restN 3 r == []) || !(r == lineS (threeS r)) then (k, false) else markS k w (threeS r)) = (k, false) := by
      split
      · exact done_no (.inl rfl)
      · rename_i h1
        refine markS_bad hk ?_
        cases h2 : markOk (threeS r) with
        | false => rfl
        | true =>
          refine absurd ⟨_, h2, ?_⟩ h
          rw [← lineS_eq h2]
          simp only [Bool.or_eq_true, Bool.not_eq_true', not_or, Bool.not_eq_false, beq_iff_eq] at h1
          exact h1.2
    exact hL.trans hR.symm
theorem keepDo_eq (k : KeepR) (rec : List UInt8) : keepDoS k rec = keepDo k rec := by
  unfold keepDoS keepDo
  by_cases hk : keepOk k = true
  · rw [if_pos hk, if_pos hk]
    symm
    show Alike k _ _
    obtain ⟨⟨_, ⟨t0, _⟩, ⟨n0, _⟩, _⟩, _⟩ := (keepOk_parts _).1 hk
    have hS : ∀ w r, wordOf rec = w → restOf rec = r → recDoS k rec = (if w == wTime then (if decV r ≤ k.time then (k, false) else (advance k (decV r), true))
        else if w == wOwn then (if !(readS r).2 || (readS r).1.frm != k.id || (readS r).1.num != k.next then (k, false) else takeS { k with next := wrap64 (k.next + 1) } (readS r).1)
        else if w == wTake then (if !(readS r).2 || (readS r).1.frm == k.id then (k, false) else takeS k (readS r).1)
        else if w == wNext then (if decV r ≤ k.next then (k, false) else ({ k with next := decV r }, true))
        else if w == wHeld || w == wInbox then
          (if !(readS r).2 || decide (noteAt k.held (readS r).1.frm (readS r).1.num ≥ 0) || decide (noteAt k.inbox (readS r).1.frm (readS r).1.num ≥ 0) then (k, false)
            else if w == wHeld then ({ k with held := noteInS k.held (readS r).1 }, true) else ({ k with inbox := noteInS k.inbox (readS r).1 }, true))
        else if !(restN 3 r == []) || !(r == lineS (threeS r)) then (k, false) else markS k w (threeS r)) := by
      rintro w r rfl rfl; rfl
    have hI : ∀ w r, wordOf rec = w → restOf rec = r → recDoI k rec = (if hasSp rec then
        if w == wTime || w == wNext then (if (natV r).isSome then doNum k w (natN r) else (k, false))
        else if w == wOwn || w == wTake || w == wHeld || w == wInbox then (if (readS r).2 then doNote k w (readS r).1 else (k, false))
        else if w == wLet || w == wEat || w == wMark then (if natsOk (splitSp r) && (splitSp r).length == 3 then doMark k w (three (splitSp r)) else (k, false))
        else (k, false)
      else (k, false)) := by
      rintro w r rfl rfl; rfl
    cases hs : hasSp rec with
    | false =>
      obtain ⟨_, _, hr⟩ := (indexByte_word rec).2 hs
      rw [hI _ _ rfl rfl, hs, hS _ _ rfl hr]
      have hd : decV [] = -1 := rfl
      have hrd : readS [] = (.zero, false) := rfl
      have hl : ([] == lineS (threeS [])) = false := by
        have : lineS (threeS []) ≠ [] := by simp [lineS]
        simpa using this
      rw [hd, hrd, hl]
      refine .no (.inl rfl) (.inl ?_)
      rw [if_pos (show (-1 : Int) ≤ k.time by omega), if_pos (show (-1 : Int) ≤ k.next by omega)]
      simp
    | true =>
      rw [hI _ _ rfl rfl, hs, hS _ _ rfl rfl, if_pos rfl]
      generalize restOf rec = r
      generalize wordOf rec = w
      by_cases e1 : w = wTime
      · subst e1; exact time_alike hk r
      by_cases e2 : w = wNext
      · subst e2; exact next_alike hk r
      by_cases e3 : w = wOwn
      · subst e3; exact own_alike (readS r)
      by_cases e4 : w = wTake
      · subst e4; exact take_alike2 (readS r)
      by_cases e5 : w = wHeld ∨ w = wInbox
      · have hx := held_alike (k := k) w e5 (readS r)
        rcases e5 with rfl | rfl <;> exact hx
      have b1 : (w == wTime) = false := by simpa using e1
      have b2 : (w == wNext) = false := by simpa using e2
      have b3 : (w == wOwn) = false := by simpa using e3
      have b4 : (w == wTake) = false := by simpa using e4
      have b5 : (w == wHeld) = false := by simpa using fun h => e5 (.inl h)
      have b6 : (w == wInbox) = false := by simpa using fun h => e5 (.inr h)
      rw [b1, b2, b3, b4, b5, b6]
      show Alike k (if w == wLet || w == wEat || w == wMark then _ else (k, false)) (if !(restN 3 r == []) || !(r == lineS (threeS r)) then (k, false) else markS k w (threeS r))
      cases h7 : (w == wLet || w == wEat || w == wMark) with
      | true => exact mark_alike hk w r
      | false =>
        simp only [Bool.or_eq_false_iff] at h7
        refine .no (.inl rfl) (.inl ?_)
        split
        · rfl
        · unfold markS
          rw [h7.1.1, h7.1.2, h7.2]; rfl
  · rw [if_neg hk, if_neg hk]
end Go.Ab

namespace Go.Proofs.YtilahgkblckndaaGreatDoor
open Go Go.Ab Go.RowKit
set_option linter.unusedVariables false
set_option linter.unusedSimpArgs false

set_option maxHeartbeats 6400000 in
theorem s_spec_l12Rec (k : KeepR) (rec : List UInt8) (hb : k.held.length ≤ 100000 ∧ k.marks.length ≤ 100000 ∧ k.inbox.length ≤ 100000) (hr : rec.length ≤ 900000) : Ab.Spec Tryz.prog 169 2 [(.t 0, .v (k.V)), (.t 1, .v (Dv (.s rec)))] [(.t 0, .v (.tup [.agg [.d (.i ((recDoS k rec).1).id), .d (.i ((recDoS k rec).1).time), .d (.i ((recDoS k rec).1).next), .d (.sl (noteRows ((recDoS k rec).1).held)), .d (.sl (markRows ((recDoS k rec).1).marks)), .d (.sl (noteRows ((recDoS k rec).1).inbox))], .c (.d (.b (recDoS k rec).2))]))] := by
  have hl1 := restOf_le rec
  have hl2 := wordOf_le rec
  have hl3 := readS_text (restOf rec)
  have e0 : toI (((intRows (numsL 3 (restOf rec))).getD 0 []).getD 0 (.i 0)) = numAt (restOf rec) 0 := nums_at3 (by omega)
  have e1 : toI (((intRows (numsL 3 (restOf rec))).getD 1 []).getD 0 (.i 0)) = numAt (restOf rec) 1 := nums_at3 (by omega)
  have e2 : toI (((intRows (numsL 3 (restOf rec))).getD 2 []).getD 0 (.i 0)) = numAt (restOf rec) 2 := nums_at3 (by omega)
  refine spec_of_body tabOk Tryz.func169 rfl (by kernel_rfl) (by decide) (by kernel_rfl) rfl ?_
  refine SW.seq ?_
  refine SW.regT tabOk [1, 2, 4, 48, 49, 50, 51, 52, 55, 56, 57, 58, 59, 81, 82, 83, 84, 85, 116, 117, 118, 119, 120, 121, 122, 123, 126, 127, 128, 129, 130, 131, 132, 133, 157, 158, 159, 160, 161, 162, 163, 164, 165, 166, 167, 168, 169, 170, 171, 172, 173, 174, 192, 193, 194, 195, 196, 197, 198, 199, 200, 201, 228, 229, 230, 231, 232, 233, 234, 235, 236, 237] ?_
  refine ai trivial (ai trivial (ai trivial ?_))
  refine SW.seq ?_
  refine SW.regT tabOk [2, 4, 6, 7, 48, 49, 50, 51, 52, 55, 56, 57, 58, 59, 81, 82, 83, 84, 85, 116, 117, 118, 119, 120, 121, 122, 123, 126, 127, 128, 129, 130, 131, 132, 133, 157, 158, 159, 160, 161, 162, 163, 164, 165, 166, 167, 168, 169, 170, 171, 172, 173, 174, 192, 193, 194, 195, 196, 197, 198, 199, 200, 201, 228, 229, 230, 231, 232, 233, 234, 235, 236, 237] ?_
  refine ai trivial ?_
  refine ex_pure (s_spec_l3Word rec (by omega)) rfl rfl rfl rfl rfl rfl rfl rfl ?_
  refine ai trivial (ai trivial (ai trivial (ai trivial (ai trivial ?_))))
  refine SW.seq ?_
  refine SW.seq ?_
  refine SW.regT tabOk [2, 4, 6, 7, 25, 48, 49, 50, 51, 52, 55, 56, 57, 58, 59, 81, 82, 83, 84, 85, 116, 117, 118, 119, 120, 121, 122, 123, 126, 127, 128, 129, 130, 131, 132, 133, 157, 158, 159, 160, 161, 162, 163, 164, 165, 166, 167, 168, 169, 170, 171, 172, 173, 174, 192, 193, 194, 195, 196, 197, 198, 199, 200, 201, 228, 229, 230, 231, 232, 233, 234, 235, 236, 237] ?_
  refine ai trivial ?_
  refine SW.block ?_
  refine SW.seq ?_
  refine SW.regT tabOk [2, 4, 6, 7, 25, 26, 48, 49, 50, 51, 52, 55, 56, 57, 58, 59, 81, 82, 83, 84, 85, 116, 117, 118, 119, 120, 121, 122, 123, 126, 127, 128, 129, 130, 131, 132, 133, 157, 158, 159, 160, 161, 162, 163, 164, 165, 166, 167, 168, 169, 170, 171, 172, 173, 174, 192, 193, 194, 195, 196, 197, 198, 199, 200, 201, 228, 229, 230, 231, 232, 233, 234, 235, 236, 237] ?_
  refine ai vc (ai trivial ?_)
  refine SW.cond rfl (fun c26 => ?_) (fun c26 => ?_)
  · skip
    refine SW.seq ?_
    refine SW.regT tabOk [2, 4, 8] ?_
    refine ai trivial ?_
    refine ex_pure (s_spec_l3Dec (restOf rec) (by omega)) rfl rfl rfl rfl rfl rfl rfl rfl ?_
    refine ai trivial ?_
    refine SW.seq ?_
    refine SW.seq ?_
    refine SW.regT tabOk [2, 4, 8, 33] ?_
    refine ai trivial (ai (by first | trivial | rfl) (ai vc (ai trivial ?_)))
    refine SW.cond rfl (fun c33 => ?_) (fun c33 => ?_)
    · skip
      refine SW.seq ?_
      refine SW.regT tabOk [4, 5] ?_
      refine ai vc (ai ⟨by kernel_rfl, Nat.le_of_ble_eq_true (by kernel_rfl)⟩ (ai trivial ?_))
      refine SW.ret ?_
      have hr : recDoS k rec = (k, false) := (if_pos c26).trans (if_pos (by simpa using c33))
      refine retOkP rfl rfl ?_
      rw [hr] <;> rfl
    · skip
      refine SW.skip ?_
      refine SW.seq ?_
      refine SW.regT tabOk [4, 5] ?_
      refine ai vc (ai trivial ?_)
      refine ex_pure (s_spec_l12Time k (decV (restOf rec)) hb) rfl rfl rfl rfl rfl rfl rfl rfl ?_
      refine ai ⟨by kernel_rfl, Nat.le_of_ble_eq_true (by kernel_rfl)⟩ (ai trivial ?_)
      refine SW.ret ?_
      have hr : recDoS k rec = _ := (if_pos c26).trans (if_neg (by simpa using c33))
      refine retOkP rfl rfl ?_
      rw [hr] <;> rfl
  · skip
    refine SW.seq ?_
    refine SW.regT tabOk [2, 4, 6, 7, 25, 38, 48, 49, 50, 51, 52, 55, 56, 57, 58, 59, 81, 82, 83, 84, 85, 116, 117, 118, 119, 120, 121, 122, 123, 126, 127, 128, 129, 130, 131, 132, 133, 157, 158, 159, 160, 161, 162, 163, 164, 165, 166, 167, 168, 169, 170, 171, 172, 173, 174, 192, 193, 194, 195, 196, 197, 198, 199, 200, 201, 228, 229, 230, 231, 232, 233, 234, 235, 236, 237] ?_
    refine ai vc (ai trivial ?_)
    refine SW.cond rfl (fun c38 => ?_) (fun c38 => ?_)
    · skip
      refine SW.seq ?_
      refine SW.regT tabOk [2, 4, 9, 10, 48, 49, 50, 51, 52, 55, 56, 57, 58, 59] ?_
      refine ai trivial ?_
      refine ex_pure (s_spec_NoteRead (restOf rec) (by omega)) rfl rfl rfl rfl rfl rfl rfl rfl ?_
      refine ai trivial (ai trivial (ai trivial (ai trivial (ai ⟨by kernel_rfl, Nat.le_of_ble_eq_true (by kernel_rfl)⟩ (ai trivial ?_)))))
      refine SW.seq ?_
      refine SW.seq ?_
      refine SW.regT tabOk [2, 4, 9, 60] ?_
      refine ai trivial (ai trivial (ai trivial (ai (fun h => (by first | trivial | rfl)) (ai rk (ai (fun h => vc) (ai rk (ai (fun h => (by first | trivial | rfl)) (ai rk (ai (fun h => vc) (ai rk (ai (fun h => trivial) (ai rk (ai pk (ai trivial (ai (fun h => (by first | trivial | rfl)) (ai rk (ai (fun h => vc) (ai rk (ai (fun h => (by first | trivial | rfl)) (ai rk (ai (fun h => vc) (ai rk (ai (fun h => trivial) (ai rk (ai pk ?_)))))))))))))))))))))))))
      refine SW.cond rfl (fun c60 => ?_) (fun c60 => ?_)
      · skip
        refine SW.seq ?_
        refine SW.regT tabOk [4, 5] ?_
        refine ai vc (ai ⟨by kernel_rfl, Nat.le_of_ble_eq_true (by kernel_rfl)⟩ (ai trivial ?_))
        refine SW.ret ?_
        have hr : recDoS k rec = (k, false) := (if_neg (bn c26)).trans ((if_pos c38).trans (if_pos c60))
        refine retOkP rfl rfl ?_
        rw [hr] <;> rfl
      · skip
        refine SW.skip ?_
        refine SW.seq ?_
        refine SW.regT tabOk [2, 4, 9] ?_
        refine ai (by first | trivial | rfl) (ai vc (ai trivial (ai (by first | trivial | rfl) (ai ⟨by kernel_rfl, Nat.le_of_ble_eq_true (by kernel_rfl)⟩ ?_))))
        refine SW.seq ?_
        refine SW.regT tabOk [4, 5] ?_
        refine ai vc (ai vc ?_)
        refine ex_pure (s_spec_l12Take { k with next := wrap64 (k.next + 1) } (readS (restOf rec)).1 hb (by omega)) rfl rfl rfl rfl rfl rfl rfl rfl ?_
        refine ai trivial (ai trivial (ai ⟨by kernel_rfl, Nat.le_of_ble_eq_true (by kernel_rfl)⟩ (ai trivial ?_)))
        refine SW.ret ?_
        have hr : recDoS k rec = _ := (if_neg (bn c26)).trans ((if_pos c38).trans (if_neg (bn c60)))
        refine retOkP rfl rfl ?_
        rw [hr] <;> rfl
    · skip
      refine SW.seq ?_
      refine SW.regT tabOk [2, 4, 6, 7, 25, 71, 81, 82, 83, 84, 85, 116, 117, 118, 119, 120, 121, 122, 123, 126, 127, 128, 129, 130, 131, 132, 133, 157, 158, 159, 160, 161, 162, 163, 164, 165, 166, 167, 168, 169, 170, 171, 172, 173, 174, 192, 193, 194, 195, 196, 197, 198, 199, 200, 201, 228, 229, 230, 231, 232, 233, 234, 235, 236, 237] ?_
      refine ai vc (ai trivial ?_)
      refine SW.cond rfl (fun c71 => ?_) (fun c71 => ?_)
      · skip
        refine SW.seq ?_
        refine SW.regT tabOk [2, 4, 11, 12, 81, 82, 83, 84, 85] ?_
        refine ai trivial ?_
        refine ex_pure (s_spec_NoteRead (restOf rec) (by omega)) rfl rfl rfl rfl rfl rfl rfl rfl ?_
        refine ai trivial (ai trivial (ai trivial (ai trivial (ai ⟨by kernel_rfl, Nat.le_of_ble_eq_true (by kernel_rfl)⟩ (ai trivial ?_)))))
        refine SW.seq ?_
        refine SW.seq ?_
        refine SW.regT tabOk [2, 4, 11, 86] ?_
        refine ai trivial (ai trivial (ai trivial (ai (fun h => (by first | trivial | rfl)) (ai rk (ai (fun h => vc) (ai rk (ai (fun h => (by first | trivial | rfl)) (ai rk (ai (fun h => vc) (ai rk (ai (fun h => trivial) (ai rk (ai pk ?_)))))))))))))
        refine SW.cond rfl (fun c86 => ?_) (fun c86 => ?_)
        · skip
          refine SW.seq ?_
          refine SW.regT tabOk [4, 5] ?_
          refine ai vc (ai ⟨by kernel_rfl, Nat.le_of_ble_eq_true (by kernel_rfl)⟩ (ai trivial ?_))
          refine SW.ret ?_
          have hr : recDoS k rec = (k, false) := (if_neg (bn c26)).trans ((if_neg (bn c38)).trans ((if_pos c71).trans (if_pos c86)))
          refine retOkP rfl rfl ?_
          rw [hr] <;> rfl
        · skip
          refine SW.skip ?_
          refine SW.seq ?_
          refine SW.regT tabOk [4, 5] ?_
          refine ai vc (ai vc ?_)
          refine ex_pure (s_spec_l12Take k (readS (restOf rec)).1 hb (by omega)) rfl rfl rfl rfl rfl rfl rfl rfl ?_
          refine ai trivial (ai trivial (ai ⟨by kernel_rfl, Nat.le_of_ble_eq_true (by kernel_rfl)⟩ (ai trivial ?_)))
          refine SW.ret ?_
          have hr : recDoS k rec = _ := (if_neg (bn c26)).trans ((if_neg (bn c38)).trans ((if_pos c71).trans (if_neg (bn c86))))
          refine retOkP rfl rfl ?_
          rw [hr] <;> rfl
      · skip
        refine SW.seq ?_
        refine SW.regT tabOk [2, 4, 6, 7, 25, 93, 116, 117, 118, 119, 120, 121, 122, 123, 126, 127, 128, 129, 130, 131, 132, 133, 157, 158, 159, 160, 161, 162, 163, 164, 165, 166, 167, 168, 169, 170, 171, 172, 173, 174, 192, 193, 194, 195, 196, 197, 198, 199, 200, 201, 228, 229, 230, 231, 232, 233, 234, 235, 236, 237] ?_
        refine ai vc (ai trivial ?_)
        refine SW.cond rfl (fun c93 => ?_) (fun c93 => ?_)
        · skip
          refine SW.seq ?_
          refine SW.regT tabOk [2, 4, 13] ?_
          refine ai trivial ?_
          refine ex_pure (s_spec_l3Dec (restOf rec) (by omega)) rfl rfl rfl rfl rfl rfl rfl rfl ?_
          refine ai trivial ?_
          refine SW.seq ?_
          refine SW.seq ?_
          refine SW.regT tabOk [2, 4, 13, 100] ?_
          refine ai trivial (ai (by first | trivial | rfl) (ai vc (ai trivial ?_)))
          refine SW.cond rfl (fun c100 => ?_) (fun c100 => ?_)
          · skip
            refine SW.seq ?_
            refine SW.regT tabOk [4, 5] ?_
            refine ai vc (ai ⟨by kernel_rfl, Nat.le_of_ble_eq_true (by kernel_rfl)⟩ (ai trivial ?_))
            refine SW.ret ?_
            have hr : recDoS k rec = (k, false) := (if_neg (bn c26)).trans ((if_neg (bn c38)).trans ((if_neg (bn c71)).trans ((if_pos c93).trans (if_pos (by simpa using c100)))))
            refine retOkP rfl rfl ?_
            rw [hr] <;> rfl
          · skip
            refine SW.skip ?_
            refine SW.seq ?_
            refine SW.regT tabOk [2, 4] ?_
            refine ai trivial (ai (by first | trivial | rfl) (ai ⟨by kernel_rfl, Nat.le_of_ble_eq_true (by kernel_rfl)⟩ ?_))
            refine SW.seq ?_
            refine SW.regT tabOk [4, 5] ?_
            refine ai vc (ai ⟨by kernel_rfl, Nat.le_of_ble_eq_true (by kernel_rfl)⟩ (ai trivial ?_))
            refine SW.ret ?_
            have hr : recDoS k rec = _ := (if_neg (bn c26)).trans ((if_neg (bn c38)).trans ((if_neg (bn c71)).trans ((if_pos c93).trans (if_neg (by simpa using c100)))))
            refine retOkP rfl rfl ?_
            rw [hr] <;> rfl
        · skip
          refine SW.midW (fun q => q = [(.t 2, .v (.e (.c (.pt 2 0)))), (.t 4, .v (.e (.c (.pt 4 0)))), (.t 6, .v (Dv (.s (wordOf rec)))), (.t 7, .v (Dv (.s (restOf rec)))), (.t 105, .v (B (wordOf rec == wHeld || wordOf rec == wInbox))), (.o 2, .box 83 [.d (.i k.id), .d (.i k.time), .d (.i k.next), .d (.sl (noteRows k.held)), .d (.sl (markRows k.marks)), .d (.sl (noteRows k.inbox))]), (.o 4, .box 83 [.d (.i 0), .d (.i 0), .d (.i 0), .nil, .nil, .nil])]) ?_ ?_
          · skip
            refine SW.seq ?_
            refine SW.regT tabOk [2, 4, 6, 7, 25, 105, 116, 117, 118, 119, 120, 121, 122, 123, 126, 127, 128, 129, 130, 131, 132, 133, 157, 158, 159, 160, 161, 162, 163, 164, 165, 166, 167, 168, 169, 170, 171, 172, 173, 174, 192, 193, 194, 195, 196, 197, 198, 199, 200, 201, 228, 229, 230, 231, 232, 233, 234, 235, 236, 237] ?_
            refine ai vc (ai trivial ?_)
            refine SW.cond rfl (fun c105 => ?_) (fun c105 => ?_)
            · skip
              refine SW.skip ?_
              refine wk [(.t 2, .v (.e (.c (.pt 2 0)))), (.t 4, .v (.e (.c (.pt 4 0)))), (.t 6, .v (Dv (.s (wordOf rec)))), (.t 7, .v (Dv (.s (restOf rec)))), (.t 105, .v (B (wordOf rec == wHeld || wordOf rec == wInbox))), (.o 2, .box 83 [.d (.i k.id), .d (.i k.time), .d (.i k.next), .d (.sl (noteRows k.held)), .d (.sl (markRows k.marks)), .d (.sl (noteRows k.inbox))]), (.o 4, .box 83 [.d (.i 0), .d (.i 0), .d (.i 0), .nil, .nil, .nil])] [] [] (rfl) ?_ rfl rfl
              repeat' first | exact trivial | refine mL_nil rfl ?_ | refine mL_d rfl ?_ ?_ | refine mL_own rfl rfl ?_ rfl ?_ | refine mL_row rfl ?_ ?_ | refine mL_pt rfl rfl rfl rfl ?_ | refine mL_box rfl ?_ ?_ | refine mL_agg rfl ?_ ?_ | exact mCs_nil0 | refine mCs_d ?_ ?_ | refine mCs_nil ?_ | refine mCs_own rfl ?_ rfl ?_ | refine mCs_pt rfl rfl rfl ?_
              all_goals first | with_reducible rfl | (first | with_reducible rfl | (refine congrArg D.b ?_; simp_all [wHeld, wInbox]))
            · skip
              refine SW.regT tabOk [2, 4, 6, 7, 105, 116, 117, 118, 119, 120, 121, 122, 123, 126, 127, 128, 129, 130, 131, 132, 133, 157, 158, 159, 160, 161, 162, 163, 164, 165, 166, 167, 168, 169, 170, 171, 172, 173, 174, 192, 193, 194, 195, 196, 197, 198, 199, 200, 201, 228, 229, 230, 231, 232, 233, 234, 235, 236, 237] ?_
              refine ai vc (ai trivial ?_)
              refine wk [(.t 2, .v (.e (.c (.pt 2 0)))), (.t 4, .v (.e (.c (.pt 4 0)))), (.t 6, .v (Dv (.s (wordOf rec)))), (.t 7, .v (Dv (.s (restOf rec)))), (.t 105, .v (B (wordOf rec == wHeld || wordOf rec == wInbox))), (.o 2, .box 83 [.d (.i k.id), .d (.i k.time), .d (.i k.next), .d (.sl (noteRows k.held)), .d (.sl (markRows k.marks)), .d (.sl (noteRows k.inbox))]), (.o 4, .box 83 [.d (.i 0), .d (.i 0), .d (.i 0), .nil, .nil, .nil])] [] [] (rfl) ?_ rfl rfl
              repeat' first | exact trivial | refine mL_nil rfl ?_ | refine mL_d rfl ?_ ?_ | refine mL_own rfl rfl ?_ rfl ?_ | refine mL_row rfl ?_ ?_ | refine mL_pt rfl rfl rfl rfl ?_ | refine mL_box rfl ?_ ?_ | refine mL_agg rfl ?_ ?_ | exact mCs_nil0 | refine mCs_d ?_ ?_ | refine mCs_nil ?_ | refine mCs_own rfl ?_ rfl ?_ | refine mCs_pt rfl rfl rfl ?_
              all_goals first | with_reducible rfl | (first | with_reducible rfl | (refine congrArg D.b ?_; simp_all [wHeld, wInbox]))
          · rintro s rfl
            refine SW.cond rfl (fun c105 => ?_) (fun c105 => ?_)
            · skip
              refine SW.seq ?_
              refine SW.regT tabOk [2, 4, 6, 14, 15, 116, 117, 118, 119, 120, 121, 122, 123, 126, 127, 128, 129, 130, 131, 132, 133] ?_
              refine ai trivial ?_
              refine ex_pure (s_spec_NoteRead (restOf rec) (by omega)) rfl rfl rfl rfl rfl rfl rfl rfl ?_
              refine ai trivial (ai trivial (ai trivial (ai trivial (ai ⟨by kernel_rfl, Nat.le_of_ble_eq_true (by kernel_rfl)⟩ (ai trivial ?_)))))
              refine SW.seq ?_
              refine SW.seq ?_
              refine SW.regT tabOk [2, 4, 6, 14, 134] ?_
              refine ai trivial (ai trivial (ai trivial (ai (fun h => (by first | trivial | rfl)) (ai rk (ai (fun h => vc) (ai rk (ai (fun h => (by first | trivial | rfl)) (ai rk (ai (fun h => vc) (ai rk (ai (fun h => (by first | trivial | rfl)) (ai rk (ai (fun h => vc) (ai rk ?_))))))))))))))
              refine exc_pure (fun h => (s_spec_l12Held k.held _ _ (by omega))) rfl rfl rfl rfl rfl rfl rfl rfl rk ?_
              refine ai (fun h => trivial) (ai rk (ai pk (ai trivial (ai (fun h => (by first | trivial | rfl)) (ai rk (ai (fun h => vc) (ai rk (ai (fun h => (by first | trivial | rfl)) (ai rk (ai (fun h => vc) (ai rk (ai (fun h => (by first | trivial | rfl)) (ai rk (ai (fun h => vc) (ai rk ?_)))))))))))))))
              refine exc_pure (fun h => (s_spec_l12Held k.inbox _ _ (by omega))) rfl rfl rfl rfl rfl rfl rfl rfl rk ?_
              refine ai (fun h => trivial) (ai rk (ai pk ?_))
              refine SW.cond rfl (fun c134 => ?_) (fun c134 => ?_)
              · skip
                refine SW.seq ?_
                refine SW.regT tabOk [4, 5] ?_
                refine ai vc (ai ⟨by kernel_rfl, Nat.le_of_ble_eq_true (by kernel_rfl)⟩ (ai trivial ?_))
                refine SW.ret ?_
                have hr : recDoS k rec = (k, false) := (if_neg (bn c26)).trans ((if_neg (bn c38)).trans ((if_neg (bn c71)).trans ((if_neg (bn c93)).trans ((if_pos c105).trans (if_pos c134)))))
                refine retOkP rfl rfl ?_
                rw [hr] <;> rfl
              · skip
                refine SW.skip ?_
                refine SW.seq ?_
                refine SW.seq ?_
                refine SW.regT tabOk [2, 4, 14, 137] ?_
                refine ai trivial (ai vc ?_)
                refine SW.cond rfl (fun c137 => ?_) (fun c137 => ?_)
                · skip
                  refine SW.regT tabOk [2, 4] ?_
                  refine ai (by first | trivial | rfl) (ai vc (ai vc ?_))
                  refine ex_pure (s_spec_l12PutNote k.held (readS (restOf rec)).1 hb.1) rfl rfl rfl rfl rfl rfl rfl rfl ?_
                  refine ai (by first | trivial | rfl) (ai ⟨by kernel_rfl, Nat.le_of_ble_eq_true (by kernel_rfl)⟩ ?_)
                  refine SW.seq ?_
                  refine SW.regT tabOk [4, 5] ?_
                  refine ai vc (ai ⟨by kernel_rfl, Nat.le_of_ble_eq_true (by kernel_rfl)⟩ (ai trivial ?_))
                  refine SW.ret ?_
                  first | have hr : recDoS k rec = _ := (if_neg (bn c26)).trans ((if_neg (bn c38)).trans ((if_neg (bn c71)).trans ((if_neg (bn c93)).trans ((if_pos c105).trans ((if_neg (bn c134)).trans (if_pos c137)))))) | have hr : recDoS k rec = _ := (if_neg (bn c26)).trans ((if_neg (bn c38)).trans ((if_neg (bn c71)).trans ((if_neg (bn c93)).trans ((if_pos c105).trans ((if_neg (bn c134)).trans (if_neg (bn c137)))))))
                  refine retOkP rfl rfl ?_
                  rw [hr] <;> rfl
                · skip
                  refine SW.regT tabOk [2, 4] ?_
                  refine ai (by first | trivial | rfl) (ai vc (ai vc ?_))
                  refine ex_pure (s_spec_l12PutNote k.inbox (readS (restOf rec)).1 hb.2.2) rfl rfl rfl rfl rfl rfl rfl rfl ?_
                  refine ai (by first | trivial | rfl) (ai ⟨by kernel_rfl, Nat.le_of_ble_eq_true (by kernel_rfl)⟩ ?_)
                  refine SW.seq ?_
                  refine SW.regT tabOk [4, 5] ?_
                  refine ai vc (ai ⟨by kernel_rfl, Nat.le_of_ble_eq_true (by kernel_rfl)⟩ (ai trivial ?_))
                  refine SW.ret ?_
                  first | have hr : recDoS k rec = _ := (if_neg (bn c26)).trans ((if_neg (bn c38)).trans ((if_neg (bn c71)).trans ((if_neg (bn c93)).trans ((if_pos c105).trans ((if_neg (bn c134)).trans (if_pos c137)))))) | have hr : recDoS k rec = _ := (if_neg (bn c26)).trans ((if_neg (bn c38)).trans ((if_neg (bn c71)).trans ((if_neg (bn c93)).trans ((if_pos c105).trans ((if_neg (bn c134)).trans (if_neg (bn c137)))))))
                  refine retOkP rfl rfl ?_
                  rw [hr] <;> rfl
            · skip
              refine SW.skip ?_
              refine SW.seq ?_
              refine SW.regT tabOk [2, 4, 6, 7, 16, 17, 157, 158, 159, 160, 161, 162, 163, 164, 165, 166, 167, 168, 169, 170, 171, 172, 173, 174, 192, 193, 194, 195, 196, 197, 198, 199, 200, 201, 228, 229, 230, 231, 232, 233, 234, 235, 236, 237] ?_
              refine ai trivial ?_
              refine ex_pure (s_spec_l3Nums (restOf rec) 3 (by omega) (by omega)) rfl rfl rfl rfl rfl rfl rfl rfl ?_
              refine ai trivial (ai trivial (ai trivial (ai trivial (ai trivial ?_))))
              refine SW.seq ?_
              refine SW.seq ?_
              refine SW.regD tabOk mo [2, 4, 6, 16, 175, 192, 193, 194, 195, 196, 197, 198, 199, 200, 201, 228, 229, 230, 231, 232, 233, 234, 235, 236, 237] ?_
              refine ai trivial (ai vc (ai trivial (ai (fun h => trivial) (ai rk (ai (fun h => trivial) (ai rk (ai (fun h => (by exact ixI (l := numsL 3 (restOf rec)) (by omega) (by rw [numsL_length]; omega))) (ai rk (ai (fun h => (by have := int_ld (l := numsL 3 (restOf rec)) (i := 0) (by rw [numsL_length]; omega); rw [show ((0 : Int)).toNat = ((0 : Nat) : Int).toNat from rfl, this]; exact ⟨Nat.le_of_ble_eq_true rfl, rfl⟩)) (ai rk ?_))))))))))
              refine exc_pure (fun h => s_l6DecJ (numAt (restOf rec) 0) (numAt_range _ _)) rfl rfl rfl rfl rfl (by exact args1 e0) rfl rfl rk ?_
              refine ai (fun h => (by have q0 := decI_len (numAt_range (restOf rec) 0); have q1 := decI_len (numAt_range (restOf rec) 1); have q2 := decI_len (numAt_range (restOf rec) 2); show _ ≤ 9223372036854775807; simp only [List.length_append, List.length_cons, List.length_nil]; omega)) (ai rk (ai (fun h => trivial) (ai rk (ai (fun h => (by exact ixI (l := numsL 3 (restOf rec)) (by omega) (by rw [numsL_length]; omega))) (ai rk (ai (fun h => (by have := int_ld (l := numsL 3 (restOf rec)) (i := 1) (by rw [numsL_length]; omega); rw [show ((1 : Int)).toNat = ((1 : Nat) : Int).toNat from rfl, this]; exact ⟨Nat.le_of_ble_eq_true rfl, rfl⟩)) (ai rk ?_)))))))
              refine exc_pure (fun h => s_l6DecJ (numAt (restOf rec) 1) (numAt_range _ _)) rfl rfl rfl rfl rfl (by exact args1 e1) rfl rfl rk ?_
              refine ai (fun h => (by have q0 := decI_len (numAt_range (restOf rec) 0); have q1 := decI_len (numAt_range (restOf rec) 1); have q2 := decI_len (numAt_range (restOf rec) 2); show _ ≤ 9223372036854775807; simp only [List.length_append, List.length_cons, List.length_nil]; omega)) (ai rk (ai (fun h => (by have q0 := decI_len (numAt_range (restOf rec) 0); have q1 := decI_len (numAt_range (restOf rec) 1); have q2 := decI_len (numAt_range (restOf rec) 2); show _ ≤ 9223372036854775807; simp only [List.length_append, List.length_cons, List.length_nil]; omega)) (ai rk (ai (fun h => trivial) (ai rk (ai (fun h => (by exact ixI (l := numsL 3 (restOf rec)) (by omega) (by rw [numsL_length]; omega))) (ai rk (ai (fun h => (by have := int_ld (l := numsL 3 (restOf rec)) (i := 2) (by rw [numsL_length]; omega); rw [show ((2 : Int)).toNat = ((2 : Nat) : Int).toNat from rfl, this]; exact ⟨Nat.le_of_ble_eq_true rfl, rfl⟩)) (ai rk ?_)))))))))
              refine exc_pure (fun h => s_l6DecJ (numAt (restOf rec) 2) (numAt_range _ _)) rfl rfl rfl rfl rfl (by exact args1 e2) rfl rfl rk ?_
              refine ai (fun h => (by have q0 := decI_len (numAt_range (restOf rec) 0); have q1 := decI_len (numAt_range (restOf rec) 1); have q2 := decI_len (numAt_range (restOf rec) 2); show _ ≤ 9223372036854775807; simp only [List.length_append, List.length_cons, List.length_nil]; omega)) (ai rk (ai (fun h => vc) (ai rk (ai pk (ai (by kernel_rfl) ?_)))))
              refine SW.cond rfl (fun c175 => ?_) (fun c175 => ?_)
              · skip
                refine SW.seq ?_
                refine SW.regT tabOk [4, 5] ?_
                refine ai vc (ai ⟨by kernel_rfl, Nat.le_of_ble_eq_true (by kernel_rfl)⟩ (ai trivial ?_))
                refine SW.ret ?_
                have hr : recDoS k rec = (k, false) := (if_neg (bn c26)).trans ((if_neg (bn c38)).trans ((if_neg (bn c71)).trans ((if_neg (bn c93)).trans ((if_neg (bn c105)).trans (if_pos c175)))))
                refine retOkP rfl rfl ?_
                rw [hr] <;> rfl
              · skip
                refine SW.skip ?_
                refine SW.seq ?_
                refine SW.seq ?_
                refine SW.regT tabOk [2, 4, 16, 177, 192, 193, 194, 195, 196, 197, 198, 199, 200, 201, 228, 229, 230, 231, 232, 233, 234, 235, 236, 237] ?_
                refine ai trivial ?_
                refine SW.block ?_
                refine SW.seq ?_
                refine SW.regT tabOk [2, 4, 16, 177, 178, 192, 193, 194, 195, 196, 197, 198, 199, 200, 201, 228, 229, 230, 231, 232, 233, 234, 235, 236, 237] ?_
                refine ai vc (ai trivial ?_)
                refine SW.cond rfl (fun c178 => ?_) (fun c178 => ?_)
                · skip
                  refine SW.seq ?_
                  refine SW.regD tabOk mo [2, 4, 16, 18, 192, 193, 194, 195, 196, 197, 198, 199, 200, 201] ?_
                  refine ai (by first | trivial | rfl) (ai vc (ai trivial (ai (by exact ixI (l := numsL 3 (restOf rec)) (by omega) (by rw [numsL_length]; omega)) (ai (by have := int_ld (l := numsL 3 (restOf rec)) (i := 0) (by rw [numsL_length]; omega); rw [show ((0 : Int)).toNat = ((0 : Nat) : Int).toNat from rfl, this]; exact ⟨Nat.le_of_ble_eq_true rfl, rfl⟩) (ai trivial (ai (by exact ixI (l := numsL 3 (restOf rec)) (by omega) (by rw [numsL_length]; omega)) (ai (by have := int_ld (l := numsL 3 (restOf rec)) (i := 1) (by rw [numsL_length]; omega); rw [show ((1 : Int)).toNat = ((1 : Nat) : Int).toNat from rfl, this]; exact ⟨Nat.le_of_ble_eq_true rfl, rfl⟩) ?_)))))))
                  refine ex_pure (s_spec_l12Held k.held (numAt (restOf rec) 0) (numAt (restOf rec) 1) (by omega)) rfl rfl rfl rfl rfl (by exact args12 e0 e1) rfl rfl ?_
                  refine ai trivial (ai (by kernel_rfl) ?_)
                  refine SW.seq ?_
                  refine SW.seq ?_
                  refine SW.regD tabOk mo [2, 4, 16, 202] ?_
                  refine ai trivial (ai trivial (ai trivial (ai (fun h => (by first | trivial | rfl)) (ai rk (ai (fun h => vc) (ai rk (ai (fun h => trivial) (ai rk (ai (fun h => (by have hp : 0 ≤ noteAt k.held (numAt (restOf rec) 0) (numAt (restOf rec) 1) := (by have h8 := h; simp [gb] at h8; omega); have hr := noteAt_lt k.held (numAt (restOf rec) 0) (numAt (restOf rec) 1); rw [noteRows_getD (by omega)]; exact ⟨⟨hp, by rw [noteRows_length]; omega⟩, rfl⟩)) (ai rk (ai (fun h => (by first | trivial | rfl)) (ai rk (ai (fun h => (by have hp : 0 ≤ noteAt k.held (numAt (restOf rec) 0) (numAt (restOf rec) 1) := (by have h8 := h; simp [gb] at h8; omega); have hr := noteAt_lt k.held (numAt (restOf rec) 0) (numAt (restOf rec) 1); rw [noteRows_getD (by omega)]; exact ⟨Nat.le_of_ble_eq_true rfl, rfl⟩)) (ai rk (ai (fun h => trivial) (ai rk (ai (fun h => (by exact ixI (l := numsL 3 (restOf rec)) (by omega) (by rw [numsL_length]; omega))) (ai rk (ai (fun h => (by have := int_ld (l := numsL 3 (restOf rec)) (i := 2) (by rw [numsL_length]; omega); rw [show ((2 : Int)).toNat = ((2 : Nat) : Int).toNat from rfl, this]; exact ⟨Nat.le_of_ble_eq_true rfl, rfl⟩)) (ai rk (ai (fun h => trivial) (ai rk (ai pk (ai (by kernel_rfl) ?_))))))))))))))))))))))))
                  refine SW.cond rfl (fun c202 => ?_) (fun c202 => ?_)
                  · skip
                    have hq := lt_or_ge0 (y := (k.held.getD (noteAt k.held (numAt (restOf rec) 0) (numAt (restOf rec) 1)).toNat .zero).til != (numAt (restOf rec) 2)) c202 (fun hp => by have hr := noteAt_lt k.held (numAt (restOf rec) 0) (numAt (restOf rec) 1); rw [noteRows_getD (by omega)]; exact congrArg (fun z => ((k.held.getD (noteAt k.held (numAt (restOf rec) 0) (numAt (restOf rec) 1)).toNat .zero).til != z)) e2)
                    refine SW.seq ?_
                    refine SW.regT tabOk [4, 5] ?_
                    refine ai vc (ai ⟨by kernel_rfl, Nat.le_of_ble_eq_true (by kernel_rfl)⟩ (ai trivial ?_))
                    refine SW.ret ?_
                    have hr : recDoS k rec = (k, false) := (if_neg (bn c26)).trans ((if_neg (bn c38)).trans ((if_neg (bn c71)).trans ((if_neg (bn c93)).trans ((if_neg (bn c105)).trans ((if_neg (bn c175)).trans ((if_pos c178).trans (if_pos hq)))))))
                    refine retOkP rfl rfl ?_
                    rw [hr] <;> rfl
                  · skip
                    have hq := lt_or_ge0 (y := (k.held.getD (noteAt k.held (numAt (restOf rec) 0) (numAt (restOf rec) 1)).toNat .zero).til != (numAt (restOf rec) 2)) c202 (fun hp => by have hr := noteAt_lt k.held (numAt (restOf rec) 0) (numAt (restOf rec) 1); rw [noteRows_getD (by omega)]; exact congrArg (fun z => ((k.held.getD (noteAt k.held (numAt (restOf rec) 0) (numAt (restOf rec) 1)).toNat .zero).til != z)) e2)
                    refine SW.skip ?_
                    refine SW.seq ?_
                    refine SW.regD tabOk mo [4, 5] ?_
                    refine ai vc (ai trivial (ai (by exact ixI (l := numsL 3 (restOf rec)) (by omega) (by rw [numsL_length]; omega)) (ai (by have := int_ld (l := numsL 3 (restOf rec)) (i := 0) (by rw [numsL_length]; omega); rw [show ((0 : Int)).toNat = ((0 : Nat) : Int).toNat from rfl, this]; exact ⟨Nat.le_of_ble_eq_true rfl, rfl⟩) (ai trivial (ai (by exact ixI (l := numsL 3 (restOf rec)) (by omega) (by rw [numsL_length]; omega)) (ai (by have := int_ld (l := numsL 3 (restOf rec)) (i := 1) (by rw [numsL_length]; omega); rw [show ((1 : Int)).toNat = ((1 : Nat) : Int).toNat from rfl, this]; exact ⟨Nat.le_of_ble_eq_true rfl, rfl⟩) ?_))))))
                    refine ex_pure (s_spec_l12Let k (numAt (restOf rec) 0) (numAt (restOf rec) 1) hb) rfl rfl rfl rfl rfl (by exact args12 e0 e1) rfl rfl ?_
                    refine ai trivial (ai trivial (ai ⟨by kernel_rfl, Nat.le_of_ble_eq_true (by kernel_rfl)⟩ (ai trivial (ai (by kernel_rfl) ?_))))
                    refine SW.ret ?_
                    have hr : recDoS k rec = _ := (if_neg (bn c26)).trans ((if_neg (bn c38)).trans ((if_neg (bn c71)).trans ((if_neg (bn c93)).trans ((if_neg (bn c105)).trans ((if_neg (bn c175)).trans ((if_pos c178).trans (if_neg (bn hq))))))))
                    refine retOkP rfl rfl ?_
                    rw [hr] <;> rfl
                · skip
                  refine SW.seq ?_
                  refine SW.regT tabOk [2, 4, 16, 177, 214, 228, 229, 230, 231, 232, 233, 234, 235, 236, 237] ?_
                  refine ai vc (ai trivial ?_)
                  refine SW.cond rfl (fun c214 => ?_) (fun c214 => ?_)
                  · skip
                    refine SW.seq ?_
                    refine SW.regD tabOk mo [2, 4, 16, 19, 228, 229, 230, 231, 232, 233, 234, 235, 236, 237] ?_
                    refine ai (by first | trivial | rfl) (ai vc (ai trivial (ai (by exact ixI (l := numsL 3 (restOf rec)) (by omega) (by rw [numsL_length]; omega)) (ai (by have := int_ld (l := numsL 3 (restOf rec)) (i := 0) (by rw [numsL_length]; omega); rw [show ((0 : Int)).toNat = ((0 : Nat) : Int).toNat from rfl, this]; exact ⟨Nat.le_of_ble_eq_true rfl, rfl⟩) (ai trivial (ai (by exact ixI (l := numsL 3 (restOf rec)) (by omega) (by rw [numsL_length]; omega)) (ai (by have := int_ld (l := numsL 3 (restOf rec)) (i := 1) (by rw [numsL_length]; omega); rw [show ((1 : Int)).toNat = ((1 : Nat) : Int).toNat from rfl, this]; exact ⟨Nat.le_of_ble_eq_true rfl, rfl⟩) ?_)))))))
                    refine ex_pure (s_spec_l12Held k.inbox (numAt (restOf rec) 0) (numAt (restOf rec) 1) (by omega)) rfl rfl rfl rfl rfl (by exact args12 e0 e1) rfl rfl ?_
                    refine ai trivial (ai (by kernel_rfl) ?_)
                    refine SW.seq ?_
                    refine SW.seq ?_
                    refine SW.regD tabOk mo [2, 4, 16, 238] ?_
                    refine ai trivial (ai trivial (ai trivial (ai (fun h => (by first | trivial | rfl)) (ai rk (ai (fun h => vc) (ai rk (ai (fun h => trivial) (ai rk (ai (fun h => (by have hp : 0 ≤ noteAt k.inbox (numAt (restOf rec) 0) (numAt (restOf rec) 1) := (by have h8 := h; simp [gb] at h8; omega); have hr := noteAt_lt k.inbox (numAt (restOf rec) 0) (numAt (restOf rec) 1); rw [noteRows_getD (by omega)]; exact ⟨⟨hp, by rw [noteRows_length]; omega⟩, rfl⟩)) (ai rk (ai (fun h => (by first | trivial | rfl)) (ai rk (ai (fun h => (by have hp : 0 ≤ noteAt k.inbox (numAt (restOf rec) 0) (numAt (restOf rec) 1) := (by have h8 := h; simp [gb] at h8; omega); have hr := noteAt_lt k.inbox (numAt (restOf rec) 0) (numAt (restOf rec) 1); rw [noteRows_getD (by omega)]; exact ⟨Nat.le_of_ble_eq_true rfl, rfl⟩)) (ai rk (ai (fun h => trivial) (ai rk (ai (fun h => (by exact ixI (l := numsL 3 (restOf rec)) (by omega) (by rw [numsL_length]; omega))) (ai rk (ai (fun h => (by have := int_ld (l := numsL 3 (restOf rec)) (i := 2) (by rw [numsL_length]; omega); rw [show ((2 : Int)).toNat = ((2 : Nat) : Int).toNat from rfl, this]; exact ⟨Nat.le_of_ble_eq_true rfl, rfl⟩)) (ai rk (ai (fun h => trivial) (ai rk (ai pk (ai (by kernel_rfl) ?_))))))))))))))))))))))))
                    refine SW.cond rfl (fun c238 => ?_) (fun c238 => ?_)
                    · skip
                      have hq := lt_or_ge0 (y := (k.inbox.getD (noteAt k.inbox (numAt (restOf rec) 0) (numAt (restOf rec) 1)).toNat .zero).til != (numAt (restOf rec) 2)) c238 (fun hp => by have hr := noteAt_lt k.inbox (numAt (restOf rec) 0) (numAt (restOf rec) 1); rw [noteRows_getD (by omega)]; exact congrArg (fun z => ((k.inbox.getD (noteAt k.inbox (numAt (restOf rec) 0) (numAt (restOf rec) 1)).toNat .zero).til != z)) e2)
                      refine SW.seq ?_
                      refine SW.regT tabOk [4, 5] ?_
                      refine ai vc (ai ⟨by kernel_rfl, Nat.le_of_ble_eq_true (by kernel_rfl)⟩ (ai trivial ?_))
                      refine SW.ret ?_
                      have hr : recDoS k rec = (k, false) := (if_neg (bn c26)).trans ((if_neg (bn c38)).trans ((if_neg (bn c71)).trans ((if_neg (bn c93)).trans ((if_neg (bn c105)).trans ((if_neg (bn c175)).trans ((if_neg (bn c178)).trans ((if_pos c214).trans (if_pos hq))))))))
                      refine retOkP rfl rfl ?_
                      rw [hr] <;> rfl
                    · skip
                      have hq := lt_or_ge0 (y := (k.inbox.getD (noteAt k.inbox (numAt (restOf rec) 0) (numAt (restOf rec) 1)).toNat .zero).til != (numAt (restOf rec) 2)) c238 (fun hp => by have hr := noteAt_lt k.inbox (numAt (restOf rec) 0) (numAt (restOf rec) 1); rw [noteRows_getD (by omega)]; exact congrArg (fun z => ((k.inbox.getD (noteAt k.inbox (numAt (restOf rec) 0) (numAt (restOf rec) 1)).toNat .zero).til != z)) e2)
                      refine SW.skip ?_
                      refine SW.seq ?_
                      refine SW.regD tabOk mo [4, 5] ?_
                      refine ai vc (ai trivial (ai (by exact ixI (l := numsL 3 (restOf rec)) (by omega) (by rw [numsL_length]; omega)) (ai (by have := int_ld (l := numsL 3 (restOf rec)) (i := 0) (by rw [numsL_length]; omega); rw [show ((0 : Int)).toNat = ((0 : Nat) : Int).toNat from rfl, this]; exact ⟨Nat.le_of_ble_eq_true rfl, rfl⟩) (ai trivial (ai (by exact ixI (l := numsL 3 (restOf rec)) (by omega) (by rw [numsL_length]; omega)) (ai (by have := int_ld (l := numsL 3 (restOf rec)) (i := 1) (by rw [numsL_length]; omega); rw [show ((1 : Int)).toNat = ((1 : Nat) : Int).toNat from rfl, this]; exact ⟨Nat.le_of_ble_eq_true rfl, rfl⟩) ?_))))))
                      refine ex_pure (s_spec_l12Eat k (numAt (restOf rec) 0) (numAt (restOf rec) 1) hb) rfl rfl rfl rfl rfl (by exact args12 e0 e1) rfl rfl ?_
                      refine ai trivial (ai trivial (ai ⟨by kernel_rfl, Nat.le_of_ble_eq_true (by kernel_rfl)⟩ (ai trivial (ai (by kernel_rfl) ?_))))
                      refine SW.ret ?_
                      have hr : recDoS k rec = _ := (if_neg (bn c26)).trans ((if_neg (bn c38)).trans ((if_neg (bn c71)).trans ((if_neg (bn c93)).trans ((if_neg (bn c105)).trans ((if_neg (bn c175)).trans ((if_neg (bn c178)).trans ((if_pos c214).trans (if_neg (bn hq)))))))))
                      refine retOkP rfl rfl ?_
                      rw [hr] <;> rfl
                  · skip
                    refine SW.seq ?_
                    refine SW.regT tabOk [2, 4, 16, 250] ?_
                    refine ai vc (ai trivial ?_)
                    refine SW.cond rfl (fun c250 => ?_) (fun c250 => ?_)
                    · skip
                      refine SW.seq ?_
                      refine SW.seq ?_
                      refine SW.regD tabOk mo [2, 4, 16, 261] ?_
                      refine ai (by first | trivial | rfl) (ai vc (ai trivial (ai (by exact ixI (l := numsL 3 (restOf rec)) (by omega) (by rw [numsL_length]; omega)) (ai (by have := int_ld (l := numsL 3 (restOf rec)) (i := 0) (by rw [numsL_length]; omega); rw [show ((0 : Int)).toNat = ((0 : Nat) : Int).toNat from rfl, this]; exact ⟨Nat.le_of_ble_eq_true rfl, rfl⟩) (ai trivial (ai (by exact ixI (l := numsL 3 (restOf rec)) (by omega) (by rw [numsL_length]; omega)) (ai (by have := int_ld (l := numsL 3 (restOf rec)) (i := 1) (by rw [numsL_length]; omega); rw [show ((1 : Int)).toNat = ((1 : Nat) : Int).toNat from rfl, this]; exact ⟨Nat.le_of_ble_eq_true rfl, rfl⟩) ?_)))))))
                      refine ex_pure (s_spec_l12Mark k.marks (numAt (restOf rec) 0) (numAt (restOf rec) 1) (by omega)) rfl rfl rfl rfl rfl (by exact args12 e0 e1) rfl rfl ?_
                      refine ai trivial (ai (by kernel_rfl) ?_)
                      refine SW.cond rfl (fun c261 => ?_) (fun c261 => ?_)
                      · skip
                        refine SW.seq ?_
                        refine SW.regT tabOk [4, 5] ?_
                        refine ai vc (ai ⟨by kernel_rfl, Nat.le_of_ble_eq_true (by kernel_rfl)⟩ (ai trivial ?_))
                        refine SW.ret ?_
                        have hr : recDoS k rec = (k, false) := (if_neg (bn c26)).trans ((if_neg (bn c38)).trans ((if_neg (bn c71)).trans ((if_neg (bn c93)).trans ((if_neg (bn c105)).trans ((if_neg (bn c175)).trans ((if_neg (bn c178)).trans ((if_neg (bn c214)).trans ((if_pos c250).trans (if_pos (of_decide_eq_true c261))))))))))
                        refine retOkP rfl rfl ?_
                        rw [hr] <;> rfl
                      · skip
                        refine SW.skip ?_
                        refine SW.seq ?_
                        refine SW.regD tabOk mo [2, 4] ?_
                        refine ai (by first | trivial | rfl) (ai vc (ai trivial (ai (by exact ixI (l := numsL 3 (restOf rec)) (by omega) (by rw [numsL_length]; omega)) (ai (by have := int_ld (l := numsL 3 (restOf rec)) (i := 0) (by rw [numsL_length]; omega); rw [show ((0 : Int)).toNat = ((0 : Nat) : Int).toNat from rfl, this]; exact ⟨Nat.le_of_ble_eq_true rfl, rfl⟩) (ai trivial (ai (by exact ixI (l := numsL 3 (restOf rec)) (by omega) (by rw [numsL_length]; omega)) (ai (by have := int_ld (l := numsL 3 (restOf rec)) (i := 1) (by rw [numsL_length]; omega); rw [show ((1 : Int)).toNat = ((1 : Nat) : Int).toNat from rfl, this]; exact ⟨Nat.le_of_ble_eq_true rfl, rfl⟩) (ai trivial (ai (by exact ixI (l := numsL 3 (restOf rec)) (by omega) (by rw [numsL_length]; omega)) (ai (by have := int_ld (l := numsL 3 (restOf rec)) (i := 2) (by rw [numsL_length]; omega); rw [show ((2 : Int)).toNat = ((2 : Nat) : Int).toNat from rfl, this]; exact ⟨Nat.le_of_ble_eq_true rfl, rfl⟩) (ai vc ?_)))))))))))
                        refine ex_pure (s_spec_l12PutMark k.marks ⟨(numAt (restOf rec) 0), (numAt (restOf rec) 1), (numAt (restOf rec) 2)⟩ hb.2.1) rfl rfl rfl rfl rfl (by exact args13 e0 e1 e2) rfl rfl ?_
                        refine ai (by first | trivial | rfl) (ai ⟨by kernel_rfl, Nat.le_of_ble_eq_true (by kernel_rfl)⟩ (ai (by kernel_rfl) ?_))
                        refine SW.seq ?_
                        refine SW.regT tabOk [4, 5] ?_
                        refine ai vc (ai ⟨by kernel_rfl, Nat.le_of_ble_eq_true (by kernel_rfl)⟩ (ai trivial ?_))
                        refine SW.ret ?_
                        have hr : recDoS k rec = _ := (if_neg (bn c26)).trans ((if_neg (bn c38)).trans ((if_neg (bn c71)).trans ((if_neg (bn c93)).trans ((if_neg (bn c105)).trans ((if_neg (bn c175)).trans ((if_neg (bn c178)).trans ((if_neg (bn c214)).trans ((if_pos c250).trans (if_neg (of_decide_eq_false c261))))))))))
                        refine retOkP rfl rfl ?_
                        rw [hr] <;> rfl
                    · skip
                      refine SW.skip ?_
                      refine SW.seq ?_
                      refine SW.regT tabOk [4, 5] ?_
                      refine ai vc (ai ⟨by kernel_rfl, Nat.le_of_ble_eq_true (by kernel_rfl)⟩ (ai trivial ?_))
                      refine SW.ret ?_
                      have hr : recDoS k rec = (k, false) := (if_neg (bn c26)).trans ((if_neg (bn c38)).trans ((if_neg (bn c71)).trans ((if_neg (bn c93)).trans ((if_neg (bn c105)).trans ((if_neg (bn c175)).trans ((if_neg (bn c178)).trans ((if_neg (bn c214)).trans (if_neg (bn c250)))))))))
                      refine retOkP rfl rfl ?_
                      rw [hr] <;> rfl

theorem s_spec_KeepStart (id : Int) : Ab.Spec Tryz.prog 150 1 [(.t 0, .v (I id))] [(.t 0, .v ((keepStart id).V))] := by
  refine spec_of_body tabOk Tryz.func150 rfl (by kernel_rfl) (by decide) (by kernel_rfl) rfl ?_
  refine SW.seq ?_
  refine SW.regT tabOk [0, 2] ?_
  refine ai trivial ?_
  refine SW.seq ?_
  refine SW.seq ?_
  refine SW.regT tabOk [0, 2, 5] ?_
  refine ai trivial ?_
  refine ex_pure (s_spec_l3Keeper _) rfl rfl rfl rfl rfl rfl rfl rfl ?_
  refine ai trivial ?_
  refine SW.cond rfl (fun c5 => ?_) (fun c5 => ?_)
  · skip
    have hr : keepStart id = .zero := if_neg (by simpa using c5)
    refine SW.seq ?_
    refine SW.regT tabOk [2] ?_
    refine ai vc (ai ⟨by kernel_rfl, Nat.le_of_ble_eq_true (by kernel_rfl)⟩ ?_)
    refine SW.ret ?_
    rw [hr]
    refine retOk _ [] [] rfl ?_ rfl rfl
    repeat' first | exact trivial | exact mCs_nil0 | exact mEs_nil0 | refine mL_agg rfl ?_ ?_ | refine mL_tup rfl ?_ ?_ | refine mEs_agg ?_ ?_ | refine mEs_froze rfl rfl ?_ ?_ ?_ | refine mEs_nil_d ?_ ?_ | refine mEs_d ?_ ?_ | refine mCs_froze rfl rfl ?_ ?_ ?_ | refine mCs_nil_d ?_ ?_ | refine mCs_d ?_ ?_
    all_goals (rfl)
  · skip
    have hr : keepStart id = ⟨id, 0, 1, [], [], []⟩ := if_pos (by simpa using c5)
    refine SW.skip ?_
    refine SW.seq ?_
    refine SW.regT tabOk [2] ?_
    refine ai trivial (ai vc (ai ⟨by kernel_rfl, Nat.le_of_ble_eq_true (by kernel_rfl)⟩ ?_))
    refine SW.ret ?_
    rw [hr]
    refine retOk _ [] [] rfl ?_ rfl rfl
    repeat' first | exact trivial | exact mCs_nil0 | exact mEs_nil0 | refine mL_agg rfl ?_ ?_ | refine mL_tup rfl ?_ ?_ | refine mEs_agg ?_ ?_ | refine mEs_froze rfl rfl ?_ ?_ ?_ | refine mEs_nil_d ?_ ?_ | refine mEs_d ?_ ?_ | refine mCs_froze rfl rfl ?_ ?_ ?_ | refine mCs_nil_d ?_ ?_ | refine mCs_d ?_ ?_
    all_goals (rfl)

set_option maxHeartbeats 1600000 in
theorem s_spec_KeepDo (k : KeepR) (rec : List UInt8) (hk : KB k) (hr : rec.length ≤ 900000) : Ab.Spec Tryz.prog 130 2 [(.t 0, .v (k.V)), (.t 1, .v (Dv (.s rec)))] [(.t 0, .v (.tup [.agg [.d (.i ((keepDoS k rec).1).id), .d (.i ((keepDoS k rec).1).time), .d (.i ((keepDoS k rec).1).next), .d (.sl (noteRows ((keepDoS k rec).1).held)), .d (.sl (markRows ((keepDoS k rec).1).marks)), .d (.sl (noteRows ((keepDoS k rec).1).inbox))], .c (.d (.b (keepDoS k rec).2))]))] := by
  refine spec_of_body tabOk Tryz.func130 rfl (by kernel_rfl) (by decide) (by kernel_rfl) rfl ?_
  refine SW.seq ?_
  refine SW.regT tabOk [1, 2, 4, 22, 23, 24] ?_
  refine ai trivial (ai trivial (ai trivial ?_))
  refine SW.seq ?_
  refine SW.seq ?_
  refine SW.regT tabOk [1, 2, 4, 10, 22, 23, 24] ?_
  refine ai vc ?_
  refine ex_pure (s_spec_KeepOk k hk.1 hk.2.1 hk.2.2) rfl rfl rfl rfl rfl rfl rfl rfl ?_
  refine ai trivial ?_
  refine SW.cond rfl (fun c10 => ?_) (fun c10 => ?_)
  · skip
    refine SW.seq ?_
    refine SW.regT tabOk [4, 5] ?_
    refine ai vc (ai ⟨by kernel_rfl, Nat.le_of_ble_eq_true (by kernel_rfl)⟩ (ai trivial ?_))
    refine SW.ret ?_
    have hr : keepDoS k rec = (.zero, false) := if_neg (by simpa using c10)
    rw [hr]
    refine retOk _ [] [] rfl ?_ rfl rfl
    repeat' first | exact trivial | exact mCs_nil0 | exact mEs_nil0 | refine mL_agg rfl ?_ ?_ | refine mL_tup rfl ?_ ?_ | refine mEs_agg ?_ ?_ | refine mEs_froze rfl rfl ?_ ?_ ?_ | refine mEs_nil_d ?_ ?_ | refine mEs_d ?_ ?_ | refine mCs_froze rfl rfl ?_ ?_ ?_ | refine mCs_nil_d ?_ ?_ | refine mCs_d ?_ ?_
    all_goals (rfl)
  · skip
    have hok : keepOk k = true := by simpa using c10
    refine SW.skip ?_
    refine SW.seq ?_
    refine SW.regT tabOk [2, 4, 6, 7, 22, 23, 24] ?_
    refine ai vc ?_
    refine ex_pure (s_spec_l12Copy k (by have := hk.1; omega)) rfl rfl rfl rfl rfl rfl rfl rfl ?_
    refine ai trivial ?_
    refine ex_pure (s_spec_l12Rec k rec hk.1 hr) rfl rfl rfl rfl rfl rfl rfl rfl ?_
    refine ai trivial (ai trivial (ai trivial (ai trivial (ai ⟨by kernel_rfl, Nat.le_of_ble_eq_true (by kernel_rfl)⟩ (ai trivial ?_)))))
    refine SW.seq ?_
    refine SW.seq ?_
    refine SW.regT tabOk [2, 4, 6, 25] ?_
    refine ai trivial (ai trivial (ai trivial (ai (fun h => vc) (ai rk ?_))))
    refine exc_pure (fun h => s_spec_KeepOk (recDoS k rec).1 (recDoS_KS (keepOk_six hok) (by omega)).big.1 (recDoS_KS (keepOk_six hok) (by omega)).2.1 (recDoS_KS (keepOk_six hok) (by omega)).2.2) rfl rfl rfl rfl rfl rfl rfl rfl rk ?_
    refine ai (fun h => trivial) (ai rk (ai pk ?_))
    refine SW.cond rfl (fun c25 => ?_) (fun c25 => ?_)
    · skip
      refine SW.seq ?_
      refine SW.regT tabOk [4, 5] ?_
      refine ai vc ?_
      refine ex_pure (s_spec_l12Copy k (by have := hk.1; omega)) rfl rfl rfl rfl rfl rfl rfl rfl ?_
      refine ai ⟨by kernel_rfl, Nat.le_of_ble_eq_true (by kernel_rfl)⟩ (ai trivial ?_)
      refine SW.ret ?_
      have hr : keepDoS k rec = (k, false) := (if_pos hok).trans (if_neg (by intro h; rw [Bool.and_eq_true] at h; rw [h.1, h.2] at c25; cases c25))
      rw [hr]
      refine retOk _ [] [] rfl ?_ rfl rfl
      repeat' first | exact trivial | exact mCs_nil0 | exact mEs_nil0 | refine mL_agg rfl ?_ ?_ | refine mL_tup rfl ?_ ?_ | refine mEs_agg ?_ ?_ | refine mEs_froze rfl rfl ?_ ?_ ?_ | refine mEs_nil_d ?_ ?_ | refine mEs_d ?_ ?_ | refine mCs_froze rfl rfl ?_ ?_ ?_ | refine mCs_nil_d ?_ ?_ | refine mCs_d ?_ ?_
      all_goals (rfl)
    · skip
      refine SW.skip ?_
      refine SW.seq ?_
      refine SW.regT tabOk [4, 5] ?_
      refine ai vc ?_
      refine ex_pure (s_spec_l12Copy (recDoS k rec).1 (by have := (recDoS_KS (keepOk_six hok) (show rec.length ≤ 1000000 by omega)).1; omega)) rfl rfl rfl rfl rfl rfl rfl rfl ?_
      refine ai ⟨by kernel_rfl, Nat.le_of_ble_eq_true (by kernel_rfl)⟩ (ai trivial ?_)
      refine SW.ret ?_
      have hr : keepDoS k rec = ((recDoS k rec).1, true) := (if_pos hok).trans (if_pos (by simpa using c25))
      rw [hr]
      refine retOk _ [] [] rfl ?_ rfl rfl
      repeat' first | exact trivial | exact mCs_nil0 | exact mEs_nil0 | refine mL_agg rfl ?_ ?_ | refine mL_tup rfl ?_ ?_ | refine mEs_agg ?_ ?_ | refine mEs_froze rfl rfl ?_ ?_ ?_ | refine mEs_nil_d ?_ ?_ | refine mEs_d ?_ ?_ | refine mCs_froze rfl rfl ?_ ?_ ?_ | refine mCs_nil_d ?_ ?_ | refine mCs_d ?_ ?_
      all_goals (rfl)

theorem s_keepDo (k : KeepR) (rec : List UInt8) (hk : KB k) (hr : rec.length ≤ 900000) : Ab.Spec Tryz.prog 130 2 [(.t 0, .v (k.V)), (.t 1, .v (Dv (.s rec)))] [(.t 0, .v (.tup [.agg [.d (.i ((keepDo k rec).1).id), .d (.i ((keepDo k rec).1).time), .d (.i ((keepDo k rec).1).next), .d (.sl (noteRows ((keepDo k rec).1).held)), .d (.sl (markRows ((keepDo k rec).1).marks)), .d (.sl (noteRows ((keepDo k rec).1).inbox))], .c (.d (.b (keepDo k rec).2))]))] := keepDo_eq k rec ▸ s_spec_KeepDo k rec hk hr
set_option maxHeartbeats 1600000 in
theorem s_spec_KeepOf (id : Int) (l : List (List UInt8)) (hl : l.length ≤ 900000) (hx : ∀ x ∈ l, x.length ≤ 900000) : Ab.Spec Tryz.prog 98 2 [(.t 0, .v (I id)), (.t 1, .v (Dv (.sl (strRows l))))] [(.t 0, .v (.tup [.agg [.d (.i ((keepOf id l).1).id), .d (.i ((keepOf id l).1).time), .d (.i ((keepOf id l).1).next), .d (.sl (noteRows ((keepOf id l).1).held)), .d (.sl (markRows ((keepOf id l).1).marks)), .d (.sl (noteRows ((keepOf id l).1).inbox))], .c (.d (.b (keepOf id l).2))]))] := by
  refine spec_of_body tabOk Tryz.func98 rfl (by kernel_rfl) (by decide) (by kernel_rfl) rfl ?_
  refine SW.seq ?_
  refine SW.regT tabOk [0, 1, 4] ?_
  refine ai trivial (ai trivial ?_)
  refine SW.seq ?_
  refine SW.regT tabOk [0, 1, 4, 6] ?_
  refine ai trivial ?_
  refine ex_pure (s_spec_KeepStart id) rfl rfl rfl rfl rfl rfl rfl rfl ?_
  refine ai trivial (ai ⟨by kernel_rfl, Nat.le_of_ble_eq_true (by kernel_rfl)⟩ ?_)
  refine SW.seq ?_
  refine SW.seq ?_
  refine SW.regT tabOk [1, 4, 6, 14] ?_
  refine ai trivial ?_
  refine ex_pure (s_spec_l3Keeper _) rfl rfl rfl rfl rfl rfl rfl rfl ?_
  refine ai trivial ?_
  refine SW.cond rfl (fun c14 => ?_) (fun c14 => ?_)
  · skip
    refine SW.seq ?_
    refine SW.regT tabOk [4, 5] ?_
    refine ai vc (ai ⟨by kernel_rfl, Nat.le_of_ble_eq_true (by kernel_rfl)⟩ (ai trivial ?_))
    refine SW.ret ?_
    have hr : keepOf id l = (.zero, false) := if_neg (by simpa using c14)
    have hz : keepStart id = .zero := if_neg (by simpa using c14)
    rw [hr, hz]
    refine retOk _ [] [] rfl ?_ rfl rfl
    repeat' first | exact trivial | exact mCs_nil0 | exact mEs_nil0 | refine mL_agg rfl ?_ ?_ | refine mL_tup rfl ?_ ?_ | refine mEs_agg ?_ ?_ | refine mEs_froze rfl rfl ?_ ?_ ?_ | refine mEs_nil_d ?_ ?_ | refine mEs_d ?_ ?_ | refine mCs_froze rfl rfl ?_ ?_ ?_ | refine mCs_nil_d ?_ ?_ | refine mCs_d ?_ ?_
    all_goals (rfl)
  · skip
    have hnode : isNode id = true := by simpa using c14
    refine SW.skip ?_
    refine SW.seq ?_
    refine SW.seq ?_
    refine SW.regT tabOk [1, 4, 6, 7] ?_
    refine ai trivial ?_
    refine SW.block ?_
    -- live at the head: [1, 4, 6, 7]
    refine SW.loopW (n := l.length) (fun m s => ∃ (i : Nat) (q : KeepR), m = l.length - i ∧ i ≤ l.length ∧ K6 q ∧ keepGo (keepStart id) l = keepGo q (l.drop i) ∧ s = [(.t 1, .v (Dv (.sl (strRows l)))), (.t 4, .v (.e (.c (.pt 4 0)))), (.t 6, .v (.e (.c (.pt 6 0)))), (.t 7, .v (I (i : Nat))), (.o 4, .box 83 [.d (.i 0), .d (.i 0), .d (.i 0), .nil, .nil, .nil]), (.o 6, .box 83 [.d (.i (q).id), .d (.i (q).time), .d (.i (q).next), .d (.sl (noteRows (q).held)), .d (.sl (markRows (q).marks)), .d (.sl (noteRows (q).inbox))])]) ?_ ?_
    · skip
      refine wk [(.t 1, .v (Dv (.sl (strRows l)))), (.t 4, .v (.e (.c (.pt 4 0)))), (.t 6, .v (.e (.c (.pt 6 0)))), (.t 7, .v (I (0 : Nat))), (.o 4, .box 83 [.d (.i 0), .d (.i 0), .d (.i 0), .nil, .nil, .nil]), (.o 6, .box 83 [.d (.i (keepStart id).id), .d (.i (keepStart id).time), .d (.i (keepStart id).next), .d (.sl (noteRows (keepStart id).held)), .d (.sl (markRows (keepStart id).marks)), .d (.sl (noteRows (keepStart id).inbox))])] [] [] (⟨0, keepStart id, rfl, Nat.zero_le _, keepStart_K6 id, rfl, rfl⟩) ?_ rfl rfl
      repeat' first | exact trivial | refine mL_nil rfl ?_ | refine mL_d rfl ?_ ?_ | refine mL_own rfl rfl ?_ rfl ?_ | refine mL_row rfl ?_ ?_ | refine mL_pt rfl rfl rfl rfl ?_ | refine mL_box rfl ?_ ?_ | refine mL_agg rfl ?_ ?_ | exact mCs_nil0 | refine mCs_d ?_ ?_ | refine mCs_nil ?_ | refine mCs_own rfl ?_ rfl ?_ | refine mCs_pt rfl rfl rfl ?_
      all_goals first | with_reducible rfl | (first | with_reducible rfl | rfl | (rw [strRows_length]; done))
    rintro n s ⟨i, q, rfl, hi, hq, hgo, rfl⟩
    refine SW.seq ?_
    refine SW.seq ?_
    refine SW.regT tabOk [1, 4, 6, 7, 19] ?_
    refine ai trivial (ai trivial (ai vc (ai trivial ?_)))
    refine SW.cond rfl (fun c19 => ?_) (fun c19 => ?_)
    · skip
      have hi2 : i < l.length := by simpa [strRows_length] using c19
      have hg := strRows_getD (l := l) hi2
      have hmem : l.getD i [] ∈ l := mem_getD hi2
      have es : toS (((strRows l).getD (i : Int).toNat []).getD 0 (.i 0)) = l.getD i [] := by rw [Int.toNat_natCast, hg]; rfl
      refine SW.skip ?_
      refine SW.seq ?_
      refine SW.block ?_
      refine SW.seq ?_
      refine SW.regD tabOk mo [1, 4, 6, 7, 8, 9] ?_
      refine ai vc (ai trivial (ai trivial (ai (by rw [Int.toNat_natCast, hg]; exact ⟨⟨by omega, by rw [strRows_length]; omega⟩, rfl⟩) (ai (by rw [Int.toNat_natCast, hg]; exact ⟨Nat.le_of_ble_eq_true rfl, rfl⟩) ?_))))
      refine ex_pure (s_keepDo q (l.getD i []) hq.seven.big (hx _ hmem)) rfl rfl rfl rfl rfl (by exact argsS es) rfl rfl ?_
      refine ai trivial (ai trivial (ai trivial (ai trivial (ai ⟨by kernel_rfl, Nat.le_of_ble_eq_true (by kernel_rfl)⟩ (ai trivial (ai (by kernel_rfl) ?_))))))
      refine SW.seq ?_
      refine SW.seq ?_
      refine SW.regT tabOk [1, 4, 6, 7, 8, 32] ?_
      refine ai trivial (ai trivial ?_)
      refine SW.cond rfl (fun c32 => ?_) (fun c32 => ?_)
      · skip
        have hno : (keepDo q (l.getD i [])).2 = false := by simpa using c32
        rw [List.drop_eq_getElem_cons hi2, keepGo, show l[i] = l.getD i [] by rw [List.getD_eq_getElem?_getD, List.getElem?_eq_getElem hi2]; rfl, hno] at hgo
        refine SW.seq ?_
        refine SW.regT tabOk [4, 5] ?_
        refine ai vc (ai ⟨by kernel_rfl, Nat.le_of_ble_eq_true (by kernel_rfl)⟩ (ai trivial ?_))
        refine SW.ret ?_
        have hr : keepOf id l = (.zero, false) := (if_pos hnode).trans (hgo.trans (if_neg (by simp)))
        rw [hr]
        refine retOk _ [] [] rfl ?_ rfl rfl
        repeat' first | exact trivial | exact mCs_nil0 | exact mEs_nil0 | refine mL_agg rfl ?_ ?_ | refine mL_tup rfl ?_ ?_ | refine mEs_agg ?_ ?_ | refine mEs_froze rfl rfl ?_ ?_ ?_ | refine mEs_nil_d ?_ ?_ | refine mEs_d ?_ ?_ | refine mCs_froze rfl rfl ?_ ?_ ?_ | refine mCs_nil_d ?_ ?_ | refine mCs_d ?_ ?_
        all_goals (rfl)
      · skip
        have hno : (keepDo q (l.getD i [])).2 = true := by simpa using c32
        rw [List.drop_eq_getElem_cons hi2, keepGo, show l[i] = l.getD i [] by rw [List.getD_eq_getElem?_getD, List.getElem?_eq_getElem hi2]; rfl, if_pos hno] at hgo
        refine SW.skip ?_
        refine SW.regT tabOk [1, 4, 6, 7] ?_
        refine ai vc (ai ⟨by kernel_rfl, Nat.le_of_ble_eq_true (by kernel_rfl)⟩ ?_)
        refine SW.regT tabOk [1, 4, 6, 7] ?_
        refine ai trivial (ai trivial (ai trivial ?_))
        refine wk [(.t 1, .v (Dv (.sl (strRows l)))), (.t 4, .v (.e (.c (.pt 4 0)))), (.t 6, .v (.e (.c (.pt 6 0)))), (.t 7, .v (I ((i + 1) : Nat))), (.o 4, .box 83 [.d (.i 0), .d (.i 0), .d (.i 0), .nil, .nil, .nil]), (.o 6, .box 83 [.d (.i ((keepDo q (l.getD i [])).1).id), .d (.i ((keepDo q (l.getD i [])).1).time), .d (.i ((keepDo q (l.getD i [])).1).next), .d (.sl (noteRows ((keepDo q (l.getD i [])).1).held)), .d (.sl (markRows ((keepDo q (l.getD i [])).1).marks)), .d (.sl (noteRows ((keepDo q (l.getD i [])).1).inbox))])] [] [] (⟨l.length - (i + 1), by omega, i + 1, (keepDo q (l.getD i [])).1, rfl, by omega, keepDo_K6, hgo, rfl⟩) ?_ rfl rfl
        repeat' first | exact trivial | refine mL_nil rfl ?_ | refine mL_d rfl ?_ ?_ | refine mL_own rfl rfl ?_ rfl ?_ | refine mL_row rfl ?_ ?_ | refine mL_pt rfl rfl rfl rfl ?_ | refine mL_box rfl ?_ ?_ | refine mL_agg rfl ?_ ?_ | exact mCs_nil0 | refine mCs_d ?_ ?_ | refine mCs_nil ?_ | refine mCs_own rfl ?_ rfl ?_ | refine mCs_pt rfl rfl rfl ?_
        all_goals first | with_reducible rfl | (first | with_reducible rfl | exact congrArg D.i (wrap64_of (by omega)))
    · skip
      have hi3 : i = l.length := by simp [strRows_length] at c19; omega
      subst hi3
      refine SW.exit ?_
      refine SW.seq ?_
      refine SW.regT tabOk [4, 5] ?_
      refine ai vc (ai ⟨by kernel_rfl, Nat.le_of_ble_eq_true (by kernel_rfl)⟩ (ai trivial ?_))
      refine SW.ret ?_
      have hr : keepOf id l = (q, true) := (if_pos hnode).trans (hgo.trans (by rw [List.drop_length]; rfl))
      rw [hr]
      refine retOk _ [] [] rfl ?_ rfl rfl
      repeat' first | exact trivial | exact mCs_nil0 | exact mEs_nil0 | refine mL_agg rfl ?_ ?_ | refine mL_tup rfl ?_ ?_ | refine mEs_agg ?_ ?_ | refine mEs_froze rfl rfl ?_ ?_ ?_ | refine mEs_nil_d ?_ ?_ | refine mEs_d ?_ ?_ | refine mCs_froze rfl rfl ?_ ?_ ?_ | refine mCs_nil_d ?_ ?_ | refine mCs_d ?_ ?_
      all_goals (rfl)

end Go.Proofs.YtilahgkblckndaaGreatDoor

namespace Go.Ab
open Go Go.RowKit
set_option linter.unusedVariables false
set_option linter.unusedSimpArgs false

structure MixR where
  num : Int
  data : List UInt8
  deriving DecidableEq
structure HalfR where
  frm : Int
  num : Int
  to : Int
  til : Int
  size : Int
  got : List MixR
  deriving DecidableEq
structure KeeperR where
  id : Int
  up : Bool
  log : List UInt8
  forced : Int
  halves : List HalfR
  deriving DecidableEq
def MixR.row (m : MixR) : List D := [.i m.num, .s m.data]
def mixRows (l : List MixR) : List (List D) := l.map MixR.row
def HalfR.row (h : HalfR) : List D := [.i h.frm, .i h.num, .i h.to, .i h.til, .i h.size, .sl (mixRows h.got)]
def halfRows (l : List HalfR) : List (List D) := l.map HalfR.row
abbrev MixR.V (m : MixR) : V := .e (.agg [.d (.i m.num), .d (.s m.data)])
abbrev HalfR.V (h : HalfR) : V := .e (.agg [.d (.i h.frm), .d (.i h.num), .d (.i h.to), .d (.i h.til), .d (.i h.size), .d (.sl (mixRows h.got))])
abbrev KeeperR.V (k : KeeperR) : V := .e (.agg [.d (.i k.id), .d (.b k.up), .d (.s k.log), .d (.i k.forced), .d (.sl (halfRows k.halves))])
def MixR.zero : MixR := ⟨0, []⟩
def HalfR.zero : HalfR := ⟨0, 0, 0, 0, 0, []⟩
def KeeperR.zero : KeeperR := ⟨0, false, [], 0, []⟩
theorem mixRows_length (l : List MixR) : (mixRows l).length = l.length := by simp [mixRows]
theorem halfRows_length (l : List HalfR) : (halfRows l).length = l.length := by simp [halfRows]
theorem mixRows_len2 (l : List MixR) : ∀ r ∈ mixRows l, r.length = 2 := by
  intro r hr
  obtain ⟨b, _, rfl⟩ := List.mem_map.1 hr
  rfl
theorem mixRows_getD {l : List MixR} {i : Nat} (h : i < l.length) : (mixRows l).getD i [] = (l.getD i .zero).row := by
  rw [List.getD_eq_getElem?_getD, List.getD_eq_getElem?_getD]
  simp [mixRows, h]
theorem halfRows_getD {l : List HalfR} {i : Nat} (h : i < l.length) : (halfRows l).getD i [] = (l.getD i .zero).row := by
  rw [List.getD_eq_getElem?_getD, List.getD_eq_getElem?_getD]
  simp [halfRows, h]
def mixOk (m : MixR) : Bool := inB m.num 0 999 && decide ((m.data.length : Int) = 4)
def gotStep (l : List MixR) (i : Nat) : Bool := mixOk (l.getD i .zero) && (List.range i).all fun j => !((l.getD j .zero).num == (l.getD i .zero).num)
def halfHead (h : HalfR) : Bool := isNode h.frm && isNode h.to && inB h.num 1 99 && inB h.til 1 999 && inB h.size 1 24 && decide ((h.got.length : Int) ≤ 14)
def halfOk (h : HalfR) : Bool := halfHead h && (List.range h.got.length).all (gotStep h.got)
def halfIs (l : List HalfR) (f n : Int) (i : Nat) : Bool := (l.getD i .zero).frm == f && (l.getD i .zero).num == n
def halfAt (l : List HalfR) (f n : Int) : Int := placeOf (halfIs l f n) 0 l.length
def halfStep (l : List HalfR) (i : Nat) : Bool := halfOk (l.getD i .zero) && (List.range i).all fun j => !halfIs l (l.getD i .zero).frm (l.getD i .zero).num j
def keeperHead (k : KeeperR) : Bool := isNode k.id && shelfOk k.log k.forced && decide ((k.halves.length : Int) ≤ 3) && (k.up || decide (k.halves.length = 0))
def hasOf (k : KeeperR) : KeepR × Bool := keepOf k.id (shelfRead k.log).1
def safeOf (k : KeeperR) : KeepR × Bool := keepOf k.id (shelfRead (k.log.take k.forced.toNat)).1
def keeperOk (k : KeeperR) : Bool := keeperHead k && (hasOf k).2 && (safeOf k).2 && (List.range k.halves.length).all (halfStep k.halves)

theorem shelfOk_parts {l : List UInt8} {f : Int} (h : shelfOk l f = true) : l.length ≤ 2400 ∧ (0 ≤ f ∧ f ≤ l.length) ∧ (shelfRead l).2 = l.length ∧ ((shelfRead (l.take f.toNat)).2 : Int) = f := by
  simp only [shelfOk, inB, Bool.and_eq_true, decide_eq_true_eq] at h
  exact ⟨h.1.1.1, h.1.1.2, h.1.2, h.2⟩
theorem recAt_rec {s r : List UInt8} {n : Nat} (h : recAt s = some (r, n)) : r.length ≤ s.length := by
  unfold recAt at h
  split at h
  · cases h
  · split at h
    · cases h
    · split at h
      · cases h
        rw [List.length_drop, List.length_take]; omega
      · cases h
theorem shelfRead_rec : ∀ (k : Nat) (s : List UInt8), s.length ≤ k → ∀ x ∈ (shelfRead s).1, x.length ≤ s.length
  | 0, s, h, x, hx => by
    obtain rfl : s = [] := List.eq_nil_of_length_eq_zero (by omega)
    rw [shelfRead_stop recAt_nil] at hx; cases hx
  | k + 1, s, h, x, hx => by
    cases hr : recAt s with
    | none => rw [shelfRead_stop hr] at hx; cases hx
    | some p =>
      obtain ⟨r, n⟩ := p
      have h1 := recAt_spec hr
      rw [shelfRead_step hr] at hx
      rcases List.mem_cons.1 hx with rfl | hx
      · exact recAt_rec hr
      · have := shelfRead_rec k (s.drop n) (by rw [List.length_drop]; omega) x hx
        rw [List.length_drop] at this; omega
theorem shelf_recs (s : List UInt8) (h : s.length ≤ 900000) : (shelfRead s).1.length ≤ 900000 ∧ ∀ x ∈ (shelfRead s).1, x.length ≤ 900000 :=
  ⟨by have := (shelfRead_le s.length s (Nat.le_refl _)).2; omega, fun x hx => by have := shelfRead_rec s.length s (Nat.le_refl _) x hx; omega⟩
theorem halfHead_parts {h : HalfR} (hh : halfHead h = true) : isNode h.frm = true ∧ isNode h.to = true ∧ (1 ≤ h.num ∧ h.num ≤ 99) ∧ (1 ≤ h.til ∧ h.til ≤ 999) ∧ (1 ≤ h.size ∧ h.size ≤ 24) ∧ h.got.length ≤ 14 := by
  simp only [halfHead, inB, Bool.and_eq_true, decide_eq_true_eq] at hh
  obtain ⟨⟨⟨⟨⟨h1, h2⟩, h3⟩, h4⟩, h5⟩, h6⟩ := hh
  exact ⟨h1, h2, h3, h4, h5, by omega⟩
theorem keeperHead_parts {k : KeeperR} (h : keeperHead k = true) : isNode k.id = true ∧ shelfOk k.log k.forced = true ∧ k.halves.length ≤ 3 ∧ (k.up = true ∨ k.halves.length = 0) := by
  simp only [keeperHead, Bool.and_eq_true, Bool.or_eq_true, decide_eq_true_eq] at h
  obtain ⟨⟨⟨h1, h2⟩, h3⟩, h4⟩ := h
  exact ⟨h1, h2, by omega, h4⟩
theorem gotStep_yes {l : List MixR} {i : Nat} (h1 : mixOk (l.getD i .zero) = true) (h2 : ∀ j, j < i → ((l.getD j .zero).num == (l.getD i .zero).num) = false) : gotStep l i = true := by
  unfold gotStep
  rw [h1, Bool.true_and]
  exact all_true fun j hj => by rw [h2 j hj]; rfl
theorem gotStep_bad {l : List MixR} {i : Nat} (h1 : mixOk (l.getD i .zero) = false) : gotStep l i = false := by
  unfold gotStep; rw [h1]; rfl
theorem gotStep_no {l : List MixR} {i j : Nat} (hj : j < i) (h2 : ((l.getD j .zero).num == (l.getD i .zero).num) = true) : gotStep l i = false := by
  unfold gotStep
  rw [all_false hj (by rw [h2]; rfl), Bool.and_false]
theorem halfStep_yes {l : List HalfR} {i : Nat} (h1 : halfOk (l.getD i .zero) = true) (h2 : ∀ j, j < i → halfIs l (l.getD i .zero).frm (l.getD i .zero).num j = false) : halfStep l i = true := by
  unfold halfStep
  rw [h1, Bool.true_and]
  exact all_true fun j hj => by rw [h2 j hj]; rfl
theorem halfStep_bad {l : List HalfR} {i : Nat} (h1 : halfOk (l.getD i .zero) = false) : halfStep l i = false := by
  unfold halfStep; rw [h1]; rfl
theorem halfStep_no {l : List HalfR} {i j : Nat} (hj : j < i) (h2 : halfIs l (l.getD i .zero).frm (l.getD i .zero).num j = true) : halfStep l i = false := by
  unfold halfStep
  rw [all_false hj (by rw [h2]; rfl), Bool.and_false]
theorem half_first {l : List HalfR} {i : Nat} (hi : i < l.length) : (decide (halfAt l (l.getD i .zero).frm (l.getD i .zero).num < (i : Int))) = !((List.range i).all fun j => !halfIs l (l.getD i .zero).frm (l.getD i .zero).num j) := by
  have hself : halfIs l (l.getD i .zero).frm (l.getD i .zero).num i = true := by simp [halfIs]
  by_cases h : ∃ j, j < i ∧ halfIs l (l.getD i .zero).frm (l.getD i .zero).num j = true
  · obtain ⟨j, hj, hji⟩ := h
    rw [all_false hj (by rw [hji]; rfl)]
    rcases placeOf_range (halfIs l (l.getD i .zero).frm (l.getD i .zero).num) l.length 0 with h1 | ⟨k, h1, _, h2, h3, h4⟩
    · exact decide_eq_true (by rw [halfAt, h1]; omega)
    · refine decide_eq_true ?_
      rw [halfAt, h1]
      by_cases hk : k < i
      · omega
      · have := h4 j (Nat.zero_le _) (by omega)
        rw [hji] at this; cases this
  · have h0 : ∀ j, j < i → halfIs l (l.getD i .zero).frm (l.getD i .zero).num j = false := fun j hj => by
      cases hh : halfIs l (l.getD i .zero).frm (l.getD i .zero).num j with
      | false => rfl
      | true => exact absurd ⟨j, hj, hh⟩ h
    rw [all_true (fun j hj => by rw [h0 j hj]; rfl), halfAt, placeOf_hit (Nat.zero_le _) (by omega) (fun j _ hj => h0 j hj) hself]
    simp
theorem gt_le (a b : Int) : decide (a > b) = !decide (a ≤ b) := by
  by_cases h : a ≤ b
  · simp [h, Int.not_lt.2 h]
  · simp [h, Int.not_le.1 h]
theorem mixC {a : Bool} {n : Int} (h : (!a || n != 4) = true) : (!a || !decide (n = 4)) = true := by
  have e : (n != 4) = !decide (n = 4) := by by_cases h : n = 4 <;> simp [h]
  rw [← e]; exact h
theorem mixC2 {a : Bool} {n : Int} (h : (!a || n != 4) = false) : (a && decide (n = 4)) = true := by
  have e : (n != 4) = !decide (n = 4) := by by_cases h : n = 4 <;> simp [h]
  rw [e] at h
  cases a <;> simp_all
theorem halfStep_gen {l : List HalfR} {i : Nat} {c : Bool} (hi : i < l.length) (h : (!halfOk (l.getD i .zero) || decide (halfAt l (l.getD i .zero).frm (l.getD i .zero).num < (i : Int))) = c) : halfStep l i = !c := by
  subst h
  rw [half_first hi, halfStep, Bool.not_or, Bool.not_not, Bool.not_not]
theorem keeperOk_head {k : KeeperR} (h : keeperHead k = false) : keeperOk k = false := by rw [keeperOk, h]; rfl
theorem keeperOk_no {k : KeeperR} {a b : Bool} (h : (!a || !b) = true) (h2 : ((hasOf k).2 = a ∧ (safeOf k).2 = b) ∨ ((hasOf k).2 = b ∧ (safeOf k).2 = a)) : keeperOk k = false := by
  unfold keeperOk
  rcases h2 with ⟨h1, h2⟩ | ⟨h1, h2⟩ <;> rw [h1, h2] <;> cases a <;> cases b <;> simp_all
theorem keeperOk_yes {k : KeeperR} {a b : Bool} (hh : keeperHead k = true) (h : (!a || !b) = false) (h2 : ((hasOf k).2 = a ∧ (safeOf k).2 = b) ∨ ((hasOf k).2 = b ∧ (safeOf k).2 = a)) : keeperOk k = (List.range k.halves.length).all (halfStep k.halves) := by
  unfold keeperOk
  rcases h2 with ⟨h1, h2⟩ | ⟨h1, h2⟩ <;> rw [h1, h2, hh] <;> cases a <;> cases b <;> simp_all
theorem half_gen {h : HalfR} {c : Bool} (hh : (!isNode h.frm || !isNode h.to || !inB h.num 1 99 || !inB h.til 1 999 || !inB h.size 1 24 || decide (((mixRows h.got).length : Int) > 14)) = c) : halfHead h = !c := by
  subst hh
  rw [mixRows_length, gt_le]
  unfold halfHead
  simp only [Bool.not_or, Bool.not_not]
theorem keeper_gen {k : KeeperR} {c : Bool} (hh : (!isNode k.id || !shelfOk k.log k.forced || decide (((halfRows k.halves).length : Int) > 3) || (!k.up && decide (((halfRows k.halves).length : Int) > 0))) = c) : keeperHead k = !c := by
  subst hh
  have e : decide ((k.halves.length : Int) > 0) = !decide (k.halves.length = 0) := by
    by_cases h : k.halves.length = 0
    · rw [h]; rfl
    · rw [decide_eq_true (show (k.halves.length : Int) > 0 by omega), decide_eq_false h]; rfl
  rw [halfRows_length, gt_le, e]
  unfold keeperHead
  simp only [Bool.not_or, Bool.not_not, Bool.not_and]
theorem shelfOk_no {l : List UInt8} {f : Int} (h : (decide ((l.length : Int) > 2400) || !inB f 0 l.length) = true) : shelfOk l f = false := by
  unfold shelfOk
  rcases Bool.or_eq_true _ _ ▸ h with h | h
  · rw [decide_eq_false (show ¬ l.length ≤ 2400 by have := of_decide_eq_true h; omega)]; rfl
  · rw [Bool.not_eq_true'] at h
    rw [h]; simp
theorem shelfOk_yes {l : List UInt8} {f : Int} (h : (decide ((l.length : Int) > 2400) || !inB f 0 l.length) = false) : (l.length ≤ 2400 ∧ 0 ≤ f ∧ f ≤ l.length) ∧ shelfOk l f = (((shelfRead l).2 : Int) == (l.length : Int) && ((shelfRead (l.take f.toNat)).2 : Int) == f) := by
  rw [Bool.or_eq_false_iff] at h
  have h1 : l.length ≤ 2400 := by have := of_decide_eq_false h.1; omega
  have h2 : inB f 0 l.length = true := by simpa using h.2
  have h3 : 0 ≤ f ∧ f ≤ l.length := by simpa [inB] using h2
  refine ⟨⟨h1, h3⟩, ?_⟩
  unfold shelfOk
  rw [decide_eq_true h1, h2, Bool.true_and, Bool.true_and]
  congr 1
  by_cases e : (shelfRead l).2 = l.length
  · rw [e]; simp
  · rw [decide_eq_false e]
    symm
    rw [beq_eq_false_iff_ne]
    omega
end Go.Ab

namespace Go.Proofs.YtilahgkblckndaaGreatDoor
open Go Go.Ab Go.RowKit
set_option linter.unusedVariables false
set_option linter.unusedSimpArgs false

theorem s_impl_ShelfReadF (s : List UInt8) (hl : s.length ≤ 1000000) : Ab.Spec Tryz.prog 155 1 [(.t 0, .v (Dv (.s s)))] [(.t 0, .v (.tup [.c (.d (.sl (strRows (shelfRead s).1))), .c (.d (.i ((shelfRead s).2 : Nat)))]))] := by
  refine Spec.told (rl := []) (bor := [0]) (s_impl_ShelfRead s hl) ?_ rfl rfl
  repeat' first | exact trivial | exact mCs_nil0 | exact mEs_nil0 | refine mL_agg rfl ?_ ?_ | refine mL_tup rfl ?_ ?_ | refine mEs_agg ?_ ?_ | refine mEs_froze rfl rfl ?_ rfl ?_ | refine mEs_nil_d ?_ ?_ | refine mEs_d ?_ ?_ | refine mCs_froze rfl rfl ?_ ?_ ?_ | refine mCs_nil_d ?_ ?_ | refine mCs_d ?_ ?_
  all_goals first | rfl | exact strRows_length _
theorem s_spec_ShelfReadF (s : List UInt8) (hl : s.length ≤ 1000000) : Ab.Spec Tryz.prog 97 1 [(.t 0, .v (Dv (.s s)))] [(.t 0, .v (.tup [.c (.d (.sl (strRows (shelfRead s).1))), .c (.d (.i ((shelfRead s).2 : Nat)))]))] := by
  refine Spec.told (rl := []) (bor := [0]) (s_spec_ShelfRead s hl) ?_ rfl rfl
  repeat' first | exact trivial | exact mCs_nil0 | exact mEs_nil0 | refine mL_agg rfl ?_ ?_ | refine mL_tup rfl ?_ ?_ | refine mEs_agg ?_ ?_ | refine mEs_froze rfl rfl ?_ rfl ?_ | refine mEs_nil_d ?_ ?_ | refine mEs_d ?_ ?_ | refine mCs_froze rfl rfl ?_ ?_ ?_ | refine mCs_nil_d ?_ ?_ | refine mCs_d ?_ ?_
  all_goals first | rfl | exact strRows_length _
theorem s_impl_ShelfOk (l : List UInt8) (f : Int) (hl : l.length ≤ 140737488355328) : Ab.Spec Tryz.prog 105 1 [(.t 0, .v (.e (.agg [.d (.s l), .d (.i f)])))] [(.t 0, .v (B (shelfOk l f)))] := by
  refine spec_of_body tabOk Tryz.func105 rfl (by kernel_rfl) (by decide) (by kernel_rfl) rfl ?_
  refine SW.seq ?_
  refine SW.regT tabOk [1, 12, 13, 14, 15, 16, 17, 18, 41, 42, 43, 44] ?_
  refine ai trivial (ai trivial ?_)
  refine SW.seq ?_
  refine SW.seq ?_
  refine SW.regT tabOk [1, 19, 41, 42, 43, 44] ?_
  refine ai (by first | trivial | rfl) (ai vc (ai vc (ai trivial (ai trivial (ai (fun h => (by first | trivial | rfl)) (ai rk (ai (fun h => vc) (ai rk (ai (fun h => (by first | trivial | rfl)) (ai rk (ai (fun h => vc) (ai rk (ai (fun h => vc) (ai rk ?_))))))))))))))
  refine exc_pure (fun h => (s_impl_in _ _ _)) rfl rfl rfl rfl rfl rfl rfl rfl rk ?_
  refine ai (fun h => trivial) (ai rk (ai pk ?_))
  refine SW.cond rfl (fun c19 => ?_) (fun c19 => ?_)
  · skip
    refine SW.seq ?_
    refine SW.regT tabOk [2] ?_
    refine ai trivial ?_
    refine SW.ret ?_
    refine retOk1 rfl (congrArg D.b ?_)
    exact (shelfOk_no c19).symm
  · skip
    obtain ⟨⟨h1, h2, h3⟩, hs⟩ := shelfOk_yes c19
    refine SW.skip ?_
    refine SW.seq ?_
    refine SW.regT tabOk [1, 4, 41, 42, 43, 44] ?_
    refine ai (by first | trivial | rfl) (ai vc ?_)
    refine ex_pure (s_impl_ShelfReadF l (by omega)) rfl rfl rfl rfl rfl rfl rfl rfl ?_
    refine ai trivial (ai trivial (ai trivial (ai trivial (ai trivial ?_))))
    refine SW.seq ?_
    refine SW.regT tabOk [1, 4, 6, 41, 42, 43, 44] ?_
    refine ai (by first | trivial | rfl) (ai vc (ai (by first | trivial | rfl) (ai vc (ai (by exact ⟨by simp, by simpa using h2, by simpa using h3⟩) ?_))))
    refine ex_pure (s_impl_ShelfReadF (l.take f.toNat) (by rw [List.length_take]; omega)) rfl rfl rfl rfl rfl rfl rfl rfl ?_
    refine ai trivial (ai trivial (ai trivial (ai trivial (ai trivial ?_))))
    refine SW.seq ?_
    refine SW.regT tabOk [2] ?_
    refine ai trivial (ai (by first | trivial | rfl) (ai vc (ai vc (ai trivial (ai trivial (ai (fun h => trivial) (ai rk (ai (fun h => (by first | trivial | rfl)) (ai rk (ai (fun h => vc) (ai rk (ai (fun h => trivial) (ai rk (ai pk (ai trivial ?_)))))))))))))))
    refine SW.ret ?_
    refine retOk1 rfl (congrArg D.b ?_)
    exact hs.symm

theorem s_spec_ShelfOk (l : List UInt8) (f : Int) (hl : l.length ≤ 140737488355328) : Ab.Spec Tryz.prog 96 1 [(.t 0, .v (.e (.agg [.d (.s l), .d (.i f)])))] [(.t 0, .v (B (shelfOk l f)))] := by
  refine spec_of_body tabOk Tryz.func96 rfl (by kernel_rfl) (by decide) (by kernel_rfl) rfl ?_
  refine SW.seq ?_
  refine SW.regT tabOk [1, 12, 13, 14, 15, 16, 17, 18, 41, 42, 43, 44] ?_
  refine ai trivial (ai trivial ?_)
  refine SW.seq ?_
  refine SW.seq ?_
  refine SW.regT tabOk [1, 19, 41, 42, 43, 44] ?_
  refine ai (by first | trivial | rfl) (ai vc (ai vc (ai trivial (ai trivial (ai (fun h => (by first | trivial | rfl)) (ai rk (ai (fun h => vc) (ai rk (ai (fun h => (by first | trivial | rfl)) (ai rk (ai (fun h => vc) (ai rk (ai (fun h => vc) (ai rk ?_))))))))))))))
  refine exc_pure (fun h => (s_spec_l6In _ _ _)) rfl rfl rfl rfl rfl rfl rfl rfl rk ?_
  refine ai (fun h => trivial) (ai rk (ai pk ?_))
  refine SW.cond rfl (fun c19 => ?_) (fun c19 => ?_)
  · skip
    refine SW.seq ?_
    refine SW.regT tabOk [2] ?_
    refine ai trivial ?_
    refine SW.ret ?_
    refine retOk1 rfl (congrArg D.b ?_)
    exact (shelfOk_no c19).symm
  · skip
    obtain ⟨⟨h1, h2, h3⟩, hs⟩ := shelfOk_yes c19
    refine SW.skip ?_
    refine SW.seq ?_
    refine SW.regT tabOk [1, 4, 41, 42, 43, 44] ?_
    refine ai (by first | trivial | rfl) (ai vc ?_)
    refine ex_pure (s_spec_ShelfReadF l (by omega)) rfl rfl rfl rfl rfl rfl rfl rfl ?_
    refine ai trivial (ai trivial (ai trivial (ai trivial (ai trivial ?_))))
    refine SW.seq ?_
    refine SW.regT tabOk [1, 4, 6, 41, 42, 43, 44] ?_
    refine ai (by first | trivial | rfl) (ai vc (ai (by first | trivial | rfl) (ai vc (ai (by exact ⟨by simp, by simpa using h2, by simpa using h3⟩) ?_))))
    refine ex_pure (s_spec_ShelfReadF (l.take f.toNat) (by rw [List.length_take]; omega)) rfl rfl rfl rfl rfl rfl rfl rfl ?_
    refine ai trivial (ai trivial (ai trivial (ai trivial (ai trivial ?_))))
    refine SW.seq ?_
    refine SW.regT tabOk [2] ?_
    refine ai trivial (ai (by first | trivial | rfl) (ai vc (ai vc (ai trivial (ai trivial (ai (fun h => trivial) (ai rk (ai (fun h => (by first | trivial | rfl)) (ai rk (ai (fun h => vc) (ai rk (ai (fun h => trivial) (ai rk (ai pk (ai trivial ?_)))))))))))))))
    refine SW.ret ?_
    refine retOk1 rfl (congrArg D.b ?_)
    exact hs.symm

set_option maxHeartbeats 800000 in
theorem s_impl_stateOf (id : Int) (s : List UInt8) (hl : s.length ≤ 900000) : Ab.Spec Tryz.prog 106 2 [(.t 0, .v (I id)), (.t 1, .v (Dv (.s s)))] [(.t 0, .v (.tup [.agg [.d (.i ((keepOf id (shelfRead s).1).1).id), .d (.i ((keepOf id (shelfRead s).1).1).time), .d (.i ((keepOf id (shelfRead s).1).1).next), .d (.sl (noteRows ((keepOf id (shelfRead s).1).1).held)), .d (.sl (markRows ((keepOf id (shelfRead s).1).1).marks)), .d (.sl (noteRows ((keepOf id (shelfRead s).1).1).inbox))], .c (.d (.b (keepOf id (shelfRead s).1).2))]))] := by
  refine spec_of_body tabOk Tryz.func106 rfl (by kernel_rfl) (by decide) (by kernel_rfl) rfl ?_
  refine SW.seq ?_
  refine SW.regT tabOk [0, 1, 4] ?_
  refine ai trivial (ai trivial ?_)
  refine SW.seq ?_
  refine SW.regT tabOk [0, 4, 6] ?_
  refine ai trivial ?_
  refine ex_pure (s_impl_ShelfReadF s (by omega)) rfl rfl rfl rfl rfl rfl rfl rfl ?_
  refine ai trivial (ai trivial (ai trivial (ai trivial (ai trivial ?_))))
  refine SW.seq ?_
  refine SW.regT tabOk [4, 5] ?_
  refine ai trivial (ai trivial ?_)
  refine ex_pure (s_impl_KeepOf id (shelfRead s).1 (shelf_recs s hl).1 (shelf_recs s hl).2) rfl rfl rfl rfl rfl rfl rfl rfl ?_
  refine ai trivial (ai trivial (ai ⟨by kernel_rfl, Nat.le_of_ble_eq_true (by kernel_rfl)⟩ (ai trivial ?_)))
  refine SW.ret ?_
  exact retOkP rfl rfl rfl

set_option maxHeartbeats 800000 in
theorem s_spec_l22Has (k : KeeperR) (hl : k.log.length ≤ 900000) : Ab.Spec Tryz.prog 42 1 [(.t 0, .v (k.V))] [(.t 0, .v (.tup [.agg [.d (.i ((hasOf k).1).id), .d (.i ((hasOf k).1).time), .d (.i ((hasOf k).1).next), .d (.sl (noteRows ((hasOf k).1).held)), .d (.sl (markRows ((hasOf k).1).marks)), .d (.sl (noteRows ((hasOf k).1).inbox))], .c (.d (.b (hasOf k).2))]))] := by
  refine spec_of_body tabOk Tryz.func42 rfl (by kernel_rfl) (by decide) (by kernel_rfl) rfl ?_
  refine SW.seq ?_
  refine SW.regT tabOk [1, 2] ?_
  refine ai trivial (ai trivial (ai trivial ?_))
  refine SW.seq ?_
  refine SW.regT tabOk [1, 2, 4] ?_
  refine ai (by first | trivial | rfl) (ai (by first | trivial | rfl) (ai vc ?_))
  refine ex_pure (s_spec_ShelfReadF k.log (by omega)) rfl rfl rfl rfl rfl rfl rfl rfl ?_
  refine ai trivial (ai trivial (ai trivial (ai trivial (ai trivial ?_))))
  refine SW.seq ?_
  refine SW.regT tabOk [2, 3] ?_
  refine ai (by first | trivial | rfl) (ai vc (ai trivial ?_))
  refine ex_pure (s_spec_KeepOf k.id (shelfRead k.log).1 (shelf_recs k.log hl).1 (shelf_recs k.log hl).2) rfl rfl rfl rfl rfl rfl rfl rfl ?_
  refine ai trivial (ai trivial (ai ⟨by kernel_rfl, Nat.le_of_ble_eq_true (by kernel_rfl)⟩ (ai trivial ?_)))
  refine SW.ret ?_
  exact retOkP rfl rfl rfl

theorem s_spec_l1Ok (b n : Int) : Ab.Spec Tryz.prog 137 2 [(.t 0, .v (I b)), (.t 1, .v (I n))] [(.t 0, .v (B (l1Ok b n)))] := by
  refine spec_of_body tabOk Tryz.func137 rfl (by kernel_rfl) (by decide) (by kernel_rfl) rfl ?_
  refine SW.seq ?_
  refine SW.regT tabOk [0, 1, 8, 9] ?_
  refine ai trivial ?_
  refine SW.seq ?_
  refine SW.regT tabOk [4] ?_
  refine ai trivial ?_
  refine ex_pure (s_spec_l6In _ _ _) rfl rfl rfl rfl rfl rfl rfl rfl ?_
  refine ai trivial (ai (fun h => trivial) (ai rk ?_))
  refine exc_pure (fun h => (s_spec_l6In _ _ _)) rfl rfl rfl rfl rfl rfl rfl rfl rk ?_
  refine ai pk (ai trivial ?_)
  refine SW.ret ?_
  refine retOk1 rfl ?_
  rfl

theorem s_spec_l2Blocks (n : Int) (hn : 0 ≤ n ∧ n ≤ 140737488355328) : Ab.Spec Tryz.prog 138 1 [(.t 0, .v (I n))] [(.t 0, .v (I ((n + 3) / 4)))] := by
  refine spec_of_body tabOk Tryz.func138 rfl (by kernel_rfl) (by decide) (by kernel_rfl) rfl ?_
  refine SW.seq ?_
  refine SW.regT tabOk [0] ?_
  refine ai trivial ?_
  refine SW.seq ?_
  refine SW.regT tabOk [2] ?_
  refine ai trivial (ai trivial (ai trivial (ai (by decide) (ai trivial ?_))))
  refine SW.ret ?_
  refine retOk1 rfl (congrArg D.i ?_)
  rw [wrap64_of (n := n + 4) (by omega), wrap64_of (n := n + 4 - 1) (by omega), Int.tdiv_eq_ediv_of_nonneg (by omega), wrap64_of (by omega)]
  omega

theorem s_spec_l2Mixed (b : Int) (m : MixR) : Ab.Spec Tryz.prog 151 2 [(.t 0, .v (I b)), (.t 1, .v (m.V))] [(.t 0, .v (B (l1Ok b m.num && decide ((m.data.length : Int) = 4))))] := by
  refine spec_of_body tabOk Tryz.func151 rfl (by kernel_rfl) (by decide) (by kernel_rfl) rfl ?_
  refine SW.seq ?_
  refine SW.regT tabOk [0, 3, 10, 11, 12, 13] ?_
  refine ai trivial (ai trivial ?_)
  refine SW.seq ?_
  refine SW.regT tabOk [4] ?_
  refine ai trivial (ai (by first | trivial | rfl) (ai vc ?_))
  refine ex_pure (s_spec_l1Ok _ _) rfl rfl rfl rfl rfl rfl rfl rfl ?_
  refine ai trivial (ai (fun h => (by first | trivial | rfl)) (ai rk (ai (fun h => vc) (ai rk (ai (fun h => vc) (ai rk (ai (fun h => trivial) (ai rk (ai pk (ai trivial ?_))))))))))
  refine SW.ret ?_
  refine retOk1 rfl (congrArg D.b ?_)
  show (_ && _) = _
  congr 1

set_option maxHeartbeats 1600000 in
theorem s_impl_halfOk (h : HalfR) : Ab.Spec Tryz.prog 107 1 [(.t 0, .v (h.V))] [(.t 0, .v (B (halfOk h)))] := by
  refine spec_of_body tabOk Tryz.func107 rfl (by kernel_rfl) (by decide) (by kernel_rfl) rfl ?_
  refine SW.seq ?_
  refine SW.regT tabOk [1, 12, 13, 14, 15, 18, 19, 20, 21, 24, 25, 26, 27, 30, 31, 32, 33, 36, 37, 38, 39, 54, 55, 56, 57] ?_
  refine ai trivial (ai trivial ?_)
  refine SW.seq ?_
  refine SW.seq ?_
  refine SW.regT tabOk [1, 40, 54, 55, 56, 57] ?_
  refine ai (by first | trivial | rfl) (ai vc ?_)
  refine ex_pure (s_impl_isNode _) rfl rfl rfl rfl rfl rfl rfl rfl ?_
  refine ai trivial (ai trivial (ai (fun h => (by first | trivial | rfl)) (ai rk (ai (fun h => vc) (ai rk ?_)))))
  refine exc_pure (fun h => (s_impl_isNode _)) rfl rfl rfl rfl rfl rfl rfl rfl rk ?_
  refine ai (fun h => trivial) (ai rk (ai pk (ai trivial (ai (fun h => (by first | trivial | rfl)) (ai rk (ai (fun h => vc) (ai rk ?_)))))))
  refine exc_pure (fun h => (s_impl_in _ _ _)) rfl rfl rfl rfl rfl rfl rfl rfl rk ?_
  refine ai (fun h => trivial) (ai rk (ai pk (ai trivial (ai (fun h => (by first | trivial | rfl)) (ai rk (ai (fun h => vc) (ai rk ?_)))))))
  refine exc_pure (fun h => (s_impl_in _ _ _)) rfl rfl rfl rfl rfl rfl rfl rfl rk ?_
  refine ai (fun h => trivial) (ai rk (ai pk (ai trivial (ai (fun h => (by first | trivial | rfl)) (ai rk (ai (fun h => vc) (ai rk ?_)))))))
  refine exc_pure (fun h => (s_impl_in _ _ _)) rfl rfl rfl rfl rfl rfl rfl rfl rk ?_
  refine ai (fun h => trivial) (ai rk (ai pk (ai trivial (ai (fun h => (by first | trivial | rfl)) (ai rk (ai (fun h => vc) (ai rk (ai (fun h => vc) (ai rk (ai (fun h => trivial) (ai rk (ai pk ?_))))))))))))
  refine SW.cond rfl (fun c40 => ?_) (fun c40 => ?_)
  · skip
    have hh := half_gen c40
    refine SW.seq ?_
    refine SW.regT tabOk [2] ?_
    refine ai trivial ?_
    refine SW.ret ?_
    refine retOk1 rfl (congrArg D.b ?_)
    rw [halfOk, hh]; rfl
  · skip
    have hh := half_gen c40
    obtain ⟨p1, p2, p3, p4, p5, p6⟩ := halfHead_parts hh
    refine SW.skip ?_
    refine SW.seq ?_
    refine SW.seq ?_
    refine SW.regT tabOk [1, 42, 43, 44, 54, 55, 56, 57] ?_
    refine ai (by first | trivial | rfl) (ai vc (ai vc (ai trivial ?_)))
    refine SW.block ?_
    -- live at the head: [1, 42, 43, 44, 54, 55, 56, 57]
    refine SW.loopW (n := h.got.length) (fun m q => ∃ i : Nat, m = h.got.length - i ∧ i ≤ h.got.length ∧ (∀ k, k < i → gotStep h.got k = true) ∧ q = [(.t 1, .v (.e (.c (.pt 1 0)))), (.t 42, .v (Dv (.sl (mixRows h.got)))), (.t 43, .v (I (h.got.length : Nat))), (.t 44, .v (I (i : Nat))), (.o 1, .box 136 [.d (.i (h).frm), .d (.i (h).num), .d (.i (h).to), .d (.i (h).til), .d (.i (h).size), .d (.sl (mixRows (h).got))])]) ?_ ?_
    · skip
      refine wk [(.t 1, .v (.e (.c (.pt 1 0)))), (.t 42, .v (Dv (.sl (mixRows h.got)))), (.t 43, .v (I (h.got.length : Nat))), (.t 44, .v (I (0 : Nat))), (.o 1, .box 136 [.d (.i (h).frm), .d (.i (h).num), .d (.i (h).to), .d (.i (h).til), .d (.i (h).size), .d (.sl (mixRows (h).got))])] [] [] (⟨0, rfl, Nat.zero_le _, fun k h => absurd h (by omega), rfl⟩) ?_ rfl rfl
      repeat' first | exact trivial | refine mL_nil rfl ?_ | refine mL_d rfl ?_ ?_ | refine mL_own rfl rfl ?_ rfl ?_ | refine mL_row rfl ?_ ?_ | refine mL_pt rfl rfl rfl rfl ?_ | refine mL_box rfl ?_ ?_ | refine mL_agg rfl ?_ ?_ | exact mCs_nil0 | refine mCs_d ?_ ?_ | refine mCs_nil ?_ | refine mCs_own rfl ?_ rfl ?_ | refine mCs_pt rfl rfl rfl ?_
      all_goals first | with_reducible rfl | (first | with_reducible rfl | rfl | (rw [mixRows_length]; done))
    rintro n s ⟨i, rfl, hi, hk, rfl⟩
    refine SW.seq ?_
    refine SW.regT tabOk [1, 42, 43, 44, 45, 54, 55, 56, 57] ?_
    refine ai trivial ?_
    refine SW.seq ?_
    refine SW.cond rfl (fun c45 => ?_) (fun c45 => ?_)
    · skip
      have hi2 : i < h.got.length := by simpa using c45
      have hg := mixRows_getD (l := h.got) hi2
      refine SW.skip ?_
      refine SW.seq ?_
      refine SW.block ?_
      refine SW.seq ?_
      refine SW.regT tabOk [1, 3, 4, 42, 43, 44, 54, 55, 56, 57] ?_
      refine ai trivial (ai (by rw [Int.toNat_natCast, hg]; exact ⟨⟨by omega, by rw [mixRows_length]; omega⟩, rfl⟩) (ai (by rw [Int.toNat_natCast, hg]; exact ⟨Nat.le_of_ble_eq_true rfl, rfl⟩) (ai trivial (ai trivial (ai ⟨by kernel_rfl, Nat.le_of_ble_eq_true (by kernel_rfl)⟩ ?_)))))
      refine SW.seq ?_
      refine SW.seq ?_
      refine SW.wk (J := fun s => s = [(.t 1, .v (.e (.c (.pt 1 0)))), (.t 3, .v (I (i : Nat))), (.t 4, .v (.e (.c (.pt 4 0)))), (.t 42, .v (Dv (.sl (mixRows h.got)))), (.t 43, .v (I (h.got.length : Nat))), (.t 44, .v (I (i : Nat))), (.o 1, .box 136 [.d (.i (h).frm), .d (.i (h).num), .d (.i (h).to), .d (.i (h).til), .d (.i (h).size), .d (.sl (mixRows (h).got))]), (.o 4, .box 161 [.d (.i (h.got.getD i .zero).num), .d (.s (h.got.getD i .zero).data)])]) ?_ ?_
      · skip
        refine wk [(.t 1, .v (.e (.c (.pt 1 0)))), (.t 3, .v (I (i : Nat))), (.t 4, .v (.e (.c (.pt 4 0)))), (.t 42, .v (Dv (.sl (mixRows h.got)))), (.t 43, .v (I (h.got.length : Nat))), (.t 44, .v (I (i : Nat))), (.o 1, .box 136 [.d (.i (h).frm), .d (.i (h).num), .d (.i (h).to), .d (.i (h).til), .d (.i (h).size), .d (.sl (mixRows (h).got))]), (.o 4, .box 161 [.d (.i (h.got.getD i .zero).num), .d (.s (h.got.getD i .zero).data)])] [] [] (rfl) ?_ rfl rfl
        repeat' first | exact trivial | refine mL_nil rfl ?_ | refine mL_d rfl ?_ ?_ | refine mL_own rfl rfl ?_ rfl ?_ | refine mL_row rfl ?_ ?_ | refine mL_pt rfl rfl rfl rfl ?_ | refine mL_box rfl ?_ ?_ | refine mL_agg rfl ?_ ?_ | exact mCs_nil0 | refine mCs_d ?_ ?_ | refine mCs_nil ?_ | refine mCs_own rfl ?_ rfl ?_ | refine mCs_pt rfl rfl rfl ?_
        all_goals first | with_reducible rfl | (first | with_reducible rfl | (rw [Int.toNat_natCast, hg]; rfl))
      rintro s rfl
      refine SW.regT tabOk [1, 3, 4, 42, 43, 44, 54, 55, 56, 57, 58] ?_
      refine ai (by first | trivial | rfl) (ai vc ?_)
      refine ex_pure (s_impl_in _ _ _) rfl rfl rfl rfl rfl rfl rfl rfl ?_
      refine ai trivial (ai trivial (ai (fun h => (by first | trivial | rfl)) (ai rk (ai (fun h => vc) (ai rk (ai (fun h => vc) (ai rk (ai (fun h => trivial) (ai rk (ai pk ?_))))))))))
      refine SW.cond rfl (fun c58 => ?_) (fun c58 => ?_)
      · skip
        have hm : mixOk (h.got.getD i .zero) = false := by
          unfold mixOk
          rw [← Bool.not_eq_true', Bool.not_and]
          exact mixC c58
        have hs := gotStep_bad hm
        refine SW.seq ?_
        refine SW.regT tabOk [2] ?_
        refine ai trivial ?_
        refine SW.ret ?_
        refine retOk1 rfl (congrArg D.b ?_)
        rw [halfOk, hh, Bool.not_false, Bool.true_and, all_false hi2 hs]
      · skip
        have hm : mixOk (h.got.getD i .zero) = true := mixC2 c58
        refine SW.skip ?_
        refine SW.seq ?_
        refine SW.regT tabOk [1, 4, 42, 43, 44, 54, 55, 56, 57, 62, 63, 64] ?_
        refine ai (by first | trivial | rfl) (ai vc (ai trivial (ai (by exact ⟨by rw [mixRows_length]; exact ⟨by first | (simp; done) | (simp; omega), by first | (simp; done) | (simp; omega), by first | (simp; done) | (simp; omega)⟩, mixRows_len2 _⟩) (ai vc (ai trivial ?_)))))
        refine SW.block ?_
        -- live at the head: [1, 4, 42, 43, 44, 54, 55, 56, 57, 62, 63, 64]
        refine SW.loopW (n := i) (fun m q => ∃ j : Nat, m = i - j ∧ j ≤ i ∧ (∀ k, k < j → ((h.got.getD k .zero).num == (h.got.getD i .zero).num) = false) ∧ q = [(.t 1, .v (.e (.c (.pt 1 0)))), (.t 4, .v (.e (.c (.pt 4 0)))), (.t 42, .v (Dv (.sl (mixRows h.got)))), (.t 43, .v (I (h.got.length : Nat))), (.t 44, .v (I (i : Nat))), (.t 62, .v (Dv (.sl ((mixRows h.got).take i)))), (.t 63, .v (I (i : Nat))), (.t 64, .v (I (j : Nat))), (.o 1, .box 136 [.d (.i (h).frm), .d (.i (h).num), .d (.i (h).to), .d (.i (h).til), .d (.i (h).size), .d (.sl (mixRows (h).got))]), (.o 4, .box 161 [.d (.i (h.got.getD i .zero).num), .d (.s (h.got.getD i .zero).data)])]) ?_ ?_
        · skip
          refine wk [(.t 1, .v (.e (.c (.pt 1 0)))), (.t 4, .v (.e (.c (.pt 4 0)))), (.t 42, .v (Dv (.sl (mixRows h.got)))), (.t 43, .v (I (h.got.length : Nat))), (.t 44, .v (I (i : Nat))), (.t 62, .v (Dv (.sl ((mixRows h.got).take i)))), (.t 63, .v (I (i : Nat))), (.t 64, .v (I (0 : Nat))), (.o 1, .box 136 [.d (.i (h).frm), .d (.i (h).num), .d (.i (h).to), .d (.i (h).til), .d (.i (h).size), .d (.sl (mixRows (h).got))]), (.o 4, .box 161 [.d (.i (h.got.getD i .zero).num), .d (.s (h.got.getD i .zero).data)])] [] [] (⟨0, rfl, Nat.zero_le _, fun k h => absurd h (by omega), rfl⟩) ?_ rfl rfl
          repeat' first | exact trivial | refine mL_nil rfl ?_ | refine mL_d rfl ?_ ?_ | refine mL_own rfl rfl ?_ rfl ?_ | refine mL_row rfl ?_ ?_ | refine mL_pt rfl rfl rfl rfl ?_ | refine mL_box rfl ?_ ?_ | refine mL_agg rfl ?_ ?_ | exact mCs_nil0 | refine mCs_d ?_ ?_ | refine mCs_nil ?_ | refine mCs_own rfl ?_ rfl ?_ | refine mCs_pt rfl rfl rfl ?_
          all_goals first | with_reducible rfl | (first | with_reducible rfl | rfl | (rw [cut_to]; done) | (rw [cut_to, List.length_take, mixRows_length]; refine congrArg D.i ?_; omega))
        rintro n s ⟨j, rfl, hj, hkj, rfl⟩
        refine SW.seq ?_
        refine SW.regT tabOk [1, 4, 42, 43, 44, 54, 55, 56, 57, 62, 63, 64, 65] ?_
        refine ai trivial ?_
        refine SW.seq ?_
        refine SW.cond rfl (fun c65 => ?_) (fun c65 => ?_)
        · skip
          have hj2 : j < i := by simpa using c65
          have hg2 : ((mixRows h.got).take i).getD j [] = (h.got.getD j .zero).row := by rw [getD_take hj2, mixRows_getD (by omega)]
          refine SW.skip ?_
          refine SW.seq ?_
          refine SW.block ?_
          refine SW.seq ?_
          refine SW.regT tabOk [1, 4, 6, 42, 43, 44, 54, 55, 56, 57, 62, 63, 64] ?_
          refine ai (by rw [Int.toNat_natCast, hg2]; exact ⟨⟨by omega, by rw [List.length_take, mixRows_length]; omega⟩, rfl⟩) (ai (by rw [Int.toNat_natCast, hg2]; exact ⟨Nat.le_of_ble_eq_true rfl, rfl⟩) (ai trivial (ai ⟨by kernel_rfl, Nat.le_of_ble_eq_true (by kernel_rfl)⟩ ?_)))
          refine SW.seq ?_
          refine SW.regT tabOk [1, 4, 42, 43, 44, 54, 55, 56, 57, 62, 63, 64, 72] ?_
          refine ai (by first | trivial | rfl) (ai vc (ai (by first | trivial | rfl) (ai vc (ai trivial ?_))))
          refine SW.cond rfl (fun c72 => ?_) (fun c72 => ?_)
          · skip
            have hq : ((h.got.getD j .zero).num == (h.got.getD i .zero).num) = true := by
              have h9 := c72
              rw [Int.toNat_natCast, hg2] at h9
              exact h9
            have hs := gotStep_no hj2 hq
            refine SW.seq ?_
            refine SW.regT tabOk [2] ?_
            refine ai trivial ?_
            refine SW.ret ?_
            refine retOk1 rfl (congrArg D.b ?_)
            rw [halfOk, hh, Bool.not_false, Bool.true_and, all_false hi2 hs]
          · skip
            refine SW.skip ?_
            refine SW.regT tabOk [1, 4, 42, 43, 44, 54, 55, 56, 57, 62, 63, 64] ?_
            refine ai trivial (ai trivial ?_)
            have hq : ((h.got.getD j .zero).num == (h.got.getD i .zero).num) = false := by
              have h9 := c72
              rw [Int.toNat_natCast, hg2] at h9
              exact h9
            refine wk [(.t 1, .v (.e (.c (.pt 1 0)))), (.t 4, .v (.e (.c (.pt 4 0)))), (.t 42, .v (Dv (.sl (mixRows h.got)))), (.t 43, .v (I (h.got.length : Nat))), (.t 44, .v (I (i : Nat))), (.t 62, .v (Dv (.sl ((mixRows h.got).take i)))), (.t 63, .v (I (i : Nat))), (.t 64, .v (I ((j + 1) : Nat))), (.o 1, .box 136 [.d (.i (h).frm), .d (.i (h).num), .d (.i (h).to), .d (.i (h).til), .d (.i (h).size), .d (.sl (mixRows (h).got))]), (.o 4, .box 161 [.d (.i (h.got.getD i .zero).num), .d (.s (h.got.getD i .zero).data)])] [] [] (⟨i - (j + 1), by omega, j + 1, rfl, by omega, fun k h => by by_cases e : k = j; exact e ▸ hq; exact hkj k (by omega), rfl⟩) ?_ rfl rfl
            repeat' first | exact trivial | refine mL_nil rfl ?_ | refine mL_d rfl ?_ ?_ | refine mL_own rfl rfl ?_ rfl ?_ | refine mL_row rfl ?_ ?_ | refine mL_pt rfl rfl rfl rfl ?_ | refine mL_box rfl ?_ ?_ | refine mL_agg rfl ?_ ?_ | exact mCs_nil0 | refine mCs_d ?_ ?_ | refine mCs_nil ?_ | refine mCs_own rfl ?_ rfl ?_ | refine mCs_pt rfl rfl rfl ?_
            all_goals first | with_reducible rfl | (first | with_reducible rfl | exact congrArg D.i (wrap64_of (by omega)))
        · skip
          have hj3 : j = i := by simp at c65; omega
          subst hj3
          have hs := gotStep_yes hm hkj
          refine SW.exit ?_
          refine SW.regT tabOk [1, 42, 43, 44, 54, 55, 56, 57] ?_
          refine ai trivial (ai trivial ?_)
          refine wk [(.t 1, .v (.e (.c (.pt 1 0)))), (.t 42, .v (Dv (.sl (mixRows h.got)))), (.t 43, .v (I (h.got.length : Nat))), (.t 44, .v (I ((j + 1) : Nat))), (.o 1, .box 136 [.d (.i (h).frm), .d (.i (h).num), .d (.i (h).to), .d (.i (h).til), .d (.i (h).size), .d (.sl (mixRows (h).got))])] [] [] (⟨h.got.length - (j + 1), by omega, j + 1, rfl, by omega, fun k h => by by_cases e : k = j; exact e ▸ hs; exact hk k (by omega), rfl⟩) ?_ rfl rfl
          repeat' first | exact trivial | refine mL_nil rfl ?_ | refine mL_d rfl ?_ ?_ | refine mL_own rfl rfl ?_ rfl ?_ | refine mL_row rfl ?_ ?_ | refine mL_pt rfl rfl rfl rfl ?_ | refine mL_box rfl ?_ ?_ | refine mL_agg rfl ?_ ?_ | exact mCs_nil0 | refine mCs_d ?_ ?_ | refine mCs_nil ?_ | refine mCs_own rfl ?_ rfl ?_ | refine mCs_pt rfl rfl rfl ?_
          all_goals first | with_reducible rfl | (first | with_reducible rfl | exact congrArg D.i (wrap64_of (by omega)))
    · skip
      have hi3 : i = h.got.length := by simp at c45; omega
      refine SW.exit ?_
      refine SW.seq ?_
      refine SW.regT tabOk [2] ?_
      refine ai trivial ?_
      refine SW.ret ?_
      refine retOk1 rfl (congrArg D.b ?_)
      rw [halfOk, hh, Bool.not_false, Bool.true_and]
      subst hi3
      exact (all_true hk).symm

end Go.Proofs.YtilahgkblckndaaGreatDoor

