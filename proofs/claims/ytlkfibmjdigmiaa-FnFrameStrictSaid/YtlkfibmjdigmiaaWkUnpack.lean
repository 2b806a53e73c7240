import Derived.Test.YtlkfibmjdigmiaaTab
import Derived.Test.YtlkfibmjdigmiaaWkPack
import Derived.Test.YtlkfibmjdigmiaaAbDh
import Derived.Test.YtlkfibmjdigmiaaAbBr
namespace Go.Proofs.Ytlkfibmjdigmiaa
open Go Go.Ab Go.RowKit
set_option linter.unusedVariables false
set_option linter.unusedSimpArgs false

theorem s_impl_FrameUnpack (l : List UInt8) : Ab.Spec Try.prog 16 1 [(.t 0, .v (Dv (.sl (bytesRows l))))] [(.t 0, .v (.tup [.agg [.d (.i (unpackF l).kind), .d (.i (unpackF l).src), .d (.i (unpackF l).dst), .d (.i (unpackF l).frm), .d (.i (unpackF l).num), .d (.i (unpackF l).to), .d (.i (unpackF l).til), .d (.i (unpackF l).size), .d (.i (unpackF l).mix), .d (.s (unpackF l).data)], .c (.d (.b (unpackOk l)))]))] := by
  refine spec_of_body tabOk Try.func16 rfl (by kernel_rfl) (by decide) (by kernel_rfl) rfl ?_
  refine SW.seq ?_
  refine SW.regT tabOk [0, 2, 9, 10, 11] ?_
  refine And.intro trivial (And.intro trivial ?_)
  refine SW.seq ?_
  refine SW.seq ?_
  refine SW.regT tabOk [0, 2, 12] ?_
  refine And.intro trivial (And.intro (by first | trivial | exact Nat.le_of_ble_eq_true rfl | exact ⟨rfl, Nat.le_of_ble_eq_true rfl⟩ | omega | ((repeat' apply And.intro) <;> first | trivial | rfl | exact Nat.le_of_ble_eq_true rfl | omega) | (simp; done) | (simp; omega)) (And.intro trivial (And.intro trivial ?_)))
  refine And.intro (fun h => trivial) (And.intro (by intro h; (repeat' apply And.intro) <;> first | exact h | trivial) (And.intro (fun h => (by first | trivial | exact Nat.le_of_ble_eq_true rfl | exact ⟨rfl, Nat.le_of_ble_eq_true rfl⟩ | omega | ((repeat' apply And.intro) <;> first | trivial | rfl | exact Nat.le_of_ble_eq_true rfl | omega) | (simp; done) | (simp; omega))) (And.intro (by intro h; (repeat' apply And.intro) <;> first | exact h | trivial) ?_)))
  refine And.intro (fun h => trivial) (And.intro (by intro h; (repeat' apply And.intro) <;> first | exact h | trivial) (And.intro (by constructor <;> intro h <;> first | trivial | exact h | (simpa [gb, condOf] using h)) ?_))
  refine SW.cond rfl (fun c12 => ?_) (fun c12 => ?_)
  · skip
    have hL : l.length ≠ 10 ∧ l.length ≠ 17 := by simp [bytesRows_length] at c12; omega
    refine SW.seq ?_
    refine SW.regT tabOk [2, 3] ?_
    refine And.intro (by first | trivial | exact Nat.le_of_ble_eq_true rfl | exact ⟨rfl, Nat.le_of_ble_eq_true rfl⟩ | omega | ((repeat' apply And.intro) <;> first | trivial | rfl | exact Nat.le_of_ble_eq_true rfl | omega) | (simp; done) | (simp; omega)) (And.intro ⟨by kernel_rfl, Nat.le_of_ble_eq_true (by kernel_rfl)⟩ (And.intro trivial ?_))
    refine SW.ret ?_
    refine retOkP rfl rfl ?_
    have hno : unpackOk l = false := by simp [unpackOk, hL.1, hL.2]
    simp only [unpackF, hno, Bool.false_eq_true, if_false, zeroFrame]
    rfl
  · skip
    have hL : l.length = 10 ∨ l.length = 17 := by
      by_cases h9 : l.length = 10
      · exact .inl h9
      · right; simp [bytesRows_length] at c12; omega
    refine SW.skip ?_
    refine SW.seq ?_
    refine SW.regD tabOk mo [0, 2, 4] ?_
    refine And.intro trivial (And.intro (ixB (by omega) (by omega)) (And.intro (ldB (by omega) (by omega)) (And.intro (by first | trivial | rfl) ?_)))
    refine And.intro trivial (And.intro (ixB (by omega) (by omega)) (And.intro (ldB (by omega) (by omega)) (And.intro (by first | trivial | rfl) ?_)))
    refine And.intro trivial (And.intro (ixB (by omega) (by omega)) (And.intro (ldB (by omega) (by omega)) (And.intro (by first | trivial | rfl) ?_)))
    refine And.intro trivial (And.intro (ixB (by omega) (by omega)) (And.intro (ldB (by omega) (by omega)) (And.intro (by first | trivial | rfl) ?_)))
    refine And.intro trivial (And.intro (ixB (by omega) (by omega)) (And.intro (ldB (by omega) (by omega)) (And.intro (by first | trivial | rfl) ?_)))
    refine And.intro trivial (And.intro (ixB (by omega) (by omega)) (And.intro (ldB (by omega) (by omega)) (And.intro (by first | trivial | rfl) ?_)))
    refine And.intro trivial (And.intro (ixB (by omega) (by omega)) (And.intro (ldB (by omega) (by omega)) (And.intro (by first | trivial | rfl) ?_)))
    refine And.intro trivial (And.intro trivial (And.intro (ixB (by omega) (by omega)) (And.intro (ldB (by omega) (by omega)) ?_)))
    refine And.intro (by first | trivial | rfl) (And.intro trivial (And.intro (by first | trivial | exact Nat.le_of_ble_eq_true rfl | exact ⟨rfl, Nat.le_of_ble_eq_true rfl⟩ | omega | ((repeat' apply And.intro) <;> first | trivial | rfl | exact Nat.le_of_ble_eq_true rfl | omega) | (simp; done) | (simp; omega)) (And.intro trivial ?_)))
    refine And.intro ⟨by kernel_rfl, Nat.le_of_ble_eq_true (by kernel_rfl)⟩ (And.intro (by kernel_rfl) ?_)
    refine SW.seq ?_
    refine SW.seq ?_
    refine SW.regT tabOk [0, 2, 4, 51] ?_
    refine And.intro trivial (And.intro (by first | trivial | exact Nat.le_of_ble_eq_true rfl | exact ⟨rfl, Nat.le_of_ble_eq_true rfl⟩ | omega | ((repeat' apply And.intro) <;> first | trivial | rfl | exact Nat.le_of_ble_eq_true rfl | omega) | (simp; done) | (simp; omega)) (And.intro trivial ?_))
    refine SW.cond rfl (fun c51 => ?_) (fun c51 => ?_)
    · skip
      have h17 : l.length = 17 := by simp [bytesRows_length] at c51; omega
      refine SW.seq ?_
      refine SW.regT tabOk [0, 2, 4] ?_
      refine And.intro trivial (And.intro (ixB (by omega) (by omega)) (And.intro (ldB (by omega) (by omega)) (And.intro (by first | trivial | rfl) ?_)))
      refine And.intro (by first | trivial | rfl) (And.intro ⟨by kernel_rfl, Nat.le_of_ble_eq_true (by kernel_rfl)⟩ ?_)
      refine SW.seq ?_
      refine SW.regD tabOk mo [0, 2, 4] ?_
      refine And.intro trivial (And.intro (ixB (by omega) (by omega)) (And.intro (ldB (by omega) (by omega)) (And.intro (by first | trivial | rfl) ?_)))
      refine And.intro trivial (And.intro trivial (And.intro (ixB (by omega) (by omega)) (And.intro (ldB (by omega) (by omega)) ?_)))
      refine And.intro (by first | trivial | rfl) (And.intro trivial (And.intro (by first | trivial | rfl) (And.intro ⟨by kernel_rfl, Nat.le_of_ble_eq_true (by kernel_rfl)⟩ ?_)))
      refine And.intro (by kernel_rfl) ?_
      refine SW.regT tabOk [0, 2, 4] ?_
      refine And.intro trivial (And.intro (by refine ⟨by simp [bnd, loOf, hiOf, bytesRows_length, h17], bytesRows_len1 l⟩) (And.intro (by rw [rowsBytes_cut]; exact bytesRows_cut l 11 15) (And.intro (by first | trivial | rfl) ?_)))
      refine And.intro ⟨by kernel_rfl, Nat.le_of_ble_eq_true (by kernel_rfl)⟩ ?_
      refine SW.seq ?_
      refine SW.seq ?_
      refine SW.wk (J := fun s => s = [(.t 0, .v (Dv (.sl (bytesRows l)))), (.t 2, .v (.e (.c (.pt 2 0)))), (.t 4, .v (.e (.c (.pt 4 0)))), (.o 2, .box 24 [.d (.i 0), .d (.i 0), .d (.i 0), .d (.i 0), .d (.i 0), .d (.i 0), .d (.i 0), .d (.i 0), .d (.i 0), .d (.s [])]), (.o 4, .box 24 [.d (.i (readFrame l).kind), .d (.i (readFrame l).src), .d (.i (readFrame l).dst), .d (.i (readFrame l).frm), .d (.i (readFrame l).num), .d (.i (readFrame l).to), .d (.i (readFrame l).til), .d (.i (readFrame l).size), .d (.i (readFrame l).mix), .d (.s (readFrame l).data)])]) ?_ ?_
      · skip
        refine wk [(.t 0, .v (Dv (.sl (bytesRows l)))), (.t 2, .v (.e (.c (.pt 2 0)))), (.t 4, .v (.e (.c (.pt 4 0)))), (.o 2, .box 24 [.d (.i 0), .d (.i 0), .d (.i 0), .d (.i 0), .d (.i 0), .d (.i 0), .d (.i 0), .d (.i 0), .d (.i 0), .d (.s [])]), (.o 4, .box 24 [.d (.i (readFrame l).kind), .d (.i (readFrame l).src), .d (.i (readFrame l).dst), .d (.i (readFrame l).frm), .d (.i (readFrame l).num), .d (.i (readFrame l).to), .d (.i (readFrame l).til), .d (.i (readFrame l).size), .d (.i (readFrame l).mix), .d (.s (readFrame l).data)])] [] [] (rfl) ?_ rfl rfl
        repeat' first | exact trivial | refine mL_nil rfl ?_ | refine mL_d rfl ?_ ?_ | refine mL_own rfl rfl ?_ rfl ?_ | refine mL_row rfl ?_ ?_ | refine mL_pt rfl rfl rfl rfl ?_ | refine mL_box rfl ?_ ?_ | refine mL_agg rfl ?_ ?_ | exact mCs_nil0 | refine mCs_d ?_ ?_ | refine mCs_nil ?_ | refine mCs_own rfl ?_ rfl ?_ | refine mCs_pt rfl rfl rfl ?_
        all_goals first | with_reducible rfl | (first | (rw [valW (by decide) (by omega), valW (by decide) (by omega)]; (first | simp only [readFrame, if_neg h17] | simp only [readFrame, if_pos h17]); exact congrArg D.i (wrap_pair (byteI_range _ _) (byteI_range _ _)).2) | (rw [valW (by decide) (by omega)]; (first | simp only [readFrame, if_neg h17] | simp only [readFrame, if_pos h17]); first | done | rfl) | ((first | simp only [readFrame, if_neg h17] | simp only [readFrame, if_pos h17]); done) | ((first | simp only [readFrame, if_neg h17] | simp only [readFrame, if_pos h17]); exact congrArg D.s (rowsBytes_cut _ _ _)))
      rintro s rfl
      refine SW.regD tabOk mo [2, 4, 77] ?_
      refine And.intro (by first | trivial | exact Nat.le_of_ble_eq_true rfl | exact ⟨rfl, Nat.le_of_ble_eq_true rfl⟩ | omega | ((repeat' apply And.intro) <;> first | trivial | rfl | exact Nat.le_of_ble_eq_true rfl | omega) | (simp; done) | (simp; omega)) ?_
      refine ex_callP [(0, 73)] (s_impl_FramePack (readFrame l)) rfl rfl rfl rfl rfl rfl rfl (fun j hj => by (obtain rfl : j = 0 := by simpa [newIds, objIds, memN] using hj); rfl) ?_
      refine And.intro (by exact ⟨bytesRows_length _, (congrArg bytesRows (rowsBytes_bytesRows _)).symm⟩) (And.intro trivial (And.intro (by exact (congrArg bytesRows (rowsBytes_bytesRows _)).symm) (And.intro (by first | trivial | exact Nat.le_of_ble_eq_true rfl | exact ⟨rfl, Nat.le_of_ble_eq_true rfl⟩ | omega | ((repeat' apply And.intro) <;> first | trivial | rfl | exact Nat.le_of_ble_eq_true rfl | omega) | (simp; done) | (simp; omega)) ?_)))
      refine And.intro (by kernel_rfl) ?_
      refine SW.cond rfl (fun c77 => ?_) (fun c77 => ?_)
      · skip
        refine SW.seq ?_
        refine SW.regT tabOk [2, 3] ?_
        refine And.intro (by first | trivial | exact Nat.le_of_ble_eq_true rfl | exact ⟨rfl, Nat.le_of_ble_eq_true rfl⟩ | omega | ((repeat' apply And.intro) <;> first | trivial | rfl | exact Nat.le_of_ble_eq_true rfl | omega) | (simp; done) | (simp; omega)) (And.intro ⟨by kernel_rfl, Nat.le_of_ble_eq_true (by kernel_rfl)⟩ (And.intro trivial ?_))
        refine SW.ret ?_
        refine retOkP rfl rfl ?_
        have hno : unpackOk l = false := by (simp [rowsBytes_bytesRows] at c77; simp [unpackOk, c77])
        simp only [unpackF, hno, Bool.false_eq_true, if_false, zeroFrame]
        rfl
      · skip
        refine SW.skip ?_
        refine SW.seq ?_
        refine SW.regT tabOk [2, 3] ?_
        refine And.intro (by first | trivial | exact Nat.le_of_ble_eq_true rfl | exact ⟨rfl, Nat.le_of_ble_eq_true rfl⟩ | omega | ((repeat' apply And.intro) <;> first | trivial | rfl | exact Nat.le_of_ble_eq_true rfl | omega) | (simp; done) | (simp; omega)) (And.intro ⟨by kernel_rfl, Nat.le_of_ble_eq_true (by kernel_rfl)⟩ (And.intro trivial ?_))
        refine SW.ret ?_
        refine retOkP rfl rfl ?_
        have hyes : unpackOk l = true := by (simp [rowsBytes_bytesRows] at c77; rcases hL with h | h <;> simp [unpackOk, h, c77])
        simp only [unpackF, hyes, if_true]
        rfl
    · skip
      have h17 : ¬ l.length = 17 := by simp [bytesRows_length] at c51; omega
      refine SW.skip ?_
      refine SW.seq ?_
      refine SW.seq ?_
      refine SW.wk (J := fun s => s = [(.t 0, .v (Dv (.sl (bytesRows l)))), (.t 2, .v (.e (.c (.pt 2 0)))), (.t 4, .v (.e (.c (.pt 4 0)))), (.o 2, .box 24 [.d (.i 0), .d (.i 0), .d (.i 0), .d (.i 0), .d (.i 0), .d (.i 0), .d (.i 0), .d (.i 0), .d (.i 0), .d (.s [])]), (.o 4, .box 24 [.d (.i (readFrame l).kind), .d (.i (readFrame l).src), .d (.i (readFrame l).dst), .d (.i (readFrame l).frm), .d (.i (readFrame l).num), .d (.i (readFrame l).to), .d (.i (readFrame l).til), .d (.i (readFrame l).size), .d (.i (readFrame l).mix), .d (.s (readFrame l).data)])]) ?_ ?_
      · skip
        refine wk [(.t 0, .v (Dv (.sl (bytesRows l)))), (.t 2, .v (.e (.c (.pt 2 0)))), (.t 4, .v (.e (.c (.pt 4 0)))), (.o 2, .box 24 [.d (.i 0), .d (.i 0), .d (.i 0), .d (.i 0), .d (.i 0), .d (.i 0), .d (.i 0), .d (.i 0), .d (.i 0), .d (.s [])]), (.o 4, .box 24 [.d (.i (readFrame l).kind), .d (.i (readFrame l).src), .d (.i (readFrame l).dst), .d (.i (readFrame l).frm), .d (.i (readFrame l).num), .d (.i (readFrame l).to), .d (.i (readFrame l).til), .d (.i (readFrame l).size), .d (.i (readFrame l).mix), .d (.s (readFrame l).data)])] [] [] (rfl) ?_ rfl rfl
        repeat' first | exact trivial | refine mL_nil rfl ?_ | refine mL_d rfl ?_ ?_ | refine mL_own rfl rfl ?_ rfl ?_ | refine mL_row rfl ?_ ?_ | refine mL_pt rfl rfl rfl rfl ?_ | refine mL_box rfl ?_ ?_ | refine mL_agg rfl ?_ ?_ | exact mCs_nil0 | refine mCs_d ?_ ?_ | refine mCs_nil ?_ | refine mCs_own rfl ?_ rfl ?_ | refine mCs_pt rfl rfl rfl ?_
        all_goals first | with_reducible rfl | (first | (rw [valW (by decide) (by omega), valW (by decide) (by omega)]; (first | simp only [readFrame, if_neg h17] | simp only [readFrame, if_pos h17]); exact congrArg D.i (wrap_pair (byteI_range _ _) (byteI_range _ _)).2) | (rw [valW (by decide) (by omega)]; (first | simp only [readFrame, if_neg h17] | simp only [readFrame, if_pos h17]); first | done | rfl) | ((first | simp only [readFrame, if_neg h17] | simp only [readFrame, if_pos h17]); done) | ((first | simp only [readFrame, if_neg h17] | simp only [readFrame, if_pos h17]); exact congrArg D.s (rowsBytes_cut _ _ _)))
      rintro s rfl
      refine SW.regD tabOk mo [2, 4, 77] ?_
      refine And.intro (by first | trivial | exact Nat.le_of_ble_eq_true rfl | exact ⟨rfl, Nat.le_of_ble_eq_true rfl⟩ | omega | ((repeat' apply And.intro) <;> first | trivial | rfl | exact Nat.le_of_ble_eq_true rfl | omega) | (simp; done) | (simp; omega)) ?_
      refine ex_callP [(0, 73)] (s_impl_FramePack (readFrame l)) rfl rfl rfl rfl rfl rfl rfl (fun j hj => by (obtain rfl : j = 0 := by simpa [newIds, objIds, memN] using hj); rfl) ?_
      refine And.intro (by exact ⟨bytesRows_length _, (congrArg bytesRows (rowsBytes_bytesRows _)).symm⟩) (And.intro trivial (And.intro (by exact (congrArg bytesRows (rowsBytes_bytesRows _)).symm) (And.intro (by first | trivial | exact Nat.le_of_ble_eq_true rfl | exact ⟨rfl, Nat.le_of_ble_eq_true rfl⟩ | omega | ((repeat' apply And.intro) <;> first | trivial | rfl | exact Nat.le_of_ble_eq_true rfl | omega) | (simp; done) | (simp; omega)) ?_)))
      refine And.intro (by kernel_rfl) ?_
      refine SW.cond rfl (fun c77 => ?_) (fun c77 => ?_)
      · skip
        refine SW.seq ?_
        refine SW.regT tabOk [2, 3] ?_
        refine And.intro (by first | trivial | exact Nat.le_of_ble_eq_true rfl | exact ⟨rfl, Nat.le_of_ble_eq_true rfl⟩ | omega | ((repeat' apply And.intro) <;> first | trivial | rfl | exact Nat.le_of_ble_eq_true rfl | omega) | (simp; done) | (simp; omega)) (And.intro ⟨by kernel_rfl, Nat.le_of_ble_eq_true (by kernel_rfl)⟩ (And.intro trivial ?_))
        refine SW.ret ?_
        refine retOkP rfl rfl ?_
        have hno : unpackOk l = false := by (simp [rowsBytes_bytesRows] at c77; simp [unpackOk, c77])
        simp only [unpackF, hno, Bool.false_eq_true, if_false, zeroFrame]
        rfl
      · skip
        refine SW.skip ?_
        refine SW.seq ?_
        refine SW.regT tabOk [2, 3] ?_
        refine And.intro (by first | trivial | exact Nat.le_of_ble_eq_true rfl | exact ⟨rfl, Nat.le_of_ble_eq_true rfl⟩ | omega | ((repeat' apply And.intro) <;> first | trivial | rfl | exact Nat.le_of_ble_eq_true rfl | omega) | (simp; done) | (simp; omega)) (And.intro ⟨by kernel_rfl, Nat.le_of_ble_eq_true (by kernel_rfl)⟩ (And.intro trivial ?_))
        refine SW.ret ?_
        refine retOkP rfl rfl ?_
        have hyes : unpackOk l = true := by (simp [rowsBytes_bytesRows] at c77; rcases hL with h | h <;> simp [unpackOk, h, c77])
        simp only [unpackF, hyes, if_true]
        rfl

theorem s_spec_FrameUnpack (l : List UInt8) : Ab.Spec Try.prog 18 1 [(.t 0, .v (Dv (.sl (bytesRows l))))] [(.t 0, .v (.tup [.agg [.d (.i (unpackF l).kind), .d (.i (unpackF l).src), .d (.i (unpackF l).dst), .d (.i (unpackF l).frm), .d (.i (unpackF l).num), .d (.i (unpackF l).to), .d (.i (unpackF l).til), .d (.i (unpackF l).size), .d (.i (unpackF l).mix), .d (.s (unpackF l).data)], .c (.d (.b (unpackOk l)))]))] := by
  refine spec_of_body tabOk Try.func18 rfl (by kernel_rfl) (by decide) (by kernel_rfl) rfl ?_
  refine SW.seq ?_
  refine SW.regT tabOk [0, 2, 9, 10, 11] ?_
  refine And.intro trivial (And.intro trivial ?_)
  refine SW.seq ?_
  refine SW.seq ?_
  refine SW.regT tabOk [0, 2, 12] ?_
  refine And.intro trivial (And.intro (by first | trivial | exact Nat.le_of_ble_eq_true rfl | exact ⟨rfl, Nat.le_of_ble_eq_true rfl⟩ | omega | ((repeat' apply And.intro) <;> first | trivial | rfl | exact Nat.le_of_ble_eq_true rfl | omega) | (simp; done) | (simp; omega)) (And.intro trivial (And.intro trivial ?_)))
  refine And.intro (fun h => trivial) (And.intro (by intro h; (repeat' apply And.intro) <;> first | exact h | trivial) (And.intro (fun h => (by first | trivial | exact Nat.le_of_ble_eq_true rfl | exact ⟨rfl, Nat.le_of_ble_eq_true rfl⟩ | omega | ((repeat' apply And.intro) <;> first | trivial | rfl | exact Nat.le_of_ble_eq_true rfl | omega) | (simp; done) | (simp; omega))) (And.intro (by intro h; (repeat' apply And.intro) <;> first | exact h | trivial) ?_)))
  refine And.intro (fun h => trivial) (And.intro (by intro h; (repeat' apply And.intro) <;> first | exact h | trivial) (And.intro (by constructor <;> intro h <;> first | trivial | exact h | (simpa [gb, condOf] using h)) ?_))
  refine SW.cond rfl (fun c12 => ?_) (fun c12 => ?_)
  · skip
    have hL : l.length ≠ 10 ∧ l.length ≠ 17 := by simp [bytesRows_length] at c12; omega
    refine SW.seq ?_
    refine SW.regT tabOk [2, 3] ?_
    refine And.intro (by first | trivial | exact Nat.le_of_ble_eq_true rfl | exact ⟨rfl, Nat.le_of_ble_eq_true rfl⟩ | omega | ((repeat' apply And.intro) <;> first | trivial | rfl | exact Nat.le_of_ble_eq_true rfl | omega) | (simp; done) | (simp; omega)) (And.intro ⟨by kernel_rfl, Nat.le_of_ble_eq_true (by kernel_rfl)⟩ (And.intro trivial ?_))
    refine SW.ret ?_
    refine retOkP rfl rfl ?_
    have hno : unpackOk l = false := by simp [unpackOk, hL.1, hL.2]
    simp only [unpackF, hno, Bool.false_eq_true, if_false, zeroFrame]
    rfl
  · skip
    have hL : l.length = 10 ∨ l.length = 17 := by
      by_cases h9 : l.length = 10
      · exact .inl h9
      · right; simp [bytesRows_length] at c12; omega
    refine SW.skip ?_
    refine SW.seq ?_
    refine SW.regD tabOk mo [0, 2, 4] ?_
    refine And.intro trivial (And.intro (ixB (by omega) (by omega)) (And.intro (ldB (by omega) (by omega)) (And.intro (by first | trivial | rfl) ?_)))
    refine And.intro trivial (And.intro (ixB (by omega) (by omega)) (And.intro (ldB (by omega) (by omega)) (And.intro (by first | trivial | rfl) ?_)))
    refine And.intro trivial (And.intro (ixB (by omega) (by omega)) (And.intro (ldB (by omega) (by omega)) (And.intro (by first | trivial | rfl) ?_)))
    refine And.intro trivial (And.intro (ixB (by omega) (by omega)) (And.intro (ldB (by omega) (by omega)) (And.intro (by first | trivial | rfl) ?_)))
    refine And.intro trivial (And.intro (ixB (by omega) (by omega)) (And.intro (ldB (by omega) (by omega)) (And.intro (by first | trivial | rfl) ?_)))
    refine And.intro trivial (And.intro (ixB (by omega) (by omega)) (And.intro (ldB (by omega) (by omega)) (And.intro (by first | trivial | rfl) ?_)))
    refine And.intro trivial (And.intro (ixB (by omega) (by omega)) (And.intro (ldB (by omega) (by omega)) (And.intro (by first | trivial | rfl) ?_)))
    refine And.intro trivial (And.intro trivial (And.intro (ixB (by omega) (by omega)) (And.intro (ldB (by omega) (by omega)) ?_)))
    refine And.intro (by first | trivial | rfl) (And.intro trivial (And.intro (by first | trivial | exact Nat.le_of_ble_eq_true rfl | exact ⟨rfl, Nat.le_of_ble_eq_true rfl⟩ | omega | ((repeat' apply And.intro) <;> first | trivial | rfl | exact Nat.le_of_ble_eq_true rfl | omega) | (simp; done) | (simp; omega)) (And.intro trivial ?_)))
    refine And.intro ⟨by kernel_rfl, Nat.le_of_ble_eq_true (by kernel_rfl)⟩ (And.intro (by kernel_rfl) ?_)
    refine SW.seq ?_
    refine SW.seq ?_
    refine SW.regT tabOk [0, 2, 4, 51] ?_
    refine And.intro trivial (And.intro (by first | trivial | exact Nat.le_of_ble_eq_true rfl | exact ⟨rfl, Nat.le_of_ble_eq_true rfl⟩ | omega | ((repeat' apply And.intro) <;> first | trivial | rfl | exact Nat.le_of_ble_eq_true rfl | omega) | (simp; done) | (simp; omega)) (And.intro trivial ?_))
    refine SW.cond rfl (fun c51 => ?_) (fun c51 => ?_)
    · skip
      have h17 : l.length = 17 := by simp [bytesRows_length] at c51; omega
      refine SW.seq ?_
      refine SW.regT tabOk [0, 2, 4] ?_
      refine And.intro trivial (And.intro (ixB (by omega) (by omega)) (And.intro (ldB (by omega) (by omega)) (And.intro (by first | trivial | rfl) ?_)))
      refine And.intro (by first | trivial | rfl) (And.intro ⟨by kernel_rfl, Nat.le_of_ble_eq_true (by kernel_rfl)⟩ ?_)
      refine SW.seq ?_
      refine SW.regD tabOk mo [0, 2, 4] ?_
      refine And.intro trivial (And.intro (ixB (by omega) (by omega)) (And.intro (ldB (by omega) (by omega)) (And.intro (by first | trivial | rfl) ?_)))
      refine And.intro trivial (And.intro trivial (And.intro (ixB (by omega) (by omega)) (And.intro (ldB (by omega) (by omega)) ?_)))
      refine And.intro (by first | trivial | rfl) (And.intro trivial (And.intro (by first | trivial | rfl) (And.intro ⟨by kernel_rfl, Nat.le_of_ble_eq_true (by kernel_rfl)⟩ ?_)))
      refine And.intro (by kernel_rfl) ?_
      refine SW.regT tabOk [0, 2, 4] ?_
      refine And.intro trivial (And.intro (by refine ⟨by simp [bnd, loOf, hiOf, bytesRows_length, h17], bytesRows_len1 l⟩) (And.intro (by rw [rowsBytes_cut]; exact bytesRows_cut l 11 15) (And.intro (by first | trivial | rfl) ?_)))
      refine And.intro ⟨by kernel_rfl, Nat.le_of_ble_eq_true (by kernel_rfl)⟩ ?_
      refine SW.seq ?_
      refine SW.seq ?_
      refine SW.wk (J := fun s => s = [(.t 0, .v (Dv (.sl (bytesRows l)))), (.t 2, .v (.e (.c (.pt 2 0)))), (.t 4, .v (.e (.c (.pt 4 0)))), (.o 2, .box 24 [.d (.i 0), .d (.i 0), .d (.i 0), .d (.i 0), .d (.i 0), .d (.i 0), .d (.i 0), .d (.i 0), .d (.i 0), .d (.s [])]), (.o 4, .box 24 [.d (.i (readFrame l).kind), .d (.i (readFrame l).src), .d (.i (readFrame l).dst), .d (.i (readFrame l).frm), .d (.i (readFrame l).num), .d (.i (readFrame l).to), .d (.i (readFrame l).til), .d (.i (readFrame l).size), .d (.i (readFrame l).mix), .d (.s (readFrame l).data)])]) ?_ ?_
      · skip
        refine wk [(.t 0, .v (Dv (.sl (bytesRows l)))), (.t 2, .v (.e (.c (.pt 2 0)))), (.t 4, .v (.e (.c (.pt 4 0)))), (.o 2, .box 24 [.d (.i 0), .d (.i 0), .d (.i 0), .d (.i 0), .d (.i 0), .d (.i 0), .d (.i 0), .d (.i 0), .d (.i 0), .d (.s [])]), (.o 4, .box 24 [.d (.i (readFrame l).kind), .d (.i (readFrame l).src), .d (.i (readFrame l).dst), .d (.i (readFrame l).frm), .d (.i (readFrame l).num), .d (.i (readFrame l).to), .d (.i (readFrame l).til), .d (.i (readFrame l).size), .d (.i (readFrame l).mix), .d (.s (readFrame l).data)])] [] [] (rfl) ?_ rfl rfl
        repeat' first | exact trivial | refine mL_nil rfl ?_ | refine mL_d rfl ?_ ?_ | refine mL_own rfl rfl ?_ rfl ?_ | refine mL_row rfl ?_ ?_ | refine mL_pt rfl rfl rfl rfl ?_ | refine mL_box rfl ?_ ?_ | refine mL_agg rfl ?_ ?_ | exact mCs_nil0 | refine mCs_d ?_ ?_ | refine mCs_nil ?_ | refine mCs_own rfl ?_ rfl ?_ | refine mCs_pt rfl rfl rfl ?_
        all_goals first | with_reducible rfl | (first | (rw [valW (by decide) (by omega), valW (by decide) (by omega)]; (first | simp only [readFrame, if_neg h17] | simp only [readFrame, if_pos h17]); exact congrArg D.i (wrap_pair (byteI_range _ _) (byteI_range _ _)).1) | (rw [valW (by decide) (by omega)]; (first | simp only [readFrame, if_neg h17] | simp only [readFrame, if_pos h17]); first | done | rfl) | ((first | simp only [readFrame, if_neg h17] | simp only [readFrame, if_pos h17]); done) | ((first | simp only [readFrame, if_neg h17] | simp only [readFrame, if_pos h17]); exact congrArg D.s (rowsBytes_cut _ _ _)))
      rintro s rfl
      refine SW.regD tabOk mo [2, 4, 77] ?_
      refine And.intro (by first | trivial | exact Nat.le_of_ble_eq_true rfl | exact ⟨rfl, Nat.le_of_ble_eq_true rfl⟩ | omega | ((repeat' apply And.intro) <;> first | trivial | rfl | exact Nat.le_of_ble_eq_true rfl | omega) | (simp; done) | (simp; omega)) ?_
      refine ex_callP [(0, 73)] (s_spec_FramePack (readFrame l)) rfl rfl rfl rfl rfl rfl rfl (fun j hj => by (obtain rfl : j = 0 := by simpa [newIds, objIds, memN] using hj); rfl) ?_
      refine And.intro (by exact ⟨bytesRows_length _, (congrArg bytesRows (rowsBytes_bytesRows _)).symm⟩) (And.intro trivial (And.intro (by exact (congrArg bytesRows (rowsBytes_bytesRows _)).symm) (And.intro (by first | trivial | exact Nat.le_of_ble_eq_true rfl | exact ⟨rfl, Nat.le_of_ble_eq_true rfl⟩ | omega | ((repeat' apply And.intro) <;> first | trivial | rfl | exact Nat.le_of_ble_eq_true rfl | omega) | (simp; done) | (simp; omega)) ?_)))
      refine And.intro (by kernel_rfl) ?_
      refine SW.cond rfl (fun c77 => ?_) (fun c77 => ?_)
      · skip
        refine SW.seq ?_
        refine SW.regT tabOk [2, 3] ?_
        refine And.intro (by first | trivial | exact Nat.le_of_ble_eq_true rfl | exact ⟨rfl, Nat.le_of_ble_eq_true rfl⟩ | omega | ((repeat' apply And.intro) <;> first | trivial | rfl | exact Nat.le_of_ble_eq_true rfl | omega) | (simp; done) | (simp; omega)) (And.intro ⟨by kernel_rfl, Nat.le_of_ble_eq_true (by kernel_rfl)⟩ (And.intro trivial ?_))
        refine SW.ret ?_
        refine retOkP rfl rfl ?_
        have hno : unpackOk l = false := by (simp [rowsBytes_bytesRows] at c77; simp [unpackOk, c77])
        simp only [unpackF, hno, Bool.false_eq_true, if_false, zeroFrame]
        rfl
      · skip
        refine SW.skip ?_
        refine SW.seq ?_
        refine SW.regT tabOk [2, 3] ?_
        refine And.intro (by first | trivial | exact Nat.le_of_ble_eq_true rfl | exact ⟨rfl, Nat.le_of_ble_eq_true rfl⟩ | omega | ((repeat' apply And.intro) <;> first | trivial | rfl | exact Nat.le_of_ble_eq_true rfl | omega) | (simp; done) | (simp; omega)) (And.intro ⟨by kernel_rfl, Nat.le_of_ble_eq_true (by kernel_rfl)⟩ (And.intro trivial ?_))
        refine SW.ret ?_
        refine retOkP rfl rfl ?_
        have hyes : unpackOk l = true := by (simp [rowsBytes_bytesRows] at c77; rcases hL with h | h <;> simp [unpackOk, h, c77])
        simp only [unpackF, hyes, if_true]
        rfl
    · skip
      have h17 : ¬ l.length = 17 := by simp [bytesRows_length] at c51; omega
      refine SW.skip ?_
      refine SW.seq ?_
      refine SW.seq ?_
      refine SW.wk (J := fun s => s = [(.t 0, .v (Dv (.sl (bytesRows l)))), (.t 2, .v (.e (.c (.pt 2 0)))), (.t 4, .v (.e (.c (.pt 4 0)))), (.o 2, .box 24 [.d (.i 0), .d (.i 0), .d (.i 0), .d (.i 0), .d (.i 0), .d (.i 0), .d (.i 0), .d (.i 0), .d (.i 0), .d (.s [])]), (.o 4, .box 24 [.d (.i (readFrame l).kind), .d (.i (readFrame l).src), .d (.i (readFrame l).dst), .d (.i (readFrame l).frm), .d (.i (readFrame l).num), .d (.i (readFrame l).to), .d (.i (readFrame l).til), .d (.i (readFrame l).size), .d (.i (readFrame l).mix), .d (.s (readFrame l).data)])]) ?_ ?_
      · skip
        refine wk [(.t 0, .v (Dv (.sl (bytesRows l)))), (.t 2, .v (.e (.c (.pt 2 0)))), (.t 4, .v (.e (.c (.pt 4 0)))), (.o 2, .box 24 [.d (.i 0), .d (.i 0), .d (.i 0), .d (.i 0), .d (.i 0), .d (.i 0), .d (.i 0), .d (.i 0), .d (.i 0), .d (.s [])]), (.o 4, .box 24 [.d (.i (readFrame l).kind), .d (.i (readFrame l).src), .d (.i (readFrame l).dst), .d (.i (readFrame l).frm), .d (.i (readFrame l).num), .d (.i (readFrame l).to), .d (.i (readFrame l).til), .d (.i (readFrame l).size), .d (.i (readFrame l).mix), .d (.s (readFrame l).data)])] [] [] (rfl) ?_ rfl rfl
        repeat' first | exact trivial | refine mL_nil rfl ?_ | refine mL_d rfl ?_ ?_ | refine mL_own rfl rfl ?_ rfl ?_ | refine mL_row rfl ?_ ?_ | refine mL_pt rfl rfl rfl rfl ?_ | refine mL_box rfl ?_ ?_ | refine mL_agg rfl ?_ ?_ | exact mCs_nil0 | refine mCs_d ?_ ?_ | refine mCs_nil ?_ | refine mCs_own rfl ?_ rfl ?_ | refine mCs_pt rfl rfl rfl ?_
        all_goals first | with_reducible rfl | (first | (rw [valW (by decide) (by omega), valW (by decide) (by omega)]; (first | simp only [readFrame, if_neg h17] | simp only [readFrame, if_pos h17]); exact congrArg D.i (wrap_pair (byteI_range _ _) (byteI_range _ _)).1) | (rw [valW (by decide) (by omega)]; (first | simp only [readFrame, if_neg h17] | simp only [readFrame, if_pos h17]); first | done | rfl) | ((first | simp only [readFrame, if_neg h17] | simp only [readFrame, if_pos h17]); done) | ((first | simp only [readFrame, if_neg h17] | simp only [readFrame, if_pos h17]); exact congrArg D.s (rowsBytes_cut _ _ _)))
      rintro s rfl
      refine SW.regD tabOk mo [2, 4, 77] ?_
      refine And.intro (by first | trivial | exact Nat.le_of_ble_eq_true rfl | exact ⟨rfl, Nat.le_of_ble_eq_true rfl⟩ | omega | ((repeat' apply And.intro) <;> first | trivial | rfl | exact Nat.le_of_ble_eq_true rfl | omega) | (simp; done) | (simp; omega)) ?_
      refine ex_callP [(0, 73)] (s_spec_FramePack (readFrame l)) rfl rfl rfl rfl rfl rfl rfl (fun j hj => by (obtain rfl : j = 0 := by simpa [newIds, objIds, memN] using hj); rfl) ?_
      refine And.intro (by exact ⟨bytesRows_length _, (congrArg bytesRows (rowsBytes_bytesRows _)).symm⟩) (And.intro trivial (And.intro (by exact (congrArg bytesRows (rowsBytes_bytesRows _)).symm) (And.intro (by first | trivial | exact Nat.le_of_ble_eq_true rfl | exact ⟨rfl, Nat.le_of_ble_eq_true rfl⟩ | omega | ((repeat' apply And.intro) <;> first | trivial | rfl | exact Nat.le_of_ble_eq_true rfl | omega) | (simp; done) | (simp; omega)) ?_)))
      refine And.intro (by kernel_rfl) ?_
      refine SW.cond rfl (fun c77 => ?_) (fun c77 => ?_)
      · skip
        refine SW.seq ?_
        refine SW.regT tabOk [2, 3] ?_
        refine And.intro (by first | trivial | exact Nat.le_of_ble_eq_true rfl | exact ⟨rfl, Nat.le_of_ble_eq_true rfl⟩ | omega | ((repeat' apply And.intro) <;> first | trivial | rfl | exact Nat.le_of_ble_eq_true rfl | omega) | (simp; done) | (simp; omega)) (And.intro ⟨by kernel_rfl, Nat.le_of_ble_eq_true (by kernel_rfl)⟩ (And.intro trivial ?_))
        refine SW.ret ?_
        refine retOkP rfl rfl ?_
        have hno : unpackOk l = false := by (simp [rowsBytes_bytesRows] at c77; simp [unpackOk, c77])
        simp only [unpackF, hno, Bool.false_eq_true, if_false, zeroFrame]
        rfl
      · skip
        refine SW.skip ?_
        refine SW.seq ?_
        refine SW.regT tabOk [2, 3] ?_
        refine And.intro (by first | trivial | exact Nat.le_of_ble_eq_true rfl | exact ⟨rfl, Nat.le_of_ble_eq_true rfl⟩ | omega | ((repeat' apply And.intro) <;> first | trivial | rfl | exact Nat.le_of_ble_eq_true rfl | omega) | (simp; done) | (simp; omega)) (And.intro ⟨by kernel_rfl, Nat.le_of_ble_eq_true (by kernel_rfl)⟩ (And.intro trivial ?_))
        refine SW.ret ?_
        refine retOkP rfl rfl ?_
        have hyes : unpackOk l = true := by (simp [rowsBytes_bytesRows] at c77; rcases hL with h | h <;> simp [unpackOk, h, c77])
        simp only [unpackF, hyes, if_true]
        rfl

end Go.Proofs.Ytlkfibmjdigmiaa
