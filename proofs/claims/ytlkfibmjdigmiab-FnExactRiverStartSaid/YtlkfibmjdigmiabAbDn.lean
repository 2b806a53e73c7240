/- Plain rows, one of them at a place; texts of numbers; keepers without halves. -/
import Derived.Test.YtlkfibmjdigmiabAbDm
namespace Go.Ab
open Go Go.RowKit
set_option linter.unusedVariables false

theorem at_get {A B : List (List D)} {r : List D} {i : Nat} (h : A.length = i) : (A ++ r :: B).getD i [] = r := by
  subst h
  rw [List.getD_eq_getElem?_getD, List.getElem?_append_right (Nat.le_refl _), Nat.sub_self]; rfl
theorem at_set {A B : List (List D)} {r x : List D} {i : Nat} (h : A.length = i) : (A ++ r :: B).set i x = A ++ x :: B := by
  subst h
  rw [List.set_append_right _ _ (Nat.le_refl _), Nat.sub_self]; rfl
theorem at_len {A B : List (List D)} {r : List D} {i n : Nat} (h : A.length = i) (hn : i + (B.length + 1) = n) : (A ++ r :: B).length = n := by simp; omega
theorem range_succ_map (f : Nat → List D) (i : Nat) : (List.range (i + 1)).map f = (List.range i).map f ++ [f i] := by simp [List.range_succ]
/-- decimals, the last first -/
def decG : Nat → Nat → List UInt8 → List UInt8
  | 0, _, acc => acc
  | f + 1, k, acc => if k = 0 then acc else decG f (k / 10) (u8 (wrap64 (48 + Int.tmod (k : Int) 10)) :: acc)
def mkText (k : Int) : List UInt8 := [109] ++ decG k.toNat k.toNat []
theorem decG_zero (f : Nat) (acc : List UInt8) : decG f 0 acc = acc := by cases f <;> rfl
theorem decG_step {f k : Nat} {acc : List UInt8} (hk : 0 < k) (hf : k ≤ f) : ∃ g, decG f k acc = decG g (k / 10) (u8 (wrap64 (48 + Int.tmod (k : Int) 10)) :: acc) ∧ k / 10 ≤ g := by
  cases f with
  | zero => omega
  | succ f => exact ⟨f, by rw [decG, if_neg (by omega)], by omega⟩
/-- A keeper without halves, as a row of cells. -/
def kRow (a : Int) (b : Bool) (c : List UInt8) (d : Int) : List D := [.i a, .b b, .s c, .i d, .sl []]
def isK (r : List D) : Prop := ∃ a b c d, r = kRow a b c d
def mrow (k : Int) (i : Nat) : List D := kRow (k + 4 * i) (Int.tmod (k + 4 * i + 1) 3 == 0) (mkText (k + 4 * i + 2)) (k + 4 * i + 3)
def mrows (k : Int) (n : Nat) : List (List D) := (List.range n).map (mrow k)
theorem mrows_length (k : Int) (n : Nat) : (mrows k n).length = n := by simp [mrows]
theorem mrows_succ (k : Int) (n : Nat) : mrows k (n + 1) = mrows k n ++ [mrow k n] := range_succ_map _ _
theorem isK_len {R : List (List D)} (h : ∀ r ∈ R, isK r) : ∀ r ∈ R, r.length = 5 := fun r hr => by
  obtain ⟨a, b, c, d, rfl⟩ := h r hr; rfl
theorem mrows_isK (k : Int) (n : Nat) : ∀ r ∈ mrows k n, isK r := fun r hr => by
  obtain ⟨i, _, rfl⟩ := List.mem_map.1 hr; exact ⟨_, _, _, _, rfl⟩
theorem isK_scalar {R : List (List D)} (h : ∀ r ∈ R, isK r) : ∀ r ∈ R, ∀ d ∈ r, scalarD d := fun r hr d hd => by
  obtain ⟨a, b, c, e, rfl⟩ := h r hr
  simp [kRow] at hd
  rcases hd with rfl | rfl | rfl | rfl | rfl <;> first | trivial | rfl
/-- truth values marked -/
def mbit (k : Int) (i : Nat) : List D := [.b (Int.tmod (k + i) 3 == 0)]
def mbits (k : Int) (n : Nat) : List (List D) := (List.range n).map (mbit k)
theorem mbits_length (k : Int) (n : Nat) : (mbits k n).length = n := by simp [mbits]
theorem mbits_succ (k : Int) (n : Nat) : mbits k (n + 1) = mbits k n ++ [mbit k n] := range_succ_map _ _
theorem split_at {R : List (List D)} {i : Nat} (h : i < R.length) : ∃ r B, R.drop i = r :: B ∧ R.drop (i + 1) = B ∧ r ∈ R ∧ R = R.take i ++ r :: B ∧ (R.take i).length = i := by
  refine ⟨R[i], R.drop (i + 1), List.drop_eq_getElem_cons h, rfl, List.getElem_mem _, ?_, by rw [List.length_take]; omega⟩
  rw [← List.drop_eq_getElem_cons h, List.take_append_drop]
theorem set_same {R : List (List D)} {i : Nat} {r : List D} (hi : i < R.length) (h : R.getD i [] = r) : R.set i r = R := by
  rw [← h, List.getD_eq_getElem?_getD, List.getElem?_eq_getElem hi]
  simp
/-- the keepers at first -/
def krow0 (i : Nat) : List D := kRow i true [] 0
def krows (n : Nat) : List (List D) := (List.range n).map krow0
theorem krows_length (n : Nat) : (krows n).length = n := by simp [krows]
theorem krows_succ (n : Nat) : krows (n + 1) = krows n ++ [krow0 n] := range_succ_map _ _
theorem krows_isK (n : Nat) : ∀ r ∈ krows n, isK r := fun r hr => by
  obtain ⟨i, _, rfl⟩ := List.mem_map.1 hr; exact ⟨_, _, _, _, rfl⟩
def trues (n : Nat) : List (List D) := List.replicate n [.b true]
theorem trues_length (n : Nat) : (trues n).length = n := by simp [trues]
theorem trues_succ (n : Nat) : trues (n + 1) = trues n ++ [[.b true]] := by simp [trues, List.replicate_succ']
theorem trues_len1 (n : Nat) : ∀ r ∈ trues n, r.length = 1 := fun r hr => by rw [List.eq_of_mem_replicate hr]; rfl
theorem trues_bool (n : Nat) : trues n = boolRows (List.replicate n true) := by simp [trues, boolRows]
end Go.Ab
