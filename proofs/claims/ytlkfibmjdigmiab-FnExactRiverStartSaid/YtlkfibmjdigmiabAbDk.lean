/- Plain rows of numbers, of truth values, of texts; the mixing numbers. -/
import Derived.Test.YtlkfibmjdigmiabAbDj
import Derived.Test.YtlkfibmjdigmiabAbDe
namespace Go.Ab
open Go Go.RowKit
set_option linter.unusedVariables false

def intRows (l : List Int) : List (List D) := l.map fun x => [.i x]
def boolRows (l : List Bool) : List (List D) := l.map fun x => [.b x]
def strRows (l : List (List UInt8)) : List (List D) := l.map fun x => [.s x]
theorem intRows_length (l : List Int) : (intRows l).length = l.length := by simp [intRows]
theorem boolRows_length (l : List Bool) : (boolRows l).length = l.length := by simp [boolRows]
theorem strRows_length (l : List (List UInt8)) : (strRows l).length = l.length := by simp [strRows]
theorem intRows_len1 (l : List Int) : ∀ r ∈ intRows l, r.length = 1 := by
  intro r hr
  obtain ⟨b, _, rfl⟩ := List.mem_map.1 hr
  rfl
theorem boolRows_len1 (l : List Bool) : ∀ r ∈ boolRows l, r.length = 1 := by
  intro r hr
  obtain ⟨b, _, rfl⟩ := List.mem_map.1 hr
  rfl
theorem strRows_len1 (l : List (List UInt8)) : ∀ r ∈ strRows l, r.length = 1 := by
  intro r hr
  obtain ⟨b, _, rfl⟩ := List.mem_map.1 hr
  rfl
theorem intRows_getD {l : List Int} {i : Nat} (h : i < l.length) : (intRows l).getD i [] = [.i (l.getD i 0)] := by
  rw [List.getD_eq_getElem?_getD, List.getD_eq_getElem?_getD]
  simp [intRows, h]
theorem boolRows_getD {l : List Bool} {i : Nat} (h : i < l.length) : (boolRows l).getD i [] = [.b (l.getD i false)] := by
  rw [List.getD_eq_getElem?_getD, List.getD_eq_getElem?_getD]
  simp [boolRows, h]
theorem strRows_getD {l : List (List UInt8)} {i : Nat} (h : i < l.length) : (strRows l).getD i [] = [.s (l.getD i [])] := by
  rw [List.getD_eq_getElem?_getD, List.getD_eq_getElem?_getD]
  simp [strRows, h]
theorem ixI {l : List Int} {j : Int} (h0 : 0 ≤ j) (h : j < l.length) : (0 ≤ j ∧ j < (intRows l).length) ∧ ((intRows l).getD j.toNat []).length = 1 := by
  refine ⟨⟨h0, by rw [intRows_length]; exact h⟩, ?_⟩
  rw [intRows_getD (by omega)]; rfl
theorem ixS {l : List (List UInt8)} {j : Int} (h0 : 0 ≤ j) (h : j < l.length) : (0 ≤ j ∧ j < (strRows l).length) ∧ ((strRows l).getD j.toNat []).length = 1 := by
  refine ⟨⟨h0, by rw [strRows_length]; exact h⟩, ?_⟩
  rw [strRows_getD (by omega)]; rfl
theorem ldS {l : List (List UInt8)} {j : Int} (h0 : 0 ≤ j) (h : j < l.length) : 1 ≤ ((strRows l).getD j.toNat []).length ∧ ((strRows l).getD j.toNat []).take 1 = tyCells [.d (.s [])] ((strRows l).getD j.toNat []) 0 := by
  rw [strRows_getD (by omega)]; exact ⟨Nat.le_refl _, rfl⟩
theorem valS {l : List (List UInt8)} {j : Int} (h0 : 0 ≤ j) (h : j < l.length) : toS (((strRows l).getD j.toNat []).getD 0 (.i 0)) = l.getD j.toNat [] := by
  rw [strRows_getD (by omega)]; rfl
/-! the rows of an object of this call's own -/
theorem oixB {l : List UInt8} {j : Int} {n : Nat} (h0 : 0 ≤ j) (h : j < l.length) (e : l.length = n) : (bytesRows l).length = n ∧ 0 ≤ j ∧ j < n := ⟨by rw [bytesRows_length]; exact e, h0, by omega⟩
theorem oixI {l : List Int} {j : Int} {n : Nat} (h0 : 0 ≤ j) (h : j < l.length) (e : l.length = n) : (intRows l).length = n ∧ 0 ≤ j ∧ j < n := ⟨by rw [intRows_length]; exact e, h0, by omega⟩
theorem oixT {l : List Bool} {j : Int} {n : Nat} (h0 : 0 ≤ j) (h : j < l.length) (e : l.length = n) : (boolRows l).length = n ∧ 0 ≤ j ∧ j < n := ⟨by rw [boolRows_length]; exact e, h0, by omega⟩
theorem oixS {l : List (List UInt8)} {j : Int} {n : Nat} (h0 : 0 ≤ j) (h : j < l.length) (e : l.length = n) : (strRows l).length = n ∧ 0 ≤ j ∧ j < n := ⟨by rw [strRows_length]; exact e, h0, by omega⟩
theorem oldI {l : List Int} {j n : Nat} (h : j < l.length) (e : l.length = n) : ((intRows l).length = n ∧ j < n) ∧ 0 + 1 ≤ ((intRows l).getD j []).length ∧ (((intRows l).getD j []).drop 0).take 1 = tyCells [.d (.i 0)] ((intRows l).getD j []) 0 := by
  rw [intRows_getD h, intRows_length]; exact ⟨⟨e, by omega⟩, Nat.le_refl _, rfl⟩
theorem oldT {l : List Bool} {j n : Nat} (h : j < l.length) (e : l.length = n) : ((boolRows l).length = n ∧ j < n) ∧ 0 + 1 ≤ ((boolRows l).getD j []).length ∧ (((boolRows l).getD j []).drop 0).take 1 = tyCells [.d (.b false)] ((boolRows l).getD j []) 0 := by
  rw [boolRows_getD h, boolRows_length]; exact ⟨⟨e, by omega⟩, Nat.le_refl _, rfl⟩
theorem oldS {l : List (List UInt8)} {j n : Nat} (h : j < l.length) (e : l.length = n) : ((strRows l).length = n ∧ j < n) ∧ 0 + 1 ≤ ((strRows l).getD j []).length ∧ (((strRows l).getD j []).drop 0).take 1 = tyCells [.d (.s [])] ((strRows l).getD j []) 0 := by
  rw [strRows_getD h, strRows_length]; exact ⟨⟨e, by omega⟩, Nat.le_refl _, rfl⟩
theorem ostT {l : List Bool} {j n : Nat} {x : D} (h : j < l.length) (e : l.length = n) : (boolRows l).length = n ∧ j < n ∧ [x].length = 1 ∧ 0 + [x].length ≤ ((boolRows l).getD j []).length := by
  rw [boolRows_getD h, boolRows_length]; exact ⟨e, by omega, rfl, Nat.le_refl _⟩
theorem rows_setT {l : List Bool} {i : Nat} {x : Bool} (hi : i < l.length) : (boolRows l).set i (setSeg ((boolRows l).getD i []) 0 [D.b x]) = boolRows (l.set i x) := by
  rw [boolRows_getD hi]
  show (boolRows l).set i [D.b x] = _
  rw [boolRows, boolRows, ← List.map_set (f := fun b : Bool => [D.b b])]
theorem intRows_push (l : List Int) (x : Int) : intRows l ++ [[D.i x]] = intRows (l ++ [x]) := by simp [intRows]
theorem strRows_push (l : List (List UInt8)) (x : List UInt8) : strRows l ++ [[D.s x]] = strRows (l ++ [x]) := by simp [strRows]
theorem repT (n : Nat) : List.replicate n [D.b false] = boolRows (List.replicate n false) := by simp [boolRows]

/-! mixing -/
def randNext (x : Int) : Int := if inB x 0 65535 then Int.tmod (wrap64 (wrap64 (x * 25173) + 13849)) 65536 else 0
theorem randNext_range (x : Int) : 0 ≤ randNext x ∧ randNext x < 65536 := by
  unfold randNext
  split
  · rename_i h
    simp [inB] at h
    rw [wrap64_of (n := x * 25173) (by omega), wrap64_of (by omega)]
    exact tmod_range (by omega) (by omega)
  · omega
def l1Ok (b n : Int) : Bool := inB b 1 6 && inB n 0 999
theorem l1Ok_spec {b n : Int} (h : l1Ok b n = true) : (1 ≤ b ∧ b ≤ 6) ∧ 0 ≤ n ∧ n ≤ 999 := by
  simp [l1Ok, inB] at h; omega
def l1Weight (b d : Int) : Int := if d = 1 then wrap64 (wrap64 (Int.tdiv 60 b) + 10) else wrap64 (Int.tdiv 60 (wrap64 (d * wrap64 (d - 1))))
theorem l1Weight_range {b d : Int} (hb : 1 ≤ b ∧ b ≤ 6) (hd : 1 ≤ d ∧ d ≤ 6) : 0 ≤ l1Weight b d ∧ l1Weight b d ≤ 70 ∧ (d = 1 → 10 ≤ l1Weight b d) := by
  obtain ⟨hb1, hb2⟩ := hb
  obtain ⟨hd1, hd2⟩ := hd
  have key : ∀ b : Fin 7, ∀ d : Fin 7, 1 ≤ b.val → 1 ≤ d.val → 0 ≤ l1Weight b.val d.val ∧ l1Weight b.val d.val ≤ 70 ∧ ((d.val : Int) = 1 → 10 ≤ l1Weight b.val d.val) := by decide +kernel
  obtain ⟨m, rfl⟩ := Int.eq_ofNat_of_zero_le (show 0 ≤ b by omega)
  obtain ⟨n, rfl⟩ := Int.eq_ofNat_of_zero_le (show 0 ≤ d by omega)
  exact key ⟨m, by omega⟩ ⟨n, by omega⟩ (by simp; omega) (by simp; omega)
/-- Who looks for a free place from 'at' on comes nearer to it. -/
theorem nearer {b f at_ : Int} (hb : 1 ≤ b ∧ b ≤ 6) (hf : 0 ≤ f ∧ f < b) (ha : 0 ≤ at_ ∧ at_ < b) (hne : at_ ≠ f) :
    ((f + b - Int.tmod (wrap64 (at_ + 1)) b) % b).toNat < ((f + b - at_) % b).toNat ∧ 0 ≤ Int.tmod (wrap64 (at_ + 1)) b ∧ Int.tmod (wrap64 (at_ + 1)) b < b := by
  rw [wrap64_of (by omega)]
  have h := tmod_range (x := at_ + 1) (n := b) (by omega) hb.1
  refine ⟨?_, h⟩
  rw [Int.tmod_eq_emod_of_nonneg (by omega)]
  obtain ⟨h1, h2⟩ := hb
  have : b = 1 ∨ b = 2 ∨ b = 3 ∨ b = 4 ∨ b = 5 ∨ b = 6 := by omega
  rcases this with rfl | rfl | rfl | rfl | rfl | rfl <;> omega
theorem exists_free {u : List Bool} (h : u.count true < u.length) : ∃ f, f < u.length ∧ u.getD f false = false := by
  induction u with
  | nil => simp at h
  | cons x u ih =>
    cases x with
    | false => exact ⟨0, by simp, rfl⟩
    | true =>
      simp at h
      obtain ⟨f, h1, h2⟩ := ih h
      exact ⟨f + 1, by simpa using h1, by simpa using h2⟩
theorem count_set {u : List Bool} {i : Nat} (hi : i < u.length) (h : u.getD i false = false) : (u.set i true).count true = u.count true + 1 := by
  induction u generalizing i with
  | nil => simp at hi
  | cons x u ih =>
    cases i with
    | zero => simp at h; subst h; simp
    | succ i =>
      simp at hi
      have := ih hi (by simpa using h)
      simp only [List.set_cons_succ, List.count_cons, this]
      omega
theorem xor8_range (m n : Int) : xor8 m n = wrap8 (xor8 m n) := by
  unfold xor8
  rw [wrap8_is]
  exact wrap8_wrap8 _
theorem xor8_push (b : List UInt8) (m n : Int) : bytesRows b ++ [[D.u (xor8 m n)]] = bytesRows (b ++ [u8 (xor8 m n)]) := by
  rw [xor8_range]
  rw [rows_push, ← xor8_range]
theorem retQR {T : Tab} {io : List Nat} {rs : List ResultVar} {Qo : St → Prop} {s : St} (σout : St) (hq : Qo σout) (h : RetOk T io rs σout s) : bodyQE T io rs Qo .ret s := ⟨σout, hq, h⟩
end Go.Ab
