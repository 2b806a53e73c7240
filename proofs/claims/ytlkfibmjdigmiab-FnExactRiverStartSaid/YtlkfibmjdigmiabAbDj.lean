/- Plain bytes: one byte set; the sum of bytes with one byte unlike. -/
import Derived.Test.YtlkfibmjdigmiabAbDi
namespace Go.Ab
open Go Go.RowKit
set_option linter.unusedVariables false

def u8 (x : Int) : UInt8 := UInt8.ofNat (wrap8 x).toNat
theorem u8_toNat (x : Int) : ((u8 x).toNat : Int) = wrap8 x := by
  unfold u8 wrap8
  rw [UInt8.toNat_ofNat']
  omega
theorem u8_row (x : Int) : [D.u (wrap8 x)] = [D.u (u8 x).toNat] := by rw [u8_toNat]
theorem rows_push (b : List UInt8) (x : Int) : bytesRows b ++ [[D.u (wrap8 x)]] = bytesRows (b ++ [u8 x]) := by rw [u8_row, ← bytesRows_append]; rfl
theorem repB (n : Nat) : List.replicate n [D.u 0] = bytesRows (List.replicate n 0) := by simp [bytesRows]
theorem rows_set {b : List UInt8} {i : Nat} {x : Int} (hi : i < b.length) (hx : x = wrap8 x) :
    (bytesRows b).set i (setSeg ((bytesRows b).getD i []) 0 [D.u x]) = bytesRows (b.set i (u8 x)) := by
  rw [bytesRows_getD hi]
  have e : setSeg [D.u (b.getD i 0).toNat] 0 [D.u x] = [D.u (u8 x).toNat] := by rw [← u8_row, ← hx]; rfl
  rw [e, bytesRows, bytesRows, ← List.map_set (f := fun b : UInt8 => [D.u (b.toNat : Int)])]
theorem wrap8_wrap8 (x : Int) : wrap8 x = wrap8 (wrap8 x) := by unfold wrap8; omega

/-! the sum -/
theorem fsum_congr {l m : List UInt8} : ∀ {n : Nat}, (∀ k, k < n → l.getD k 0 = m.getD k 0) → fsum l n = fsum m n
  | 0, _ => rfl
  | n + 1, h => by
    unfold fsum
    rw [fsum_congr (n := n) fun k hk => h k (by omega), h n (by omega)]
/-- What does not differ further on keeps the sums apart. -/
theorem fsum_apart {l m : List UInt8} {i : Nat} (hi : fsum l i ≠ fsum m i) : ∀ {n : Nat}, i ≤ n → (∀ k, i ≤ k → k < n → l.getD k 0 = m.getD k 0) → fsum l n ≠ fsum m n
  | 0, h, _ => by obtain rfl : i = 0 := by omega
                  exact hi
  | n + 1, h, hk => by
    by_cases e : i = n + 1
    · subst e; exact hi
    · have ih := fsum_apart hi (n := n) (by omega) fun k h1 h2 => hk k h1 (by omega)
      have h1 := fsum_lt l n
      have h2 := fsum_lt m n
      unfold fsum
      rw [hk n (by omega) (by omega)]
      intro e
      apply ih
      generalize (m.getD n 0).toNat * (n % 1000 + 1) = c at e
      omega
theorem weights : ∀ d, 1 ≤ d → d ≤ 255 → ∀ w, 1 ≤ w → w ≤ 1000 → d * w ≠ 65521 ∧ d * w ≠ 131042 ∧ d * w ≠ 196563 := by
  intro d h1 h2 w h3 h4
  have key : ∀ d, d ≤ 255 → d ≠ 0 → (65521 % d = 0 → 1000 < 65521 / d) ∧ (131042 % d = 0 → 1000 < 131042 / d) ∧ (196563 % d = 0 → 1000 < 196563 / d) := by
    decide +kernel
  obtain ⟨k1, k2, k3⟩ := key d h2 (by omega)
  · have hd : 0 < d := by omega
    refine ⟨fun e => ?_, fun e => ?_, fun e => ?_⟩
    · have := k1 (by rw [← e]; exact Nat.mul_mod_right d w)
      rw [← e, Nat.mul_div_cancel_left w hd] at this; omega
    · have := k2 (by rw [← e]; exact Nat.mul_mod_right d w)
      rw [← e, Nat.mul_div_cancel_left w hd] at this; omega
    · have := k3 (by rw [← e]; exact Nat.mul_mod_right d w)
      rw [← e, Nat.mul_div_cancel_left w hd] at this; omega
theorem fsum_unlike {l m : List UInt8} {i : Nat} (he : ∀ k, k < i → l.getD k 0 = m.getD k 0) (hd : l.getD i 0 ≠ m.getD i 0) : fsum l (i + 1) ≠ fsum m (i + 1) := by
  have h0 := fsum_congr he
  unfold fsum
  rw [h0]
  have h1 := fsum_lt m i
  have ha := u8_lt (l.getD i 0)
  have hb := u8_lt (m.getD i 0)
  have hne : (l.getD i 0).toNat ≠ (m.getD i 0).toNat := fun e => hd (UInt8.toNat_inj.1 e)
  generalize (l.getD i 0).toNat = a at *
  generalize (m.getD i 0).toNat = b at *
  have hw : 1 ≤ i % 1000 + 1 ∧ i % 1000 + 1 ≤ 1000 := by omega
  generalize i % 1000 + 1 = w at *
  intro e
  rcases Nat.lt_or_gt_of_ne hne with h | h
  · obtain ⟨d, rfl⟩ : ∃ d, b = a + d := ⟨b - a, by omega⟩
    have := weights d (by omega) (by omega) w hw.1 hw.2
    have hle : d * w ≤ 255 * 1000 := Nat.mul_le_mul (by omega) hw.2
    have hpos : 0 < d * w := Nat.mul_pos (by omega) (by omega)
    rw [Nat.add_mul] at e
    generalize a * w = x at e
    generalize d * w = y at *
    omega
  · obtain ⟨d, rfl⟩ : ∃ d, a = b + d := ⟨a - b, by omega⟩
    have := weights d (by omega) (by omega) w hw.1 hw.2
    have hle : d * w ≤ 255 * 1000 := Nat.mul_le_mul (by omega) hw.2
    have hpos : 0 < d * w := Nat.mul_pos (by omega) (by omega)
    rw [Nat.add_mul] at e
    generalize b * w = x at e
    generalize d * w = y at *
    omega
theorem getD_set_ne {b : List UInt8} {i k : Nat} {y : UInt8} (h : k ≠ i) : (b.set i y).getD k 0 = b.getD k 0 := by
  rw [List.getD_eq_getElem?_getD, List.getD_eq_getElem?_getD, List.getElem?_set_ne (fun e => h e.symm)]
theorem getD_set_same {b : List UInt8} {i : Nat} {y : UInt8} (h : i < b.length) : (b.set i y).getD i 0 = y := by
  rw [List.getD_eq_getElem?_getD, List.getElem?_set_self h]; rfl
theorem fsum_set {b : List UInt8} {i : Nat} {y : UInt8} (hi : i < b.length) (hy : y ≠ b.getD i 0) : fsum (b.set i y) b.length ≠ fsum b b.length :=
  fsum_apart (i := i + 1) (fsum_unlike (fun k hk => getD_set_ne (by omega)) (by rw [getD_set_same hi]; exact hy)) (by omega) fun k h1 _ => getD_set_ne (by omega)
theorem u8_bump {x : UInt8} {c : Int} (hc : 1 ≤ c ∧ c ≤ 255) : u8 (wrap8 ((x.toNat : Int) + wrap8 c)) ≠ x := by
  intro e
  have h1 := u8_toNat (wrap8 ((x.toNat : Int) + wrap8 c))
  rw [e] at h1
  have := u8_lt x
  unfold wrap8 at h1
  omega
end Go.Ab
