/- Plain numbers: what a reader picks. -/
import Derived.Test.YtlkfibmjdigmiabAbDh
namespace Go.Ab
open Go Go.RowKit
set_option linter.unusedVariables false

theorem bv_nat {m : Int} (hm : 0 ≤ m) : BitVec.ofInt 64 m = BitVec.ofNat 64 m.toNat := by
  obtain ⟨k, rfl⟩ := Int.eq_ofNat_of_zero_le hm
  exact BitVec.ofInt_natCast ..
theorem xor64_nat {m n : Int} (hm : 0 ≤ m ∧ m < 4611686018427387904) (hn : 0 ≤ n ∧ n < 4611686018427387904) : xor64 m n = ((m.toNat ^^^ n.toNat : Nat) : Int) := by
  have hlt : m.toNat ^^^ n.toNat < 2 ^ 62 := Nat.xor_lt_two_pow (by omega) (by omega)
  show IntKind.i64.wrap ((BitVec.ofInt 64 m ^^^ BitVec.ofInt 64 n).toNat : Int) = _
  rw [bv_nat hm.1, bv_nat hn.1, BitVec.toNat_xor, BitVec.toNat_ofNat, BitVec.toNat_ofNat, Nat.mod_eq_of_lt (by omega), Nat.mod_eq_of_lt (by omega), wrap64_is]
  exact wrap64_of (by omega)
theorem xor64_nonneg {m n : Int} (hm : 0 ≤ m ∧ m < 4611686018427387904) (hn : 0 ≤ n ∧ n < 4611686018427387904) : 0 ≤ xor64 m n := by
  rw [xor64_nat hm hn]; omega
theorem tmod_range {x n : Int} (hx : 0 ≤ x) (hn : 1 ≤ n) : 0 ≤ Int.tmod x n ∧ Int.tmod x n < n :=
  ⟨Int.tmod_nonneg n hx, Int.tmod_lt_of_pos x (by omega)⟩
theorem tdiv_range {x n : Int} (hx : 0 ≤ x) (hn : 1 ≤ n) : 0 ≤ Int.tdiv x n ∧ Int.tdiv x n ≤ x := by
  rw [Int.tdiv_eq_ediv_of_nonneg hx]
  exact ⟨Int.ediv_nonneg hx (by omega), Int.ediv_le_self n hx⟩
theorem pickX {a b k q : Int} (ha : 0 ≤ a ∧ a < 256) (hb : 0 ≤ b ∧ b < 256) (hk : 0 ≤ k ∧ k ≤ 1000000) (hq : 0 ≤ q ∧ q ≤ k) :
    0 ≤ wrap64 (wrap64 (wrap64 (wrap64 (a * 131) + wrap64 (b * 1117)) + wrap64 (k * 29)) + wrap64 (wrap64 q * 53)) ∧ wrap64 (wrap64 (wrap64 (wrap64 (a * 131) + wrap64 (b * 1117)) + wrap64 (k * 29)) + wrap64 (wrap64 q * 53)) < 4611686018427387904 := by
  rw [wrap64_of (n := a * 131) (by omega), wrap64_of (n := b * 1117) (by omega), wrap64_of (n := k * 29) (by omega), wrap64_of (n := q) (by omega), wrap64_of (n := q * 53) (by omega), wrap64_of (n := a * 131 + b * 1117) (by omega), wrap64_of (n := a * 131 + b * 1117 + k * 29) (by omega), wrap64_of (by omega)]
  omega
theorem pickXor {x : Int} (h : 0 ≤ x ∧ x < 4611686018427387904) : 0 ≤ xor64 x (wrap64 (Int.tdiv x 64)) := by
  have := tdiv_range (x := x) (n := 64) h.1 (by omega)
  rw [wrap64_of (by omega)]
  exact xor64_nonneg h ⟨this.1, by omega⟩
end Go.Ab
namespace Go.Ab
open Go Go.RowKit
/-- The number that a reader of the bytes l picks at the place p, under n. -/
def pickV (l : List UInt8) (p n : Int) : Int :=
  if n < 1 ∨ l.length = 0 then 0
  else if p < l.length then Int.tmod (byteI l p.toNat) n
  else Int.tmod (xor64 (wrap64 (wrap64 (wrap64 (wrap64 (byteI l (Int.tmod p l.length).toNat * 131) + wrap64 (byteI l (Int.tmod (wrap64 (wrap64 (p * 7) + 3)) l.length).toNat * 1117)) + wrap64 (p * 29)) + wrap64 (wrap64 (Int.tdiv p l.length) * 53)))
    (wrap64 (Int.tdiv (wrap64 (wrap64 (wrap64 (wrap64 (byteI l (Int.tmod p l.length).toNat * 131) + wrap64 (byteI l (Int.tmod (wrap64 (wrap64 (p * 7) + 3)) l.length).toNat * 1117)) + wrap64 (p * 29)) + wrap64 (wrap64 (Int.tdiv p l.length) * 53))) 64))) n
theorem pickV_range (l : List UInt8) {p n : Int} (hp : 0 ≤ p ∧ p ≤ 1000000) (hn : 1 ≤ n) : 0 ≤ pickV l p n ∧ pickV l p n < n := by
  unfold pickV
  split
  · omega
  · rename_i h
    have hl : ¬ l.length = 0 := fun e => h (.inr e)
    split
    · exact tmod_range (byteI_range _ _).1 hn
    · exact tmod_range (pickXor (pickX (byteI_range _ _) (byteI_range _ _) hp (tdiv_range hp.1 (by omega)))) hn
end Go.Ab
