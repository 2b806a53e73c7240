/- Plain data and plain functions of the program, with no program in sight. -/
import Derived.Test.YtlkfibmjdigmiabAbZ
namespace Go.Ab
open Go Go.RowKit
set_option linter.unusedVariables false

def inB (n lo hi : Int) : Bool := decide (lo ≤ n) && decide (n ≤ hi)
def isNode (n : Int) : Bool := inB n 0 3
def noteNext (at_ to : Int) : Int := if !isNode at_ || !isNode to || at_ == to then -1 else if at_ < to then at_ + 1 else at_ - 1
theorem wrap64_of {n : Int} (h : -9223372036854775808 ≤ n ∧ n < 9223372036854775808) : wrap64 n = n := by
  unfold wrap64; omega

structure FrameR where
  kind : Int
  src : Int
  dst : Int
  frm : Int
  num : Int
  to : Int
  til : Int
  size : Int
  mix : Int
  data : List UInt8
def FrameR.row (f : FrameR) : List D := [.i f.kind, .i f.src, .i f.dst, .i f.frm, .i f.num, .i f.to, .i f.til, .i f.size, .i f.mix, .s f.data]
abbrev FrameR.V (f : FrameR) : V := .e (.agg [.d (.i f.kind), .d (.i f.src), .d (.i f.dst), .d (.i f.frm), .d (.i f.num), .d (.i f.to), .d (.i f.til), .d (.i f.size), .d (.i f.mix), .d (.s f.data)])
def frameOk (f : FrameR) : Bool :=
  isNode f.src && isNode f.dst && isNode f.frm && isNode f.to && inB f.num 1 99 && inB f.til 1 999 &&
  (if f.kind = 1 then inB f.size 1 24 && inB f.mix 0 999 && decide (f.data.length = 4) && decide (f.dst = noteNext f.src f.to)
   else if f.kind = 2 ∨ f.kind = 3 then decide (f.size = 0) && decide (f.mix = 0) && decide (f.data = []) && decide (f.src = noteNext f.dst f.to) else false)
theorem retOkP {T : Tab} {io : List Nat} {rs : List ResultVar} {s : St} {X Y : V} (h1 : retV T s rs = some X) (hp : plainV Y = true) (e : X = Y) : RetOk T io rs [(.t 0, .v Y)] s := by
  subst e
  exact ⟨X, [], [], h1, ⟨⟨⟨X, rfl, mV_plain hp⟩, trivial⟩, rfl⟩, by simp [retIo, objIds, apartN]; exact fun x _ => .inl rfl⟩

/-! bytes -/
theorem bytesRows_getD {l : List UInt8} {i : Nat} (h : i < l.length) : (bytesRows l).getD i [] = [.u (l.getD i 0).toNat] := by
  rw [List.getD_eq_getElem?_getD, List.getD_eq_getElem?_getD]
  simp [bytesRows, h]
theorem bytesRows_append (l m : List UInt8) : bytesRows l ++ bytesRows m = bytesRows (l ++ m) := by simp [bytesRows]
theorem u8_lt (b : UInt8) : b.toNat < 256 := b.toNat_lt
/-- The sum of the first n bytes. -/
def fsum (l : List UInt8) : Nat → Nat
  | 0 => 0
  | n + 1 => (fsum l n + (l.getD n 0).toNat * (n % 1000 + 1)) % 65521
theorem fsum_lt (l : List UInt8) (n : Nat) : fsum l n < 65521 := by
  cases n with
  | zero => simp [fsum]
  | succ n => exact Nat.mod_lt _ (by decide)
theorem fsum_step (l : List UInt8) (n : Nat) : wrap64 ((fsum l n : Int) + wrap64 (((l.getD n 0).toNat : Int) * wrap64 ((n : Int) % 1000 + 1))) % 65521 = (fsum l (n + 1) : Int) := by
  show _ = (((fsum l n + (l.getD n 0).toNat * (n % 1000 + 1)) % 65521 : Nat) : Int)
  have h1 := fsum_lt l n
  have h2 := u8_lt (l.getD n 0)
  generalize (l.getD n 0).toNat = b at *
  have h3 : (n : Int) % 1000 < 1000 := Int.emod_lt_of_pos _ (by decide)
  have h4 : 0 ≤ (n : Int) % 1000 := Int.emod_nonneg _ (by decide)
  rw [wrap64_of (n := (n : Int) % 1000 + 1) (by omega)]
  have h5 : (b : Int) * ((n : Int) % 1000 + 1) ≤ 255 * 1000 := Int.mul_le_mul (by omega) (by omega) (by omega) (by omega)
  have h6 : 0 ≤ (b : Int) * ((n : Int) % 1000 + 1) := Int.mul_nonneg (by omega) (by omega)
  rw [wrap64_of (n := (b : Int) * ((n : Int) % 1000 + 1)) (by omega), wrap64_of (by omega)]
  have e : ((b * (n % 1000 + 1) : Nat) : Int) = (b : Int) * ((n : Int) % 1000 + 1) := by rw [Int.natCast_mul, Int.natCast_add, Int.natCast_emod]; rfl
  rw [← e]
  generalize b * (n % 1000 + 1) = q
  omega
theorem fsum_stepT (l : List UInt8) (n : Nat) : (wrap64 ((fsum l n : Int) + wrap64 (wrap64 ((l.getD n 0).toNat : Int) * wrap64 (Int.tmod (n : Int) 1000 + 1)))).tmod 65521 = (fsum l (n + 1) : Int) := by
  have h2 := u8_lt (l.getD n 0)
  have h1 := fsum_lt l n
  have h3 : (n : Int) % 1000 < 1000 := Int.emod_lt_of_pos _ (by decide)
  have h4 : 0 ≤ (n : Int) % 1000 := Int.emod_nonneg _ (by decide)
  have h := fsum_step l n
  rw [wrap64_of (n := ((l.getD n 0).toNat : Int)) (by omega), Int.tmod_eq_emod_of_nonneg (by omega : 0 ≤ (n : Int)), Int.tmod_eq_emod_of_nonneg]
  · exact h
  · rw [wrap64_of (n := (n : Int) % 1000 + 1) (by omega)]
    have h5 : ((l.getD n 0).toNat : Int) * ((n : Int) % 1000 + 1) ≤ 255 * 1000 := Int.mul_le_mul (by omega) (by omega) (by omega) (by omega)
    have h6 : 0 ≤ ((l.getD n 0).toNat : Int) * ((n : Int) % 1000 + 1) := Int.mul_nonneg (by omega) (by omega)
    rw [wrap64_of (n := ((l.getD n 0).toNat : Int) * ((n : Int) % 1000 + 1)) (by omega), wrap64_of (by omega)]
    omega
theorem fsum_stepS (l : List UInt8) (n : Nat) : (wrap64 ((fsum l n : Int) + wrap64 (wrap64 (Int.tmod (n : Int) 1000 + 1) * wrap64 ((l.getD n 0).toNat : Int)))).tmod 65521 = (fsum l (n + 1) : Int) := by
  rw [Int.mul_comm]; exact fsum_stepT l n
end Go.Ab
