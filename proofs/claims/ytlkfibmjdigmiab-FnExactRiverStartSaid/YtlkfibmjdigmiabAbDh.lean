/- Plain data: bytes read one by one; frames read from bytes. -/
import Derived.Test.YtlkfibmjdigmiabAbDg
namespace Go.Ab
open Go Go.RowKit
set_option linter.unusedVariables false

theorem ixB {l : List UInt8} {j : Int} (h0 : 0 ≤ j) (h : j < l.length) : (0 ≤ j ∧ j < (bytesRows l).length) ∧ ((bytesRows l).getD j.toNat []).length = 1 := by
  refine ⟨⟨h0, by rw [bytesRows_length]; exact h⟩, ?_⟩
  rw [bytesRows_getD (by omega)]; rfl
theorem ldB {l : List UInt8} {j : Int} (h0 : 0 ≤ j) (h : j < l.length) : 1 ≤ ((bytesRows l).getD j.toNat []).length ∧ ((bytesRows l).getD j.toNat []).take 1 = tyCells [.d (.u 0)] ((bytesRows l).getD j.toNat []) 0 := by
  rw [bytesRows_getD (by omega)]; exact ⟨Nat.le_refl _, rfl⟩
theorem valB {l : List UInt8} {j : Int} (h0 : 0 ≤ j) (h : j < l.length) : toU (((bytesRows l).getD j.toNat []).getD 0 (.i 0)) = ((l.getD j.toNat 0).toNat : Int) := by
  rw [bytesRows_getD (by omega)]; rfl
theorem rowsBytes_cut (l : List UInt8) (a b : Nat) : rowsBytes (((bytesRows l).take b).drop a) = (l.take b).drop a := by
  have := rowsBytes_bytesRows ((l.take b).drop a)
  rw [← this]
  congr 1
  simp [bytesRows]
theorem bytesRows_cut (l : List UInt8) (a b : Nat) : ((bytesRows l).take b).drop a = bytesRows ((l.take b).drop a) := by simp [bytesRows]
def scalDB : D → Bool
  | .sl rows => rows.isEmpty
  | _ => true
def scalCB : C → Bool
  | .d x => scalDB x
  | .rp _ => false
  | _ => true
def scalEB : E → Bool
  | .c x => scalCB x
  | .agg cs => cs.all scalCB
def scalVB : V → Bool
  | .e x => scalEB x
  | .tup xs => xs.all scalEB
theorem scalCB_spec {c : C} (h : scalCB c = true) : scalarC c := by
  cases c with
  | d x => cases x <;> first | trivial | exact List.isEmpty_iff.1 h
  | rp _ => cases h
  | _ => trivial
theorem scalEB_spec {c : E} (h : scalEB c = true) : scalarE c := by
  cases c with
  | c x => exact scalCB_spec h
  | agg cs => exact fun c hc => scalCB_spec (List.all_eq_true.1 h c hc)
theorem scalVB_spec {c : V} (h : scalVB c = true) : scalarV c := by
  cases c with
  | e x => exact scalEB_spec h
  | tup cs => exact fun c hc => scalEB_spec (List.all_eq_true.1 h c hc)
theorem scalarSt_v {X : V} (h : scalVB X = true) : scalarSt [(.t 0, .v X)] := by
  intro p hp
  simp at hp
  subst hp
  exact scalVB_spec h

/-! a copy, byte by byte -/
def partB (l : List UInt8) (i : Nat) : List UInt8 := l.take i ++ List.replicate (l.length - i) 0
theorem partB_length {l : List UInt8} {i : Nat} (h : i ≤ l.length) : (partB l i).length = l.length := by simp [partB]; omega
theorem partB_zero (l : List UInt8) : List.replicate l.length [D.u 0] = bytesRows (partB l 0) := by simp [partB, bytesRows]
theorem partB_full (l : List UInt8) : partB l l.length = l := by simp [partB]
theorem partB_set {l : List UInt8} {i : Nat} {x : Int} (hi : i < l.length) (hx : x = (l.getD i 0).toNat) :
    (bytesRows (partB l i)).set i (setSeg ((bytesRows (partB l i)).getD i []) 0 [D.u x]) = bytesRows (partB l (i + 1)) := by
  subst hx
  rw [bytesRows_getD (by rw [partB_length (by omega)]; exact hi)]
  have e : setSeg [D.u ((partB l i).getD i 0).toNat] 0 [D.u (l.getD i 0).toNat] = [D.u (l.getD i 0).toNat] := rfl
  rw [e, bytesRows, bytesRows, ← List.map_set (f := fun b : UInt8 => [D.u (b.toNat : Int)])]
  congr 1
  unfold partB
  rw [List.set_append_right (h := by simp; omega), List.length_take, Nat.min_eq_left (by omega), Nat.sub_self, show l.length - i = (l.length - (i + 1)) + 1 by omega, List.replicate_succ, List.set_cons_zero, List.take_add_one, List.append_assoc]
  congr 1
  rw [List.getD_eq_getElem?_getD, List.getElem?_eq_getElem hi]
  rfl

/-! frames read from bytes -/
def byteI (l : List UInt8) (i : Nat) : Int := (l.getD i 0).toNat
theorem byteI_range (l : List UInt8) (i : Nat) : 0 ≤ byteI l i ∧ byteI l i < 256 := by
  have := u8_lt (l.getD i 0)
  unfold byteI; omega
theorem valB' {l : List UInt8} {j : Int} (i : Nat) (e : j = i) (h : i < l.length) : toU (((bytesRows l).getD j.toNat []).getD 0 (.i 0)) = byteI l i := by
  subst e
  rw [valB (by omega) (by omega)]; rfl
theorem valW {l : List UInt8} {j : Int} (h0 : 0 ≤ j) (h : j.toNat < l.length) : wrap64 (toU (((bytesRows l).getD j.toNat []).getD 0 (.i 0))) = byteI l j.toNat := by
  rw [valB h0 (by omega)]
  have := byteI_range l j.toNat
  exact wrap64_of (by unfold byteI at this; omega)
theorem wrap_pair {x y : Int} (h : 0 ≤ x ∧ x < 256) (k : 0 ≤ y ∧ y < 256) : wrap64 (wrap64 (x * 256) + y) = x * 256 + y ∧ wrap64 (wrap64 (256 * x) + y) = x * 256 + y := by
  constructor
  · rw [wrap64_of (n := x * 256) (by omega), wrap64_of (by omega)]
  · rw [wrap64_of (n := 256 * x) (by omega), wrap64_of (by omega)]; omega
def zeroFrame : FrameR := ⟨0, 0, 0, 0, 0, 0, 0, 0, 0, []⟩
def readFrame (l : List UInt8) : FrameR :=
  ⟨byteI l 0, byteI l 1, byteI l 2, byteI l 3, byteI l 4, byteI l 5, byteI l 6 * 256 + byteI l 7,
   if l.length = 17 then byteI l 8 else 0, if l.length = 17 then byteI l 9 * 256 + byteI l 10 else 0, if l.length = 17 then (l.take 15).drop 11 else []⟩
def unpackOk (l : List UInt8) : Bool := (l.length == 10 || l.length == 17) && framePack (readFrame l) == l
def unpackF (l : List UInt8) : FrameR := if unpackOk l then readFrame l else zeroFrame
end Go.Ab
