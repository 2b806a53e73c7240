/- Ab, part D: the operations that write no memory. -/
import Derived.Test.YtlkfibmjdigmiabAbC
import Derived.Laws.BitsLemmas
namespace Go.Ab
open Go Go.RowKit
set_option linter.unusedVariables false
set_option linter.unusedSimpArgs false

abbrev Res := Option (Prop × List (Loc × Option K) × List (Loc × K))
/-- What an operation's abstract answer is worth. -/
def Good (P : Program) (o : Oper) (σ : St) (r : Res) : Prop := ∀ p R W, r = some (p, R, W) → p → OpT P o R W ∧ Reads R σ

/-- An operation on one operand whose answer goes to slot d. -/
def lift1 (σ : St) (x : Operand) (d : Option Tmp) (f : V → Option (Prop × List (Loc × Option K) × V)) : Res :=
  match ev σ x, d with
  | some (X, R), some d => match f X with
    | some (p, R', Y) => some (p, R ++ R', [(.t d, .v Y)])
    | none => none
  | _, _ => none
def lift2 (σ : St) (x y : Operand) (d : Option Tmp) (f : V → V → Option (Prop × List (Loc × Option K) × V)) : Res :=
  match ev σ x, ev σ y, d with
  | some (X, R), some (Y, R2), some d => match f X Y with
    | some (p, R', Z) => some (p, R ++ R2 ++ R', [(.t d, .v Z)])
    | none => none
  | _, _, _ => none
theorem Reads.append {R R' : List (Loc × Option K)} {σ : St} (h : Reads R σ) (h' : Reads R' σ) : Reads (R ++ R') σ := fun p hp => (List.mem_append.1 hp).elim (h p) (h' p)
theorem Reads.nil {σ : St} : Reads [] σ := fun _ h => by cases h
theorem Reads.one {σ : St} {l : Loc} {k : Option K} (h : look σ l = k) : Reads [(l, k)] σ := fun p hp => by simp at hp; subst hp; exact h
theorem good_lift1 {P : Program} {o : Oper} {σ0 : St} {x : Operand} {f : V → Option (Prop × List (Loc × Option K) × V)}
    (hf : ∀ X p R Y, f X = some (p, R, Y) → p → Reads R σ0 ∧ ∀ (cx : Cx) (σ : St) (ι : Nat → Value) (S : Nat → Prop) (a : Act) (w : World), Reads R σ → RW cx σ ι S a w → VaR σ ι w S X (a.eval x) →
      ∃ v, (execOp a.eval o).run P w = .ok (.value v) w ∧ VaR σ ι w S Y v) : Good P o σ0 (lift1 σ0 x o.dst f) := by
  intro p R W h hp
  unfold lift1 at h
  split at h
  · rename_i X Rx d hx hd
    split at h
    · rename_i p' R' Y hfx
      simp only [Option.some.injEq, Prod.mk.injEq] at h
      obtain ⟨rfl, rfl, rfl⟩ := h
      obtain ⟨h1, h2⟩ := hf X p' R' Y hfx hp
      exact ⟨opt_val hd fun cx σ ι S a w hr hw => h2 cx σ ι S a w hr.right hw (ev_sound hx hr.left hw), (ev_reads hx).append h1⟩
    · cases h
  · cases h
theorem good_lift2 {P : Program} {o : Oper} {σ0 : St} {x y : Operand} {f : V → V → Option (Prop × List (Loc × Option K) × V)}
    (hf : ∀ X Y p R Z, f X Y = some (p, R, Z) → p → Reads R σ0 ∧ ∀ (cx : Cx) (σ : St) (ι : Nat → Value) (S : Nat → Prop) (a : Act) (w : World), Reads R σ → RW cx σ ι S a w → VaR σ ι w S X (a.eval x) → VaR σ ι w S Y (a.eval y) →
      ∃ v, (execOp a.eval o).run P w = .ok (.value v) w ∧ VaR σ ι w S Z v) : Good P o σ0 (lift2 σ0 x y o.dst f) := by
  intro p R W h hp
  unfold lift2 at h
  split at h
  · rename_i X Rx Y Ry d hx hy hd
    split at h
    · rename_i p' R' Z hfx
      simp only [Option.some.injEq, Prod.mk.injEq] at h
      obtain ⟨rfl, rfl, rfl⟩ := h
      obtain ⟨h1, h2⟩ := hf X Y p' R' Z hfx hp
      exact ⟨opt_val hd fun cx σ ι S a w hr hw => h2 cx σ ι S a w hr.right hw (ev_sound hx hr.left.left hw) (ev_sound hy hr.left.right hw), ((ev_reads hx).append (ev_reads hy)).append h1⟩
    · cases h
  · cases h

/-! move, assign, nilCheck -/
def fId : V → Option (Prop × List (Loc × Option K) × V) := fun X => some (True, [], X)
theorem good_move {P : Program} {o : Oper} {σ : St} {x : Operand} (ho : o.op = .move x ∨ o.op = .assign x) : Good P o σ (lift1 σ x o.dst fId) :=
  good_lift1 fun X p R Y h _ => by
    cases h
    refine ⟨Reads.nil, fun cx σ ι S a w _ _ hx => ⟨a.eval x, ?_, hx⟩⟩
    rcases ho with ho | ho <;> simp [execOp, ho]
def fNilCheck : V → Option (Prop × List (Loc × Option K) × V)
  | .e (.c (.pt o k)) => some (True, [], .e (.c (.pt o k)))
  | _ => none
theorem good_nilCheck {P : Program} {T : Tab} {o : Oper} {σ0 : St} {x : Operand} (ho : o.op = .nilCheck x) :
    Good P o σ0 (lift1 σ0 x o.dst fun X => match X with
      | .e (.c (.pt ob k)) => match look σ0 (.o ob) with
        | some (.box ty cs) => some (True, [(.o ob, some (.box ty cs))], .e (.c (.pt ob k)))
        | _ => none
      | _ => none) :=
  good_lift1 fun X p R Y h _ => by
    split at h
    · rename_i ob k
      split at h
      · rename_i ty cs hl
        cases h
        refine ⟨Reads.one hl, fun cx σ ι S a w hr hw hx => ?_⟩
        have hl' := hr (.o ob, some (.box ty cs)) (by simp)
        have hx' : CR σ ι w S (.pt ob k) (a.eval x) := hx
        obtain ⟨_, h2⟩ := hx'
        rcases h2 with ⟨ty', cs', hl2, b, hi, hv⟩ | hd
        · exact ⟨a.eval x, by simp [execOp, ho, hv], hx⟩
        · dsimp only at hl'; rw [hl'] at hd; cases hd
      · cases h
    · cases h

/-! tuples -/
def fExtract (i : Nat) : V → Option (Prop × List (Loc × Option K) × V)
  | .tup xs => match xs[i]? with
    | some x => some (True, [], .e x)
    | none => none
  | _ => none
theorem good_extract {P : Program} {o : Oper} {σ : St} {x : Operand} {i : Nat} (ho : o.op = .extract x i) : Good P o σ (lift1 σ x o.dst (fExtract i)) :=
  good_lift1 fun X p R Y h _ => by
    unfold fExtract at h
    split at h
    · rename_i xs
      split at h
      · rename_i y hy
        cases h
        refine ⟨Reads.nil, fun cx σ ι S a w _ _ hx => ?_⟩
        obtain ⟨vs, hv, hl, hk⟩ := hx
        have hi : i < vs.length := by rw [hl]; exact (List.getElem?_eq_some_iff.1 hy).1
        exact ⟨vs[i], by simp [execOp, ho, hv, Instr.extract, hi], hk i y _ hy (List.getElem?_eq_getElem hi)⟩
      · cases h
    · cases h

/-! integers, bools, strings -/
def xor64 (m n : Int) : Int := IntKind.i64.wrap ((BitVec.ofInt IntKind.i64.bits m ^^^ BitVec.ofInt IntKind.i64.bits n).toNat)
def xor8 (m n : Int) : Int := IntKind.u8.wrap ((BitVec.ofInt IntKind.u8.bits m ^^^ BitVec.ofInt IntKind.u8.bits n).toNat)
def wrap8 (n : Int) : Int := n % 256
theorem wrap64_is (n : Int) : IntKind.i64.wrap n = wrap64 n := IntKind.wrap_i64 n
theorem wrap8_is (n : Int) : IntKind.u8.wrap n = wrap8 n := by
  simp [IntKind.wrap, IntKind.bits, IntKind.signed, wrap8]
def strMax : Nat := 9223372036854775807
/-- A binary operator on data: a condition, and the answer. -/
def bin : BinOp → D → D → Option (Prop × D)
  | .add, .i m, .i n => some (True, .i (wrap64 (m + n)))
  | .sub, .i m, .i n => some (True, .i (wrap64 (m - n)))
  | .mul, .i m, .i n => some (True, .i (wrap64 (m * n)))
  | .quo, .i m, .i n => some (n ≠ 0, .i (wrap64 (m.tdiv n)))
  | .rem, .i m, .i n => some (n ≠ 0, .i (m.tmod n))
  | .xor, .i m, .i n => some (True, .i (xor64 m n))
  | .eql, .i m, .i n => some (True, .b (m == n))
  | .neq, .i m, .i n => some (True, .b (m != n))
  | .lss, .i m, .i n => some (True, .b (decide (m < n)))
  | .leq, .i m, .i n => some (True, .b (decide (m ≤ n)))
  | .gtr, .i m, .i n => some (True, .b (decide (m > n)))
  | .geq, .i m, .i n => some (True, .b (decide (m ≥ n)))
  | .add, .u m, .u n => some (True, .u (wrap8 (m + n)))
  | .sub, .u m, .u n => some (True, .u (wrap8 (m - n)))
  | .xor, .u m, .u n => some (True, .u (xor8 m n))
  | .eql, .u m, .u n => some (True, .b (m == n))
  | .neq, .u m, .u n => some (True, .b (m != n))
  | .lss, .u m, .u n => some (True, .b (decide (m < n)))
  | .leq, .u m, .u n => some (True, .b (decide (m ≤ n)))
  | .gtr, .u m, .u n => some (True, .b (decide (m > n)))
  | .geq, .u m, .u n => some (True, .b (decide (m ≥ n)))
  | .add, .s l, .s r => some (l.length + r.length ≤ strMax, .s (l ++ r))
  | .eql, .s l, .s r => some (True, .b (l == r))
  | .neq, .s l, .s r => some (True, .b (!(l == r)))
  | _, _, _ => none
theorem toList_mk (l : List UInt8) : (⟨l.toArray⟩ : ByteArray).toList = l := by
  have h : ∀ (n i : Nat) (acc : List UInt8), l.length - i = n → ByteArray.toList.loop ⟨l.toArray⟩ i acc = acc.reverse ++ l.drop i := by
    intro n
    induction n with
    | zero =>
      intro i acc hn
      unfold ByteArray.toList.loop
      have : ¬ i < (⟨l.toArray⟩ : ByteArray).size := by show ¬ i < l.toArray.size; simp; omega
      rw [if_neg this, List.drop_eq_nil_of_le (by omega)]
      simp
    | succ n ih =>
      intro i acc hn
      unfold ByteArray.toList.loop
      have hi : i < l.length := by omega
      have : i < (⟨l.toArray⟩ : ByteArray).size := by show i < l.toArray.size; simpa using hi
      rw [if_pos this, ih (i + 1) _ (by omega), List.drop_eq_getElem_cons hi]
      have hg : (⟨l.toArray⟩ : ByteArray).get! i = l[i] := by
        show l.toArray[i]! = l[i]
        simp [hi]
      rw [hg]; simp
  unfold ByteArray.toList
  rw [h _ 0 [] rfl]; simp
theorem size_mk (l : List UInt8) : (⟨l.toArray⟩ : ByteArray).size = l.length := by show l.toArray.size = l.length; simp
theorem append_mk (l r : List UInt8) : (⟨l.toArray⟩ : ByteArray) ++ ⟨r.toArray⟩ = ⟨(l ++ r).toArray⟩ := by
  apply ByteArray.ext
  rw [ByteArray.data_append]
  simp
theorem run_eqGuard_int {P : Program} {w : World} (op : BinOp) (t : TypeId) (x y : Operand) (k k' : IntKind) (m n : Int) : (eqGuard op t x y (.int k m) (.int k' n)).run P w = .ok () w := by
  cases op <;> rfl
theorem run_eqGuard_str {P : Program} {w : World} (op : BinOp) (t : TypeId) (x y : Operand) (m n : ByteArray) : (eqGuard op t x y (.string m) (.string n)).run P w = .ok () w := by
  cases op <;> rfl
theorem run_eqGuard_bool {P : Program} {w : World} (op : BinOp) (t : TypeId) (x y : Operand) (m n : Bool) : (eqGuard op t x y (.bool m) (.bool n)).run P w = .ok () w := by
  cases op <;> rfl
theorem bin_sound {P : Program} {w : World} {S : Nat → Prop} {op : BinOp} {x y z : D} {p : Prop} {vx vy : Value} (h : bin op x y = some (p, z)) (hp : p) (hx : DR w S x vx) (hy : DR w S y vy) (t : TypeId) (ox oy : Operand) :
    ∃ v, (do eqGuard op t ox oy vx vy; binOp op t vx vy : Sem Value).run P w = .ok v w ∧ DR w S z v := by
  cases hx <;> cases hy <;> cases op <;> first
    | (simp only [bin] at h; cases h; done)
    | (simp only [bin, Option.some.injEq, Prod.mk.injEq] at h
       obtain ⟨rfl, rfl⟩ := h
       first
        | (refine ⟨_, ?_, DR.i _⟩; rw [Sem.run_bind, run_eqGuard_int]; rfl)
        | (refine ⟨_, ?_, DR.u _⟩; rw [Sem.run_bind, run_eqGuard_int]; rfl)
        | (refine ⟨_, ?_, DR.i _⟩; simp [run_eqGuard_int, binOp, Op.intArith, Op.intDiv, Op.intBits, Op.intCmp, wrap64_is, hp, xor64, IntKind.bits]; done)
        | (refine ⟨_, ?_, DR.b _⟩; simp [run_eqGuard_int, binOp, Op.intArith, Op.intDiv, Op.intBits, Op.intCmp, run_eqGuard_str, Op.stringOp, toList_mk]; done)
        | (refine ⟨_, ?_, DR.u _⟩; simp [run_eqGuard_int, binOp, Op.intArith, Op.intDiv, Op.intBits, Op.intCmp, wrap8_is, xor8, IntKind.bits, wrap8]; done)
        | (refine ⟨_, ?_, DR.s _⟩; simp only [strMax] at hp; simp [run_eqGuard_str, binOp, Op.stringOp, append_mk, size_mk, IntKind.max, IntKind.bits, IntKind.signed]; omega))
end Go.Ab
