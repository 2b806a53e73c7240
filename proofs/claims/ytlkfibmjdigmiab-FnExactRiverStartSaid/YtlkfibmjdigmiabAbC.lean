/- Ab, part C: operations: what one reads of the abstract state, what it writes there, and that the model's operation does just that. -/
import Derived.Test.YtlkfibmjdigmiabAbB
import Derived.Laws.Tables
import Derived.Great.BuildSlice
import Derived.RowKit3
namespace Go.Ab
open Go Go.RowKit
set_option linter.unusedVariables false

abbrev I (n : Int) : V := .e (.c (.d (.i n)))
abbrev B (x : Bool) : V := .e (.c (.d (.b x)))
abbrev Dv (x : D) : V := .e (.c (.d x))

def Reads (R : List (Loc × Option K)) (σ : St) : Prop := ∀ p ∈ R, look σ p.1 = p.2
theorem Reads.left {R R' : List (Loc × Option K)} {σ : St} (h : Reads (R ++ R') σ) : Reads R σ := fun p hp => h p (List.mem_append_left _ hp)
theorem Reads.right {R R' : List (Loc × Option K)} {σ : St} (h : Reads (R ++ R') σ) : Reads R' σ := fun p hp => h p (List.mem_append_right _ hp)

def OpT (P : Program) (o : Oper) (R : List (Loc × Option K)) (W : List (Loc × K)) : Prop :=
  ∀ (cx : Cx) (σ : St) (ι : Nat → Value) (S : Nat → Prop) (a : Act) (w : World), Reads R σ → RW cx σ ι S a w → (∀ d, o.dst = some d → d < cx.N) →
    ∀ (next : Act → World → Prop) (Q : Exit → Act → World → Prop), (∀ ι' S' a' w', RW cx (upds σ W) ι' S' a' w' → next a' w') → o.wp P a w next Q

theorem opt_val {P : Program} {o : Oper} {d : Nat} {R : List (Loc × Option K)} {x : V} (hd : o.dst = some d)
    (h : ∀ (cx : Cx) (σ : St) (ι : Nat → Value) (S : Nat → Prop) (a : Act) (w : World), Reads R σ → RW cx σ ι S a w → ∃ v, (execOp a.eval o).run P w = .ok (.value v) w ∧ VaR σ ι w S x v) :
    OpT P o R [(.t d, .v x)] := by
  intro cx σ ι S a w hr hw hb next Q hn
  obtain ⟨v, he, hx⟩ := h cx σ ι S a w hr hw
  unfold Oper.wp
  rw [he]
  simp only [Oper.upon, hd]
  exact hn ι S _ w (hw.put (hb d hd) hx)

/-! operands -/
def cconst : Value → C
  | .int .i64 n => .d (.i n)
  | .int .u8 n => .d (.u n)
  | .bool x => .d (.b x)
  | .string s => .d (.s s.data.toList)
  | .slice none 0 0 => .nil
  | v => .d (.x v)
def ev (σ : St) : Operand → Option (V × List (Loc × Option K))
  | .tmp t => match look σ (.t t) with
    | some (.v X) => some (X, [(.t t, some (.v X))])
    | _ => none
  | .const v => if v.oneCell' then some (.e (.c (cconst v)), []) else none
  | _ => none
theorem cconst_sound {σ : St} {ι : Nat → Value} {w : World} {S : Nat → Prop} {v : Value} (h : v.oneCell' = true) : CR σ ι w S (cconst v) v := by
  unfold cconst
  split
  · exact .i _
  · exact .u _
  · exact .b _
  · exact .s _
  · rfl
  · exact .x _ h
theorem ev_reads {σ : St} {x : Operand} {X : V} {R : List (Loc × Option K)} (h : ev σ x = some (X, R)) : Reads R σ := by
  intro p hp
  cases x with
  | tmp t =>
    simp only [ev] at h
    split at h
    · rename_i X' hl
      simp at h
      obtain ⟨rfl, rfl⟩ := h
      simp at hp
      subst hp
      exact hl
    · cases h
  | const v =>
    simp only [ev] at h
    split at h
    · simp at h; obtain ⟨rfl, rfl⟩ := h; simp at hp
    · cases h
  | global g => simp [ev] at h
  | func f => simp [ev] at h
theorem ev_sound {σ0 : St} {x : Operand} {X : V} {R : List (Loc × Option K)} (h : ev σ0 x = some (X, R)) {cx : Cx} {σ : St} {ι : Nat → Value} {S : Nat → Prop} {a : Act} {w : World}
    (hr : Reads R σ) (hw : RW cx σ ι S a w) : VaR σ ι w S X (a.eval x) := by
  cases x with
  | tmp t =>
    simp only [ev] at h
    split at h
    · rename_i X' hl
      simp at h
      obtain ⟨rfl, rfl⟩ := h
      exact hw.vr.slots t _ (hr (.t t, some (.v X')) (by simp))
    · cases h
  | const v =>
    simp only [ev] at h
    split at h
    · rename_i hv
      simp at h; obtain ⟨rfl, rfl⟩ := h
      exact cconst_sound hv
    · cases h
  | global g => simp [ev] at h
  | func f => simp [ev] at h

/-! types -/
inductive TK where
  | int (k : IntKind)
  | bool
  | str
  | sl (e : TypeId)
  | st (fs : List (Nat × TypeId))
  | arr (n : Nat) (e : TypeId)
  | ptr (e : TypeId)
structure TI where
  kind : TK
  size : Nat
  bytes : Nat
  zero : List C
abbrev Tab := TypeId → Option TI
def TK.agg : TK → Bool
  | .st _ | .arr _ _ => true
  | _ => false
def zv : C → Value
  | .d (.i n) => .int .i64 n
  | .d (.u n) => .int .u8 n
  | .d (.b x) => .bool x
  | .d (.s l) => .string ⟨l.toArray⟩
  | .d (.x v) => v
  | _ => .slice none 0 0
def zconst : C → Bool
  | .nil => true
  | .d (.sl _) => false
  | .d (.x v) => v.oneCell'
  | .d _ => true
  | _ => false
theorem zconst_sound {σ : St} {ι : Nat → Value} {w : World} {S : Nat → Prop} {c : C} (h : zconst c = true) : CR σ ι w S c (zv c) := by
  cases c with
  | d x => cases x <;> simp [zconst] at h <;> (simp only [zv, CR]; constructor) <;> assumption
  | nil => rfl
  | _ => simp [zconst] at h
theorem zv_one {c : C} (h : zconst c = true) : (zv c).oneCell' = true := by
  cases c with
  | d x => cases x <;> simp_all [zconst, zv, Value.oneCell']
  | nil => rfl
  | _ => simp [zconst] at h
def TKOk (P : Program) (t : TypeId) : TK → Prop
  | .int k => P.underlying t = some (.int k)
  | .bool => P.underlying t = some .bool
  | .str => P.underlying t = some .string
  | .sl e => P.underlying t = some (.slice e)
  | .st fs => ∃ fields, P.underlying t = some (.struct fields) ∧ fields.toList.map (fun f => (f.offset, f.type)) = fs
  | .arr n e => P.underlying t = some (.array n e)
  | .ptr e => P.underlying t = some (.pointer e)
structure TIOk (P : Program) (t : TypeId) (x : TI) : Prop where
  kind : TKOk P t x.kind
  info : ∃ i z, P.info? t = some i ∧ i.size = x.size ∧ i.bytes = x.bytes ∧ i.zero = some z ∧ z.cells.toList = x.zero.map zv
  zlen : x.zero.length = x.size
  zok : x.zero.all zconst = true
  pos : 0 < x.size
  bpos : 0 < x.bytes
def TabOk (P : Program) (T : Tab) : Prop := ∀ t x, T t = some x → TIOk P t x

section
variable {P : Program} {T : Tab} {t : TypeId} {x : TI} {w : World}
theorem run_sizeOfT (h : TIOk P t x) : (sizeOf t).run P w = .ok x.size w := by
  obtain ⟨i, z, hi, hs, _⟩ := h.info
  simp [sizeOf, typeInfo, hi, hs]
theorem run_isAggT (h : TIOk P t x) : (isAgg t).run P w = .ok x.kind.agg w := by
  have hk := h.kind
  unfold isAgg
  cases hx : x.kind <;> rw [hx] at hk <;> simp only [TKOk] at hk
  case st fs =>
    obtain ⟨fields, hu, _⟩ := hk
    rw [Sem.run_bind, run_underlying hu]; rfl
  all_goals (rw [Sem.run_bind, run_underlying hk]; rfl)
theorem run_zeroT (h : TIOk P t x) : ∃ z, (zeroValue t).run P w = .ok z w ∧ z.cells.toList = x.zero.map zv := by
  obtain ⟨i, z, hi, _, _, hz, hc⟩ := h.info
  exact ⟨z, by simp [zeroValue, typeInfo, hi, hz], hc⟩
theorem run_loadVar_agg (h : TIOk P t x) (hg : x.kind.agg = true) (a : Addr) (cells : List Value) (hl : cells.length = x.size) (hc : ∀ (j : Nat) v, cells[j]? = some v → w.cell? (a.add j) = some v) :
    (loadVar t a).run P w = .ok (.agg cells.toArray) w := by
  have := run_loadCells_list (P := P) w a cells hc
  simp [loadVar, run_isAggT h, hg, run_sizeOfT h, ← hl, this]
theorem run_loadVar_one (h : TIOk P t x) (hg : x.kind.agg = false) (a : Addr) (v : Value) (hc : w.cell? a = some v) : (loadVar t a).run P w = .ok v w := by
  simp [loadVar, run_isAggT h, hg, run_load, hc]
end
end Go.Ab
