/- Ab, part A: abstract states over plain data, and what it means that a world realizes one. Nothing of any program stands here. -/
import Derived.Tactics
import Derived.Orders
import Derived.Laws.AppendOwn
import Derived.Laws.MakeOwn
import Derived.Laws.BytesString
import Derived.Laws.Slices
import Derived.Below
namespace Go.Ab
open Go Go.RowKit
set_option linter.unusedVariables false

/-- Data that is only read: one cell's value, or a slice of rows of cells. -/
inductive D where
  | i (n : Int)
  | u (n : Int)
  | b (x : Bool)
  | s (l : List UInt8)
  | x (v : Value)
  | sl (rows : List (List D))

/-- What one cell may hold: data; the nil slice; a slice, or a pointer, into an object of the call's own; a pointer to cells that are only read. -/
inductive C where
  | d (x : D)
  | nil
  | own (o n : Nat)
  | pt (o k : Nat)
  | pe (o n i k : Nat)
  | rp (cs : List D)

inductive E where
  | c (x : C)
  | agg (cs : List C)

inductive V where
  | e (x : E)
  | tup (xs : List E)

/-- What an abstract place holds: a slot its value; an object its cells (a variable) or its rows (the array behind a slice of the call's own). -/
inductive K where
  | v (x : V)
  | box (ty : TypeId) (cs : List C)
  | row (e : TypeId) (es : Nat) (rows : List (List D))
  | dead
  | cv (s : Nat) (want b : Bool) (x : V)

inductive Loc where
  | t (s : Nat)
  | o (n : Nat)
  deriving DecidableEq

abbrev St := List (Loc × K)

def look : St → Loc → Option K
  | [], _ => none
  | p :: r, m => if p.1 = m then some p.2 else look r m
def upd : St → Loc → K → St
  | [], m, k => [(m, k)]
  | p :: r, m, k => if p.1 = m then (m, k) :: r else p :: upd r m k
def upds : St → List (Loc × K) → St
  | s, [] => s
  | s, p :: r => upds (upd s p.1 p.2) r

theorem look_upd (s : St) (m : Loc) (k : K) (l : Loc) : look (upd s m k) l = if m = l then some k else look s l := by
  induction s with
  | nil => simp [look, upd]
  | cons p r ih =>
    unfold upd
    by_cases h : p.1 = m
    · rw [if_pos h]
      by_cases h2 : m = l
      · simp [look, h2]
      · simp [look, h2, h]
    · rw [if_neg h]
      by_cases h2 : p.1 = l
      · have : m ≠ l := fun e => h (h2.trans e.symm)
        simp [look, h2, this]
      · simp [look, h2, ih]
theorem look_upd_same (s : St) (m : Loc) (k : K) : look (upd s m k) m = some k := by rw [look_upd, if_pos rfl]
theorem look_upd_ne (s : St) {m l : Loc} (k : K) (h : m ≠ l) : look (upd s m k) l = look s l := by rw [look_upd, if_neg h]

/-- The data x reads as the value v in the world w; every block that the reading meets is one of S. -/
inductive DR (w : World) (S : Nat → Prop) : D → Value → Prop
  | i (n : Int) : DR w S (.i n) (.int .i64 n)
  | u (n : Int) : DR w S (.u n) (.int .u8 n)
  | b (x : Bool) : DR w S (.b x) (.bool x)
  | s (l : List UInt8) : DR w S (.s l) (.string ⟨l.toArray⟩)
  | x (v : Value) (h : v.oneCell' = true) : DR w S (.x v) v
  | sl (rows : List (List D)) (a : Option Addr) (cap es : Nat) (ad : Addr) (u : Nat → Nat → Value)
      (hc : rows.length ≤ cap) (hm : cap ≤ maxLen) (he : ∀ r ∈ rows, r.length = es)
      (ha : rows ≠ [] → a = some ad) (hw : ∀ i r k d, rows[i]? = some r → r[k]? = some d → S ad.block ∧ w.cell? (ad.add (i * es + k)) = some (u i k))
      (hd : ∀ i r k d, rows[i]? = some r → r[k]? = some d → DR w S d (u i k)) : DR w S (.sl rows) (.slice a rows.length cap)

theorem DR.oneCell {w : World} {S : Nat → Prop} {d : D} {v : Value} (h : DR w S d v) : v.oneCell' = true := by
  cases h <;> first | rfl | assumption

theorem DR.mono {w w' : World} {S S' : Nat → Prop} (hS : ∀ b, S b → S' b) (hw : ∀ b, S b → w'.heap[b]? = w.heap[b]?) {d : D} {v : Value} (h : DR w S d v) : DR w' S' d v := by
  induction h with
  | i n => exact .i n
  | u n => exact .u n
  | b x => exact .b x
  | s l => exact .s l
  | x v h => exact .x v h
  | sl rows a cap es ad u hc hm he ha h1 hd ih =>
    refine .sl rows a cap es ad u hc hm he ha (fun i r k d hi hk => ?_) ih
    obtain ⟨hs, hcell⟩ := h1 i r k d hi hk
    refine ⟨hS _ hs, ?_⟩
    have hb : (ad.add (i * es + k)).block = ad.block := by unfold Addr.add; split <;> rfl
    rw [World.cell?_of_block (w := w) (by rw [hb]; exact hw _ hs)]
    exact hcell

/-- The block that a value points into. -/
def blk : Value → Option Nat
  | .pointer (some a) => some a.block
  | .slice (some a) _ _ => some a.block
  | _ => none

/-- What a cell's content says of the value there. ι gives each object its pointer, or its present slice. -/
def CR (σ : St) (ι : Nat → Value) (w : World) (S : Nat → Prop) : C → Value → Prop
  | .d x, v => DR w S x v
  | .nil, v => v = .slice none 0 0
  | .own o n, v => v.oneCell' = true ∧ ((∃ e es rows, look σ (.o o) = some (.row e es rows) ∧ n ≤ rows.length ∧ (rows.length = n → v = ι o)) ∨ look σ (.o o) = some .dead)
  | .pt o k, v => v.oneCell' = true ∧ ((∃ ty cs, look σ (.o o) = some (.box ty cs) ∧ ∃ b, ι o = .pointer (some ⟨b, 0, none⟩) ∧ v = .pointer (some ⟨b, k, none⟩)) ∨ look σ (.o o) = some .dead)
  | .pe o n i k, v => v.oneCell' = true ∧ ((∃ e es rows, look σ (.o o) = some (.row e es rows) ∧ n ≤ rows.length ∧ (rows.length = n → ∃ g off cap, ι o = .slice (some ⟨g, off, none⟩) n cap ∧ v = .pointer (some ⟨g, off + i * es + k, none⟩))) ∨ look σ (.o o) = some .dead)
  | .rp cs, v => ∃ ad, v = .pointer (some ad) ∧ ∀ (k : Nat) d, cs[k]? = some d → S ad.block ∧ ∃ u, w.cell? (ad.add k) = some u ∧ DR w S d u

def ER (σ : St) (ι : Nat → Value) (w : World) (S : Nat → Prop) : E → Value → Prop
  | .c x, v => CR σ ι w S x v
  | .agg cs, v => ∃ vs : List Value, v = .agg vs.toArray ∧ vs.length = cs.length ∧ ∀ (k : Nat) c u, cs[k]? = some c → vs[k]? = some u → CR σ ι w S c u
def VaR (σ : St) (ι : Nat → Value) (w : World) (S : Nat → Prop) : V → Value → Prop
  | .e x, v => ER σ ι w S x v
  | .tup xs, v => ∃ vs : List Value, v = .tuple vs.toArray ∧ vs.length = xs.length ∧ ∀ (k : Nat) x u, xs[k]? = some x → vs[k]? = some u → ER σ ι w S x u
/-- No cell of the row is frozen. -/
def FzOk (fz : Nat × Nat) (n : Nat) : Prop := fz = (0, 0) ∨ n ≤ fz.1
/-- What an object's content says of the world. -/
def OR (σ : St) (ι : Nat → Value) (w : World) (S : Nat → Prop) (p : Value) : K → Prop
  | .v _ => True
  | .dead => True
  | .cv .. => True
  | .box ty cs => ∃ (b : Nat) (vs : Array Value), p = .pointer (some ⟨b, 0, none⟩) ∧ w.heap[b]? = some (.cells vs ty (0, 0)) ∧ vs.size = cs.length ∧ ∀ (k : Nat) c u, cs[k]? = some c → vs[k]? = some u → CR σ ι w S c u
  | .row e es rows => (p = .slice none 0 0 ∧ rows = []) ∨ ∃ (g off cap : Nat) (cur : Array Value) (fz : Nat × Nat), p = .slice (some ⟨g, off, none⟩) rows.length cap ∧ w.heap[g]? = some (.cells cur e fz) ∧ FzOk fz cur.size ∧
      rows.length ≤ cap ∧ cap ≤ maxLen ∧ off + cap * es ≤ cur.size ∧ ∀ (i : Nat) r, rows[i]? = some r → r.length = es ∧ ∀ (k : Nat) d, r[k]? = some d → ∃ u, cur[off + i * es + k]? = some u ∧ DR w S d u

def K.live : K → Prop
  | .box .. | .row .. => True
  | _ => False
/-- The block b is the object o's own: this call may write there, and none of what is only read lies there. -/
def Mut (σ : St) (ι : Nat → Value) (o b : Nat) : Prop := (∃ k, look σ (.o o) = some k ∧ k.live) ∧ blk (ι o) = some b

/-- What a slot's content says of the value there. -/
def SlotR (σ : St) (ι : Nat → Value) (w : World) (S : Nat → Prop) : K → Value → Prop
  | .v x, v => VaR σ ι w S x v
  | .cv _ _ b x, v => (b = true → VaR σ ι w S x v) ∧ (b = false → v = undef)
  | _, _ => True

structure VR (σ : St) (ι ν : Nat → Value) (S : Nat → Prop) (w : World) : Prop where
  slots : ∀ s k, look σ (.t s) = some k → SlotR σ ι w S k (ν s)
  objs : ∀ o k, look σ (.o o) = some k → OR σ ι w S (ι o) k
  mutS : ∀ o b, Mut σ ι o b → ¬ S b
  inj : ∀ o o' b, Mut σ ι o b → Mut σ ι o' b → o = o'
  sz : ∀ b, S b → b < w.heap.size

/-- How an object may go on: the references that others hold to it stay true. -/
def Evo (p p' : Value) : K → K → Prop
  | _, .dead => True
  | .box _ _, .box _ _ => p' = p
  | .row _ es r, .row _ es' r' => es' = es ∧ r.length ≤ r'.length ∧ (r'.length = r.length → p' = p)
  | .v _, _ => True
  | .cv .., _ => True
  | .dead, _ => False
  | _, _ => False

structure Step (σ : St) (ι : Nat → Value) (S : Nat → Prop) (w : World) (σ' : St) (ι' : Nat → Value) (S' : Nat → Prop) (w' : World) : Prop where
  sub : ∀ b, S b → S' b
  keep : ∀ b, S b → w'.heap[b]? = w.heap[b]?
  evo : ∀ o k, look σ (.o o) = some k → ∃ k', look σ' (.o o) = some k' ∧ Evo (ι o) (ι' o) k k'

section
variable {σ σ' : St} {ι ι' ν : Nat → Value} {S S' : Nat → Prop} {w w' : World}
theorem CR.step (h : Step σ ι S w σ' ι' S' w') {c : C} {v : Value} (hc : CR σ ι w S c v) : CR σ' ι' w' S' c v := by
  cases c with
  | d x => exact DR.mono h.sub h.keep hc
  | nil => exact hc
  | own o n =>
    obtain ⟨h1, h2⟩ := hc
    refine ⟨h1, ?_⟩
    rcases h2 with ⟨e, es, rows, hl, hn, hv⟩ | hl
    · obtain ⟨k', hl', hev⟩ := h.evo o _ hl
      cases k' <;> simp only [Evo] at hev
      case dead => exact .inr hl'
      case row e' es' rows' => exact .inl ⟨e', es', rows', hl', by omega, fun hh => by rw [hv (by omega)]; exact (hev.2.2 (by omega)).symm⟩
    · obtain ⟨k', hl', hev⟩ := h.evo o _ hl
      cases k' <;> simp only [Evo] at hev
      exact .inr hl'
  | pt o k =>
    obtain ⟨h1, h2⟩ := hc
    refine ⟨h1, ?_⟩
    rcases h2 with ⟨ty, cs, hl, b, hi, hv⟩ | hl
    · obtain ⟨k', hl', hev⟩ := h.evo o _ hl
      cases k' <;> simp only [Evo] at hev
      case dead => exact .inr hl'
      case box ty' cs' => exact .inl ⟨ty', cs', hl', b, by rw [hev]; exact hi, hv⟩
    · obtain ⟨k', hl', hev⟩ := h.evo o _ hl
      cases k' <;> simp only [Evo] at hev
      exact .inr hl'
  | pe o n i k =>
    obtain ⟨h1, h2⟩ := hc
    refine ⟨h1, ?_⟩
    rcases h2 with ⟨e, es, rows, hl, hn, hv⟩ | hl
    · obtain ⟨k', hl', hev⟩ := h.evo o _ hl
      cases k' <;> simp only [Evo] at hev
      case dead => exact .inr hl'
      case row e' es' rows' =>
        refine .inl ⟨e', es', rows', hl', by omega, fun hh => ?_⟩
        obtain ⟨g, off, cap, hi, hvv⟩ := hv (by omega)
        exact ⟨g, off, cap, by rw [hev.2.2 (by omega)]; exact hi, by rw [hev.1]; exact hvv⟩
    · obtain ⟨k', hl', hev⟩ := h.evo o _ hl
      cases k' <;> simp only [Evo] at hev
      exact .inr hl'
  | rp cs =>
    obtain ⟨ad, hv, hk⟩ := hc
    refine ⟨ad, hv, fun k d hd => ?_⟩
    obtain ⟨hs, u, hu, hdr⟩ := hk k d hd
    refine ⟨h.sub _ hs, u, ?_, DR.mono h.sub h.keep hdr⟩
    have hb : (ad.add k).block = ad.block := by unfold Addr.add; split <;> rfl
    rw [World.cell?_of_block (w := w) (by rw [hb]; exact h.keep _ hs)]
    exact hu
theorem ER.step (h : Step σ ι S w σ' ι' S' w') {c : E} {v : Value} (hc : ER σ ι w S c v) : ER σ' ι' w' S' c v := by
  cases c with
  | c x => exact CR.step h hc
  | agg cs =>
    obtain ⟨vs, hv, hl, hk⟩ := hc
    exact ⟨vs, hv, hl, fun k c u h1 h2 => CR.step h (hk k c u h1 h2)⟩
theorem VaR.step (h : Step σ ι S w σ' ι' S' w') {c : V} {v : Value} (hc : VaR σ ι w S c v) : VaR σ' ι' w' S' c v := by
  cases c with
  | e x => exact ER.step h hc
  | tup cs =>
    obtain ⟨vs, hv, hl, hk⟩ := hc
    exact ⟨vs, hv, hl, fun k c u h1 h2 => ER.step h (hk k c u h1 h2)⟩
theorem SlotR.step (h : Step σ ι S w σ' ι' S' w') {k : K} {v : Value} (hc : SlotR σ ι w S k v) : SlotR σ' ι' w' S' k v := by
  cases k with
  | v x => exact VaR.step h hc
  | cv s want b x => exact ⟨fun hb => VaR.step h (hc.1 hb), hc.2⟩
  | _ => trivial
/-- An object that was not touched. -/
theorem OR.step (h : Step σ ι S w σ' ι' S' w') {p : Value} {k : K} (hb : ∀ b, blk p = some b → w'.heap[b]? = w.heap[b]?) (hk : OR σ ι w S p k) : OR σ' ι' w' S' p k := by
  cases k with
  | v _ => trivial
  | dead => trivial
  | cv _ _ _ _ => trivial
  | box ty cs =>
    obtain ⟨b, vs, rfl, hh, hs, hc⟩ := hk
    exact ⟨b, vs, rfl, by rw [hb b rfl]; exact hh, hs, fun k c u h1 h2 => CR.step h (hc k c u h1 h2)⟩
  | row e es rows =>
    rcases hk with hn | ⟨g, off, cap, cur, fz, rfl, hh, hfz, h1, h2, h3, h4⟩
    · exact .inl hn
    · refine .inr ⟨g, off, cap, cur, fz, rfl, by rw [hb g rfl]; exact hh, hfz, h1, h2, h3, fun i r hr => ⟨(h4 i r hr).1, fun k d hd => ?_⟩⟩
      obtain ⟨u, hu, hdr⟩ := (h4 i r hr).2 k d hd
      exact ⟨u, hu, DR.mono h.sub h.keep hdr⟩
theorem Evo.refl (p : Value) {k : K} : k ≠ .dead → Evo p p k k := by
  intro h
  cases k <;> simp_all [Evo]
theorem Evo.refl' (p : Value) (k : K) : Evo p p k k := by cases k <;> simp [Evo]
end
end Go.Ab
