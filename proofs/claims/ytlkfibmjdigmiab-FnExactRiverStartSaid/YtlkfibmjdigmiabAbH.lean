/- Ab, part H: variables: box, alloc, store; struct and slice literals. -/
import Derived.Test.YtlkfibmjdigmiabAbG
namespace Go.Ab
open Go Go.RowKit
set_option linter.unusedVariables false
set_option linter.unusedSimpArgs false

def absent (σ : St) (l : Loc) : Bool := (look σ l).isNone
/-- The number of a new object made by the operation that writes slot d. -/
def newId (σ : St) (d : Nat) : Nat := if absent σ (.o d) then d else if absent σ (.o (d + 1000)) then d + 1000 else d + 2000
theorem absent_look {σ : St} {l : Loc} (h : absent σ l = true) : look σ l = none := by simpa [absent] using h

theorem opt_new {P : Program} {o : Oper} {d id : Nat} {R : List (Loc × Option K)} {k : K} {X : V} (hd : o.dst = some d) (habs : (Loc.o id, none) ∈ R)
    (h : ∀ (cx : Cx) (σ : St) (ι : Nat → Value) (S : Nat → Prop) (a : Act) (w : World), Reads R σ → RW cx σ ι S a w → ∃ v p w', (execOp a.eval o).run P w = .ok (.value v) w' ∧ Turn σ ι S w id none k p w' ∧
      VaR (upd σ (.o id) k) (fun o => if o = id then p else ι o) w' S X v) : OpT P o R [(.o id, k), (.t d, .v X)] := by
  intro cx σ ι S a w hr hw hb next Q hn
  obtain ⟨v, p, w', he, ht, hx⟩ := h cx σ ι S a w hr hw
  unfold Oper.wp
  rw [he]
  simp only [Oper.upon, hd]
  exact hn _ S _ w' ((hw.turn ht).put (hb d hd) hx)

theorem CR.one {σ : St} {ι : Nat → Value} {w : World} {S : Nat → Prop} {c : C} {v : Value} (h : CR σ ι w S c v) : v.oneCell' = true := by
  cases c with
  | d x => exact DR.oneCell h
  | nil => have h : v = .slice none 0 0 := h; rw [h]; rfl
  | own o n => exact h.1
  | pt o k => exact h.1
  | pe o n i k => exact h.1
  | rp cs => obtain ⟨ad, hv, _⟩ := h; rw [hv]; rfl

/-- A value's cells. -/
def cellsOf : V → Option (List C)
  | .e (.c c) => some [c]
  | .e (.agg cs) => some cs
  | _ => none
theorem cellsOf_sound {σ : St} {ι : Nat → Value} {w : World} {S : Nat → Prop} {X : V} {cs : List C} {v : Value} (h : cellsOf X = some cs) (hx : VaR σ ι w S X v) :
    ∃ vs : List Value, v.cells = vs.toArray ∧ vs.length = cs.length ∧ ∀ (k : Nat) c u, cs[k]? = some c → vs[k]? = some u → CR σ ι w S c u := by
  unfold cellsOf at h
  split at h
  · rename_i c
    cases h
    have h1 := CR.one (show CR σ ι w S c v from hx)
    refine ⟨[v], ?_, rfl, fun k c' u h2 h3 => ?_⟩
    · cases v <;> first | rfl | (simp [Value.oneCell'] at h1)
    · cases k with
      | zero => simp at h2 h3; subst h2; subst h3; exact hx
      | succ k => simp at h2
  · rename_i cs'
    cases h
    obtain ⟨vs, hv, hl, hk⟩ := (show ER σ ι w S (.agg cs) v from hx)
    exact ⟨vs, by rw [hv]; rfl, hl, hk⟩
  · cases h

theorem turn_alloc {σ : St} {ι ν : Nat → Value} {S : Nat → Prop} {w w0 : World} {id : Nat} {k : K} {p : Value} {o : Obj} (hw : w0.heap = w.heap ∧ w0.os = w.os ∧ w0.tape = w.tape ∧ w0.output = w.output) (hno : look σ (.o id) = none)
    (hp : ∀ b, blk p = some b → b = w.heap.size) (hor : Step σ ι S w (upd σ (.o id) k) (fun o => if o = id then p else ι o) S (w0.alloc o) → OR (upd σ (.o id) k) (fun o => if o = id then p else ι o) (w0.alloc o) S p k)
    (hsz : ∀ b, S b → b < w.heap.size) : Turn σ ι S w id none k p (w0.alloc o) ∧ Step σ ι S w (upd σ (.o id) k) (fun o => if o = id then p else ι o) S (w0.alloc o) := by
  obtain ⟨hh, ho, ht, hu⟩ := hw
  have hold : ∀ b, b < w.heap.size → (w0.alloc o).heap[b]? = w.heap[b]? := fun b hb => by rw [heap_alloc_old w0 o b (by rw [hh]; exact hb), hh]
  have st : Step σ ι S w (upd σ (.o id) k) (fun o => if o = id then p else ι o) S (w0.alloc o) := by
    refine ⟨fun _ h => h, fun b hb => hold b (hsz b hb), fun o' k0 hk => ?_⟩
    by_cases e : o' = id
    · subst e; rw [hno] at hk; cases hk
    · refine ⟨k0, by rw [look_upd_ne _ _ (by simpa using fun h => e h.symm)]; exact hk, ?_⟩
      rw [if_neg e]; exact Evo.refl' _ _
  exact ⟨⟨ho, ht, hu, by simp [hh], fun b hb _ => hold b hb, (fun b hb => by cases hb), .inl hno, (fun b hb => .inr (by rw [hp b hb]; exact Nat.le_refl _)), hor st⟩, st⟩

/-! box -/
def aBox (σ : St) (elem : TypeId) (x : Operand) (d : Option Tmp) : Res :=
  match ev σ x, d with
  | some (X, R), some d => match cellsOf X with
    | some cs => if absent σ (.o (newId σ d)) then some (True, R ++ [(.o (newId σ d), none)], [(.o (newId σ d), .box elem cs), (.t d, .v (.e (.c (.pt (newId σ d) 0))))]) else none
    | none => none
  | _, _ => none
theorem good_box {P : Program} {o : Oper} {σ0 : St} {elem : TypeId} {x : Operand} (ho : o.op = .box elem x) : Good P o σ0 (aBox σ0 elem x o.dst) := by
  intro p R W h hp
  unfold aBox at h
  split at h <;> try (cases h; done)
  rename_i X Rx d hx hd
  split at h <;> try (cases h; done)
  rename_i cs hcs
  split at h <;> try (cases h; done)
  rename_i habs
  cases h
  refine ⟨opt_new hd (by simp) fun cx σ ι S a w hr hw => ?_, (ev_reads hx).append (Reads.one (absent_look habs))⟩
  have hno := hr.right (.o (newId σ0 d), none) (by simp)
  dsimp only at hno
  have hX := ev_sound hx hr.left hw
  obtain ⟨vs, hv, hl, hk⟩ := cellsOf_sound hcs hX
  obtain ⟨ht, st⟩ := turn_alloc (ν := tmpsOf a) (w := w) (w0 := w) (σ := σ) (ι := ι) (S := S) (id := newId σ0 d) (k := .box elem cs) (p := .pointer (some ⟨w.heap.size, 0, none⟩)) (o := .cells vs.toArray elem) ⟨rfl, rfl, rfl, rfl⟩ hno
    (fun b hb => by simp [blk] at hb; exact hb.symm)
    (fun st => ⟨w.heap.size, vs.toArray, rfl, heap_alloc_new w _, by simpa using hl, fun k c u h1 h2 => CR.step st (hk k c u h1 (by simpa using h2))⟩) hw.vr.sz
  refine ⟨_, _, _, ?_, ht, rfl, .inl ⟨elem, cs, look_upd_same _ _ _, w.heap.size, by simp, rfl⟩⟩
  simp [execOp, ho, Instr.box, newVar, newRow, hv]

/-! alloc: a variable of its type's zero value -/
def aAlloc (T : Tab) (σ : St) (elem : TypeId) (d : Option Tmp) : Res :=
  match T elem, d with
  | some ti, some d => if absent σ (.o (newId σ d)) then some (True, [(.o (newId σ d), none)], [(.o (newId σ d), .box elem ti.zero), (.t d, .v (.e (.c (.pt (newId σ d) 0))))]) else none
  | _, _ => none
theorem good_alloc {P : Program} {T : Tab} (hT : TabOk P T) {o : Oper} {σ0 : St} {elem : TypeId} (ho : o.op = .alloc elem) : Good P o σ0 (aAlloc T σ0 elem o.dst) := by
  intro p R W h hp
  unfold aAlloc at h
  split at h <;> try (cases h; done)
  rename_i ti d hti hd
  split at h <;> try (cases h; done)
  rename_i habs
  cases h
  have hok := hT elem ti hti
  refine ⟨opt_new hd (by simp) fun cx σ ι S a w hr hw => ?_, Reads.one (absent_look habs)⟩
  have hno := hr (.o (newId σ0 d), none) (by simp)
  dsimp only at hno
  obtain ⟨z, hz, hzc⟩ := run_zeroT (w := w) hok
  obtain ⟨ht, st⟩ := turn_alloc (ν := tmpsOf a) (w := w) (w0 := w) (σ := σ) (ι := ι) (S := S) (id := newId σ0 d) (k := .box elem ti.zero) (p := .pointer (some ⟨w.heap.size, 0, none⟩)) (o := .cells z.cells elem) ⟨rfl, rfl, rfl, rfl⟩ hno
    (fun b hb => by simp [blk] at hb; exact hb.symm)
    (fun st => ⟨w.heap.size, z.cells, rfl, heap_alloc_new w _, by rw [← Array.length_toList, hzc]; simp, fun k c u h1 h2 => by
      rw [← Array.getElem?_toList, hzc, List.getElem?_map, h1] at h2
      cases h2
      exact zconst_sound (List.all_eq_true.1 hok.zok c (List.mem_of_getElem? h1))⟩) hw.vr.sz
  refine ⟨_, _, _, ?_, ht, rfl, .inl ⟨elem, ti.zero, look_upd_same _ _ _, w.heap.size, by simp, rfl⟩⟩
  simp [execOp, ho, Instr.alloc, newVar, newRow, hz]
end Go.Ab
