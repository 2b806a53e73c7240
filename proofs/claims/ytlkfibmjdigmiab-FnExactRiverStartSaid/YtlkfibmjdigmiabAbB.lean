/- Ab, part B: frames that realize an abstract state, and the two ways in which an operation turns one: a slot is written; an object is made or turned. -/
import Derived.Test.YtlkfibmjdigmiabAbA
namespace Go.Ab
open Go Go.RowKit
set_option linter.unusedVariables false

/-- What has become of the world since the call began: only blocks of M, and new ones, may have turned. -/
structure Fr (M : Nat → Prop) (w0 w : World) : Prop where
  os : w.os = w0.os
  tape : w.tape = w0.tape
  output : w.output = w0.output
  size : w0.heap.size ≤ w.heap.size
  block : ∀ b, b < w0.heap.size → ¬ M b → w.heap[b]? = w0.heap[b]?
theorem Fr.refl (M : Nat → Prop) (w : World) : Fr M w w := ⟨rfl, rfl, rfl, Nat.le_refl _, fun _ _ _ => rfl⟩
theorem Fr.trans {M M' : Nat → Prop} {a b c : World} (h : Fr M a b) (k : Fr M' b c) (hM : ∀ x, x < a.heap.size → M' x → M x) : Fr M a c :=
  ⟨k.os.trans h.os, k.tape.trans h.tape, k.output.trans h.output, Nat.le_trans h.size k.size,
   fun x hx hm => (k.block x (Nat.lt_of_lt_of_le hx h.size) (fun h' => hm (hM x hx h'))).trans (h.block x hx hm)⟩

structure Cx where
  N : Nat
  w0 : World
  S0 : Nat → Prop
  k0 : Nat → Option K
  ι0 : Nat → Value
/-- The blocks of the objects with which the call began. -/
def Cx.M (cx : Cx) (b : Nat) : Prop := ∃ o k, cx.k0 o = some k ∧ k.live ∧ blk (cx.ι0 o) = some b

def tmpsOf (a : Act) : Nat → Value := fun s => a.tmps.getD s undef

structure RW (cx : Cx) (σ : St) (ι : Nat → Value) (S : Nat → Prop) (a : Act) (w : World) : Prop where
  vr : VR σ ι (tmpsOf a) S w
  size : a.tmps.size = cx.N
  defers : a.defers = []
  fr : Fr cx.M cx.w0 w
  own : ∀ o b, Mut σ ι o b → cx.w0.heap.size ≤ b ∨ ∃ k, cx.k0 o = some k ∧ k.live ∧ blk (cx.ι0 o) = some b
  rd : ∀ b, S b → cx.S0 b ∨ cx.w0.heap.size ≤ b
  io : ∀ o k, cx.k0 o = some k → ∃ k', look σ (.o o) = some k' ∧ Evo (cx.ι0 o) (ι o) k k'

theorem Evo.trans {p q r : Value} {a b c : K} (h : Evo p q a b) (k : Evo q r b c) : Evo p r a c := by
  cases a <;> cases b <;> cases c <;> simp_all [Evo]
  obtain ⟨h1, h2, h3⟩ := h
  obtain ⟨k1, k2, k3⟩ := k
  exact ⟨by omega, fun hh => (k3 (by omega)).trans (h3 (by omega))⟩
theorem tmpsOf_put {a : Act} {d : Nat} (hd : d < a.tmps.size) (v : Value) (s : Nat) : tmpsOf (a.put (some d) v) s = if s = d then v else tmpsOf a s := by
  unfold tmpsOf Act.put
  by_cases h : s = d
  · subst h; simp [hd]
  · rw [if_neg h]
    simp only [Array.getD_eq_getD_getElem?]
    rw [Array.getElem?_setIfInBounds_ne (fun e => h e.symm)]
theorem put_none (a : Act) (v : Value) : a.put none v = a := rfl

section
variable {cx : Cx} {σ : St} {ι : Nat → Value} {S : Nat → Prop} {a : Act} {w : World}
theorem Mut_t {s : Nat} {k : K} {o b : Nat} : Mut (upd σ (.t s) k) ι o b ↔ Mut σ ι o b := by
  unfold Mut
  rw [look_upd_ne _ _ (by simp)]
theorem Step.t {s : Nat} {k : K} : Step σ ι S w (upd σ (.t s) k) ι S w :=
  ⟨fun _ h => h, fun _ _ => rfl, fun o k h => ⟨k, by rw [look_upd_ne _ _ (by simp)]; exact h, Evo.refl' _ _⟩⟩
theorem OR.t {s : Nat} {k k' : K} {p : Value} (h : OR σ ι w S p k') : OR (upd σ (.t s) k) ι w S p k' := OR.step Step.t (fun _ _ => rfl) h

/-- A slot is written. -/
theorem RW.put (h : RW cx σ ι S a w) {d : Nat} (hd : d < cx.N) {x : V} {v : Value} (hx : VaR σ ι w S x v) : RW cx (upd σ (.t d) (.v x)) ι S (a.put (some d) v) w := by
  have hd' : d < a.tmps.size := by rw [h.size]; exact hd
  refine ⟨⟨fun s y hy => ?_, fun o k hk => ?_, fun o b hm => ?_, fun o o' b hm hm' => ?_, h.vr.sz⟩, ?_, h.defers, h.fr, fun o b hm => h.own o b (Mut_t.1 hm), h.rd, fun o k ho => by rw [look_upd_ne _ _ (by simp)]; exact h.io o k ho⟩
  · rw [tmpsOf_put hd']
    rw [look_upd] at hy
    by_cases e : d = s
    · subst e
      simp at hy
      subst hy
      rw [if_pos rfl]
      exact VaR.step Step.t hx
    · rw [if_neg (by simpa using e)] at hy
      rw [if_neg (fun h => e h.symm)]
      exact SlotR.step Step.t (h.vr.slots s y hy)
  · rw [look_upd_ne _ _ (by simp)] at hk
    exact OR.t (h.vr.objs o k hk)
  · exact h.vr.mutS o b (Mut_t.1 hm)
  · exact h.vr.inj o o' b (Mut_t.1 hm) (Mut_t.1 hm')
  · simpa [Act.put] using h.size
/-- A slot is written of which nothing is kept in mind. -/
theorem RW.putDead (h : RW cx σ ι S a w) {d : Nat} (hd : d < cx.N) (v : Value) : RW cx (upd σ (.t d) .dead) ι S (a.put (some d) v) w := by
  have hd' : d < a.tmps.size := by rw [h.size]; exact hd
  refine ⟨⟨fun s y hy => ?_, fun o k hk => ?_, fun o b hm => ?_, fun o o' b hm hm' => ?_, h.vr.sz⟩, ?_, h.defers, h.fr, fun o b hm => h.own o b (Mut_t.1 hm), h.rd, fun o k ho => by rw [look_upd_ne _ _ (by simp)]; exact h.io o k ho⟩
  · rw [tmpsOf_put hd']
    rw [look_upd] at hy
    by_cases e : d = s
    · subst e
      simp at hy
      subst hy
      trivial
    · rw [if_neg (by simpa using e)] at hy
      rw [if_neg (fun h => e h.symm)]
      exact SlotR.step Step.t (h.vr.slots s y hy)
  · rw [look_upd_ne _ _ (by simp)] at hk
    exact OR.t (h.vr.objs o k hk)
  · exact h.vr.mutS o b (Mut_t.1 hm)
  · exact h.vr.inj o o' b (Mut_t.1 hm) (Mut_t.1 hm')
  · simpa [Act.put] using h.size
/-- A draw turns nothing. -/
theorem VR.of_heap {ν : Nat → Value} {w' : World} (h : VR σ ι ν S w) (hh : w'.heap = w.heap) : VR σ ι ν S w' := by
  have st : Step σ ι S w σ ι S w' := ⟨fun _ h => h, fun _ _ => by rw [hh], fun o k h => ⟨k, h, Evo.refl' _ _⟩⟩
  exact ⟨fun s x hx => SlotR.step st (h.slots s x hx), fun o k hk => OR.step st (fun _ _ => by rw [hh]) (h.objs o k hk), h.mutS, h.inj, fun b hb => by rw [hh]; exact h.sz b hb⟩
theorem RW.drew (h : RW cx σ ι S a w) : RW cx σ ι S a { w with drawn := w.drawn + 1 } :=
  ⟨h.vr.of_heap rfl, h.size, h.defers, ⟨h.fr.os, h.fr.tape, h.fr.output, h.fr.size, h.fr.block⟩, h.own, h.rd, h.io⟩

theorem OR.lt {p : Value} {k : K} {b : Nat} (h : OR σ ι w S p k) (hl : k.live) (hb : blk p = some b) : b < w.heap.size := by
  cases k with
  | v _ => exact hl.elim
  | dead => exact hl.elim
  | cv _ _ _ _ => exact hl.elim
  | box ty cs =>
    obtain ⟨b', vs, rfl, hh, _⟩ := h
    simp [blk] at hb; subst hb
    exact (Array.getElem?_eq_some_iff.1 hh).1
  | row e es rows =>
    rcases h with ⟨rfl, _⟩ | ⟨g, off, cap, cur, fz, rfl, hh, _⟩
    · simp [blk] at hb
    · simp [blk] at hb; subst hb
      exact (Array.getElem?_eq_some_iff.1 hh).1

/-- What an object is turned to, and the world with it. 'old': the block that may be written. -/
structure Turn (σ : St) (ι : Nat → Value) (S : Nat → Prop) (w : World) (id : Nat) (old : Option Nat) (k : K) (p : Value) (w' : World) : Prop where
  os : w'.os = w.os
  tape : w'.tape = w.tape
  output : w'.output = w.output
  size : w.heap.size ≤ w'.heap.size
  block : ∀ b, b < w.heap.size → some b ≠ old → w'.heap[b]? = w.heap[b]?
  mine : ∀ b, old = some b → Mut σ ι id b
  evo : look σ (.o id) = none ∨ ∃ k0, look σ (.o id) = some k0 ∧ Evo (ι id) p k0 k
  new : ∀ b, blk p = some b → some b = old ∨ w.heap.size ≤ b
  or_ : OR (upd σ (.o id) k) (fun o => if o = id then p else ι o) w' S p k

theorem VR.turn {ν : Nat → Value} (h : VR σ ι ν S w) {id : Nat} {old : Option Nat} {k : K} {p : Value} {w' : World} (t : Turn σ ι S w id old k p w') :
    VR (upd σ (.o id) k) (fun o => if o = id then p else ι o) ν S w' := by
  have keepS : ∀ b, S b → w'.heap[b]? = w.heap[b]? := fun b hb => t.block b (h.sz b hb) (fun e => h.mutS id b (t.mine b e.symm) hb)
  have st : Step σ ι S w (upd σ (.o id) k) (fun o => if o = id then p else ι o) S w' := by
    refine ⟨fun _ h => h, keepS, fun o k0 hk => ?_⟩
    by_cases e : o = id
    · subst e
      refine ⟨k, look_upd_same _ _ _, ?_⟩
      rcases t.evo with hn | ⟨k1, hk1, hev⟩
      · rw [hn] at hk; cases hk
      · rw [hk1] at hk; cases hk; rw [if_pos rfl]; exact hev
    · refine ⟨k0, by rw [look_upd_ne _ _ (by simpa using fun h => e h.symm)]; exact hk, ?_⟩
      rw [if_neg e]; exact Evo.refl' _ _
  have mut_ne : ∀ o b, o ≠ id → Mut (upd σ (.o id) k) (fun o => if o = id then p else ι o) o b → Mut σ ι o b := by
    intro o b ne hm
    obtain ⟨⟨k0, hk, hl⟩, hb⟩ := hm
    rw [look_upd_ne _ _ (by simpa using fun h => ne h.symm)] at hk
    dsimp only at hb
    rw [if_neg ne] at hb
    exact ⟨⟨k0, hk, hl⟩, hb⟩
  have mlt : ∀ o b, Mut σ ι o b → b < w.heap.size := fun o b ⟨⟨k0, hk, hl⟩, hb⟩ => OR.lt (h.objs o k0 hk) hl hb
  have mid : ∀ b, Mut (upd σ (.o id) k) (fun o => if o = id then p else ι o) id b → some b = old ∨ w.heap.size ≤ b := by
    intro b hm
    have hb := hm.2
    dsimp only at hb
    rw [if_pos rfl] at hb
    exact t.new b hb
  refine ⟨fun s x hx => ?_, fun o k0 hk => ?_, fun o b hm hS => ?_, fun o o' b hm hm' => ?_, fun b hb => Nat.lt_of_lt_of_le (h.sz b hb) t.size⟩
  · rw [look_upd_ne _ _ (by simp)] at hx
    exact SlotR.step st (h.slots s x hx)
  · by_cases e : o = id
    · subst e
      rw [look_upd_same] at hk; cases hk
      rw [if_pos rfl]
      exact t.or_
    · rw [look_upd_ne _ _ (by simpa using fun h => e h.symm)] at hk
      rw [if_neg e]
      have ho := h.objs o k0 hk
      by_cases hl : k0.live
      · refine OR.step st (fun b hb => ?_) ho
        have hmut : Mut σ ι o b := ⟨⟨k0, hk, hl⟩, hb⟩
        exact t.block b (mlt o b hmut) (fun e2 => e (h.inj o id b hmut (t.mine b e2.symm)))
      · cases k0 <;> simp [K.live] at hl <;> trivial
  · by_cases e : o = id
    · subst e
      rcases mid b hm with h1 | h1
      · exact h.mutS o b (t.mine b h1.symm) hS
      · have := h.sz b hS; omega
    · exact h.mutS o b (mut_ne o b e hm) hS
  · by_cases e : o = id
    · by_cases e' : o' = id
      · rw [e, e']
      · subst e
        have h2 := mut_ne o' b e' hm'
        rcases mid b hm with h1 | h1
        · exact absurd (h.inj o' o b h2 (t.mine b h1.symm)) e'
        · have := mlt o' b h2; omega
    · by_cases e' : o' = id
      · subst e'
        have h2 := mut_ne o b e hm
        rcases mid b hm' with h1 | h1
        · exact absurd (h.inj o o' b h2 (t.mine b h1.symm)) e
        · have := mlt o b h2; omega
      · exact h.inj o o' b (mut_ne o b e hm) (mut_ne o' b e' hm')
theorem RW.turn (h : RW cx σ ι S a w) {id : Nat} {old : Option Nat} {k : K} {p : Value} {w' : World} (t : Turn σ ι S w id old k p w') :
    RW cx (upd σ (.o id) k) (fun o => if o = id then p else ι o) S a w' := by
  refine ⟨h.vr.turn t, h.size, h.defers, ⟨t.os.trans h.fr.os, t.tape.trans h.fr.tape, t.output.trans h.fr.output, Nat.le_trans h.fr.size t.size, fun b hb hm => ?_⟩, fun o b hm => ?_, h.rd, fun o k1 ho => ?_⟩
  · rw [t.block b (Nat.lt_of_lt_of_le hb h.fr.size) (fun e => ?_)]
    · exact h.fr.block b hb hm
    · rcases h.own id b (t.mine b e.symm) with h1 | h1
      · omega
      · obtain ⟨k1, q1, q2, q3⟩ := h1; exact hm ⟨id, k1, q1, q2, q3⟩
  · by_cases e : o = id
    · subst e
      have hb := hm.2
      dsimp only at hb
      rw [if_pos rfl] at hb
      rcases t.new b hb with h1 | h1
      · exact h.own o b (t.mine b h1.symm)
      · exact .inl (Nat.le_trans h.fr.size h1)
    · obtain ⟨⟨k0, hk, hl⟩, hb⟩ := hm
      rw [look_upd_ne _ _ (by simpa using fun h => e h.symm)] at hk
      dsimp only at hb
      rw [if_neg e] at hb
      exact h.own o b ⟨⟨k0, hk, hl⟩, hb⟩
  · obtain ⟨k', hk', hev⟩ := h.io o k1 ho
    by_cases e : o = id
    · subst e
      refine ⟨k, look_upd_same _ _ _, ?_⟩
      rw [if_pos rfl]
      rcases t.evo with hn | ⟨k2, hk2, hev2⟩
      · rw [hn] at hk'; cases hk'
      · rw [hk2] at hk'; cases hk'; exact hev.trans hev2
    · refine ⟨k', by rw [look_upd_ne _ _ (by simpa using fun h => e h.symm)]; exact hk', ?_⟩
      rw [if_neg e]; exact hev
end
end Go.Ab
