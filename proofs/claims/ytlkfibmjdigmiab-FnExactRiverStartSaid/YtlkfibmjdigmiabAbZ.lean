/- Ab, part Z: loops and meeting places, up to a change of names; the nil slice as an object. -/
import Derived.Test.YtlkfibmjdigmiabAbY
namespace Go.Ab
open Go Go.RowKit
set_option linter.unusedVariables false
set_option linter.unusedSimpArgs false

def WK (io : List Nat) (J : St → Prop) (s : St) : Prop := ∃ σ' rl bor, J σ' ∧ Match s σ' rl bor ∧ keepsIo io σ' rl bor = true
theorem wk {io : List Nat} {J : St → Prop} {s : St} (σ' : St) (rl : List (Nat × Nat)) (bor : List Nat) (h : J σ') (h1 : mL s σ' rl bor σ') (h2 : mapOk σ' rl bor = true) (h3 : keepsIo io σ' rl bor = true) : WK io J s := ⟨σ', rl, bor, h, ⟨h1, h2⟩, h3⟩
section
variable {P : Program} {io : List Nat} {Q : Ex → St → Prop} {σ : St}
theorem SW.wk {c : Code} {J : St → Prop} (h : WK io J σ) (hJ : ∀ s, J s → SW P io c Q s) : SW P io c Q σ := by
  obtain ⟨σ', rl, bor, h1, h2, h3⟩ := h
  exact SW.weaken σ' rl bor h2 h3 (hJ σ' h1)
theorem SW.loopW {c : Code} (I : Nat → St → Prop) {n : Nat} (h0 : WK io (I n) σ) (hr : ∀ n s, I n s → SW P io c (thenQ (fun s' => WK io (fun s2 => ∃ m, m < n ∧ I m s2) s') Q) s) : SW P io (.loop c) Q σ := by
  refine SW.loop (fun n s => WK io (I n) s) h0 fun n s hs => SW.wk hs fun s2 h2 => SW.mono (fun e s3 h3 => ?_) (hr n s2 h2)
  cases e with
  | norm =>
    obtain ⟨σ', rl, bor, ⟨m, hm, h1⟩, h2, h4⟩ := h3
    exact ⟨m, hm, σ', rl, bor, h1, h2, h4⟩
  | exit id => exact h3
  | ret => exact h3
theorem SW.midW (J : St → Prop) {x y : Code} (h : SW P io x (thenQ (fun s => WK io J s) Q) σ) (hy : ∀ s, J s → SW P io y Q s) : SW P io (.seq x y) Q σ :=
  SW.seq (h.mono fun e s hq => by
    cases e with
    | norm => exact SW.wk hq hy
    | exit id => exact hq
    | ret => exact hq)
end
section
variable {τ σ' : St} {rl : List (Nat × Nat)} {bor : List Nat} {r : List (Loc × K)}
theorem mL_d {s : Nat} {x y : D} (h : look τ (.t s) = some (.v (Dv x))) (e : x = y) (hr : mL τ σ' rl bor r) : mL τ σ' rl bor ((.t s, .v (Dv y)) :: r) := ⟨⟨_, h, e⟩, hr⟩
theorem mL_nil {s : Nat} (h : look τ (.t s) = some (.v (.e (.c .nil)))) (hr : mL τ σ' rl bor r) : mL τ σ' rl bor ((.t s, .v (.e (.c .nil))) :: r) := ⟨⟨_, h, trivial⟩, hr⟩
theorem mL_nil_d {s : Nat} {y : D} (h : look τ (.t s) = some (.v (.e (.c .nil)))) (e : y = .sl []) (hr : mL τ σ' rl bor r) : mL τ σ' rl bor ((.t s, .v (Dv y)) :: r) := ⟨⟨_, h, e⟩, hr⟩
theorem mL_own {s o n j m : Nat} {e : TypeId} {es : Nat} {rows : List (List D)} (h : look τ (.t s) = some (.v (.e (.c (.own o n))))) (ho : o = ren rl j) (e1 : n = m) (hj : look σ' (.o j) = some (.row e es rows)) (hr : mL τ σ' rl bor r) : mL τ σ' rl bor ((.t s, .v (.e (.c (.own j m)))) :: r) :=
  ⟨⟨_, h, ho, e1, e, es, rows, hj⟩, hr⟩
theorem mL_froze {s o n : Nat} {y : D} {e : TypeId} {es : Nat} {rows : List (List D)} (h : look τ (.t s) = some (.v (.e (.c (.own o n))))) (hb : memN o bor = true) (hj : look τ (.o o) = some (.row e es rows)) (e1 : rows.length = n) (e2 : y = .sl rows) (hr : mL τ σ' rl bor r) : mL τ σ' rl bor ((.t s, .v (Dv y)) :: r) :=
  ⟨⟨_, h, memN_iff.1 hb, e, es, rows, hj, e1, e2⟩, hr⟩
theorem mL_pt {s o k j m : Nat} {ty : TypeId} {cs : List C} (h : look τ (.t s) = some (.v (.e (.c (.pt o k))))) (ho : o = ren rl j) (e1 : k = m) (hj : look σ' (.o j) = some (.box ty cs)) (hr : mL τ σ' rl bor r) : mL τ σ' rl bor ((.t s, .v (.e (.c (.pt j m)))) :: r) :=
  ⟨⟨_, h, ho, e1, ty, cs, hj⟩, hr⟩
theorem mL_agg {s : Nat} {cs ds : List C} (h : look τ (.t s) = some (.v (.e (.agg cs)))) (e : mCs τ σ' rl bor cs ds) (hr : mL τ σ' rl bor r) : mL τ σ' rl bor ((.t s, .v (.e (.agg ds))) :: r) := ⟨⟨_, h, e⟩, hr⟩
theorem mL_row {j : Nat} {e : TypeId} {es : Nat} {rows rows' : List (List D)} (h : look τ (.o (ren rl j)) = some (.row e es rows)) (e1 : rows = rows') (hr : mL τ σ' rl bor r) : mL τ σ' rl bor ((.o j, .row e es rows') :: r) := ⟨⟨_, h, rfl, rfl, e1⟩, hr⟩
theorem mL_box {j : Nat} {ty : TypeId} {cs ds : List C} (h : look τ (.o (ren rl j)) = some (.box ty cs)) (e1 : mCs τ σ' rl bor cs ds) (hr : mL τ σ' rl bor r) : mL τ σ' rl bor ((.o j, .box ty ds) :: r) := ⟨⟨_, h, rfl, e1⟩, hr⟩
theorem mCs_nil0 : mCs τ σ' rl bor [] [] := trivial
theorem mCs_d {x y : D} {cs ds : List C} (e : x = y) (h : mCs τ σ' rl bor cs ds) : mCs τ σ' rl bor (.d x :: cs) (.d y :: ds) := ⟨e, h⟩
theorem mCs_nil {cs ds : List C} (h : mCs τ σ' rl bor cs ds) : mCs τ σ' rl bor (.nil :: cs) (.nil :: ds) := ⟨trivial, h⟩
theorem mCs_nil_d {y : D} {cs ds : List C} (e : y = .sl []) (h : mCs τ σ' rl bor cs ds) : mCs τ σ' rl bor (.nil :: cs) (.d y :: ds) := ⟨e, h⟩
theorem mCs_own {o n j m : Nat} {e : TypeId} {es : Nat} {rows : List (List D)} {cs ds : List C} (ho : o = ren rl j) (e1 : n = m) (hj : look σ' (.o j) = some (.row e es rows)) (h : mCs τ σ' rl bor cs ds) : mCs τ σ' rl bor (.own o n :: cs) (.own j m :: ds) := ⟨⟨ho, e1, e, es, rows, hj⟩, h⟩
theorem mCs_froze {o n : Nat} {y : D} {e : TypeId} {es : Nat} {rows : List (List D)} {cs ds : List C} (hb : memN o bor = true) (hj : look τ (.o o) = some (.row e es rows)) (e1 : rows.length = n) (e2 : y = .sl rows) (h : mCs τ σ' rl bor cs ds) : mCs τ σ' rl bor (.own o n :: cs) (.d y :: ds) := ⟨⟨memN_iff.1 hb, e, es, rows, hj, e1, e2⟩, h⟩
theorem mCs_pt {o k j m : Nat} {ty : TypeId} {xs cs ds : List C} (ho : o = ren rl j) (e1 : k = m) (hj : look σ' (.o j) = some (.box ty xs)) (h : mCs τ σ' rl bor cs ds) : mCs τ σ' rl bor (.pt o k :: cs) (.pt j m :: ds) := ⟨⟨ho, e1, ty, xs, hj⟩, h⟩
end

/-- The nil slice in a slot, seen as an object of its own without rows. -/
theorem RW.nilOwn {cx : Cx} {σ : St} {ι : Nat → Value} {S : Nat → Prop} {a : Act} {w : World} (h : RW cx σ ι S a w) {s j : Nat} (e : TypeId) (es : Nat) (hs : look σ (.t s) = some (.v (.e (.c .nil)))) (hj : look σ (.o j) = none) :
    RW cx (upd (upd σ (.o j) (.row e es [])) (.t s) (.v (.e (.c (.own j 0))))) (fun o => if o = j then .slice none 0 0 else ι o) S a w := by
  have hblk : ∀ b, blk (.slice none 0 0) = some b → some b = (none : Option Nat) ∨ w.heap.size ≤ b := fun b hb => by simp [blk] at hb
  have h1 := h.turn (id := j) (old := none) (k := .row e es []) (p := .slice none 0 0) (w' := w) ⟨rfl, rfl, rfl, Nat.le_refl _, (fun _ _ _ => rfl), (fun b hb => by cases hb), .inl hj, hblk, .inl ⟨rfl, rfl⟩⟩
  have hv : tmpsOf a s = .slice none 0 0 := h.vr.slots s _ hs
  refine h1.reslot (fun o => look_upd_ne _ _ (by simp)) fun t k hk => ?_
  rw [look_upd] at hk
  by_cases e1 : s = t
  · subst e1
    rw [if_pos rfl] at hk; cases hk
    show CR (upd σ (.o j) (.row e es [])) (fun o => if o = j then .slice none 0 0 else ι o) w S (.own j 0) (tmpsOf a s)
    rw [hv]
    exact ⟨rfl, .inl ⟨e, es, [], look_upd_same _ _ _, Nat.le_refl _, fun _ => by simp⟩⟩
  · rw [if_neg (by simpa using e1)] at hk
    exact h1.vr.slots t k hk
theorem SW.nilOwn {P : Program} {io : List Nat} {Q : Ex → St → Prop} {σ : St} {c : Code} (s j : Nat) (e : TypeId) (es : Nat) (hs : look σ (.t s) = some (.v (.e (.c .nil)))) (hj : look σ (.o j) = none)
    (h : updsK σ [(.o j, .row e es []), (.t s, .v (.e (.c (.own j 0))))] (SW P io c Q)) : SW P io c Q σ := by
  rw [updsK_iff] at h
  intro cx ι S a w hio hw hf
  exact h cx _ S a w hio (hw.nilOwn e es hs hj) hf
end Go.Ab
