/- Ab, part R: one state seen as another: names of objects turned, owned slices given away to be read. -/
import Derived.Test.YtlkfibmjdigmiabAbQ
namespace Go.Ab
open Go Go.RowKit
set_option linter.unusedVariables false
set_option linter.unusedSimpArgs false

def objIds : St → List Nat
  | [] => []
  | (.o n, _) :: r => n :: objIds r
  | _ :: r => objIds r
theorem mem_objIds {σ : St} {o : Nat} {k : K} (h : look σ (.o o) = some k) : o ∈ objIds σ := by
  induction σ with
  | nil => cases h
  | cons p r ih =>
    obtain ⟨l, k'⟩ := p
    simp only [look] at h
    split at h
    · rename_i e
      have e : l = .o o := e
      subst e; simp [objIds]
    · cases l with
      | t s => exact ih h
      | o n => simp [objIds, ih h]
theorem look_of_objIds {σ : St} {o : Nat} (h : o ∈ objIds σ) : ∃ k, look σ (.o o) = some k := by
  induction σ with
  | nil => cases h
  | cons p r ih =>
    obtain ⟨l, k⟩ := p
    simp only [look]
    by_cases e : l = .o o
    · exact ⟨k, by rw [if_pos e]⟩
    · rw [if_neg e]
      cases l with
      | t s => exact ih h
      | o n =>
        simp only [objIds, List.mem_cons] at h
        rcases h with h | h
        · exact absurd (by rw [h]) e
        · exact ih h
theorem look_mem {σ : St} {l : Loc} {k : K} (h : look σ l = some k) : (l, k) ∈ σ := by
  induction σ with
  | nil => cases h
  | cons p r ih =>
    obtain ⟨l', k'⟩ := p
    simp only [look] at h
    split at h
    · rename_i e
      have e : l' = l := e
      cases h; subst e; exact List.mem_cons_self ..
    · exact List.mem_cons_of_mem _ (ih h)
def ren (rl : List (Nat × Nat)) (j : Nat) : Nat :=
  match rl with
  | [] => j
  | p :: r => if p.1 = j then p.2 else ren r j

def mC (τ σ' : St) (rl : List (Nat × Nat)) (bor : List Nat) : C → C → Prop
  | .d x, .d y => x = y
  | .nil, .nil => True
  | .nil, .d y => y = .sl []
  | .own o n, .d y => o ∈ bor ∧ ∃ e es rows, look τ (.o o) = some (.row e es rows) ∧ rows.length = n ∧ y = .sl rows
  | .own o n, .own j m => o = ren rl j ∧ n = m ∧ ∃ e es rows, look σ' (.o j) = some (.row e es rows)
  | .pt o k, .pt j m => o = ren rl j ∧ k = m ∧ ∃ ty cs, look σ' (.o j) = some (.box ty cs)
  | .rp cs, .rp cs' => cs = cs'
  | _, _ => False
def mCs (τ σ' : St) (rl : List (Nat × Nat)) (bor : List Nat) : List C → List C → Prop
  | [], [] => True
  | c :: cs, d :: ds => mC τ σ' rl bor c d ∧ mCs τ σ' rl bor cs ds
  | _, _ => False
def mE (τ σ' : St) (rl : List (Nat × Nat)) (bor : List Nat) : E → E → Prop
  | .c x, .c y => mC τ σ' rl bor x y
  | .agg cs, .agg ds => mCs τ σ' rl bor cs ds
  | _, _ => False
def mEs (τ σ' : St) (rl : List (Nat × Nat)) (bor : List Nat) : List E → List E → Prop
  | [], [] => True
  | c :: cs, d :: ds => mE τ σ' rl bor c d ∧ mEs τ σ' rl bor cs ds
  | _, _ => False
def mV (τ σ' : St) (rl : List (Nat × Nat)) (bor : List Nat) : V → V → Prop
  | .e x, .e y => mE τ σ' rl bor x y
  | .tup xs, .tup ys => mEs τ σ' rl bor xs ys
  | _, _ => False
def mK (τ σ' : St) (rl : List (Nat × Nat)) (bor : List Nat) : K → K → Prop
  | .box ty cs, .box ty' ds => ty = ty' ∧ mCs τ σ' rl bor cs ds
  | .row e es rows, .row e' es' rows' => e = e' ∧ es = es' ∧ rows = rows'
  | _, _ => False
def mL (τ σ' : St) (rl : List (Nat × Nat)) (bor : List Nat) : List (Loc × K) → Prop
  | [] => True
  | (.t s, .v X') :: r => (∃ X, look τ (.t s) = some (.v X) ∧ mV τ σ' rl bor X X') ∧ mL τ σ' rl bor r
  | (.o j, k') :: r => (∃ k, look τ (.o (ren rl j)) = some k ∧ mK τ σ' rl bor k k') ∧ mL τ σ' rl bor r
  | _ :: _ => False
def nodupN : List Nat → Bool
  | [] => true
  | x :: r => !memN x r && nodupN r
def mapOk (σ' : St) (rl : List (Nat × Nat)) (bor : List Nat) : Bool := nodupN ((objIds σ').map (ren rl)) && nodupN (objIds σ') && apartN bor ((objIds σ').map (ren rl))
def Match (τ σ' : St) (rl : List (Nat × Nat)) (bor : List Nat) : Prop := mL τ σ' rl bor σ' ∧ mapOk σ' rl bor = true
theorem nodupN_inj {f : Nat → Nat} : ∀ {l : List Nat}, nodupN (l.map f) = true → ∀ i ∈ l, ∀ j ∈ l, f i = f j → i = j
  | [], _, i, hi, _, _, _ => by simp at hi
  | x :: r, h, i, hi, j, hj, he => by
    simp only [List.map_cons, nodupN, Bool.and_eq_true, Bool.not_eq_true'] at h
    have hx : ∀ y ∈ r, f x ≠ f y := fun y hy e => by
      have : memN (f x) (r.map f) = true := memN_iff.2 (by rw [e]; exact List.mem_map.2 ⟨y, hy, rfl⟩)
      rw [this] at h; cases h.1
    rcases List.mem_cons.1 hi with e1 | h1
    · rcases List.mem_cons.1 hj with e2 | h2
      · rw [e1, e2]
      · rw [e1] at he; exact absurd he (hx j h2)
    · rcases List.mem_cons.1 hj with e2 | h2
      · rw [e2] at he; exact absurd he.symm (hx i h1)
      · exact nodupN_inj h.2 i h1 j h2 he

section
variable {σ τ σ' : St} {rl : List (Nat × Nat)} {bor : List Nat} {ι ν : Nat → Value} {S : Nat → Prop} {w : World}
theorem mL_get : ∀ {L : List (Loc × K)}, mL τ σ' rl bor L → ∀ p ∈ L, (∀ s X', p = (.t s, .v X') → ∃ X, look τ (.t s) = some (.v X) ∧ mV τ σ' rl bor X X') ∧ (∀ j k', p = (.o j, k') → ∃ k, look τ (.o (ren rl j)) = some k ∧ mK τ σ' rl bor k k')
  | [], _, p, hp => by cases hp
  | (.t s, .v X') :: r, h, p, hp => by
    rcases List.mem_cons.1 hp with rfl | hp
    · exact ⟨(fun s' X'' e => by cases e; exact h.1), (fun j k' e => by cases e)⟩
    · exact mL_get h.2 p hp
  | (.o j, k') :: r, h, p, hp => by
    have h' : (∃ k, look τ (.o (ren rl j)) = some k ∧ mK τ σ' rl bor k k') ∧ mL τ σ' rl bor r := by cases k' <;> exact h
    rcases List.mem_cons.1 hp with rfl | hp
    · exact ⟨(fun s' X'' e => by cases e), (fun j k' e => by cases e; exact h'.1)⟩
    · exact mL_get h'.2 p hp
  | (.t s, .box ..) :: r, h, p, hp => h.elim
  | (.t s, .row ..) :: r, h, p, hp => h.elim
  | (.t s, .dead) :: r, h, p, hp => h.elim
  | (.t s, .cv ..) :: r, h, p, hp => h.elim
theorem mL_v : ∀ {L : List (Loc × K)}, mL τ σ' rl bor L → ∀ s k, (Loc.t s, k) ∈ L → ∃ X', k = .v X'
  | [], _, s, k, hp => by cases hp
  | (.t s, .v X') :: r, h, s', k, hp => by
    rcases List.mem_cons.1 hp with e | hp
    · cases e; exact ⟨_, rfl⟩
    · exact mL_v h.2 s' k hp
  | (.o j, k') :: r, h, s', k, hp => by
    have h' : (∃ k, look τ (.o (ren rl j)) = some k ∧ mK τ σ' rl bor k k') ∧ mL τ σ' rl bor r := by cases k' <;> exact h
    rcases List.mem_cons.1 hp with e | hp
    · cases e
    · exact mL_v h'.2 s' k hp
  | (.t s, .box ..) :: r, h, s', k, hp => h.elim
  | (.t s, .row ..) :: r, h, s', k, hp => h.elim
  | (.t s, .dead) :: r, h, s', k, hp => h.elim
  | (.t s, .cv ..) :: r, h, s', k, hp => h.elim
/-- What is read in the other state: the blocks that were given away too. -/
def giveS (σ : St) (ι : Nat → Value) (bor : List Nat) (S : Nat → Prop) (b : Nat) : Prop := S b ∨ ∃ o ∈ bor, Mut σ ι o b
theorem DR_of_row {e es : Nat} {rows : List (List D)} {p : Value} {S' : Nat → Prop} (h : OR σ ι w S p (.row e es rows)) (hS : ∀ b, S b → S' b) (hb : ∀ b, blk p = some b → S' b) : DR w S' (.sl rows) p := by
  rcases h with ⟨rfl, rfl⟩ | ⟨g, off, cap, cur, fz, rfl, hh, hfz, hc1, hc2, hc3, hrows⟩
  · exact .sl [] none 0 0 ⟨0, 0, none⟩ (fun _ _ => undef) (by simp) (by simp [maxLen]) (by simp) (by simp) (by simp) (by simp)
  · refine .sl rows _ cap es ⟨g, off, none⟩ (fun i k => (cur[off + i * es + k]?).getD undef) hc1 hc2 (fun r hr => ?_) (fun _ => rfl) (fun i r k d hi hk => ?_) (fun i r k d hi hk => ?_)
    · obtain ⟨i, hi⟩ := List.mem_iff_getElem?.1 hr
      exact (hrows i r hi).1
    · obtain ⟨u, hu, hdr⟩ := (hrows i r hi).2 k d hk
      refine ⟨hb g rfl, ?_⟩
      rw [add_mk, cell_of_row w g _ cur e fz hh, ← Nat.add_assoc, hu]; rfl
    · obtain ⟨u, hu, hdr⟩ := (hrows i r hi).2 k d hk
      rw [hu]; exact DR.mono hS (fun _ _ => rfl) hdr
theorem mC_sound (hv : VR σ ι ν S w) (hsub : ∀ l k, look τ l = some k → look σ l = some k) (hids : ∀ j k', look σ' (.o j) = some k' → ∃ k, look τ (.o (ren rl j)) = some k ∧ mK τ σ' rl bor k k') {c c' : C} {v : Value} (hm : mC τ σ' rl bor c c') (h : CR σ ι w S c v) :
    CR σ' (fun j => ι (ren rl j)) w (giveS σ ι bor S) c' v := by
  cases c <;> cases c' <;> simp only [mC] at hm
  case d.d x y => subst hm; exact DR.mono (fun b hb => .inl hb) (fun _ _ => rfl) h
  case nil.nil => exact h
  case nil.d y =>
    subst hm
    have h : v = .slice none 0 0 := h
    subst h
    exact .sl [] none 0 0 ⟨0, 0, none⟩ (fun _ _ => undef) (by simp) (by simp [maxLen]) (by simp) (by simp) (by simp) (by simp)
  case own.d o n y =>
    obtain ⟨hb, e, es, rows, hl, hn, rfl⟩ := hm
    have hl := hsub _ _ hl
    obtain ⟨_, h2⟩ := h
    rcases h2 with ⟨e2, es2, rows2, hl2, hnn, hv2⟩ | hd
    · rw [hl] at hl2; cases hl2
      rw [hv2 hn]
      exact DR_of_row (hv.objs o _ hl) (fun b hb => .inl hb) (fun b hb2 => .inr ⟨o, hb, ⟨_, hl, trivial⟩, hb2⟩)
    · rw [hl] at hd; cases hd
  case own.own o n j m =>
    obtain ⟨rfl, rfl, e, es, rows, hl'⟩ := hm
    obtain ⟨k, hk, hmk⟩ := hids j _ hl'
    obtain ⟨h1, h2⟩ := h
    refine ⟨h1, .inl ⟨e, es, rows, hl', ?_⟩⟩
    cases k <;> simp only [mK] at hmk
    obtain ⟨rfl, rfl, rfl⟩ := hmk
    have hl := hsub _ _ hk
    rcases h2 with ⟨e2, es2, rows2, hl2, hnn, hv2⟩ | hd
    · rw [hl] at hl2; cases hl2; exact ⟨hnn, hv2⟩
    · rw [hl] at hd; cases hd
  case pt.pt o k j m =>
    obtain ⟨rfl, rfl, ty, cs, hl'⟩ := hm
    obtain ⟨kk, hk, hmk⟩ := hids j _ hl'
    obtain ⟨h1, h2⟩ := h
    refine ⟨h1, .inl ⟨ty, cs, hl', ?_⟩⟩
    cases kk <;> simp only [mK] at hmk
    have hl := hsub _ _ hk
    rcases h2 with ⟨ty2, cs2, hl2, b, hi, hvv⟩ | hd
    · exact ⟨b, hi, hvv⟩
    · rw [hl] at hd; cases hd
  case rp.rp cs cs' =>
    subst hm
    obtain ⟨ad, hv', hk⟩ := h
    exact ⟨ad, hv', fun k d hd => by
      obtain ⟨q1, u, q2, q3⟩ := hk k d hd
      exact ⟨.inl q1, u, q2, DR.mono (fun b hb => .inl hb) (fun _ _ => rfl) q3⟩⟩
theorem mCs_get : ∀ {cs ds : List C}, mCs τ σ' rl bor cs ds → ds.length = cs.length ∧ ∀ (k : Nat) d, ds[k]? = some d → ∃ c, cs[k]? = some c ∧ mC τ σ' rl bor c d
  | [], [], _ => ⟨rfl, by simp⟩
  | c :: cs, d :: ds, h => by
    obtain ⟨q1, q2⟩ := mCs_get h.2
    refine ⟨by simp [q1], fun k d' hk => ?_⟩
    cases k with
    | zero => simp at hk; subst hk; exact ⟨c, rfl, h.1⟩
    | succ k => simpa using q2 k d' (by simpa using hk)
  | [], _ :: _, h => h.elim
  | _ :: _, [], h => h.elim
theorem mE_sound (hv : VR σ ι ν S w) (hsub : ∀ l k, look τ l = some k → look σ l = some k) (hids : ∀ j k', look σ' (.o j) = some k' → ∃ k, look τ (.o (ren rl j)) = some k ∧ mK τ σ' rl bor k k') {c c' : E} {v : Value} (hm : mE τ σ' rl bor c c') (h : ER σ ι w S c v) :
    ER σ' (fun j => ι (ren rl j)) w (giveS σ ι bor S) c' v := by
  cases c <;> cases c' <;> simp only [mE] at hm
  · exact mC_sound hv hsub hids hm h
  · obtain ⟨vs, hvv, hl, hk⟩ := h
    obtain ⟨q1, q2⟩ := mCs_get hm
    exact ⟨vs, hvv, by rw [hl, q1], fun k d u hd hu => by
      obtain ⟨c, hc, hmc⟩ := q2 k d hd
      exact mC_sound hv hsub hids hmc (hk k c u hc hu)⟩
theorem mEs_get : ∀ {cs ds : List E}, mEs τ σ' rl bor cs ds → ds.length = cs.length ∧ ∀ (k : Nat) d, ds[k]? = some d → ∃ c, cs[k]? = some c ∧ mE τ σ' rl bor c d
  | [], [], _ => ⟨rfl, by simp⟩
  | c :: cs, d :: ds, h => by
    obtain ⟨q1, q2⟩ := mEs_get h.2
    refine ⟨by simp [q1], fun k d' hk => ?_⟩
    cases k with
    | zero => simp at hk; subst hk; exact ⟨c, rfl, h.1⟩
    | succ k => simpa using q2 k d' (by simpa using hk)
  | [], _ :: _, h => h.elim
  | _ :: _, [], h => h.elim
theorem mV_sound (hv : VR σ ι ν S w) (hsub : ∀ l k, look τ l = some k → look σ l = some k) (hids : ∀ j k', look σ' (.o j) = some k' → ∃ k, look τ (.o (ren rl j)) = some k ∧ mK τ σ' rl bor k k') {c c' : V} {v : Value} (hm : mV τ σ' rl bor c c') (h : VaR σ ι w S c v) :
    VaR σ' (fun j => ι (ren rl j)) w (giveS σ ι bor S) c' v := by
  cases c <;> cases c' <;> simp only [mV] at hm
  · exact mE_sound hv hsub hids hm h
  · obtain ⟨vs, hvv, hl, hk⟩ := h
    obtain ⟨q1, q2⟩ := mEs_get hm
    exact ⟨vs, hvv, by rw [hl, q1], fun k d u hd hu => by
      obtain ⟨c, hc, hmc⟩ := q2 k d hd
      exact mE_sound hv hsub hids hmc (hk k c u hc hu)⟩
theorem mK_live {k k' : K} (h : mK τ σ' rl bor k k') : k.live ∧ k'.live := by cases k <;> cases k' <;> simp_all [mK, K.live]
theorem Match.ids (h : Match τ σ' rl bor) : ∀ j k', look σ' (.o j) = some k' → ∃ k, look τ (.o (ren rl j)) = some k ∧ mK τ σ' rl bor k k' := fun j k' hl => (mL_get h.1 _ (look_mem hl)).2 j k' rfl
theorem Match.inj (h : Match τ σ' rl bor) {i j : Nat} (hi : i ∈ objIds σ') (hj : j ∈ objIds σ') (he : ren rl i = ren rl j) : i = j := by
  have := h.2
  simp only [mapOk, Bool.and_eq_true] at this
  exact nodupN_inj this.1.1 i hi j hj he
theorem Match.giv (h : Match τ σ' rl bor) {o j : Nat} (ho : o ∈ bor) (hj : j ∈ objIds σ') : ren rl j ≠ o := by
  have := h.2
  simp only [mapOk, Bool.and_eq_true] at this
  intro e
  exact apartN_spec this.2 o ho (by rw [← e]; exact List.mem_map.2 ⟨j, hj, rfl⟩)
theorem Match.mut (h : Match τ σ' rl bor) (hsub : ∀ l k, look τ l = some k → look σ l = some k) {j b : Nat} (hm : Mut σ' (fun j => ι (ren rl j)) j b) : Mut σ ι (ren rl j) b := by
  obtain ⟨⟨k', hk', hl⟩, hb⟩ := hm
  obtain ⟨k, hk, hmk⟩ := h.ids j k' hk'
  exact ⟨⟨k, hsub _ _ hk, (mK_live hmk).1⟩, hb⟩
theorem VR_match (h : Match τ σ' rl bor) (hsub : ∀ l k, look τ l = some k → look σ l = some k) (hv : VR σ ι ν S w) : VR σ' (fun j => ι (ren rl j)) ν (giveS σ ι bor S) w := by
  refine ⟨fun s X' hs => ?_, fun j k' hj => ?_, fun j b hm hS => ?_, fun j j' b hm hm' => ?_, fun b hb => ?_⟩
  · obtain ⟨X', rfl⟩ := mL_v h.1 s _ (look_mem hs)
    obtain ⟨X, hX, hmv⟩ := (mL_get h.1 _ (look_mem hs)).1 s X' rfl
    exact mV_sound hv hsub h.ids hmv (hv.slots s _ (hsub _ _ hX))
  · obtain ⟨k, hk, hmk⟩ := h.ids j k' hj
    have hor := hv.objs _ k (hsub _ _ hk)
    cases k <;> cases k' <;> simp only [mK] at hmk
    · obtain ⟨rfl, hcs⟩ := hmk
      obtain ⟨b, vs, hi, hh, hsz, hc⟩ := hor
      obtain ⟨q1, q2⟩ := mCs_get hcs
      exact ⟨b, vs, hi, hh, by rw [hsz, q1], fun k d u hd hu => by
        obtain ⟨c, hcc, hmc⟩ := q2 k d hd
        exact mC_sound hv hsub h.ids hmc (hc k c u hcc hu)⟩
    · obtain ⟨rfl, rfl, rfl⟩ := hmk
      rcases hor with hn | ⟨g, off, cap, cur, fz, hp, hh, hfz, h1, h2, h3, h4⟩
      · exact .inl hn
      · exact .inr ⟨g, off, cap, cur, fz, hp, hh, hfz, h1, h2, h3, fun i r hr => ⟨(h4 i r hr).1, fun k d hd => by
          obtain ⟨u, hu, hdr⟩ := (h4 i r hr).2 k d hd
          exact ⟨u, hu, DR.mono (fun b hb => .inl hb) (fun _ _ => rfl) hdr⟩⟩⟩
  · have hm1 := h.mut hsub hm
    rcases hS with hS | ⟨o, ho, hmo⟩
    · exact hv.mutS _ b hm1 hS
    · obtain ⟨⟨k', hk', _⟩, _⟩ := hm
      exact h.giv ho (mem_objIds hk') (hv.inj _ _ b hm1 hmo)
  · have h1 := h.mut hsub hm
    have h2 := h.mut hsub hm'
    obtain ⟨⟨k', hk', _⟩, _⟩ := hm
    obtain ⟨⟨k'', hk'', _⟩, _⟩ := hm'
    exact h.inj (mem_objIds hk') (mem_objIds hk'') (hv.inj _ _ b h1 h2)
  · rcases hb with hb | ⟨o, ho, ⟨k, hk, hl⟩, hb⟩
    · exact hv.sz b hb
    · exact OR.lt (hv.objs o k hk) hl hb
end

/-- The objects with which the call began keep their names, and are not given away. -/
def keepsIo (io : List Nat) (σ' : St) (rl : List (Nat × Nat)) (bor : List Nat) : Bool := io.all fun o => Nat.beq (ren rl o) o && memN o (objIds σ') && !memN o bor
theorem SW.weaken {P : Program} {io : List Nat} {c : Code} {Q : Ex → St → Prop} {σ : St} (σ' : St) (rl : List (Nat × Nat)) (bor : List Nat) (hm : Match σ σ' rl bor) (hk : keepsIo io σ' rl bor = true) (h : SW P io c Q σ') : SW P io c Q σ := fun cx ι S a w hio hw hf => by
  refine h cx (fun j => ι (ren rl j)) (giveS σ ι bor S) a w hio ?_ hf
  have hkk : ∀ o k, cx.k0 o = some k → ren rl o = o ∧ o ∈ objIds σ' ∧ o ∉ bor := fun o k ho => by
    have := List.all_eq_true.1 hk o (hio o k ho)
    simp only [Bool.and_eq_true, Bool.not_eq_true'] at this
    refine ⟨Nat.eq_of_beq_eq_true this.1.1, memN_iff.1 this.1.2, fun hb => ?_⟩
    rw [memN_iff.2 hb] at this; cases this.2
  have hvr := VR_match hm (fun _ _ h => h) hw.vr
  refine ⟨hvr, hw.size, hw.defers, hw.fr, fun j b hmu => ?_, fun b hb => ?_, fun o k ho => ?_⟩
  · rcases hw.own _ b (hm.mut (fun _ _ h => h) hmu) with h1 | ⟨k, h1, h2, h3⟩
    · exact .inl h1
    · obtain ⟨q1, q2, q3⟩ := hkk _ k h1
      obtain ⟨⟨k', hk', _⟩, _⟩ := hmu
      have : ren rl j = j := hm.inj q2 (mem_objIds hk') q1
      exact .inr ⟨k, by rw [← this]; exact h1, h2, by rw [← this]; exact h3⟩
  · rcases hb with hb | ⟨o, ho, hmo⟩
    · exact hw.rd b hb
    · rcases hw.own o b hmo with h1 | ⟨k, h1, h2, h3⟩
      · exact .inr h1
      · exact absurd ho (hkk o k h1).2.2
  · obtain ⟨q1, q2, q3⟩ := hkk o k ho
    obtain ⟨k1, hk1, hev⟩ := hw.io o k ho
    obtain ⟨p, hp⟩ := look_of_objIds q2
    obtain ⟨k2, hk2, hmk⟩ := hm.ids o p hp
    rw [q1] at hk2
    rw [hk1] at hk2; cases hk2
    refine ⟨p, hp, ?_⟩
    rw [q1]
    cases k <;> cases k1 <;> cases p <;> simp_all [Evo, mK]
end Go.Ab
