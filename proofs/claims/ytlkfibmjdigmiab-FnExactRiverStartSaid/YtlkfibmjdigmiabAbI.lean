/- Ab, part I: stores; struct and slice literals; make. -/
import Derived.Test.YtlkfibmjdigmiabAbH
namespace Go.Ab
open Go Go.RowKit
set_option linter.unusedVariables false
set_option linter.unusedSimpArgs false

theorem step_turn {σ : St} {ι ν : Nat → Value} {S : Nat → Prop} {w w' : World} (h : VR σ ι ν S w) {id : Nat} {old : Option Nat} {k : K} {p : Value}
    (block : ∀ b, b < w.heap.size → some b ≠ old → w'.heap[b]? = w.heap[b]?) (mine : ∀ b, old = some b → Mut σ ι id b) (evo : look σ (.o id) = none ∨ ∃ k0, look σ (.o id) = some k0 ∧ Evo (ι id) p k0 k) :
    Step σ ι S w (upd σ (.o id) k) (fun o => if o = id then p else ι o) S w' := by
  refine ⟨fun _ h => h, fun b hb => block b (h.sz b hb) (fun e => h.mutS id b (mine b e.symm) hb), fun o k0 hk => ?_⟩
  by_cases e : o = id
  · subst e
    refine ⟨k, look_upd_same _ _ _, ?_⟩
    rcases evo with hn | ⟨k1, hk1, hev⟩
    · rw [hn] at hk; cases hk
    · rw [hk1] at hk; cases hk; rw [if_pos rfl]; exact hev
  · refine ⟨k0, by rw [look_upd_ne _ _ (by simpa using fun h => e h.symm)]; exact hk, ?_⟩
    rw [if_neg e]; exact Evo.refl' _ _

def setSeg {α : Type} (cs : List α) (k : Nat) (vs : List α) : List α := cs.take k ++ vs ++ cs.drop (k + vs.length)
theorem length_setSeg {α : Type} {cs vs : List α} {k : Nat} (h : k + vs.length ≤ cs.length) : (setSeg cs k vs).length = cs.length := by
  simp [setSeg]; omega
theorem get_setSeg {α : Type} {cs vs : List α} {k : Nat} (h : k + vs.length ≤ cs.length) (j : Nat) :
    (setSeg cs k vs)[j]? = if j < k then cs[j]? else if j < k + vs.length then vs[j - k]? else cs[j]? := by
  have hk : (cs.take k).length = k := by simp; omega
  unfold setSeg
  by_cases h1 : j < k
  · rw [if_pos h1, List.append_assoc, List.getElem?_append_left (by rw [hk]; exact h1), List.getElem?_take, if_pos h1]
  · rw [if_neg h1]
    by_cases h2 : j < k + vs.length
    · rw [if_pos h2, List.append_assoc, List.getElem?_append_right (by rw [hk]; omega), hk, List.getElem?_append_left (by omega)]
    · rw [if_neg h2, List.getElem?_append_right (by simp; omega), List.getElem?_drop]
      congr 1
      simp; omega
theorem setSeg_rel {α β : Type} (r : α → β → Prop) {cs vs : List α} {us ws : List β} {k : Nat} (hl : us.length = cs.length) (hv : ws.length = vs.length) (hk : k + vs.length ≤ cs.length)
    (h1 : ∀ (j : Nat) c u, cs[j]? = some c → us[j]? = some u → r c u) (h2 : ∀ (j : Nat) c u, vs[j]? = some c → ws[j]? = some u → r c u) :
    ∀ (j : Nat) c u, (setSeg cs k vs)[j]? = some c → (setSeg us k ws)[j]? = some u → r c u := by
  intro j c u hc hu
  rw [get_setSeg hk] at hc
  rw [get_setSeg (by omega)] at hu
  rw [hv] at hu
  split at hc
  · rename_i h; rw [if_pos h] at hu; exact h1 j c u hc hu
  · rename_i h
    rw [if_neg h] at hu
    split at hc
    · rename_i h'; rw [if_pos h'] at hu; exact h2 _ c u hc hu
    · rename_i h'; rw [if_neg h'] at hu; exact h1 j c u hc hu

def toD : C → Option D
  | .d x => some x
  | .nil => some (.sl [])
  | _ => none
def toDs : List C → Option (List D)
  | [] => some []
  | c :: cs => match toD c, toDs cs with
    | some x, some xs => some (x :: xs)
    | _, _ => none
theorem toD_sound {σ : St} {ι : Nat → Value} {w : World} {S : Nat → Prop} {c : C} {x : D} {v : Value} (h : toD c = some x) (hc : CR σ ι w S c v) : DR w S x v := by
  cases c with
  | d y => cases h; exact hc
  | nil =>
    cases h
    have hc : v = .slice none 0 0 := hc
    subst hc
    exact .sl [] none 0 0 ⟨0, 0, none⟩ (fun _ _ => undef) (by simp) (by simp [maxLen]) (by simp) (by simp) (by simp) (by simp)
  | _ => cases h
theorem toDs_length : ∀ {cs : List C} {xs : List D}, toDs cs = some xs → xs.length = cs.length
  | [], xs, h => by cases h; rfl
  | c :: cs, xs, h => by
    simp only [toDs] at h
    split at h <;> try (cases h; done)
    rename_i x ys h1 h2
    cases h
    simp [toDs_length h2]
theorem toDs_get : ∀ {cs : List C} {xs : List D}, toDs cs = some xs → ∀ (k : Nat) x, xs[k]? = some x → ∃ c, cs[k]? = some c ∧ toD c = some x
  | [], xs, h, k, x, hx => by cases h; simp at hx
  | c :: cs, xs, h, k, x, hx => by
    simp only [toDs] at h
    split at h <;> try (cases h; done)
    rename_i y ys h1 h2
    cases h
    cases k with
    | zero => simp at hx; subst hx; exact ⟨c, rfl, h1⟩
    | succ k => simpa using toDs_get h2 k x (by simpa using hx)

theorem run_storeCells_fz {P : Program} (g o : Nat) (t : TypeId) (fz : Nat × Nat) : ∀ (vs : List Value) (i : Nat) (cur : Array Value) (w : World), w.heap[g]? = some (.cells cur t fz) → FzOk fz cur.size → o + i + vs.length ≤ cur.size → (∀ v ∈ vs, v.oneCell' = true) →
    (storeCells ⟨g, o, none⟩ vs i).run P w = .ok () (w.setRow g (setSeg cur.toList (o + i) vs).toArray)
  | [], i, cur, w, hg, hfz, _, _ => by
    simp only [storeCells, setSeg, List.append_nil, List.length_nil, Nat.add_zero, List.take_append_drop, Array.toArray_toList]
    rw [setRow_self w g cur t fz hg]
    rfl
  | v :: rest, i, cur, w, hg, hfz, hl, h1 => by
    have hi : o + i < cur.size := by simp at hl; omega
    have hadd : (⟨g, o, none⟩ : Addr).add i = ⟨g, o + i, none⟩ := by unfold Addr.add; split <;> simp_all
    have hcell : w.cell? ⟨g, o + i, none⟩ = some cur[o + i] := by simp [World.cell?, hg, hi]
    have hfro : w.frozen? ⟨g, o + i, none⟩ = false := by
      obtain ⟨lo, hi'⟩ := fz
      simp only [World.frozen?, hg]
      rcases hfz with h | h
      · cases h; simp
      · simp only at h
        rw [Bool.and_eq_false_iff]
        left; rw [decide_eq_false_iff_not]; omega
    have hst : (store ((⟨g, o, none⟩ : Addr).add i) v).run P w = .ok () (w.setRow g (cur.setIfInBounds (o + i) v)) := by
      rw [hadd, run_store P w _ v _ (h1 v (by simp)), hcell]
      simp [hfro, setCell_eq_setRow w g (o + i) cur t fz v hg]
    have ih := run_storeCells_fz (P := P) g o t fz rest (i + 1) (cur.setIfInBounds (o + i) v) (w.setRow g (cur.setIfInBounds (o + i) v)) (setRow_heap w g cur _ t _ hg) (by simpa using hfz) (by simp at hl ⊢; omega) (fun x hx => h1 x (by simp [hx]))
    simp only [storeCells, Sem.run_bind, hst, Result.andThen_ok, ih, setRow_setRow]
    congr 3
    rw [Array.toList_setIfInBounds]
    apply List.ext_getElem?
    intro j
    have hlen : cur.toList.length = cur.size := Array.length_toList
    have hl' : o + i + (rest.length + 1) ≤ cur.size := by simpa using hl
    rw [get_setSeg (by rw [List.length_set, hlen]; omega), get_setSeg (by rw [hlen, List.length_cons]; omega), List.getElem?_set, List.length_cons]
    by_cases c1 : j < o + i
    · rw [if_pos (by omega), if_neg (by omega), if_pos (by omega)]
    · by_cases c2 : j = o + i
      · subst c2
        rw [if_pos (by omega), if_pos rfl, if_pos (by omega), if_neg (by omega), if_pos (by omega)]
        simp
      · by_cases c3 : j < o + i + (rest.length + 1)
        · rw [if_neg (by omega), if_pos (by omega), if_neg (by omega), if_pos (by omega), show j - (o + i) = (j - (o + (i + 1))) + 1 by omega, List.getElem?_cons_succ]
        · rw [if_neg (by omega), if_neg (by omega), if_neg (by omega), if_neg (by omega), if_neg (by omega)]
theorem run_storeVar_seg {P : Program} {w : World} {t ty : TypeId} {ti : TI} (hti : TIOk P t ti) (b off : Nat) (cur : Array Value) {fz : Nat × Nat} (hfz : FzOk fz cur.size) (hg : w.heap[b]? = some (.cells cur ty fz)) (v : Value) (vs : List Value) (hv : v.cells = vs.toArray)
    (hl : vs.length = ti.size) (hfit : off + vs.length ≤ cur.size) (h1 : ∀ u ∈ vs, u.oneCell' = true) :
    (storeVar t ⟨b, off, none⟩ v).run P w = .ok () (w.setRow b (setSeg cur.toList off vs).toArray) := by
  have := run_storeCells_fz (P := P) b off ty fz vs 0 cur w hg hfz (by simpa using hfit) h1
  simp only [Nat.add_zero] at this
  simp [storeVar, run_sizeOfT hti, hv, hl, this]

theorem opt_turn {P : Program} {o : Oper} {id : Nat} {R : List (Loc × Option K)} {k : K} (hd : o.dst = none)
    (h : ∀ (cx : Cx) (σ : St) (ι : Nat → Value) (S : Nat → Prop) (a : Act) (w : World), Reads R σ → RW cx σ ι S a w → ∃ old p w', (execOp a.eval o).run P w = .ok .skip w' ∧ Turn σ ι S w id old k p w') :
    OpT P o R [(.o id, k)] := by
  intro cx σ ι S a w hr hw hb next Q hn
  obtain ⟨old, p, w', he, ht⟩ := h cx σ ι S a w hr hw
  unfold Oper.wp
  rw [he]
  simp only [Oper.upon, hd, put_none]
  exact hn _ S _ w' (hw.turn ht)

def aStore (T : Tab) (σ : St) (t : TypeId) (x y : Operand) (d : Option Tmp) : Res :=
  match ev σ x, ev σ y, T t, d with
  | some (.e (.c (.pt ob k)), R), some (X, R2), some ti, none => match cellsOf X, look σ (.o ob) with
    | some vs, some (.box ty cs) => some (vs.length = ti.size ∧ k + vs.length ≤ cs.length, R ++ R2 ++ [(.o ob, some (.box ty cs))], [(.o ob, .box ty (setSeg cs k vs))])
    | _, _ => none
  | some (.e (.c (.pe ob n i k)), R), some (X, R2), some ti, none => match (cellsOf X).bind toDs, look σ (.o ob) with
    | some vs, some (.row e es rows) => some (rows.length = n ∧ i < n ∧ vs.length = ti.size ∧ k + vs.length ≤ (rows.getD i []).length, R ++ R2 ++ [(.o ob, some (.row e es rows))], [(.o ob, .row e es (rows.set i (setSeg (rows.getD i []) k vs)))])
    | _, _ => none
  | _, _, _, _ => none
theorem good_store {P : Program} {T : Tab} (hT : TabOk P T) {o : Oper} {σ0 : St} {t : TypeId} {x y : Operand} (ho : o.op = .store t x y) : Good P o σ0 (aStore T σ0 t x y o.dst) := by
  intro p R W h hp
  unfold aStore at h
  split at h
  · rename_i ob k Rx X Ry ti hx hy hti hd
    split at h <;> try (cases h; done)
    rename_i vs ty cs hvs hl
    cases h
    have hok := hT t ti hti
    refine ⟨opt_turn hd fun cx σ ι S a w hr hw => ?_, ((ev_reads hx).append (ev_reads hy)).append (Reads.one hl)⟩
    have hl' := hr.right (.o ob, some (.box ty cs)) (by simp)
    dsimp only at hl'
    have hX := ev_sound hx hr.left.left hw
    have hY := ev_sound hy hr.left.right hw
    obtain ⟨us, hu, hul, huk⟩ := cellsOf_sound hvs hY
    obtain ⟨b, cur, hi, hh, hsz, hc⟩ := hw.vr.objs ob _ hl'
    obtain ⟨_, h2⟩ := (show CR σ ι w S (.pt ob k) (a.eval x) from hX)
    rcases h2 with ⟨ty2, cs2, hl2, b', hi', hv⟩ | hdd
    · rw [hi] at hi'; cases hi'
      have hone : ∀ u ∈ us, u.oneCell' = true := fun u hu' => by
        obtain ⟨j, hj⟩ := List.mem_iff_getElem?.1 hu'
        have hlt : j < vs.length := by rw [← hul]; exact (List.getElem?_eq_some_iff.1 hj).1
        exact CR.one (huk j _ u (List.getElem?_eq_getElem hlt) hj)
      have hrun := run_storeVar_seg (P := P) hok b k cur (.inl rfl) hh (a.eval y) us hu (by rw [hul]; exact hp.1) (by rw [hul, hsz]; exact hp.2) hone
      have hmine : ∀ b', some b = some b' → Mut σ ι ob b' := fun b' e => by cases e; exact ⟨⟨_, hl', trivial⟩, by rw [hi]; rfl⟩
      have hblock : ∀ b', b' < w.heap.size → some b' ≠ some b → (w.setRow b (setSeg cur.toList k us).toArray).heap[b']? = w.heap[b']? := fun b' _ hne => setRow_other w b b' _ (fun e => hne (by rw [e]))
      have hevo : look σ (.o ob) = none ∨ ∃ k0, look σ (.o ob) = some k0 ∧ Evo (ι ob) (ι ob) k0 (.box ty (setSeg cs k vs)) := .inr ⟨_, hl', rfl⟩
      have st := step_turn hw.vr (p := ι ob) hblock hmine hevo
      refine ⟨some b, ι ob, w.setRow b (setSeg cur.toList k us).toArray, by simp [execOp, ho, hv, Instr.storeAt, Instr.sureAddr, hrun], ⟨rfl, rfl, rfl, by simp, hblock, hmine, hevo, fun b' hb => .inl (by rw [hi] at hb; exact hb.symm), ?_⟩⟩
      refine ⟨b, (setSeg cur.toList k us).toArray, hi, setRow_heap w b cur _ ty _ hh, ?_, ?_⟩
      · rw [List.size_toArray, length_setSeg (by have h9 : cur.toList.length = cur.size := Array.length_toList; have := hp.2; omega), length_setSeg hp.2]; exact (Array.length_toList (xs := cur)).trans hsz
      · intro j c u h1 h2
        have h2' : (setSeg cur.toList k us)[j]? = some u := by simpa using h2
        exact setSeg_rel (fun c u => CR (upd σ (.o ob) (.box ty (setSeg cs k vs))) (fun o => if o = ob then ι ob else ι o) (w.setRow b (setSeg cur.toList k us).toArray) S c u) (by simpa using hsz) hul hp.2
          (fun j c u h1 h2 => CR.step st (hc j c u h1 (by simpa using h2))) (fun j c u h1 h2 => CR.step st (huk j c u h1 h2)) j c u h1 h2'
    · rw [hl'] at hdd; cases hdd
  · rename_i ob n i k Rx X Ry ti hx hy hti hd
    split at h <;> try (cases h; done)
    rename_i vs e es rows hvs hl
    cases h
    have hok := hT t ti hti
    obtain ⟨h1, h2, h3, h4⟩ := hp
    cases hcs : cellsOf X with
    | none => rw [hcs] at hvs; cases hvs
    | some ccs =>
    rw [hcs] at hvs
    have hvs : toDs ccs = some vs := hvs
    refine ⟨opt_turn hd fun cx σ ι S a w hr hw => ?_, ((ev_reads hx).append (ev_reads hy)).append (Reads.one hl)⟩
    have hl' := hr.right (.o ob, some (.row e es rows)) (by simp)
    dsimp only at hl'
    have hX := ev_sound hx hr.left.left hw
    have hY := ev_sound hy hr.left.right hw
    obtain ⟨us, hu, hul, huk⟩ := cellsOf_sound hcs hY
    have hvl := toDs_length hvs
    have hdr : ∀ (j : Nat) d u, vs[j]? = some d → us[j]? = some u → DR w S d u := fun j d u hj hu' => by
      obtain ⟨c, hc, htd⟩ := toDs_get hvs j d hj
      exact toD_sound htd (huk j c u hc hu')
    obtain ⟨_, hpe⟩ := (show CR σ ι w S (.pe ob n i k) (a.eval x) from hX)
    rcases hpe with ⟨e2, es2, rows2, hl2, hn, hv⟩ | hdd
    · rw [hl'] at hl2; cases hl2
      obtain ⟨g, off, cap, hig, hvv⟩ := hv h1
      rcases hw.vr.objs ob _ hl' with ⟨hn3, _⟩ | ⟨g', off', cap', cur, fz, hg, hh, hfz, hc1, hc2, hc3, hrows⟩
      · rw [hig] at hn3; cases hn3
      · have hg' := hg
        rw [hig] at hg; cases hg
        have hlt : i < rows.length := by omega
        have hrow : rows.getD i [] = rows[i] := by simp [hlt]
        rw [hrow] at h4
        have hri := hrows i _ (List.getElem?_eq_getElem hlt)
        have hone : ∀ u ∈ us, u.oneCell' = true := fun u hu' => by
          obtain ⟨j, hj⟩ := List.mem_iff_getElem?.1 hu'
          have hlt : j < ccs.length := by rw [← hul]; exact (List.getElem?_eq_some_iff.1 hj).1
          exact CR.one (huk j _ u (List.getElem?_eq_getElem hlt) hj)
        have hin : i * es + es ≤ cap * es := by
          have : (i + 1) * es ≤ cap * es := Nat.mul_le_mul_right _ (by omega)
          rw [Nat.add_mul, Nat.one_mul] at this; exact this
        have hfit : off + i * es + k + us.length ≤ cur.size := by rw [hul, ← hvl]; rw [hri.1] at h4; omega
        have hrun := run_storeVar_seg (P := P) hok g (off + i * es + k) cur hfz hh (a.eval y) us hu (by rw [hul, ← hvl]; exact h3) hfit hone
        have hmine : ∀ b', some g = some b' → Mut σ ι ob b' := fun b' e => by cases e; exact ⟨⟨_, hl', trivial⟩, by rw [hig]; rfl⟩
        have hblock : ∀ b', b' < w.heap.size → some b' ≠ some g → (w.setRow g (setSeg cur.toList (off + i * es + k) us).toArray).heap[b']? = w.heap[b']? := fun b' _ hne => setRow_other w g b' _ (fun e => hne (by rw [e]))
        have hevo : look σ (.o ob) = none ∨ ∃ k0, look σ (.o ob) = some k0 ∧ Evo (ι ob) (ι ob) k0 (.row e es (rows.set i (setSeg (rows.getD i []) k vs))) := .inr ⟨_, hl', rfl, by simp, fun _ => rfl⟩
        have st := step_turn hw.vr (p := ι ob) hblock hmine hevo
        refine ⟨some g, ι ob, w.setRow g (setSeg cur.toList (off + i * es + k) us).toArray, by simp [execOp, ho, hvv, Instr.storeAt, Instr.sureAddr, hrun], ⟨rfl, rfl, rfl, by simp, hblock, hmine, hevo, fun b' hb => .inl (by rw [hig] at hb; exact hb.symm), ?_⟩⟩
        · refine .inr ⟨g, off, cap, (setSeg cur.toList (off + i * es + k) us).toArray, fz, by rw [hg']; simp, setRow_heap w g cur _ e _ hh, by rw [List.size_toArray, length_setSeg (by have h9 : cur.toList.length = cur.size := Array.length_toList; omega), Array.length_toList]; exact hfz, by simpa using hc1, hc2, ?_, fun i2 r2 hr2 => ?_⟩
          · rw [List.size_toArray, length_setSeg (by have h9 : cur.toList.length = cur.size := Array.length_toList; omega)]; exact (Array.length_toList (xs := cur)) ▸ hc3
          · rw [List.getElem?_set] at hr2
            have get : ∀ j, (setSeg cur.toList (off + i * es + k) us).toArray[j]? = if j < off + i * es + k then cur[j]? else if j < off + i * es + k + us.length then us[j - (off + i * es + k)]? else cur[j]? := fun j => by
              rw [← Array.getElem?_toList, List.toList_toArray, get_setSeg (by have h9 : cur.toList.length = cur.size := Array.length_toList; omega)]
              simp
            by_cases hii : i = i2
            · subst hii
              simp [hlt] at hr2
              have hr2 : setSeg rows[i] k vs = r2 := by rw [← hr2]
              subst hr2
              refine ⟨by rw [length_setSeg h4]; exact hri.1, fun j d hd => ?_⟩
              rw [get_setSeg h4] at hd
              rw [get]
              split at hd
              · rename_i hjk
                obtain ⟨u, hu1, hu2⟩ := hri.2 j d hd
                exact ⟨u, by rw [if_pos (by omega)]; exact hu1, DR.mono st.sub st.keep hu2⟩
              · rename_i hjk
                split at hd
                · rename_i hjk2
                  have hjl : j - k < us.length := by omega
                  refine ⟨us[j - k], ?_, DR.mono st.sub st.keep (hdr _ d _ hd (List.getElem?_eq_getElem hjl))⟩
                  rw [if_neg (by omega), if_pos (by omega), show off + i * es + j - (off + i * es + k) = j - k by omega]
                  exact List.getElem?_eq_getElem hjl
                · rename_i hjk2
                  obtain ⟨u, hu1, hu2⟩ := hri.2 j d hd
                  exact ⟨u, by rw [if_neg (by omega), if_neg (by omega)]; exact hu1, DR.mono st.sub st.keep hu2⟩
            · rw [if_neg hii] at hr2
              have hr3 := hrows i2 r2 hr2
              refine ⟨hr3.1, fun j d hd => ?_⟩
              obtain ⟨u, hu1, hu2⟩ := hr3.2 j d hd
              refine ⟨u, ?_, DR.mono st.sub st.keep hu2⟩
              rw [get]
              have hjes : j < es := by rw [← hr3.1]; exact (List.getElem?_eq_some_iff.1 hd).1
              rw [hri.1] at h4
              rcases Nat.lt_or_gt_of_ne hii with hlt2 | hgt2
              · have : (i + 1) * es ≤ i2 * es := Nat.mul_le_mul_right _ hlt2
                rw [Nat.add_mul, Nat.one_mul] at this
                rw [if_neg (by omega), if_neg (by omega)]; exact hu1
              · have : (i2 + 1) * es ≤ i * es := Nat.mul_le_mul_right _ hgt2
                rw [Nat.add_mul, Nat.one_mul] at this
                rw [if_pos (by omega)]; exact hu1
    · rw [hl'] at hdd; cases hdd
  · cases h
end Go.Ab
