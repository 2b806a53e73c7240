/- Ab, part J: struct and slice literals; make. -/
import Derived.Test.YtlkfibmjdigmiabAbI
namespace Go.Ab
open Go Go.RowKit
set_option linter.unusedVariables false
set_option linter.unusedSimpArgs false

/-! several operands -/
def evs (σ : St) : List (Nat × Operand) → Option (List (Nat × V) × List (Loc × Option K))
  | [] => some ([], [])
  | (i, x) :: r => match ev σ x, evs σ r with
    | some (X, R), some (Xs, R') => some ((i, X) :: Xs, R ++ R')
    | _, _ => none
theorem evs_reads {σ : St} : ∀ {ps : List (Nat × Operand)} {Xs : List (Nat × V)} {R : List (Loc × Option K)}, evs σ ps = some (Xs, R) → Reads R σ
  | [], Xs, R, h => by cases h; exact Reads.nil
  | (i, x) :: r, Xs, R, h => by
    simp only [evs] at h
    split at h <;> try (cases h; done)
    rename_i X R1 Ys R2 h1 h2
    cases h
    exact (ev_reads h1).append (evs_reads h2)
/-- Values beside their contents. -/
def PairsR (σ : St) (ι : Nat → Value) (w : World) (S : Nat → Prop) : List (Nat × V) → List (Nat × Value) → Prop
  | [], [] => True
  | (i, X) :: r, (j, v) :: r' => i = j ∧ VaR σ ι w S X v ∧ PairsR σ ι w S r r'
  | _, _ => False
theorem evs_sound {σ0 : St} {cx : Cx} {σ : St} {ι : Nat → Value} {S : Nat → Prop} {a : Act} {w : World} (hw : RW cx σ ι S a w) :
    ∀ {ps : List (Nat × Operand)} {Xs : List (Nat × V)} {R : List (Loc × Option K)}, evs σ0 ps = some (Xs, R) → Reads R σ → PairsR σ ι w S Xs (ps.map fun x => (x.1, a.eval x.2))
  | [], Xs, R, h, _ => by cases h; trivial
  | (i, x) :: r, Xs, R, h, hr => by
    simp only [evs] at h
    split at h <;> try (cases h; done)
    rename_i X R1 Ys R2 h1 h2
    cases h
    exact ⟨rfl, ev_sound h1 hr.left hw, evs_sound hw h2 hr.right⟩

/-! struct literals -/
/-- As setSeg; each list is gone through once. -/
def setSegF : List C → Nat → List C → List C
  | [], _, _ => []
  | c :: cs, n + 1, vs => c :: setSegF cs n vs
  | c :: cs, 0, [] => c :: cs
  | _ :: cs, 0, v :: vs => v :: setSegF cs 0 vs
theorem setSegF_eq : ∀ {cs : List C} {k : Nat} {vs : List C}, k + vs.length ≤ cs.length → setSegF cs k vs = setSeg cs k vs
  | [], k, vs, h => by
    obtain rfl : vs = [] := by simp at h; exact h.2
    simp [setSegF, setSeg]
  | c :: cs, n + 1, vs, h => by
    have := setSegF_eq (cs := cs) (k := n) (vs := vs) (by simp at h; omega)
    simp [setSegF, this, setSeg, Nat.add_right_comm]
  | c :: cs, 0, [], h => by simp [setSegF, setSeg]
  | c :: cs, 0, v :: vs, h => by
    have := setSegF_eq (cs := cs) (k := 0) (vs := vs) (by simp at h ⊢; omega)
    simp [setSegF, this, setSeg]
def fillC (T : Tab) (t : TypeId) : List C → List (Nat × V) → Option (Prop × List C)
  | cs, [] => some (True, cs)
  | cs, (i, X) :: rest => match fieldOf T t i, cellsOf X with
    | some (off, ti), some vs => match fillC T t (setSegF cs off vs) rest with
      | some (p, r) => some ((vs.length = ti.size ∧ off + vs.length ≤ cs.length) ∧ p, r)
      | none => none
    | _, _ => none
def placesOf (T : Tab) : List (Nat × TypeId) → Option (List (Nat × Nat))
  | [] => some []
  | (off, t) :: r => match T t, placesOf T r with
    | some ti, some ps => some ((off, ti.size) :: ps)
    | _, _ => none
theorem placesOf_sound {P : Program} {T : Tab} (hT : TabOk P T) : ∀ (fs : List Field) (ps : List (Nat × Nat)), placesOf T (fs.map fun f => (f.offset, f.type)) = some ps →
    fs.mapM (fun f => (P.info? f.type).map fun i => (f.offset, i.size)) = some ps ∧ ∀ (i : Nat) f, fs[i]? = some f → ∃ ti, T f.type = some ti ∧ ps[i]? = some (f.offset, ti.size)
  | [], ps, h => by cases h; exact ⟨rfl, by simp⟩
  | f :: fs, ps, h => by
    simp only [List.map_cons, placesOf] at h
    split at h <;> try (cases h; done)
    rename_i ti ps' h1 h2
    cases h
    obtain ⟨g1, g2⟩ := placesOf_sound hT fs ps' h2
    obtain ⟨i, z, hi, hs, _⟩ := (hT _ _ h1).info
    refine ⟨by simp [hi, g1, hs], fun j f' hj => ?_⟩
    cases j with
    | zero => simp at hj; subst hj; exact ⟨ti, h1, rfl⟩
    | succ j => simpa using g2 j f' (by simpa using hj)
theorem fold_seg (off : Nat) (vs : List Value) (cells : Array Value) (h : off + vs.length ≤ cells.size) :
    (vs.toArray.zipIdx.foldl (fun cs (x : Value × Nat) => cs.setIfInBounds (off + x.2) x.1) cells) = (setSeg cells.toList off vs).toArray := by
  rw [← Array.foldl_toList, Array.toList_zipIdx]
  obtain ⟨h1, h2⟩ := Go.Great.foldl_set off vs 0 cells
  apply Array.ext_getElem?
  intro k
  have h9 : cells.toList.length = cells.size := Array.length_toList
  have e9 : (setSeg cells.toList off vs).toArray[k]? = (setSeg cells.toList off vs)[k]? := by simp
  rw [h2 k, e9, get_setSeg (by omega)]
  simp only [Nat.add_zero]
  by_cases e1 : k < off
  · rw [if_neg (by omega), if_pos e1]; simp
  · rw [if_neg e1]
    by_cases e2 : k < off + vs.length
    · rw [if_pos ⟨by omega, e2, by omega⟩, if_pos e2]
    · rw [if_neg (by omega), if_neg e2]; simp
theorem fillC_sound {P : Program} {T : Tab} (hT : TabOk P T) {t : TypeId} {fields : Array Field} (hu : P.underlying t = some (.struct fields)) {ps : List (Nat × Nat)}
    (hps : ∀ (i : Nat) f, fields.toList[i]? = some f → ∃ ti, T f.type = some ti ∧ ps[i]? = some (f.offset, ti.size)) {σ : St} {ι : Nat → Value} {w : World} {S : Nat → Prop} :
    ∀ (Xs : List (Nat × V)) (vals : List (Nat × Value)) (cs : List C) (cells : Array Value) (p : Prop) (r : List C), PairsR σ ι w S Xs vals → cells.size = cs.length →
      (∀ (j : Nat) c u, cs[j]? = some c → cells[j]? = some u → CR σ ι w S c u) → fillC T t cs Xs = some (p, r) → p →
      ∃ rc : List Value, Instr.fill (ps.toArray[·]?) cells vals = some rc.toArray ∧ rc.length = r.length ∧ ∀ (j : Nat) c u, r[j]? = some c → rc[j]? = some u → CR σ ι w S c u
  | [], [], cs, cells, p, r, _, hsz, hc, h, _ => by
    cases h
    exact ⟨cells.toList, by simp [Instr.fill], by simpa using hsz, fun j c u h1 h2 => hc j c u h1 (by simpa using h2)⟩
  | (i, X) :: Xs, (j, v) :: vals, cs, cells, p, r, hp, hsz, hc, h, hpp => by
    obtain ⟨rfl, hX, hp⟩ := hp
    simp only [fillC] at h
    split at h <;> try (cases h; done)
    rename_i off ti vs hf hvs
    split at h <;> try (cases h; done)
    rename_i p' r' hrest
    cases h
    obtain ⟨⟨h1, h2⟩, hp'⟩ := hpp
    rw [setSegF_eq h2] at hrest
    obtain ⟨us, hu', hul, huk⟩ := cellsOf_sound hvs hX
    obtain ⟨fields', fl, hu2, hfl, hoff, hti⟩ := fieldOf_sound hT hf
    rw [hu] at hu2; cases hu2
    obtain ⟨ti', hti', hpl⟩ := hps i fl (by simpa using hfl)
    have hsize : ti'.size = ti.size := by
      obtain ⟨i1, z1, q1, q2, _⟩ := (hT _ _ hti').info
      obtain ⟨i2, z2, q3, q4, _⟩ := hti.info
      rw [q1] at q3; cases q3
      rw [← q2, ← q4]
    rw [hoff, hsize] at hpl
    have hfold := fold_seg off us cells (by rw [hul, hsz]; exact h2)
    have h9 : cells.toList.length = cells.size := Array.length_toList
    obtain ⟨rc, g1, g2, g3⟩ := fillC_sound hT hu hps Xs vals (setSeg cs off vs) (setSeg cells.toList off us).toArray p' r hp
      (by rw [List.size_toArray, length_setSeg (by omega), length_setSeg h2]; omega)
      (fun j c u hcj huj => setSeg_rel (CR σ ι w S) (by omega) hul h2 (fun j c u h1 h2 => hc j c u h1 (by simpa using h2)) huk j c u hcj (by simpa using huj)) hrest hp'
    refine ⟨rc, ?_, g2, g3⟩
    unfold Instr.fill
    have hpl' : ps.toArray[i]? = some (off, ti.size) := by simpa using hpl
    simp only [hpl', hu']
    rw [if_neg (by simp [hul, h1]; omega), ← g1, ← hfold]
  | [], _ :: _, _, _, _, _, hp, _, _, _, _ => hp.elim
  | _ :: _, [], _, _, _, _, hp, _, _, _, _ => hp.elim

def aBuild (T : Tab) (σ : St) (t : TypeId) (parts : List (Nat × Operand)) (d : Option Tmp) : Res :=
  match T t, evs σ parts, d with
  | some ⟨.st fs, sz, by', zero⟩, some (Xs, R), some d => match placesOf T fs, fillC T t zero Xs with
    | some _, some (p, r) => some (p, R, [(.t d, .v (.e (.agg r)))])
    | _, _ => none
  | _, _, _ => none
theorem good_build {P : Program} {T : Tab} (hT : TabOk P T) {o : Oper} {σ0 : St} {t : TypeId} {parts : Array (Nat × Operand)} (ho : o.op = .build t parts) : Good P o σ0 (aBuild T σ0 t parts.toList o.dst) := by
  intro p R W h hp
  unfold aBuild at h
  split at h <;> try (cases h; done)
  rename_i fs sz by' zero Xs Rx d ht hxs hd
  split at h <;> try (cases h; done)
  rename_i places p' r hpl hfill
  cases h
  have hok := hT t _ ht
  obtain ⟨fields, hu, hfs⟩ := hok.kind
  rw [← hfs] at hpl
  obtain ⟨hm, hps⟩ := placesOf_sound hT fields.toList places hpl
  refine ⟨opt_val hd fun cx σ ι S a w hr hw => ?_, evs_reads hxs⟩
  obtain ⟨i, z, hi, _, _, hz, hzc⟩ := hok.info
  obtain ⟨rc, g1, g2, g3⟩ := fillC_sound (σ := σ) (ι := ι) (w := w) (S := S) hT hu hps Xs (parts.toList.map fun x => (x.1, a.eval x.2)) zero z.cells p r (evs_sound hw hxs hr)
    (by rw [← Array.length_toList, hzc]; simp)
    (fun j c u h1 h2 => by
      rw [← Array.getElem?_toList, hzc, List.getElem?_map, h1] at h2
      cases h2
      exact zconst_sound (List.all_eq_true.1 hok.zok c (List.mem_of_getElem? h1))) hfill hp
  have hb : P.built t (parts.map fun x => (x.1, a.eval x.2)).toList = some rc.toArray := by
    unfold Program.built
    simp only [hi, hu, hz, hm]
    rw [Array.toList_map]
    exact g1
  refine ⟨.agg rc.toArray, ?_, rc, rfl, g2, g3⟩
  have hrun := run_build (P := P) w t (parts.map fun x => (x.1, a.eval x.2)) rc.toArray hb
  simp [execOp, ho]
  rw [hrun]; rfl

/-! slice literals -/
def rowsOf : List (Nat × V) → Option (List (List D))
  | [] => some []
  | (i, X) :: r => match (cellsOf X).bind toDs, rowsOf r with
    | some ds, some rs => some (ds :: rs)
    | _, _ => none
def denseFrom : Nat → List (Nat × Operand) → Bool
  | _, [] => true
  | k, (i, _) :: r => i == k && denseFrom (k + 1) r
def aBuildSlice (T : Tab) (σ : St) (t : TypeId) (len : Nat) (parts : List (Nat × Operand)) (d : Option Tmp) : Res :=
  match T t, evs σ parts, d with
  | some ⟨.sl e, _, _, _⟩, some (Xs, R), some d => match T e, rowsOf Xs with
    | some ti, some rows => if absent σ (.o (newId σ d)) && denseFrom 0 parts && (len == parts.length) then
        some ((∀ r ∈ rows, r.length = ti.size) ∧ rows.length * ti.size ≤ 2 ^ 24, R ++ [(.o (newId σ d), none)], [(.o (newId σ d), .row e ti.size rows), (.t d, .v (.e (.c (.own (newId σ d) rows.length))))]) else none
    | _, _ => none
  | _, _, _ => none
theorem rowsOf_length : ∀ {Xs : List (Nat × V)} {rows : List (List D)}, rowsOf Xs = some rows → rows.length = Xs.length
  | [], rows, h => by cases h; rfl
  | (i, X) :: r, rows, h => by
    simp only [rowsOf] at h
    split at h <;> try (cases h; done)
    rename_i ds rs h1 h2
    cases h
    simp [rowsOf_length h2]
theorem evs_length {σ : St} : ∀ {ps : List (Nat × Operand)} {Xs : List (Nat × V)} {R : List (Loc × Option K)}, evs σ ps = some (Xs, R) → Xs.length = ps.length
  | [], Xs, R, h => by cases h; rfl
  | (i, x) :: r, Xs, R, h => by
    simp only [evs] at h
    split at h <;> try (cases h; done)
    rename_i X R1 Ys R2 h1 h2
    cases h
    simp [evs_length h2]
theorem dense_zip : ∀ (k : Nat) (ps : List (Nat × Operand)) (f : Operand → Value), denseFrom k ps = true → ps.map (fun x => (x.1, f x.2)) = ((ps.map fun x => f x.2).zipIdx k).map fun x => (x.2, x.1)
  | k, [], f, _ => rfl
  | k, (i, x) :: r, f, h => by
    simp only [denseFrom, Bool.and_eq_true, beq_iff_eq] at h
    obtain ⟨rfl, h⟩ := h
    simp [dense_zip (i + 1) r f h]
theorem rowsOf_sound {σ : St} {ι : Nat → Value} {w : World} {S : Nat → Prop} : ∀ {Xs : List (Nat × V)} {vals : List (Nat × Value)} {rows : List (List D)}, PairsR σ ι w S Xs vals → rowsOf Xs = some rows →
    ∀ (i : Nat) r, rows[i]? = some r → ∃ j v, vals[i]? = some (j, v) ∧ v.cells.size = r.length ∧ ∀ (k : Nat) d, r[k]? = some d → ∃ u, v.cells[k]? = some u ∧ DR w S d u
  | [], [], rows, _, h, i, r, hr => by cases h; simp at hr
  | (i0, X) :: Xs, (j0, v) :: vals, rows, hp, h, i, r, hr => by
    obtain ⟨rfl, hX, hp⟩ := hp
    simp only [rowsOf] at h
    split at h <;> try (cases h; done)
    rename_i ds rs h1 h2
    cases h
    cases i with
    | zero =>
      simp at hr; subst hr
      cases hcs : cellsOf X with
      | none => rw [hcs] at h1; cases h1
      | some cs =>
        rw [hcs] at h1
        have h1 : toDs cs = some ds := h1
        obtain ⟨us, hu, hul, huk⟩ := cellsOf_sound hcs hX
        refine ⟨i0, v, rfl, by rw [hu]; simp [hul, toDs_length h1], fun k d hd => ?_⟩
        obtain ⟨c, hc, htd⟩ := toDs_get h1 k d hd
        have hlt : k < us.length := by rw [hul]; exact (List.getElem?_eq_some_iff.1 hc).1
        exact ⟨us[k], by rw [hu]; simp [hlt], toD_sound htd (huk k c _ hc (List.getElem?_eq_getElem hlt))⟩
    | succ i =>
      obtain ⟨j, v', g1, g2, g3⟩ := rowsOf_sound hp h2 i r (by simpa using hr)
      exact ⟨j, v', by simpa using g1, g2, g3⟩
  | [], _ :: _, _, hp, _, _, _, _ => hp.elim
  | _ :: _, [], _, hp, _, _, _, _ => hp.elim
/-- Rows that lie side by side in an array. -/
theorem row_of_flat {w : World} {S : Nat → Prop} {es : Nat} (hes : 0 < es) {rows : List (List D)} {vs : List Value} (hl : vs.length = rows.length) (hlen : ∀ r ∈ rows, r.length = es)
    (h : ∀ (i : Nat) r, rows[i]? = some r → ∃ v, vs[i]? = some v ∧ v.cells.size = r.length ∧ ∀ (k : Nat) d, r[k]? = some d → ∃ u, v.cells[k]? = some u ∧ DR w S d u) :
    ∀ (i : Nat) r, rows[i]? = some r → r.length = es ∧ ∀ (k : Nat) d, r[k]? = some d → ∃ u, (vs.flatMap fun v => v.cells.toList).toArray[0 + i * es + k]? = some u ∧ DR w S d u := by
  have hall : ∀ v ∈ vs, v.cells.size = es := by
    intro v hv
    obtain ⟨i, hi⟩ := List.mem_iff_getElem?.1 hv
    have hlt : i < rows.length := by rw [← hl]; exact (List.getElem?_eq_some_iff.1 hi).1
    obtain ⟨v', h1, h2, _⟩ := h i _ (List.getElem?_eq_getElem hlt)
    rw [hi] at h1; cases h1
    rw [h2]; exact hlen _ (List.getElem_mem hlt)
  intro i r hr
  have hre := hlen r (List.mem_of_getElem? hr)
  refine ⟨hre, fun k d hd => ?_⟩
  obtain ⟨v, h1, h2, h3⟩ := h i r hr
  obtain ⟨u, hu, hdr⟩ := h3 k d hd
  refine ⟨u, ?_, hdr⟩
  have hk : k < es := by rw [← hre]; exact (List.getElem?_eq_some_iff.1 hd).1
  rw [List.getElem?_toArray, Go.Great.flat_get hes vs hall]
  have e1 : (0 + i * es + k) / es = i := by
    rw [Nat.zero_add, Nat.mul_comm, Nat.mul_add_div hes, Nat.div_eq_of_lt hk]; rfl
  have e2 : (0 + i * es + k) % es = k := by
    rw [Nat.zero_add, Nat.mul_comm, Nat.mul_add_mod, Nat.mod_eq_of_lt hk]
  rw [e1, e2, h1]; exact hu
theorem good_buildSlice {P : Program} {T : Tab} (hT : TabOk P T) {o : Oper} {σ0 : St} {t : TypeId} {len : Nat} {parts : Array (Nat × Operand)} (ho : o.op = .buildSlice t len parts) : Good P o σ0 (aBuildSlice T σ0 t len parts.toList o.dst) := by
  intro p R W h hp
  unfold aBuildSlice at h
  split at h <;> try (cases h; done)
  rename_i e _ _ _ Xs Rx d ht hxs hd
  split at h <;> try (cases h; done)
  rename_i ti rows hte hrows
  split at h <;> try (cases h; done)
  rename_i hcond
  simp only [Bool.and_eq_true, beq_iff_eq] at hcond
  obtain ⟨⟨habs, hdense⟩, hlen⟩ := hcond
  cases h
  obtain ⟨hp1, hp2⟩ := hp
  have hu := (hT t _ ht).kind
  simp only [TKOk] at hu
  have hok := hT e ti hte
  refine ⟨opt_new hd (by simp) fun cx σ ι S a w hr hw => ?_, (evs_reads hxs).append (Reads.one (absent_look habs))⟩
  have hno := hr.right (.o (newId σ0 d), none) (by simp)
  dsimp only at hno
  have hpairs := evs_sound hw hxs hr.left
  have hrl := rowsOf_length hrows
  have hxl := evs_length hxs
  have hrs := rowsOf_sound hpairs hrows
  obtain ⟨vs, hvs⟩ : ∃ vs : List Value, vs = parts.toList.map fun x => a.eval x.2 := ⟨_, rfl⟩
  have hvl : vs.length = rows.length := by rw [hvs]; simp; simp at hxl; omega
  have hcells : ∀ (i : Nat) r, rows[i]? = some r → ∃ v, vs[i]? = some v ∧ v.cells.size = r.length ∧ ∀ (k : Nat) d, r[k]? = some d → ∃ u, v.cells[k]? = some u ∧ DR w S d u := by
    intro i r hri
    obtain ⟨j, v, g1, g2, g3⟩ := hrs i r hri
    refine ⟨v, ?_, g2, g3⟩
    rw [hvs]
    rw [List.getElem?_map] at g1 ⊢
    cases hq : parts.toList[i]? with
    | none => rw [hq] at g1; cases g1
    | some x => rw [hq] at g1; cases g1; rfl
  have hall : ∀ v ∈ vs, v.cells.size = ti.size := by
    intro v hv
    obtain ⟨i, hi⟩ := List.mem_iff_getElem?.1 hv
    have hlt : i < rows.length := by rw [← hvl]; exact (List.getElem?_eq_some_iff.1 hi).1
    obtain ⟨v', h1, h2, _⟩ := hcells i _ (List.getElem?_eq_getElem hlt)
    rw [hi] at h1; cases h1
    rw [h2]; exact hp1 _ (List.getElem_mem hlt)
  obtain ⟨cells, hcl⟩ : ∃ cells : Array Value, cells = (vs.flatMap fun v => v.cells.toList).toArray := ⟨_, rfl⟩
  have hcsz : cells.size = rows.length * ti.size := by
    rw [hcl, List.size_toArray, ← hvl]
    clear hvs hcells hcl hvl
    induction vs with
    | nil => simp
    | cons v vs ih =>
      rw [List.flatMap_cons, List.length_append, ih (fun v hv => hall v (List.mem_cons_of_mem _ hv)), Array.length_toList, hall v (List.mem_cons_self ..), List.length_cons, Nat.add_mul, Nat.one_mul, Nat.add_comm]
  have hlen' : len = rows.length := by simp at hxl; rw [hlen]; simp; omega
  have hrun : (Instr.buildSlice t len (parts.map fun x => (x.1, a.eval x.2))).run P w = .ok (.slice (some ⟨w.heap.size, 0, none⟩) len len) (w.alloc (.cells cells e)) := by
    obtain ⟨i, z, hi, hs, _, hz, _⟩ := hok.info
    have hparts : (parts.map fun x => (x.1, a.eval x.2)).toList = (vs.zipIdx 0).map fun x => (x.2, x.1) := by
      rw [Array.toList_map, hvs]; exact dense_zip 0 parts.toList a.eval hdense
    by_cases h0 : len * ti.size = 0
    · have hrz : rows.length = 0 := by
        rcases Nat.mul_eq_zero.1 h0 with h | h
        · omega
        · have := hok.pos; omega
      have hvs0 : vs = [] := List.eq_nil_of_length_eq_zero (by omega)
      have hc0 : cells = #[] := by rw [hcl, hvs0]; rfl
      rw [hvs0] at hparts
      simp only [List.zipIdx_nil, List.map_nil] at hparts
      simp only [Instr.buildSlice, Sem.run_bind, run_underlying hu, Result.andThen_ok, run_sizeOfT hok]
      rw [if_neg (by omega)]
      rw [Array.toList_map] at hparts
      simp [h0, hparts, Instr.fill, newRow, hc0, Array.range_zero']
    · refine run_buildSlice w t e len _ cells i z hu hi hz (by rw [hs, hlen']; omega) (by rw [hs]; exact h0) ?_
      rw [hs, hparts, hcl]
      exact Go.Great.fill_whole hok.pos vs _ hall (by rw [Array.size_map, Array.size_range, hvl, hlen'])
  obtain ⟨htt, st⟩ := turn_alloc (ν := tmpsOf a) (w := w) (w0 := w) (σ := σ) (ι := ι) (S := S) (id := newId σ0 d) (k := .row e ti.size rows) (p := .slice (some ⟨w.heap.size, 0, none⟩) len len) (o := .cells cells e) ⟨rfl, rfl, rfl, rfl⟩ hno
    (fun b hb => by simp [blk] at hb; exact hb.symm)
    (fun st => .inr ⟨w.heap.size, 0, len, cells, (0, 0), by rw [hlen'], heap_alloc_new w _, .inl rfl, by omega, by
        have := hp2; have h2 := hok.pos
        have h3 : len ≤ len * ti.size := Nat.le_mul_of_pos_right _ h2
        simp only [maxLen]; rw [hlen'] at h3 ⊢; omega, by rw [hcsz, hlen']; omega, by
        intro i r hri
        have hflat := row_of_flat (w := w.alloc (.cells cells e)) (S := S) hok.pos hvl hp1 (fun i r hri => by
          obtain ⟨v, g1, g2, g3⟩ := hcells i r hri
          exact ⟨v, g1, g2, fun k d hd => by obtain ⟨u, hu1, hu2⟩ := g3 k d hd; exact ⟨u, hu1, DR.mono st.sub st.keep hu2⟩⟩) i r hri
        rw [← hcl] at hflat
        exact hflat⟩) hw.vr.sz
  refine ⟨.slice (some ⟨w.heap.size, 0, none⟩) len len, _, _, ?_, htt, rfl, .inl ⟨e, ti.size, rows, look_upd_same _ _ _, Nat.le_refl _, fun _ => by simp⟩⟩
  simp [execOp, ho]
  rw [hrun]; rfl
end Go.Ab
