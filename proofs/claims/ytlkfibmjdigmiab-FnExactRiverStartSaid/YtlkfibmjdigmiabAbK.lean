/- Ab, part K: append. -/
import Derived.Test.YtlkfibmjdigmiabAbJ
namespace Go.Ab
open Go Go.RowKit
set_option linter.unusedVariables false
set_option linter.unusedSimpArgs false

/-- What is appended, or copied: its rows, and what is read for it. -/
def srcRows (T : Tab) (σ : St) (t2 : TypeId) : V → Option (Prop × List (List D) × List (Loc × Option K))
  | .e (.c (.d (.sl rows))) => match T t2 with
    | some ⟨.sl _, _, _, _⟩ => some (True, rows, [])
    | _ => none
  | .e (.c .nil) => match T t2 with
    | some ⟨.sl _, _, _, _⟩ => some (True, [], [])
    | _ => none
  | .e (.c (.own ob n)) => match T t2, look σ (.o ob) with
    | some ⟨.sl _, _, _, _⟩, some (.row e es rows) => some (rows.length = n, rows, [(.o ob, some (.row e es rows))])
    | _, _ => none
  | .e (.c (.d (.s l))) => match T t2 with
    | some ⟨.str, _, _, _⟩ => some (True, l.map fun b => [.u b.toNat], [])
    | _ => none
  | _ => none
/-- The cells of what is appended. -/
structure SrcOk (P : Program) (w : World) (S : Nat → Prop) (es : Nat) (rows : List (List D)) (vx : Value) (news : List Value) : Prop where
  len : (Builtin.lenOf vx).run P w = .ok rows.length w
  len' : ∀ w1, (Builtin.lenOf vx).run P w1 = .ok rows.length w1
  pre : ∀ w1 m, w1.heap = w.heap → m ≤ rows.length → (Builtin.firstCells es m vx).run P w1 = .ok (news.take (m * es)).toArray w1
  size : news.length = rows.length * es
  one : ∀ u ∈ news, u.oneCell' = true
  rel : ∀ (i : Nat) r, rows[i]? = some r → ∀ (k : Nat) d, r[k]? = some d → ∃ u, news[i * es + k]? = some u ∧ DR w S d u
theorem SrcOk.first {P : Program} {w : World} {S : Nat → Prop} {es : Nat} {rows : List (List D)} {vx : Value} {news : List Value} (h : SrcOk P w S es rows vx news) : ∀ w1, w1.heap = w.heap → (Builtin.firstCells es rows.length vx).run P w1 = .ok news.toArray w1 := fun w1 h1 => by
  have := h.pre w1 rows.length h1 (Nat.le_refl _)
  rwa [← h.size, List.take_length] at this
theorem cell?_heap {w w1 : World} (h : w1.heap = w.heap) (a : Addr) : w1.cell? a = w.cell? a := by simp [World.cell?, h]
theorem mul_le_idx {i n es k : Nat} (hi : i < n) (hk : k < es) : i * es + k < n * es := by
  have : (i + 1) * es ≤ n * es := Nat.mul_le_mul_right _ hi
  rw [Nat.add_mul, Nat.one_mul] at this; omega
theorem src_sound {P : Program} {T : Tab} (hT : TabOk P T) {σ0 : St} {t2 : TypeId} {X : V} {p : Prop} {rows : List (List D)} {R : List (Loc × Option K)} (h : srcRows T σ0 t2 X = some (p, rows, R)) (hp : p) {es : Nat} (hes : 0 < es) (hlen : ∀ r ∈ rows, r.length = es)
    {cx : Cx} {σ : St} {ι : Nat → Value} {S : Nat → Prop} {a : Act} {w : World} (hr : Reads R σ) (hw : RW cx σ ι S a w) {vx : Value} (hX : VaR σ ι w S X vx) : ∃ news, SrcOk P w S es rows vx news := by
  unfold srcRows at h
  split at h
  · split at h <;> try (cases h; done)
    cases h
    obtain ⟨a0, cap, es', ad, u, hv, hc, hm, he, ha, hw1, hd1⟩ := (show DR w S (.sl rows) vx from hX).sl_inv
    by_cases hrz : rows = []
    · subst hrz
      refine ⟨[], ⟨by rw [hv]; simp [Builtin.lenOf], fun w1 => by rw [hv]; simp [Builtin.lenOf], fun w1 m h1 hm => ?_, by simp, by simp, by simp⟩⟩
      rw [hv]
      obtain rfl : m = 0 := by simpa using hm
      cases a0 <;> simp [Builtin.firstCells, loadCells, loadCellsFrom]
    · have ha0 := ha hrz
      subst ha0
      have hee : es' = es := by
        obtain ⟨r, hrm⟩ := List.exists_mem_of_ne_nil _ hrz
        rw [← he r hrm]; exact hlen r hrm
      subst hee
      have hcell : ∀ (j : Nat), j < rows.length * es' → w.cell? (ad.add j) = some (u (j / es') (j % es')) ∧ (u (j / es') (j % es')).oneCell' = true := by
        intro j hj
        have h1 : j / es' < rows.length := (Nat.div_lt_iff_lt_mul hes).2 hj
        have h2 : j % es' < es' := Nat.mod_lt _ hes
        have hrl := he _ (List.getElem_mem h1)
        have h3 : j % es' < (rows[j / es']).length := by rw [hrl]; exact h2
        obtain ⟨_, hc⟩ := hw1 (j / es') _ (j % es') _ (List.getElem?_eq_getElem h1) (List.getElem?_eq_getElem h3)
        rw [Nat.div_add_mod'] at hc
        exact ⟨hc, DR.oneCell (hd1 (j / es') _ (j % es') _ (List.getElem?_eq_getElem h1) (List.getElem?_eq_getElem h3))⟩
      refine ⟨(List.range (rows.length * es')).map fun j => u (j / es') (j % es'), ⟨by rw [hv]; simp [Builtin.lenOf], fun w1 => by rw [hv]; simp [Builtin.lenOf], fun w1 m h1 hm => ?_, by simp, ?_, fun i r hri k d hk => ?_⟩⟩
      · rw [hv]
        have hle : m * es' ≤ rows.length * es' := Nat.mul_le_mul_right _ hm
        refine run_firstCells_some (P := P) w1 es' m ad rows.length cap _ (by rw [List.length_take, List.length_map, List.length_range]; omega) (fun j v hj => ?_)
        have hjl : j < m * es' := by have := (List.getElem?_eq_some_iff.1 hj).1; rw [List.length_take, List.length_map, List.length_range] at this; omega
        rw [List.getElem?_take, if_pos hjl] at hj
        have hjl : j < rows.length * es' := by omega
        simp [hjl] at hj
        rw [cell?_heap h1, (hcell j hjl).1, hj]
      · intro v hv2
        simp only [List.mem_map, List.mem_range] at hv2
        obtain ⟨j, hj, rfl⟩ := hv2
        exact (hcell j hj).2
      · have hil : i < rows.length := (List.getElem?_eq_some_iff.1 hri).1
        have hkl : k < es' := by rw [← hlen r (List.mem_of_getElem? hri)]; exact (List.getElem?_eq_some_iff.1 hk).1
        refine ⟨u i k, ?_, hd1 i r k d hri hk⟩
        have e1 : (i * es' + k) / es' = i := by rw [Nat.mul_comm, Nat.mul_add_div hes, Nat.div_eq_of_lt hkl]; rfl
        have e2 : (i * es' + k) % es' = k := by rw [Nat.mul_comm, Nat.mul_add_mod, Nat.mod_eq_of_lt hkl]
        simp [mul_le_idx hil hkl, e1, e2]
  · split at h <;> try (cases h; done)
    cases h
    have hv : vx = .slice none 0 0 := hX
    exact ⟨[], ⟨by rw [hv]; simp [Builtin.lenOf], fun w1 => by rw [hv]; simp [Builtin.lenOf], fun w1 m h1 hm => by (obtain rfl : m = 0 := by simpa using hm); rw [hv]; simp [Builtin.firstCells], by simp, by simp, by simp⟩⟩
  · rename_i ob n
    split at h <;> try (cases h; done)
    rename_i e _ _ _ e' es' _ _ hl
    cases h
    have hl' := hr (.o ob, some (.row e' es' rows)) (by simp)
    dsimp only at hl'
    obtain ⟨_, h2⟩ := (show CR σ ι w S (.own ob n) vx from hX)
    rcases h2 with ⟨e2, es2, rows2, hl2, hn, hv⟩ | hd
    · rw [hl'] at hl2; cases hl2
      have hv1 := hv hp
      clear hv
      have hv := hv1
      clear hv1
      rcases hw.vr.objs ob _ hl' with ⟨hn2, hr2⟩ | ⟨g, off, cap, cur, fz, hg, hh, hfz, hc1, hc2, hc3, hrows⟩
      · subst hr2
        rw [hn2] at hv
        exact ⟨[], ⟨by rw [hv]; simp [Builtin.lenOf], fun w1 => by rw [hv]; simp [Builtin.lenOf], fun w1 m h1 hm => by (obtain rfl : m = 0 := by simpa using hm); rw [hv]; simp [Builtin.firstCells], by simp, by simp, by simp⟩⟩
      · rw [hg] at hv
        by_cases hrz : rows = []
        · subst hrz
          exact ⟨[], ⟨by rw [hv]; simp [Builtin.lenOf], fun w1 => by rw [hv]; simp [Builtin.lenOf], fun w1 m h1 hm => by (obtain rfl : m = 0 := by simpa using hm); rw [hv]; simp [Builtin.firstCells, loadCells, loadCellsFrom], by simp, by simp, by simp⟩⟩
        · have hee : es' = es := by
            obtain ⟨r, hrm⟩ := List.exists_mem_of_ne_nil _ hrz
            obtain ⟨i, hi⟩ := List.mem_iff_getElem?.1 hrm
            rw [← (hrows i r hi).1]; exact hlen r hrm
          subst hee
          have hle : rows.length * es' ≤ cap * es' := Nat.mul_le_mul_right _ hc1
          have h9 : cur.toList.length = cur.size := Array.length_toList
          have hget : ∀ j, j < rows.length * es' → ((cur.toList.drop off).take (rows.length * es'))[j]? = cur[off + j]? := by
            intro j hj
            rw [List.getElem?_take, if_pos hj, List.getElem?_drop]; simp
          refine ⟨(cur.toList.drop off).take (rows.length * es'), ⟨by rw [hv]; simp [Builtin.lenOf], fun w1 => by rw [hv]; simp [Builtin.lenOf], fun w1 m h1 hm => ?_, by simp; omega, ?_, fun i r hri k d hk => ?_⟩⟩
          · rw [hv]
            have hle2 : m * es' ≤ rows.length * es' := Nat.mul_le_mul_right _ hm
            refine run_firstCells_some (P := P) w1 es' m ⟨g, off, none⟩ rows.length cap _ (by rw [List.length_take, List.length_take, List.length_drop]; omega) (fun j v hj => ?_)
            have hjl : j < m * es' := by have := (List.getElem?_eq_some_iff.1 hj).1; rw [List.length_take] at this; omega
            rw [List.getElem?_take, if_pos hjl] at hj
            have hjl : j < rows.length * es' := by omega
            rw [hget j hjl] at hj
            rw [cell?_heap h1, add_mk, cell_of_row w g _ cur e' fz hh]; exact hj
          · intro v hv2
            obtain ⟨j, hj⟩ := List.mem_iff_getElem?.1 hv2
            have hjl : j < rows.length * es' := by have := (List.getElem?_eq_some_iff.1 hj).1; simp at this; omega
            rw [hget j hjl] at hj
            have h1 : j / es' < rows.length := (Nat.div_lt_iff_lt_mul hes).2 hjl
            have h2 : j % es' < es' := Nat.mod_lt _ hes
            have hrr := hrows (j / es') _ (List.getElem?_eq_getElem h1)
            have h3 : j % es' < (rows[j / es']).length := by rw [hrr.1]; exact h2
            obtain ⟨u, hu, hdr⟩ := hrr.2 (j % es') _ (List.getElem?_eq_getElem h3)
            rw [Nat.add_assoc, Nat.div_add_mod'] at hu
            rw [hu] at hj; cases hj
            exact DR.oneCell hdr
          · have hil : i < rows.length := (List.getElem?_eq_some_iff.1 hri).1
            have hkl : k < es' := by rw [← hlen r (List.mem_of_getElem? hri)]; exact (List.getElem?_eq_some_iff.1 hk).1
            obtain ⟨u, hu, hdr⟩ := (hrows i r hri).2 k d hk
            exact ⟨u, by rw [hget _ (mul_le_idx hil hkl), ← Nat.add_assoc]; exact hu, hdr⟩
    · rw [hl'] at hd; cases hd
  · rename_i l
    split at h <;> try (cases h; done)
    cases h
    have hv : vx = .string ⟨l.toArray⟩ := by
      have hX : DR w S (.s l) vx := hX
      cases hX; rfl
    by_cases hlz : l = []
    · subst hlz
      refine ⟨[], ⟨by rw [hv]; simp [Builtin.lenOf]; rfl, fun w1 => by rw [hv]; simp [Builtin.lenOf]; rfl, fun w1 m h1 hm => ?_, by simp, by simp, by simp⟩⟩
      rw [hv]
      obtain rfl : m = 0 := by simpa using hm
      simp only [Builtin.firstCells, List.map_nil, List.length_nil]
      have : ((⟨([] : List UInt8).toArray⟩ : ByteArray).extract 0 0) = ⟨([] : List UInt8).toArray⟩ := by
        apply ByteArray.ext
        simp
      rw [this]; simp
    · have he1 : es = 1 := by
        obtain ⟨b, hb⟩ := List.exists_mem_of_ne_nil _ hlz
        have := hlen [.u b.toNat] (List.mem_map.2 ⟨b, hb, rfl⟩)
        simpa using this.symm
      subst he1
      refine ⟨l.map fun b => .int .u8 b.toNat, ⟨by rw [hv]; simp [Builtin.lenOf, size_mk], fun w1 => by rw [hv]; simp [Builtin.lenOf, size_mk], fun w1 m h1 hm => ?_, by simp, by simp [Value.oneCell'], fun i r hri k d hk => ?_⟩⟩
      · rw [hv]
        simp only [Builtin.firstCells, List.length_map]
        have : ((⟨l.toArray⟩ : ByteArray).extract 0 m) = ⟨(l.take m).toArray⟩ := by
          apply ByteArray.ext
          simp
        rw [this]; simp
      · rw [List.getElem?_map] at hri
        cases hq : l[i]? with
        | none => rw [hq] at hri; cases hri
        | some b =>
          rw [hq] at hri; cases hri
          cases k with
          | zero =>
            simp at hk; subst hk
            exact ⟨.int .u8 b.toNat, by simp [hq], .u _⟩
          | succ k => simp at hk
  · cases h

/-- The model's append, over any source that is read. -/
theorem run_append_fits {P : Program} {w : World} {t t2 ty e : TypeId} {ti : TI} {d2 : TypeDesc} (hu : P.underlying t = some (.slice e)) (hok : TIOk P e ti) (hu2 : P.underlying t2 = some d2) (hd2 : ∀ k, d2 ≠ .int k)
    {S : Nat → Prop} {rows : List (List D)} {vx : Value} {news : List Value} (hs : SrcOk P w S ti.size rows vx news)
    (g off sLen sCap : Nat) (cur : Array Value) (ce : TypeId) {fz : Nat × Nat} (hfz : FzOk fz cur.size) (hg : w.heap[g]? = some (.cells cur ce fz)) (hroom : sLen + rows.length ≤ sCap) (hfit : off + sCap * ti.size ≤ cur.size) :
    (Builtin.append_ #[t, t2] ty #[.slice (some ⟨g, off, none⟩) sLen sCap, vx]).run P w = .ok (.slice (some ⟨g, off, none⟩) (sLen + rows.length) sCap) (w.setRow g (setSeg cur.toList (off + sLen * ti.size) news).toArray) := by
  have hmul : (sLen + rows.length) * ti.size ≤ sCap * ti.size := Nat.mul_le_mul_right _ hroom
  rw [Nat.add_mul, ← hs.size] at hmul
  have hst := run_storeCells_fz (P := P) g (off + sLen * ti.size) ce fz news 0 cur w hg hfz (by omega) hs.one
  simp only [Nat.add_zero, setSeg] at hst
  have hz : (match d2 with | .int _ => true | _ => false) = false := by cases d2 <;> first | rfl | exact absurd rfl (hd2 _)
  simp [Builtin.append_, run_underlying hu, run_underlying hu2, run_sizeOfT hok, hs.len, hroom, hs.first w rfl, add_mk, hst, setSeg, hz]
theorem run_append_none {P : Program} {w : World} {t t2 ty e : TypeId} {ti : TI} {d2 : TypeDesc} (hu : P.underlying t = some (.slice e)) (hok : TIOk P e ti) (hu2 : P.underlying t2 = some d2) (hd2 : ∀ k, d2 ≠ .int k)
    {S : Nat → Prop} {vx : Value} {news : List Value} (hs : SrcOk P w S ti.size [] vx news) :
    (Builtin.append_ #[t, t2] ty #[.slice none 0 0, vx]).run P w = .ok (.slice none 0 0) w := by
  have hz : (match d2 with | .int _ => true | _ => false) = false := by cases d2 <;> first | rfl | exact absurd rfl (hd2 _)
  have h1 := hs.len
  have h2 := hs.first w rfl
  simp only [List.length_nil] at h1 h2
  simp [Builtin.append_, run_underlying hu, run_underlying hu2, run_sizeOfT hok, h1, h2, hz]
theorem run_append_grows {P : Program} {w : World} {t t2 ty e : TypeId} {ti : TI} {d2 : TypeDesc} (hu : P.underlying t = some (.slice e)) (hok : TIOk P e ti) (hu2 : P.underlying t2 = some d2) (hd2 : ∀ k, d2 ≠ .int k)
    {S : Nat → Prop} {rows : List (List D)} {vx : Value} {news : List Value} (hs : SrcOk P w S ti.size rows vx news) (base : Option Addr) (sLen sCap : Nat) (olds : List Value)
    (hold : ∀ w1, w1.heap = w.heap → (Builtin.firstCells ti.size sLen (.slice base sLen sCap)).run P w1 = .ok olds.toArray w1)
    (hgrow : sCap < sLen + rows.length) (hbytes : (sLen + rows.length) * ti.bytes ≤ 140737488355328) :
    ∃ cap zs, (Builtin.append_ #[t, t2] ty #[.slice base sLen sCap, vx]).run P w = .ok (.slice (some ⟨w.heap.size, 0, none⟩) (sLen + rows.length) cap) (w.drew.alloc (.cells (olds ++ news ++ zs).toArray e)) ∧ sLen + rows.length ≤ cap ∧ cap ≤ maxLen ∧
      zs.length = (cap - (sLen + rows.length)) * ti.size := by
  have hz : (match d2 with | .int _ => true | _ => false) = false := by cases d2 <;> first | rfl | exact absurd rfl (hd2 _)
  obtain ⟨i, z, hi, hsz, hby, hzero, hzc⟩ := hok.info
  have hb := hok.bpos
  have hle : sLen + rows.length ≤ (sLen + rows.length) * ti.bytes := Nat.le_mul_of_pos_right _ hb
  have hfit : ¬ (281474976710656 < Builtin.nextslicecap (sLen + rows.length) sCap * ti.bytes) := by
    have := growslice_fits hgrow hbytes; omega
  have hcl := grownCap_ge w (sLen + rows.length) sCap e
  have hcm := grownCap_le_maxLen w (sLen + rows.length) sCap e (by simp only [maxLen]; omega)
  have hzl : z.cells.size = ti.size := by rw [← Array.length_toList, hzc, List.length_map, hok.zlen]
  refine ⟨grownCap w (sLen + rows.length) sCap e, (Builtin.zeroCells z.cells (grownCap w (sLen + rows.length) sCap e - (sLen + rows.length))).toList, ?_, hcl, hcm, ?_⟩
  · have hn : ¬ (sLen + rows.length ≤ sCap) := by omega
    have h63 : ¬ (9223372036854775807 < ((sLen : Int) + (rows.length : Int))) := by omega
    have ho := hold w.drew rfl
    have hf := hs.first w.drew rfl
    simp [Builtin.append_, run_underlying hu, run_underlying hu2, run_sizeOfT hok, hs.len, hn, h63, typeInfo, hi, hby, hfit, hz, Question.forced, zeroValue, hzero, newRow, grownCap]
    rw [ho, Result.andThen_ok, hf, Result.andThen_ok]
    simp
    congr 2
    apply Array.toList_inj.1
    simp
  · simp [size_zeroCells, hzl]
end Go.Ab
