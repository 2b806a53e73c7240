/- Ab, part L: the operation append; copy; slices of slices and of strings; bytes to a string. -/
import Derived.Test.YtlkfibmjdigmiabAbK
namespace Go.Ab
open Go Go.RowKit
set_option linter.unusedVariables false
set_option linter.unusedSimpArgs false

theorem srcRows_type {P : Program} {T : Tab} (hT : TabOk P T) {σ0 : St} {t2 : TypeId} {X : V} {p : Prop} {rows : List (List D)} {R : List (Loc × Option K)} (h : srcRows T σ0 t2 X = some (p, rows, R)) :
    ∃ d2, P.underlying t2 = some d2 ∧ ∀ k, d2 ≠ .int k := by
  unfold srcRows at h
  split at h <;> try (cases h; done)
  all_goals
    split at h <;> try (cases h; done)
    rename_i ht
    have := (hT t2 _ ‹_›).kind
    simp only [TKOk] at this
    exact ⟨_, this, fun k e => by cases e⟩
theorem srcRows_reads {T : Tab} {σ0 : St} {t2 : TypeId} {X : V} {p : Prop} {rows : List (List D)} {R : List (Loc × Option K)} (h : srcRows T σ0 t2 X = some (p, rows, R)) : Reads R σ0 := by
  unfold srcRows at h
  split at h <;> try (cases h; done)
  all_goals
    split at h <;> try (cases h; done)
    cases h
    first | exact Reads.nil | exact Reads.one ‹_›

/-- Opt for operations that turn, or make, one object, and write a slot. -/
theorem opt_turn2 {P : Program} {o : Oper} {d id : Nat} {R : List (Loc × Option K)} {k : K} {X : V} (hd : o.dst = some d)
    (h : ∀ (cx : Cx) (σ : St) (ι : Nat → Value) (S : Nat → Prop) (a : Act) (w : World), Reads R σ → RW cx σ ι S a w → ∃ v old p w', (execOp a.eval o).run P w = .ok (.value v) w' ∧ Turn σ ι S w id old k p w' ∧
      VaR (upd σ (.o id) k) (fun o => if o = id then p else ι o) w' S X v) : OpT P o R [(.o id, k), (.t d, .v X)] := by
  intro cx σ ι S a w hr hw hb next Q hn
  obtain ⟨v, old, p, w', he, ht, hx⟩ := h cx σ ι S a w hr hw
  unfold Oper.wp
  rw [he]
  simp only [Oper.upon, hd]
  exact hn _ S _ w' ((hw.turn ht).put (hb d hd) hx)

def aAppend (T : Tab) (σ : St) (t t2 : TypeId) (x y : Operand) (d : Option Tmp) : Res :=
  match ev σ x, ev σ y, T t, d with
  | some (.e (.c (.own ob n)), R), some (Y, R2), some ⟨.sl e, _, _, _⟩, some d => match T e, look σ (.o ob), srcRows T σ t2 Y with
    | some ti, some (.row e' es rows), some (q, news, R3) => if e = e' ∧ ti.size = es then
        some (q ∧ rows.length = n ∧ (∀ r ∈ news, r.length = es) ∧ (n + news.length) * ti.bytes ≤ 140737488355328, R ++ R2 ++ R3 ++ [(.o ob, some (.row e' es rows))],
          [(.o ob, .row e es (rows ++ news)), (.t d, .v (.e (.c (.own ob (rows ++ news).length))))]) else none
    | _, _, _ => none
  | some (.e (.c .nil), R), some (Y, R2), some ⟨.sl e, _, _, _⟩, some d => match T e, srcRows T σ t2 Y with
    | some ti, some (q, news, R3) => if absent σ (.o (newId σ d)) then
        some (q ∧ (∀ r ∈ news, r.length = ti.size) ∧ news.length * ti.bytes ≤ 140737488355328, R ++ R2 ++ R3 ++ [(.o (newId σ d), none)],
          [(.o (newId σ d), .row e ti.size news), (.t d, .v (.e (.c (.own (newId σ d) news.length))))]) else none
    | _, _ => none
  | _, _, _, _ => none

theorem flat_rows {w : World} {S : Nat → Prop} {es : Nat} {rows news : List (List D)} {off : Nat} {at_ : Nat → Option Value}
    (hold : ∀ (i : Nat) r, rows[i]? = some r → r.length = es ∧ ∀ (k : Nat) d, r[k]? = some d → ∃ u, at_ (off + i * es + k) = some u ∧ DR w S d u)
    (hnew : ∀ r ∈ news, r.length = es) (hn : ∀ (i : Nat) r, news[i]? = some r → ∀ (k : Nat) d, r[k]? = some d → ∃ u, at_ (off + rows.length * es + (i * es + k)) = some u ∧ DR w S d u) :
    ∀ (i : Nat) r, (rows ++ news)[i]? = some r → r.length = es ∧ ∀ (k : Nat) d, r[k]? = some d → ∃ u, at_ (off + i * es + k) = some u ∧ DR w S d u := by
  intro i r hr
  by_cases hi : i < rows.length
  · rw [List.getElem?_append_left hi] at hr
    exact hold i r hr
  · rw [List.getElem?_append_right (by omega)] at hr
    refine ⟨hnew r (List.mem_of_getElem? hr), fun k d hk => ?_⟩
    obtain ⟨u, hu, hdr⟩ := hn (i - rows.length) r hr k d hk
    refine ⟨u, ?_, hdr⟩
    have : off + i * es + k = off + rows.length * es + ((i - rows.length) * es + k) := by
      have : i * es = rows.length * es + (i - rows.length) * es := by rw [← Nat.add_mul]; congr 1; omega
      omega
    rw [this]; exact hu

theorem good_append {P : Program} {T : Tab} (hT : TabOk P T) {o : Oper} {σ0 : St} {t t2 : TypeId} {x y : Operand} (ho : o.op = .call { callee := .builtin .append, args := #[x, y], argTypes := #[t, t2] }) :
    Good P o σ0 (aAppend T σ0 t t2 x y o.dst) := by
  intro p R W h hp
  unfold aAppend at h
  split at h
  · rename_i ob n Rx Y Ry e _ _ _ d hx hy ht hd
    split at h <;> try (cases h; done)
    rename_i ti e' es rows q news R3 hte hl hsrc
    split at h <;> try (cases h; done)
    rename_i hee
    obtain ⟨rfl, rfl⟩ := hee
    cases h
    obtain ⟨hq, hn, hnl, hbytes⟩ := hp
    have hu := (hT t _ ht).kind
    simp only [TKOk] at hu
    have hok := hT e ti hte
    obtain ⟨d2, hu2, hd2⟩ := srcRows_type hT hsrc
    refine ⟨opt_turn2 hd fun cx σ ι S a w hr hw => ?_, (((ev_reads hx).append (ev_reads hy)).append (srcRows_reads hsrc)).append (Reads.one hl)⟩
    have hl' := hr.right (.o ob, some (.row e ti.size rows)) (by simp)
    dsimp only at hl'
    have hX := ev_sound hx hr.left.left.left hw
    have hY := ev_sound hy hr.left.left.right hw
    obtain ⟨nv, hs⟩ := src_sound hT hsrc hq hok.pos hnl hr.left.right hw hY
    obtain ⟨_, h2⟩ := (show CR σ ι w S (.own ob n) (a.eval x) from hX)
    rcases h2 with ⟨e2, es2, rows2, hl2, hnn, hv⟩ | hdd
    case inr => rw [hl'] at hdd; cases hdd
    rw [hl'] at hl2; cases hl2
    have hvx := hv hn
    have hlen : (rows ++ news).length = n + news.length := by rw [List.length_append, hn]
    rcases hw.vr.objs ob _ hl' with ⟨hn2, hr2⟩ | ⟨g, off, cap, cur, fz, hg, hh, hfz, hc1, hc2, hc3, hrows⟩
    · -- the slice is nil
      subst hr2
      rw [hn2] at hvx
      have hn0 : n = 0 := by simpa using hn.symm
      subst hn0
      by_cases hnz : news = []
      · subst hnz
        have hrun := run_append_none (w := w) (ty := o.type) hu hok hu2 hd2 hs
        have hblock : ∀ b, b < w.heap.size → some b ≠ (none : Option Nat) → w.heap[b]? = w.heap[b]? := fun _ _ _ => rfl
        refine ⟨.slice none 0 0, none, .slice none 0 0, w, ?_, ⟨rfl, rfl, rfl, Nat.le_refl _, hblock, (fun b hb => by cases hb), .inr ⟨_, hl', rfl, by simp, fun _ => hn2.symm⟩, (fun b hb => by simp [blk] at hb), .inl ⟨rfl, by simp⟩⟩, rfl, .inl ⟨e, ti.size, _, look_upd_same _ _ _, by simp, fun _ => by simp⟩⟩
        simp [execOp, ho, resolve, invoke, builtin, hvx, hrun]
      · have hnpos : 0 < news.length := List.length_pos_iff.2 hnz
        obtain ⟨cap', zs, hrun, hle, hm, hzl⟩ := run_append_grows (w := w) (ty := o.type) hu hok hu2 hd2 hs none 0 0 [] (fun w1 _ => by simp [Builtin.firstCells]) (by omega) (by simpa using hbytes)
        simp only [List.nil_append, Nat.zero_add] at hrun hle hzl
        have hblock : ∀ b, b < w.heap.size → some b ≠ (none : Option Nat) → (w.drew.alloc (.cells (nv ++ zs).toArray e)).heap[b]? = w.heap[b]? := fun b hb _ => heap_alloc_old w.drew _ b hb
        have hevo : look σ (.o ob) = none ∨ ∃ k0, look σ (.o ob) = some k0 ∧ Evo (ι ob) (.slice (some ⟨w.heap.size, 0, none⟩) news.length cap') k0 (.row e ti.size ([] ++ news)) :=
          .inr ⟨_, hl', rfl, by simp, fun hc => by simp at hc; exact absurd hc hnz⟩
        have st := step_turn hw.vr hblock (fun b hb => by cases hb) hevo
        refine ⟨.slice (some ⟨w.heap.size, 0, none⟩) news.length cap', none, .slice (some ⟨w.heap.size, 0, none⟩) news.length cap', w.drew.alloc (.cells (nv ++ zs).toArray e), ?_,
          ⟨rfl, rfl, rfl, by simp, hblock, (fun b hb => by cases hb), hevo, (fun b hb => .inr (by simp [blk] at hb; omega)), ?_⟩, rfl, .inl ⟨e, ti.size, _, look_upd_same _ _ _, by simp, fun _ => by simp⟩⟩
        · simp [execOp, ho, resolve, invoke, builtin, hvx, hrun]
        · refine .inr ⟨w.heap.size, 0, cap', (nv ++ zs).toArray, (0, 0), by simp, heap_alloc_new w.drew _, .inl rfl, by simpa using hle, hm, ?_, ?_⟩
          · rw [List.size_toArray, List.length_append, hs.size, hzl, ← Nat.add_mul, Nat.add_sub_cancel' hle]; omega
          · refine flat_rows (at_ := fun j => (nv ++ zs).toArray[j]?) (by simp) hnl (fun i r hi k d hk => ?_)
            obtain ⟨u, hu', hdr⟩ := hs.rel i r hi k d hk
            refine ⟨u, ?_, DR.mono st.sub st.keep hdr⟩
            have hlt := (List.getElem?_eq_some_iff.1 hu').1
            simp only [List.getElem?_toArray, List.length_nil, Nat.zero_mul, Nat.zero_add]
            rw [List.getElem?_append_left hlt]; exact hu'
    · rw [hg, hn] at hvx
      by_cases hroom : n + news.length ≤ cap
      · have hrun := run_append_fits (w := w) (ty := o.type) hu hok hu2 hd2 hs g off n cap cur e hfz hh hroom hc3
        have hmul : (n + news.length) * ti.size ≤ cap * ti.size := Nat.mul_le_mul_right _ hroom
        rw [Nat.add_mul, ← hs.size] at hmul
        have h9 : cur.toList.length = cur.size := Array.length_toList
        have hmine : ∀ b', some g = some b' → Mut σ ι ob b' := fun b' e => by cases e; exact ⟨⟨_, hl', trivial⟩, by rw [hg]; rfl⟩
        have hblock : ∀ b', b' < w.heap.size → some b' ≠ some g → (w.setRow g (setSeg cur.toList (off + n * ti.size) nv).toArray).heap[b']? = w.heap[b']? := fun b' _ hne => setRow_other w g b' _ (fun e => hne (by rw [e]))
        have hevo : look σ (.o ob) = none ∨ ∃ k0, look σ (.o ob) = some k0 ∧ Evo (ι ob) (.slice (some ⟨g, off, none⟩) (n + news.length) cap) k0 (.row e ti.size (rows ++ news)) :=
          .inr ⟨_, hl', rfl, by simp, fun hc => by rw [hg, ← hlen, hc]⟩
        have st := step_turn hw.vr hblock hmine hevo
        refine ⟨.slice (some ⟨g, off, none⟩) (n + news.length) cap, some g, .slice (some ⟨g, off, none⟩) (n + news.length) cap, w.setRow g (setSeg cur.toList (off + n * ti.size) nv).toArray, ?_,
          ⟨rfl, rfl, rfl, by simp, hblock, hmine, hevo, (fun b hb => .inl (by simp [blk] at hb; rw [hb])), ?_⟩, rfl, .inl ⟨e, ti.size, _, look_upd_same _ _ _, Nat.le_refl _, fun _ => by simp⟩⟩
        · simp [execOp, ho, resolve, invoke, builtin, hvx, hrun]
        · refine .inr ⟨g, off, cap, (setSeg cur.toList (off + n * ti.size) nv).toArray, fz, by rw [hlen], setRow_heap w g cur _ e _ hh, by rw [List.size_toArray, length_setSeg (by omega), h9]; exact hfz, by rw [hlen]; exact hroom, hc2, ?_, ?_⟩
          · rw [List.size_toArray, length_setSeg (by omega), h9]; exact hc3
          · refine flat_rows (at_ := fun j => (setSeg cur.toList (off + n * ti.size) nv).toArray[j]?) (fun i r hi => ?_) hnl (fun i r hi k d hk => ?_)
            · obtain ⟨q1, q2⟩ := hrows i r hi
              refine ⟨q1, fun k d hk => ?_⟩
              obtain ⟨u, hu', hdr⟩ := q2 k d hk
              refine ⟨u, ?_, DR.mono st.sub st.keep hdr⟩
              have hil : i < n := by rw [← hn]; exact (List.getElem?_eq_some_iff.1 hi).1
              have hkl : k < ti.size := by rw [← q1]; exact (List.getElem?_eq_some_iff.1 hk).1
              have := mul_le_idx hil hkl
              simp only [List.getElem?_toArray]
              rw [get_setSeg (by omega), if_pos (by omega)]
              simpa using hu'
            · obtain ⟨u, hu', hdr⟩ := hs.rel i r hi k d hk
              refine ⟨u, ?_, DR.mono st.sub st.keep hdr⟩
              have hlt := (List.getElem?_eq_some_iff.1 hu').1
              simp only [List.getElem?_toArray, hn]
              rw [get_setSeg (by omega), if_neg (by omega), if_pos (by omega), show off + n * ti.size + (i * ti.size + k) - (off + n * ti.size) = i * ti.size + k by omega]
              exact hu'
      · have hle9 : n * ti.size ≤ cap * ti.size := Nat.mul_le_mul_right _ (by rw [← hn]; exact hc1)
        have h9 : cur.toList.length = cur.size := Array.length_toList
        obtain ⟨olds, hold⟩ : ∃ olds, olds = (cur.toList.drop off).take (n * ti.size) := ⟨_, rfl⟩
        have holdl : olds.length = n * ti.size := by rw [hold]; simp; omega
        have hget : ∀ j, j < n * ti.size → olds[j]? = cur[off + j]? := by
          intro j hj
          rw [hold, List.getElem?_take, if_pos hj, List.getElem?_drop]; simp
        obtain ⟨cap', zs, hrun, hle, hm, hzl⟩ := run_append_grows (w := w) (ty := o.type) hu hok hu2 hd2 hs (some ⟨g, off, none⟩) n cap olds (fun w1 h1 => by
            refine run_firstCells_some (P := P) w1 ti.size n ⟨g, off, none⟩ n cap _ holdl (fun j v hj => ?_)
            have hjl : j < n * ti.size := by rw [← holdl]; exact (List.getElem?_eq_some_iff.1 hj).1
            rw [hget j hjl] at hj
            rw [cell?_heap h1, add_mk, cell_of_row w g _ cur e fz hh]; exact hj) (by omega) hbytes
        have hblock : ∀ b, b < w.heap.size → some b ≠ (none : Option Nat) → (w.drew.alloc (.cells (olds ++ nv ++ zs).toArray e)).heap[b]? = w.heap[b]? := fun b hb _ => heap_alloc_old w.drew _ b hb
        have hnn0 : news.length ≠ 0 := by intro h0; rw [h0] at hroom; rw [hn] at hc1; omega
        have hevo : look σ (.o ob) = none ∨ ∃ k0, look σ (.o ob) = some k0 ∧ Evo (ι ob) (.slice (some ⟨w.heap.size, 0, none⟩) (n + news.length) cap') k0 (.row e ti.size (rows ++ news)) :=
          .inr ⟨_, hl', rfl, by simp, fun hc => by simp at hc; exact absurd (by rw [hc]; rfl) hnn0⟩
        have st := step_turn hw.vr hblock (fun b hb => by cases hb) hevo
        refine ⟨.slice (some ⟨w.heap.size, 0, none⟩) (n + news.length) cap', none, .slice (some ⟨w.heap.size, 0, none⟩) (n + news.length) cap', w.drew.alloc (.cells (olds ++ nv ++ zs).toArray e), ?_,
          ⟨rfl, rfl, rfl, by simp, hblock, (fun b hb => by cases hb), hevo, (fun b hb => .inr (by simp [blk] at hb; omega)), ?_⟩, rfl, .inl ⟨e, ti.size, _, look_upd_same _ _ _, Nat.le_refl _, fun _ => by simp⟩⟩
        · simp [execOp, ho, resolve, invoke, builtin, hvx, hrun]
        · refine .inr ⟨w.heap.size, 0, cap', (olds ++ nv ++ zs).toArray, (0, 0), by rw [hlen], heap_alloc_new w.drew _, .inl rfl, by rw [hlen]; exact hle, hm, ?_, ?_⟩
          · rw [List.size_toArray, List.length_append, List.length_append, hs.size, hzl, holdl, ← Nat.add_mul, ← Nat.add_mul, Nat.add_sub_cancel' hle]; omega
          · refine flat_rows (at_ := fun j => (olds ++ nv ++ zs).toArray[j]?) (fun i r hi => ?_) hnl (fun i r hi k d hk => ?_)
            · obtain ⟨q1, q2⟩ := hrows i r hi
              refine ⟨q1, fun k d hk => ?_⟩
              obtain ⟨u, hu', hdr⟩ := q2 k d hk
              refine ⟨u, ?_, DR.mono st.sub st.keep hdr⟩
              have hil : i < n := by rw [← hn]; exact (List.getElem?_eq_some_iff.1 hi).1
              have hkl : k < ti.size := by rw [← q1]; exact (List.getElem?_eq_some_iff.1 hk).1
              have hlt := mul_le_idx hil hkl
              simp only [List.getElem?_toArray]
              rw [List.append_assoc, List.getElem?_append_left (by rw [holdl]; omega), show 0 + i * ti.size + k = i * ti.size + k by omega, hget _ hlt, ← Nat.add_assoc]
              exact hu'
            · obtain ⟨u, hu', hdr⟩ := hs.rel i r hi k d hk
              refine ⟨u, ?_, DR.mono st.sub st.keep hdr⟩
              have hlt := (List.getElem?_eq_some_iff.1 hu').1
              simp only [List.getElem?_toArray, hn]
              rw [List.append_assoc, List.getElem?_append_right (by rw [holdl]; omega), holdl, show 0 + n * ti.size + (i * ti.size + k) - n * ti.size = i * ti.size + k by omega, List.getElem?_append_left hlt]
              exact hu'
  · rename_i Rx Y Ry e _ _ _ d hx hy ht hd
    split at h <;> try (cases h; done)
    rename_i ti q news R3 hte hsrc
    split at h <;> try (cases h; done)
    rename_i habs
    cases h
    obtain ⟨hq, hnl, hbytes⟩ := hp
    have hu := (hT t _ ht).kind
    simp only [TKOk] at hu
    have hok := hT e ti hte
    obtain ⟨d2, hu2, hd2⟩ := srcRows_type hT hsrc
    refine ⟨opt_turn2 hd fun cx σ ι S a w hr hw => ?_, (((ev_reads hx).append (ev_reads hy)).append (srcRows_reads hsrc)).append (Reads.one (absent_look habs))⟩
    have hno := hr.right (.o (newId σ0 d), none) (by simp)
    dsimp only at hno
    have hX := ev_sound hx hr.left.left.left hw
    have hY := ev_sound hy hr.left.left.right hw
    obtain ⟨nv, hs⟩ := src_sound hT hsrc hq hok.pos hnl hr.left.right hw hY
    have hvx : a.eval x = .slice none 0 0 := hX
    by_cases hnz : news = []
    · subst hnz
      have hrun := run_append_none (w := w) (ty := o.type) hu hok hu2 hd2 hs
      refine ⟨.slice none 0 0, none, .slice none 0 0, w, ?_, ⟨rfl, rfl, rfl, Nat.le_refl _, (fun _ _ _ => rfl), (fun b hb => by cases hb), .inl hno, (fun b hb => by simp [blk] at hb), .inl ⟨rfl, by simp⟩⟩, rfl, .inl ⟨e, ti.size, _, look_upd_same _ _ _, by simp, fun _ => by simp⟩⟩
      simp [execOp, ho, resolve, invoke, builtin, hvx, hrun]
    · have hnpos : 0 < news.length := List.length_pos_iff.2 hnz
      obtain ⟨cap', zs, hrun, hle, hm, hzl⟩ := run_append_grows (w := w) (ty := o.type) hu hok hu2 hd2 hs none 0 0 [] (fun w1 _ => by simp [Builtin.firstCells]) (by omega) (by simpa using hbytes)
      simp only [List.nil_append, Nat.zero_add] at hrun hle hzl
      have hblock : ∀ b, b < w.heap.size → some b ≠ (none : Option Nat) → (w.drew.alloc (.cells (nv ++ zs).toArray e)).heap[b]? = w.heap[b]? := fun b hb _ => heap_alloc_old w.drew _ b hb
      have st := step_turn (k := .row e ti.size news) (p := .slice (some ⟨w.heap.size, 0, none⟩) news.length cap') hw.vr hblock (fun b hb => by cases hb) (.inl hno)
      refine ⟨.slice (some ⟨w.heap.size, 0, none⟩) news.length cap', none, .slice (some ⟨w.heap.size, 0, none⟩) news.length cap', w.drew.alloc (.cells (nv ++ zs).toArray e), ?_,
        ⟨rfl, rfl, rfl, by simp, hblock, (fun b hb => by cases hb), .inl hno, (fun b hb => .inr (by simp [blk] at hb; omega)), ?_⟩, rfl, .inl ⟨e, ti.size, _, look_upd_same _ _ _, by simp, fun _ => by simp⟩⟩
      · simp [execOp, ho, resolve, invoke, builtin, hvx, hrun]
      · refine .inr ⟨w.heap.size, 0, cap', (nv ++ zs).toArray, (0, 0), by simp, heap_alloc_new w.drew _, .inl rfl, by simpa using hle, hm, ?_, ?_⟩
        · rw [List.size_toArray, List.length_append, hs.size, hzl, ← Nat.add_mul, Nat.add_sub_cancel' hle]; omega
        · intro i r hi
          refine ⟨hnl r (List.mem_of_getElem? hi), fun k d hk => ?_⟩
          obtain ⟨u, hu', hdr⟩ := hs.rel i r hi k d hk
          refine ⟨u, ?_, DR.mono st.sub st.keep hdr⟩
          have hlt := (List.getElem?_eq_some_iff.1 hu').1
          simp only [List.getElem?_toArray]
          rw [show 0 + i * ti.size + k = i * ti.size + k by omega, List.getElem?_append_left hlt]; exact hu'
  · cases h
end Go.Ab
