/- Ab, part P: bytes to a string, a string to bytes, copy. -/
import Derived.Test.YtlkfibmjdigmiabAbO
import Derived.Lib.ConvBytes
import Derived.Laws.BytesString
namespace Go.Ab
open Go Go.RowKit
set_option linter.unusedVariables false
set_option linter.unusedSimpArgs false

def bytesRows (l : List UInt8) : List (List D) := l.map fun b => [.u b.toNat]
def byteOf (r : List D) : UInt8 := match r with | .u n :: _ => UInt8.ofNat n.toNat | _ => 0
def rowsBytes (rows : List (List D)) : List UInt8 := rows.map byteOf
theorem rowsBytes_bytesRows (l : List UInt8) : rowsBytes (bytesRows l) = l := by
  unfold rowsBytes bytesRows
  rw [List.map_map]
  conv => rhs; rw [← List.map_id l]
  refine List.map_congr_left fun b _ => ?_
  simp [byteOf]
theorem bytesRows_length (l : List UInt8) : (bytesRows l).length = l.length := by simp [bytesRows]
theorem foldl_push (ns : List Int) : ns.foldl (fun (r : ByteArray) n => r.push (UInt8.ofNat n.toNat)) ByteArray.empty = ⟨(ns.map fun n => UInt8.ofNat n.toNat).toArray⟩ := by
  have key : ∀ (ns : List Int) (l : List UInt8), ns.foldl (fun (r : ByteArray) n => r.push (UInt8.ofNat n.toNat)) ⟨l.toArray⟩ = ⟨(l ++ ns.map fun n => UInt8.ofNat n.toNat).toArray⟩ := by
    intro ns
    induction ns with
    | nil => intro l; simp
    | cons n ns ih =>
      intro l
      have : (⟨l.toArray⟩ : ByteArray).push (UInt8.ofNat n.toNat) = ⟨(l ++ [UInt8.ofNat n.toNat]).toArray⟩ := by
        apply ByteArray.ext
        simp
      rw [List.foldl_cons, this, ih]; simp
  show ns.foldl (fun (r : ByteArray) n => r.push (UInt8.ofNat n.toNat)) (⟨([] : List UInt8).toArray⟩ : ByteArray) = _
  rw [key]; simp

/-! bytes to a string -/
def fB2S (σ : St) : V → Option (Prop × List (Loc × Option K) × V)
  | .e (.c (.d (.sl rows))) => some (rows = bytesRows (rowsBytes rows), [], Dv (.s (rowsBytes rows)))
  | .e (.c .nil) => some (True, [], Dv (.s []))
  | .e (.c (.own ob n)) => match look σ (.o ob) with
    | some (.row e es rows) => some (rows.length = n ∧ rows = bytesRows (rowsBytes rows), [(.o ob, some (.row e es rows))], Dv (.s (rowsBytes rows)))
    | _ => none
  | _ => none
theorem b2s_run {P : Program} {w : World} {a : Option Addr} {len cap : Nat} {l : List UInt8} (hl : l.length = len) (h : l ≠ [] → ∃ ad, a = some ad ∧ ∀ (j : Nat) b, l[j]? = some b → w.cell? (ad.add j) = some (.int .u8 b.toNat)) :
    (Conv.bytesToString (.slice a len cap)).run P w = .ok (.string ⟨l.toArray⟩) w := by
  cases a with
  | none =>
    have : l = [] := by
      by_cases hz : l = []
      · exact hz
      · obtain ⟨ad, h1, _⟩ := h hz; cases h1
    subst this
    simp [Conv.bytesToString]; rfl
  | some ad =>
    have hc : ∀ (j : Nat) v, (l.map fun b => Value.int .u8 (b.toNat : Int))[j]? = some v → w.cell? (ad.add j) = some v := by
      intro j v hj
      rw [List.getElem?_map] at hj
      cases hq : l[j]? with
      | none => rw [hq] at hj; cases hj
      | some b =>
        rw [hq] at hj; cases hj
        have hz : l ≠ [] := by intro e; rw [e] at hq; simp at hq
        obtain ⟨ad', h1, h2⟩ := h hz
        cases h1
        exact h2 j b hq
    have hload := run_loadCells_list (P := P) w ad _ hc
    rw [List.length_map, hl] at hload
    have := run_bytesToString (P := P) w ad len cap (l.map fun b => (b.toNat : Int)) (by rw [List.map_map]; exact hload)
    rw [this, foldl_push, List.map_map]
    congr 4
    conv => rhs; rw [← List.map_id l]
    refine List.map_congr_left fun b _ => ?_
    simp
theorem rows_get {l : List UInt8} {j : Nat} {b : UInt8} (h : l[j]? = some b) : (bytesRows l)[j]? = some [.u b.toNat] := by simp [bytesRows, h]
theorem good_b2s {P : Program} {T : Tab} (hT : TabOk P T) {o : Oper} {σ0 : St} {s d e : TypeId} {si di ei : TI} {x : Operand} (ho : o.op = .convert s d x) (hs : T s = some si) (hsk : si.kind = .sl e) (he : T e = some ei) (hek : ei.kind = .int .u8) (hd : T d = some di) (hdk : di.kind = .str) :
    Good P o σ0 (lift1 σ0 x o.dst (fB2S σ0)) := by
  have hu1 := (hT s si hs).kind
  rw [hsk] at hu1; simp only [TKOk] at hu1
  have hu2 := (hT e ei he).kind
  rw [hek] at hu2; simp only [TKOk] at hu2
  have hu3 := (hT d di hd).kind
  rw [hdk] at hu3; simp only [TKOk] at hu3
  refine good_lift1 fun X p R Y h hp => ?_
  have fin : ∀ {cx : Cx} {σ : St} {ι : Nat → Value} {S : Nat → Prop} {ac : Act} {w : World} {a : Option Addr} {len cap : Nat} {l : List UInt8}, ac.eval x = .slice a len cap → l.length = len → (l ≠ [] → ∃ ad, a = some ad ∧ ∀ (j : Nat) b, l[j]? = some b → w.cell? (ad.add j) = some (.int .u8 b.toNat)) →
      ∃ v, (execOp ac.eval o).run P w = .ok (.value v) w ∧ VaR σ ι w S (Dv (.s l)) v := by
    intro cx σ ι S ac w a len cap l hv hl h
    refine ⟨.string ⟨l.toArray⟩, ?_, .s l⟩
    have := b2s_run (P := P) (cap := cap) hl h
    have h2 := run_convert_bytes_string (P := P) w s d e a len cap hu1 hu2 hu3
    simp only [execOp, ho, hv]
    rw [Sem.run_bind, h2, this]; rfl
  unfold fB2S at h
  split at h
  · rename_i rows
    cases h
    refine ⟨Reads.nil, fun cx σ ι S ac w hr hw hx => ?_⟩
    obtain ⟨a0, cap, es', ad, u, hv, hc, hm, hee, ha, hw1, hd1⟩ := (show DR w S (.sl rows) (ac.eval x) from hx).sl_inv
    refine fin (cx := cx) hv (by rw [rowsBytes, List.length_map]) fun hz => ?_
    have hrz : rows ≠ [] := by intro e; subst e; exact hz rfl
    refine ⟨ad, ha hrz, fun j b hj => ?_⟩
    have hrow := rows_get hj
    rw [← hp] at hrow
    have h1 : es' = 1 := by rw [← hee _ (List.mem_of_getElem? hrow)]; rfl
    obtain ⟨_, h2⟩ := hw1 j _ 0 (.u b.toNat) hrow rfl
    have h3 := hd1 j _ 0 (.u b.toNat) hrow rfl
    rw [h1, Nat.mul_one, Nat.add_zero] at h2
    rw [h2]
    generalize u j 0 = v at h3; cases h3; rfl
  · cases h
    refine ⟨Reads.nil, fun cx σ ι S ac w hr hw hx => ?_⟩
    have hv : ac.eval x = .slice none 0 0 := hx
    exact fin (cx := cx) hv rfl fun hz => absurd rfl hz
  · rename_i ob n
    split at h <;> try (cases h; done)
    rename_i e' es rows hl
    cases h
    obtain ⟨hn, hrb⟩ := hp
    refine ⟨Reads.one hl, fun cx σ ι S ac w hr hw hx => ?_⟩
    have hl' := hr (.o ob, some (.row e' es rows)) (by simp)
    dsimp only at hl'
    obtain ⟨_, h2⟩ := (show CR σ ι w S (.own ob n) (ac.eval x) from hx)
    rcases h2 with ⟨e2, es2, rows2, hl2, hnn, hv⟩ | hdd
    · rw [hl'] at hl2; cases hl2
      have hv1 := hv hn
      clear hv
      rcases hw.vr.objs ob _ hl' with ⟨hn2, hr2⟩ | ⟨g, off, cap, cur, fz, hg, hh, hfz, hc1, hc2, hc3, hrows⟩
      · subst hr2
        rw [hn2] at hv1
        exact fin (cx := cx) hv1 rfl fun hz => absurd rfl hz
      · rw [hg] at hv1
        refine fin (cx := cx) hv1 (by rw [rowsBytes, List.length_map]) fun hz => ⟨_, rfl, fun j b hj => ?_⟩
        have hrow := rows_get hj
        rw [← hrb] at hrow
        have hrr := hrows j _ hrow
        have h1 : es = 1 := by rw [← hrr.1]; rfl
        obtain ⟨u, hu, hdr⟩ := hrr.2 0 (.u b.toNat) rfl
        rw [h1, Nat.mul_one, Nat.add_zero] at hu
        rw [add_mk, cell_of_row w g _ cur e' fz hh, hu]
        cases hdr; rfl
    · rw [hl'] at hdd; cases hdd
  · cases h

/-! a string to bytes -/
def aS2B (σ : St) (x : Operand) (e : TypeId) (d : Option Tmp) : Res :=
  match ev σ x, d with
  | some (.e (.c (.d (.s l))), R), some d => if absent σ (.o (newId σ d)) then
      some (l.length ≤ 140737488355328, R ++ [(.o (newId σ d), none)], [(.o (newId σ d), .row e 1 (bytesRows l)), (.t d, .v (.e (.c (.own (newId σ d) l.length))))]) else none
  | _, _ => none
theorem good_s2b {P : Program} {T : Tab} (hT : TabOk P T) {o : Oper} {σ0 : St} {s d e : TypeId} {si di ei : TI} {x : Operand} (ho : o.op = .convert s d x) (hs : T s = some si) (hsk : si.kind = .str) (he : T e = some ei) (hek : ei.kind = .int .u8) (hd : T d = some di) (hdk : di.kind = .sl e) :
    Good P o σ0 (aS2B σ0 x e o.dst) := by
  have hu1 := (hT s si hs).kind
  rw [hsk] at hu1; simp only [TKOk] at hu1
  have hu2 := (hT e ei he).kind
  rw [hek] at hu2; simp only [TKOk] at hu2
  have hu3 := (hT d di hd).kind
  rw [hdk] at hu3; simp only [TKOk] at hu3
  intro p R W h hp
  unfold aS2B at h
  split at h <;> try (cases h; done)
  rename_i l Rx dd hx hdst
  split at h <;> try (cases h; done)
  rename_i habs
  cases h
  refine ⟨opt_new hdst (by simp) fun cx σ ι S ac w hr hw => ?_, (ev_reads hx).append (Reads.one (absent_look habs))⟩
  have hno := hr.right (.o (newId σ0 dd), none) (by simp)
  dsimp only at hno
  have hX := ev_sound hx hr.left hw
  have hv : ac.eval x = .string ⟨l.toArray⟩ := by
    have hX : DR w S (.s l) (ac.eval x) := hX
    generalize ac.eval x = v at hX; cases hX; rfl
  have hsz : (⟨l.toArray⟩ : ByteArray).size = l.length := size_mk l
  have hrun := Lib.run_convert_string_bytes (P := P) w s d e ⟨l.toArray⟩ hu1 hu3 hu2
  rw [hsz] at hrun
  have hnew := Lib.bytesWorld_at_new w e ⟨l.toArray⟩
  have hcap := grownCap_ge w l.length 0 e
  have hcm := grownCap_le_maxLen w l.length 0 e (by simp only [maxLen]; omega)
  have hblock : ∀ b, b < w.heap.size → some b ≠ (none : Option Nat) → (Lib.bytesWorld w e ⟨l.toArray⟩).heap[b]? = w.heap[b]? := fun b hb _ => Lib.bytesWorld_at_old w e _ b hb
  have hcs : (Lib.bytesCells w e ⟨l.toArray⟩).size = grownCap w l.length 0 e := by
    simp only [Lib.bytesCells, hsz, Array.size_append, Array.size_map, Array.size_replicate, List.size_toArray]; omega
  refine ⟨.slice (some ⟨w.heap.size, 0, none⟩) l.length (grownCap w l.length 0 e), .slice (some ⟨w.heap.size, 0, none⟩) l.length (grownCap w l.length 0 e), Lib.bytesWorld w e ⟨l.toArray⟩, ?_,
    ⟨?_, ?_, ?_, by rw [Lib.bytesWorld_size]; omega, hblock, (fun b hb => by cases hb), .inl hno, (fun b hb => .inr (by simp [blk] at hb; omega)), ?_⟩, rfl, .inl ⟨e, 1, _, look_upd_same _ _ _, by rw [bytesRows_length]; exact Nat.le_refl _, fun _ => by simp⟩⟩
  · simp only [execOp, ho, hv]
    rw [Sem.run_bind, hrun]; rfl
  · unfold Lib.bytesWorld World.freeze; split <;> rfl
  · unfold Lib.bytesWorld World.freeze; split <;> rfl
  · unfold Lib.bytesWorld World.freeze; split <;> rfl
  · refine .inr ⟨w.heap.size, 0, grownCap w l.length 0 e, _, _, by rw [bytesRows_length], hnew, .inr (Nat.le_refl _), by rw [bytesRows_length]; exact hcap, hcm, by rw [hcs]; omega, fun i r hr => ?_⟩
    simp only [bytesRows, List.getElem?_map] at hr
    cases hq : l[i]? with
    | none => rw [hq] at hr; cases hr
    | some b =>
      rw [hq] at hr; cases hr
      refine ⟨rfl, fun k dd hk => ?_⟩
      cases k with
      | succ k => simp at hk
      | zero =>
        simp at hk; subst hk
        have hi := (List.getElem?_eq_some_iff.1 hq)
        obtain ⟨hi1, hi2⟩ := hi
        refine ⟨.int .u8 b.toNat, ?_, .u _⟩
        simp [Lib.bytesCells, Array.getElem?_append, hi1, hi2]

/-! copy -/
def aCopy (T : Tab) (σ : St) (t t2 : TypeId) (x y : Operand) (d : Option Tmp) : Res :=
  match ev σ x, ev σ y, T t, d with
  | some (.e (.c (.own ob n)), R), some (Y, R2), some ⟨.sl e, _, _, _⟩, some d => match T e, look σ (.o ob), srcRows T σ t2 Y with
    | some ti, some (.row e' es rows), some (q, news, R3) => if e = e' ∧ ti.size = es then
        some (q ∧ rows.length = n ∧ (∀ r ∈ news, r.length = es), R ++ R2 ++ R3 ++ [(.o ob, some (.row e' es rows))],
          [(.o ob, .row e es (news.take (min news.length n) ++ rows.drop (min news.length n))), (.t d, .v (I (min news.length n : Nat)))]) else none
    | _, _, _ => none
  | _, _, _, _ => none
theorem good_copy {P : Program} {T : Tab} (hT : TabOk P T) {o : Oper} {σ0 : St} {t t2 : TypeId} {x y : Operand} (ho : o.op = .call { callee := .builtin .copy, args := #[x, y], argTypes := #[t, t2] }) :
    Good P o σ0 (aCopy T σ0 t t2 x y o.dst) := by
  intro p R W h hp
  unfold aCopy at h
  split at h <;> try (cases h; done)
  rename_i ob n Rx Y Ry e _ _ _ d hx hy ht hd
  split at h <;> try (cases h; done)
  rename_i ti e' es rows q news R3 hte hl hsrc
  split at h <;> try (cases h; done)
  rename_i hee
  obtain ⟨rfl, rfl⟩ := hee
  cases h
  obtain ⟨hq, hn, hnl⟩ := hp
  have hu := (hT t _ ht).kind
  simp only [TKOk] at hu
  have hok := hT e ti hte
  refine ⟨opt_turn2 hd fun cx σ ι S a w hr hw => ?_, (((ev_reads hx).append (ev_reads hy)).append (srcRows_reads hsrc)).append (Reads.one hl)⟩
  have hl' := hr.right (.o ob, some (.row e ti.size rows)) (by simp)
  dsimp only at hl'
  have hX := ev_sound hx hr.left.left.left hw
  have hY := ev_sound hy hr.left.left.right hw
  obtain ⟨nv, hs⟩ := src_sound hT hsrc hq hok.pos hnl hr.left.right hw hY
  obtain ⟨_, h2⟩ := (show CR σ ι w S (.own ob n) (a.eval x) from hX)
  rcases h2 with ⟨e2, es2, rows2, hl2, hnn, hv⟩ | hdd
  case inr => rw [hl'] at hdd; cases hdd
  rw [hl'] at hl2; cases hl2
  have hvx := hv hn
  let m := min news.length n
  have hm1 : m ≤ news.length := Nat.min_le_left _ _
  have hm2 : m ≤ n := Nat.min_le_right _ _
  have hlen : (news.take m ++ rows.drop m).length = rows.length := by rw [List.length_append, List.length_take, List.length_drop]; omega
  have hpre := hs.pre w m rfl hm1
  have hpl : (nv.take (m * ti.size)).length = m * ti.size := by
    rw [List.length_take, hs.size]
    exact Nat.min_eq_left (Nat.mul_le_mul_right _ hm1)
  have hmin : Nat.min news.length n = m := rfl
  rcases hw.vr.objs ob _ hl' with ⟨hn2, hr2⟩ | ⟨g, off, cap, cur, fz, hg, hh, hfz, hc1, hc2, hc3, hrows⟩
  · subst hr2
    rw [hn2] at hvx
    have hn0 : n = 0 := by simpa using hn.symm
    subst hn0
    have hm0 : m = 0 := by omega
    have hblock : ∀ b, b < w.heap.size → some b ≠ (none : Option Nat) → w.heap[b]? = w.heap[b]? := fun _ _ _ => rfl
    have hrow0 : news.take m ++ ([] : List (List D)).drop m = [] := by rw [hm0]; simp
    refine ⟨.int .i64 (m : Nat), none, .slice none 0 0, w, ?_, ⟨rfl, rfl, rfl, Nat.le_refl _, hblock, (fun b hb => by cases hb), .inr ⟨_, hl', rfl, by rw [hlen]; exact Nat.le_refl _, fun _ => hn2.symm⟩, (fun b hb => by simp [blk] at hb), .inl ⟨rfl, hrow0⟩⟩, .i _⟩
    simp only [execOp, ho]
    simp [resolve, invoke, builtin, hvx, Builtin.copy_, run_underlying hu, run_sizeOfT hok, hs.len, hmin]
    rw [hm0] at hpre ⊢
    rw [hpre]
    simp [goInt]
  · rw [hg] at hvx
    have h9 : cur.toList.length = cur.size := Array.length_toList
    have hmc : m * ti.size ≤ cap * ti.size := Nat.mul_le_mul_right _ (by omega)
    have hst := run_storeCells_fz (P := P) g off e fz (nv.take (m * ti.size)) 0 cur w hh hfz (by rw [hpl]; omega) (fun u hu => hs.one u (List.mem_of_mem_take hu))
    simp only [Nat.add_zero] at hst
    have hmine : ∀ b', some g = some b' → Mut σ ι ob b' := fun b' e => by cases e; exact ⟨⟨_, hl', trivial⟩, by rw [hg]; rfl⟩
    have hblock : ∀ b', b' < w.heap.size → some b' ≠ some g → (w.setRow g (setSeg cur.toList off (nv.take (m * ti.size))).toArray).heap[b']? = w.heap[b']? := fun b' _ hne => setRow_other w g b' _ (fun e => hne (by rw [e]))
    have hevo : look σ (.o ob) = none ∨ ∃ k0, look σ (.o ob) = some k0 ∧ Evo (ι ob) (ι ob) k0 (.row e ti.size (news.take m ++ rows.drop m)) := .inr ⟨_, hl', rfl, by rw [hlen]; exact Nat.le_refl _, fun _ => rfl⟩
    have st := step_turn hw.vr hblock hmine hevo
    refine ⟨.int .i64 (m : Nat), some g, ι ob, w.setRow g (setSeg cur.toList off (nv.take (m * ti.size))).toArray, ?_, ⟨rfl, rfl, rfl, by simp, hblock, hmine, hevo, (fun b hb => .inl (by rw [hg] at hb; simp [blk] at hb; rw [hb])), ?_⟩, .i _⟩
    · simp only [execOp, ho]
      simp [resolve, invoke, builtin, hvx, hn, Builtin.copy_, run_underlying hu, run_sizeOfT hok, hs.len, hmin]
      rw [hpre]
      simp [hst, goInt]
    · refine .inr ⟨g, off, cap, (setSeg cur.toList off (nv.take (m * ti.size))).toArray, fz, by rw [hlen]; simpa using hg, setRow_heap w g cur _ e _ hh, by rw [List.size_toArray, length_setSeg (by omega), h9]; exact hfz, by rw [hlen]; exact hc1, hc2, by rw [List.size_toArray, length_setSeg (by omega), h9]; exact hc3, fun i r hi => ?_⟩
      have hil : i < rows.length := by rw [← hlen]; exact (List.getElem?_eq_some_iff.1 hi).1
      have get : ∀ j, (setSeg cur.toList off (nv.take (m * ti.size))).toArray[j]? = if j < off then cur[j]? else if j < off + m * ti.size then (nv.take (m * ti.size))[j - off]? else cur[j]? := fun j => by
        rw [← Array.getElem?_toList, List.toList_toArray, get_setSeg (by omega), hpl]
        simp
      by_cases him : i < m
      · rw [List.getElem?_append_left (by rw [List.length_take]; omega), List.getElem?_take, if_pos him] at hi
        have hrl := hnl r (List.mem_of_getElem? hi)
        refine ⟨hrl, fun k dd hk => ?_⟩
        obtain ⟨u, hu', hdr⟩ := hs.rel i r hi k dd hk
        have hkl : k < ti.size := by rw [← hrl]; exact (List.getElem?_eq_some_iff.1 hk).1
        have hix := mul_le_idx him hkl
        refine ⟨u, ?_, DR.mono st.sub st.keep hdr⟩
        rw [get, if_neg (by omega), if_pos (by omega), show off + i * ti.size + k - off = i * ti.size + k by omega, List.getElem?_take, if_pos hix]
        exact hu'
      · rw [List.getElem?_append_right (by rw [List.length_take]; omega), List.length_take, List.getElem?_drop, show m + (i - min m news.length) = i by omega] at hi
        obtain ⟨q1, q2⟩ := hrows i r hi
        refine ⟨q1, fun k dd hk => ?_⟩
        obtain ⟨u, hu', hdr⟩ := q2 k dd hk
        refine ⟨u, ?_, DR.mono st.sub st.keep hdr⟩
        have : m * ti.size ≤ i * ti.size := Nat.mul_le_mul_right _ (by omega)
        rw [get, if_neg (by omega), if_neg (by omega)]
        exact hu'
end Go.Ab
