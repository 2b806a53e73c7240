/- Ab, part F: fields, addresses, loads. -/
import Derived.Test.YtlkfibmjdigmiabAbE
namespace Go.Ab
open Go Go.RowKit
set_option linter.unusedVariables false
set_option linter.unusedSimpArgs false

theorem add_mk (b k n : Nat) : (⟨b, k, none⟩ : Addr).add n = ⟨b, k + n, none⟩ := by unfold Addr.add; split <;> simp_all
theorem add_add (a : Addr) (m n : Nat) : (a.add m).add n = a.add (m + n) := by
  unfold Addr.add
  by_cases h : m = 0
  · subst h; simp
  · by_cases h2 : n = 0
    · subst h2; simp [h]
    · simp [h, h2, Nat.add_assoc, show m + n ≠ 0 by omega]
theorem add_block (a : Addr) (n : Nat) : (a.add n).block = a.block := by unfold Addr.add; split <;> rfl

theorem DR.sl_inv {w : World} {S : Nat → Prop} {rows : List (List D)} {v : Value} (h : DR w S (.sl rows) v) :
    ∃ (a : Option Addr) (cap es : Nat) (ad : Addr) (u : Nat → Nat → Value), v = .slice a rows.length cap ∧ rows.length ≤ cap ∧ cap ≤ maxLen ∧ (∀ r ∈ rows, r.length = es) ∧ (rows ≠ [] → a = some ad) ∧
      (∀ (i : Nat) r (k : Nat) d, rows[i]? = some r → r[k]? = some d → S ad.block ∧ w.cell? (ad.add (i * es + k)) = some (u i k)) ∧ (∀ (i : Nat) r (k : Nat) d, rows[i]? = some r → r[k]? = some d → DR w S d (u i k)) := by
  generalize hq : D.sl rows = q at h
  cases h with
  | sl rows' a cap es ad u h1 h2 h3 h4 h5 h6 => cases hq; exact ⟨a, cap, es, ad, u, rfl, h1, h2, h3, h4, h5, h6⟩
  | _ => cases hq
/-- The offset and the type of a struct's field, and that type's row of the table. -/
def fieldOf (T : Tab) (s f : Nat) : Option (Nat × TI) :=
  match T s with
  | some ⟨.st fs, _, _, _⟩ => match fs[f]? with
    | some (off, ft) => match T ft with
      | some ti => some (off, ti)
      | none => none
    | none => none
  | _ => none
theorem fieldOf_sound {P : Program} {T : Tab} (hT : TabOk P T) {s f off : Nat} {ti : TI} (h : fieldOf T s f = some (off, ti)) :
    ∃ (fields : Array Field) (fl : Field), P.underlying s = some (.struct fields) ∧ fields[f]? = some fl ∧ fl.offset = off ∧ TIOk P fl.type ti := by
  unfold fieldOf at h
  split at h
  · rename_i fs _ _ _ hs
    split at h
    · rename_i off' ft hf
      split at h
      · rename_i ti' ht
        cases h
        obtain ⟨fields, hu, hm⟩ := (hT s _ hs).kind
        rw [← hm, List.getElem?_map] at hf
        cases hq : fields.toList[f]? with
        | none => rw [hq] at hf; cases hf
        | some fl =>
          rw [hq] at hf
          simp at hf
          refine ⟨fields, fl, hu, by simpa using hq, hf.1, ?_⟩
          rw [hf.2]; exact hT ft _ ht
      · cases h
    · cases h
  · cases h

/-! a field's address -/
def fFieldAddr (T : Tab) (σ : St) (s f : Nat) : V → Option (Prop × List (Loc × Option K) × V)
  | .e (.c (.pt ob k)) => match fieldOf T s f, look σ (.o ob) with
    | some (off, _), some (.box ty cs) => some (True, [(.o ob, some (.box ty cs))], .e (.c (.pt ob (k + off))))
    | _, _ => none
  | .e (.c (.pe ob n i k)) => match fieldOf T s f, look σ (.o ob) with
    | some (off, _), some (.row e es rows) => some (rows.length = n, [(.o ob, some (.row e es rows))], .e (.c (.pe ob n i (k + off))))
    | _, _ => none
  | .e (.c (.rp cs)) => match fieldOf T s f with
    | some (off, _) => some (True, [], .e (.c (.rp (cs.drop off))))
    | _ => none
  | _ => none
theorem run_fieldAt {P : Program} {w : World} {T : Tab} (hT : TabOk P T) {s f off : Nat} {ti : TI} (h : fieldOf T s f = some (off, ti)) (a : Addr) : (Instr.fieldAt s (.pointer (some a)) f).run P w = .ok (.pointer (some (a.add off))) w := by
  obtain ⟨fields, fl, hu, hf, ho, hti⟩ := fieldOf_sound hT h
  have hp := hti.pos
  have hne : ¬ ti.size = 0 := by omega
  simp [Instr.fieldAt, run_underlying hu, hf, Instr.sureAddr, fieldPlace, run_sizeOfT hti, hne, ho]
theorem good_fieldAddr {P : Program} {T : Tab} (hT : TabOk P T) {o : Oper} {σ0 : St} {x : Operand} {s f : Nat} (ho : o.op = .fieldAddr s x f) : Good P o σ0 (lift1 σ0 x o.dst (fFieldAddr T σ0 s f)) :=
  good_lift1 fun X p R Y h hp => by
    unfold fFieldAddr at h
    split at h
    · rename_i ob k
      split at h
      · rename_i off ti ty cs hf hl
        cases h
        refine ⟨Reads.one hl, fun cx σ ι S a w hr hw hx => ?_⟩
        have hl' := hr (.o ob, some (.box ty cs)) (by simp)
        dsimp only at hl'
        obtain ⟨_, h2⟩ := (show CR σ ι w S (.pt ob k) (a.eval x) from hx)
        rcases h2 with ⟨ty2, cs2, hl2, b, hi, hv⟩ | hd
        · refine ⟨.pointer (some ⟨b, k + off, none⟩), by simp [execOp, ho, hv, run_fieldAt hT hf, add_mk], rfl, .inl ⟨ty2, cs2, hl2, b, hi, rfl⟩⟩
        · rw [hl'] at hd; cases hd
      · cases h
    · rename_i ob n i k
      split at h
      · rename_i off ti e es rows hf hl
        cases h
        refine ⟨Reads.one hl, fun cx σ ι S a w hr hw hx => ?_⟩
        have hl' := hr (.o ob, some (.row e es rows)) (by simp)
        dsimp only at hl'
        obtain ⟨_, h2⟩ := (show CR σ ι w S (.pe ob n i k) (a.eval x) from hx)
        rcases h2 with ⟨e2, es2, rows2, hl2, hn, hv⟩ | hd
        · rw [hl'] at hl2; cases hl2
          obtain ⟨g, off', cap, hi, hvv⟩ := hv hp
          refine ⟨.pointer (some ⟨g, off' + i * es + (k + off), none⟩), by simp [execOp, ho, hvv, run_fieldAt hT hf, add_mk]; omega, rfl, .inl ⟨e, es, rows, hl', hn, fun _ => ⟨g, off', cap, hi, rfl⟩⟩⟩
        · rw [hl'] at hd; cases hd
      · cases h
    · rename_i cs
      split at h
      · rename_i off ti hf
        cases h
        refine ⟨Reads.nil, fun cx σ ι S a w _ hw hx => ?_⟩
        obtain ⟨ad, hv, hk⟩ := (show CR σ ι w S (.rp cs) (a.eval x) from hx)
        refine ⟨.pointer (some (ad.add off)), by simp [execOp, ho, hv, run_fieldAt hT hf], ad.add off, rfl, fun k d hd => ?_⟩
        rw [List.getElem?_drop] at hd
        obtain ⟨hs, u, hu, hdr⟩ := hk (off + k) d hd
        refine ⟨by rw [add_block]; exact hs, u, by rw [add_add]; exact hu, hdr⟩
      · cases h
    · cases h

/-! a field of a struct that lies in a slot -/
def fField (T : Tab) (s f : Nat) : V → Option (Prop × List (Loc × Option K) × V)
  | .e (.agg cs) => match fieldOf T s f with
    | some (off, ti) => if ti.kind.agg then some (off + ti.size ≤ cs.length, [], .e (.agg ((cs.drop off).take ti.size))) else some (off < cs.length, [], .e (.c (cs.getD off .nil)))
    | none => none
  | _ => none
theorem good_field {P : Program} {T : Tab} (hT : TabOk P T) {o : Oper} {σ0 : St} {x : Operand} {s f : Nat} (ho : o.op = .field s x f) : Good P o σ0 (lift1 σ0 x o.dst (fField T s f)) :=
  good_lift1 fun X p R Y h hp => by
    unfold fField at h
    split at h
    · rename_i cs
      split at h
      · rename_i off ti hf
        obtain ⟨fields, fl, hu, hfl, hoff, hti⟩ := fieldOf_sound hT hf
        split at h
        · rename_i hag
          cases h
          refine ⟨Reads.nil, fun cx σ ι S a w _ hw hx => ?_⟩
          obtain ⟨vs, hv, hl, hk⟩ := (show ER σ ι w S (.agg cs) (a.eval x) from hx)
          refine ⟨.agg ((vs.drop off).take ti.size).toArray, ?_, (vs.drop off).take ti.size, rfl, by simp [hl], fun k c u h1 h2 => ?_⟩
          · simp [execOp, ho, hv, Instr.field, run_underlying hu, hfl, asAgg, part, run_isAggT hti, hag, run_sizeOfT hti, hoff, List.extract_eq_take_drop]
          · rw [List.getElem?_take] at h1 h2
            split at h1
            · rename_i hlt
              rw [if_pos hlt] at h2
              rw [List.getElem?_drop] at h1 h2
              exact hk _ c u h1 h2
            · cases h1
        · rename_i hag
          cases h
          refine ⟨Reads.nil, fun cx σ ι S a w _ hw hx => ?_⟩
          obtain ⟨vs, hv, hl, hk⟩ := (show ER σ ι w S (.agg cs) (a.eval x) from hx)
          have hlt : off < vs.length := by rw [hl]; exact hp
          have hag' : ti.kind.agg = false := by simpa using hag
          refine ⟨vs[off], ?_, ?_⟩
          · simp [execOp, ho, hv, Instr.field, run_underlying hu, hfl, asAgg, part, run_isAggT hti, hag', hoff, hlt]
          · have : cs.getD off .nil = cs[off] := by simp [hp]
            rw [this]
            exact hk off _ _ (List.getElem?_eq_getElem hp) (List.getElem?_eq_getElem hlt)
      · cases h
    · cases h

/-! an element's address -/
def fIndexAddr (T : Tab) (σ : St) (t : TypeId) : V → V → Option (Prop × List (Loc × Option K) × V)
  | .e (.c (.own ob n)), .e (.c (.d (.i j))) => match T t, look σ (.o ob) with
    | some ⟨.sl e, _, _, _⟩, some (.row e' es rows) => match T e with
      | some ti => if ti.size = es then some (rows.length = n ∧ 0 ≤ j ∧ j < n, [(.o ob, some (.row e' es rows))], .e (.c (.pe ob n j.toNat 0))) else none
      | none => none
    | _, _ => none
  | .e (.c (.d (.sl rows))), .e (.c (.d (.i j))) => match T t with
    | some ⟨.sl e, _, _, _⟩ => match T e with
      | some ti => some ((0 ≤ j ∧ j < rows.length) ∧ (rows.getD j.toNat []).length = ti.size, [], .e (.c (.rp (rows.getD j.toNat []))))
      | none => none
    | _ => none
  | .e (.c (.pt ob k)), .e (.c (.d (.i j))) => match T t, look σ (.o ob) with
    | some ⟨.arr n e, _, _, _⟩, some (.box ty cs) => match T e with
      | some ti => some (0 ≤ j ∧ j < n, [(.o ob, some (.box ty cs))], .e (.c (.pt ob (k + j.toNat * ti.size))))
      | none => none
    | _, _ => none
  | _, _ => none
theorem run_indexAt_sl {P : Program} {w : World} {t e : TypeId} {ti : TI} (hu : P.underlying t = some (.slice e)) (he : TIOk P e ti) (a : Addr) (len cap : Nat) (j : Int) (h0 : 0 ≤ j) (h1 : j < len) :
    (Instr.indexAt t (.slice (some a) len cap) (.int .i64 j)).run P w = .ok (.pointer (some (a.add (j.toNat * ti.size)))) w := by
  simp [Instr.indexAt, run_underlying hu, asIntOf, h0, h1, run_sizeOfT he]
theorem good_indexAddr {P : Program} {T : Tab} (hT : TabOk P T) {o : Oper} {σ0 : St} {x y : Operand} {t : TypeId} (ho : o.op = .indexAddr t x y) : Good P o σ0 (lift2 σ0 x y o.dst (fIndexAddr T σ0 t)) :=
  good_lift2 fun X Y p R Z h hp => by
    unfold fIndexAddr at h
    split at h
    · rename_i ob n j
      split at h <;> try (cases h; done)
      rename_i e _ _ _ e' es rows ht hl
      split at h <;> try (cases h; done)
      rename_i ti hte
      split at h <;> try (cases h; done)
      rename_i hes
      cases h
      have hu := (hT t _ ht).kind
      simp only [TKOk] at hu
      refine ⟨Reads.one hl, fun cx σ ι S a w hr hw hx hy => ?_⟩
      have hl' := hr (.o ob, some (.row e' es rows)) (by simp)
      dsimp only at hl'
      simp only [VaR, ER, CR] at hy
      cases hv2 : a.eval y <;> rw [hv2] at hy <;> cases hy
      obtain ⟨_, h2⟩ := (show CR σ ι w S (.own ob n) (a.eval x) from hx)
      rcases h2 with ⟨e2, es2, rows2, hl2, hn, hv⟩ | hd
      · rw [hl'] at hl2; cases hl2
        have hv := hv hp.1
        rcases hw.vr.objs ob _ hl' with ⟨hn2, hr2⟩ | ⟨g, off, cap, cur, fz, hg, _⟩
        · subst hr2; have h1 := hp.1; have h3 := hp.2.2; have h4 := hp.2.1; simp at h1; omega
        · rw [hp.1] at hg
          refine ⟨.pointer (some ⟨g, off + j.toNat * es + 0, none⟩), ?_, rfl, .inl ⟨e', es, rows, hl', hn, fun _ => ⟨g, off, cap, hg, rfl⟩⟩⟩
          simp [execOp, ho, hv, hv2, hg, run_indexAt_sl hu (hT e ti hte) ⟨g, off, none⟩ n cap j hp.2.1 hp.2.2, add_mk, hes]
      · rw [hl'] at hd; cases hd
    · rename_i rows j
      split at h <;> try (cases h; done)
      rename_i e _ _ _ ht
      split at h <;> try (cases h; done)
      rename_i ti hte
      cases h
      have hu := (hT t _ ht).kind
      simp only [TKOk] at hu
      refine ⟨Reads.nil, fun cx σ ι S a w hr hw hx hy => ?_⟩
      simp only [VaR, ER, CR] at hx hy
      cases hv2 : a.eval y <;> rw [hv2] at hy <;> cases hy
      obtain ⟨⟨h0, h1⟩, hlen⟩ := hp
      have hlt : j.toNat < rows.length := by omega
      have hrow : rows.getD j.toNat [] = rows[j.toNat] := by simp [hlt]
      obtain ⟨a0, cap, es, ad, u, hv, hc, hm, he, ha, hw1, hd1⟩ := hx.sl_inv
      have ha0 := ha (by intro e; rw [e] at hlt; simp at hlt)
      subst ha0
      refine ⟨.pointer (some (ad.add (j.toNat * ti.size))), ?_, ad.add (j.toNat * ti.size), rfl, fun k d hd => ?_⟩
      · simp [execOp, ho, hv, hv2, run_indexAt_sl hu (hT e ti hte) ad rows.length cap j h0 h1]
      · rw [hrow] at hd hlen
        have hes : es = ti.size := by rw [← hlen]; exact (he _ (List.getElem_mem hlt)).symm
        obtain ⟨hs, hcell⟩ := hw1 j.toNat _ k d (List.getElem?_eq_getElem hlt) hd
        rw [hes] at hcell
        exact ⟨by rw [add_block]; exact hs, _, by rw [add_add]; exact hcell, hd1 j.toNat _ k d (List.getElem?_eq_getElem hlt) hd⟩
    · rename_i ob k j
      split at h <;> try (cases h; done)
      rename_i n e _ _ _ ty cs ht hl
      split at h <;> try (cases h; done)
      rename_i ti hte
      cases h
      have hu := (hT t _ ht).kind
      simp only [TKOk] at hu
      refine ⟨Reads.one hl, fun cx σ ι S a w hr hw hx hy => ?_⟩
      have hl' := hr (.o ob, some (.box ty cs)) (by simp)
      dsimp only at hl'
      simp only [VaR, ER, CR] at hy
      cases hv2 : a.eval y <;> rw [hv2] at hy <;> cases hy
      obtain ⟨_, h2⟩ := (show CR σ ι w S (.pt ob k) (a.eval x) from hx)
      rcases h2 with ⟨ty2, cs2, hl2, b, hi, hv⟩ | hd
      · refine ⟨.pointer (some ⟨b, k + j.toNat * ti.size, none⟩), ?_, rfl, .inl ⟨ty2, cs2, hl2, b, hi, rfl⟩⟩
        simp [execOp, ho, hv, hv2, Instr.indexAt, run_underlying hu, asIntOf, Instr.sureAddr, hp.1, hp.2, run_sizeOfT (hT e ti hte), add_mk]
      · rw [hl'] at hd; cases hd
    · cases h
end Go.Ab
