/- Ab, the bridge: what a row says of an argument, as plain data that is only read. -/
import Derived.Test.YtlkfibmjdigmiabAbZ
import Derived.Deep.Slices
import Derived.WideShapes
import GoSem.ClaimJoined
namespace Go.Ab
open Go Go.RowKit
set_option linter.unusedVariables false
set_option linter.unusedSimpArgs false

def tilesB (T : Tab) (sz : Nat) : Nat → List (Nat × TypeId) → Bool
  | off, [] => Nat.beq off sz
  | off, p :: r => Nat.beq p.1 off && (match T p.2 with | some fi => tilesB T sz (off + fi.size) r | none => false)
def deepOk (T : Tab) : Nat → TypeId → Bool
  | 0, _ => false
  | n + 1, t => match T t with
    | none => false
    | some ti => match ti.kind with
      | .int .i64 => true
      | .int .u8 => true
      | .bool => true
      | .str => true
      | .sl e => deepOk T n e
      | .st fs => tilesB T ti.size 0 fs && fs.all fun p => deepOk T n p.2
      | _ => false
/-- Cells that are in form for their type; B bounds what a slice or a text takes. -/
def Typed (T : Tab) (B : Nat) : Nat → TypeId → List D → Prop
  | 0, _, _ => False
  | n + 1, t, ds => match T t with
    | none => False
    | some ti => match ti.kind with
      | .int .i64 => ∃ x, ds = [.i x] ∧ (Lit.int .i64 x).wf = true
      | .int .u8 => ∃ x, ds = [.u x] ∧ (Lit.int .u8 x).wf = true
      | .bool => ∃ b, ds = [.b b]
      | .str => ∃ l, ds = [.s l] ∧ l.length ≤ B
      | .sl e => ∃ rows, ds = [.sl rows] ∧ (match T e with | some ei => rows.length * ei.bytes ≤ B | none => False) ∧ ∀ r ∈ rows, Typed T B n e r
      | .st fs => ds.length = ti.size ∧ ∀ p ∈ fs, match T p.2 with | some fi => Typed T B n p.2 ((ds.drop p.1).take fi.size) | none => False
      | _ => False
section
variable {H : Type} {enc : TypeId × Value → H} {P : Program} {W : World} {sp : Nat → Bool} {held : Bool} {T : Tab} {B : Nat}
theorem cellsOf_of (hT : TabOk P T) {t : TypeId} {ti : TI} (h : T t = some ti) : P.cellsOf t = ti.size ∧ P.bytesOf t = ti.bytes := by
  obtain ⟨i, z, hi, h1, h2, _⟩ := (hT t ti h).info
  exact ⟨by simp [Program.cellsOf, hi, h1], by simp [Program.bytesOf, hi, h2]⟩
theorem cell_lt {a : Addr} {v : Value} (h : W.cell? a = some v) : a.block < W.heap.size := by
  unfold World.cell? at h
  cases hq : W.heap[a.block]? with
  | none => rw [hq] at h; simp at h
  | some o => exact (Array.getElem?_eq_some_iff.1 hq).1
theorem cells_at {base : Nat} {a : Addr} {n : Nat} {cs : List Value} (h : W.cells? base a n = some cs) : cs.length = n ∧ ∀ (k : Nat) v, cs[k]? = some v → W.cell? (a.add k) = some v := by
  unfold World.cells? at h
  split at h
  · have key : ∀ (l : List Nat) (cs : List Value), l.mapM (fun i => W.cell? (a.add i)) = some cs → cs.length = l.length ∧ ∀ (k : Nat) v, cs[k]? = some v → ∃ i, l[k]? = some i ∧ W.cell? (a.add i) = some v := by
      intro l
      induction l with
      | nil => intro cs h; simp at h; subst h; exact ⟨rfl, by simp⟩
      | cons x r ih =>
        intro cs h
        rw [List.mapM_cons] at h
        obtain ⟨v, h1, h⟩ := Option.bind_eq_some_iff.1 h
        obtain ⟨vs, h2, h⟩ := Option.bind_eq_some_iff.1 h
        cases h
        obtain ⟨q1, q2⟩ := ih vs h2
        refine ⟨by simp [q1], fun k u hu => ?_⟩
        cases k with
        | zero => simp at hu; subst hu; exact ⟨x, rfl, h1⟩
        | succ k => simpa using q2 k u (by simpa using hu)
    obtain ⟨q1, q2⟩ := key _ _ h
    refine ⟨by simpa using q1, fun k v hv => ?_⟩
    obtain ⟨i, h1, h2⟩ := q2 k v hv
    have := (List.getElem?_eq_some_iff.1 h1)
    obtain ⟨h3, h4⟩ := this
    simp at h4
    rw [h4]; exact h2
  · cases h

def SW0 (W : World) : Nat → Prop := fun b => b < W.heap.size
def Rd (W : World) (ds : List D) (cs : List Value) : Prop := ds.length = cs.length ∧ ∀ (k : Nat) x v, ds[k]? = some x → cs[k]? = some v → DR W (SW0 W) x v
theorem Rd.one {x : D} {v : Value} (h : DR W (SW0 W) x v) : Rd W [x] [v] := ⟨rfl, fun k y u h1 h2 => by
  cases k with
  | zero => simp at h1 h2; subst h1; subst h2; exact h
  | succ k => simp at h1⟩
theorem Rd.append {ds es : List D} {cs vs : List Value} (h : Rd W ds cs) (k : Rd W es vs) : Rd W (ds ++ es) (cs ++ vs) := by
  refine ⟨by simp [h.1, k.1], fun i x v h1 h2 => ?_⟩
  by_cases hi : i < ds.length
  · rw [List.getElem?_append_left hi] at h1
    rw [List.getElem?_append_left (by rw [← h.1]; exact hi)] at h2
    exact h.2 i x v h1 h2
  · rw [List.getElem?_append_right (by omega)] at h1
    rw [List.getElem?_append_right (by rw [← h.1]; omega), ← h.1] at h2
    exact k.2 _ x v h1 h2

def OpenOk (enc : TypeId × Value → H) (P : Program) (W : World) (sp : Nat → Bool) (held : Bool) (T : Tab) (B N : Nat) (t : TypeId) : Prop :=
  ∀ fuel cs d ps, DataW.trod enc P W 0 sp held fuel t cs = some (d, ps) → (d.weights P t).all (· ≤ B) = true → ∃ ds, Rd W ds cs ∧ Typed T B N t ds

theorem fields_typed (hT : TabOk P T) {N sz fuel : Nat} : ∀ (fs : List Field) (off : Nat) (cs : List Value) (xs : List (DataW H × List MemPlace)), tilesB T sz off (fs.map fun f => (f.offset, f.type)) = true → cs.length = sz → off ≤ sz →
    (∀ f ∈ fs, OpenOk enc P W sp held T B N f.type) → fs.mapM (fun f => DataW.trod enc P W 0 sp held fuel f.type ((cs.drop f.offset).take (P.cellsOf f.type))) = some xs → (DataW.weightsEach P (fs.map (·.type)) (xs.map (·.1))).all (· ≤ B) = true →
    ∃ ds, Rd W ds (cs.drop off) ∧ ∀ p ∈ fs.map (fun f => (f.offset, f.type)), off ≤ p.1 ∧ match T p.2 with | some fi => Typed T B N p.2 ((ds.drop (p.1 - off)).take fi.size) | none => False
  | [], off, cs, xs, ht, hl, ho, _, _, _ => by
    have : off = sz := Nat.eq_of_beq_eq_true ht
    exact ⟨[], by rw [List.drop_eq_nil_of_le (by omega)]; exact ⟨rfl, by simp⟩, by simp⟩
  | f :: fs, off, cs, xs, ht, hl, ho, hop, hm, hw => by
    simp only [List.map_cons, tilesB, Bool.and_eq_true] at ht
    obtain ⟨h1, h2⟩ := ht
    have h1 := Nat.eq_of_beq_eq_true h1
    cases hf : T f.type with
    | none => rw [hf] at h2; cases h2
    | some fi =>
      rw [hf] at h2
      simp only at h2
      rw [List.mapM_cons] at hm
      obtain ⟨x, hx, hm⟩ := Option.bind_eq_some_iff.1 hm
      obtain ⟨ys, hy, hm⟩ := Option.bind_eq_some_iff.1 hm
      cases hm
      obtain ⟨hc1, hc2⟩ := cellsOf_of hT hf
      simp only [List.map_cons, DataW.weightsEach, List.all_append, Bool.and_eq_true] at hw
      obtain ⟨ds, hr, hty⟩ := hop f (List.mem_cons_self ..) _ _ _ _ hx hw.1
      have hoff : off + fi.size ≤ sz := by
        -- the rest tiles from there to sz
        have key : ∀ (l : List (Nat × TypeId)) (o : Nat), tilesB T sz o l = true → o ≤ sz := by
          intro l
          induction l with
          | nil => intro o h; exact Nat.le_of_eq (Nat.eq_of_beq_eq_true h)
          | cons p r ih =>
            intro o h
            simp only [tilesB, Bool.and_eq_true] at h
            cases hq : T p.2 with
            | none => rw [hq] at h; cases h.2
            | some qi => rw [hq] at h; have := ih _ h.2; omega
        exact key _ _ h2
      obtain ⟨es, hr2, hty2⟩ := fields_typed hT fs (off + fi.size) cs ys h2 hl hoff (fun g hg => hop g (List.mem_cons_of_mem _ hg)) hy hw.2
      rw [hc1, h1] at hr
      have hdl : ds.length = fi.size := by rw [hr.1, List.length_take, List.length_drop]; omega
      refine ⟨ds ++ es, ?_, fun p hp => ?_⟩
      · have e : cs.drop off = (cs.drop off).take fi.size ++ cs.drop (off + fi.size) := by
          rw [← List.drop_drop, List.take_append_drop]
        rw [e]; exact hr.append hr2
      · rcases List.mem_cons.1 hp with rfl | hp
        · refine ⟨Nat.le_of_eq h1.symm, ?_⟩
          simp only [hf, h1, Nat.sub_self, List.drop_zero]
          rw [List.take_append_of_le_length (by omega), ← hdl, List.take_length]; exact hty
        · obtain ⟨q1, q2⟩ := hty2 p hp
          refine ⟨by omega, ?_⟩
          cases hq : T p.2 with
          | none => rw [hq] at q2; exact q2
          | some qi =>
            rw [hq] at q2
            simp only at q2 ⊢
            rw [List.drop_append, List.drop_eq_nil_of_le (by omega), List.nil_append, hdl, show p.1 - off - fi.size = p.1 - (off + fi.size) by omega]
            exact q2
theorem weightsAll_mem {e : TypeId} : ∀ {l : List (DataW H)}, (DataW.weightsAll P e l).all (· ≤ B) = true → ∀ d ∈ l, (d.weights P e).all (· ≤ B) = true
  | [], _, d, hd => by cases hd
  | x :: r, h, d, hd => by
    simp only [DataW.weightsAll, List.all_append, Bool.and_eq_true] at h
    rcases List.mem_cons.1 hd with rfl | hd
    · exact h.1
    · exact weightsAll_mem h.2 d hd
theorem open_typed (hT : TabOk P T) : ∀ (N : Nat) (t : TypeId), deepOk T N t = true → OpenOk enc P W sp held T B N t
  | 0, t, h => by cases h
  | N + 1, t, h => by
    intro fuel cs d ps htr hw
    unfold deepOk at h
    cases ht : T t with
    | none => rw [ht] at h; cases h
    | some ti =>
      rw [ht] at h
      simp only at h
      have hok := hT t ti ht
      have hk := hok.kind
      cases fuel with
      | zero => cases htr
      | succ fuel =>
        cases hkk : ti.kind with
        | int k =>
          rw [hkk] at h hk
          simp only [TKOk] at hk
          unfold DataW.trod at htr
          rw [hk] at htr
          split at htr <;> rename_i he <;> try (cases he; done)
          · rename_i _ _ kk mm
            cases he
            split at htr
            · rename_i hc
              cases htr
              obtain ⟨rfl, hwf⟩ := hc
              cases kk <;> try (cases h; done)
              · exact ⟨[.i mm], .one (.i _), by unfold Typed; simp only [ht, hkk]; exact ⟨_, rfl, hwf⟩⟩
              · exact ⟨[.u mm], .one (.u _), by unfold Typed; simp only [ht, hkk]; exact ⟨_, rfl, hwf⟩⟩
            · cases htr
          all_goals cases htr
        | bool =>
          rw [hkk] at hk
          simp only [TKOk] at hk
          unfold DataW.trod at htr
          rw [hk] at htr
          split at htr <;> rename_i he <;> try (cases he; done)
          · cases htr
            exact ⟨[.b _], .one (.b _), by unfold Typed; simp only [ht, hkk]; exact ⟨_, rfl⟩⟩
          all_goals cases htr
        | str =>
          rw [hkk] at hk
          simp only [TKOk] at hk
          unfold DataW.trod at htr
          rw [hk] at htr
          split at htr <;> rename_i he <;> try (cases he; done)
          · rename_i _ s
            split at htr
            · cases htr
              refine ⟨[.s s.data.toList], .one (.s _), ?_⟩
              unfold Typed; simp only [ht, hkk]
              exact ⟨_, rfl, by simpa [DataW.weights] using hw⟩
            · cases htr
          all_goals cases htr
        | sl e =>
          rw [hkk] at h hk
          simp only [TKOk] at hk
          simp only at h
          have hih := open_typed hT N e h
          cases he : T e with
          | none => cases N with
            | zero => cases h
            | succ N => unfold deepOk at h; rw [he] at h; cases h
          | some ei =>
            obtain ⟨hc1, hc2⟩ := cellsOf_of hT he
            have hep := (hT e ei he).pos
            rcases Deep.open_slice hk htr with ⟨rfl, hx⟩ | ⟨a, len, cap, m, n, Df, Pl, rfl, hb, hl, hm, hmm, hx, hel⟩
            · refine ⟨[.sl []], .one (.sl [] none 0 0 ⟨0, 0, none⟩ (fun _ _ => undef) (by simp) (by simp [maxLen]) (by simp) (by simp) (by simp) (by simp)), ?_⟩
              unfold Typed; simp only [ht, hkk]
              exact ⟨[], rfl, by simp [he], by simp⟩
            · cases hx
              simp only [DataW.weights, hk, List.all_cons, List.all_append, Bool.and_eq_true, decide_eq_true_eq, List.length_map, List.length_range] at hw
              have hlm : len ≤ m := by rw [hmm]; split <;> omega
              have hrow : ∀ i, i < len → ∃ r, (∃ cs', W.cells? 0 (a.add (i * ei.size)) ei.size = some cs' ∧ Rd W r cs') ∧ Typed T B N e r := by
                intro i hi
                obtain ⟨cs', h1, h2⟩ := hel i (by omega)
                rw [hc1] at h1
                obtain ⟨r, q1, q2⟩ := hih _ _ _ _ h2 (weightsAll_mem hw.2.1 _ (List.mem_map.2 ⟨i, List.mem_range.2 hi, rfl⟩))
                exact ⟨r, ⟨cs', h1, q1⟩, q2⟩
              obtain ⟨rf, hrf⟩ : ∃ rf : Nat → List D, ∀ i, i < len → (∃ cs', W.cells? 0 (a.add (i * ei.size)) ei.size = some cs' ∧ Rd W (rf i) cs') ∧ Typed T B N e (rf i) :=
                ⟨fun i => if hi : i < len then Classical.choose (hrow i hi) else [], fun i hi => by dsimp only; rw [dif_pos hi]; exact Classical.choose_spec (hrow i hi)⟩
              have hget : ∀ (i : Nat) r, ((List.range len).map rf)[i]? = some r → i < len ∧ r = rf i := by
                intro i r hr
                rw [List.getElem?_map] at hr
                by_cases hi : i < len
                · rw [List.getElem?_range hi] at hr; simp at hr; exact ⟨hi, hr.symm⟩
                · rw [List.getElem?_eq_none (by simpa using hi)] at hr; cases hr
              have hlen : ∀ i, i < len → (rf i).length = ei.size := by
                intro i hi
                obtain ⟨⟨cs', h1, h2⟩, _⟩ := hrf i hi
                rw [h2.1, (cells_at h1).1]
              have hcell : ∀ i, i < len → ∀ (k : Nat) x, (rf i)[k]? = some x → ∃ v, W.cell? (a.add (i * ei.size + k)) = some v ∧ DR W (SW0 W) x v := by
                intro i hi k x hx
                obtain ⟨⟨cs', h1, h2⟩, _⟩ := hrf i hi
                have hk' : k < cs'.length := by rw [← h2.1]; exact (List.getElem?_eq_some_iff.1 hx).1
                refine ⟨cs'[k], ?_, h2.2 k x _ hx (List.getElem?_eq_getElem hk')⟩
                have := (cells_at h1).2 k _ (List.getElem?_eq_getElem hk')
                rwa [Deep.add_add] at this
              refine ⟨[.sl ((List.range len).map rf)], .one ?_, ?_⟩
              · have e1 : ((List.range len).map rf).length = len := by simp
                have := DR.sl (w := W) (S := SW0 W) ((List.range len).map rf) (some a) cap ei.size a (fun i k => (W.cell? (a.add (i * ei.size + k))).getD undef) (by rw [e1]; exact hl) hm
                  (fun r hr => by obtain ⟨i, hi, rfl⟩ := List.mem_map.1 hr; exact hlen i (List.mem_range.1 hi)) (fun _ => rfl)
                  (fun i r k d hi hk => by
                    obtain ⟨h1, rfl⟩ := hget i r hi
                    obtain ⟨v, h2, h3⟩ := hcell i h1 k d hk
                    have hb : (a.add (i * ei.size + k)).block = a.block := by unfold Addr.add; split <;> rfl
                    exact ⟨by have := cell_lt h2; rw [hb] at this; exact this, by rw [h2]; rfl⟩)
                  (fun i r k d hi hk => by
                    obtain ⟨h1, rfl⟩ := hget i r hi
                    obtain ⟨v, h2, h3⟩ := hcell i h1 k d hk
                    rw [h2]; exact h3)
                rw [e1] at this; exact this
              · unfold Typed; simp only [ht, hkk]
                refine ⟨_, rfl, ?_, fun r hr => ?_⟩
                · simp only [he]
                  rw [List.length_map, List.length_range, ← hc2]
                  have := hw.1
                  rw [Nat.add_mul] at this
                  omega
                · obtain ⟨i, hi, rfl⟩ := List.mem_map.1 hr
                  exact (hrf i (List.mem_range.1 hi)).2
        | st fs =>
          rw [hkk] at h hk
          simp only [TKOk] at hk
          obtain ⟨fields, hu, hfs⟩ := hk
          simp only [Bool.and_eq_true] at h
          unfold DataW.trod at htr
          rw [hu] at htr
          have htr : (if cs.length = P.cellsOf t then (fields.toList.mapM fun f => DataW.trod enc P W 0 sp held fuel f.type ((cs.drop f.offset).take (P.cellsOf f.type))).map fun xs => (DataW.agg (xs.map (·.1)), xs.flatMap (·.2)) else none) = some (d, ps) := htr
          split at htr
          · rename_i hcl
            obtain ⟨xs, hxs, hmk⟩ := Option.map_eq_some_iff.1 htr
            cases hmk
            have hsz := (cellsOf_of hT ht).1
            simp only [DataW.weights, hu] at hw
            obtain ⟨ds, h1, h2⟩ := fields_typed hT fields.toList 0 cs xs (by rw [hfs]; exact h.1) (by rw [hcl, hsz]) (Nat.zero_le _)
              (fun f hf => open_typed hT N f.type (by
                have := List.all_eq_true.1 h.2 (f.offset, f.type) (by rw [← hfs]; exact List.mem_map.2 ⟨f, hf, rfl⟩)
                exact this)) hxs hw
            refine ⟨ds, by simpa using h1, ?_⟩
            unfold Typed; simp only [ht, hkk]
            refine ⟨by have := h1.1; simp at this; rw [this, hcl, hsz], fun p hp => ?_⟩
            rw [← hfs] at hp
            have := (h2 p hp).2
            simpa using this
          · cases htr
        | arr n e => rw [hkk] at h; cases h
        | ptr e => rw [hkk] at h; cases h
end

section
variable {H : Type} {enc : TypeId × Value → H} {P : Program} {W : World} {sp : Nat → Bool} {held : Bool} {T : Tab} {B : Nat}
/-- An argument, as plain data. -/
theorem arg_typed (hT : TabOk P T) (N : Nat) {t : TypeId} {ti : TI} (ht : T t = some ti) (hd : deepOk T N t = true) {v : Value} {d : DataW H} {ps : List MemPlace} {r : Reach} {base : Nat} (h : DataW.Trod enc P W 0 sp held t v d ps) (hv : Value.okWide P W r base t v) (hw : (d.weights P t).all (· ≤ B) = true) :
    ∃ ds, Typed T B N t ds ∧ (ti.kind.agg = true → ∀ σ ι, VaR σ ι W (SW0 W) (.e (.agg (ds.map C.d))) v) ∧ (ti.kind.agg = false → ∃ x, ds = [x] ∧ ∀ σ ι, VaR σ ι W (SW0 W) (Dv x) v) := by
  obtain ⟨fuel, hf⟩ := h
  obtain ⟨ds, h1, h2⟩ := open_typed hT N t hd _ _ _ _ hf hw
  refine ⟨ds, h2, fun ha => ?_, fun ha => ?_⟩
  · have hk := (hT t ti ht).kind
    have hcs : ∃ cs, v = .agg cs := by
      cases hkk : ti.kind <;> rw [hkk] at ha hk <;> simp only [TK.agg] at ha <;> try (cases ha; done)
      · simp only [TKOk] at hk
        obtain ⟨fields, hu, _⟩ := hk
        obtain ⟨cs, hcs, _⟩ := WideShapes.okWide_struct hu hv
        exact ⟨cs, hcs⟩
      · cases N with
        | zero => cases hd
        | succ N => unfold deepOk at hd; rw [ht] at hd; simp only [hkk] at hd; cases hd
    obtain ⟨cs, rfl⟩ := hcs
    intro σ ι
    have h1 : Rd W ds cs.toList := h1
    refine ⟨cs.toList, by simp, by rw [List.length_map, h1.1], fun k c u hc hu => ?_⟩
    rw [List.getElem?_map] at hc
    cases hq : ds[k]? with
    | none => rw [hq] at hc; cases hc
    | some x => rw [hq] at hc; cases hc; exact h1.2 k x u hq hu
  · have hk := (hT t ti ht).kind
    have hone : v.cells.toList = [v] := by
      cases hkk : ti.kind <;> rw [hkk] at ha hk <;> simp only [TK.agg] at ha <;> try (cases ha; done)
      all_goals simp only [TKOk] at hk
      · obtain ⟨n, rfl⟩ := WideShapes.okWide_int hk hv; rfl
      · obtain ⟨n, rfl⟩ := WideShapes.okWide_bool hk hv; rfl
      · obtain ⟨n, rfl⟩ := WideShapes.okWide_string hk hv; rfl
      · obtain ⟨a, l, c, rfl⟩ := WideShapes.okWide_slice hk hv; rfl
      · obtain ⟨a, rfl⟩ := WideShapes.okWide_pointer hk hv; rfl
    rw [hone] at h1
    match ds, h1.1 with
    | [x], _ => exact ⟨x, rfl, fun σ ι => h1.2 0 x v rfl rfl⟩
theorem calls_true {f : FuncId} {n : Nat} {Xs : List V} (hs : Spec P f n (argSt 0 Xs) [(.t 0, .v (Ab.B true))]) {args : Array Value} (hn : Xs.length = n) (hsz : args.size = n) (hX : ∀ (i : Nat) X v, Xs[i]? = some X → args[i]? = some v → ∀ σ ι, VaR σ ι W (SW0 W) X v) :
    Calls P f args W fun e W' => e = .returned (.bool true) ∧ Below W.heap.size W W' := by
  have hlo : ∀ o, look (argSt 0 Xs) (.o o) = none := fun o => by have := look_argSt_o 0 Xs [] o; simpa [look] using this
  have hvr : VR (argSt 0 Xs) (fun _ => undef) (fun i => (args[i]?).getD undef) (SW0 W) W := by
    refine ⟨fun s k hk => ?_, (fun o k hk => by rw [hlo] at hk; cases hk), fun o b hm => ?_, fun o o' b hm => ?_, fun b hb => hb⟩
    · rcases look_argSt_t 0 Xs [] s k (by simpa using hk) with ⟨X, h1, rfl, _, h2⟩ | h
      · have h3 : s < args.size := by omega
        have : args[s]? = some args[s] := Array.getElem?_eq_getElem h3
        show VaR _ _ _ _ X ((args[s]?).getD undef)
        rw [this]
        exact hX s X _ (by simpa using h1) this _ _
      · cases h
    · obtain ⟨⟨k, hk, _⟩, _⟩ := hm; rw [hlo] at hk; cases hk
    · obtain ⟨⟨k, hk, _⟩, _⟩ := hm; rw [hlo] at hk; cases hk
  refine (hs.2 _ _ _ W args hvr hsz fun i hi => ?_).mono fun e W' ⟨v, ι', S', he, hp⟩ => ?_
  · rw [Array.getElem?_eq_getElem (by omega)]; rfl
  · have hv := hp.vr.slots 0 (.v (Ab.B true)) rfl
    simp only [SlotR, VaR, ER, CR] at hv
    refine ⟨?_, hp.fr.os, hp.fr.tape, hp.fr.output, hp.fr.size, fun k hk => hp.fr.block k hk fun ⟨o, ⟨q, hq, _⟩, _⟩ => by rw [hlo] at hq; cases hq⟩
    rw [he]; cases hv; rfl
end
end Go.Ab
