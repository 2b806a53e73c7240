/- Ab, part G: loads; a choice between two values. -/
import Derived.Test.YtlkfibmjdigmiabAbF
namespace Go.Ab
open Go Go.RowKit
set_option linter.unusedVariables false
set_option linter.unusedSimpArgs false

def fLoad (T : Tab) (σ : St) (t : TypeId) : V → Option (Prop × List (Loc × Option K) × V)
  | .e (.c (.pt ob k)) => match T t, look σ (.o ob) with
    | some ti, some (.box ty cs) => if ti.kind.agg then some (k + ti.size ≤ cs.length, [(.o ob, some (.box ty cs))], .e (.agg ((cs.drop k).take ti.size)))
        else some (k < cs.length, [(.o ob, some (.box ty cs))], .e (.c (cs.getD k .nil)))
    | _, _ => none
  | .e (.c (.pe ob n i k)) => match T t, look σ (.o ob) with
    | some ti, some (.row e es rows) => if ti.kind.agg then some (rows.length = n ∧ i < n ∧ k + ti.size ≤ (rows.getD i []).length, [(.o ob, some (.row e es rows))], .e (.agg ((((rows.getD i []).drop k).take ti.size).map C.d)))
        else some (rows.length = n ∧ i < n ∧ k < (rows.getD i []).length, [(.o ob, some (.row e es rows))], Dv ((rows.getD i []).getD k (.i 0)))
    | _, _ => none
  | .e (.c (.rp cs)) => match T t with
    | some ti => if ti.kind.agg then some (ti.size ≤ cs.length, [], .e (.agg ((cs.take ti.size).map C.d))) else some (0 < cs.length, [], Dv (cs.getD 0 (.i 0)))
    | _ => none
  | _ => none
theorem good_load {P : Program} {T : Tab} (hT : TabOk P T) {o : Oper} {σ0 : St} {x : Operand} {t : TypeId} (ho : o.op = .load t x) : Good P o σ0 (lift1 σ0 x o.dst (fLoad T σ0 t)) :=
  good_lift1 fun X p R Y h hp => by
    unfold fLoad at h
    split at h
    · rename_i ob k
      split at h <;> try (cases h; done)
      rename_i ti ty cs ht hl
      have hti := hT t ti ht
      have main : ∀ (cx : Cx) (σ : St) (ι : Nat → Value) (S : Nat → Prop) (a : Act) (w : World), Reads [(.o ob, some (.box ty cs))] σ → RW cx σ ι S a w → VaR σ ι w S (.e (.c (.pt ob k))) (a.eval x) →
          ∃ (b : Nat) (vs : List Value), a.eval x = .pointer (some ⟨b, k, none⟩) ∧ vs.length = cs.length ∧ (∀ (j : Nat) v, vs[j]? = some v → w.cell? ⟨b, j, none⟩ = some v) ∧ ∀ (j : Nat) c u, cs[j]? = some c → vs[j]? = some u → CR σ ι w S c u := by
        intro cx σ ι S a w hr hw hx
        have hl' := hr (.o ob, some (.box ty cs)) (by simp)
        dsimp only at hl'
        obtain ⟨_, h2⟩ := (show CR σ ι w S (.pt ob k) (a.eval x) from hx)
        rcases h2 with ⟨ty2, cs2, hl2, b, hi, hv⟩ | hd
        · obtain ⟨b', vs, hi', hh, hsz, hc⟩ := hw.vr.objs ob _ hl'
          rw [hi] at hi'
          cases hi'
          refine ⟨b, vs.toList, hv, by simpa using hsz, fun j v hj => ?_, fun j c u h1 h2 => hc j c u h1 (by simpa using h2)⟩
          rw [cell_of_row w b j vs ty (0, 0) hh]; simpa using hj
        · rw [hl'] at hd; cases hd
      split at h
      · rename_i hag
        cases h
        refine ⟨Reads.one hl, fun cx σ ι S a w hr hw hx => ?_⟩
        obtain ⟨b, vs, hv, hlen, hcell, hc⟩ := main cx σ ι S a w hr hw hx
        refine ⟨.agg ((vs.drop k).take ti.size).toArray, ?_, (vs.drop k).take ti.size, rfl, by simp [hlen], fun j c u h1 h2 => ?_⟩
        · have := run_loadVar_agg (w := w) hti hag ⟨b, k, none⟩ ((vs.drop k).take ti.size) (by simp [hlen]; omega) (fun j v hj => by
            rw [add_mk]
            rw [List.getElem?_take] at hj
            split at hj
            · rw [List.getElem?_drop] at hj; exact hcell _ _ hj
            · cases hj)
          simp [execOp, ho, hv, Instr.loadAt, Instr.sureAddr, this]
        · rw [List.getElem?_take] at h1 h2
          split at h1
          · rename_i hlt
            rw [if_pos hlt] at h2
            rw [List.getElem?_drop] at h1 h2
            exact hc _ c u h1 h2
          · cases h1
      · rename_i hag
        have hag' : ti.kind.agg = false := by simpa using hag
        cases h
        refine ⟨Reads.one hl, fun cx σ ι S a w hr hw hx => ?_⟩
        obtain ⟨b, vs, hv, hlen, hcell, hc⟩ := main cx σ ι S a w hr hw hx
        have hlt : k < vs.length := by rw [hlen]; exact hp
        refine ⟨vs[k], ?_, ?_⟩
        · have := run_loadVar_one (w := w) hti hag' ⟨b, k, none⟩ vs[k] (hcell k _ (List.getElem?_eq_getElem hlt))
          simp [execOp, ho, hv, Instr.loadAt, Instr.sureAddr, this]
        · have : cs.getD k .nil = cs[k] := by simp [hp]
          rw [this]
          exact hc k _ _ (List.getElem?_eq_getElem hp) (List.getElem?_eq_getElem hlt)
    · rename_i ob n i k
      split at h <;> try (cases h; done)
      rename_i ti e es rows ht hl
      have hti := hT t ti ht
      have main : ∀ (cx : Cx) (σ : St) (ι : Nat → Value) (S : Nat → Prop) (a : Act) (w : World), Reads [(.o ob, some (.row e es rows))] σ → RW cx σ ι S a w → VaR σ ι w S (.e (.c (.pe ob n i k))) (a.eval x) → rows.length = n → i < n →
          ∃ (b off : Nat), a.eval x = .pointer (some ⟨b, off + k, none⟩) ∧ (∀ (j : Nat) d, (rows.getD i [])[j]? = some d → ∃ u, w.cell? ⟨b, off + j, none⟩ = some u ∧ DR w S d u) := by
        intro cx σ ι S a w hr hw hx hn hi
        have hl' := hr (.o ob, some (.row e es rows)) (by simp)
        dsimp only at hl'
        obtain ⟨_, h2⟩ := (show CR σ ι w S (.pe ob n i k) (a.eval x) from hx)
        rcases h2 with ⟨e2, es2, rows2, hl2, hn2, hv⟩ | hd
        · rw [hl'] at hl2; cases hl2
          obtain ⟨g, off, cap, hig, hvv⟩ := hv hn
          rcases hw.vr.objs ob _ hl' with ⟨hn3, _⟩ | ⟨g', off', cap', cur, fz, hg, hh, _, _, _, _, hrows⟩
          · rw [hig] at hn3; cases hn3
          · rw [hig] at hg; cases hg
            have hlt : i < rows.length := by omega
            have hrow : rows.getD i [] = rows[i] := by simp [hlt]
            refine ⟨g, off + i * es, hvv, fun j d hd => ?_⟩
            rw [hrow] at hd
            obtain ⟨u, hu, hdr⟩ := (hrows i _ (List.getElem?_eq_getElem hlt)).2 j d hd
            exact ⟨u, by rw [cell_of_row w g _ cur e fz hh]; exact hu, hdr⟩
        · rw [hl'] at hd; cases hd
      split at h
      · rename_i hag
        cases h
        refine ⟨Reads.one hl, fun cx σ ι S a w hr hw hx => ?_⟩
        obtain ⟨b, off, hv, hcell⟩ := main cx σ ι S a w hr hw hx hp.1 hp.2.1
        have hex : ∃ vs : List Value, vs.length = ti.size ∧ (∀ (j : Nat) v, vs[j]? = some v → w.cell? ⟨b, off + k + j, none⟩ = some v) ∧ ∀ (j : Nat) d u, (((rows.getD i []).drop k).take ti.size)[j]? = some d → vs[j]? = some u → DR w S d u := by
          refine ⟨(List.range ti.size).map fun j => (w.cell? ⟨b, off + k + j, none⟩).getD undef, by simp, fun j v hj => ?_, fun j d u h1 h2 => ?_⟩
          · have hjl : j < ti.size := by have := (List.getElem?_eq_some_iff.1 hj).1; simpa using this
            simp [hjl] at hj
            have hlt : k + j < (rows.getD i []).length := by omega
            obtain ⟨u, hu, _⟩ := hcell (k + j) _ (List.getElem?_eq_getElem hlt)
            rw [← Nat.add_assoc] at hu
            rw [hu] at hj ⊢
            simpa using hj
          · have hjl : j < ti.size := by have := (List.getElem?_eq_some_iff.1 h2).1; simpa using this
            rw [List.getElem?_take, if_pos hjl, List.getElem?_drop] at h1
            obtain ⟨u', hu, hdr⟩ := hcell (k + j) d h1
            rw [← Nat.add_assoc] at hu
            simp [hjl, hu] at h2
            subst h2; exact hdr
        obtain ⟨vs, hvl, hvc, hvd⟩ := hex
        refine ⟨.agg vs.toArray, ?_, vs, rfl, by rw [List.length_map, List.length_take, List.length_drop, hvl]; omega, fun j c u h1 h2 => ?_⟩
        · have := run_loadVar_agg (w := w) hti hag ⟨b, off + k, none⟩ vs hvl (fun j v hj => by rw [add_mk]; exact hvc j v hj)
          simp [execOp, ho, hv, Instr.loadAt, Instr.sureAddr, this]
        · rw [List.getElem?_map] at h1
          cases hq : (((rows.getD i []).drop k).take ti.size)[j]? with
          | none => rw [hq] at h1; cases h1
          | some d => rw [hq] at h1; cases h1; exact hvd j d u hq h2
      · rename_i hag
        have hag' : ti.kind.agg = false := by simpa using hag
        cases h
        refine ⟨Reads.one hl, fun cx σ ι S a w hr hw hx => ?_⟩
        obtain ⟨b, off, hv, hcell⟩ := main cx σ ι S a w hr hw hx hp.1 hp.2.1
        have hlt := hp.2.2
        obtain ⟨u, hu, hdr⟩ := hcell k _ (List.getElem?_eq_getElem hlt)
        refine ⟨u, ?_, ?_⟩
        · have := run_loadVar_one (w := w) hti hag' ⟨b, off + k, none⟩ u hu
          simp [execOp, ho, hv, Instr.loadAt, Instr.sureAddr, this]
        · have : (rows.getD i []).getD k (.i 0) = (rows.getD i [])[k] := by
            rw [List.getD_eq_getElem?_getD, List.getElem?_eq_getElem hlt]; rfl
          simp only [Dv, VaR, ER, CR]
          rw [this]; exact hdr
    · rename_i cs
      split at h <;> try (cases h; done)
      rename_i ti ht
      have hti := hT t ti ht
      split at h
      · rename_i hag
        cases h
        refine ⟨Reads.nil, fun cx σ ι S a w hr hw hx => ?_⟩
        obtain ⟨ad, hv, hk⟩ := (show CR σ ι w S (.rp cs) (a.eval x) from hx)
        have hex : ∃ vs : List Value, vs.length = ti.size ∧ (∀ (j : Nat) v, vs[j]? = some v → w.cell? (ad.add j) = some v) ∧ ∀ (j : Nat) d u, (cs.take ti.size)[j]? = some d → vs[j]? = some u → DR w S d u := by
          refine ⟨(List.range ti.size).map fun j => (w.cell? (ad.add j)).getD undef, by simp, fun j v hj => ?_, fun j d u h1 h2 => ?_⟩
          · have hjl : j < ti.size := by have := (List.getElem?_eq_some_iff.1 hj).1; simpa using this
            simp [hjl] at hj
            have hlt : j < cs.length := by omega
            obtain ⟨_, u, hu, _⟩ := hk j _ (List.getElem?_eq_getElem hlt)
            rw [hu] at hj ⊢
            simpa using hj
          · have hjl : j < ti.size := by have := (List.getElem?_eq_some_iff.1 h2).1; simpa using this
            rw [List.getElem?_take, if_pos hjl] at h1
            obtain ⟨_, u', hu, hdr⟩ := hk j d h1
            simp [hjl, hu] at h2
            subst h2; exact hdr
        obtain ⟨vs, hvl, hvc, hvd⟩ := hex
        refine ⟨.agg vs.toArray, ?_, vs, rfl, by simp [hvl]; omega, fun j c u h1 h2 => ?_⟩
        · have := run_loadVar_agg (w := w) hti hag ad vs hvl hvc
          simp [execOp, ho, hv, Instr.loadAt, Instr.sureAddr, this]
        · rw [List.getElem?_map] at h1
          cases hq : (cs.take ti.size)[j]? with
          | none => rw [hq] at h1; cases h1
          | some d => rw [hq] at h1; cases h1; exact hvd j d u hq h2
      · rename_i hag
        have hag' : ti.kind.agg = false := by simpa using hag
        cases h
        refine ⟨Reads.nil, fun cx σ ι S a w hr hw hx => ?_⟩
        obtain ⟨ad, hv, hk⟩ := (show CR σ ι w S (.rp cs) (a.eval x) from hx)
        obtain ⟨_, u, hu, hdr⟩ := hk 0 _ (List.getElem?_eq_getElem hp)
        have ha0 : ad.add 0 = ad := by simp [Addr.add]
        rw [ha0] at hu
        refine ⟨u, ?_, ?_⟩
        · have := run_loadVar_one (w := w) hti hag' ad u hu
          simp [execOp, ho, hv, Instr.loadAt, Instr.sureAddr, this]
        · have : cs.getD 0 (.i 0) = cs[0] := by
            rw [List.getD_eq_getElem?_getD, List.getElem?_eq_getElem hp]; rfl
          simp only [Dv, VaR, ER, CR]
          rw [this]; exact hdr
    · cases h

/-! a choice between two values -/
def aPick (σ : St) (c x y : Operand) (d : Option Tmp) : Res :=
  match ev σ c, d with
  | some (.e (.c (.d (.b b))), R), some d => match (if b then ev σ x else ev σ y) with
    | some (Y, R') => some (True, R ++ R', [(.t d, .v Y)])
    | none => none
  | _, _ => none
theorem good_pick {P : Program} {o : Oper} {σ0 : St} {c x y : Operand} (ho : o.op = .pick c x y) : Good P o σ0 (aPick σ0 c x y o.dst) := by
  intro p R W h hp
  unfold aPick at h
  split at h
  · rename_i b Rc d hc hd
    split at h
    · rename_i Y R' hy
      cases h
      cases b with
      | true =>
        have hy : ev σ0 x = some (Y, R') := hy
        refine ⟨opt_val hd fun cx σ ι S a w hr hw => ⟨a.eval x, ?_, ev_sound hy hr.right hw⟩, (ev_reads hc).append (ev_reads hy)⟩
        have hcv := ev_sound hc hr.left hw
        simp only [VaR, ER, CR] at hcv
        cases hv : a.eval c <;> rw [hv] at hcv <;> cases hcv
        simp [execOp, ho, hv, asBool]
      | false =>
        have hy : ev σ0 y = some (Y, R') := hy
        refine ⟨opt_val hd fun cx σ ι S a w hr hw => ⟨a.eval y, ?_, ev_sound hy hr.right hw⟩, (ev_reads hc).append (ev_reads hy)⟩
        have hcv := ev_sound hc hr.left hw
        simp only [VaR, ER, CR] at hcv
        cases hv : a.eval c <;> rw [hv] at hcv <;> cases hcv
        simp [execOp, ho, hv, asBool]
    · cases h
  · cases h
end Go.Ab
