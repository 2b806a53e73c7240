/- Ab, part T: a call, by the contract of its callee. -/
import Derived.Test.YtlkfibmjdigmiabAbS
namespace Go.Ab
open Go Go.RowKit
set_option linter.unusedVariables false
set_option linter.unusedSimpArgs false

/-! arguments -/
def evA (σ : St) : List Operand → Option (List V × List (Loc × Option K))
  | [] => some ([], [])
  | x :: r => match ev σ x, evA σ r with
    | some (X, R), some (Xs, R') => some (X :: Xs, R ++ R')
    | _, _ => none
theorem evA_reads {σ : St} : ∀ {ps : List Operand} {Xs : List V} {R : List (Loc × Option K)}, evA σ ps = some (Xs, R) → Reads R σ
  | [], Xs, R, h => by cases h; exact Reads.nil
  | x :: r, Xs, R, h => by
    simp only [evA] at h
    split at h <;> try (cases h; done)
    rename_i X R1 Ys R2 h1 h2
    cases h
    exact (ev_reads h1).append (evA_reads h2)
theorem evA_sound {σ0 : St} {cx : Cx} {σ : St} {ι : Nat → Value} {S : Nat → Prop} {a : Act} {w : World} (hw : RW cx σ ι S a w) :
    ∀ {ps : List Operand} {Xs : List V} {R : List (Loc × Option K)}, evA σ0 ps = some (Xs, R) → Reads R σ → Xs.length = ps.length ∧ ∀ (i : Nat) X, Xs[i]? = some X → ∃ x, ps[i]? = some x ∧ VaR σ ι w S X (a.eval x)
  | [], Xs, R, h, _ => by cases h; exact ⟨rfl, by simp⟩
  | x :: r, Xs, R, h, hr => by
    simp only [evA] at h
    split at h <;> try (cases h; done)
    rename_i X R1 Ys R2 h1 h2
    cases h
    obtain ⟨q1, q2⟩ := evA_sound hw h2 hr.right
    refine ⟨by simp [q1], fun i X' hi => ?_⟩
    cases i with
    | zero => simp at hi; subst hi; exact ⟨x, rfl, ev_sound h1 hr.left hw⟩
    | succ i => simpa using q2 i X' (by simpa using hi)
def argSt : Nat → List V → St
  | _, [] => []
  | i, X :: r => (.t i, .v X) :: argSt (i + 1) r
theorem look_argSt : ∀ (i : Nat) (Xs : List V) (r : St) (s : Nat), i ≤ s → s < i + Xs.length → look (argSt i Xs ++ r) (.t s) = (Xs[s - i]?).map K.v
  | i, [], r, s, h1, h2 => by simp at h2; omega
  | i, X :: Xs, r, s, h1, h2 => by
    simp only [argSt, List.cons_append, look]
    by_cases e : i = s
    · subst e; simp
    · rw [if_neg (by simpa using e), look_argSt (i + 1) Xs r s (by omega) (by simp at h2; omega)]
      rw [show s - i = (s - (i + 1)) + 1 by omega, List.getElem?_cons_succ]
theorem look_argSt_o : ∀ (i : Nat) (Xs : List V) (r : St) (o : Nat), look (argSt i Xs ++ r) (.o o) = look r (.o o)
  | i, [], r, o => rfl
  | i, X :: Xs, r, o => by
    simp only [argSt, List.cons_append, look]
    rw [if_neg (by simp), look_argSt_o (i + 1) Xs r o]
theorem look_argSt_t : ∀ (i : Nat) (Xs : List V) (r : St) (s : Nat) (k : K), look (argSt i Xs ++ r) (.t s) = some k → (∃ X, Xs[s - i]? = some X ∧ k = .v X ∧ i ≤ s ∧ s < i + Xs.length) ∨ look r (.t s) = some k
  | i, [], r, s, k, h => .inr h
  | i, X :: Xs, r, s, k, h => by
    simp only [argSt, List.cons_append, look] at h
    split at h
    · rename_i e; cases e; cases h; exact .inl ⟨X, by simp, rfl, Nat.le_refl _, by simp⟩
    · rcases look_argSt_t (i + 1) Xs r s k h with ⟨Y, h1, h2, h3, h4⟩ | h
      · refine .inl ⟨Y, ?_, h2, by omega, by simp; omega⟩
        rw [show s - i = (s - (i + 1)) + 1 by omega, List.getElem?_cons_succ]; exact h1
      · exact .inr h
def objSt (l : List (Nat × K)) : St := l.map fun p => (.o p.1, p.2)

/-! what comes back, under the caller's names -/
def renC (rl : List (Nat × Nat)) : C → C
  | .own o n => .own (ren rl o) n
  | .pt o k => .pt (ren rl o) k
  | .pe o n i k => .pe (ren rl o) n i k
  | c => c
def renE (rl : List (Nat × Nat)) : E → E
  | .c x => .c (renC rl x)
  | .agg cs => .agg (cs.map (renC rl))
def renV (rl : List (Nat × Nat)) : V → V
  | .e x => .e (renE rl x)
  | .tup xs => .tup (xs.map (renE rl))
def renK (rl : List (Nat × Nat)) : K → K
  | .v x => .v (renV rl x)
  | .box ty cs => .box ty (cs.map (renC rl))
  | .row e es rows => .row e es rows
  | .dead => .dead
  | .cv s want b x => .cv s want b (renV rl x)
def outObjs (rl : List (Nat × Nat)) : St → List (Loc × K)
  | [] => []
  | (.o j, k) :: r => (.o (ren rl j), renK rl k) :: outObjs rl r
  | _ :: r => outObjs rl r
def goneIds (σin σout : St) : List Nat := (objIds σin).filter fun j => !memN j (objIds σout)
def newIds (σin σout : St) : List Nat := (objIds σout).filter fun j => !memN j (objIds σin)
def objW (rl : List (Nat × Nat)) (σin σout : St) : List (Loc × K) := outObjs rl σout ++ (goneIds σin σout).map fun j => (.o (ren rl j), .dead)
def dstW (rl : List (Nat × Nat)) (σout : St) : Option Tmp → List (Loc × K)
  | some d => [(.t d, match look σout (.t 0) with | some (.v X) => .v (renV rl X) | _ => .dead)]
  | none => []
def callR (Ra : List (Loc × Option K)) (robj : List (Nat × K)) (rl : List (Nat × Nat)) (σin σout : St) : List (Loc × Option K) :=
  Ra ++ robj.map (fun p => (.o p.1, some p.2)) ++ (newIds σin σout).map fun j => (.o (ren rl j), none)
def callW (rl : List (Nat × Nat)) (σin σout : St) (d : Option Tmp) : List (Loc × K) := objW rl σin σout ++ dstW rl σout d
/-- Nothing in the answer leads to memory that is only read. -/
def scalarD : D → Prop
  | .sl rows => rows = []
  | _ => True
def scalarC : C → Prop
  | .d x => scalarD x
  | .rp _ => False
  | _ => True
def scalarE : E → Prop
  | .c x => scalarC x
  | .agg cs => ∀ c ∈ cs, scalarC c
def scalarV : V → Prop
  | .e x => scalarE x
  | .tup xs => ∀ x ∈ xs, scalarE x
def scalarK : K → Prop
  | .v x => scalarV x
  | .box _ cs => ∀ c ∈ cs, scalarC c
  | .row _ _ rows => ∀ r ∈ rows, ∀ d ∈ r, scalarD d
  | .dead => True
  | .cv _ _ _ x => scalarV x
def scalarSt (σ : St) : Prop := ∀ p ∈ σ, scalarK p.2
theorem DR.scalar {w w' : World} {S S' : Nat → Prop} {x : D} {v : Value} (hx : scalarD x) (h : DR w S x v) : DR w' S' x v := by
  cases h with
  | i n => exact .i n
  | u n => exact .u n
  | b n => exact .b n
  | s n => exact .s n
  | x v hv => exact .x v hv
  | sl rows a cap es ad u hc hm he ha h1 hd =>
    have hx : rows = [] := hx
    subst hx
    exact .sl [] a cap es ad u hc hm (by simp) (by simp) (by simp) (by simp)

theorem wr_mem {L : List (Loc × K)} {l : Loc} {k : K} (hn : (L.map (·.1)).Nodup) (h : (l, k) ∈ L) : wr L l = some k := by
  induction L with
  | nil => cases h
  | cons p r ih =>
    simp only [List.map_cons, List.nodup_cons] at hn
    unfold wr
    rcases List.mem_cons.1 h with rfl | h
    · rw [wr_none hn.1, if_pos rfl]
    · rw [ih hn.2 h]
theorem nodupN_spec : ∀ {l : List Nat}, nodupN l = true → l.Nodup
  | [], _ => List.nodup_nil
  | x :: r, h => by
    simp only [nodupN, Bool.and_eq_true, Bool.not_eq_true'] at h
    exact List.nodup_cons.2 ⟨(fun hm => by rw [memN_iff.2 hm] at h; cases h.1), nodupN_spec h.2⟩
theorem outObjs_keys (rl : List (Nat × Nat)) : ∀ (σ : St), (outObjs rl σ).map (·.1) = (objIds σ).map fun j => Loc.o (ren rl j)
  | [] => rfl
  | (.o j, k) :: r => by simp [outObjs, objIds, outObjs_keys rl r]
  | (.t s, k) :: r => by simp [outObjs, objIds, outObjs_keys rl r]
theorem outObjs_mem {rl : List (Nat × Nat)} : ∀ {σ : St} {j : Nat} {k : K}, (Loc.o j, k) ∈ σ → (Loc.o (ren rl j), renK rl k) ∈ outObjs rl σ
  | (.o i, x) :: r, j, k, h => by
    rcases List.mem_cons.1 h with h | h
    · cases h; exact List.mem_cons_self ..
    · exact List.mem_cons_of_mem _ (outObjs_mem h)
  | (.t s, x) :: r, j, k, h => by
    rcases List.mem_cons.1 h with h | h
    · cases h
    · exact outObjs_mem (σ := r) h
def callOkB (rl : List (Nat × Nat)) (σin σout : St) : Bool := nodupN ((objIds σout ++ goneIds σin σout).map (ren rl)) && slotsLt 1 σout

section
variable {rl : List (Nat × Nat)} {σ σin σout : St}
theorem objW_keys : (objW rl σin σout).map (·.1) = ((objIds σout ++ goneIds σin σout).map (ren rl)).map Loc.o := by
  simp [objW, outObjs_keys, Function.comp_def]
theorem objW_nodup (h : callOkB rl σin σout = true) : ((objW rl σin σout).map (·.1)).Nodup := by
  simp only [callOkB, Bool.and_eq_true] at h
  rw [objW_keys]
  have := nodupN_spec h.1
  rw [List.nodup_iff_pairwise_ne] at this ⊢
  exact List.Pairwise.map _ (fun a b hab e => hab (by cases e; rfl)) this
theorem look_out (h : callOkB rl σin σout = true) {j : Nat} {k : K} (hj : look σout (.o j) = some k) : look (upds σ (objW rl σin σout)) (.o (ren rl j)) = some (renK rl k) := by
  rw [look_upds, wr_mem (objW_nodup h) (List.mem_append_left _ (outObjs_mem (look_mem hj)))]
theorem look_gone (h : callOkB rl σin σout = true) {j : Nat} (hj : j ∈ goneIds σin σout) : look (upds σ (objW rl σin σout)) (.o (ren rl j)) = some .dead := by
  rw [look_upds, wr_mem (objW_nodup h) (List.mem_append_right _ (List.mem_map.2 ⟨j, hj, rfl⟩))]
theorem look_other {o : Nat} (ho : ∀ j, j ∈ objIds σout ∨ j ∈ goneIds σin σout → ren rl j ≠ o) : look (upds σ (objW rl σin σout)) (.o o) = look σ (.o o) := by
  rw [look_upds, wr_none]
  rw [objW_keys]
  intro hm
  obtain ⟨x, hx, e⟩ := List.mem_map.1 hm
  cases e
  obtain ⟨j, hj, rfl⟩ := List.mem_map.1 hx
  exact ho j (List.mem_append.1 hj) rfl
theorem look_slot (s : Nat) : look (upds σ (objW rl σin σout)) (.t s) = look σ (.t s) := by
  rw [look_upds, wr_none]
  rw [objW_keys]
  intro hm
  obtain ⟨x, hx, e⟩ := List.mem_map.1 hm
  cases e
/-- The caller's pointers behind the call. -/
def backι (rl : List (Nat × Nat)) (σout : St) (ι' ι : Nat → Value) (o : Nat) : Value :=
  match (objIds σout).find? fun j => ren rl j == o with
  | some j => ι' j
  | none => ι o
theorem backι_out (h : callOkB rl σin σout = true) {ι' ι : Nat → Value} {j : Nat} (hj : j ∈ objIds σout) : backι rl σout ι' ι (ren rl j) = ι' j := by
  unfold backι
  cases hq : (objIds σout).find? fun i => ren rl i == ren rl j with
  | none =>
    have := List.find?_eq_none.1 hq j hj
    simp at this
  | some i =>
    have h1 := List.find?_some hq
    have h2 := List.mem_of_find?_eq_some hq
    simp only [callOkB, Bool.and_eq_true] at h
    have := nodupN_inj h.1 i (List.mem_append_left _ h2) j (List.mem_append_left _ hj) (by simpa using h1)
    rw [this]
theorem backι_other {ι' ι : Nat → Value} {o : Nat} (ho : ∀ j, j ∈ objIds σout → ren rl j ≠ o) : backι rl σout ι' ι o = ι o := by
  unfold backι
  cases hq : (objIds σout).find? fun i => ren rl i == o with
  | none => rfl
  | some i => exact absurd (by simpa using List.find?_some hq) (ho i (List.mem_of_find?_eq_some hq))
theorem CR_ren (h : callOkB rl σin σout = true) {ι' ι : Nat → Value} {S' S'' : Nat → Prop} {w' : World} {c : C} {v : Value} (hS : (∀ b, S' b → S'' b) ∨ scalarC c) (hc : CR σout ι' w' S' c v) :
    CR (upds σ (objW rl σin σout)) (backι rl σout ι' ι) w' S'' (renC rl c) v := by
  cases c with
  | d x =>
    rcases hS with hS | hS
    · exact DR.mono hS (fun _ _ => rfl) hc
    · exact DR.scalar hS hc
  | nil => exact hc
  | own o n =>
    obtain ⟨h1, h2⟩ := hc
    refine ⟨h1, ?_⟩
    rcases h2 with ⟨e, es, rows, hl, hn, hv⟩ | hl
    · exact .inl ⟨e, es, rows, look_out h hl, hn, fun hh => by rw [backι_out h (mem_objIds hl)]; exact hv hh⟩
    · exact .inr (look_out h hl)
  | pt o k =>
    obtain ⟨h1, h2⟩ := hc
    refine ⟨h1, ?_⟩
    rcases h2 with ⟨ty, cs, hl, b, hi, hv⟩ | hl
    · exact .inl ⟨ty, _, look_out h hl, b, by rw [backι_out h (mem_objIds hl)]; exact hi, hv⟩
    · exact .inr (look_out h hl)
  | pe o n i k =>
    obtain ⟨h1, h2⟩ := hc
    refine ⟨h1, ?_⟩
    rcases h2 with ⟨e, es, rows, hl, hn, hv⟩ | hl
    · exact .inl ⟨e, es, rows, look_out h hl, hn, fun hh => by rw [backι_out h (mem_objIds hl)]; exact hv hh⟩
    · exact .inr (look_out h hl)
  | rp cs =>
    rcases hS with hS | hS
    · obtain ⟨ad, hv, hk⟩ := hc
      exact ⟨ad, hv, fun k d hd => by
        obtain ⟨q1, u, q2, q3⟩ := hk k d hd
        exact ⟨hS _ q1, u, q2, DR.mono hS (fun _ _ => rfl) q3⟩⟩
    · exact hS.elim
theorem ER_ren (h : callOkB rl σin σout = true) {ι' ι : Nat → Value} {S' S'' : Nat → Prop} {w' : World} {c : E} {v : Value} (hS : (∀ b, S' b → S'' b) ∨ scalarE c) (hc : ER σout ι' w' S' c v) :
    ER (upds σ (objW rl σin σout)) (backι rl σout ι' ι) w' S'' (renE rl c) v := by
  cases c with
  | c x => exact CR_ren h hS hc
  | agg cs =>
    obtain ⟨vs, hv, hl, hk⟩ := hc
    refine ⟨vs, hv, by simp [hl], fun k c u hc' hu => ?_⟩
    rw [List.getElem?_map] at hc'
    cases hq : cs[k]? with
    | none => rw [hq] at hc'; cases hc'
    | some c0 =>
      rw [hq] at hc'; cases hc'
      exact CR_ren h (hS.imp id fun hs => hs c0 (List.mem_of_getElem? hq)) (hk k c0 u hq hu)
theorem VaR_ren (h : callOkB rl σin σout = true) {ι' ι : Nat → Value} {S' S'' : Nat → Prop} {w' : World} {c : V} {v : Value} (hS : (∀ b, S' b → S'' b) ∨ scalarV c) (hc : VaR σout ι' w' S' c v) :
    VaR (upds σ (objW rl σin σout)) (backι rl σout ι' ι) w' S'' (renV rl c) v := by
  cases c with
  | e x => exact ER_ren h hS hc
  | tup cs =>
    obtain ⟨vs, hv, hl, hk⟩ := hc
    refine ⟨vs, hv, by simp [hl], fun k c u hc' hu => ?_⟩
    rw [List.getElem?_map] at hc'
    cases hq : cs[k]? with
    | none => rw [hq] at hc'; cases hc'
    | some c0 =>
      rw [hq] at hc'; cases hc'
      exact ER_ren h (hS.imp id fun hs => hs c0 (List.mem_of_getElem? hq)) (hk k c0 u hq hu)
theorem OR_ren (h : callOkB rl σin σout = true) {ι' ι : Nat → Value} {S' S'' : Nat → Prop} {w' : World} {k : K} {p : Value} (hS : (∀ b, S' b → S'' b) ∨ scalarK k) (hc : OR σout ι' w' S' p k) :
    OR (upds σ (objW rl σin σout)) (backι rl σout ι' ι) w' S'' p (renK rl k) := by
  cases k with
  | v x => trivial
  | dead => trivial
  | cv _ _ _ _ => trivial
  | box ty cs =>
    obtain ⟨b, vs, hp, hh, hsz, hk⟩ := hc
    refine ⟨b, vs, hp, hh, by simp [hsz], fun k c u hc' hu => ?_⟩
    rw [List.getElem?_map] at hc'
    cases hq : cs[k]? with
    | none => rw [hq] at hc'; cases hc'
    | some c0 =>
      rw [hq] at hc'; cases hc'
      exact CR_ren h (hS.imp id fun hs => hs c0 (List.mem_of_getElem? hq)) (hk k c0 u hq hu)
  | row e es rows =>
    rcases hc with hn | ⟨g, off, cap, cur, fz, hp, hh, hfz, h1, h2, h3, h4⟩
    · exact .inl hn
    · refine .inr ⟨g, off, cap, cur, fz, hp, hh, hfz, h1, h2, h3, fun i r hr => ⟨(h4 i r hr).1, fun k d hd => ?_⟩⟩
      obtain ⟨u, hu, hdr⟩ := (h4 i r hr).2 k d hd
      refine ⟨u, hu, ?_⟩
      rcases hS with hS | hS
      · exact DR.mono hS (fun _ _ => rfl) hdr
      · exact DR.scalar (hS r (List.mem_of_getElem? hr) d (List.mem_of_getElem? hd)) hdr
end
end Go.Ab
