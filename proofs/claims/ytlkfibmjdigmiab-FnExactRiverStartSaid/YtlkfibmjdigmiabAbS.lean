/- Ab, part S: what a function does, as one abstract state turned to another; out of its body. -/
import Derived.Test.YtlkfibmjdigmiabAbR
namespace Go.Ab
open Go Go.RowKit
set_option linter.unusedVariables false
set_option linter.unusedSimpArgs false

def CallOk (P : Program) (f : FuncId) : Prop := ∃ fn, P.funcs[f]? = some fn ∧ fn.body.isNone = false ∧ (fn.name == "runtime.NumGoroutine") = false
structure Post (σin : St) (ι : Nat → Value) (S : Nat → Prop) (w : World) (σout : St) (ι' : Nat → Value) (S' : Nat → Prop) (w' : World) (v : Value) : Prop where
  fr : Fr (fun b => ∃ o, Mut σin ι o b) w w'
  vr : VR σout ι' (fun _ => v) S' w'
  rd : ∀ b, S' b → S b ∨ w.heap.size ≤ b
  own : ∀ o b, Mut σout ι' o b → w.heap.size ≤ b ∨ Mut σin ι o b
  io : ∀ o k k', look σin (.o o) = some k → look σout (.o o) = some k' → Evo (ι o) (ι' o) k k'
/-- THE CONTRACT OF A FUNCTION: called where σin holds (its arguments in the slots 0, 1, ..), it returns, and σout holds (its answer in slot 0). -/
def Spec (P : Program) (f : FuncId) (n : Nat) (σin σout : St) : Prop :=
  CallOk P f ∧ ∀ (ι ν : Nat → Value) (S : Nat → Prop) (w : World) (args : Array Value), VR σin ι ν S w → args.size = n → (∀ i, i < n → args[i]? = some (ν i)) →
    Calls P f args w fun e w' => ∃ v ι' S', e = .returned v ∧ Post σin ι S w σout ι' S' w' v

/-! what a function returns -/
def retE (T : Tab) (s : St) : ResultVar → Option E
  | .tmp t => match look s (.t t) with
    | some (.v (.e x)) => some x
    | _ => none
  | .cell p ty => match look s (.t p), T ty with
    | some (.v (.e (.c (.pt ob 0)))), some ti => match look s (.o ob) with
      | some (.box _ cs) => if ti.kind.agg && (cs.length == ti.size) then some (.agg cs) else none
      | _ => none
    | _, _ => none
def retEs (T : Tab) (s : St) : List ResultVar → Option (List E)
  | [] => some []
  | r :: rs => match retE T s r, retEs T s rs with
    | some x, some xs => some (x :: xs)
    | _, _ => none
def retV (T : Tab) (s : St) (rs : List ResultVar) : Option V :=
  match retEs T s rs with
  | some [x] => some (.e x)
  | some xs => some (.tup xs)
  | none => none
def objPart : St → St
  | [] => []
  | (.o n, k) :: r => (.o n, k) :: objPart r
  | _ :: r => objPart r
theorem look_objPart (s : St) (o : Nat) : look (objPart s) (.o o) = look s (.o o) := by
  induction s with
  | nil => rfl
  | cons p r ih =>
    obtain ⟨l, k⟩ := p
    cases l with
    | t n => simp only [objPart, look]; rw [ih, if_neg (by simp)]
    | o n => simp only [objPart, look]; rw [ih]
theorem retE_sound {P : Program} {T : Tab} (hT : TabOk P T) {cx : Cx} {s : St} {ι : Nat → Value} {S : Nat → Prop} {a : Act} {w : World} (hw : RW cx s ι S a w) {r : ResultVar} {x : E} (h : retE T s r = some x) :
    ∃ v, (match r with | .tmp t => pure (a.tmps.getD t undef) | .cell p ty => do loadVar ty (← asAddr (a.tmps.getD p undef)) : Sem Value).run P w = .ok v w ∧ ER s ι w S x v := by
  cases r with
  | tmp t =>
    simp only [retE] at h
    split at h <;> try (cases h; done)
    rename_i x' hl
    cases h
    exact ⟨_, rfl, hw.vr.slots t _ hl⟩
  | cell p ty =>
    simp only [retE] at h
    split at h <;> try (cases h; done)
    rename_i ob ti hl hti
    split at h <;> try (cases h; done)
    rename_i ty' cs hbox
    split at h <;> try (cases h; done)
    rename_i hc
    cases h
    simp only [Bool.and_eq_true, beq_iff_eq] at hc
    obtain ⟨hag, hlen⟩ := hc
    obtain ⟨_, h2⟩ := (show CR s ι w S (.pt ob 0) (tmpsOf a p) from hw.vr.slots p _ hl)
    rcases h2 with ⟨ty2, cs2, hl2, b, hi, hv⟩ | hd
    · rw [hbox] at hl2; cases hl2
      obtain ⟨b', vs, hi', hh, hsz, hcr⟩ := hw.vr.objs ob _ hbox
      rw [hi] at hi'; cases hi'
      have hv' : a.tmps.getD p undef = .pointer (some ⟨b, 0, none⟩) := hv
      have hload := run_loadVar_agg (w := w) (hT ty ti hti) hag ⟨b, 0, none⟩ vs.toList (by rw [Array.length_toList, hsz, hlen]) (fun j v hj => by
        rw [add_mk, Nat.zero_add, cell_of_row w b j vs _ (0, 0) hh]; simpa using hj)
      refine ⟨.agg vs.toList.toArray, ?_, vs.toList, rfl, by rw [Array.length_toList, hsz], fun k c u h1 h2 => hcr k c u h1 (by simpa using h2)⟩
      simp only [hv', Sem.run_bind, asAddr, Sem.run_pure, Result.andThen_ok]
      exact hload
    · rw [hbox] at hd; cases hd
theorem retEs_sound {P : Program} {T : Tab} (hT : TabOk P T) {cx : Cx} {s : St} {ι : Nat → Value} {S : Nat → Prop} {a : Act} {w : World} (hw : RW cx s ι S a w) : ∀ {rs : List ResultVar} {xs : List E}, retEs T s rs = some xs →
    ∃ vs : List Value, (rs.mapM fun r => (match r with | .tmp t => pure (a.tmps.getD t undef) | .cell p ty => do loadVar ty (← asAddr (a.tmps.getD p undef)) : Sem Value)).run P w = .ok vs w ∧ vs.length = xs.length ∧ ∀ (k : Nat) x u, xs[k]? = some x → vs[k]? = some u → ER s ι w S x u
  | [], xs, h => by cases h; exact ⟨[], rfl, rfl, by simp⟩
  | r :: rs, xs, h => by
    simp only [retEs] at h
    split at h <;> try (cases h; done)
    rename_i x ys h1 h2
    cases h
    obtain ⟨v, hv, hx⟩ := retE_sound hT hw h1
    obtain ⟨vs, hvs, hl, hk⟩ := retEs_sound hT hw h2
    refine ⟨v :: vs, ?_, by simp [hl], fun k y u hy hu => ?_⟩
    · rw [List.mapM_cons, Sem.run_bind, hv, Result.andThen_ok, Sem.run_bind, hvs]; rfl
    · cases k with
      | zero => simp at hy hu; subst hy; subst hu; exact hx
      | succ k => exact hk k y u (by simpa using hy) (by simpa using hu)
theorem retV_sound {P : Program} {T : Tab} (hT : TabOk P T) {cx : Cx} {s : St} {ι : Nat → Value} {S : Nat → Prop} {a : Act} {w : World} (hw : RW cx s ι S a w) {fn : Func} {X : V} (h : retV T s fn.results.toList = some X) :
    ∃ v, (results fn a.tmps).run P w = .ok v w ∧ VaR s ι w S X v := by
  have key : ∀ {xs : List E}, retEs T s fn.results.toList = some xs → ∃ vs : List Value, (results fn a.tmps).run P w = .ok (if h : vs.toArray.size = 1 then vs.toArray[0] else .tuple vs.toArray) w ∧ vs.length = xs.length ∧ ∀ (k : Nat) x u, xs[k]? = some x → vs[k]? = some u → ER s ι w S x u := by
    intro xs hx
    obtain ⟨vs, hvs, hl, hk⟩ := retEs_sound hT hw hx
    refine ⟨vs, ?_, hl, hk⟩
    unfold results
    have e : fn.results = fn.results.toList.toArray := by simp
    rw [e, List.mapM_toArray, Sem.run_bind, Sem.run_map]
    exact (congrArg (fun r : Result (List Value) => (r.andThen fun a w' => Result.ok a.toArray w').andThen fun a w' => Sem.run P (pure (if h : a.size = 1 then a[0] else Value.tuple a)) w') hvs).trans rfl
  unfold retV at h
  split at h
  · rename_i x hx
    cases h
    obtain ⟨vs, hr, hl, hk⟩ := key hx
    match vs, hl with
    | [v], _ => exact ⟨v, hr, hk 0 x v rfl rfl⟩
  · rename_i xs hne hx
    cases h
    obtain ⟨vs, hr, hl, hk⟩ := key hx
    have h1 : ¬ vs.toArray.size = 1 := by
      intro h1
      have h1 : xs.length = 1 := by rw [← hl]; simpa using h1
      match xs, h1 with
      | [x], _ => exact hne x rfl
    rw [dif_neg h1] at hr
    exact ⟨_, hr, vs, rfl, hl, hk⟩
  · cases h

def slotsLt (n : Nat) : St → Bool
  | [] => true
  | (.t s, _) :: r => decide (s < n) && slotsLt n r
  | _ :: r => slotsLt n r
theorem slotsLt_spec {n : Nat} : ∀ {σ : St}, slotsLt n σ = true → ∀ s k, look σ (.t s) = some k → s < n
  | [], _, s, k, h => by cases h
  | (.t t, x) :: r, h, s, k, hl => by
    simp only [slotsLt, Bool.and_eq_true, decide_eq_true_eq] at h
    simp only [look] at hl
    split at hl
    · rename_i e; cases e; exact h.1
    · exact slotsLt_spec h.2 s k hl
  | (.o t, x) :: r, h, s, k, hl => by
    simp only [look] at hl
    rw [if_neg (by simp)] at hl
    exact slotsLt_spec (σ := r) h s k hl
/-- The names of the objects that came in stay theirs; none of them is given away. -/
def retIo (io : List Nat) (σout : St) (rl : List (Nat × Nat)) (bor : List Nat) : Bool :=
  (objIds σout).all (fun j => !memN (ren rl j) io || Nat.beq (ren rl j) j) && io.all (fun o => !memN o (objIds σout) || Nat.beq (ren rl o) o) && apartN bor io
def RetOk (T : Tab) (io : List Nat) (rs : List ResultVar) (σout : St) (s : St) : Prop :=
  ∃ X rl bor, retV T s rs = some X ∧ Match ((.t 0, .v X) :: objPart s) σout rl bor ∧ retIo io σout rl bor = true
def bodyQ (T : Tab) (io : List Nat) (rs : List ResultVar) (σout : St) : Ex → St → Prop
  | .norm, s => RetOk T io rs σout s
  | .ret, s => RetOk T io rs σout s
  | .exit _, _ => False
theorem spec_of_body {P : Program} {T : Tab} (hT : TabOk P T) {f : FuncId} {fn : Func} {c : Code} {n : Nat} {σin σout : St} (hf : P.funcs[f]? = some fn) (hb : fn.body = some c) (hname : (fn.name == "runtime.NumGoroutine") = false) (hn : n ≤ fn.ntmps) (hfit : fits fn.ntmps c = true)
    (hsl : slotsLt n σin = true) (h : SW P (objIds σin) c (bodyQ T (objIds σin) fn.results.toList σout) σin) : Spec P f n σin σout := by
  refine ⟨⟨fn, hf, by rw [hb]; rfl, hname⟩, fun ι ν S w args hvr hsz hargs => ?_⟩
  have hnu : ∀ s, s < n → (args ++ Array.replicate (fn.ntmps - args.size) undef).getD s undef = ν s := by
    intro s hs
    rw [Array.getD_eq_getD_getElem?, Array.getElem?_append_left (by omega), hargs s hs]; rfl
  let cx : Cx := { N := fn.ntmps, w0 := w, S0 := S, k0 := fun o => look σin (.o o), ι0 := ι }
  have hM : ∀ b, cx.M b ↔ ∃ o, Mut σin ι o b := fun b => ⟨fun ⟨o, k, q1, q2, q3⟩ => ⟨o, ⟨k, q1, q2⟩, q3⟩, fun ⟨o, ⟨k, q1, q2⟩, q3⟩ => ⟨o, k, q1, q2, q3⟩⟩
  have hw : RW cx σin ι S { tmps := args ++ Array.replicate (fn.ntmps - args.size) undef, defers := [] } w := by
    refine ⟨⟨fun s x hx => ?_, hvr.objs, hvr.mutS, hvr.inj, hvr.sz⟩, ?_, rfl, Fr.refl _ _, fun o b ⟨⟨k, q1, q2⟩, q3⟩ => .inr ⟨k, q1, q2, q3⟩, fun b hb => .inl hb, fun o k hk => ⟨k, hk, Evo.refl' _ _⟩⟩
    · have hs := slotsLt_spec hsl s _ hx
      have : tmpsOf { tmps := args ++ Array.replicate (fn.ntmps - args.size) undef, defers := [] } s = ν s := hnu s hs
      rw [this]; exact hvr.slots s x hx
    · show (args ++ Array.replicate (fn.ntmps - args.size) undef).size = fn.ntmps
      simp; omega
  refine calls_of_wp hf hb (wp_mono (h cx ι S _ w (fun o k hk => mem_objIds hk) hw hfit) fun e a' w' hq => ?_)
  have fin : (∃ σ' ι' S', RetOk T (objIds σin) fn.results.toList σout σ' ∧ RW cx σ' ι' S' a' w') → a'.defers = [] ∧ ∃ v, (results fn a'.tmps).run P w' = .ok v w' ∧ ∃ v_1 ι' S', Ending.returned v = .returned v_1 ∧ Post σin ι S w σout ι' S' w' v_1 := by
    rintro ⟨σ', ι', S', ⟨X, rl, bor, hX, hm, hio⟩, hw'⟩
    obtain ⟨v, hr, hv⟩ := retV_sound hT hw' hX
    refine ⟨hw'.defers, v, hr, v, fun j => ι' (ren rl j), giveS σ' ι' bor S', rfl, ?_⟩
    have hlo : ∀ o, look ((Loc.t 0, K.v X) :: objPart σ') (.o o) = look σ' (.o o) := fun o => by simp only [look]; rw [if_neg (by simp), look_objPart]
    have st : Step σ' ι' S' w' ((Loc.t 0, K.v X) :: objPart σ') ι' S' w' := ⟨fun _ h => h, fun _ _ => rfl, fun o k hk => ⟨k, by rw [hlo]; exact hk, Evo.refl' _ _⟩⟩
    have hmut : ∀ o b, Mut ((Loc.t 0, K.v X) :: objPart σ') ι' o b ↔ Mut σ' ι' o b := fun o b => by unfold Mut; rw [hlo]
    have hlt : ∀ (r : St) s k, look (objPart r) (.t s) = some k → False := by
      intro r s k
      induction r with
      | nil => intro h; cases h
      | cons p r ih =>
        obtain ⟨l, k'⟩ := p
        cases l with
        | t n => exact ih
        | o n => simp only [objPart, look]; rw [if_neg (by simp)]; exact ih
    have hvr0 : VR ((Loc.t 0, K.v X) :: objPart σ') ι' (fun _ => v) S' w' := by
      refine ⟨fun s x hx => ?_, fun o k hk => OR.step st (fun _ _ => rfl) (hw'.vr.objs o k (by rw [← hlo]; exact hk)), fun o b q => hw'.vr.mutS o b ((hmut o b).1 q), fun o o' b q q' => hw'.vr.inj o o' b ((hmut o b).1 q) ((hmut o' b).1 q'), hw'.vr.sz⟩
      simp only [look] at hx
      split at hx
      · cases hx; exact VaR.step st hv
      · exact (hlt σ' s _ hx).elim
    have hvr1 := VR_match hm (fun _ _ h => h) hvr0
    simp only [retIo, Bool.and_eq_true, List.all_eq_true, Bool.or_eq_true, Bool.not_eq_true'] at hio
    obtain ⟨⟨hio1, hio2⟩, hio3⟩ := hio
    have hgive : ∀ b, giveS ((Loc.t 0, K.v X) :: objPart σ') ι' bor S' b → giveS σ' ι' bor S' b := fun b hb => hb.imp id fun ⟨o, ho, q⟩ => ⟨o, ho, (hmut o b).1 q⟩
    refine ⟨⟨hw'.fr.os, hw'.fr.tape, hw'.fr.output, hw'.fr.size, fun b hb hnm => hw'.fr.block b hb (fun h => hnm ((hM b).1 h))⟩, ?_, fun b hb => ?_, fun j b hmu => ?_, fun o k k' hk hk' => ?_⟩
    · have e : giveS ((Loc.t 0, K.v X) :: objPart σ') ι' bor S' = giveS σ' ι' bor S' := by
        funext b; apply propext; exact ⟨hgive b, fun hb => hb.imp id fun ⟨o, ho, q⟩ => ⟨o, ho, (hmut o b).2 q⟩⟩
      rw [← e]; exact hvr1
    · rcases hb with hb | ⟨o, ho, hmo⟩
      · exact hw'.rd b hb
      · rcases hw'.own o b hmo with h1 | ⟨k, h1, h2, h3⟩
        · exact .inr h1
        · exact absurd (mem_objIds h1) (apartN_spec hio3 o ho)
    · rcases hw'.own _ b ((hmut _ b).1 (hm.mut (fun _ _ h => h) hmu)) with h1 | ⟨k, h1, h2, h3⟩
      · exact .inl h1
      · obtain ⟨⟨k', hk', _⟩, _⟩ := hmu
        rcases hio1 j (mem_objIds hk') with h4 | h4
        · rw [memN_iff.2 (mem_objIds h1)] at h4; cases h4
        · have h4 := Nat.eq_of_beq_eq_true h4
          rw [h4] at h1 h3
          exact .inr ⟨⟨k, h1, h2⟩, h3⟩
    · have hren : ren rl o = o := by
        rcases hio2 o (mem_objIds hk) with h4 | h4
        · rw [memN_iff.2 (mem_objIds hk')] at h4; cases h4
        · exact Nat.eq_of_beq_eq_true h4
      obtain ⟨k1, hk1, hev⟩ := hw'.io o k hk
      have hev : Evo (ι o) (ι' o) k k1 := hev
      obtain ⟨k2, hk2, hmk⟩ := hm.ids o k' hk'
      rw [hren, hlo, hk1] at hk2; cases hk2
      rw [hren]
      cases k <;> cases k1 <;> cases k' <;> simp_all [Evo, mK]
  cases e with
  | normal =>
    obtain ⟨σ', ι', S', h1, h2⟩ := hq
    exact fin ⟨σ', ι', S', h1, h2⟩
  | ret =>
    obtain ⟨σ', ι', S', h1, h2⟩ := hq
    exact fin ⟨σ', ι', S', h1, h2⟩
  | exit id => obtain ⟨σ', ι', S', h1, h2⟩ := hq; exact h1.elim
  | goto l => exact hq.elim
  | panic ch => exact hq.elim
  | outgrown => exact hq.elim
end Go.Ab
