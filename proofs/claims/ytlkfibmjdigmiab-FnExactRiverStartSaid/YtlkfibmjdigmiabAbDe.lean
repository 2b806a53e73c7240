/- Ab, part De: contracts whose answer is only told about; calls of such functions, in the text's order. -/
import Derived.Test.YtlkfibmjdigmiabAbZ
namespace Go.Ab
open Go Go.RowKit
set_option linter.unusedVariables false
set_option linter.unusedSimpArgs false

/-- As OpT; what is written is one of Ws. -/
def OpE (P : Program) (o : Oper) (R : List (Loc × Option K)) (Ws : List (Loc × K) → Prop) : Prop :=
  ∀ (cx : Cx) (σ : St) (ι : Nat → Value) (S : Nat → Prop) (a : Act) (w : World), Reads R σ → RW cx σ ι S a w → (∀ d, o.dst = some d → d < cx.N) →
    ∀ (next : Act → World → Prop) (Q : Exit → Act → World → Prop), (∀ W, Ws W → ∀ ι' S' a' w', RW cx (upds σ W) ι' S' a' w' → next a' w') → o.wp P a w next Q
theorem OpT.toE {P : Program} {o : Oper} {R : List (Loc × Option K)} {W : List (Loc × K)} (h : OpT P o R W) : OpE P o R (· = W) :=
  fun cx σ ι S a w hr hw hd next Q hn => h cx σ ι S a w hr hw hd next Q fun ι' S' a' w' hw' => hn W rfl ι' S' a' w' hw'
/-- THE CONTRACT OF A FUNCTION of whose answer only Qo is told. -/
def SpecE (P : Program) (f : FuncId) (n : Nat) (σin : St) (Qo : St → Prop) : Prop :=
  CallOk P f ∧ ∀ (ι ν : Nat → Value) (S : Nat → Prop) (w : World) (args : Array Value), VR σin ι ν S w → args.size = n → (∀ i, i < n → args[i]? = some (ν i)) →
    Calls P f args w fun e w' => ∃ v ι' S' σout, Qo σout ∧ e = .returned v ∧ Post σin ι S w σout ι' S' w' v
theorem calls_mono {P : Program} {f : FuncId} {args : Array Value} {w : World} {Q Q' : Ending → World → Prop} (hq : ∀ e w', Q e w' → Q' e w') (h : Calls P f args w Q) : Calls P f args w Q' := by
  intro cs
  obtain ⟨e, w', fr, h1, h2⟩ := h cs
  exact ⟨e, w', fr, hq e w' h1, h2⟩
theorem Spec.toE {P : Program} {f : FuncId} {n : Nat} {σin σout : St} {Qo : St → Prop} (h : Spec P f n σin σout) (hq : Qo σout) : SpecE P f n σin Qo := by
  refine ⟨h.1, fun ι ν S w args h1 h2 h3 => calls_mono (fun e w' => ?_) (h.2 ι ν S w args h1 h2 h3)⟩
  rintro ⟨v, ι', S', rfl, hp⟩
  exact ⟨v, ι', S', σout, hq, rfl, hp⟩
def bodyQE (T : Tab) (io : List Nat) (rs : List ResultVar) (Qo : St → Prop) : Ex → St → Prop
  | .norm, s => ∃ σout, Qo σout ∧ RetOk T io rs σout s
  | .ret, s => ∃ σout, Qo σout ∧ RetOk T io rs σout s
  | .exit _, _ => False
theorem specE_of_body {P : Program} {T : Tab} (hT : TabOk P T) {f : FuncId} {fn : Func} {c : Code} {n : Nat} {σin : St} {Qo : St → Prop} (hf : P.funcs[f]? = some fn) (hb : fn.body = some c) (hname : (fn.name == "runtime.NumGoroutine") = false) (hn : n ≤ fn.ntmps) (hfit : fits fn.ntmps c = true)
    (hsl : slotsLt n σin = true) (h : SW P (objIds σin) c (bodyQE T (objIds σin) fn.results.toList Qo) σin) : SpecE P f n σin Qo := by
  refine ⟨⟨fn, hf, by rw [hb]; rfl, hname⟩, fun ι ν S w args hvr hsz hargs => ?_⟩
  have hnu : ∀ s, s < n → (args ++ Array.replicate (fn.ntmps - args.size) undef).getD s undef = ν s := by
    intro s hs
    rw [Array.getD_eq_getD_getElem?, Array.getElem?_append_left (by omega), hargs s hs]; rfl
  let cx : Cx := { N := fn.ntmps, w0 := w, S0 := S, k0 := fun o => look σin (.o o), ι0 := ι }
  have hM : ∀ b, cx.M b ↔ ∃ o, Mut σin ι o b := fun b => ⟨fun ⟨o, k, q1, q2, q3⟩ => ⟨o, ⟨k, q1, q2⟩, q3⟩, fun ⟨o, ⟨k, q1, q2⟩, q3⟩ => ⟨o, k, q1, q2, q3⟩⟩
  have hw : RW cx σin ι S { tmps := args ++ Array.replicate (fn.ntmps - args.size) undef, defers := [] } w := by
    refine ⟨⟨fun s x hx => ?_, hvr.objs, hvr.mutS, hvr.inj, hvr.sz⟩, ?_, rfl, Fr.refl _ _, fun o b ⟨⟨k, q1, q2⟩, q3⟩ => .inr ⟨k, q1, q2, q3⟩, fun b hb => .inl hb, fun o k hk => ⟨k, hk, Evo.refl' _ _⟩⟩
    · have hs := slotsLt_spec hsl s _ hx
      have : tmpsOf { tmps := args ++ Array.replicate (fn.ntmps - args.size) undef, defers := [] } s = ν s := hnu s hs
      rw [this]; exact hvr.slots s x hx
    · show (args ++ Array.replicate (fn.ntmps - args.size) undef).size = fn.ntmps
      simp; omega
  refine calls_of_wp hf hb (wp_mono (h cx ι S _ w (fun o k hk => mem_objIds hk) hw hfit) fun e a' w' hq => ?_)
  have fin : (∃ σ' ι' S', (∃ σout, Qo σout ∧ RetOk T (objIds σin) fn.results.toList σout σ') ∧ RW cx σ' ι' S' a' w') → a'.defers = [] ∧ ∃ v, (results fn a'.tmps).run P w' = .ok v w' ∧ ∃ v_1 ι' S' σout, Qo σout ∧ Ending.returned v = .returned v_1 ∧ Post σin ι S w σout ι' S' w' v_1 := by
    rintro ⟨σ', ι', S', ⟨σout, hQo, X, rl, bor, hX, hm, hio⟩, hw'⟩
    obtain ⟨v, hr, hv⟩ := retV_sound hT hw' hX
    refine ⟨hw'.defers, v, hr, v, fun j => ι' (ren rl j), giveS σ' ι' bor S', σout, hQo, rfl, ?_⟩
    have hlo : ∀ o, look ((Loc.t 0, K.v X) :: objPart σ') (.o o) = look σ' (.o o) := fun o => by simp only [look]; rw [if_neg (by simp), look_objPart]
    have st : Step σ' ι' S' w' ((Loc.t 0, K.v X) :: objPart σ') ι' S' w' := ⟨fun _ h => h, fun _ _ => rfl, fun o k hk => ⟨k, by rw [hlo]; exact hk, Evo.refl' _ _⟩⟩
    have hmut : ∀ o b, Mut ((Loc.t 0, K.v X) :: objPart σ') ι' o b ↔ Mut σ' ι' o b := fun o b => by unfold Mut; rw [hlo]
    have hlt : ∀ (r : St) s k, look (objPart r) (.t s) = some k → False := by
      intro r s k
      induction r with
      | nil => intro h; cases h
      | cons p r ih =>
        obtain ⟨l, k'⟩ := p
        cases l with
        | t n => exact ih
        | o n => simp only [objPart, look]; rw [if_neg (by simp)]; exact ih
    have hvr0 : VR ((Loc.t 0, K.v X) :: objPart σ') ι' (fun _ => v) S' w' := by
      refine ⟨fun s x hx => ?_, fun o k hk => OR.step st (fun _ _ => rfl) (hw'.vr.objs o k (by rw [← hlo]; exact hk)), fun o b q => hw'.vr.mutS o b ((hmut o b).1 q), fun o o' b q q' => hw'.vr.inj o o' b ((hmut o b).1 q) ((hmut o' b).1 q'), hw'.vr.sz⟩
      simp only [look] at hx
      split at hx
      · cases hx; exact VaR.step st hv
      · exact (hlt σ' s _ hx).elim
    have hvr1 := VR_match hm (fun _ _ h => h) hvr0
    simp only [retIo, Bool.and_eq_true, List.all_eq_true, Bool.or_eq_true, Bool.not_eq_true'] at hio
    obtain ⟨⟨hio1, hio2⟩, hio3⟩ := hio
    have hgive : ∀ b, giveS ((Loc.t 0, K.v X) :: objPart σ') ι' bor S' b → giveS σ' ι' bor S' b := fun b hb => hb.imp id fun ⟨o, ho, q⟩ => ⟨o, ho, (hmut o b).1 q⟩
    refine ⟨⟨hw'.fr.os, hw'.fr.tape, hw'.fr.output, hw'.fr.size, fun b hb hnm => hw'.fr.block b hb (fun h => hnm ((hM b).1 h))⟩, ?_, fun b hb => ?_, fun j b hmu => ?_, fun o k k' hk hk' => ?_⟩
    · have e : giveS ((Loc.t 0, K.v X) :: objPart σ') ι' bor S' = giveS σ' ι' bor S' := by
        funext b; apply propext; exact ⟨hgive b, fun hb => hb.imp id fun ⟨o, ho, q⟩ => ⟨o, ho, (hmut o b).2 q⟩⟩
      rw [← e]; exact hvr1
    · rcases hb with hb | ⟨o, ho, hmo⟩
      · exact hw'.rd b hb
      · rcases hw'.own o b hmo with h1 | ⟨k, h1, h2, h3⟩
        · exact .inr h1
        · exact absurd (mem_objIds h1) (apartN_spec hio3 o ho)
    · rcases hw'.own _ b ((hmut _ b).1 (hm.mut (fun _ _ h => h) hmu)) with h1 | ⟨k, h1, h2, h3⟩
      · exact .inl h1
      · obtain ⟨⟨k', hk', _⟩, _⟩ := hmu
        rcases hio1 j (mem_objIds hk') with h4 | h4
        · rw [memN_iff.2 (mem_objIds h1)] at h4; cases h4
        · have h4 := Nat.eq_of_beq_eq_true h4
          rw [h4] at h1 h3
          exact .inr ⟨⟨k, h1, h2⟩, h3⟩
    · have hren : ren rl o = o := by
        rcases hio2 o (mem_objIds hk) with h4 | h4
        · rw [memN_iff.2 (mem_objIds hk')] at h4; cases h4
        · exact Nat.eq_of_beq_eq_true h4
      obtain ⟨k1, hk1, hev⟩ := hw'.io o k hk
      have hev : Evo (ι o) (ι' o) k k1 := hev
      obtain ⟨k2, hk2, hmk⟩ := hm.ids o k' hk'
      rw [hren, hlo, hk1] at hk2; cases hk2
      rw [hren]
      cases k <;> cases k1 <;> cases k' <;> simp_all [Evo, mK]
  cases e with
  | normal =>
    obtain ⟨σ', ι', S', h1, h2⟩ := hq
    exact fin ⟨σ', ι', S', h1, h2⟩
  | ret =>
    obtain ⟨σ', ι', S', h1, h2⟩ := hq
    exact fin ⟨σ', ι', S', h1, h2⟩
  | exit id => obtain ⟨σ', ι', S', h1, h2⟩ := hq; exact h1.elim
  | goto l => exact hq.elim
  | panic ch => exact hq.elim
  | outgrown => exact hq.elim

section
variable {P : Program} {f : FuncId} {n : Nat} {σin : St} {Qo : St → Prop} {rl : List (Nat × Nat)} {bor : List Nat} {σ0 : St} {Xs : List V} {Ra : List (Loc × Option K)} {robj : List (Nat × K)} {news : List Nat}
def callRE (Ra : List (Loc × Option K)) (robj : List (Nat × K)) (rl : List (Nat × Nat)) (news : List Nat) : List (Loc × Option K) :=
  Ra ++ robj.map (fun p => (.o p.1, some p.2)) ++ news.map fun j => (.o (ren rl j), none)
/-- A CALL of a function of whose answer only Qo is told. -/
theorem opt_callE (hs : SpecE P f n σin Qo) {o : Oper} {c : Call} (ho : o.op = .call c) (hc : c.callee = .value (.func f)) (hx : evA σ0 c.args.toList = some (Xs, Ra)) (hn : Xs.length = n)
    (hm : Match (argSt 0 Xs ++ objSt robj) σin rl bor) (hq : ∀ σout, Qo σout → callOkB rl σin σout = true ∧ (bor = [] ∨ scalarSt σout) ∧ ∀ j ∈ newIds σin σout, j ∈ news) :
    OpE P o (callRE Ra robj rl news) fun W => ∃ σout, Qo σout ∧ W = callW rl σin σout o.dst := by
  intro cx σ ι S a w hr hw hd next Q hnext
  obtain ⟨⟨fn, hf, hbody, hname⟩, hcall⟩ := hs
  obtain ⟨hlen, hargs⟩ := evA_sound hw hx hr.left.left
  let args : Array Value := c.args.map a.eval
  let ν : Nat → Value := fun i => (args[i]?).getD undef
  have hsz : args.size = n := by show (c.args.map a.eval).size = n; rw [Array.size_map, ← hn, hlen, Array.length_toList]
  have hargν : ∀ i, i < n → args[i]? = some (ν i) := fun i hi => by
    show args[i]? = some ((args[i]?).getD undef)
    rw [Array.getElem?_eq_getElem (by omega)]; rfl
  have hνr : ∀ s X, Xs[s]? = some X → VaR σ ι w S X (ν s) := fun s X hX => by
    obtain ⟨x, h1, h2⟩ := hargs s X hX
    have : ν s = a.eval x := by
      show ((c.args.map a.eval)[s]?).getD undef = a.eval x
      rw [Array.getElem?_toList] at h1
      rw [Array.getElem?_map, h1]; rfl
    rw [this]; exact h2
  have hlo : ∀ o, look (argSt 0 Xs ++ objPart σ) (.o o) = look σ (.o o) := fun o => by rw [look_argSt_o, look_objPart]
  have st : Step σ ι S w (argSt 0 Xs ++ objPart σ) ι S w := ⟨fun _ h => h, fun _ _ => rfl, fun o k hk => ⟨k, by rw [hlo]; exact hk, Evo.refl' _ _⟩⟩
  have hmut : ∀ o b, Mut (argSt 0 Xs ++ objPart σ) ι o b ↔ Mut σ ι o b := fun o b => by unfold Mut; rw [hlo]
  have hvr0 : VR (argSt 0 Xs ++ objPart σ) ι ν S w := by
    refine ⟨fun s x hx => ?_, fun o k hk => OR.step st (fun _ _ => rfl) (hw.vr.objs o k (by rw [← hlo]; exact hk)), fun o b q => hw.vr.mutS o b ((hmut o b).1 q), fun o o' b q q' => hw.vr.inj o o' b ((hmut o b).1 q) ((hmut o' b).1 q'), hw.vr.sz⟩
    obtain ⟨X, h1, h2⟩ := look_argSt_part hx
    cases h2
    exact VaR.step st (hνr s _ h1)
  have hsub : ∀ l k, look (argSt 0 Xs ++ objSt robj) l = some k → look (argSt 0 Xs ++ objPart σ) l = some k := fun l k h => by
    cases l with
    | o o =>
      rw [hlo]
      rw [look_argSt_o] at h
      exact hr (.o o, some k) (List.mem_append_left _ (List.mem_append_right _ (List.mem_map.2 ⟨(o, k), look_objSt h, rfl⟩)))
    | t s =>
      obtain ⟨X, h1, rfl⟩ := look_argSt_obj h
      have hs := (List.getElem?_eq_some_iff.1 h1).1
      rw [look_argSt 0 Xs _ s (Nat.zero_le _) (by omega)]; simp [h1]
  have hvr1 := VR_match hm hsub hvr0
  have hcl := hcall _ ν _ w args hvr1 hsz hargν
  obtain ⟨callee, cargs, argTypes⟩ := c
  dsimp only at hc
  subst hc
  have hbd : ∃ cd, fn.body = some cd := by
    cases hq : fn.body with
    | none => rw [hq] at hbody; cases hbody
    | some cd => exact ⟨cd, rfl⟩
  obtain ⟨cd, hbd⟩ := hbd
  have hrun : (execOp a.eval o).run P w = .ok (.enter f args) w := by
    have h1 := MuLone.run_callFunc_enter (P := P) hf hname hbd args w
    have e : (execOp a.eval o).run P w = (callFunc f (args ++ #[])).run P w := by
      simp [execOp, ho, resolve, invoke, Deferred.ofValue, args, Act.eval]
    rw [e, Array.append_empty]; exact h1
  unfold Oper.wp
  rw [hrun, Oper.upon_enter]
  intro cs
  obtain ⟨e, w', fr, ⟨v, ι', S', σout, hQo, rfl, hpost⟩, hcomes⟩ := hcl cs
  refine ⟨_, w', fr, ?_, hcomes⟩
  dsimp only
  obtain ⟨hk, hb, hnw⟩ := hq σout hQo
  have hr' : Reads (callR Ra robj rl σin σout) σ := by
    intro p hp
    rcases List.mem_append.1 hp with hp | hp
    · exact hr p (List.mem_append_left _ hp)
    · obtain ⟨j, hj, rfl⟩ := List.mem_map.1 hp
      exact hr (.o (ren rl j), none) (List.mem_append_right _ (List.mem_map.2 ⟨j, hnw j hj, rfl⟩))
  have hrw := call_rw (Ra := Ra) hm hk hb hr' hw hνr hpost
  have hSK : ∀ {l : Loc} {k : K}, look σout l = some k → (∀ b, S' b → (S b ∨ (bor = [] ∧ S' b))) ∨ scalarK k := fun {l k} h => by
    rcases hb with e | hs
    · exact .inl fun b hb => .inr ⟨e, hb⟩
    · exact .inr (hs (l, k) (look_mem h))
  have hnext := hnext _ ⟨σout, hQo, rfl⟩
  cases hdst : o.dst with
  | none =>
    refine hnext (backι rl σout ι' ι) (fun b => S b ∨ (bor = [] ∧ S' b)) _ w' ?_
    rw [hdst]
    simp only [callW, dstW, List.append_nil]
    exact hrw
  | some d =>
    have hd' := hd d hdst
    cases hq : look σout (.t 0) with
    | none =>
      refine hnext (backι rl σout ι' ι) (fun b => S b ∨ (bor = [] ∧ S' b)) _ w' ?_
      rw [hdst]
      simp only [callW, dstW, upds_append, hq, upds]
      exact hrw.putDead hd' v
    | some k =>
      cases k with
      | v X =>
        refine hnext (backι rl σout ι' ι) (fun b => S b ∨ (bor = [] ∧ S' b)) _ w' ?_
        rw [hdst]
        simp only [callW, dstW, upds_append, hq, upds]
        exact hrw.put hd' (VaR_ren hk (hSK hq) (hpost.vr.slots 0 (.v X) hq))
      | _ =>
        refine hnext (backι rl σout ι' ι) (fun b => S b ∨ (bor = [] ∧ S' b)) _ w' ?_
        rw [hdst]
        simp only [callW, dstW, upds_append, hq, upds]
        exact hrw.putDead hd' v
end

/-- A frame may be told of by less, and under other names. -/
theorem RW.weaken {cx : Cx} {io : List Nat} {σ : St} {ι : Nat → Value} {S : Nat → Prop} {a : Act} {w : World} (σ' : St) (rl : List (Nat × Nat)) (bor : List Nat) (hm : Match σ σ' rl bor) (hk : keepsIo io σ' rl bor = true) (hio : ∀ o k, cx.k0 o = some k → o ∈ io) (hw : RW cx σ ι S a w) : RW cx σ' (fun j => ι (ren rl j)) (giveS σ ι bor S) a w := by
  have hkk : ∀ o k, cx.k0 o = some k → ren rl o = o ∧ o ∈ objIds σ' ∧ o ∉ bor := fun o k ho => by
    have := List.all_eq_true.1 hk o (hio o k ho)
    simp only [Bool.and_eq_true, Bool.not_eq_true'] at this
    refine ⟨Nat.eq_of_beq_eq_true this.1.1, memN_iff.1 this.1.2, fun hb => ?_⟩
    rw [memN_iff.2 hb] at this; cases this.2
  have hvr := VR_match hm (fun _ _ h => h) hw.vr
  refine ⟨hvr, hw.size, hw.defers, hw.fr, fun j b hmu => ?_, fun b hb => ?_, fun o k ho => ?_⟩
  · rcases hw.own _ b (hm.mut (fun _ _ h => h) hmu) with h1 | ⟨k, h1, h2, h3⟩
    · exact .inl h1
    · obtain ⟨q1, q2, q3⟩ := hkk _ k h1
      obtain ⟨⟨k', hk', _⟩, _⟩ := hmu
      have : ren rl j = j := hm.inj q2 (mem_objIds hk') q1
      exact .inr ⟨k, by rw [← this]; exact h1, h2, by rw [← this]; exact h3⟩
  · rcases hb with hb | ⟨o, ho, hmo⟩
    · exact hw.rd b hb
    · rcases hw.own o b hmo with h1 | ⟨k, h1, h2, h3⟩
      · exact .inr h1
      · exact absurd ho (hkk o k h1).2.2
  · obtain ⟨q1, q2, q3⟩ := hkk o k ho
    obtain ⟨k1, hk1, hev⟩ := hw.io o k ho
    obtain ⟨p, hp⟩ := look_of_objIds q2
    obtain ⟨k2, hk2, hmk⟩ := hm.ids o p hp
    rw [q1] at hk2
    rw [hk1] at hk2; cases hk2
    refine ⟨p, hp, ?_⟩
    rw [q1]
    cases k <;> cases k1 <;> cases p <;> simp_all [Evo, mK]

/-- An object of this call's own is never written again: its rows become data in the slot s. -/
theorem RW.freeze {cx : Cx} {σ : St} {ι : Nat → Value} {S : Nat → Prop} {a : Act} {w : World} (hw : RW cx σ ι S a w) {s o n : Nat} {e : TypeId} {es : Nat} {rows : List (List D)} (hs : look σ (.t s) = some (.v (.e (.c (.own o n))))) (ho : look σ (.o o) = some (.row e es rows)) (hn : rows.length = n) (hk : cx.k0 o = none) :
    RW cx (upd (upd σ (.o o) .dead) (.t s) (.v (Dv (.sl rows)))) ι (fun b => S b ∨ blk (ι o) = some b) a w := by
  have hlo : ∀ o', look (upd (upd σ (.o o) .dead) (.t s) (.v (Dv (.sl rows)))) (.o o') = if o' = o then some .dead else look σ (.o o') := fun o' => by
    rw [look_upd_ne _ _ (by simp), look_upd]
    by_cases h : o' = o
    · subst h; simp
    · rw [if_neg (by simpa using fun e => h e.symm), if_neg h]
  have hmut : ∀ o' b, Mut (upd (upd σ (.o o) .dead) (.t s) (.v (Dv (.sl rows)))) ι o' b → o' ≠ o ∧ Mut σ ι o' b := fun o' b ⟨⟨k, hk, hl⟩, hb⟩ => by
    rw [hlo] at hk
    by_cases h : o' = o
    · rw [if_pos h] at hk; cases hk; exact hl.elim
    · rw [if_neg h] at hk; exact ⟨h, ⟨k, hk, hl⟩, hb⟩
  have hmo : ∀ b, blk (ι o) = some b → Mut σ ι o b := fun b hb => ⟨⟨_, ho, trivial⟩, hb⟩
  have st : Step σ ι S w (upd (upd σ (.o o) .dead) (.t s) (.v (Dv (.sl rows)))) ι (fun b => S b ∨ blk (ι o) = some b) w := by
    refine ⟨fun b h => .inl h, fun _ _ => rfl, fun o' k hk => ?_⟩
    by_cases h : o' = o
    · exact ⟨.dead, by rw [hlo, if_pos h], by cases k <;> simp [Evo]⟩
    · exact ⟨k, by rw [hlo, if_neg h]; exact hk, Evo.refl' _ _⟩
  have hrow := hw.vr.objs o _ ho
  have hv : tmpsOf a s = ι o := by
    obtain ⟨_, h2⟩ := (show CR σ ι w S (.own o n) (tmpsOf a s) from hw.vr.slots s _ hs)
    rcases h2 with ⟨e2, es2, rows2, hl, _, hv⟩ | hd
    · rw [ho] at hl; cases hl; exact hv hn
    · rw [ho] at hd; cases hd
  refine ⟨⟨fun t k hkt => ?_, fun o' k hk => ?_, fun o' b hm hS => ?_, fun o1 o2 b h1 h2 => ?_, fun b hb => ?_⟩, hw.size, hw.defers, hw.fr, fun o' b hm => hw.own o' b (hmut o' b hm).2, fun b hb => ?_, fun o' k hk' => ?_⟩
  · rw [look_upd] at hkt
    by_cases e2 : s = t
    · subst e2
      rw [if_pos rfl] at hkt; cases hkt
      show DR w _ (.sl rows) (tmpsOf a s)
      rw [hv]
      rcases hrow with ⟨h1, h2⟩ | ⟨g, off, cap, cur, fz, h1, hh, hfz, h2, h3, h4, h5⟩
      · rw [h1, h2]
        exact DR.sl [] none 0 es ⟨0, 0, none⟩ (fun _ _ => undef) (Nat.le_refl _) (by decide) (by simp) (by simp) (by simp) (by simp)
      · rw [h1]
        let u : Nat → Nat → Value := fun i k => (cur[off + i * es + k]?).getD undef
        refine DR.sl rows (some ⟨g, off, none⟩) cap es ⟨g, off, none⟩ u h2 h3 (fun r hr => ?_) (fun _ => rfl) (fun i r k d hi hd => ?_) (fun i r k d hi hd => ?_)
        · obtain ⟨i, hi⟩ := List.mem_iff_getElem?.1 hr
          exact (h5 i r hi).1
        · obtain ⟨v, hv1, _⟩ := (h5 i r hi).2 k d hd
          refine ⟨.inr rfl, ?_⟩
          rw [add_mk, cell_of_row w g _ cur e fz hh, ← Nat.add_assoc]
          show cur[off + i * es + k]? = some ((cur[off + i * es + k]?).getD undef)
          rw [hv1]; rfl
        · obtain ⟨v, hv1, hv2⟩ := (h5 i r hi).2 k d hd
          have : u i k = v := by show (cur[off + i * es + k]?).getD undef = v; rw [hv1]; rfl
          rw [this]
          exact DR.mono (fun b h => .inl h) (fun _ _ => rfl) hv2
    · rw [if_neg (by simpa using e2), look_upd_ne _ _ (by simp)] at hkt
      exact SlotR.step st (hw.vr.slots t k hkt)
  · rw [hlo] at hk
    by_cases h : o' = o
    · rw [if_pos h] at hk; cases hk; trivial
    · rw [if_neg h] at hk
      exact OR.step st (fun _ _ => rfl) (hw.vr.objs o' k hk)
  · obtain ⟨hne, hm⟩ := hmut o' b hm
    rcases hS with hS | hS
    · exact hw.vr.mutS o' b hm hS
    · exact hne (hw.vr.inj o' o b hm (hmo b hS))
  · exact hw.vr.inj o1 o2 b (hmut o1 b h1).2 (hmut o2 b h2).2
  · rcases hb with hb | hb
    · exact hw.vr.sz b hb
    · exact OR.lt hrow trivial hb
  · rcases hb with hb | hb
    · exact hw.rd b hb
    · rcases hw.own o b (hmo b hb) with h | ⟨k, h1, _⟩
      · exact .inr h
      · rw [hk] at h1; cases h1
  · have hne : o' ≠ o := fun e => by subst e; rw [hk] at hk'; cases hk'
    obtain ⟨k2, q1, q2⟩ := hw.io o' k hk'
    exact ⟨k2, by rw [hlo, if_neg hne]; exact q1, q2⟩

/-! regions -/
def Wkn (io : List Nat) (σ σ1 : St) : Prop := ∀ (cx : Cx) (ι : Nat → Value) (S : Nat → Prop) (a : Act) (w : World), (∀ o k, cx.k0 o = some k → o ∈ io) → RW cx σ ι S a w → ∃ ι' S', RW cx σ1 ι' S' a w
theorem Wkn.rfl {io : List Nat} {σ : St} : Wkn io σ σ := fun cx ι S a w _ h => ⟨ι, S, h⟩
theorem Wkn.trans {io : List Nat} {σ σ1 σ2 : St} (h : Wkn io σ σ1) (k : Wkn io σ1 σ2) : Wkn io σ σ2 := fun cx ι S a w hio hw => by
  obtain ⟨ι1, S1, h1⟩ := h cx ι S a w hio hw
  exact k cx ι1 S1 a w hio h1
theorem Wkn.weak {io : List Nat} {σ σ1 : St} (rl : List (Nat × Nat)) (bor : List Nat) (hm : mL σ σ1 rl bor σ1) (hm2 : mapOk σ1 rl bor = true) (hk : keepsIo io σ1 rl bor = true) : Wkn io σ σ1 := fun cx ι S a w hio hw => ⟨_, _, RW.weaken σ1 rl bor ⟨hm, hm2⟩ hk hio hw⟩
theorem Wkn.frz {io : List Nat} {σ : St} {s o n : Nat} {e : TypeId} {es : Nat} {rows : List (List D)} (hs : look σ (.t s) = some (.v (.e (.c (.own o n))))) (ho : look σ (.o o) = some (.row e es rows)) (hn : rows.length = n) (hk : memN o io = false) : Wkn io σ (upd (upd σ (.o o) .dead) (.t s) (.v (Dv (.sl rows)))) := fun cx ι S a w hio hw =>
  ⟨_, _, hw.freeze hs ho hn (by
    cases hq : cx.k0 o with
    | none => rfl
    | some k => rw [memN_iff.2 (hio o k hq)] at hk; cases hk)⟩
theorem SW.frz {P : Program} {io : List Nat} {Q : Ex → St → Prop} {σ : St} {c : Code} (s o : Nat) {n : Nat} {e : TypeId} {es : Nat} {rows : List (List D)} (hs : look σ (.t s) = some (.v (.e (.c (.own o n))))) (ho : look σ (.o o) = some (.row e es rows)) (hn : rows.length = n) (hk : memN o io = false)
    (h : updK σ (.o o) .dead fun σ' => updK σ' (.t s) (.v (Dv (.sl rows))) fun σ2 => SW P io c Q σ2) : SW P io c Q σ := fun cx ι S a w hio hw hf => by
  rw [updK_iff, updK_iff] at h
  obtain ⟨ι1, S1, h1⟩ := Wkn.frz hs ho hn hk cx ι S a w hio hw
  exact h cx ι1 S1 a w hio h1 hf
def stepE (P : Program) (T : Tab) (io : List Nat) (o : Oper) (σ : St) (k : St → Prop) : Prop :=
  match astep3 T o σ with
  | some (p, _, W) => p ∧ updsK σ W k
  | none => ∃ σ1, Wkn io σ σ1 ∧ ∃ R Ws, OpE P o R Ws ∧ Reads R σ1 ∧ ∀ W, Ws W → updsK σ1 W k
theorem stepE_sound {P : Program} {T : Tab} (hT : TabOk P T) {io : List Nat} {o : Oper} {σ : St} {k : St → Prop} (h : stepE P T io o σ k) : ∃ σ1, Wkn io σ σ1 ∧ ∃ R Ws, OpE P o R Ws ∧ Reads R σ1 ∧ ∀ W, Ws W → updsK σ1 W k := by
  unfold stepE at h
  split at h
  · rename_i p R W he
    obtain ⟨h1, h2⟩ := good_astep3 hT o σ p R W he h.1
    exact ⟨σ, Wkn.rfl, R, _, h1.toE, h2, fun W' e => by subst e; exact h.2⟩
  · exact h
def goE (P : Program) (T : Tab) (io : List Nat) (ops : List Oper) : List Oper → St → (St → Prop) → Prop
  | [], σ, k => k σ
  | o :: os, σ, k => match o.guard with
    | none => stepE P T io o σ fun σ' => goE P T io ops os σ' k
    | some (j, want) => match (ops[j]?).bind (·.dst), o.dst with
      | some s, some d => match gOf want (look σ (.t s)) with
        | some g => condStep P T o σ s want g d fun R X => updK σ (.t d) (.cv s want g X) fun σ' => goE P T io ops os σ' k
        | none => False
      | _, _ => False
theorem goE_sound {P : Program} {T : Tab} (hT : TabOk P T) {io : List Nat} {ops : Array Oper} {cx : Cx} (hio : ∀ o k, cx.k0 o = some k → o ∈ io) {Q : Exit → Act → World → Prop} {k : St → Prop} (hk : ∀ σ ι S a w, k σ → RW cx σ ι S a w → Q .normal a w) : ∀ (l : List Oper) (σ : St) (ι : Nat → Value) (S : Nat → Prop) (a : Act) (w : World), goE P T io ops.toList l σ k → RW cx σ ι S a w → (∀ o ∈ l, ∀ d, o.dst = some d → d < cx.N) → wpList P ops Q l a w
  | [], σ, ι, S, a, w, h, hw, hf => hk σ ι S a w h hw
  | o :: os, σ, ι, S, a, w, h, hw, hf => by
    have hfo := hf o (List.mem_cons_self ..)
    have hfs : ∀ o ∈ os, ∀ d, o.dst = some d → d < cx.N := fun o ho => hf o (List.mem_cons_of_mem _ ho)
    unfold wpList
    simp only [goE] at h
    split at h
    · rename_i hg
      obtain ⟨σ1, hwk, R, Ws, h1, h2, h3⟩ := stepE_sound hT h
      rw [if_pos (by simp [Region.wanted, hg])]
      obtain ⟨ι1, S1, hw1⟩ := hwk cx ι S a w hio hw
      refine .inl (h1 cx σ1 ι1 S1 a w h2 hw1 hfo _ Q fun W hW ι' S' a' w' hw' => ?_)
      have h3 := h3 W hW
      rw [updsK_iff] at h3
      exact goE_sound hT hio hk os _ ι' S' a' w' h3 hw' hfs
    · rename_i j want hg
      split at h <;> try (exact h.elim)
      rename_i s d hs hd
      split at h <;> try (exact h.elim)
      rename_i g hl
      have hs' : (ops[j]?).bind (·.dst) = some s := by simpa using hs
      obtain ⟨R, X, h1, h2⟩ := condStep_sound hT hg hs' hd hl h
      rw [updK_iff] at h2
      exact h1 cx σ ι S a w reads_actual hw hfo _ Q fun ι' S' a' w' hw' => goE_sound hT hio hk os _ ι' S' a' w' (by simpa [upds] using h2) hw' hfs
section
variable {P : Program} {io : List Nat} {Q : Ex → St → Prop} {σ : St}
/-- A region in the text's order, with calls of whose answers something is told. -/
theorem SW.regE {T : Tab} (hT : TabOk P T) (ks : List Nat) {id : Nat} {ops : Array Oper} (h : goE P T io ops.toList ops.toList σ fun σ' => keepK ks σ' (Q .norm)) : SW P io (.region id ops false) Q σ := by
  intro cx ι S a w hio hw hf
  have hfit : ∀ o ∈ ops.toList, ∀ d, o.dst = some d → d < cx.N := fun o ho => fit_of (by simpa [fits] using hf) ho
  refine wp_region_list (goE_sound hT hio (fun σ' ι' S' a' w' h4 hw' => ?_) ops.toList σ ι S a w h hw hfit)
  rw [keepK_iff] at h4
  exact ⟨_, ι', S', h4, hw'.keep ks⟩
end
/-! calls as steps -/
section
variable {P : Program} {T : Tab} {io : List Nat} {f : FuncId} {n : Nat} {σin : St} {o : Oper} {c : Call} {d : Nat} {σ σ1 : St} {Xs : List V} {Ra : List (Loc × Option K)}
theorem ee_call {Qo : St → Prop} {rl : List (Nat × Nat)} {bor news : List Nat} {robj : List (Nat × K)} {k : St → Prop} (hs : SpecE P f n σin Qo) (ho : o.op = .call c) (hc : c.callee = .value (.func f)) (hx : evA σ c.args.toList = some (Xs, Ra)) (hn : Xs.length = n)
    (hm : Match (argSt 0 Xs ++ objSt robj) σin rl bor) (hq : ∀ σout, Qo σout → callOkB rl σin σout = true ∧ (bor = [] ∨ scalarSt σout) ∧ ∀ j ∈ newIds σin σout, j ∈ news) (h1 : ∀ p ∈ robj, look σ (.o p.1) = some p.2) (h2 : ∀ j ∈ news, look σ (.o (ren rl j)) = none)
    (h : ∀ σout, Qo σout → updsK σ (callW rl σin σout o.dst) k) : ∃ σ1, Wkn io σ σ1 ∧ ∃ R Ws, OpE P o R Ws ∧ Reads R σ1 ∧ ∀ W, Ws W → updsK σ1 W k := by
  refine ⟨σ, Wkn.rfl, _, _, opt_callE hs ho hc hx hn hm hq, fun p hp => ?_, fun W ⟨σout, hQ, e⟩ => e ▸ h σout hQ⟩
  rcases List.mem_append.1 hp with hp | hp
  · rcases List.mem_append.1 hp with hp | hp
    · exact evA_reads hx p hp
    · obtain ⟨q, hq, rfl⟩ := List.mem_map.1 hp
      exact h1 q hq
  · obtain ⟨j, hj, rfl⟩ := List.mem_map.1 hp
    exact h2 j hj
theorem ee_frz {k : St → Prop} (s o' : Nat) {m : Nat} {e : TypeId} {es : Nat} {rows : List (List D)} (hs : look σ (.t s) = some (.v (.e (.c (.own o' m))))) (ho : look σ (.o o') = some (.row e es rows)) (hn : rows.length = m) (hk : memN o' io = false)
    (h : updK σ (.o o') .dead fun σ' => updK σ' (.t s) (.v (Dv (.sl rows))) fun σ2 => ∃ σ1, Wkn io σ2 σ1 ∧ ∃ R Ws, OpE P o R Ws ∧ Reads R σ1 ∧ ∀ W, Ws W → updsK σ1 W k) : ∃ σ1, Wkn io σ σ1 ∧ ∃ R Ws, OpE P o R Ws ∧ Reads R σ1 ∧ ∀ W, Ws W → updsK σ1 W k := by
  rw [updK_iff, updK_iff] at h
  obtain ⟨σ1, h1, h2⟩ := h
  exact ⟨σ1, (Wkn.frz hs ho hn hk).trans h1, h2⟩
theorem es_same {k : St → Prop} (h : ∃ R W, OpT P o R W ∧ Reads R σ ∧ updsK σ W k) : ∃ σ1, Wkn io σ σ1 ∧ ∃ R Ws, OpE P o R Ws ∧ Reads R σ1 ∧ ∀ W, Ws W → updsK σ1 W k := by
  obtain ⟨R, W, h1, h2, h3⟩ := h
  exact ⟨σ, Wkn.rfl, R, _, h1.toE, h2, fun W' e => by subst e; exact h3⟩
end
theorem retQE {T : Tab} {io : List Nat} {rs : List ResultVar} {Qo : St → Prop} {s : St} (σout : St) (hq : Qo σout) (h : RetOk T io rs σout s) : ∃ σout, Qo σout ∧ RetOk T io rs σout s := ⟨σout, hq, h⟩
end Go.Ab
