/- Ab, part U: a call as an operation. -/
import Derived.Test.YtlkfibmjdigmiabAbT
import Derived.Conc.MuLone
namespace Go.Ab
open Go Go.RowKit
set_option linter.unusedVariables false
set_option linter.unusedSimpArgs false

theorem look_objSt {l : List (Nat × K)} {o : Nat} {k : K} (h : look (objSt l) (.o o) = some k) : (o, k) ∈ l := by
  induction l with
  | nil => cases h
  | cons p r ih =>
    obtain ⟨i, x⟩ := p
    simp only [objSt, List.map_cons, look] at h
    split at h
    · rename_i e; cases e; cases h; exact List.mem_cons_self ..
    · exact List.mem_cons_of_mem _ (ih h)
theorem look_objSt_t {l : List (Nat × K)} {s : Nat} : look (objSt l) (.t s) = none := by
  induction l with
  | nil => rfl
  | cons p r ih => simp only [objSt, List.map_cons, look]; rw [if_neg (by simp)]; exact ih
theorem look_argSt_obj {Xs : List V} {r : List (Nat × K)} {s : Nat} {k : K} (h : look (argSt 0 Xs ++ objSt r) (.t s) = some k) : ∃ X, Xs[s]? = some X ∧ k = .v X := by
  rcases look_argSt_t 0 Xs (objSt r) s k h with ⟨X, h1, h2, _, _⟩ | h
  · exact ⟨X, by simpa using h1, h2⟩
  · rw [look_objSt_t] at h; cases h
theorem look_argSt_part {Xs : List V} {σ : St} {s : Nat} {k : K} (h : look (argSt 0 Xs ++ objPart σ) (.t s) = some k) : ∃ X, Xs[s]? = some X ∧ k = .v X := by
  have hlt : ∀ (r : St), look (objPart r) (.t s) = none := by
    intro r
    induction r with
    | nil => rfl
    | cons p r ih =>
      obtain ⟨l, k'⟩ := p
      cases l with
      | t n => exact ih
      | o n => simp only [objPart, look]; rw [if_neg (by simp)]; exact ih
  rcases look_argSt_t 0 Xs (objPart σ) s k h with ⟨X, h1, h2, _, _⟩ | h
  · exact ⟨X, by simpa using h1, h2⟩
  · rw [hlt] at h; cases h
theorem renK_live {rl : List (Nat × Nat)} {k : K} : (renK rl k).live ↔ k.live := by cases k <;> simp [renK, K.live]
theorem mem_filter_not {j : Nat} {l l' : List Nat} : j ∈ (l.filter fun i => !memN i l') ↔ j ∈ l ∧ j ∉ l' := by
  rw [List.mem_filter]
  refine and_congr_right fun _ => ?_
  rw [Bool.not_eq_true', ← Bool.not_eq_true, memN_iff]

section
variable {P : Program} {f : FuncId} {n : Nat} {σin σout : St} {rl : List (Nat × Nat)} {bor : List Nat} {σ0 : St} {Xs : List V} {Ra : List (Loc × Option K)} {robj : List (Nat × K)}
theorem call_rw (hm : Match (argSt 0 Xs ++ objSt robj) σin rl bor) (hk : callOkB rl σin σout = true) (hb : bor = [] ∨ scalarSt σout)
    {cx : Cx} {σ : St} {ι ν : Nat → Value} {S : Nat → Prop} {a : Act} {w : World} (hr : Reads (callR Ra robj rl σin σout) σ) (hw : RW cx σ ι S a w)
    (hνr : ∀ s X, Xs[s]? = some X → VaR σ ι w S X (ν s))
    {ι' : Nat → Value} {S' : Nat → Prop} {w' : World} {v : Value} (hp : Post σin (fun j => ι (ren rl j)) (giveS (argSt 0 Xs ++ objPart σ) ι bor S) w σout ι' S' w' v) :
    RW cx (upds σ (objW rl σin σout)) (backι rl σout ι' ι) (fun b => S b ∨ (bor = [] ∧ S' b)) a w' := by
  have hlo : ∀ o, look (argSt 0 Xs ++ objPart σ) (.o o) = look σ (.o o) := fun o => by rw [look_argSt_o, look_objPart]
  have hmut : ∀ o b, Mut (argSt 0 Xs ++ objPart σ) ι o b ↔ Mut σ ι o b := fun o b => by unfold Mut; rw [hlo]
  have hobj : ∀ o k, look (argSt 0 Xs ++ objSt robj) (.o o) = some k → look σ (.o o) = some k := fun o k h => by
    rw [look_argSt_o] at h
    have hmem := look_objSt h
    exact hr (.o o, some k) (List.mem_append_left _ (List.mem_append_right _ (List.mem_map.2 ⟨(o, k), hmem, rfl⟩)))
  have hsub : ∀ l k, look (argSt 0 Xs ++ objSt robj) l = some k → look (argSt 0 Xs ++ objPart σ) l = some k := fun l k h => by
    cases l with
    | o o => rw [hlo]; exact hobj o k h
    | t s =>
      obtain ⟨X, h1, rfl⟩ := look_argSt_obj h
      have hs := (List.getElem?_eq_some_iff.1 h1).1
      rw [look_argSt 0 Xs _ s (Nat.zero_le _) (by omega)]; simp [h1]
  have hin : ∀ j k', look σin (.o j) = some k' → ∃ k, look σ (.o (ren rl j)) = some k ∧ mK (argSt 0 Xs ++ objSt robj) σin rl bor k k' := fun j k' h => by
    obtain ⟨k, h1, h2⟩ := hm.ids j k' h
    exact ⟨k, hobj _ _ h1, h2⟩
  have hmin : ∀ j b, Mut σin (fun j => ι (ren rl j)) j b → Mut σ ι (ren rl j) b := fun j b h => (hmut _ _).1 (hm.mut hsub h)
  have hmlt : ∀ o b, Mut σ ι o b → b < w.heap.size := fun o b ⟨⟨k0, hk, hl⟩, hb⟩ => OR.lt (hw.vr.objs o k0 hk) hl hb
  have hnew : ∀ j, j ∈ objIds σout → j ∈ objIds σin ∨ look σ (.o (ren rl j)) = none := fun j hj => by
    by_cases h : j ∈ objIds σin
    · exact .inl h
    · exact .inr (hr (.o (ren rl j), none) (List.mem_append_right _ (List.mem_map.2 ⟨j, mem_filter_not.2 ⟨hj, h⟩, rfl⟩)))
  have hall : ∀ j, j ∈ objIds σin → j ∈ objIds σout ∨ j ∈ goneIds σin σout := fun j hj => by
    by_cases h : j ∈ objIds σout
    · exact .inl h
    · exact .inr (mem_filter_not.2 ⟨hj, h⟩)
  have hgive : bor = [] → ∀ b, giveS (argSt 0 Xs ++ objPart σ) ι bor S b → S b := fun e b h => by
    rcases h with h | ⟨o, ho, _⟩
    · exact h
    · rw [e] at ho; cases ho
  -- what an object is afterwards
  have cases_ : ∀ o, (∃ j, j ∈ objIds σout ∧ ren rl j = o ∧ backι rl σout ι' ι o = ι' j ∧ ∃ k, look σout (.o j) = some k ∧ look (upds σ (objW rl σin σout)) (.o o) = some (renK rl k)) ∨
      look (upds σ (objW rl σin σout)) (.o o) = some .dead ∨
      ((∀ j, j ∈ objIds σout ∨ j ∈ goneIds σin σout → ren rl j ≠ o) ∧ look (upds σ (objW rl σin σout)) (.o o) = look σ (.o o) ∧ backι rl σout ι' ι o = ι o) := fun o => by
    by_cases h1 : ∃ j, j ∈ objIds σout ∧ ren rl j = o
    · obtain ⟨j, hj, rfl⟩ := h1
      obtain ⟨k, hkk⟩ := look_of_objIds hj
      exact .inl ⟨j, hj, rfl, backι_out hk hj, k, hkk, look_out hk hkk⟩
    · by_cases h2 : ∃ j, j ∈ goneIds σin σout ∧ ren rl j = o
      · obtain ⟨j, hj, rfl⟩ := h2
        exact .inr (.inl (look_gone hk hj))
      · have hne : ∀ j, j ∈ objIds σout ∨ j ∈ goneIds σin σout → ren rl j ≠ o := fun j hj e => by
          rcases hj with hj | hj
          · exact h1 ⟨j, hj, e⟩
          · exact h2 ⟨j, hj, e⟩
        exact .inr (.inr ⟨hne, look_other hne, backι_other fun j hj => hne j (.inl hj)⟩)
  have keepB : ∀ b, b < w.heap.size → (∀ j, ¬ Mut σin (fun j => ι (ren rl j)) j b) → w'.heap[b]? = w.heap[b]? := fun b hb hn => hp.fr.block b hb fun ⟨j, hj⟩ => hn j hj
  have st : Step σ ι S w (upds σ (objW rl σin σout)) (backι rl σout ι' ι) (fun b => S b ∨ (bor = [] ∧ S' b)) w' := by
    refine ⟨fun b h => .inl h, fun b h => keepB b (hw.vr.sz b h) fun j hj => hw.vr.mutS _ b (hmin j b hj) h, fun o k hko => ?_⟩
    rcases cases_ o with ⟨j, hj, e, hι, kout, h1, h2⟩ | h2 | ⟨hne, h2, hι⟩
    · refine ⟨_, h2, ?_⟩
      rw [hι]
      subst e
      rcases hnew j hj with hji | hab
      · obtain ⟨kin, hkin⟩ := look_of_objIds hji
        obtain ⟨k1, hk1, hmk⟩ := hin j kin hkin
        rw [hko] at hk1; cases hk1
        have hev := hp.io j kin kout hkin h1
        cases k <;> cases kin <;> simp only [mK] at hmk <;> cases kout <;> simp_all [Evo, renK]
      · rw [hab] at hko; cases hko
    · exact ⟨_, h2, by cases k <;> simp [Evo]⟩
    · exact ⟨k, by rw [h2]; exact hko, by rw [hι]; exact Evo.refl' _ _⟩
  have hSK : ∀ {l : Loc} {k : K}, look σout l = some k → (∀ b, S' b → (S b ∨ (bor = [] ∧ S' b))) ∨ scalarK k := fun {l k} h => by
    rcases hb with e | hs
    · exact .inl fun b hb => .inr ⟨e, hb⟩
    · exact .inr (hs (l, k) (look_mem h))
  have mutCases : ∀ o b, Mut (upds σ (objW rl σin σout)) (backι rl σout ι' ι) o b → (∃ j, j ∈ objIds σout ∧ ren rl j = o ∧ Mut σout ι' j b ∧ (w.heap.size ≤ b ∨ Mut σ ι o b)) ∨ ((∀ j, j ∈ objIds σout ∨ j ∈ goneIds σin σout → ren rl j ≠ o) ∧ Mut σ ι o b) := fun o b ⟨⟨k, hko, hl⟩, hbl⟩ => by
    rcases cases_ o with ⟨j, hj, e, hι, kout, h1, h2⟩ | h2 | ⟨hne, h2, hι⟩
    · rw [h2] at hko; cases hko
      rw [hι] at hbl
      have hm2 : Mut σout ι' j b := ⟨⟨kout, h1, renK_live.1 hl⟩, hbl⟩
      refine .inl ⟨j, hj, e, hm2, (hp.own j b hm2).imp id fun h => by rw [← e]; exact hmin j b h⟩
    · rw [h2] at hko; cases hko; exact hl.elim
    · rw [h2] at hko; rw [hι] at hbl
      exact .inr ⟨hne, ⟨k, hko, hl⟩, hbl⟩
  refine ⟨⟨fun s x hx => ?_, fun o k hko => ?_, fun o b hmu hS => ?_, fun o o' b hmu hmu' => ?_, fun b hb => ?_⟩, hw.size, hw.defers, hw.fr.trans hp.fr fun x hx ⟨j, hj⟩ => ?_, fun o b hmu => ?_, fun b hS => ?_, fun o k hko => ?_⟩
  · rw [look_slot] at hx
    exact SlotR.step st (hw.vr.slots s x hx)
  · rcases cases_ o with ⟨j, hj, e, hι, kout, h1, h2⟩ | h2 | ⟨hne, h2, hι⟩
    · rw [h2] at hko; cases hko
      rw [hι]
      exact OR_ren hk (hSK h1) (hp.vr.objs j kout h1)
    · rw [h2] at hko; cases hko; trivial
    · rw [h2] at hko; rw [hι]
      by_cases hl : k.live
      · refine OR.step st (fun b hb => ?_) (hw.vr.objs o k hko)
        have hmu : Mut σ ι o b := ⟨⟨k, hko, hl⟩, hb⟩
        refine keepB b (hmlt o b hmu) fun j hj => ?_
        have := hw.vr.inj _ _ b (hmin j b hj) hmu
        obtain ⟨⟨k', hk', _⟩, _⟩ := hj
        exact hne j (hall j (mem_objIds hk')) this
      · cases k <;> simp [K.live] at hl <;> trivial
  · rcases mutCases o b hmu with ⟨j, hj, e, hm2, hown⟩ | ⟨hne, hm2⟩
    · rcases hS with hS | ⟨_, hS⟩
      · rcases hown with h | h
        · have := hw.vr.sz b hS; omega
        · exact hw.vr.mutS o b h hS
      · exact hp.vr.mutS j b hm2 hS
    · rcases hS with hS | ⟨e, hS⟩
      · exact hw.vr.mutS o b hm2 hS
      · rcases hp.rd b hS with h | h
        · exact hw.vr.mutS o b hm2 (hgive e b h)
        · have := hmlt o b hm2; omega
  · rcases mutCases o b hmu with ⟨j, hj, e, hm2, hown⟩ | ⟨hne, hm2⟩
    · rcases mutCases o' b hmu' with ⟨j', hj', e', hm2', hown'⟩ | ⟨hne', hm2'⟩
      · rw [← e, ← e', hp.vr.inj j j' b hm2 hm2']
      · rcases hown with h | h
        · have := hmlt o' b hm2'; omega
        · exact hw.vr.inj o o' b h hm2'
    · rcases mutCases o' b hmu' with ⟨j', hj', e', hm2', hown'⟩ | ⟨hne', hm2'⟩
      · rcases hown' with h | h
        · have := hmlt o b hm2; omega
        · exact hw.vr.inj o o' b hm2 h
      · exact hw.vr.inj o o' b hm2 hm2'
  · rcases hb with h | ⟨_, h⟩
    · exact Nat.lt_of_lt_of_le (hw.vr.sz b h) hp.fr.size
    · exact hp.vr.sz b h
  · rcases hw.own _ x (hmin j x hj) with h | ⟨k, h1, h2, h3⟩
    · omega
    · exact ⟨_, k, h1, h2, h3⟩
  · rcases mutCases o b hmu with ⟨j, hj, e, hm2, hown⟩ | ⟨hne, hm2⟩
    · rcases hown with h | h
      · exact .inl (Nat.le_trans hw.fr.size h)
      · exact hw.own o b h
    · exact hw.own o b hm2
  · rcases hS with h | ⟨e, h⟩
    · exact hw.rd b h
    · rcases hp.rd b h with h | h
      · exact hw.rd b (hgive e b h)
      · exact .inr (Nat.le_trans hw.fr.size h)
  · obtain ⟨k', hk', hev⟩ := hw.io o k hko
    obtain ⟨k2, hk2, hev2⟩ := st.evo o k' hk'
    exact ⟨k2, hk2, hev.trans hev2⟩
theorem upds_append (σ : St) (W W' : List (Loc × K)) : upds σ (W ++ W') = upds (upds σ W) W' := by
  induction W generalizing σ with
  | nil => rfl
  | cons p r ih => exact ih _

/-- A CALL of a function with a contract. -/
theorem opt_call (hs : Spec P f n σin σout) {o : Oper} {c : Call} (ho : o.op = .call c) (hc : c.callee = .value (.func f)) (hx : evA σ0 c.args.toList = some (Xs, Ra)) (hn : Xs.length = n)
    (hm : Match (argSt 0 Xs ++ objSt robj) σin rl bor) (hk : callOkB rl σin σout = true) (hb : bor = [] ∨ scalarSt σout) :
    OpT P o (callR Ra robj rl σin σout) (callW rl σin σout o.dst) := by
  intro cx σ ι S a w hr hw hd next Q hnext
  obtain ⟨⟨fn, hf, hbody, hname⟩, hcall⟩ := hs
  obtain ⟨hlen, hargs⟩ := evA_sound hw hx hr.left.left
  let args : Array Value := c.args.map a.eval
  let ν : Nat → Value := fun i => (args[i]?).getD undef
  have hsz : args.size = n := by show (c.args.map a.eval).size = n; rw [Array.size_map, ← hn, hlen, Array.length_toList]
  have hargν : ∀ i, i < n → args[i]? = some (ν i) := fun i hi => by
    show args[i]? = some ((args[i]?).getD undef)
    rw [Array.getElem?_eq_getElem (by omega)]; rfl
  have hνr : ∀ s X, Xs[s]? = some X → VaR σ ι w S X (ν s) := fun s X hX => by
    obtain ⟨x, h1, h2⟩ := hargs s X hX
    have : ν s = a.eval x := by
      show ((c.args.map a.eval)[s]?).getD undef = a.eval x
      rw [Array.getElem?_toList] at h1
      rw [Array.getElem?_map, h1]; rfl
    rw [this]; exact h2
  have hlo : ∀ o, look (argSt 0 Xs ++ objPart σ) (.o o) = look σ (.o o) := fun o => by rw [look_argSt_o, look_objPart]
  have st : Step σ ι S w (argSt 0 Xs ++ objPart σ) ι S w := ⟨fun _ h => h, fun _ _ => rfl, fun o k hk => ⟨k, by rw [hlo]; exact hk, Evo.refl' _ _⟩⟩
  have hmut : ∀ o b, Mut (argSt 0 Xs ++ objPart σ) ι o b ↔ Mut σ ι o b := fun o b => by unfold Mut; rw [hlo]
  have hvr0 : VR (argSt 0 Xs ++ objPart σ) ι ν S w := by
    refine ⟨fun s x hx => ?_, fun o k hk => OR.step st (fun _ _ => rfl) (hw.vr.objs o k (by rw [← hlo]; exact hk)), fun o b q => hw.vr.mutS o b ((hmut o b).1 q), fun o o' b q q' => hw.vr.inj o o' b ((hmut o b).1 q) ((hmut o' b).1 q'), hw.vr.sz⟩
    obtain ⟨X, h1, h2⟩ := look_argSt_part hx
    cases h2
    exact VaR.step st (hνr s _ h1)
  have hsub : ∀ l k, look (argSt 0 Xs ++ objSt robj) l = some k → look (argSt 0 Xs ++ objPart σ) l = some k := fun l k h => by
    cases l with
    | o o =>
      rw [hlo]
      rw [look_argSt_o] at h
      exact hr (.o o, some k) (List.mem_append_left _ (List.mem_append_right _ (List.mem_map.2 ⟨(o, k), look_objSt h, rfl⟩)))
    | t s =>
      obtain ⟨X, h1, rfl⟩ := look_argSt_obj h
      have hs := (List.getElem?_eq_some_iff.1 h1).1
      rw [look_argSt 0 Xs _ s (Nat.zero_le _) (by omega)]; simp [h1]
  have hvr1 := VR_match hm hsub hvr0
  have hcl := hcall _ ν _ w args hvr1 hsz hargν
  obtain ⟨callee, cargs, argTypes⟩ := c
  dsimp only at hc
  subst hc
  have hbd : ∃ cd, fn.body = some cd := by
    cases hq : fn.body with
    | none => rw [hq] at hbody; cases hbody
    | some cd => exact ⟨cd, rfl⟩
  obtain ⟨cd, hbd⟩ := hbd
  have hrun : (execOp a.eval o).run P w = .ok (.enter f args) w := by
    have h1 := MuLone.run_callFunc_enter (P := P) hf hname hbd args w
    have e : (execOp a.eval o).run P w = (callFunc f (args ++ #[])).run P w := by
      simp [execOp, ho, resolve, invoke, Deferred.ofValue, args, Act.eval]
    rw [e, Array.append_empty]; exact h1
  unfold Oper.wp
  rw [hrun, Oper.upon_enter]
  intro cs
  obtain ⟨e, w', fr, ⟨v, ι', S', rfl, hpost⟩, hcomes⟩ := hcl cs
  refine ⟨_, w', fr, ?_, hcomes⟩
  dsimp only
  have hrw := call_rw (Ra := Ra) hm hk hb hr hw hνr hpost
  have hSK : ∀ {l : Loc} {k : K}, look σout l = some k → (∀ b, S' b → (S b ∨ (bor = [] ∧ S' b))) ∨ scalarK k := fun {l k} h => by
    rcases hb with e | hs
    · exact .inl fun b hb => .inr ⟨e, hb⟩
    · exact .inr (hs (l, k) (look_mem h))
  cases hdst : o.dst with
  | none =>
    refine hnext (backι rl σout ι' ι) (fun b => S b ∨ (bor = [] ∧ S' b)) _ w' ?_
    rw [hdst]
    simp only [callW, dstW, List.append_nil]
    exact hrw
  | some d =>
    have hd' := hd d hdst
    cases hq : look σout (.t 0) with
    | none =>
      refine hnext (backι rl σout ι' ι) (fun b => S b ∨ (bor = [] ∧ S' b)) _ w' ?_
      rw [hdst]
      simp only [callW, dstW, upds_append, hq, upds]
      exact hrw.putDead hd' v
    | some k =>
      cases k with
      | v X =>
        refine hnext (backι rl σout ι' ι) (fun b => S b ∨ (bor = [] ∧ S' b)) _ w' ?_
        rw [hdst]
        simp only [callW, dstW, upds_append, hq, upds]
        exact hrw.put hd' (VaR_ren hk (hSK hq) (hpost.vr.slots 0 (.v X) hq))
      | _ =>
        refine hnext (backι rl σout ι' ι) (fun b => S b ∨ (bor = [] ∧ S' b)) _ w' ?_
        rw [hdst]
        simp only [callW, dstW, upds_append, hq, upds]
        exact hrw.putDead hd' v
theorem call_reads {σ : St} {c : List Operand} (hx : evA σ c = some (Xs, Ra)) (h1 : ∀ p ∈ robj, look σ (.o p.1) = some p.2) (h2 : ∀ j ∈ newIds σin σout, look σ (.o (ren rl j)) = none) : Reads (callR Ra robj rl σin σout) σ := by
  intro p hp
  rcases List.mem_append.1 hp with hp | hp
  · rcases List.mem_append.1 hp with hp | hp
    · exact evA_reads hx p hp
    · obtain ⟨q, hq, rfl⟩ := List.mem_map.1 hp
      exact h1 q hq
  · obtain ⟨j, hj, rfl⟩ := List.mem_map.1 hp
    exact h2 j hj
end
end Go.Ab
