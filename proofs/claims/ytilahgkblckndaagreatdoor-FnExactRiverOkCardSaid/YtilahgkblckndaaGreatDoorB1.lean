/- The framework: abstract states over plain data, the operations, the rules for code; plain data and plain functions. -/
import Derived.Conc.MuLone
import Derived.Test.YtilahgkblckndaaGreatDoorProg
import Derived.Laws.StructEq
import Derived.Deep.Slices
import Derived.WideShapes
import GoSem.ClaimJoined
import Derived.Test.YtilahgkblckndaaGreatDoorB0
namespace Go.Ab
open Go Go.RowKit
set_option linter.unusedVariables false
set_option linter.unusedSimpArgs false

theorem look_objSt {l : List (Nat × K)} {o : Nat} {k : K} (h : look (objSt l) (.o o) = some k) : (o, k) ∈ l := by
  induction l with
  | nil => cases h
  | cons p r ih =>
    obtain ⟨i, x⟩ := p
    simp only [objSt, List.map_cons, look] at h
    split at h
    · rename_i e; cases e; cases h; exact List.mem_cons_self ..
    · exact List.mem_cons_of_mem _ (ih h)
theorem look_objSt_t {l : List (Nat × K)} {s : Nat} : look (objSt l) (.t s) = none := by
  induction l with
  | nil => rfl
  | cons p r ih => simp only [objSt, List.map_cons, look]; rw [if_neg (by simp)]; exact ih
theorem look_argSt_obj {Xs : List V} {r : List (Nat × K)} {s : Nat} {k : K} (h : look (argSt 0 Xs ++ objSt r) (.t s) = some k) : ∃ X, Xs[s]? = some X ∧ k = .v X := by
  rcases look_argSt_t 0 Xs (objSt r) s k h with ⟨X, h1, h2, _, _⟩ | h
  · exact ⟨X, by simpa using h1, h2⟩
  · rw [look_objSt_t] at h; cases h
theorem look_argSt_part {Xs : List V} {σ : St} {s : Nat} {k : K} (h : look (argSt 0 Xs ++ objPart σ) (.t s) = some k) : ∃ X, Xs[s]? = some X ∧ k = .v X := by
  have hlt : ∀ (r : St), look (objPart r) (.t s) = none := by
    intro r
    induction r with
    | nil => rfl
    | cons p r ih =>
      obtain ⟨l, k'⟩ := p
      cases l with
      | t n => exact ih
      | o n => simp only [objPart, look]; rw [if_neg (by simp)]; exact ih
  rcases look_argSt_t 0 Xs (objPart σ) s k h with ⟨X, h1, h2, _, _⟩ | h
  · exact ⟨X, by simpa using h1, h2⟩
  · rw [hlt] at h; cases h
theorem renK_live {rl : List (Nat × Nat)} {k : K} : (renK rl k).live ↔ k.live := by cases k <;> simp [renK, K.live]
theorem mem_filter_not {j : Nat} {l l' : List Nat} : j ∈ (l.filter fun i => !memN i l') ↔ j ∈ l ∧ j ∉ l' := by
  rw [List.mem_filter]
  refine and_congr_right fun _ => ?_
  rw [Bool.not_eq_true', ← Bool.not_eq_true, memN_iff]

section
variable {P : Program} {f : FuncId} {n : Nat} {σin σout : St} {rl : List (Nat × Nat)} {bor : List Nat} {σ0 : St} {Xs : List V} {Ra : List (Loc × Option K)} {robj : List (Nat × K)}
theorem call_rw (hm : Match (argSt 0 Xs ++ objSt robj) σin rl bor) (hk : callOkB rl σin σout = true) (hb : bor = [] ∨ scalarSt σout)
    {P : Program} {cx : Cx P} {σ : St} {ι ν : Nat → Value} {S : Nat → Prop} {a : Act} {w : World} (hr : Reads (callR Ra robj rl σin σout) σ) (hw : RW cx σ ι S a w)
    (hνr : ∀ s X, Xs[s]? = some X → VaR σ ι w S X (ν s))
    {ι' : Nat → Value} {S' : Nat → Prop} {w' : World} {v : Value} (hp : Post σin (fun j => ι (ren rl j)) (giveS (argSt 0 Xs ++ objPart σ) ι bor S) w σout ι' S' w' v) :
    RW cx (upds σ (objW rl σin σout)) (backι rl σout ι' ι) (fun b => S b ∨ (bor = [] ∧ S' b)) a w' := by
  have hlo : ∀ o, look (argSt 0 Xs ++ objPart σ) (.o o) = look σ (.o o) := fun o => by rw [look_argSt_o, look_objPart]
  have hmut : ∀ o b, Mut (argSt 0 Xs ++ objPart σ) ι o b ↔ Mut σ ι o b := fun o b => by unfold Mut; rw [hlo]
  have hobj : ∀ o k, look (argSt 0 Xs ++ objSt robj) (.o o) = some k → look σ (.o o) = some k := fun o k h => by
    rw [look_argSt_o] at h
    have hmem := look_objSt h
    exact hr (.o o, some k) (List.mem_append_left _ (List.mem_append_right _ (List.mem_map.2 ⟨(o, k), hmem, rfl⟩)))
  have hsub : ∀ l k, look (argSt 0 Xs ++ objSt robj) l = some k → look (argSt 0 Xs ++ objPart σ) l = some k := fun l k h => by
    cases l with
    | o o => rw [hlo]; exact hobj o k h
    | t s =>
      obtain ⟨X, h1, rfl⟩ := look_argSt_obj h
      have hs := (List.getElem?_eq_some_iff.1 h1).1
      rw [look_argSt 0 Xs _ s (Nat.zero_le _) (by omega)]; simp [h1]
  have hin : ∀ j k', look σin (.o j) = some k' → ∃ k, look σ (.o (ren rl j)) = some k ∧ mK (argSt 0 Xs ++ objSt robj) σin rl bor k k' := fun j k' h => by
    obtain ⟨k, h1, h2⟩ := hm.ids j k' h
    exact ⟨k, hobj _ _ h1, h2⟩
  have hmin : ∀ j b, Mut σin (fun j => ι (ren rl j)) j b → Mut σ ι (ren rl j) b := fun j b h => (hmut _ _).1 (hm.mut hsub h)
  have hmlt : ∀ o b, Mut σ ι o b → b < w.heap.size := fun o b ⟨⟨k0, hk, hl⟩, hb⟩ => OR.lt (hw.vr.objs o k0 hk) hl hb
  have hnew : ∀ j, j ∈ objIds σout → j ∈ objIds σin ∨ look σ (.o (ren rl j)) = none := fun j hj => by
    by_cases h : j ∈ objIds σin
    · exact .inl h
    · exact .inr (hr (.o (ren rl j), none) (List.mem_append_right _ (List.mem_map.2 ⟨j, mem_filter_not.2 ⟨hj, h⟩, rfl⟩)))
  have hall : ∀ j, j ∈ objIds σin → j ∈ objIds σout ∨ j ∈ goneIds σin σout := fun j hj => by
    by_cases h : j ∈ objIds σout
    · exact .inl h
    · exact .inr (mem_filter_not.2 ⟨hj, h⟩)
  have hgive : bor = [] → ∀ b, giveS (argSt 0 Xs ++ objPart σ) ι bor S b → S b := fun e b h => by
    rcases h with h | ⟨o, ho, _⟩
    · exact h
    · rw [e] at ho; cases ho
  -- what an object is afterwards
  have cases_ : ∀ o, (∃ j, j ∈ objIds σout ∧ ren rl j = o ∧ backι rl σout ι' ι o = ι' j ∧ ∃ k, look σout (.o j) = some k ∧ look (upds σ (objW rl σin σout)) (.o o) = some (renK rl k)) ∨
      look (upds σ (objW rl σin σout)) (.o o) = some .dead ∨
      ((∀ j, j ∈ objIds σout ∨ j ∈ goneIds σin σout → ren rl j ≠ o) ∧ look (upds σ (objW rl σin σout)) (.o o) = look σ (.o o) ∧ backι rl σout ι' ι o = ι o) := fun o => by
    by_cases h1 : ∃ j, j ∈ objIds σout ∧ ren rl j = o
    · obtain ⟨j, hj, rfl⟩ := h1
      obtain ⟨k, hkk⟩ := look_of_objIds hj
      exact .inl ⟨j, hj, rfl, backι_out hk hj, k, hkk, look_out hk hkk⟩
    · by_cases h2 : ∃ j, j ∈ goneIds σin σout ∧ ren rl j = o
      · obtain ⟨j, hj, rfl⟩ := h2
        exact .inr (.inl (look_gone hk hj))
      · have hne : ∀ j, j ∈ objIds σout ∨ j ∈ goneIds σin σout → ren rl j ≠ o := fun j hj e => by
          rcases hj with hj | hj
          · exact h1 ⟨j, hj, e⟩
          · exact h2 ⟨j, hj, e⟩
        exact .inr (.inr ⟨hne, look_other hne, backι_other fun j hj => hne j (.inl hj)⟩)
  have keepB : ∀ b, b < w.heap.size → (∀ j, ¬ Mut σin (fun j => ι (ren rl j)) j b) → w'.heap[b]? = w.heap[b]? := fun b hb hn => hp.fr.block b hb fun ⟨j, hj⟩ => hn j hj
  have st : Step σ ι S w (upds σ (objW rl σin σout)) (backι rl σout ι' ι) (fun b => S b ∨ (bor = [] ∧ S' b)) w' := by
    refine ⟨fun b h => .inl h, fun b h => keepB b (hw.vr.sz b h) fun j hj => hw.vr.mutS _ b (hmin j b hj) h, fun o k hko => ?_⟩
    rcases cases_ o with ⟨j, hj, e, hι, kout, h1, h2⟩ | h2 | ⟨hne, h2, hι⟩
    · refine ⟨_, h2, ?_⟩
      rw [hι]
      subst e
      rcases hnew j hj with hji | hab
      · obtain ⟨kin, hkin⟩ := look_of_objIds hji
        obtain ⟨k1, hk1, hmk⟩ := hin j kin hkin
        rw [hko] at hk1; cases hk1
        have hev := hp.io j kin kout hkin h1
        cases k <;> cases kin <;> simp only [mK] at hmk <;> cases kout <;> simp_all [Evo, renK]
      · rw [hab] at hko; cases hko
    · exact ⟨_, h2, by cases k <;> simp [Evo]⟩
    · exact ⟨k, by rw [h2]; exact hko, by rw [hι]; exact Evo.refl' _ _⟩
  have hSK : ∀ {l : Loc} {k : K}, look σout l = some k → (∀ b, S' b → (S b ∨ (bor = [] ∧ S' b))) ∨ scalarK k := fun {l k} h => by
    rcases hb with e | hs
    · exact .inl fun b hb => .inr ⟨e, hb⟩
    · exact .inr (hs (l, k) (look_mem h))
  have mutCases : ∀ o b, Mut (upds σ (objW rl σin σout)) (backι rl σout ι' ι) o b → (∃ j, j ∈ objIds σout ∧ ren rl j = o ∧ Mut σout ι' j b ∧ (w.heap.size ≤ b ∨ Mut σ ι o b)) ∨ ((∀ j, j ∈ objIds σout ∨ j ∈ goneIds σin σout → ren rl j ≠ o) ∧ Mut σ ι o b) := fun o b ⟨⟨k, hko, hl⟩, hbl⟩ => by
    rcases cases_ o with ⟨j, hj, e, hι, kout, h1, h2⟩ | h2 | ⟨hne, h2, hι⟩
    · rw [h2] at hko; cases hko
      rw [hι] at hbl
      have hm2 : Mut σout ι' j b := ⟨⟨kout, h1, renK_live.1 hl⟩, hbl⟩
      refine .inl ⟨j, hj, e, hm2, (hp.own j b hm2).imp id fun h => by rw [← e]; exact hmin j b h⟩
    · rw [h2] at hko; cases hko; exact hl.elim
    · rw [h2] at hko; rw [hι] at hbl
      exact .inr ⟨hne, ⟨k, hko, hl⟩, hbl⟩
  refine ⟨⟨fun s x hx => ?_, fun o k hko => ?_, fun o b hmu hS => ?_, fun o o' b hmu hmu' => ?_, fun b hb => ?_⟩, hw.size, hw.defers, hw.fr.trans hp.fr fun x hx ⟨j, hj⟩ => ?_, fun o b hmu => ?_, fun b hS => ?_, fun o k hko => ?_⟩
  · rw [look_slot] at hx
    exact SlotR.step st (hw.vr.slots s x hx)
  · rcases cases_ o with ⟨j, hj, e, hι, kout, h1, h2⟩ | h2 | ⟨hne, h2, hι⟩
    · rw [h2] at hko; cases hko
      rw [hι]
      exact OR_ren hk (hSK h1) (hp.vr.objs j kout h1)
    · rw [h2] at hko; cases hko; trivial
    · rw [h2] at hko; rw [hι]
      by_cases hl : k.live
      · refine OR.step st (fun b hb => ?_) (hw.vr.objs o k hko)
        have hmu : Mut σ ι o b := ⟨⟨k, hko, hl⟩, hb⟩
        refine keepB b (hmlt o b hmu) fun j hj => ?_
        have := hw.vr.inj _ _ b (hmin j b hj) hmu
        obtain ⟨⟨k', hk', _⟩, _⟩ := hj
        exact hne j (hall j (mem_objIds hk')) this
      · cases k <;> simp [K.live] at hl <;> trivial
  · rcases mutCases o b hmu with ⟨j, hj, e, hm2, hown⟩ | ⟨hne, hm2⟩
    · rcases hS with hS | ⟨_, hS⟩
      · rcases hown with h | h
        · have := hw.vr.sz b hS; omega
        · exact hw.vr.mutS o b h hS
      · exact hp.vr.mutS j b hm2 hS
    · rcases hS with hS | ⟨e, hS⟩
      · exact hw.vr.mutS o b hm2 hS
      · rcases hp.rd b hS with h | h
        · exact hw.vr.mutS o b hm2 (hgive e b h)
        · have := hmlt o b hm2; omega
  · rcases mutCases o b hmu with ⟨j, hj, e, hm2, hown⟩ | ⟨hne, hm2⟩
    · rcases mutCases o' b hmu' with ⟨j', hj', e', hm2', hown'⟩ | ⟨hne', hm2'⟩
      · rw [← e, ← e', hp.vr.inj j j' b hm2 hm2']
      · rcases hown with h | h
        · have := hmlt o' b hm2'; omega
        · exact hw.vr.inj o o' b h hm2'
    · rcases mutCases o' b hmu' with ⟨j', hj', e', hm2', hown'⟩ | ⟨hne', hm2'⟩
      · rcases hown' with h | h
        · have := hmlt o b hm2; omega
        · exact hw.vr.inj o o' b hm2 h
      · exact hw.vr.inj o o' b hm2 hm2'
  · rcases hb with h | ⟨_, h⟩
    · exact Nat.lt_of_lt_of_le (hw.vr.sz b h) hp.fr.size
    · exact hp.vr.sz b h
  · rcases hw.own _ x (hmin j x hj) with h | ⟨k, h1, h2, h3⟩
    · omega
    · exact ⟨_, k, h1, h2, h3⟩
  · rcases mutCases o b hmu with ⟨j, hj, e, hm2, hown⟩ | ⟨hne, hm2⟩
    · rcases hown with h | h
      · exact .inl (Nat.le_trans hw.fr.size h)
      · exact hw.own o b h
    · exact hw.own o b hm2
  · rcases hS with h | ⟨e, h⟩
    · exact hw.rd b h
    · rcases hp.rd b h with h | h
      · exact hw.rd b (hgive e b h)
      · exact .inr (Nat.le_trans hw.fr.size h)
  · obtain ⟨k', hk', hev⟩ := hw.io o k hko
    obtain ⟨k2, hk2, hev2⟩ := st.evo o k' hk'
    exact ⟨k2, hk2, hev.trans hev2⟩
theorem upds_append (σ : St) (W W' : List (Loc × K)) : upds σ (W ++ W') = upds (upds σ W) W' := by
  induction W generalizing σ with
  | nil => rfl
  | cons p r ih => exact ih _

theorem opt_call (hs : Spec P f n σin σout) {o : Oper} {c : Call} (ho : o.op = .call c) (hc : c.callee = .value (.func f)) (hx : evA σ0 c.args.toList = some (Xs, Ra)) (hn : Xs.length = n)
    (hm : Match (argSt 0 Xs ++ objSt robj) σin rl bor) (hk : callOkB rl σin σout = true) (hb : bor = [] ∨ scalarSt σout) :
    OpT P o (callR Ra robj rl σin σout) (callW rl σin σout o.dst) := by
  intro cx σ ι S a w hr hw hd next Q hnext
  obtain ⟨⟨fn, hf, hbody, hname⟩, hcall⟩ := hs
  obtain ⟨hlen, hargs⟩ := evA_sound hw hx hr.left.left
  let args : Array Value := c.args.map a.eval
  let ν : Nat → Value := fun i => (args[i]?).getD undef
  have hsz : args.size = n := by show (c.args.map a.eval).size = n; rw [Array.size_map, ← hn, hlen, Array.length_toList]
  have hargν : ∀ i, i < n → args[i]? = some (ν i) := fun i hi => by
    show args[i]? = some ((args[i]?).getD undef)
    rw [Array.getElem?_eq_getElem (by omega)]; rfl
  have hνr : ∀ s X, Xs[s]? = some X → VaR σ ι w S X (ν s) := fun s X hX => by
    obtain ⟨x, h1, h2⟩ := hargs s X hX
    have : ν s = a.eval x := by
      show ((c.args.map a.eval)[s]?).getD undef = a.eval x
      rw [Array.getElem?_toList] at h1
      rw [Array.getElem?_map, h1]; rfl
    rw [this]; exact h2
  have hlo : ∀ o, look (argSt 0 Xs ++ objPart σ) (.o o) = look σ (.o o) := fun o => by rw [look_argSt_o, look_objPart]
  have st : Step σ ι S w (argSt 0 Xs ++ objPart σ) ι S w := ⟨fun _ h => h, fun _ _ => rfl, fun o k hk => ⟨k, by rw [hlo]; exact hk, Evo.refl' _ _⟩⟩
  have hmut : ∀ o b, Mut (argSt 0 Xs ++ objPart σ) ι o b ↔ Mut σ ι o b := fun o b => by unfold Mut; rw [hlo]
  have hvr0 : VR (argSt 0 Xs ++ objPart σ) ι ν S w := by
    refine ⟨fun s x hx => ?_, fun o k hk => OR.step st (fun _ _ => rfl) (hw.vr.objs o k (by rw [← hlo]; exact hk)), fun o b q => hw.vr.mutS o b ((hmut o b).1 q), fun o o' b q q' => hw.vr.inj o o' b ((hmut o b).1 q) ((hmut o' b).1 q'), hw.vr.sz⟩
    obtain ⟨X, h1, h2⟩ := look_argSt_part hx
    cases h2
    exact VaR.step st (hνr s _ h1)
  have hsub : ∀ l k, look (argSt 0 Xs ++ objSt robj) l = some k → look (argSt 0 Xs ++ objPart σ) l = some k := fun l k h => by
    cases l with
    | o o =>
      rw [hlo]
      rw [look_argSt_o] at h
      exact hr (.o o, some k) (List.mem_append_left _ (List.mem_append_right _ (List.mem_map.2 ⟨(o, k), look_objSt h, rfl⟩)))
    | t s =>
      obtain ⟨X, h1, rfl⟩ := look_argSt_obj h
      have hs := (List.getElem?_eq_some_iff.1 h1).1
      rw [look_argSt 0 Xs _ s (Nat.zero_le _) (by omega)]; simp [h1]
  have hvr1 := VR_match hm hsub hvr0
  have hgb : GB P w fun b => ∃ o, Mut σin (fun j => ι (ren rl j)) o b := fun w2 h2 => cx.gb w2 (hw.fr.trans h2 fun x hx ⟨o, ho⟩ => by
    rcases hw.own _ x ((hmut _ _).1 (hm.mut hsub ho)) with h3 | ⟨k, q1, q2, q3⟩
    · omega
    · exact ⟨_, k, q1, q2, q3⟩)
  have hcl := hcall _ ν _ w args hgb hvr1 hsz hargν
  obtain ⟨callee, cargs, argTypes⟩ := c
  dsimp only at hc
  subst hc
  have hbd : ∃ cd, fn.body = some cd := by
    cases hq : fn.body with
    | none => rw [hq] at hbody; cases hbody
    | some cd => exact ⟨cd, rfl⟩
  obtain ⟨cd, hbd⟩ := hbd
  have hrun : (execOp a.eval o).run P w = .ok (.enter f args) w := by
    have h1 := MuLone.run_callFunc_enter (P := P) hf hname hbd args w
    have e : (execOp a.eval o).run P w = (callFunc f (args ++ #[])).run P w := by
      simp [execOp, ho, resolve, invoke, Deferred.ofValue, args, Act.eval]
    rw [e, Array.append_empty]; exact h1
  unfold Oper.wp
  rw [hrun, Oper.upon_enter]
  intro cs
  obtain ⟨e, w', fr, ⟨v, ι', S', rfl, hpost⟩, hcomes⟩ := hcl cs
  refine ⟨_, w', fr, ?_, hcomes⟩
  dsimp only
  have hrw := call_rw (Ra := Ra) hm hk hb hr hw hνr hpost
  have hSK : ∀ {l : Loc} {k : K}, look σout l = some k → (∀ b, S' b → (S b ∨ (bor = [] ∧ S' b))) ∨ scalarK k := fun {l k} h => by
    rcases hb with e | hs
    · exact .inl fun b hb => .inr ⟨e, hb⟩
    · exact .inr (hs (l, k) (look_mem h))
  cases hdst : o.dst with
  | none =>
    refine hnext (backι rl σout ι' ι) (fun b => S b ∨ (bor = [] ∧ S' b)) _ w' ?_
    rw [hdst]
    simp only [callW, dstW, List.append_nil]
    exact hrw
  | some d =>
    have hd' := hd d hdst
    cases hq : look σout (.t 0) with
    | none =>
      refine hnext (backι rl σout ι' ι) (fun b => S b ∨ (bor = [] ∧ S' b)) _ w' ?_
      rw [hdst]
      simp only [callW, dstW, upds_append, hq, upds]
      exact hrw.putDead hd' v
    | some k =>
      cases k with
      | v X =>
        refine hnext (backι rl σout ι' ι) (fun b => S b ∨ (bor = [] ∧ S' b)) _ w' ?_
        rw [hdst]
        simp only [callW, dstW, upds_append, hq, upds]
        exact hrw.put hd' (VaR_ren hk (hSK hq) (hpost.vr.slots 0 (.v X) hq))
      | _ =>
        refine hnext (backι rl σout ι' ι) (fun b => S b ∨ (bor = [] ∧ S' b)) _ w' ?_
        rw [hdst]
        simp only [callW, dstW, upds_append, hq, upds]
        exact hrw.putDead hd' v
theorem call_reads {σ : St} {c : List Operand} (hx : evA σ c = some (Xs, Ra)) (h1 : ∀ p ∈ robj, look σ (.o p.1) = some p.2) (h2 : ∀ j ∈ newIds σin σout, look σ (.o (ren rl j)) = none) : Reads (callR Ra robj rl σin σout) σ := by
  intro p hp
  rcases List.mem_append.1 hp with hp | hp
  · rcases List.mem_append.1 hp with hp | hp
    · exact evA_reads hx p hp
    · obtain ⟨q, hq, rfl⟩ := List.mem_map.1 hp
      exact h1 q hq
  · obtain ⟨j, hj, rfl⟩ := List.mem_map.1 hp
    exact h2 j hj
end
end Go.Ab

namespace Go.Proofs.YtilahgkblckndaaGreatDoor
open Go Go.Ab Go.RowKit
set_option linter.unusedVariables false

abbrev ti2 : TI := ⟨.int .i64, 1, 8, [.d (.i 0)]⟩
abbrev ti3 : TI := ⟨.int .i64, 1, 8, [.d (.i 0)]⟩
abbrev ti4 : TI := ⟨.bool, 1, 1, [.d (.b false)]⟩
abbrev ti5 : TI := ⟨.int .u8, 1, 1, [.d (.u 0)]⟩
abbrev ti6 : TI := ⟨.int .u8, 1, 1, [.d (.u 0)]⟩
abbrev ti7 : TI := ⟨.st [(0, 2), (1, 3), (2, 4), (3, 6)], 4, 24, [.d (.i 0), .d (.i 0), .d (.b false), .d (.u 0)]⟩
abbrev ti8 : TI := ⟨.st [(0, 2), (1, 3), (2, 4), (3, 6)], 4, 24, [.d (.i 0), .d (.i 0), .d (.b false), .d (.u 0)]⟩
abbrev ti9 : TI := ⟨.str, 1, 16, [.d (.s [])]⟩
abbrev ti10 : TI := ⟨.str, 1, 16, [.d (.s [])]⟩
abbrev ti11 : TI := ⟨.str, 1, 16, [.d (.s [])]⟩
abbrev ti12 : TI := ⟨.int .u64, 1, 8, [.d (.x (.int .u64 0))]⟩
abbrev ti13 : TI := ⟨.st [(0, 9), (1, 12)], 2, 24, [.d (.s []), .d (.x (.int .u64 0))]⟩
abbrev ti14 : TI := ⟨.st [(0, 9), (1, 12)], 2, 24, [.d (.s []), .d (.x (.int .u64 0))]⟩
abbrev ti15 : TI := ⟨.ptr 257, 1, 8, [.d (.x (.pointer none))]⟩
abbrev ti16 : TI := ⟨.ptr 260, 1, 8, [.d (.x (.pointer none))]⟩
abbrev ti17 : TI := ⟨.ptr 269, 1, 8, [.d (.x (.pointer none))]⟩
abbrev ti18 : TI := ⟨.st [(0, 17)], 1, 8, [.d (.x (.pointer none))]⟩
abbrev ti19 : TI := ⟨.st [(0, 17)], 1, 8, [.d (.x (.pointer none))]⟩
abbrev ti21 : TI := ⟨.int .i32, 1, 4, [.d (.x (.int .i32 0))]⟩
abbrev ti22 : TI := ⟨.st [(0, 9), (1, 3)], 2, 24, [.d (.s []), .d (.i 0)]⟩
abbrev ti23 : TI := ⟨.st [(0, 9), (1, 3)], 2, 24, [.d (.s []), .d (.i 0)]⟩
abbrev ti24 : TI := ⟨.sl 128, 1, 24, [.nil]⟩
abbrev ti25 : TI := ⟨.st [(0, 3), (1, 4), (2, 23), (4, 24)], 5, 64, [.d (.i 0), .d (.b false), .d (.s []), .d (.i 0), .nil]⟩
abbrev ti26 : TI := ⟨.st [(0, 3), (1, 4), (2, 23), (4, 24)], 5, 64, [.d (.i 0), .d (.b false), .d (.s []), .d (.i 0), .nil]⟩
abbrev ti28 : TI := ⟨.st [(0, 3), (1, 3), (2, 3), (3, 3), (4, 3), (5, 3), (6, 3), (7, 3), (8, 3), (9, 9)], 10, 88, [.d (.i 0), .d (.i 0), .d (.i 0), .d (.i 0), .d (.i 0), .d (.i 0), .d (.i 0), .d (.i 0), .d (.i 0), .d (.s [])]⟩
abbrev ti29 : TI := ⟨.st [(0, 3), (1, 3), (2, 3), (3, 3), (4, 3), (5, 3), (6, 3), (7, 3), (8, 3), (9, 9)], 10, 88, [.d (.i 0), .d (.i 0), .d (.i 0), .d (.i 0), .d (.i 0), .d (.i 0), .d (.i 0), .d (.i 0), .d (.i 0), .d (.s [])]⟩
abbrev ti32 : TI := ⟨.st [(0, 9), (1, 3)], 2, 24, [.d (.s []), .d (.i 0)]⟩
abbrev ti33 : TI := ⟨.sl 136, 1, 24, [.nil]⟩
abbrev ti34 : TI := ⟨.st [(0, 3), (1, 4), (2, 32), (4, 33)], 5, 64, [.d (.i 0), .d (.b false), .d (.s []), .d (.i 0), .nil]⟩
abbrev ti35 : TI := ⟨.st [(0, 3), (1, 4), (2, 32), (4, 33)], 5, 64, [.d (.i 0), .d (.b false), .d (.s []), .d (.i 0), .nil]⟩
abbrev ti40 : TI := ⟨.sl 26, 1, 24, [.nil]⟩
abbrev ti41 : TI := ⟨.sl 4, 1, 24, [.nil]⟩
abbrev ti42 : TI := ⟨.sl 147, 1, 24, [.nil]⟩
abbrev ti43 : TI := ⟨.sl 149, 1, 24, [.nil]⟩
abbrev ti44 : TI := ⟨.st [(0, 3), (1, 40), (2, 41), (3, 42), (4, 43), (5, 43)], 6, 128, [.d (.i 0), .nil, .nil, .nil, .nil, .nil]⟩
abbrev ti45 : TI := ⟨.st [(0, 3), (1, 40), (2, 41), (3, 42), (4, 43), (5, 43)], 6, 128, [.d (.i 0), .nil, .nil, .nil, .nil, .nil]⟩
abbrev ti48 : TI := ⟨.sl 35, 1, 24, [.nil]⟩
abbrev ti49 : TI := ⟨.sl 100, 1, 24, [.nil]⟩
abbrev ti50 : TI := ⟨.sl 64, 1, 24, [.nil]⟩
abbrev ti51 : TI := ⟨.st [(0, 3), (1, 48), (2, 41), (3, 49), (4, 50), (5, 50)], 6, 128, [.d (.i 0), .nil, .nil, .nil, .nil, .nil]⟩
abbrev ti52 : TI := ⟨.st [(0, 3), (1, 48), (2, 41), (3, 49), (4, 50), (5, 50)], 6, 128, [.d (.i 0), .nil, .nil, .nil, .nil, .nil]⟩
abbrev ti63 : TI := ⟨.st [(0, 3), (1, 3), (2, 3), (3, 3), (4, 9)], 5, 48, [.d (.i 0), .d (.i 0), .d (.i 0), .d (.i 0), .d (.s [])]⟩
abbrev ti64 : TI := ⟨.st [(0, 3), (1, 3), (2, 3), (3, 3), (4, 9)], 5, 48, [.d (.i 0), .d (.i 0), .d (.i 0), .d (.i 0), .d (.s [])]⟩
abbrev ti69 : TI := ⟨.st [(0, 3), (1, 3), (2, 3), (3, 3), (4, 3), (5, 3), (6, 3), (7, 3), (8, 3), (9, 9)], 10, 88, [.d (.i 0), .d (.i 0), .d (.i 0), .d (.i 0), .d (.i 0), .d (.i 0), .d (.i 0), .d (.i 0), .d (.i 0), .d (.s [])]⟩
abbrev ti71 : TI := ⟨.sl 29, 1, 24, [.nil]⟩
abbrev ti81 : TI := ⟨.sl 157, 1, 24, [.nil]⟩
abbrev ti82 : TI := ⟨.st [(0, 3), (1, 3), (2, 3), (3, 50), (4, 81), (5, 50)], 6, 96, [.d (.i 0), .d (.i 0), .d (.i 0), .nil, .nil, .nil]⟩
abbrev ti83 : TI := ⟨.st [(0, 3), (1, 3), (2, 3), (3, 50), (4, 81), (5, 50)], 6, 96, [.d (.i 0), .d (.i 0), .d (.i 0), .nil, .nil, .nil]⟩
abbrev ti99 : TI := ⟨.st [(0, 3), (1, 3), (2, 9), (3, 4)], 4, 40, [.d (.i 0), .d (.i 0), .d (.s []), .d (.b false)]⟩
abbrev ti100 : TI := ⟨.st [(0, 3), (1, 3), (2, 9), (3, 4)], 4, 40, [.d (.i 0), .d (.i 0), .d (.s []), .d (.b false)]⟩
abbrev ti115 : TI := ⟨.sl 9, 1, 24, [.nil]⟩
abbrev ti126 : TI := ⟨.sl 196, 1, 24, [.nil]⟩
abbrev ti127 : TI := ⟨.st [(0, 3), (1, 3), (2, 3), (3, 3), (4, 3), (5, 126)], 6, 64, [.d (.i 0), .d (.i 0), .d (.i 0), .d (.i 0), .d (.i 0), .nil]⟩
abbrev ti128 : TI := ⟨.st [(0, 3), (1, 3), (2, 3), (3, 3), (4, 3), (5, 126)], 6, 64, [.d (.i 0), .d (.i 0), .d (.i 0), .d (.i 0), .d (.i 0), .nil]⟩
abbrev ti134 : TI := ⟨.sl 161, 1, 24, [.nil]⟩
abbrev ti135 : TI := ⟨.st [(0, 3), (1, 3), (2, 3), (3, 3), (4, 3), (5, 134)], 6, 64, [.d (.i 0), .d (.i 0), .d (.i 0), .d (.i 0), .d (.i 0), .nil]⟩
abbrev ti136 : TI := ⟨.st [(0, 3), (1, 3), (2, 3), (3, 3), (4, 3), (5, 134)], 6, 64, [.d (.i 0), .d (.i 0), .d (.i 0), .d (.i 0), .d (.i 0), .nil]⟩
abbrev ti138 : TI := ⟨.sl 3, 1, 24, [.nil]⟩
abbrev ti147 : TI := ⟨.st [(0, 3), (1, 3), (2, 9), (3, 4)], 4, 40, [.d (.i 0), .d (.i 0), .d (.s []), .d (.b false)]⟩
abbrev ti149 : TI := ⟨.st [(0, 3), (1, 3), (2, 3), (3, 3), (4, 9)], 5, 48, [.d (.i 0), .d (.i 0), .d (.i 0), .d (.i 0), .d (.s [])]⟩
abbrev ti156 : TI := ⟨.st [(0, 3), (1, 3), (2, 3)], 3, 24, [.d (.i 0), .d (.i 0), .d (.i 0)]⟩
abbrev ti157 : TI := ⟨.st [(0, 3), (1, 3), (2, 3)], 3, 24, [.d (.i 0), .d (.i 0), .d (.i 0)]⟩
abbrev ti160 : TI := ⟨.st [(0, 3), (1, 9)], 2, 24, [.d (.i 0), .d (.s [])]⟩
abbrev ti161 : TI := ⟨.st [(0, 3), (1, 9)], 2, 24, [.d (.i 0), .d (.s [])]⟩
abbrev ti167 : TI := ⟨.sl 5, 1, 24, [.nil]⟩
abbrev ti177 : TI := ⟨.ptr 136, 1, 8, [.d (.x (.pointer none))]⟩
abbrev ti185 : TI := ⟨.arr 6 4, 6, 6, [.d (.b false), .d (.b false), .d (.b false), .d (.b false), .d (.b false), .d (.b false)]⟩
abbrev ti196 : TI := ⟨.st [(0, 3), (1, 9)], 2, 24, [.d (.i 0), .d (.s [])]⟩
abbrev ti215 : TI := ⟨.arr 24 5, 24, 24, [.d (.u 0), .d (.u 0), .d (.u 0), .d (.u 0), .d (.u 0), .d (.u 0), .d (.u 0), .d (.u 0), .d (.u 0), .d (.u 0), .d (.u 0), .d (.u 0), .d (.u 0), .d (.u 0), .d (.u 0), .d (.u 0), .d (.u 0), .d (.u 0), .d (.u 0), .d (.u 0), .d (.u 0), .d (.u 0), .d (.u 0), .d (.u 0)]⟩
abbrev ti216 : TI := ⟨.int .u64, 1, 8, [.d (.x (.int .u64 0))]⟩
abbrev ti234 : TI := ⟨.arr 20 216, 20, 160, [.d (.x (.int .u64 0)), .d (.x (.int .u64 0)), .d (.x (.int .u64 0)), .d (.x (.int .u64 0)), .d (.x (.int .u64 0)), .d (.x (.int .u64 0)), .d (.x (.int .u64 0)), .d (.x (.int .u64 0)), .d (.x (.int .u64 0)), .d (.x (.int .u64 0)), .d (.x (.int .u64 0)), .d (.x (.int .u64 0)), .d (.x (.int .u64 0)), .d (.x (.int .u64 0)), .d (.x (.int .u64 0)), .d (.x (.int .u64 0)), .d (.x (.int .u64 0)), .d (.x (.int .u64 0)), .d (.x (.int .u64 0)), .d (.x (.int .u64 0))]⟩
abbrev ti235 : TI := ⟨.int .u32, 1, 4, [.d (.x (.int .u32 0))]⟩
abbrev ti237 : TI := ⟨.int .u64, 1, 8, [.d (.x (.int .u64 0))]⟩
abbrev ti245 : TI := ⟨.arr 32 5, 32, 32, [.d (.u 0), .d (.u 0), .d (.u 0), .d (.u 0), .d (.u 0), .d (.u 0), .d (.u 0), .d (.u 0), .d (.u 0), .d (.u 0), .d (.u 0), .d (.u 0), .d (.u 0), .d (.u 0), .d (.u 0), .d (.u 0), .d (.u 0), .d (.u 0), .d (.u 0), .d (.u 0), .d (.u 0), .d (.u 0), .d (.u 0), .d (.u 0), .d (.u 0), .d (.u 0), .d (.u 0), .d (.u 0), .d (.u 0), .d (.u 0), .d (.u 0), .d (.u 0)]⟩
abbrev ti246 : TI := ⟨.arr 64 5, 64, 64, [.d (.u 0), .d (.u 0), .d (.u 0), .d (.u 0), .d (.u 0), .d (.u 0), .d (.u 0), .d (.u 0), .d (.u 0), .d (.u 0), .d (.u 0), .d (.u 0), .d (.u 0), .d (.u 0), .d (.u 0), .d (.u 0), .d (.u 0), .d (.u 0), .d (.u 0), .d (.u 0), .d (.u 0), .d (.u 0), .d (.u 0), .d (.u 0), .d (.u 0), .d (.u 0), .d (.u 0), .d (.u 0), .d (.u 0), .d (.u 0), .d (.u 0), .d (.u 0), .d (.u 0), .d (.u 0), .d (.u 0), .d (.u 0), .d (.u 0), .d (.u 0), .d (.u 0), .d (.u 0), .d (.u 0), .d (.u 0), .d (.u 0), .d (.u 0), .d (.u 0), .d (.u 0), .d (.u 0), .d (.u 0), .d (.u 0), .d (.u 0), .d (.u 0), .d (.u 0), .d (.u 0), .d (.u 0), .d (.u 0), .d (.u 0), .d (.u 0), .d (.u 0), .d (.u 0), .d (.u 0), .d (.u 0), .d (.u 0), .d (.u 0), .d (.u 0)]⟩
abbrev ti253 : TI := ⟨.st [(0, 5), (1, 5)], 2, 2, [.d (.u 0), .d (.u 0)]⟩
abbrev ti254 : TI := ⟨.st [(0, 5), (1, 5)], 2, 2, [.d (.u 0), .d (.u 0)]⟩
abbrev ti255 : TI := ⟨.arr 16 254, 32, 32, [.d (.u 0), .d (.u 0), .d (.u 0), .d (.u 0), .d (.u 0), .d (.u 0), .d (.u 0), .d (.u 0), .d (.u 0), .d (.u 0), .d (.u 0), .d (.u 0), .d (.u 0), .d (.u 0), .d (.u 0), .d (.u 0), .d (.u 0), .d (.u 0), .d (.u 0), .d (.u 0), .d (.u 0), .d (.u 0), .d (.u 0), .d (.u 0), .d (.u 0), .d (.u 0), .d (.u 0), .d (.u 0), .d (.u 0), .d (.u 0), .d (.u 0), .d (.u 0)]⟩
abbrev ti256 : TI := ⟨.st [(0, 17), (1, 17), (2, 17), (3, 9)], 4, 40, [.d (.x (.pointer none)), .d (.x (.pointer none)), .d (.x (.pointer none)), .d (.s [])]⟩
abbrev ti257 : TI := ⟨.st [(0, 17), (1, 17), (2, 17), (3, 9)], 4, 40, [.d (.x (.pointer none)), .d (.x (.pointer none)), .d (.x (.pointer none)), .d (.s [])]⟩
abbrev ti262 : TI := ⟨.int .u8, 1, 1, [.d (.u 0)]⟩
abbrev ti263 : TI := ⟨.int .u8, 1, 1, [.d (.u 0)]⟩
abbrev ti265 : TI := ⟨.ptr 5, 1, 8, [.d (.x (.pointer none))]⟩
abbrev ti266 : TI := ⟨.int .i32, 1, 4, [.d (.x (.int .i32 0))]⟩
abbrev ti267 : TI := ⟨.int .i32, 1, 4, [.d (.x (.int .i32 0))]⟩
def tab : Tab := fun t => match t with
  | 2 => some ti2
  | 3 => some ti3
  | 4 => some ti4
  | 5 => some ti5
  | 6 => some ti6
  | 7 => some ti7
  | 8 => some ti8
  | 9 => some ti9
  | 10 => some ti10
  | 11 => some ti11
  | 12 => some ti12
  | 13 => some ti13
  | 14 => some ti14
  | 15 => some ti15
  | 16 => some ti16
  | 17 => some ti17
  | 18 => some ti18
  | 19 => some ti19
  | 21 => some ti21
  | 22 => some ti22
  | 23 => some ti23
  | 24 => some ti24
  | 25 => some ti25
  | 26 => some ti26
  | 28 => some ti28
  | 29 => some ti29
  | 32 => some ti32
  | 33 => some ti33
  | 34 => some ti34
  | 35 => some ti35
  | 40 => some ti40
  | 41 => some ti41
  | 42 => some ti42
  | 43 => some ti43
  | 44 => some ti44
  | 45 => some ti45
  | 48 => some ti48
  | 49 => some ti49
  | 50 => some ti50
  | 51 => some ti51
  | 52 => some ti52
  | 63 => some ti63
  | 64 => some ti64
  | 69 => some ti69
  | 71 => some ti71
  | 81 => some ti81
  | 82 => some ti82
  | 83 => some ti83
  | 99 => some ti99
  | 100 => some ti100
  | 115 => some ti115
  | 126 => some ti126
  | 127 => some ti127
  | 128 => some ti128
  | 134 => some ti134
  | 135 => some ti135
  | 136 => some ti136
  | 138 => some ti138
  | 147 => some ti147
  | 149 => some ti149
  | 156 => some ti156
  | 157 => some ti157
  | 160 => some ti160
  | 161 => some ti161
  | 167 => some ti167
  | 177 => some ti177
  | 185 => some ti185
  | 196 => some ti196
  | 215 => some ti215
  | 216 => some ti216
  | 234 => some ti234
  | 235 => some ti235
  | 237 => some ti237
  | 245 => some ti245
  | 246 => some ti246
  | 253 => some ti253
  | 254 => some ti254
  | 255 => some ti255
  | 256 => some ti256
  | 257 => some ti257
  | 262 => some ti262
  | 263 => some ti263
  | 265 => some ti265
  | 266 => some ti266
  | 267 => some ti267
  | _ => none
theorem tiok2 : TIOk Tryz.prog 2 ti2 := ⟨Tryz.underlying2, ⟨Tryz.t2, _, by kernel_rfl, rfl, rfl, rfl, rfl⟩, rfl, rfl, by decide, by decide⟩
theorem tiok3 : TIOk Tryz.prog 3 ti3 := ⟨Tryz.underlying3, ⟨Tryz.t3, _, by kernel_rfl, rfl, rfl, rfl, rfl⟩, rfl, rfl, by decide, by decide⟩
theorem tiok4 : TIOk Tryz.prog 4 ti4 := ⟨Tryz.underlying4, ⟨Tryz.t4, _, by kernel_rfl, rfl, rfl, rfl, rfl⟩, rfl, rfl, by decide, by decide⟩
theorem tiok5 : TIOk Tryz.prog 5 ti5 := ⟨Tryz.underlying5, ⟨Tryz.t5, _, by kernel_rfl, rfl, rfl, rfl, rfl⟩, rfl, rfl, by decide, by decide⟩
theorem tiok6 : TIOk Tryz.prog 6 ti6 := ⟨Tryz.underlying6, ⟨Tryz.t6, _, by kernel_rfl, rfl, rfl, rfl, rfl⟩, rfl, rfl, by decide, by decide⟩
theorem tiok7 : TIOk Tryz.prog 7 ti7 := ⟨⟨_, Tryz.underlying7, rfl⟩, ⟨Tryz.t7, _, by kernel_rfl, rfl, rfl, rfl, rfl⟩, rfl, rfl, by decide, by decide⟩
theorem tiok8 : TIOk Tryz.prog 8 ti8 := ⟨⟨_, Tryz.underlying8, rfl⟩, ⟨Tryz.t8, _, by kernel_rfl, rfl, rfl, rfl, rfl⟩, rfl, rfl, by decide, by decide⟩
theorem tiok9 : TIOk Tryz.prog 9 ti9 := ⟨Tryz.underlying9, ⟨Tryz.t9, _, by kernel_rfl, rfl, rfl, rfl, rfl⟩, rfl, rfl, by decide, by decide⟩
theorem tiok10 : TIOk Tryz.prog 10 ti10 := ⟨Tryz.underlying10, ⟨Tryz.t10, _, by kernel_rfl, rfl, rfl, rfl, rfl⟩, rfl, rfl, by decide, by decide⟩
theorem tiok11 : TIOk Tryz.prog 11 ti11 := ⟨Tryz.underlying11, ⟨Tryz.t11, _, by kernel_rfl, rfl, rfl, rfl, rfl⟩, rfl, rfl, by decide, by decide⟩
theorem tiok12 : TIOk Tryz.prog 12 ti12 := ⟨Tryz.underlying12, ⟨Tryz.t12, _, by kernel_rfl, rfl, rfl, rfl, rfl⟩, rfl, rfl, by decide, by decide⟩
theorem tiok13 : TIOk Tryz.prog 13 ti13 := ⟨⟨_, Tryz.underlying13, rfl⟩, ⟨Tryz.t13, _, by kernel_rfl, rfl, rfl, rfl, rfl⟩, rfl, rfl, by decide, by decide⟩
theorem tiok14 : TIOk Tryz.prog 14 ti14 := ⟨⟨_, Tryz.underlying14, rfl⟩, ⟨Tryz.t14, _, by kernel_rfl, rfl, rfl, rfl, rfl⟩, rfl, rfl, by decide, by decide⟩
theorem tiok15 : TIOk Tryz.prog 15 ti15 := ⟨Tryz.underlying15, ⟨Tryz.t15, _, by kernel_rfl, rfl, rfl, rfl, rfl⟩, rfl, rfl, by decide, by decide⟩
theorem tiok16 : TIOk Tryz.prog 16 ti16 := ⟨Tryz.underlying16, ⟨Tryz.t16, _, by kernel_rfl, rfl, rfl, rfl, rfl⟩, rfl, rfl, by decide, by decide⟩
theorem tiok17 : TIOk Tryz.prog 17 ti17 := ⟨Tryz.underlying17, ⟨Tryz.t17, _, by kernel_rfl, rfl, rfl, rfl, rfl⟩, rfl, rfl, by decide, by decide⟩
theorem tiok18 : TIOk Tryz.prog 18 ti18 := ⟨⟨_, Tryz.underlying18, rfl⟩, ⟨Tryz.t18, _, by kernel_rfl, rfl, rfl, rfl, rfl⟩, rfl, rfl, by decide, by decide⟩
theorem tiok19 : TIOk Tryz.prog 19 ti19 := ⟨⟨_, Tryz.underlying19, rfl⟩, ⟨Tryz.t19, _, by kernel_rfl, rfl, rfl, rfl, rfl⟩, rfl, rfl, by decide, by decide⟩
theorem tiok21 : TIOk Tryz.prog 21 ti21 := ⟨Tryz.underlying21, ⟨Tryz.t21, _, by kernel_rfl, rfl, rfl, rfl, rfl⟩, rfl, rfl, by decide, by decide⟩
theorem tiok22 : TIOk Tryz.prog 22 ti22 := ⟨⟨_, Tryz.underlying22, rfl⟩, ⟨Tryz.t22, _, by kernel_rfl, rfl, rfl, rfl, rfl⟩, rfl, rfl, by decide, by decide⟩
theorem tiok23 : TIOk Tryz.prog 23 ti23 := ⟨⟨_, Tryz.underlying23, rfl⟩, ⟨Tryz.t23, _, by kernel_rfl, rfl, rfl, rfl, rfl⟩, rfl, rfl, by decide, by decide⟩
theorem tiok24 : TIOk Tryz.prog 24 ti24 := ⟨Tryz.underlying24, ⟨Tryz.t24, _, by kernel_rfl, rfl, rfl, rfl, rfl⟩, rfl, rfl, by decide, by decide⟩
theorem tiok25 : TIOk Tryz.prog 25 ti25 := ⟨⟨_, Tryz.underlying25, rfl⟩, ⟨Tryz.t25, _, by kernel_rfl, rfl, rfl, rfl, rfl⟩, rfl, rfl, by decide, by decide⟩
theorem tiok26 : TIOk Tryz.prog 26 ti26 := ⟨⟨_, Tryz.underlying26, rfl⟩, ⟨Tryz.t26, _, by kernel_rfl, rfl, rfl, rfl, rfl⟩, rfl, rfl, by decide, by decide⟩
theorem tiok28 : TIOk Tryz.prog 28 ti28 := ⟨⟨_, Tryz.underlying28, rfl⟩, ⟨Tryz.t28, _, by kernel_rfl, rfl, rfl, rfl, rfl⟩, rfl, rfl, by decide, by decide⟩
theorem tiok29 : TIOk Tryz.prog 29 ti29 := ⟨⟨_, Tryz.underlying29, rfl⟩, ⟨Tryz.t29, _, by kernel_rfl, rfl, rfl, rfl, rfl⟩, rfl, rfl, by decide, by decide⟩
theorem tiok32 : TIOk Tryz.prog 32 ti32 := ⟨⟨_, Tryz.underlying32, rfl⟩, ⟨Tryz.t32, _, by kernel_rfl, rfl, rfl, rfl, rfl⟩, rfl, rfl, by decide, by decide⟩
theorem tiok33 : TIOk Tryz.prog 33 ti33 := ⟨Tryz.underlying33, ⟨Tryz.t33, _, by kernel_rfl, rfl, rfl, rfl, rfl⟩, rfl, rfl, by decide, by decide⟩
theorem tiok34 : TIOk Tryz.prog 34 ti34 := ⟨⟨_, Tryz.underlying34, rfl⟩, ⟨Tryz.t34, _, by kernel_rfl, rfl, rfl, rfl, rfl⟩, rfl, rfl, by decide, by decide⟩
theorem tiok35 : TIOk Tryz.prog 35 ti35 := ⟨⟨_, Tryz.underlying35, rfl⟩, ⟨Tryz.t35, _, by kernel_rfl, rfl, rfl, rfl, rfl⟩, rfl, rfl, by decide, by decide⟩
theorem tiok40 : TIOk Tryz.prog 40 ti40 := ⟨Tryz.underlying40, ⟨Tryz.t40, _, by kernel_rfl, rfl, rfl, rfl, rfl⟩, rfl, rfl, by decide, by decide⟩
theorem tiok41 : TIOk Tryz.prog 41 ti41 := ⟨Tryz.underlying41, ⟨Tryz.t41, _, by kernel_rfl, rfl, rfl, rfl, rfl⟩, rfl, rfl, by decide, by decide⟩
theorem tiok42 : TIOk Tryz.prog 42 ti42 := ⟨Tryz.underlying42, ⟨Tryz.t42, _, by kernel_rfl, rfl, rfl, rfl, rfl⟩, rfl, rfl, by decide, by decide⟩
theorem tiok43 : TIOk Tryz.prog 43 ti43 := ⟨Tryz.underlying43, ⟨Tryz.t43, _, by kernel_rfl, rfl, rfl, rfl, rfl⟩, rfl, rfl, by decide, by decide⟩
theorem tiok44 : TIOk Tryz.prog 44 ti44 := ⟨⟨_, Tryz.underlying44, rfl⟩, ⟨Tryz.t44, _, by kernel_rfl, rfl, rfl, rfl, rfl⟩, rfl, rfl, by decide, by decide⟩
theorem tiok45 : TIOk Tryz.prog 45 ti45 := ⟨⟨_, Tryz.underlying45, rfl⟩, ⟨Tryz.t45, _, by kernel_rfl, rfl, rfl, rfl, rfl⟩, rfl, rfl, by decide, by decide⟩
theorem tiok48 : TIOk Tryz.prog 48 ti48 := ⟨Tryz.underlying48, ⟨Tryz.t48, _, by kernel_rfl, rfl, rfl, rfl, rfl⟩, rfl, rfl, by decide, by decide⟩
theorem tiok49 : TIOk Tryz.prog 49 ti49 := ⟨Tryz.underlying49, ⟨Tryz.t49, _, by kernel_rfl, rfl, rfl, rfl, rfl⟩, rfl, rfl, by decide, by decide⟩
theorem tiok50 : TIOk Tryz.prog 50 ti50 := ⟨Tryz.underlying50, ⟨Tryz.t50, _, by kernel_rfl, rfl, rfl, rfl, rfl⟩, rfl, rfl, by decide, by decide⟩
theorem tiok51 : TIOk Tryz.prog 51 ti51 := ⟨⟨_, Tryz.underlying51, rfl⟩, ⟨Tryz.t51, _, by kernel_rfl, rfl, rfl, rfl, rfl⟩, rfl, rfl, by decide, by decide⟩
theorem tiok52 : TIOk Tryz.prog 52 ti52 := ⟨⟨_, Tryz.underlying52, rfl⟩, ⟨Tryz.t52, _, by kernel_rfl, rfl, rfl, rfl, rfl⟩, rfl, rfl, by decide, by decide⟩
theorem tiok63 : TIOk Tryz.prog 63 ti63 := ⟨⟨_, Tryz.underlying63, rfl⟩, ⟨Tryz.t63, _, by kernel_rfl, rfl, rfl, rfl, rfl⟩, rfl, rfl, by decide, by decide⟩
theorem tiok64 : TIOk Tryz.prog 64 ti64 := ⟨⟨_, Tryz.underlying64, rfl⟩, ⟨Tryz.t64, _, by kernel_rfl, rfl, rfl, rfl, rfl⟩, rfl, rfl, by decide, by decide⟩
theorem tiok69 : TIOk Tryz.prog 69 ti69 := ⟨⟨_, Tryz.underlying69, rfl⟩, ⟨Tryz.t69, _, by kernel_rfl, rfl, rfl, rfl, rfl⟩, rfl, rfl, by decide, by decide⟩
theorem tiok71 : TIOk Tryz.prog 71 ti71 := ⟨Tryz.underlying71, ⟨Tryz.t71, _, by kernel_rfl, rfl, rfl, rfl, rfl⟩, rfl, rfl, by decide, by decide⟩
theorem tiok81 : TIOk Tryz.prog 81 ti81 := ⟨Tryz.underlying81, ⟨Tryz.t81, _, by kernel_rfl, rfl, rfl, rfl, rfl⟩, rfl, rfl, by decide, by decide⟩
theorem tiok82 : TIOk Tryz.prog 82 ti82 := ⟨⟨_, Tryz.underlying82, rfl⟩, ⟨Tryz.t82, _, by kernel_rfl, rfl, rfl, rfl, rfl⟩, rfl, rfl, by decide, by decide⟩
theorem tiok83 : TIOk Tryz.prog 83 ti83 := ⟨⟨_, Tryz.underlying83, rfl⟩, ⟨Tryz.t83, _, by kernel_rfl, rfl, rfl, rfl, rfl⟩, rfl, rfl, by decide, by decide⟩
theorem tiok99 : TIOk Tryz.prog 99 ti99 := ⟨⟨_, Tryz.underlying99, rfl⟩, ⟨Tryz.t99, _, by kernel_rfl, rfl, rfl, rfl, rfl⟩, rfl, rfl, by decide, by decide⟩
theorem tiok100 : TIOk Tryz.prog 100 ti100 := ⟨⟨_, Tryz.underlying100, rfl⟩, ⟨Tryz.t100, _, by kernel_rfl, rfl, rfl, rfl, rfl⟩, rfl, rfl, by decide, by decide⟩
theorem tiok115 : TIOk Tryz.prog 115 ti115 := ⟨Tryz.underlying115, ⟨Tryz.t115, _, by kernel_rfl, rfl, rfl, rfl, rfl⟩, rfl, rfl, by decide, by decide⟩
theorem tiok126 : TIOk Tryz.prog 126 ti126 := ⟨Tryz.underlying126, ⟨Tryz.t126, _, by kernel_rfl, rfl, rfl, rfl, rfl⟩, rfl, rfl, by decide, by decide⟩
theorem tiok127 : TIOk Tryz.prog 127 ti127 := ⟨⟨_, Tryz.underlying127, rfl⟩, ⟨Tryz.t127, _, by kernel_rfl, rfl, rfl, rfl, rfl⟩, rfl, rfl, by decide, by decide⟩
theorem tiok128 : TIOk Tryz.prog 128 ti128 := ⟨⟨_, Tryz.underlying128, rfl⟩, ⟨Tryz.t128, _, by kernel_rfl, rfl, rfl, rfl, rfl⟩, rfl, rfl, by decide, by decide⟩
theorem tiok134 : TIOk Tryz.prog 134 ti134 := ⟨Tryz.underlying134, ⟨Tryz.t134, _, by kernel_rfl, rfl, rfl, rfl, rfl⟩, rfl, rfl, by decide, by decide⟩
theorem tiok135 : TIOk Tryz.prog 135 ti135 := ⟨⟨_, Tryz.underlying135, rfl⟩, ⟨Tryz.t135, _, by kernel_rfl, rfl, rfl, rfl, rfl⟩, rfl, rfl, by decide, by decide⟩
theorem tiok136 : TIOk Tryz.prog 136 ti136 := ⟨⟨_, Tryz.underlying136, rfl⟩, ⟨Tryz.t136, _, by kernel_rfl, rfl, rfl, rfl, rfl⟩, rfl, rfl, by decide, by decide⟩
theorem tiok138 : TIOk Tryz.prog 138 ti138 := ⟨Tryz.underlying138, ⟨Tryz.t138, _, by kernel_rfl, rfl, rfl, rfl, rfl⟩, rfl, rfl, by decide, by decide⟩
theorem tiok147 : TIOk Tryz.prog 147 ti147 := ⟨⟨_, Tryz.underlying147, rfl⟩, ⟨Tryz.t147, _, by kernel_rfl, rfl, rfl, rfl, rfl⟩, rfl, rfl, by decide, by decide⟩
theorem tiok149 : TIOk Tryz.prog 149 ti149 := ⟨⟨_, Tryz.underlying149, rfl⟩, ⟨Tryz.t149, _, by kernel_rfl, rfl, rfl, rfl, rfl⟩, rfl, rfl, by decide, by decide⟩
theorem tiok156 : TIOk Tryz.prog 156 ti156 := ⟨⟨_, Tryz.underlying156, rfl⟩, ⟨Tryz.t156, _, by kernel_rfl, rfl, rfl, rfl, rfl⟩, rfl, rfl, by decide, by decide⟩
theorem tiok157 : TIOk Tryz.prog 157 ti157 := ⟨⟨_, Tryz.underlying157, rfl⟩, ⟨Tryz.t157, _, by kernel_rfl, rfl, rfl, rfl, rfl⟩, rfl, rfl, by decide, by decide⟩
theorem tiok160 : TIOk Tryz.prog 160 ti160 := ⟨⟨_, Tryz.underlying160, rfl⟩, ⟨Tryz.t160, _, by kernel_rfl, rfl, rfl, rfl, rfl⟩, rfl, rfl, by decide, by decide⟩
theorem tiok161 : TIOk Tryz.prog 161 ti161 := ⟨⟨_, Tryz.underlying161, rfl⟩, ⟨Tryz.t161, _, by kernel_rfl, rfl, rfl, rfl, rfl⟩, rfl, rfl, by decide, by decide⟩
theorem tiok167 : TIOk Tryz.prog 167 ti167 := ⟨Tryz.underlying167, ⟨Tryz.t167, _, by kernel_rfl, rfl, rfl, rfl, rfl⟩, rfl, rfl, by decide, by decide⟩
theorem tiok177 : TIOk Tryz.prog 177 ti177 := ⟨Tryz.underlying177, ⟨Tryz.t177, _, by kernel_rfl, rfl, rfl, rfl, rfl⟩, rfl, rfl, by decide, by decide⟩
theorem tiok185 : TIOk Tryz.prog 185 ti185 := ⟨Tryz.underlying185, ⟨Tryz.t185, _, by kernel_rfl, rfl, rfl, rfl, rfl⟩, rfl, rfl, by decide, by decide⟩
theorem tiok196 : TIOk Tryz.prog 196 ti196 := ⟨⟨_, Tryz.underlying196, rfl⟩, ⟨Tryz.t196, _, by kernel_rfl, rfl, rfl, rfl, rfl⟩, rfl, rfl, by decide, by decide⟩
theorem tiok215 : TIOk Tryz.prog 215 ti215 := ⟨Tryz.underlying215, ⟨Tryz.t215, _, by kernel_rfl, rfl, rfl, rfl, rfl⟩, rfl, rfl, by decide, by decide⟩
theorem tiok216 : TIOk Tryz.prog 216 ti216 := ⟨Tryz.underlying216, ⟨Tryz.t216, _, by kernel_rfl, rfl, rfl, rfl, rfl⟩, rfl, rfl, by decide, by decide⟩
theorem tiok234 : TIOk Tryz.prog 234 ti234 := ⟨Tryz.underlying234, ⟨Tryz.t234, _, by kernel_rfl, rfl, rfl, rfl, rfl⟩, rfl, rfl, by decide, by decide⟩
theorem tiok235 : TIOk Tryz.prog 235 ti235 := ⟨Tryz.underlying235, ⟨Tryz.t235, _, by kernel_rfl, rfl, rfl, rfl, rfl⟩, rfl, rfl, by decide, by decide⟩
theorem tiok237 : TIOk Tryz.prog 237 ti237 := ⟨Tryz.underlying237, ⟨Tryz.t237, _, by kernel_rfl, rfl, rfl, rfl, rfl⟩, rfl, rfl, by decide, by decide⟩
theorem tiok245 : TIOk Tryz.prog 245 ti245 := ⟨Tryz.underlying245, ⟨Tryz.t245, _, by kernel_rfl, rfl, rfl, rfl, rfl⟩, rfl, rfl, by decide, by decide⟩
theorem tiok246 : TIOk Tryz.prog 246 ti246 := ⟨Tryz.underlying246, ⟨Tryz.t246, _, by kernel_rfl, rfl, rfl, rfl, rfl⟩, rfl, rfl, by decide, by decide⟩
theorem tiok253 : TIOk Tryz.prog 253 ti253 := ⟨⟨_, Tryz.underlying253, rfl⟩, ⟨Tryz.t253, _, by kernel_rfl, rfl, rfl, rfl, rfl⟩, rfl, rfl, by decide, by decide⟩
theorem tiok254 : TIOk Tryz.prog 254 ti254 := ⟨⟨_, Tryz.underlying254, rfl⟩, ⟨Tryz.t254, _, by kernel_rfl, rfl, rfl, rfl, rfl⟩, rfl, rfl, by decide, by decide⟩
theorem tiok255 : TIOk Tryz.prog 255 ti255 := ⟨Tryz.underlying255, ⟨Tryz.t255, _, by kernel_rfl, rfl, rfl, rfl, rfl⟩, rfl, rfl, by decide, by decide⟩
theorem tiok256 : TIOk Tryz.prog 256 ti256 := ⟨⟨_, Tryz.underlying256, rfl⟩, ⟨Tryz.t256, _, by kernel_rfl, rfl, rfl, rfl, rfl⟩, rfl, rfl, by decide, by decide⟩
theorem tiok257 : TIOk Tryz.prog 257 ti257 := ⟨⟨_, Tryz.underlying257, rfl⟩, ⟨Tryz.t257, _, by kernel_rfl, rfl, rfl, rfl, rfl⟩, rfl, rfl, by decide, by decide⟩
theorem tiok262 : TIOk Tryz.prog 262 ti262 := ⟨Tryz.underlying262, ⟨Tryz.t262, _, by kernel_rfl, rfl, rfl, rfl, rfl⟩, rfl, rfl, by decide, by decide⟩
theorem tiok263 : TIOk Tryz.prog 263 ti263 := ⟨Tryz.underlying263, ⟨Tryz.t263, _, by kernel_rfl, rfl, rfl, rfl, rfl⟩, rfl, rfl, by decide, by decide⟩
theorem tiok265 : TIOk Tryz.prog 265 ti265 := ⟨Tryz.underlying265, ⟨Tryz.t265, _, by kernel_rfl, rfl, rfl, rfl, rfl⟩, rfl, rfl, by decide, by decide⟩
theorem tiok266 : TIOk Tryz.prog 266 ti266 := ⟨Tryz.underlying266, ⟨Tryz.t266, _, by kernel_rfl, rfl, rfl, rfl, rfl⟩, rfl, rfl, by decide, by decide⟩
theorem tiok267 : TIOk Tryz.prog 267 ti267 := ⟨Tryz.underlying267, ⟨Tryz.t267, _, by kernel_rfl, rfl, rfl, rfl, rfl⟩, rfl, rfl, by decide, by decide⟩
theorem tabOk : TabOk Tryz.prog tab := by
  intro t x h
  unfold tab at h
  split at h
  · cases h; exact tiok2
  · cases h; exact tiok3
  · cases h; exact tiok4
  · cases h; exact tiok5
  · cases h; exact tiok6
  · cases h; exact tiok7
  · cases h; exact tiok8
  · cases h; exact tiok9
  · cases h; exact tiok10
  · cases h; exact tiok11
  · cases h; exact tiok12
  · cases h; exact tiok13
  · cases h; exact tiok14
  · cases h; exact tiok15
  · cases h; exact tiok16
  · cases h; exact tiok17
  · cases h; exact tiok18
  · cases h; exact tiok19
  · cases h; exact tiok21
  · cases h; exact tiok22
  · cases h; exact tiok23
  · cases h; exact tiok24
  · cases h; exact tiok25
  · cases h; exact tiok26
  · cases h; exact tiok28
  · cases h; exact tiok29
  · cases h; exact tiok32
  · cases h; exact tiok33
  · cases h; exact tiok34
  · cases h; exact tiok35
  · cases h; exact tiok40
  · cases h; exact tiok41
  · cases h; exact tiok42
  · cases h; exact tiok43
  · cases h; exact tiok44
  · cases h; exact tiok45
  · cases h; exact tiok48
  · cases h; exact tiok49
  · cases h; exact tiok50
  · cases h; exact tiok51
  · cases h; exact tiok52
  · cases h; exact tiok63
  · cases h; exact tiok64
  · cases h; exact tiok69
  · cases h; exact tiok71
  · cases h; exact tiok81
  · cases h; exact tiok82
  · cases h; exact tiok83
  · cases h; exact tiok99
  · cases h; exact tiok100
  · cases h; exact tiok115
  · cases h; exact tiok126
  · cases h; exact tiok127
  · cases h; exact tiok128
  · cases h; exact tiok134
  · cases h; exact tiok135
  · cases h; exact tiok136
  · cases h; exact tiok138
  · cases h; exact tiok147
  · cases h; exact tiok149
  · cases h; exact tiok156
  · cases h; exact tiok157
  · cases h; exact tiok160
  · cases h; exact tiok161
  · cases h; exact tiok167
  · cases h; exact tiok177
  · cases h; exact tiok185
  · cases h; exact tiok196
  · cases h; exact tiok215
  · cases h; exact tiok216
  · cases h; exact tiok234
  · cases h; exact tiok235
  · cases h; exact tiok237
  · cases h; exact tiok245
  · cases h; exact tiok246
  · cases h; exact tiok253
  · cases h; exact tiok254
  · cases h; exact tiok255
  · cases h; exact tiok256
  · cases h; exact tiok257
  · cases h; exact tiok262
  · cases h; exact tiok263
  · cases h; exact tiok265
  · cases h; exact tiok266
  · cases h; exact tiok267
  · cases h
end Go.Proofs.YtilahgkblckndaaGreatDoor

namespace Go.Ab
open Go Go.RowKit
set_option linter.unusedVariables false
set_option linter.unusedSimpArgs false

def toI : D → Int | .i n => n | _ => 0
def toU : D → Int | .u n => n | _ => 0
def toB : D → Bool | .b x => x | _ => false
def toS : D → List UInt8 | .s l => l | _ => []
def toSl : D → List (List D) | .sl r => r | _ => []
def tyCell (z : C) (d : D) : D := match z with
  | .d (.i _) => .i (toI d)
  | .d (.u _) => .u (toU d)
  | .d (.b _) => .b (toB d)
  | .d (.s _) => .s (toS d)
  | .nil => .sl (toSl d)
  | _ => d
def tyCells : List C → List D → Nat → List D
  | [], _, _ => []
  | z :: zs, cs, k => tyCell z (cs.getD k (.i 0)) :: tyCells zs cs (k + 1)
def aggOrOne (ti : TI) (l : List D) : Option V := if ti.kind.agg then some (.e (.agg (l.map C.d))) else match l with | d :: _ => some (Dv d) | [] => none
def fLoad2 (T : Tab) (σ : St) (t : TypeId) : V → Option (Prop × List (Loc × Option K) × V)
  | .e (.c (.pe ob n i k)) => match T t, look σ (.o ob) with
    | some ti, some (.row e es rows) => match aggOrOne ti (tyCells ti.zero (rows.getD i []) k) with
      | some X => some ((rows.length = n ∧ i < n) ∧ k + ti.size ≤ (rows.getD i []).length ∧ ((rows.getD i []).drop k).take ti.size = tyCells ti.zero (rows.getD i []) k, [(.o ob, some (.row e es rows))], X)
      | none => none
    | _, _ => none
  | .e (.c (.rp cs)) => match T t with
    | some ti => match aggOrOne ti (tyCells ti.zero cs 0) with
      | some X => some (ti.size ≤ cs.length ∧ cs.take ti.size = tyCells ti.zero cs 0, [], X)
      | none => none
    | none => none
  | X => fLoad T σ t X
theorem aggOrOne_eq {ti : TI} {l : List D} {X : V} (h : aggOrOne ti l = some X) : (ti.kind.agg = true ∧ X = .e (.agg (l.map C.d))) ∨ (ti.kind.agg = false ∧ ∃ d r, l = d :: r ∧ X = Dv d) := by
  unfold aggOrOne at h
  split at h
  · rename_i ha; cases h; exact .inl ⟨ha, rfl⟩
  · rename_i ha
    split at h
    · cases h; exact .inr ⟨by simpa using ha, _, _, rfl, rfl⟩
    · cases h
theorem fLoad2_imp {P : Program} {T : Tab} (hT : TabOk P T) {σ : St} {t : TypeId} {X : V} {p : Prop} {R : List (Loc × Option K)} {Y : V} (h : fLoad2 T σ t X = some (p, R, Y)) (hp : p) : ∃ q, fLoad T σ t X = some (q, R, Y) ∧ q := by
  have hd : ∀ (l : List D) (k n : Nat) (m : List D) (d : D) (r : List D), 0 < n → k + n ≤ l.length → (l.drop k).take n = m → m = d :: r → l.getD k (.i 0) = d ∧ k < l.length := by
    intro l k n m d r hn hk h1 h2
    subst h1
    cases n with
    | zero => omega
    | succ n =>
      have hk' : k < l.length := by omega
      rw [List.drop_eq_getElem_cons hk', List.take_succ_cons] at h2
      cases h2
      exact ⟨by rw [List.getD_eq_getElem?_getD, List.getElem?_eq_getElem hk']; rfl, hk'⟩
  unfold fLoad2 at h
  split at h
  · rename_i ob n i k
    split at h <;> try (cases h; done)
    rename_i ti e es rows ht hl
    split at h <;> try (cases h; done)
    rename_i Z hz
    cases h
    obtain ⟨⟨h1, h2⟩, h3, h4⟩ := hp
    simp only [fLoad, ht, hl]
    rcases aggOrOne_eq hz with ⟨ha, rfl⟩ | ⟨ha, d, r, hm, rfl⟩
    · rw [if_pos ha]
      refine ⟨_, by rw [h4], ?_⟩; exact ⟨h1, h2, h3⟩
    · rw [if_neg (by simp [ha])]
      obtain ⟨q1, q2⟩ := hd _ _ _ _ d r (hT t ti ht).pos h3 h4 hm
      refine ⟨_, by rw [q1], ?_⟩; exact ⟨h1, h2, q2⟩
  · rename_i cs
    split at h <;> try (cases h; done)
    rename_i ti ht
    split at h <;> try (cases h; done)
    rename_i Z hz
    cases h
    obtain ⟨h3, h4⟩ := hp
    simp only [fLoad, ht]
    rcases aggOrOne_eq hz with ⟨ha, rfl⟩ | ⟨ha, d, r, hm, rfl⟩
    · rw [if_pos ha]
      refine ⟨_, by rw [h4], ?_⟩; exact h3
    · rw [if_neg (by simp [ha])]
      obtain ⟨q1, q2⟩ := hd cs 0 _ _ d r (hT t ti ht).pos (by simpa using h3) (by simpa using h4) hm
      refine ⟨_, by rw [q1], ?_⟩; exact q2
  · exact ⟨p, h, hp⟩
theorem good_imp1 {P : Program} {o : Oper} {σ : St} {x : Operand} {d : Option Tmp} {f g : V → Option (Prop × List (Loc × Option K) × V)} (hfg : ∀ X p R Y, g X = some (p, R, Y) → p → ∃ q, f X = some (q, R, Y) ∧ q)
    (h : Good P o σ (lift1 σ x d f)) : Good P o σ (lift1 σ x d g) := by
  intro p R W hg hp
  unfold lift1 at hg
  split at hg <;> try (cases hg; done)
  rename_i X Rx d hx
  split at hg <;> try (cases hg; done)
  rename_i p' R' Y hgx
  cases hg
  obtain ⟨q, h1, h2⟩ := hfg _ _ _ _ hgx hp
  exact h q _ _ (by simp only [lift1, hx, h1]) h2

theorem run_equal_bool {P : Program} {w : World} {t : TypeId} (hu : P.underlying t = some .bool) (x y : Bool) : (Op.equal t (.bool x) (.bool y)).run P w = .ok (x == y) w := by
  unfold Op.equal
  rw [show Op.maxDepth = (Op.maxDepth - 1) + 1 from rfl]
  unfold Op.equalIn
  rw [Sem.run_bind, run_underlying hu]; rfl
theorem run_binOp_bool {P : Program} {w : World} {t : TypeId} (hu : P.underlying t = some .bool) (x y : Bool) (ox oy : Operand) :
    (do eqGuard .eql t ox oy (.bool x) (.bool y); binOp .eql t (.bool x) (.bool y) : Sem Value).run P w = .ok (.bool (x == y)) w ∧
    (do eqGuard .neq t ox oy (.bool x) (.bool y); binOp .neq t (.bool x) (.bool y) : Sem Value).run P w = .ok (.bool (!(x == y))) w := by
  constructor
  · rw [Sem.run_bind, run_eqGuard_bool, Result.andThen_ok]
    show (do pure (.bool (← Op.equal t (.bool x) (.bool y))) : Sem Value).run P w = _
    rw [Sem.run_bind, run_equal_bool hu]; rfl
  · rw [Sem.run_bind, run_eqGuard_bool, Result.andThen_ok]
    show (do pure (.bool (!(← Op.equal t (.bool x) (.bool y)))) : Sem Value).run P w = _
    rw [Sem.run_bind, run_equal_bool hu]; rfl
def fBin2 (T : Tab) (t : TypeId) (op : BinOp) : V → V → Option (Prop × List (Loc × Option K) × V)
  | .e (.c (.d (.b x))), .e (.c (.d (.b y))) => match T t with
    | some ti => match ti.kind, op with
      | .bool, .eql => some (True, [], B (x == y))
      | .bool, .neq => some (True, [], B (!(x == y)))
      | _, _ => none
    | none => none
  | X, Y => fBin op X Y
def fBinB (T : Tab) (t : TypeId) (op : BinOp) : V → V → Option (Prop × List (Loc × Option K) × V)
  | .e (.c (.d (.b x))), .e (.c (.d (.b y))) => match T t with
    | some ti => match ti.kind, op with
      | .bool, .eql => some (True, [], B (x == y))
      | .bool, .neq => some (True, [], B (!(x == y)))
      | _, _ => none
    | none => none
  | X, Y => none
theorem good_binB {P : Program} {T : Tab} (hT : TabOk P T) {o : Oper} {σ0 : St} {op : BinOp} {t u : TypeId} {x y : Operand} (ho : o.op = .binOp op t x y u) : Good P o σ0 (lift2 σ0 x y o.dst (fBinB T t op)) := by
  refine good_lift2 fun X Y p R Z h hp => ?_
  unfold fBinB at h
  split at h
  · rename_i a b
    split at h <;> try (cases h; done)
    rename_i ti ht
    have hk : (ti.kind = .bool ∧ op = .eql ∧ R = [] ∧ Z = B (a == b)) ∨ (ti.kind = .bool ∧ op = .neq ∧ R = [] ∧ Z = B (!(a == b))) := by
      split at h
      · rename_i hk; cases h; exact .inl ⟨hk, rfl, rfl, rfl⟩
      · rename_i hk; cases h; exact .inr ⟨hk, rfl, rfl, rfl⟩
      · cases h
    have hu := (hT t ti ht).kind
    have hkk : ti.kind = .bool := by rcases hk with h | h <;> exact h.1
    rw [hkk] at hu; simp only [TKOk] at hu
    rcases hk with ⟨_, rfl, rfl, rfl⟩ | ⟨_, rfl, rfl, rfl⟩
    all_goals
      refine ⟨Reads.nil, fun cx σ ι S ac w _ _ hx hy => ?_⟩
      simp only [VaR, ER, CR] at hx hy
      cases hv : ac.eval x <;> rw [hv] at hx <;> cases hx
      cases hv2 : ac.eval y <;> rw [hv2] at hy <;> cases hy
    · refine ⟨_, ?_, .b _⟩
      have := (run_binOp_bool (w := w) hu a b x y).1
      unfold execOp; simp only [ho, hv, hv2]; rw [Sem.run_bind, this]; rfl
    · refine ⟨_, ?_, .b _⟩
      have := (run_binOp_bool (w := w) hu a b x y).2
      unfold execOp; simp only [ho, hv, hv2]; rw [Sem.run_bind, this]; rfl
  · cases h
theorem good_bin2 {P : Program} {T : Tab} (hT : TabOk P T) {o : Oper} {σ0 : St} {op : BinOp} {t u : TypeId} {x y : Operand} (ho : o.op = .binOp op t x y u) : Good P o σ0 (lift2 σ0 x y o.dst (fBin2 T t op)) := by
  intro p R W h hp
  unfold lift2 at h
  split at h <;> try (cases h; done)
  rename_i X Rx Y Ry d hd hx hy
  split at h <;> try (cases h; done)
  rename_i p' R' Z hf
  cases h
  unfold fBin2 at hf
  split at hf
  · exact good_binB (P := P) (σ0 := σ0) hT ho p _ _ (by simp only [lift2, hx, hy, hd, fBinB]; simp only [hf]) hp
  · exact good_bin (P := P) (σ := σ0) ho p _ _ (by simp only [lift2, hx, hy, hf, hd]) hp

def aConv2 (T : Tab) (o : Oper) (σ : St) (s d : TypeId) (x : Operand) : Res :=
  match T s, T d with
  | some si, some di => match si.kind, di.kind with
    | .sl e, .str => match T e with
      | some ei => match ei.kind with
        | .int .u8 => lift1 σ x o.dst (fB2S σ)
        | _ => none
      | none => none
    | .str, .sl e => match T e with
      | some ei => match ei.kind with
        | .int .u8 => aS2B σ x e o.dst
        | _ => none
      | none => none
    | _, _ => astep T o σ
  | _, _ => none
def aCall2 (T : Tab) (o : Oper) (σ : St) (c : Call) : Res :=
  match c.callee, c.args.toList, c.argTypes.toList with
  | .builtin .copy, [x, y], [t, t2] => aCopy T σ t t2 x y o.dst
  | _, _, _ => astep T o σ
def astep2 (T : Tab) (o : Oper) (σ : St) : Res :=
  match o.op with
  | .load t x => lift1 σ x o.dst (fLoad2 T σ t)
  | .binOp op t x y u => lift2 σ x y o.dst (fBin2 T t op)
  | .convert s d x => aConv2 T o σ s d x
  | .call c => aCall2 T o σ c
  | _ => astep T o σ
theorem good_conv2 {P : Program} {T : Tab} (hT : TabOk P T) {o : Oper} {σ : St} {s d : TypeId} {x : Operand} (ho : o.op = .convert s d x) : Good P o σ (aConv2 T o σ s d x) := by
  unfold aConv2
  split
  · rename_i si di hs hd
    split
    · rename_i e hk1 hk2
      split
      · rename_i ei he
        split
        · rename_i hek
          exact good_b2s hT ho hs hk1 he hek hd hk2
        · exact good_none
      · exact good_none
    · rename_i e hk1 hk2
      split
      · rename_i ei he
        split
        · rename_i hek
          exact good_s2b hT ho hs hk1 he hek hd hk2
        · exact good_none
      · exact good_none
    · exact good_astep hT o σ
  · exact good_none
theorem good_call2 {P : Program} {T : Tab} (hT : TabOk P T) {o : Oper} {σ : St} {c : Call} (ho : o.op = .call c) : Good P o σ (aCall2 T o σ c) := by
  obtain ⟨callee, args, argTypes⟩ := c
  unfold aCall2
  dsimp only
  split
  · rename_i x y t t2 ha hat
    obtain rfl : args = #[x, y] := Array.toList_inj.1 (by simpa using ha)
    obtain rfl : argTypes = #[t, t2] := Array.toList_inj.1 (by simpa using hat)
    exact good_copy hT ho
  · exact good_astep hT o σ
theorem good_astep2 {P : Program} {T : Tab} (hT : TabOk P T) (o : Oper) (σ : St) : Good P o σ (astep2 T o σ) := by
  unfold astep2
  split
  · rename_i ho; exact good_imp1 (fun X p R Y h hp => fLoad2_imp hT h hp) (good_load hT ho)
  · rename_i ho; exact good_bin2 hT ho
  · rename_i ho; exact good_conv2 hT ho
  · rename_i ho; exact good_call2 hT ho
  · exact good_astep hT o σ

def locEq : Loc → Loc → Bool
  | .t a, .t b => Nat.beq a b
  | .o a, .o b => Nat.beq a b
  | _, _ => false
theorem locEq_iff {a b : Loc} : locEq a b = true ↔ a = b := by
  cases a <;> cases b <;> simp [locEq]
def updK : St → Loc → K → (St → Prop) → Prop
  | [], m, k, c => c [(m, k)]
  | p :: r, m, k, c => match locEq p.1 m with
    | true => c ((m, k) :: r)
    | false => updK r m k fun r' => c (p :: r')
theorem updK_iff : ∀ {σ : St} {m : Loc} {k : K} {c : St → Prop}, updK σ m k c ↔ c (upd σ m k)
  | [], m, k, c => Iff.rfl
  | p :: r, m, k, c => by
    unfold updK upd
    by_cases h : p.1 = m
    · rw [locEq_iff.2 h, if_pos h]
    · have : locEq p.1 m = false := by rw [← Bool.not_eq_true, locEq_iff]; exact h
      rw [this, if_neg h]
      exact updK_iff
def forceL : List C → (List C → Prop) → Prop
  | [], c => c []
  | x :: r, c => forceL r fun r' => c (x :: r')
theorem forceL_iff : ∀ {l : List C} {c : List C → Prop}, forceL l c ↔ c l
  | [], c => Iff.rfl
  | x :: r, c => by unfold forceL; exact forceL_iff
def forceK : K → (K → Prop) → Prop
  | .box ty cs, c => forceL cs fun cs' => c (.box ty cs')
  | k, c => c k
theorem forceK_iff {k : K} {c : K → Prop} : forceK k c ↔ c k := by
  cases k <;> simp only [forceK]
  exact forceL_iff
def updsK : St → List (Loc × K) → (St → Prop) → Prop
  | σ, [], c => c σ
  | σ, p :: r, c => forceK p.2 fun k => updK σ p.1 k fun σ' => updsK σ' r c
theorem updsK_iff : ∀ {W : List (Loc × K)} {σ : St} {c : St → Prop}, updsK σ W c ↔ c (upds σ W)
  | [], σ, c => Iff.rfl
  | p :: r, σ, c => by unfold updsK upds; rw [forceK_iff, updK_iff]; exact updsK_iff
def stepS (P : Program) (T : Tab) (o : Oper) (σ : St) (k : List (Loc × Option K) → List (Loc × K) → Prop) : Prop :=
  match astep2 T o σ with
  | some (p, R, W) => p ∧ k R W
  | none => ∃ R W, OpT P o R W ∧ Reads R σ ∧ k R W
theorem stepS_sound {P : Program} {T : Tab} (hT : TabOk P T) {o : Oper} {σ : St} {k : List (Loc × Option K) → List (Loc × K) → Prop} (h : stepS P T o σ k) : ∃ R W, OpT P o R W ∧ Reads R σ ∧ k R W := by
  unfold stepS at h
  split at h
  · rename_i p R W he
    obtain ⟨h1, h2⟩ := good_astep2 hT o σ p R W he h.1
    exact ⟨R, W, h1, h2, h.2⟩
  · exact h
def goS (P : Program) (T : Tab) (ops : List Oper) (dr : Bool) : List Oper → St → List RWN → (St → List RWN → Prop) → Prop
  | [], σ, acc, k => k σ acc
  | o :: os, σ, acc, k => match o.guard with
    | none => stepS P T o σ fun R W => updsK σ W fun σ' => goS P T ops dr os σ' (match dr with | true => acc ++ [rwN (R, W)] | false => []) k
    | some (j, want) => match (ops[j]?).bind (·.dst) with
      | some s => match look σ (.t s) with
        | some (.v (.e (.c (.d (.b x))))) =>
          (x = want → stepS P T o σ fun R W => updsK σ W fun σ' => goS P T ops dr os σ' (match dr with | true => acc ++ [rwN ((.t s, none) :: R, W)] | false => []) k) ∧
          (x = !want → updsK σ (skipW o) fun σ' => goS P T ops dr os σ' (match dr with | true => acc ++ [rwN ([(.t s, none)], skipW o)] | false => []) k)
        | _ => False
      | none => False
theorem goS_sound {P : Program} {T : Tab} (hT : TabOk P T) {ops : Array Oper} {dr : Bool} {k : St → List RWN → Prop} : ∀ (l : List Oper) (σ : St) (acc : List RWN), goS P T ops.toList dr l σ acc k →
    ∃ ts : List Trip, ItAll P ops l ts ∧ ReadsAll ts σ ∧ ∃ acc', (dr = true → acc' = acc ++ ts.map rwN) ∧ k (runAll ts σ) acc'
  | [], σ, acc, h => ⟨[], trivial, trivial, acc, fun _ => by simp, by simpa [goS, runAll] using h⟩
  | o :: os, σ, acc, h => by
    simp only [goS] at h
    split at h
    · rename_i hg
      obtain ⟨R, W, h1, h2, h3⟩ := stepS_sound hT h
      rw [updsK_iff] at h3
      obtain ⟨ts, q1, q2, acc', q3, q4⟩ := goS_sound hT os _ _ h3
      refine ⟨(R, W) :: ts, ⟨it_plain hg h1, q1⟩, ⟨h2, q2⟩, acc', fun hd => ?_, by simpa [runAll] using q4⟩
      rw [q3 hd]; subst hd; simp
    · rename_i j want hg
      split at h <;> try (exact h.elim)
      rename_i s hs
      split at h <;> try (exact h.elim)
      rename_i x hl
      have hs' : (ops[j]?).bind (·.dst) = some s := by simpa using hs
      by_cases hx : x = want
      · subst hx
        obtain ⟨R, W, h1, h2, h3⟩ := stepS_sound hT (h.1 rfl)
        rw [updsK_iff] at h3
        obtain ⟨ts, q1, q2, acc', q3, q4⟩ := goS_sound hT os _ _ h3
        refine ⟨((.t s, some (.v (B x))) :: R, W) :: ts, ⟨it_guard hg hs' h1, q1⟩, ⟨fun p hp => ?_, q2⟩, acc', fun hd => ?_, by simpa [runAll] using q4⟩
        · rcases List.mem_cons.1 hp with rfl | hp
          · exact hl
          · exact h2 p hp
        · rw [q3 hd]; subst hd; simp [rwN]
      · have hx' : x = !want := by cases x <;> cases want <;> simp_all
        have h3 := h.2 hx'
        rw [updsK_iff] at h3
        obtain ⟨ts, q1, q2, acc', q3, q4⟩ := goS_sound hT os _ _ h3
        subst hx'
        refine ⟨([(.t s, some (.v (B (!want))))], skipW o) :: ts, ⟨it_skip hg hs' rfl, q1⟩, ⟨Reads.one hl, q2⟩, acc', fun hd => ?_, by simpa [runAll] using q4⟩
        rw [q3 hd]; subst hd; simp [rwN]
section
variable {P : Program} {io : List Nat} {Q : Ex → St → Prop} {σ : St}
theorem SW.text {T : Tab} (hT : TabOk P T) (hm : P.follows .mixedOrders = true) {id : Nat} {ops : Array Oper} (h : goS P T ops.toList false ops.toList σ [] fun σ' _ => Q .norm σ') : SW P io (.region id ops false) Q σ := by
  intro cx ι S a w hio hw hf
  have hfit : ∀ o ∈ ops.toList, ∀ d, o.dst = some d → d < cx.N := fun o ho => fit_of (by simpa [fits] using hf) ho
  obtain ⟨ts, h1, h2, acc, _, h4⟩ := goS_sound hT ops.toList σ [] h
  exact wp_region_list (text_order ops.toList ts σ ι S a w h1 h2 hw hfit fun ι' S' a' w' hw' => ⟨_, ι', S', h4, hw'⟩)
theorem SW.drawn {T : Tab} (hT : TabOk P T) (hm : P.follows .mixedOrders = true) {id : Nat} {ops : Array Oper} (h : goS P T ops.toList true ops.toList σ [] fun σ' ns => orderN ops.toList ns = true ∧ Q .norm σ') : SW P io (.region id ops true) Q σ := by
  intro cx ι S a w hio hw hf
  have hfit : ∀ o ∈ ops.toList, ∀ d, o.dst = some d → d < cx.N := fun o ho => fit_of (by simpa [fits] using hf) ho
  obtain ⟨ts, h1, h2, acc, h3, h4, h5⟩ := goS_sound hT ops.toList σ [] h
  have h3 := h3 rfl
  rw [List.nil_append] at h3
  subst h3
  have hlen : ∀ (l : List Oper) (ts : List Trip), ItAll P ops l ts → ts.length = l.length ∧ ∀ (i : Nat) o t, l[i]? = some o → ts[i]? = some t → ItT P ops o t := by
    intro l
    induction l with
    | nil => intro ts h; cases ts with
      | nil => exact ⟨rfl, by simp⟩
      | cons t ts => exact h.elim
    | cons o os ih => intro ts h; cases ts with
      | nil => exact h.elim
      | cons t ts =>
        obtain ⟨q1, q2⟩ := ih ts h.2
        refine ⟨by simp [q1], fun i o' t' ho ht => ?_⟩
        cases i with
        | zero => simp at ho ht; subst ho; subst ht; exact h.1
        | succ i => exact q2 i o' t' (by simpa using ho) (by simpa using ht)
  obtain ⟨q1, q2⟩ := hlen _ _ h1
  refine wp_region_any hm (any_order (cx := cx) (σ := σ) (ts := ts) (by simpa using q1) (fun i o t ho ht => q2 i o t (by simpa using ho) ht) h2 (by simpa [orderOk, orderN] using h4) hfit (fun ι' S' a' w' hw' => ⟨_, ι', S', h5, hw'⟩)
    ops.size (Array.replicate ops.size false) σ ι S a _ (by simp) (fun l => ?_) hw.drew (fun k o ho hk => ?_) ?_)
  · have hL : ∀ i, (Array.replicate ops.size false).getD i false = false := fun i => by
      rw [Array.getD_eq_getD_getElem?, Array.getElem?_replicate]; split <;> rfl
    have : ∀ n, part ts (fun i => (Array.replicate ops.size false).getD i false) σ l n = look σ l := by
      intro n
      induction n with
      | zero => rfl
      | succ n ih => rw [part_succ, if_neg (by rw [hL]; simp), ih]
    rw [this]
  · rw [Array.getD_eq_getD_getElem?, Array.getElem?_replicate] at hk; split at hk <;> cases hk
  · exact Nat.le_trans (List.length_filter_le _ _) (by simp)
end
end Go.Ab

namespace Go.Ab
open Go Go.RowKit
set_option linter.unusedVariables false
set_option linter.unusedSimpArgs false

def keep (ks : List Nat) : St → St
  | [] => []
  | (.t s, k) :: r => match memN s ks with | true => (.t s, k) :: keep ks r | false => keep ks r
  | (.o n, k) :: r => (.o n, k) :: keep ks r
def keepK (ks : List Nat) : St → (St → Prop) → Prop
  | [], c => c []
  | (.t s, k) :: r, c => match memN s ks with | true => keepK ks r fun r' => c ((.t s, k) :: r') | false => keepK ks r c
  | (.o n, k) :: r, c => keepK ks r fun r' => c ((.o n, k) :: r')
theorem keepK_iff {ks : List Nat} : ∀ {σ : St} {c : St → Prop}, keepK ks σ c ↔ c (keep ks σ)
  | [], c => Iff.rfl
  | (.t s, k) :: r, c => by
    unfold keepK keep
    cases memN s ks
    · exact keepK_iff
    · exact keepK_iff
  | (.o n, k) :: r, c => by unfold keepK keep; exact keepK_iff
theorem look_keep_o (ks : List Nat) : ∀ (σ : St) (o : Nat), look (keep ks σ) (.o o) = look σ (.o o)
  | [], o => rfl
  | (.t s, k) :: r, o => by
    unfold keep
    cases memN s ks
    · simp only [look]; rw [if_neg (by simp)]; exact look_keep_o ks r o
    · simp only [look]; rw [if_neg (by simp), if_neg (by simp)]; exact look_keep_o ks r o
  | (.o n, k) :: r, o => by
    unfold keep
    simp only [look]
    rw [look_keep_o ks r o]
theorem look_keep_t (ks : List Nat) : ∀ (σ : St) (s : Nat) (k : K), look (keep ks σ) (.t s) = some k → look σ (.t s) = some k
  | [], s, k, h => h
  | (.t a, x) :: r, s, k, h => by
    unfold keep at h
    cases hm : memN a ks with
    | false =>
      rw [hm] at h
      simp only [look]
      by_cases e : a = s
      · -- the slot was dropped: then it is nowhere
        have hno : ∀ (r : St), look (keep ks r) (.t a) = none := by
          intro r
          induction r with
          | nil => rfl
          | cons p r ih =>
            obtain ⟨l, y⟩ := p
            cases l with
            | o n => unfold keep; simp only [look]; rw [if_neg (by simp)]; exact ih
            | t b =>
              unfold keep
              cases hb : memN b ks with
              | false => exact ih
              | true =>
                simp only [look]
                by_cases e2 : b = a
                · subst e2; rw [hm] at hb; cases hb
                · rw [if_neg (by simpa using e2)]; exact ih
        subst e
        have h : look (keep ks r) (.t a) = some k := h
        rw [hno r] at h; cases h
      · rw [if_neg (by simpa using e)]; exact look_keep_t ks r s k h
    | true =>
      rw [hm] at h
      simp only [look] at h ⊢
      by_cases e : Loc.t a = Loc.t s
      · rw [if_pos e] at h ⊢; exact h
      · rw [if_neg e] at h ⊢; exact look_keep_t ks r s k h
  | (.o n, x) :: r, s, k, h => by
    unfold keep at h
    simp only [look] at h ⊢
    rw [if_neg (by simp)] at h ⊢
    exact look_keep_t ks r s k h
theorem RW.keep (ks : List Nat) {P : Program} {cx : Cx P} {σ : St} {ι : Nat → Value} {S : Nat → Prop} {a : Act} {w : World} (h : RW cx σ ι S a w) : RW cx (keep ks σ) ι S a w := by
  have st : Step σ ι S w (Ab.keep ks σ) ι S w := ⟨fun _ h => h, fun _ _ => rfl, fun o k hk => ⟨k, by rw [look_keep_o]; exact hk, Evo.refl' _ _⟩⟩
  have hmut : ∀ o b, Mut (Ab.keep ks σ) ι o b ↔ Mut σ ι o b := fun o b => by unfold Mut; rw [look_keep_o]
  refine ⟨⟨fun s x hx => SlotR.step st (h.vr.slots s x (look_keep_t ks σ s _ hx)), fun o k hk => OR.step st (fun _ _ => rfl) (h.vr.objs o k (by rw [← look_keep_o ks]; exact hk)), fun o b q => h.vr.mutS o b ((hmut o b).1 q), fun o o' b q q' => h.vr.inj o o' b ((hmut o b).1 q) ((hmut o' b).1 q'), h.vr.sz⟩,
    h.size, h.defers, h.fr, fun o b q => h.own o b ((hmut o b).1 q), h.rd, fun o k hk => by rw [look_keep_o]; exact h.io o k hk⟩

section
variable {P : Program} {io : List Nat} {Q : Ex → St → Prop} {σ : St}
theorem SW.keep (ks : List Nat) {c : Code} (h : keepK ks σ (SW P io c Q)) : SW P io c Q σ := by
  rw [keepK_iff] at h
  intro cx ι S a w hio hw hf
  exact h cx ι S a w hio (hw.keep ks) hf
theorem SW.mid (J : St → Prop) {x y : Code} (h : SW P io x (thenQ J Q) σ) (hy : ∀ s, J s → SW P io y Q s) : SW P io (.seq x y) Q σ :=
  SW.seq (h.mono fun e s hq => by
    cases e with
    | norm => exact hy s hq
    | exit id => exact hq
    | ret => exact hq)
end
theorem retOk {T : Tab} {io : List Nat} {rs : List ResultVar} {σout s : St} (X : V) (rl : List (Nat × Nat)) (bor : List Nat) (h1 : retV T s rs = some X) (h2 : mL ((.t 0, .v X) :: objPart s) σout rl bor σout) (h3 : mapOk σout rl bor = true) (h4 : retIo io σout rl bor = true) : RetOk T io rs σout s :=
  ⟨X, rl, bor, h1, ⟨h2, h3⟩, h4⟩
theorem retOk1 {T : Tab} {io : List Nat} {rs : List ResultVar} {s : St} {x y : D} (h1 : retV T s rs = some (Dv x)) (h2 : x = y) : RetOk T io rs [(.t 0, .v (Dv y))] s :=
  ⟨Dv x, [], [], h1, ⟨⟨⟨Dv x, rfl, h2⟩, trivial⟩, rfl⟩, by simp [retIo, objIds, apartN]; exact fun x _ => .inl rfl⟩
end Go.Ab

namespace Go.Ab
open Go Go.RowKit
set_option linter.unusedVariables false
set_option linter.unusedSimpArgs false

def gb (want x : Bool) : Bool := match want with | true => x | false => !x
def gOf (want : Bool) : Option K → Option Bool
  | some (.v (.e (.c (.d (.b x))))) => some (gb want x)
  | some (.cv _ _ b (.e (.c (.d (.b x))))) => some (b && gb want x)
  | _ => none
def assume (s : Nat) (want : Bool) : St → St
  | [] => []
  | (.t t, .cv s' want' b X) :: r => match Nat.beq s' s && (want' == want) with
    | true => (.t t, .v X) :: assume s want r
    | false => (.t t, .cv s' want' b X) :: assume s want r
  | p :: r => p :: assume s want r
def readOk (σ : St) : List (Loc × Option K) → Prop
  | [] => True
  | p :: r => match look σ p.1, p.2 with
    | some (.cv _ _ b _), some (.v _) => b = true ∧ readOk σ r
    | _, _ => readOk σ r
def actual (σ : St) (R : List (Loc × Option K)) : List (Loc × Option K) := R.map fun p => (p.1, look σ p.1)

theorem look_assume (s : Nat) (want : Bool) : ∀ (σ : St) (l : Loc), look (assume s want σ) l = look σ l ∨ ∃ s' w' b X, look σ l = some (.cv s' w' b X) ∧ look (assume s want σ) l = some (.v X)
  | [], l => .inl rfl
  | (.t t, .v X) :: r, l => by
    simp only [assume, look]
    by_cases e : Loc.t t = l
    · rw [if_pos e, if_pos e]; exact .inl rfl
    · rw [if_neg e, if_neg e]; exact look_assume s want r l
  | (.t t, .box a b) :: r, l => by
    simp only [assume, look]
    by_cases e : Loc.t t = l
    · rw [if_pos e, if_pos e]; exact .inl rfl
    · rw [if_neg e, if_neg e]; exact look_assume s want r l
  | (.t t, .row a b c) :: r, l => by
    simp only [assume, look]
    by_cases e : Loc.t t = l
    · rw [if_pos e, if_pos e]; exact .inl rfl
    · rw [if_neg e, if_neg e]; exact look_assume s want r l
  | (.t t, .dead) :: r, l => by
    simp only [assume, look]
    by_cases e : Loc.t t = l
    · rw [if_pos e, if_pos e]; exact .inl rfl
    · rw [if_neg e, if_neg e]; exact look_assume s want r l
  | (.o t, k) :: r, l => by
    simp only [assume, look]
    by_cases e : Loc.o t = l
    · rw [if_pos e, if_pos e]; exact .inl rfl
    · rw [if_neg e, if_neg e]; exact look_assume s want r l
  | (.t t, .cv s' w' b X) :: r, l => by
    simp only [assume]
    cases Nat.beq s' s && (w' == want) with
    | true =>
      simp only [look]
      by_cases e : Loc.t t = l
      · rw [if_pos e, if_pos e]; exact .inr ⟨s', w', b, X, rfl, rfl⟩
      · rw [if_neg e, if_neg e]; exact look_assume s want r l
    | false =>
      simp only [look]
      by_cases e : Loc.t t = l
      · rw [if_pos e, if_pos e]; exact .inl rfl
      · rw [if_neg e, if_neg e]; exact look_assume s want r l

theorem RW.reslot {P : Program} {cx : Cx P} {σ σ2 : St} {ι : Nat → Value} {S : Nat → Prop} {a : Act} {w : World} (h : RW cx σ ι S a w) (ho : ∀ o, look σ2 (.o o) = look σ (.o o)) (hs : ∀ t k, look σ2 (.t t) = some k → SlotR σ ι w S k (tmpsOf a t)) : RW cx σ2 ι S a w := by
  have st : Step σ ι S w σ2 ι S w := ⟨fun _ h => h, fun _ _ => rfl, fun o k hk => ⟨k, by rw [ho]; exact hk, Evo.refl' _ _⟩⟩
  have hmut : ∀ o b, Mut σ2 ι o b ↔ Mut σ ι o b := fun o b => by unfold Mut; rw [ho]
  exact ⟨⟨fun s x hx => SlotR.step st (hs s x hx), fun o k hk => OR.step st (fun _ _ => rfl) (h.vr.objs o k (by rw [← ho]; exact hk)), fun o b q => h.vr.mutS o b ((hmut o b).1 q), fun o o' b q q' => h.vr.inj o o' b ((hmut o b).1 q) ((hmut o' b).1 q'), h.vr.sz⟩,
    h.size, h.defers, h.fr, fun o b q => h.own o b ((hmut o b).1 q), h.rd, fun o k hk => by rw [ho]; exact h.io o k hk⟩

theorem readOk_mem {σ : St} : ∀ {R : List (Loc × Option K)}, readOk σ R → ∀ p ∈ R, ∀ s w b X Y, look σ p.1 = some (.cv s w b X) → p.2 = some (.v Y) → b = true
  | [], _, p, hp => by cases hp
  | q :: r, h, p, hp => by
    intro s w b X Y hl hy
    rcases List.mem_cons.1 hp with rfl | hp
    · simp only [readOk, hl, hy] at h; exact h.1
    · refine readOk_mem (R := r) ?_ p hp s w b X Y hl hy
      simp only [readOk] at h
      split at h
      · exact h.2
      · exact h

theorem wanted_iff {P : Program} {cx : Cx P} {σ : St} {ι : Nat → Value} {S : Nat → Prop} {a : Act} {w : World} (hw : RW cx σ ι S a w) {ops : Array Oper} {o : Oper} {j s : Nat} {want g : Bool} (hg : o.guard = some (j, want)) (hs : (ops[j]?).bind (·.dst) = some s) (hl : gOf want (look σ (.t s)) = some g) :
    Region.wanted o (yielded ops a.tmps) = g := by
  have key : ∀ x, tmpsOf a s = .bool x → yielded ops a.tmps j = some x := by
    intro x h2
    have h3 : a.tmps[s]? = some (.bool x) := by
      unfold tmpsOf at h2
      rw [Array.getD_eq_getD_getElem?] at h2
      cases hq : a.tmps[s]? with
      | none => rw [hq] at h2; simp [undef] at h2
      | some v => rw [hq] at h2; simp at h2; rw [h2]
    simp [yielded, hs, h3]
  have keyu : tmpsOf a s = undef → yielded ops a.tmps j = none := by
    intro h2
    unfold tmpsOf at h2
    rw [Array.getD_eq_getD_getElem?] at h2
    cases hq : a.tmps[s]? with
    | none => simp [yielded, hs, hq]
    | some v => rw [hq] at h2; simp at h2; simp [yielded, hs, hq, h2, undef]
  unfold gOf at hl
  split at hl
  · rename_i x hx
    cases hl
    have h1 := hw.vr.slots s _ hx
    simp only [SlotR, VaR, ER, CR] at h1
    have h2 : tmpsOf a s = .bool x := by generalize tmpsOf a s = v at h1; cases h1; rfl
    cases want <;> cases x <;> simp [Region.wanted, hg, key _ h2, gb]
  · rename_i s' w' b x hx
    cases hl
    have h1 := hw.vr.slots s _ hx
    cases b with
    | true =>
      have h1 := h1.1 rfl
      simp only [VaR, ER, CR] at h1
      have h2 : tmpsOf a s = .bool x := by generalize tmpsOf a s = v at h1; cases h1; rfl
      cases want <;> cases x <;> simp [Region.wanted, hg, key _ h2, gb]
    | false =>
      have h2 := h1.2 rfl
      simp [Region.wanted, hg, keyu h2]
  · cases hl

theorem look_assume_o (s : Nat) (want : Bool) : ∀ (σ : St) (o : Nat), look (assume s want σ) (.o o) = look σ (.o o)
  | [], l => rfl
  | (.o t, k) :: r, l => by
    simp only [assume, look]
    rw [look_assume_o s want r l]
  | (.t t, .v X) :: r, l => by simp only [assume, look]; rw [if_neg (by simp), if_neg (by simp)]; exact look_assume_o s want r l
  | (.t t, .box a b) :: r, l => by simp only [assume, look]; rw [if_neg (by simp), if_neg (by simp)]; exact look_assume_o s want r l
  | (.t t, .row a b c) :: r, l => by simp only [assume, look]; rw [if_neg (by simp), if_neg (by simp)]; exact look_assume_o s want r l
  | (.t t, .dead) :: r, l => by simp only [assume, look]; rw [if_neg (by simp), if_neg (by simp)]; exact look_assume_o s want r l
  | (.t t, .cv s' w' b X) :: r, l => by
    simp only [assume]
    cases Nat.beq s' s && (w' == want) <;> (simp only [look]; rw [if_neg (by simp), if_neg (by simp)]; exact look_assume_o s want r l)
theorem wr_mem' : ∀ {W : List (Loc × K)} {l : Loc} {k : K}, wr W l = some k → (l, k) ∈ W
  | [], l, k, h => by cases h
  | p :: r, l, k, h => by
    unfold wr at h
    cases hq : wr r l with
    | some k' => rw [hq] at h; cases h; exact List.mem_cons_of_mem _ (wr_mem' hq)
    | none =>
      rw [hq] at h
      simp only at h
      split at h
      · rename_i e; cases h; rw [← e]; exact List.mem_cons_self ..
      · cases h
def bare (p : Loc × Option K) : Option (Loc × K) := match p.2 with
  | some (.v X) => some (p.1, .v X)
  | _ => none
theorem it_cond {P : Program} {ops : Array Oper} {o : Oper} {σ : St} {R : List (Loc × Option K)} {X : V} {d j s : Nat} {want g : Bool} (hg : o.guard = some (j, want)) (hs : (ops[j]?).bind (·.dst) = some s) (hd : o.dst = some d) (hl : gOf want (look σ (.t s)) = some g)
    (hop : g = true → OpT P o R [(.t d, .v X)] ∧ Reads R (assume s want σ)) (hok : g = true → readOk σ R) : ItT P ops o ((.t s, look σ (.t s)) :: actual σ R, [(.t d, .cv s want g X)]) := by
  intro cx σ1 ι S a w hr hw hb next Q hn
  have hls : look σ1 (.t s) = look σ (.t s) := hr (.t s, look σ (.t s)) (List.mem_cons_self ..)
  have hact : ∀ p ∈ R, look σ1 p.1 = look σ p.1 := fun p hp => hr (p.1, look σ p.1) (List.mem_cons_of_mem _ (List.mem_map.2 ⟨p, hp, rfl⟩))
  rw [wanted_iff hw hg hs (by rw [hls]; exact hl)]
  have hdN := hb d hd
  cases g with
  | false =>
    rw [if_neg (by simp)]
    rw [hd]
    have h1 := hw.putDead hdN undef
    refine hn ι S _ w (h1.reslot (fun o => by simp only [upds]; rw [look_upd_ne _ _ (by simp), look_upd_ne _ _ (by simp)]) fun t k hk => ?_)
    simp only [upds] at hk
    rw [look_upd] at hk
    split at hk
    · rename_i e; cases e; cases hk
      refine ⟨(by simp), fun _ => ?_⟩
      rw [tmpsOf_put (by rw [hw.size]; exact hdN), if_pos rfl]
    · rename_i e
      exact h1.vr.slots t k (by rw [look_upd_ne _ _ e]; exact hk)
  | true =>
    rw [if_pos rfl]
    left
    obtain ⟨hop, hrd⟩ := hop rfl
    have hok := hok rfl
    let L : List (Loc × K) := R.filterMap bare
    have hL : ∀ l k, (l, k) ∈ L → ∃ Y, k = .v Y ∧ look (assume s want σ) l = some (.v Y) ∧ look σ1 l = look σ l ∧ (look σ l = some (.v Y) ∨ ∃ s' w', look σ l = some (.cv s' w' true Y)) := by
      intro l k hm
      obtain ⟨p, hp, hpe⟩ := List.mem_filterMap.1 hm
      obtain ⟨pl, pk⟩ := p
      unfold bare at hpe
      split at hpe
      · rename_i e1 Y e2
        cases hpe
        simp only at e2 ⊢
        have h1 := hrd _ hp
        simp only at h1
        refine ⟨Y, rfl, h1.trans e2, hact _ hp, ?_⟩
        rcases look_assume s want σ pl with h3 | ⟨s2, w2, b2, X2, h3, h4⟩
        · left; rw [← h3, h1, e2]
        · rw [h4, e2] at h1; cases h1
          have := readOk_mem hok _ hp _ _ _ _ _ h3 e2
          subst this
          exact .inr ⟨_, _, h3⟩
      · cases hpe
    have hσ2 : ∀ l, look (upds σ1 L) l = look σ1 l ∨ ∃ Y s' w', look (upds σ1 L) l = some (.v Y) ∧ look σ1 l = some (.cv s' w' true Y) := by
      intro l
      rw [look_upds]
      cases hq : wr L l with
      | none => exact .inl rfl
      | some k =>
        obtain ⟨Y, rfl, h1, h2, h3⟩ := hL l k (wr_mem' hq)
        rcases h3 with h3 | ⟨s', w', h3⟩
        · left; rw [h2, h3]
        · right; exact ⟨Y, s', w', rfl, by rw [h2, h3]⟩
    have hσ2o : ∀ o, look (upds σ1 L) (.o o) = look σ1 (.o o) := by
      intro o'
      rw [look_upds]
      cases hq : wr L (.o o') with
      | none => rfl
      | some k =>
        obtain ⟨Y, rfl, h1, h2, h3⟩ := hL _ k (wr_mem' hq)
        rw [look_assume_o] at h1
        rw [h2, h1]
    have hrw2 : RW cx (upds σ1 L) ι S a w := hw.reslot hσ2o fun t k hk => by
      rcases hσ2 (.t t) with h | ⟨Y, s', w', h1, h2⟩
      · rw [h] at hk; exact hw.vr.slots t k hk
      · rw [h1] at hk; cases hk
        exact (hw.vr.slots t _ h2).1 rfl
    have hrd2 : Reads R (upds σ1 L) := by
      intro p hp
      have h1 := hrd p hp
      rw [look_upds]
      cases hq : wr L p.1 with
      | some k =>
        obtain ⟨Y, rfl, h2, _, _⟩ := hL _ k (wr_mem' hq)
        rw [← h1, h2]
      | none =>
        show look σ1 p.1 = p.2
        rw [hact p hp]
        rcases look_assume s want σ p.1 with h3 | ⟨s2, w2, b2, X2, h3, h4⟩
        · rw [← h3]; exact h1
        · exfalso
          have : (p.1, K.v X2) ∈ L := List.mem_filterMap.2 ⟨p, hp, by unfold bare; rw [← h1, h4]⟩
          obtain ⟨k, hk⟩ := wr_some (W := L) (l := p.1) (List.mem_map.2 ⟨_, this, rfl⟩)
          rw [hk] at hq; cases hq
    refine hop cx (upds σ1 L) ι S a w hrd2 hrw2 hb next Q fun ι' S' a' w' hw' => hn ι' S' a' w' ?_
    simp only [upds] at hw' ⊢
    refine hw'.reslot (fun o' => by rw [look_upd_ne _ _ (by simp), look_upd_ne _ _ (by simp), hσ2o]) fun t k hk => ?_
    rw [look_upd] at hk
    by_cases e : d = t
    · subst e
      rw [if_pos rfl] at hk; cases hk
      exact ⟨fun _ => hw'.vr.slots d _ (look_upd_same _ _ _), by simp⟩
    · rw [if_neg (by simpa using e)] at hk
      rcases hσ2 (.t t) with h | ⟨Y, s', w', h1, h2⟩
      · exact hw'.vr.slots t k (by rw [look_upd_ne _ _ (by simpa using e), h]; exact hk)
      · rw [h2] at hk; cases hk
        exact ⟨fun _ => hw'.vr.slots t (.v Y) (by rw [look_upd_ne _ _ (by simpa using e)]; exact h1), by simp⟩

def evc (σ : St) : Operand → Option (V × List (Loc × Option K) × Option Bool)
  | .tmp t => match look σ (.t t) with
    | some (.v X) => some (X, [(.t t, some (.v X))], none)
    | some (.cv s w b X) => some (X, [(.t t, some (.cv s w b X))], some b)
    | _ => none
  | .const v => if v.oneCell' then some (.e (.c (cconst v)), [], none) else none
  | _ => none
def condOf : Option Bool → Prop
  | none => True
  | some b => b = true
theorem evc_reads {σ : St} {x : Operand} {X : V} {R : List (Loc × Option K)} {c : Option Bool} (h : evc σ x = some (X, R, c)) : Reads R σ := by
  cases x with
  | tmp t =>
    simp only [evc] at h
    split at h
    · rename_i X' hl; cases h; exact Reads.one hl
    · rename_i hl; cases h; exact Reads.one hl
    · cases h
  | const v =>
    simp only [evc] at h
    split at h
    · cases h; exact Reads.nil
    · cases h
  | global g => simp [evc] at h
  | func f => simp [evc] at h
theorem evc_sound {σ0 : St} {x : Operand} {X : V} {R : List (Loc × Option K)} {c : Option Bool} (h : evc σ0 x = some (X, R, c)) (hc : condOf c) {P : Program} {cx : Cx P} {σ : St} {ι : Nat → Value} {S : Nat → Prop} {a : Act} {w : World}
    (hr : Reads R σ) (hw : RW cx σ ι S a w) : VaR σ ι w S X (a.eval x) := by
  cases x with
  | tmp t =>
    simp only [evc] at h
    split at h
    · rename_i X' hl; cases h; exact hw.vr.slots t _ (hr (.t t, some (.v X)) (by simp))
    · rename_i s w' b X' hl
      cases h
      exact (hw.vr.slots t (.cv s w' b X) (hr (.t t, some (.cv s w' b X)) (by simp))).1 hc
    · cases h
  | const v =>
    simp only [evc] at h
    split at h
    · rename_i hv; cases h; exact cconst_sound hv
    · cases h
  | global g => simp [evc] at h
  | func f => simp [evc] at h
def mergeD (b : Bool) : D → D → Option D
  | .i m, .i n => some (.i (bif b then m else n))
  | .u m, .u n => some (.u (bif b then m else n))
  | .b m, .b n => some (.b (bif b then m else n))
  | .s m, .s n => some (.s (bif b then m else n))
  | _, _ => none
def mergeO (x y : Operand) (b : Bool) (X Y : D) : Option D := match x, y with
  | _, .const (.bool false) => match X with | .b m => some (.b (b && m)) | _ => none
  | .const (.bool true), _ => match Y with | .b n => some (.b (b || n)) | _ => none
  | _, _ => mergeD b X Y
def aPick2 (σ : St) (c x y : Operand) (d : Option Tmp) : Res :=
  match ev σ c, evc σ x, evc σ y, d with
  | some (.e (.c (.d (.b b))), R), some (.e (.c (.d X)), R1, c1), some (.e (.c (.d Y)), R2, c2), some d => match mergeO x y b X Y with
    | some Z => some ((b = true → condOf c1) ∧ (b = false → condOf c2), R ++ R1 ++ R2, [(.t d, .v (Dv Z))])
    | none => none
  | _, _, _, _ => none
theorem mergeD_sound {b : Bool} {X Y Z : D} {w : World} {S : Nat → Prop} {vx vy : Value} (h : mergeD b X Y = some Z) (hx : b = true → DR w S X vx) (hy : b = false → DR w S Y vy) : DR w S Z (if b then vx else vy) := by
  cases X <;> cases Y <;> simp only [mergeD] at h <;> cases h
  all_goals
    cases b with
    | true => have := hx rfl; cases this; first | exact .i _ | exact .u _ | exact .b _ | exact .s _
    | false => have := hy rfl; cases this; first | exact .i _ | exact .u _ | exact .b _ | exact .s _
theorem good_pick2 {P : Program} {o : Oper} {σ0 : St} {c x y : Operand} (ho : o.op = .pick c x y) : Good P o σ0 (aPick2 σ0 c x y o.dst) := by
  intro p R W h hp
  unfold aPick2 at h
  split at h <;> try (cases h; done)
  rename_i b Rc X R1 c1 Y R2 c2 d hc hx hy hd
  split at h <;> try (cases h; done)
  rename_i Z hz
  cases h
  refine ⟨opt_val hd fun cx σ ι S a w hr hw => ?_, ((ev_reads hc).append (evc_reads hx)).append (evc_reads hy)⟩
  have hC := ev_sound hc hr.left.left hw
  have hX : b = true → VaR σ ι w S (Dv X) (a.eval x) := fun hb => evc_sound hx (hp.1 hb) hr.left.right hw
  have hY : b = false → VaR σ ι w S (Dv Y) (a.eval y) := fun hb => evc_sound hy (hp.2 hb) hr.right hw
  have hcv : a.eval c = .bool b := by
    simp only [VaR, ER, CR] at hC
    generalize a.eval c = v at hC; cases hC; rfl
  have hX : b = true → DR w S X (a.eval x) := hX
  have hY : b = false → DR w S Y (a.eval y) := hY
  refine ⟨if b then a.eval x else a.eval y, ?_, ?_⟩
  · cases b <;> simp [execOp, ho, hcv, asBool]
  · show DR w S Z (if b then a.eval x else a.eval y)
    unfold mergeO at hz
    split at hz
    · split at hz
      · cases hz
        cases b with
        | true => have := hX rfl; simpa using this
        | false => simp [Act.eval]; exact .b _
      · cases hz
    · split at hz
      · cases hz
        cases b with
        | true => simp [Act.eval]; exact .b _
        | false => have := hY rfl; simpa using this
      · cases hz
    · exact mergeD_sound hz hX hY
def astep3 (T : Tab) (o : Oper) (σ : St) : Res :=
  match o.op with
  | .pick c x y => match aPick2 σ c x y o.dst with
    | some r => some r
    | none => aPick σ c x y o.dst
  | _ => astep2 T o σ
theorem good_astep3 {P : Program} {T : Tab} (hT : TabOk P T) (o : Oper) (σ : St) : Good P o σ (astep3 T o σ) := by
  unfold astep3
  split
  · rename_i ho
    split
    · rename_i r hr
      have := good_pick2 (P := P) (σ0 := σ) ho
      rw [hr] at this; exact this
    · exact good_pick ho
  · exact good_astep2 hT o σ

def bitAt (m i : Nat) : Bool := Nat.beq (Nat.land (Nat.shiftRight m i) 1) 1
theorem bitAt_eq (m i : Nat) : bitAt m i = m.testBit i := by
  have h : bitAt m i = decide ((m >>> i) % 2 = 1) := by
    show Nat.beq ((m >>> i) &&& 1) 1 = _
    rw [Nat.and_one_is_mod, Bool.eq_iff_iff, Nat.beq_eq, decide_eq_true_eq]
  rw [h, Nat.testBit, Nat.one_and_eq_mod_two, Bool.eq_iff_iff, decide_eq_true_eq, bne_iff_ne]
  omega
def bits : List Nat → Nat
  | [] => 0
  | x :: r => Nat.lor (Nat.shiftLeft 1 x) (bits r)
theorem mem_bits {b : Nat} : ∀ {l : List Nat}, (bits l).testBit b = true ↔ b ∈ l
  | [] => by simp [bits]
  | x :: r => by
    show ((1 <<< x) ||| bits r).testBit b = true ↔ _
    rw [Nat.testBit_or, Bool.or_eq_true, mem_bits (l := r), List.mem_cons, Nat.shiftLeft_eq, Nat.one_mul, Nat.testBit_two_pow, decide_eq_true_eq]
    exact ⟨fun h => h.imp Eq.symm id, fun h => h.imp Eq.symm id⟩
def maskOf (acc : List Nat) : List Nat → Nat
  | [] => 0
  | i :: r => Nat.lor (Nat.lor (Nat.shiftLeft 1 i) (acc.getD i 0)) (maskOf acc r)
def masks : List Oper → List Nat → List Nat
  | [], acc => acc
  | o :: os, acc => masks os (acc ++ [maskOf acc (preds o)])
def MaskOk (accM : List Nat) (accP : List (List Nat)) : Prop := accM.length = accP.length ∧ ∀ i b, (accM.getD i 0).testBit b = true → b ∈ accP.getD i []
theorem maskOf_spec {accM : List Nat} {accP : List (List Nat)} (h : MaskOk accM accP) {b : Nat} : ∀ {l : List Nat}, (maskOf accM l).testBit b = true → b ∈ l.flatMap fun i => i :: accP.getD i []
  | [], hb => by simp [maskOf] at hb
  | i :: r, hb => by
    have hb : (((1 <<< i) ||| accM.getD i 0) ||| maskOf accM r).testBit b = true := hb
    rw [Nat.testBit_or, Nat.testBit_or, Bool.or_eq_true, Bool.or_eq_true, Nat.shiftLeft_eq, Nat.one_mul, Nat.testBit_two_pow, decide_eq_true_eq] at hb
    rw [List.flatMap_cons, List.mem_append, List.mem_cons]
    rcases hb with (hb | hb) | hb
    · exact .inl (.inl hb.symm)
    · exact .inl (.inr (h.2 i b hb))
    · exact .inr (maskOf_spec h hb)
theorem masks_spec : ∀ (l : List Oper) {accM : List Nat} {accP : List (List Nat)}, MaskOk accM accP → MaskOk (masks l accM) (precs l accP)
  | [], accM, accP, h => h
  | o :: os, accM, accP, h => by
    unfold masks precs
    refine masks_spec os ⟨by simp [h.1], fun i b hb => ?_⟩
    rw [List.getD_eq_getElem?_getD] at hb ⊢
    by_cases hi : i < accM.length
    · rw [List.getElem?_append_left hi] at hb
      rw [List.getElem?_append_left (by rw [← h.1]; exact hi)]
      have := h.2 i b (by rw [List.getD_eq_getElem?_getD]; exact hb)
      rwa [List.getD_eq_getElem?_getD] at this
    · rw [List.getElem?_append_right (by omega)] at hb
      rw [List.getElem?_append_right (by rw [← h.1]; omega), ← h.1]
      by_cases e : i - accM.length = 0
      · rw [e] at hb ⊢
        exact maskOf_spec h hb
      · rw [List.getElem?_eq_none (by simp; omega)] at hb
        simp at hb
abbrev RWM := Nat × Nat
def rwM (x : RWN) : RWM := (bits x.1, bits x.2)
def meetM (x y : RWM) : Bool := Nat.beq (Nat.land x.2 (Nat.lor y.1 y.2)) 0 && Nat.beq (Nat.land x.1 y.2) 0
theorem apart_of_bits {xs ys : List Nat} (h : ∀ b, b ∈ xs → b ∈ ys → False) : apartN xs ys = true := by
  induction xs with
  | nil => rfl
  | cons x r ih =>
    simp only [apartN, Bool.and_eq_true, Bool.not_eq_true']
    refine ⟨?_, ih fun b hb => h b (List.mem_cons_of_mem _ hb)⟩
    rw [← Bool.not_eq_true, memN_iff]
    exact h x (List.mem_cons_self ..)
theorem land_zero {m n b : Nat} (h : Nat.beq (Nat.land m n) 0 = true) (hm : m.testBit b = true) (hn : n.testBit b = true) : False := by
  have h : m &&& n = 0 := Nat.eq_of_beq_eq_true h
  have : (m &&& n).testBit b = true := by rw [Nat.testBit_and, hm, hn]; rfl
  rw [h] at this; simp at this
theorem meetM_spec {x y : RWN} (h : meetM (rwM x) (rwM y) = true) : meetOk x y = true := by
  simp only [meetM, rwM, Bool.and_eq_true] at h
  simp only [meetOk, Bool.and_eq_true]
  have hor : ∀ b, (b ∈ y.1 ∨ b ∈ y.2) → (Nat.lor (bits y.1) (bits y.2)).testBit b = true := fun b hb => by
    show (bits y.1 ||| bits y.2).testBit b = true
    rw [Nat.testBit_or, Bool.or_eq_true, mem_bits, mem_bits]; exact hb
  exact ⟨⟨apart_of_bits fun b h1 h2 => land_zero h.1 (mem_bits.2 h1) (hor b (.inr h2)), apart_of_bits fun b h1 h2 => land_zero h.1 (mem_bits.2 h1) (hor b (.inl h2))⟩, apart_of_bits fun b h1 h2 => land_zero h.2 (mem_bits.2 h1) (mem_bits.2 h2)⟩
def oneM (pm : Nat) (y : RWM) : Nat → List RWM → Bool
  | _, [] => true
  | i, x :: r => (bitAt pm i || meetM x y) && oneM pm y (i + 1) r
def allM : List RWM → List Nat → List RWM → Bool
  | [], _, _ => true
  | y :: ys, pm :: pms, done => oneM pm y 0 done && allM ys pms (done ++ [y])
  | _ :: _, [], _ => false
theorem oneM_spec {pm : Nat} {y : RWM} : ∀ {l : List RWM} {i : Nat}, oneM pm y i l = true → ∀ (k : Nat) x, l[k]? = some x → pm.testBit (i + k) = true ∨ meetM x y = true
  | [], i, _, k, x, hx => by simp at hx
  | z :: r, i, h, k, x, hx => by
    simp only [oneM, Bool.and_eq_true, Bool.or_eq_true] at h
    cases k with
    | zero => simp at hx; subst hx; rw [← bitAt_eq]; exact h.1
    | succ k =>
      have := oneM_spec h.2 k x (by simpa using hx)
      rwa [show i + 1 + k = i + (k + 1) by omega] at this
theorem allM_spec : ∀ {ys : List RWM} {pms : List Nat} {done : List RWM}, allM ys pms done = true → ∀ (k : Nat) y pm, ys[k]? = some y → pms[k]? = some pm → ∀ (i : Nat) x, i < done.length + k → (done ++ ys)[i]? = some x → pm.testBit i = true ∨ meetM x y = true
  | [], pms, done, _, k, y, pm, hy, _, i, x, _, _ => by simp at hy
  | z :: ys, [], done, h, k, y, pm, hy, hp, i, x, _, _ => by simp [allM] at h
  | z :: ys, p :: pms, done, h, k, y, pm, hy, hp, i, x, hi, hx => by
    simp only [allM, Bool.and_eq_true] at h
    cases k with
    | zero =>
      simp at hy hp; subst hy; subst hp
      have := oneM_spec h.1 i x (by rw [List.getElem?_append_left (by omega)] at hx; exact hx)
      rwa [Nat.zero_add] at this
    | succ k => exact allM_spec h.2 k y pm (by simpa using hy) (by simpa using hp) i x (by simp; omega) (by simpa using hx)
theorem pairsOk_of {ns : List RWN} {pl : List (List Nat)} : ∀ (n : Nat), (∀ k, k < n → ∀ i, i < k → ∀ x y pk, ns[i]? = some x → ns[k]? = some y → pl[k]? = some pk → i ∈ pk ∨ meetOk x y = true) → pairsOk ns pl n = true
  | 0, _ => rfl
  | n + 1, h => by
    simp only [pairsOk, Bool.and_eq_true]
    refine ⟨?_, pairsOk_of n fun k hk => h k (by omega)⟩
    split
    · rename_i y pk hy hp
      rw [List.all_eq_true]
      intro i hi
      rw [Bool.or_eq_true]
      cases hx : ns[i]? with
      | none => exact .inr rfl
      | some x => exact (h n (by omega) i (List.mem_range.1 hi) x y pk hx hy hp).imp memN_iff.2 id
    · rfl
def orderM (l : List Oper) (ns : List RWN) : Bool := edgesOk 0 l && allM (ns.map rwM) (masks l []) []
theorem orderM_spec {l : List Oper} {ns : List RWN} (h : orderM l ns = true) : orderN l ns = true := by
  simp only [orderM, Bool.and_eq_true] at h
  simp only [orderN, Bool.and_eq_true]
  refine ⟨h.1, pairsOk_of _ fun k hk i hi x y pk hx hy hp => ?_⟩
  have hm := masks_spec l (accM := []) (accP := []) ⟨rfl, by simp⟩
  have hpl : k < (precs l []).length := (List.getElem?_eq_some_iff.1 hp).1
  have hml : k < (masks l []).length := by rw [hm.1]; exact hpl
  have hpm : (masks l [])[k]? = some (masks l [])[k] := List.getElem?_eq_getElem hml
  rcases allM_spec h.2 k (rwM y) _ (by simp [hy]) hpm i (rwM x) (by simpa using hi) (by simp [hx]) with h1 | h1
  · left
    have := hm.2 k i (by rw [List.getD_eq_getElem?_getD, hpm]; exact h1)
    rwa [List.getD_eq_getElem?_getD, hp] at this
  · exact .inr (meetM_spec h1)

def stepC (P : Program) (T : Tab) (o : Oper) (σ : St) (k : List (Loc × Option K) → List (Loc × K) → Prop) : Prop :=
  match astep3 T o σ with
  | some (p, R, W) => p ∧ k R W
  | none => ∃ R W, OpT P o R W ∧ Reads R σ ∧ k R W
theorem stepC_sound {P : Program} {T : Tab} (hT : TabOk P T) {o : Oper} {σ : St} {k : List (Loc × Option K) → List (Loc × K) → Prop} (h : stepC P T o σ k) : ∃ R W, OpT P o R W ∧ Reads R σ ∧ k R W := by
  unfold stepC at h
  split at h
  · rename_i p R W he
    obtain ⟨h1, h2⟩ := good_astep3 hT o σ p R W he h.1
    exact ⟨R, W, h1, h2, h.2⟩
  · exact h
def accC (dr : Bool) (acc : List RWN) (R : List (Loc × Option K)) (W : List (Loc × K)) : List RWN := match dr with
  | true => acc ++ [rwN (R, W)]
  | false => []
def condStep (P : Program) (T : Tab) (o : Oper) (σ : St) (s : Nat) (want g : Bool) (d : Nat) (k : List (Loc × Option K) → V → Prop) : Prop :=
  match astep3 T o (assume s want σ) with
  | some (p, R, [(.t d', .v X)]) => match Nat.beq d' d with
    | true => (g = true → p) ∧ (g = true → readOk σ R) ∧ k R X
    | false => False
  | some _ => False
  | none => ∃ R X, (g = true → OpT P o R [(.t d, .v X)] ∧ Reads R (assume s want σ)) ∧ (g = true → readOk σ R) ∧ k R X
def goC (P : Program) (T : Tab) (ops : List Oper) (dr : Bool) : List Oper → St → List RWN → (St → List RWN → Prop) → Prop
  | [], σ, acc, k => k σ acc
  | o :: os, σ, acc, k => match o.guard with
    | none => stepC P T o σ fun R W => updsK σ W fun σ' => goC P T ops dr os σ' (accC dr acc R W) k
    | some (j, want) => match (ops[j]?).bind (·.dst), o.dst with
      | some s, some d => match gOf want (look σ (.t s)) with
        | some g => condStep P T o σ s want g d fun R X => updK σ (.t d) (.cv s want g X) fun σ' => goC P T ops dr os σ' (accC dr acc ((.t s, none) :: R) [(.t d, .dead)]) k
        | none => False
      | _, _ => False
theorem condStep_sound {P : Program} {T : Tab} (hT : TabOk P T) {ops : Array Oper} {o : Oper} {σ : St} {j s d : Nat} {want g : Bool} {k : List (Loc × Option K) → V → Prop} (hg : o.guard = some (j, want)) (hs : (ops[j]?).bind (·.dst) = some s) (hd : o.dst = some d) (hl : gOf want (look σ (.t s)) = some g)
    (h : condStep P T o σ s want g d k) : ∃ R X, ItT P ops o ((.t s, look σ (.t s)) :: actual σ R, [(.t d, .cv s want g X)]) ∧ k R X := by
  unfold condStep at h
  split at h
  · rename_i p R d' X he
    split at h
    · rename_i hdd
      have hdd := Nat.eq_of_beq_eq_true hdd
      subst hdd
      obtain ⟨h1, h2, h3⟩ := h
      exact ⟨R, X, it_cond hg hs hd hl (fun hgt => good_astep3 hT o _ p R _ he (h1 hgt)) h2, h3⟩
    · exact h.elim
  · exact h.elim
  · obtain ⟨R, X, h1, h2, h3⟩ := h
    exact ⟨R, X, it_cond hg hs hd hl h1 h2, h3⟩
theorem reads_actual {σ : St} {s : Nat} {R : List (Loc × Option K)} : Reads ((.t s, look σ (.t s)) :: actual σ R) σ := by
  intro p hp
  rcases List.mem_cons.1 hp with rfl | hp
  · rfl
  · obtain ⟨q, hq, rfl⟩ := List.mem_map.1 hp; rfl
theorem rwN_actual {σ : St} {s d : Nat} {R : List (Loc × Option K)} {k : K} {o : Option K} {k' : K} : rwN ((.t s, o) :: R, [(.t d, k)]) = rwN ((.t s, look σ (.t s)) :: actual σ R, [(.t d, k')]) := by
  simp [rwN, actual, Function.comp_def]
theorem goC_sound {P : Program} {T : Tab} (hT : TabOk P T) {ops : Array Oper} {dr : Bool} {k : St → List RWN → Prop} : ∀ (l : List Oper) (σ : St) (acc : List RWN), goC P T ops.toList dr l σ acc k →
    ∃ ts : List Trip, ItAll P ops l ts ∧ ReadsAll ts σ ∧ ∃ acc', (dr = true → acc' = acc ++ ts.map rwN) ∧ k (runAll ts σ) acc'
  | [], σ, acc, h => ⟨[], trivial, trivial, acc, fun _ => by simp, by simpa [goC, runAll] using h⟩
  | o :: os, σ, acc, h => by
    simp only [goC] at h
    split at h
    · rename_i hg
      obtain ⟨R, W, h1, h2, h3⟩ := stepC_sound hT h
      rw [updsK_iff] at h3
      obtain ⟨ts, q1, q2, acc', q3, q4⟩ := goC_sound hT os _ _ h3
      refine ⟨(R, W) :: ts, ⟨it_plain hg h1, q1⟩, ⟨h2, q2⟩, acc', fun hd => ?_, by simpa [runAll] using q4⟩
      rw [q3 hd]; subst hd; simp [accC]
    · rename_i j want hg
      split at h <;> try (exact h.elim)
      rename_i s d hs hd
      split at h <;> try (exact h.elim)
      rename_i g hl
      have hs' : (ops[j]?).bind (·.dst) = some s := by simpa using hs
      obtain ⟨R, X, h1, h2⟩ := condStep_sound hT hg hs' hd hl h
      rw [updK_iff] at h2
      obtain ⟨ts, q1, q2, acc', q3, q4⟩ := goC_sound hT os _ _ h2
      refine ⟨((.t s, look σ (.t s)) :: actual σ R, [(.t d, .cv s want g X)]) :: ts, ⟨h1, q1⟩, ⟨reads_actual, q2⟩, acc', fun hdr => ?_, by simpa [runAll, upds] using q4⟩
      rw [q3 hdr]; subst hdr
      simp only [accC, List.map_cons, List.append_assoc, List.singleton_append]
      rw [rwN_actual (σ := σ) (k' := .cv s want g X)]
section
variable {P : Program} {io : List Nat} {Q : Ex → St → Prop} {σ : St}
theorem SW.regT {T : Tab} (hT : TabOk P T) (ks : List Nat) {id : Nat} {ops : Array Oper} (h : goC P T ops.toList false ops.toList σ [] fun σ' _ => keepK ks σ' (Q .norm)) : SW P io (.region id ops false) Q σ := by
  intro cx ι S a w hio hw hf
  have hfit : ∀ o ∈ ops.toList, ∀ d, o.dst = some d → d < cx.N := fun o ho => fit_of (by simpa [fits] using hf) ho
  obtain ⟨ts, h1, h2, acc, _, h4⟩ := goC_sound hT ops.toList σ [] h
  rw [keepK_iff] at h4
  exact wp_region_list (text_order ops.toList ts σ ι S a w h1 h2 hw hfit fun ι' S' a' w' hw' => ⟨_, ι', S', h4, hw'.keep ks⟩)
theorem SW.regD {T : Tab} (hT : TabOk P T) (hm : P.follows .mixedOrders = true) (ks : List Nat) {id : Nat} {ops : Array Oper} (h : goC P T ops.toList true ops.toList σ [] fun σ' ns => orderM ops.toList ns = true ∧ keepK ks σ' (Q .norm)) : SW P io (.region id ops true) Q σ := by
  intro cx ι S a w hio hw hf
  have hfit : ∀ o ∈ ops.toList, ∀ d, o.dst = some d → d < cx.N := fun o ho => fit_of (by simpa [fits] using hf) ho
  obtain ⟨ts, h1, h2, acc, h3, h4, h5⟩ := goC_sound hT ops.toList σ [] h
  have h3 := h3 rfl
  rw [List.nil_append] at h3
  subst h3
  rw [keepK_iff] at h5
  have hlen : ∀ (l : List Oper) (ts : List Trip), ItAll P ops l ts → ts.length = l.length ∧ ∀ (i : Nat) o t, l[i]? = some o → ts[i]? = some t → ItT P ops o t := by
    intro l
    induction l with
    | nil => intro ts h; cases ts with
      | nil => exact ⟨rfl, by simp⟩
      | cons t ts => exact h.elim
    | cons o os ih => intro ts h; cases ts with
      | nil => exact h.elim
      | cons t ts =>
        obtain ⟨q1, q2⟩ := ih ts h.2
        refine ⟨by simp [q1], fun i o' t' ho ht => ?_⟩
        cases i with
        | zero => simp at ho ht; subst ho; subst ht; exact h.1
        | succ i => exact q2 i o' t' (by simpa using ho) (by simpa using ht)
  obtain ⟨q1, q2⟩ := hlen _ _ h1
  refine wp_region_any hm (any_order (cx := cx) (σ := σ) (ts := ts) (by simpa using q1) (fun i o t ho ht => q2 i o t (by simpa using ho) ht) h2 (by have := orderM_spec h4; simpa [orderOk, orderN] using this) hfit (fun ι' S' a' w' hw' => ⟨_, ι', S', h5, hw'.keep ks⟩)
    ops.size (Array.replicate ops.size false) σ ι S a _ (by simp) (fun l => ?_) hw.drew (fun k o ho hk => ?_) ?_)
  · have hL : ∀ i, (Array.replicate ops.size false).getD i false = false := fun i => by
      rw [Array.getD_eq_getD_getElem?, Array.getElem?_replicate]; split <;> rfl
    have : ∀ n, part ts (fun i => (Array.replicate ops.size false).getD i false) σ l n = look σ l := by
      intro n
      induction n with
      | zero => rfl
      | succ n ih => rw [part_succ, if_neg (by rw [hL]; simp), ih]
    rw [this]
  · rw [Array.getD_eq_getD_getElem?, Array.getElem?_replicate] at hk; split at hk <;> cases hk
  · exact Nat.le_trans (List.length_filter_le _ _) (by simp)
end
end Go.Ab

namespace Go.Ab
open Go Go.RowKit
set_option linter.unusedVariables false
set_option linter.unusedSimpArgs false

def plainC : C → Bool
  | .d _ => true
  | .nil => true
  | .rp _ => true
  | _ => false
def plainE : E → Bool
  | .c x => plainC x
  | .agg cs => cs.all plainC
def plainV : V → Bool
  | .e x => plainE x
  | .tup xs => xs.all plainE
section
variable {τ σ' : St} {rl : List (Nat × Nat)} {bor : List Nat}
theorem mC_plain {c : C} (h : plainC c = true) : mC τ σ' rl bor c c := by cases c <;> simp_all [plainC, mC]
theorem mCs_plain : ∀ {cs : List C}, cs.all plainC = true → mCs τ σ' rl bor cs cs
  | [], _ => trivial
  | c :: cs, h => by
    simp only [List.all_cons, Bool.and_eq_true] at h
    exact ⟨mC_plain h.1, mCs_plain h.2⟩
theorem mE_plain {c : E} (h : plainE c = true) : mE τ σ' rl bor c c := by
  cases c with
  | c x => exact mC_plain h
  | agg cs => exact mCs_plain h
theorem mEs_plain : ∀ {cs : List E}, cs.all plainE = true → mEs τ σ' rl bor cs cs
  | [], _ => trivial
  | c :: cs, h => by
    simp only [List.all_cons, Bool.and_eq_true] at h
    exact ⟨mE_plain h.1, mEs_plain h.2⟩
theorem mV_plain {c : V} (h : plainV c = true) : mV τ σ' rl bor c c := by
  cases c with
  | e x => exact mE_plain h
  | tup cs => exact mEs_plain h
theorem renC_plain {c : C} (h : plainC c = true) : renC rl c = c := by cases c <;> simp_all [plainC, renC]
theorem renCs_plain {cs : List C} (h : cs.all plainC = true) : cs.map (renC rl) = cs := by
  rw [List.all_eq_true] at h
  exact (List.map_congr_left fun c hc => renC_plain (h c hc)).trans (List.map_id cs)
theorem renE_plain {c : E} (h : plainE c = true) : renE rl c = c := by
  cases c with
  | c x => simp [renE, renC_plain (show plainC x = true from h)]
  | agg cs => simp only [renE]; rw [renCs_plain h]
theorem renV_plain {c : V} (h : plainV c = true) : renV rl c = c := by
  cases c with
  | e x => simp [renV, renE_plain (show plainE x = true from h)]
  | tup cs =>
    simp only [renV]
    have h : cs.all plainE = true := h
    rw [List.all_eq_true] at h
    rw [(List.map_congr_left fun c hc => renE_plain (h c hc)).trans (List.map_id cs)]
theorem mL_argSt : ∀ {Ys : List V} {i : Nat}, (∀ j Y, Ys[j]? = some Y → look τ (.t (i + j)) = some (.v Y)) → Ys.all plainV = true → mL τ σ' rl bor (argSt i Ys)
  | [], i, _, _ => trivial
  | Y :: Ys, i, h, hp => by
    simp only [List.all_cons, Bool.and_eq_true] at hp
    refine ⟨⟨Y, h 0 Y rfl, mV_plain hp.1⟩, mL_argSt (fun j Z hj => ?_) hp.2⟩
    rw [show i + 1 + j = i + (j + 1) by omega]
    exact h (j + 1) Z hj
theorem objIds_argSt : ∀ (Ys : List V) (i : Nat), objIds (argSt i Ys) = []
  | [], i => rfl
  | Y :: Ys, i => objIds_argSt Ys (i + 1)
theorem match_plain {Xs : List V} (h : Xs.all plainV = true) : Match (argSt 0 Xs ++ objSt []) (argSt 0 Xs) [] [] := by
  refine ⟨mL_argSt (fun j Y hj => ?_) h, ?_⟩
  · have hlt := (List.getElem?_eq_some_iff.1 hj).1
    rw [Nat.zero_add, look_argSt 0 Xs _ j (Nat.zero_le _) (by omega), Nat.sub_zero, hj]; rfl
  · simp [mapOk, objIds_argSt, nodupN, apartN]
end
section
variable {P : Program} {T : Tab} {f : FuncId} {n : Nat} {σin : St} {X : V} {o : Oper} {c : Call} {d : Nat} {σ : St} {Xs : List V} {Ra : List (Loc × Option K)}
theorem opt_pure (hs : Spec P f n σin [(.t 0, .v X)]) (ho : o.op = .call c) (hc : c.callee = .value (.func f)) (hd : o.dst = some d) (hx : evA σ c.args.toList = some (Xs, Ra)) (hn : Xs.length = n) (hin : σin = argSt 0 Xs) (hp : Xs.all plainV = true) (hX : plainV X = true) :
    OpT P o Ra [(.t d, .v X)] := by
  subst hin
  have := opt_call (robj := []) (rl := []) (bor := []) hs ho hc hx hn (match_plain hp) (by simp [callOkB, objIds, goneIds, objIds_argSt, nodupN, slotsLt]) (.inl rfl)
  have e1 : callR Ra [] [] (argSt 0 Xs) [(.t 0, .v X)] = Ra := by simp [callR, newIds, objIds]
  have e2 : callW [] (argSt 0 Xs) [(.t 0, .v X)] o.dst = [(.t d, .v X)] := by
    simp [callW, objW, outObjs, goneIds, objIds_argSt, hd, dstW, look, renV_plain hX]
  rw [e1, e2] at this
  exact this
theorem ex_pure {k : List (Loc × Option K) → List (Loc × K) → Prop} (hs : Spec P f n σin [(.t 0, .v X)]) (ho : o.op = .call c) (hc : c.callee = .value (.func f)) (hd : o.dst = some d) (hx : evA σ c.args.toList = some (Xs, Ra)) (hn : Xs.length = n) (hin : σin = argSt 0 Xs) (hp : Xs.all plainV = true) (hX : plainV X = true)
    (h : k Ra [(.t d, .v X)]) : ∃ R W, OpT P o R W ∧ Reads R σ ∧ k R W :=
  ⟨Ra, _, opt_pure hs ho hc hd hx hn hin hp hX, evA_reads hx, h⟩
theorem exc_pure {σ1 : St} {g : Bool} {k : List (Loc × Option K) → V → Prop} (hs : g = true → Spec P f n σin [(.t 0, .v X)]) (ho : o.op = .call c) (hc : c.callee = .value (.func f)) (hd : o.dst = some d) (hx : evA σ1 c.args.toList = some (Xs, Ra)) (hn : Xs.length = n) (hin : σin = argSt 0 Xs) (hp : Xs.all plainV = true) (hX : plainV X = true)
    (hr : g = true → readOk σ Ra) (h : k Ra X) : ∃ R X, (g = true → OpT P o R [(.t d, .v X)] ∧ Reads R σ1) ∧ (g = true → readOk σ R) ∧ k R X :=
  ⟨Ra, X, fun hg => ⟨opt_pure (hs hg) ho hc hd hx hn hin hp hX, evA_reads hx⟩, hr, h⟩
theorem ex_call {σout : St} {rl : List (Nat × Nat)} {bor : List Nat} {robj : List (Nat × K)} {k : List (Loc × Option K) → List (Loc × K) → Prop} (hs : Spec P f n σin σout) (ho : o.op = .call c) (hc : c.callee = .value (.func f)) (hx : evA σ c.args.toList = some (Xs, Ra)) (hn : Xs.length = n)
    (hm : Match (argSt 0 Xs ++ objSt robj) σin rl bor) (hk : callOkB rl σin σout = true) (hb : bor = [] ∨ scalarSt σout) (h1 : ∀ p ∈ robj, look σ (.o p.1) = some p.2) (h2 : ∀ j ∈ newIds σin σout, look σ (.o (ren rl j)) = none)
    (h : k (callR Ra robj rl σin σout) (callW rl σin σout o.dst)) : ∃ R W, OpT P o R W ∧ Reads R σ ∧ k R W :=
  ⟨_, _, opt_call hs ho hc hx hn hm hk hb, call_reads hx h1 h2, h⟩
end
end Go.Ab

namespace Go.Ab
open Go Go.RowKit
set_option linter.unusedVariables false
set_option linter.unusedSimpArgs false

def WK (io : List Nat) (J : St → Prop) (s : St) : Prop := ∃ σ' rl bor, J σ' ∧ Match s σ' rl bor ∧ keepsIo io σ' rl bor = true
theorem wk {io : List Nat} {J : St → Prop} {s : St} (σ' : St) (rl : List (Nat × Nat)) (bor : List Nat) (h : J σ') (h1 : mL s σ' rl bor σ') (h2 : mapOk σ' rl bor = true) (h3 : keepsIo io σ' rl bor = true) : WK io J s := ⟨σ', rl, bor, h, ⟨h1, h2⟩, h3⟩
section
variable {P : Program} {io : List Nat} {Q : Ex → St → Prop} {σ : St}
theorem SW.wk {c : Code} {J : St → Prop} (h : WK io J σ) (hJ : ∀ s, J s → SW P io c Q s) : SW P io c Q σ := by
  obtain ⟨σ', rl, bor, h1, h2, h3⟩ := h
  exact SW.weaken σ' rl bor h2 h3 (hJ σ' h1)
theorem SW.loopW {c : Code} (I : Nat → St → Prop) {n : Nat} (h0 : WK io (I n) σ) (hr : ∀ n s, I n s → SW P io c (thenQ (fun s' => WK io (fun s2 => ∃ m, m < n ∧ I m s2) s') Q) s) : SW P io (.loop c) Q σ := by
  refine SW.loop (fun n s => WK io (I n) s) h0 fun n s hs => SW.wk hs fun s2 h2 => SW.mono (fun e s3 h3 => ?_) (hr n s2 h2)
  cases e with
  | norm =>
    obtain ⟨σ', rl, bor, ⟨m, hm, h1⟩, h2, h4⟩ := h3
    exact ⟨m, hm, σ', rl, bor, h1, h2, h4⟩
  | exit id => exact h3
  | ret => exact h3
theorem SW.midW (J : St → Prop) {x y : Code} (h : SW P io x (thenQ (fun s => WK io J s) Q) σ) (hy : ∀ s, J s → SW P io y Q s) : SW P io (.seq x y) Q σ :=
  SW.seq (h.mono fun e s hq => by
    cases e with
    | norm => exact SW.wk hq hy
    | exit id => exact hq
    | ret => exact hq)
end
section
variable {τ σ' : St} {rl : List (Nat × Nat)} {bor : List Nat} {r : List (Loc × K)}
theorem mL_d {s : Nat} {x y : D} (h : look τ (.t s) = some (.v (Dv x))) (e : x = y) (hr : mL τ σ' rl bor r) : mL τ σ' rl bor ((.t s, .v (Dv y)) :: r) := ⟨⟨_, h, e⟩, hr⟩
theorem mL_nil {s : Nat} (h : look τ (.t s) = some (.v (.e (.c .nil)))) (hr : mL τ σ' rl bor r) : mL τ σ' rl bor ((.t s, .v (.e (.c .nil))) :: r) := ⟨⟨_, h, trivial⟩, hr⟩
theorem mL_nil_d {s : Nat} {y : D} (h : look τ (.t s) = some (.v (.e (.c .nil)))) (e : y = .sl []) (hr : mL τ σ' rl bor r) : mL τ σ' rl bor ((.t s, .v (Dv y)) :: r) := ⟨⟨_, h, e⟩, hr⟩
theorem mL_own {s o n j m : Nat} {e : TypeId} {es : Nat} {rows : List (List D)} (h : look τ (.t s) = some (.v (.e (.c (.own o n))))) (ho : o = ren rl j) (e1 : n = m) (hj : look σ' (.o j) = some (.row e es rows)) (hr : mL τ σ' rl bor r) : mL τ σ' rl bor ((.t s, .v (.e (.c (.own j m)))) :: r) :=
  ⟨⟨_, h, ho, e1, e, es, rows, hj⟩, hr⟩
theorem mL_froze {s o n : Nat} {y : D} {e : TypeId} {es : Nat} {rows : List (List D)} (h : look τ (.t s) = some (.v (.e (.c (.own o n))))) (hb : memN o bor = true) (hj : look τ (.o o) = some (.row e es rows)) (e1 : rows.length = n) (e2 : y = .sl rows) (hr : mL τ σ' rl bor r) : mL τ σ' rl bor ((.t s, .v (Dv y)) :: r) :=
  ⟨⟨_, h, memN_iff.1 hb, e, es, rows, hj, e1, e2⟩, hr⟩
theorem mL_pt {s o k j m : Nat} {ty : TypeId} {cs : List C} (h : look τ (.t s) = some (.v (.e (.c (.pt o k))))) (ho : o = ren rl j) (e1 : k = m) (hj : look σ' (.o j) = some (.box ty cs)) (hr : mL τ σ' rl bor r) : mL τ σ' rl bor ((.t s, .v (.e (.c (.pt j m)))) :: r) :=
  ⟨⟨_, h, ho, e1, ty, cs, hj⟩, hr⟩
theorem mL_agg {s : Nat} {cs ds : List C} (h : look τ (.t s) = some (.v (.e (.agg cs)))) (e : mCs τ σ' rl bor cs ds) (hr : mL τ σ' rl bor r) : mL τ σ' rl bor ((.t s, .v (.e (.agg ds))) :: r) := ⟨⟨_, h, e⟩, hr⟩
theorem mL_row {j : Nat} {e : TypeId} {es : Nat} {rows rows' : List (List D)} (h : look τ (.o (ren rl j)) = some (.row e es rows)) (e1 : rows = rows') (hr : mL τ σ' rl bor r) : mL τ σ' rl bor ((.o j, .row e es rows') :: r) := ⟨⟨_, h, rfl, rfl, e1⟩, hr⟩
theorem mL_box {j : Nat} {ty : TypeId} {cs ds : List C} (h : look τ (.o (ren rl j)) = some (.box ty cs)) (e1 : mCs τ σ' rl bor cs ds) (hr : mL τ σ' rl bor r) : mL τ σ' rl bor ((.o j, .box ty ds) :: r) := ⟨⟨_, h, rfl, e1⟩, hr⟩
theorem mCs_nil0 : mCs τ σ' rl bor [] [] := trivial
theorem mCs_d {x y : D} {cs ds : List C} (e : x = y) (h : mCs τ σ' rl bor cs ds) : mCs τ σ' rl bor (.d x :: cs) (.d y :: ds) := ⟨e, h⟩
theorem mCs_nil {cs ds : List C} (h : mCs τ σ' rl bor cs ds) : mCs τ σ' rl bor (.nil :: cs) (.nil :: ds) := ⟨trivial, h⟩
theorem mCs_nil_d {y : D} {cs ds : List C} (e : y = .sl []) (h : mCs τ σ' rl bor cs ds) : mCs τ σ' rl bor (.nil :: cs) (.d y :: ds) := ⟨e, h⟩
theorem mCs_own {o n j m : Nat} {e : TypeId} {es : Nat} {rows : List (List D)} {cs ds : List C} (ho : o = ren rl j) (e1 : n = m) (hj : look σ' (.o j) = some (.row e es rows)) (h : mCs τ σ' rl bor cs ds) : mCs τ σ' rl bor (.own o n :: cs) (.own j m :: ds) := ⟨⟨ho, e1, e, es, rows, hj⟩, h⟩
theorem mCs_froze {o n : Nat} {y : D} {e : TypeId} {es : Nat} {rows : List (List D)} {cs ds : List C} (hb : memN o bor = true) (hj : look τ (.o o) = some (.row e es rows)) (e1 : rows.length = n) (e2 : y = .sl rows) (h : mCs τ σ' rl bor cs ds) : mCs τ σ' rl bor (.own o n :: cs) (.d y :: ds) := ⟨⟨memN_iff.1 hb, e, es, rows, hj, e1, e2⟩, h⟩
theorem mCs_pt {o k j m : Nat} {ty : TypeId} {xs cs ds : List C} (ho : o = ren rl j) (e1 : k = m) (hj : look σ' (.o j) = some (.box ty xs)) (h : mCs τ σ' rl bor cs ds) : mCs τ σ' rl bor (.pt o k :: cs) (.pt j m :: ds) := ⟨⟨ho, e1, ty, xs, hj⟩, h⟩
end

theorem RW.nilOwn {P : Program} {cx : Cx P} {σ : St} {ι : Nat → Value} {S : Nat → Prop} {a : Act} {w : World} (h : RW cx σ ι S a w) {s j : Nat} (e : TypeId) (es : Nat) (hs : look σ (.t s) = some (.v (.e (.c .nil)))) (hj : look σ (.o j) = none) :
    RW cx (upd (upd σ (.o j) (.row e es [])) (.t s) (.v (.e (.c (.own j 0))))) (fun o => if o = j then .slice none 0 0 else ι o) S a w := by
  have hblk : ∀ b, blk (.slice none 0 0) = some b → some b = (none : Option Nat) ∨ w.heap.size ≤ b := fun b hb => by simp [blk] at hb
  have h1 := h.turn (id := j) (old := none) (k := .row e es []) (p := .slice none 0 0) (w' := w) ⟨rfl, rfl, rfl, Nat.le_refl _, (fun _ _ _ => rfl), (fun b hb => by cases hb), .inl hj, hblk, .inl ⟨rfl, rfl⟩⟩
  have hv : tmpsOf a s = .slice none 0 0 := h.vr.slots s _ hs
  refine h1.reslot (fun o => look_upd_ne _ _ (by simp)) fun t k hk => ?_
  rw [look_upd] at hk
  by_cases e1 : s = t
  · subst e1
    rw [if_pos rfl] at hk; cases hk
    show CR (upd σ (.o j) (.row e es [])) (fun o => if o = j then .slice none 0 0 else ι o) w S (.own j 0) (tmpsOf a s)
    rw [hv]
    exact ⟨rfl, .inl ⟨e, es, [], look_upd_same _ _ _, Nat.le_refl _, fun _ => by simp⟩⟩
  · rw [if_neg (by simpa using e1)] at hk
    exact h1.vr.slots t k hk
theorem SW.nilOwn {P : Program} {io : List Nat} {Q : Ex → St → Prop} {σ : St} {c : Code} (s j : Nat) (e : TypeId) (es : Nat) (hs : look σ (.t s) = some (.v (.e (.c .nil)))) (hj : look σ (.o j) = none)
    (h : updsK σ [(.o j, .row e es []), (.t s, .v (.e (.c (.own j 0))))] (SW P io c Q)) : SW P io c Q σ := by
  rw [updsK_iff] at h
  intro cx ι S a w hio hw hf
  exact h cx _ S a w hio (hw.nilOwn e es hs hj) hf
theorem ai {a b : Prop} (x : a) (y : b) : a ∧ b := ⟨x, y⟩
theorem vc {p : Prop} (h : p := by first | trivial | exact Nat.le_of_ble_eq_true rfl | exact ⟨rfl, Nat.le_of_ble_eq_true rfl⟩ | omega | ((repeat' apply And.intro) <;> first | trivial | rfl | exact Nat.le_of_ble_eq_true rfl | omega) | (simp; done) | (simp; omega)) : p := h
theorem rk {p : Prop} (h : p := by intro h; (repeat' apply And.intro) <;> first | exact h | trivial) : p := h
theorem pk {p : Prop} (h : p := by constructor <;> intro h <;> first | trivial | exact h | (simp [gb, condOf]; done) | (simpa [gb, condOf] using h) | (simp only [gb, condOf] at *; grind) | (simp_all [gb, condOf]; done)) : p := h
end Go.Ab

namespace Go.Ab
open Go Go.RowKit
set_option linter.unusedVariables false

def inB (n lo hi : Int) : Bool := decide (lo ≤ n) && decide (n ≤ hi)
def isNode (n : Int) : Bool := inB n 0 3
theorem wrap64_of {n : Int} (h : -9223372036854775808 ≤ n ∧ n < 9223372036854775808) : wrap64 n = n := by
  unfold wrap64; omega

structure FrameR where
  kind : Int
  src : Int
  dst : Int
  frm : Int
  num : Int
  to : Int
  til : Int
  size : Int
  mix : Int
  data : List UInt8
def FrameR.row (f : FrameR) : List D := [.i f.kind, .i f.src, .i f.dst, .i f.frm, .i f.num, .i f.to, .i f.til, .i f.size, .i f.mix, .s f.data]
abbrev FrameR.V (f : FrameR) : V := .e (.agg [.d (.i f.kind), .d (.i f.src), .d (.i f.dst), .d (.i f.frm), .d (.i f.num), .d (.i f.to), .d (.i f.til), .d (.i f.size), .d (.i f.mix), .d (.s f.data)])
theorem retOkP {T : Tab} {io : List Nat} {rs : List ResultVar} {s : St} {X Y : V} (h1 : retV T s rs = some X) (hp : plainV Y = true) (e : X = Y) : RetOk T io rs [(.t 0, .v Y)] s := by
  subst e
  exact ⟨X, [], [], h1, ⟨⟨⟨X, rfl, mV_plain hp⟩, trivial⟩, rfl⟩, by simp [retIo, objIds, apartN]; exact fun x _ => .inl rfl⟩

theorem u8_lt (b : UInt8) : b.toNat < 256 := b.toNat_lt
end Go.Ab

namespace Go.Ab
open Go Go.RowKit
set_option linter.unusedVariables false

end Go.Ab

namespace Go.Ab
open Go Go.RowKit
set_option linter.unusedVariables false

def robjOk (σ : St) : List (Nat × K) → Prop
  | [] => True
  | p :: r => look σ (.o p.1) = some p.2 ∧ robjOk σ r
theorem robjOk_spec {σ : St} : ∀ {l : List (Nat × K)}, robjOk σ l → ∀ p ∈ l, look σ (.o p.1) = some p.2
  | q :: r, h, p, hp => by
    rcases List.mem_cons.1 hp with rfl | hp
    · exact h.1
    · exact robjOk_spec h.2 p hp
section
variable {P : Program} {f : FuncId} {n : Nat} {σin σout : St} {o : Oper} {c : Call} {σ : St} {Xs : List V} {Ra : List (Loc × Option K)}
end
end Go.Ab

namespace Go.Ab
open Go Go.RowKit
set_option linter.unusedVariables false

def byteI (l : List UInt8) (i : Nat) : Int := (l.getD i 0).toNat
theorem byteI_range (l : List UInt8) (i : Nat) : 0 ≤ byteI l i ∧ byteI l i < 256 := by
  have := u8_lt (l.getD i 0)
  unfold byteI; omega
end Go.Ab

namespace Go.Ab
open Go Go.RowKit
set_option linter.unusedVariables false

end Go.Ab
namespace Go.Ab
open Go Go.RowKit
end Go.Ab

namespace Go.Ab
open Go Go.RowKit
set_option linter.unusedVariables false

def u8 (x : Int) : UInt8 := UInt8.ofNat (wrap8 x).toNat
theorem u8_toNat (x : Int) : ((u8 x).toNat : Int) = wrap8 x := by
  unfold u8 wrap8
  rw [UInt8.toNat_ofNat']
  omega
theorem u8_row (x : Int) : [D.u (wrap8 x)] = [D.u (u8 x).toNat] := by rw [u8_toNat]
theorem weights : ∀ d, 1 ≤ d → d ≤ 255 → ∀ w, 1 ≤ w → w ≤ 1000 → d * w ≠ 65521 ∧ d * w ≠ 131042 ∧ d * w ≠ 196563 := by
  intro d h1 h2 w h3 h4
  have key : ∀ d, d ≤ 255 → d ≠ 0 → (65521 % d = 0 → 1000 < 65521 / d) ∧ (131042 % d = 0 → 1000 < 131042 / d) ∧ (196563 % d = 0 → 1000 < 196563 / d) := by
    decide +kernel
  obtain ⟨k1, k2, k3⟩ := key d h2 (by omega)
  · have hd : 0 < d := by omega
    refine ⟨fun e => ?_, fun e => ?_, fun e => ?_⟩
    · have := k1 (by rw [← e]; exact Nat.mul_mod_right d w)
      rw [← e, Nat.mul_div_cancel_left w hd] at this; omega
    · have := k2 (by rw [← e]; exact Nat.mul_mod_right d w)
      rw [← e, Nat.mul_div_cancel_left w hd] at this; omega
    · have := k3 (by rw [← e]; exact Nat.mul_mod_right d w)
      rw [← e, Nat.mul_div_cancel_left w hd] at this; omega
end Go.Ab

namespace Go.Ab
open Go Go.RowKit
set_option linter.unusedVariables false
set_option linter.unusedSimpArgs false

def OpE (P : Program) (o : Oper) (R : List (Loc × Option K)) (Ws : List (Loc × K) → Prop) : Prop :=
  ∀ (cx : Cx P) (σ : St) (ι : Nat → Value) (S : Nat → Prop) (a : Act) (w : World), Reads R σ → RW cx σ ι S a w → (∀ d, o.dst = some d → d < cx.N) →
    ∀ (next : Act → World → Prop) (Q : Exit → Act → World → Prop), (∀ W, Ws W → ∀ ι' S' a' w', RW cx (upds σ W) ι' S' a' w' → next a' w') → o.wp P a w next Q
theorem OpT.toE {P : Program} {o : Oper} {R : List (Loc × Option K)} {W : List (Loc × K)} (h : OpT P o R W) : OpE P o R (· = W) :=
  fun cx σ ι S a w hr hw hd next Q hn => h cx σ ι S a w hr hw hd next Q fun ι' S' a' w' hw' => hn W rfl ι' S' a' w' hw'
def SpecE (P : Program) (f : FuncId) (n : Nat) (σin : St) (Qo : St → Prop) : Prop :=
  CallOk P f ∧ ∀ (ι ν : Nat → Value) (S : Nat → Prop) (w : World) (args : Array Value), (GB P w fun b => ∃ o, Mut σin ι o b) → VR σin ι ν S w → args.size = n → (∀ i, i < n → args[i]? = some (ν i)) →
    Calls P f args w fun e w' => ∃ v ι' S' σout, Qo σout ∧ e = .returned v ∧ Post σin ι S w σout ι' S' w' v
theorem calls_mono {P : Program} {f : FuncId} {args : Array Value} {w : World} {Q Q' : Ending → World → Prop} (hq : ∀ e w', Q e w' → Q' e w') (h : Calls P f args w Q) : Calls P f args w Q' := by
  intro cs
  obtain ⟨e, w', fr, h1, h2⟩ := h cs
  exact ⟨e, w', fr, hq e w' h1, h2⟩
theorem Spec.toE {P : Program} {f : FuncId} {n : Nat} {σin σout : St} {Qo : St → Prop} (h : Spec P f n σin σout) (hq : Qo σout) : SpecE P f n σin Qo := by
  refine ⟨h.1, fun ι ν S w args h0 h1 h2 h3 => calls_mono (fun e w' => ?_) (h.2 ι ν S w args h0 h1 h2 h3)⟩
  rintro ⟨v, ι', S', rfl, hp⟩
  exact ⟨v, ι', S', σout, hq, rfl, hp⟩
def bodyQE (T : Tab) (io : List Nat) (rs : List ResultVar) (Qo : St → Prop) : Ex → St → Prop
  | .norm, s => ∃ σout, Qo σout ∧ RetOk T io rs σout s
  | .ret, s => ∃ σout, Qo σout ∧ RetOk T io rs σout s
  | .exit _, _ => False
theorem specE_of_body {P : Program} {T : Tab} (hT : TabOk P T) {f : FuncId} {fn : Func} {c : Code} {n : Nat} {σin : St} {Qo : St → Prop} (hf : P.funcs[f]? = some fn) (hb : fn.body = some c) (hname : (fn.name == "runtime.NumGoroutine") = false) (hn : n ≤ fn.ntmps) (hfit : fits fn.ntmps c = true)
    (hsl : slotsLt n σin = true) (h : SW P (objIds σin) c (bodyQE T (objIds σin) fn.results.toList Qo) σin) : SpecE P f n σin Qo := by
  refine ⟨⟨fn, hf, by rw [hb]; rfl, hname⟩, fun ι ν S w args hgb hvr hsz hargs => ?_⟩
  have hnu : ∀ s, s < n → (args ++ Array.replicate (fn.ntmps - args.size) undef).getD s undef = ν s := by
    intro s hs
    rw [Array.getD_eq_getD_getElem?, Array.getElem?_append_left (by omega), hargs s hs]; rfl
  let cx : Cx P := { N := fn.ntmps, w0 := w, S0 := S, k0 := fun o => look σin (.o o), ι0 := ι, gb := hgb.weak fun b ⟨o, k, q1, q2, q3⟩ => ⟨o, ⟨k, q1, q2⟩, q3⟩ }
  have hM : ∀ b, cx.M b ↔ ∃ o, Mut σin ι o b := fun b => ⟨fun ⟨o, k, q1, q2, q3⟩ => ⟨o, ⟨k, q1, q2⟩, q3⟩, fun ⟨o, ⟨k, q1, q2⟩, q3⟩ => ⟨o, k, q1, q2, q3⟩⟩
  have hw : RW cx σin ι S { tmps := args ++ Array.replicate (fn.ntmps - args.size) undef, defers := [] } w := by
    refine ⟨⟨fun s x hx => ?_, hvr.objs, hvr.mutS, hvr.inj, hvr.sz⟩, ?_, rfl, Fr.refl _ _, fun o b ⟨⟨k, q1, q2⟩, q3⟩ => .inr ⟨k, q1, q2, q3⟩, fun b hb => .inl hb, fun o k hk => ⟨k, hk, Evo.refl' _ _⟩⟩
    · have hs := slotsLt_spec hsl s _ hx
      have : tmpsOf { tmps := args ++ Array.replicate (fn.ntmps - args.size) undef, defers := [] } s = ν s := hnu s hs
      rw [this]; exact hvr.slots s x hx
    · show (args ++ Array.replicate (fn.ntmps - args.size) undef).size = fn.ntmps
      simp; omega
  refine calls_of_wp hf hb (wp_mono (h cx ι S _ w (fun o k hk => mem_objIds hk) hw hfit) fun e a' w' hq => ?_)
  have fin : (∃ σ' ι' S', (∃ σout, Qo σout ∧ RetOk T (objIds σin) fn.results.toList σout σ') ∧ RW cx σ' ι' S' a' w') → a'.defers = [] ∧ ∃ v, (results fn a'.tmps).run P w' = .ok v w' ∧ ∃ v_1 ι' S' σout, Qo σout ∧ Ending.returned v = .returned v_1 ∧ Post σin ι S w σout ι' S' w' v_1 := by
    rintro ⟨σ', ι', S', ⟨σout, hQo, X, rl, bor, hX, hm, hio⟩, hw'⟩
    obtain ⟨v, hr, hv⟩ := retV_sound hT hw' hX
    refine ⟨hw'.defers, v, hr, v, fun j => ι' (ren rl j), giveS σ' ι' bor S', σout, hQo, rfl, ?_⟩
    have hlo : ∀ o, look ((Loc.t 0, K.v X) :: objPart σ') (.o o) = look σ' (.o o) := fun o => by simp only [look]; rw [if_neg (by simp), look_objPart]
    have st : Step σ' ι' S' w' ((Loc.t 0, K.v X) :: objPart σ') ι' S' w' := ⟨fun _ h => h, fun _ _ => rfl, fun o k hk => ⟨k, by rw [hlo]; exact hk, Evo.refl' _ _⟩⟩
    have hmut : ∀ o b, Mut ((Loc.t 0, K.v X) :: objPart σ') ι' o b ↔ Mut σ' ι' o b := fun o b => by unfold Mut; rw [hlo]
    have hlt : ∀ (r : St) s k, look (objPart r) (.t s) = some k → False := by
      intro r s k
      induction r with
      | nil => intro h; cases h
      | cons p r ih =>
        obtain ⟨l, k'⟩ := p
        cases l with
        | t n => exact ih
        | o n => simp only [objPart, look]; rw [if_neg (by simp)]; exact ih
    have hvr0 : VR ((Loc.t 0, K.v X) :: objPart σ') ι' (fun _ => v) S' w' := by
      refine ⟨fun s x hx => ?_, fun o k hk => OR.step st (fun _ _ => rfl) (hw'.vr.objs o k (by rw [← hlo]; exact hk)), fun o b q => hw'.vr.mutS o b ((hmut o b).1 q), fun o o' b q q' => hw'.vr.inj o o' b ((hmut o b).1 q) ((hmut o' b).1 q'), hw'.vr.sz⟩
      simp only [look] at hx
      split at hx
      · cases hx; exact VaR.step st hv
      · exact (hlt σ' s _ hx).elim
    have hvr1 := VR_match hm (fun _ _ h => h) hvr0
    simp only [retIo, Bool.and_eq_true, List.all_eq_true, Bool.or_eq_true, Bool.not_eq_true'] at hio
    obtain ⟨⟨hio1, hio2⟩, hio3⟩ := hio
    have hgive : ∀ b, giveS ((Loc.t 0, K.v X) :: objPart σ') ι' bor S' b → giveS σ' ι' bor S' b := fun b hb => hb.imp id fun ⟨o, ho, q⟩ => ⟨o, ho, (hmut o b).1 q⟩
    refine ⟨⟨hw'.fr.os, hw'.fr.tape, hw'.fr.output, hw'.fr.size, fun b hb hnm => hw'.fr.block b hb (fun h => hnm ((hM b).1 h))⟩, ?_, fun b hb => ?_, fun j b hmu => ?_, fun o k k' hk hk' => ?_⟩
    · have e : giveS ((Loc.t 0, K.v X) :: objPart σ') ι' bor S' = giveS σ' ι' bor S' := by
        funext b; apply propext; exact ⟨hgive b, fun hb => hb.imp id fun ⟨o, ho, q⟩ => ⟨o, ho, (hmut o b).2 q⟩⟩
      rw [← e]; exact hvr1
    · rcases hb with hb | ⟨o, ho, hmo⟩
      · exact hw'.rd b hb
      · rcases hw'.own o b hmo with h1 | ⟨k, h1, h2, h3⟩
        · exact .inr h1
        · exact absurd (mem_objIds h1) (apartN_spec hio3 o ho)
    · rcases hw'.own _ b ((hmut _ b).1 (hm.mut (fun _ _ h => h) hmu)) with h1 | ⟨k, h1, h2, h3⟩
      · exact .inl h1
      · obtain ⟨⟨k', hk', _⟩, _⟩ := hmu
        rcases hio1 j (mem_objIds hk') with h4 | h4
        · rw [memN_iff.2 (mem_objIds h1)] at h4; cases h4
        · have h4 := Nat.eq_of_beq_eq_true h4
          rw [h4] at h1 h3
          exact .inr ⟨⟨k, h1, h2⟩, h3⟩
    · have hren : ren rl o = o := by
        rcases hio2 o (mem_objIds hk) with h4 | h4
        · rw [memN_iff.2 (mem_objIds hk')] at h4; cases h4
        · exact Nat.eq_of_beq_eq_true h4
      obtain ⟨k1, hk1, hev⟩ := hw'.io o k hk
      have hev : Evo (ι o) (ι' o) k k1 := hev
      obtain ⟨k2, hk2, hmk⟩ := hm.ids o k' hk'
      rw [hren, hlo, hk1] at hk2; cases hk2
      rw [hren]
      cases k <;> cases k1 <;> cases k' <;> simp_all [Evo, mK]
  cases e with
  | normal =>
    obtain ⟨σ', ι', S', h1, h2⟩ := hq
    exact fin ⟨σ', ι', S', h1, h2⟩
  | ret =>
    obtain ⟨σ', ι', S', h1, h2⟩ := hq
    exact fin ⟨σ', ι', S', h1, h2⟩
  | exit id => obtain ⟨σ', ι', S', h1, h2⟩ := hq; exact h1.elim
  | goto l => exact hq.elim
  | panic ch => exact hq.elim
  | outgrown => exact hq.elim

section
variable {P : Program} {f : FuncId} {n : Nat} {σin : St} {Qo : St → Prop} {rl : List (Nat × Nat)} {bor : List Nat} {σ0 : St} {Xs : List V} {Ra : List (Loc × Option K)} {robj : List (Nat × K)} {news : List Nat}
def callRE (Ra : List (Loc × Option K)) (robj : List (Nat × K)) (rl : List (Nat × Nat)) (news : List Nat) : List (Loc × Option K) :=
  Ra ++ robj.map (fun p => (.o p.1, some p.2)) ++ news.map fun j => (.o (ren rl j), none)
theorem opt_callE (hs : SpecE P f n σin Qo) {o : Oper} {c : Call} (ho : o.op = .call c) (hc : c.callee = .value (.func f)) (hx : evA σ0 c.args.toList = some (Xs, Ra)) (hn : Xs.length = n)
    (hm : Match (argSt 0 Xs ++ objSt robj) σin rl bor) (hq : ∀ σout, Qo σout → callOkB rl σin σout = true ∧ (bor = [] ∨ scalarSt σout) ∧ ∀ j ∈ newIds σin σout, j ∈ news) :
    OpE P o (callRE Ra robj rl news) fun W => ∃ σout, Qo σout ∧ W = callW rl σin σout o.dst := by
  intro cx σ ι S a w hr hw hd next Q hnext
  obtain ⟨⟨fn, hf, hbody, hname⟩, hcall⟩ := hs
  obtain ⟨hlen, hargs⟩ := evA_sound hw hx hr.left.left
  let args : Array Value := c.args.map a.eval
  let ν : Nat → Value := fun i => (args[i]?).getD undef
  have hsz : args.size = n := by show (c.args.map a.eval).size = n; rw [Array.size_map, ← hn, hlen, Array.length_toList]
  have hargν : ∀ i, i < n → args[i]? = some (ν i) := fun i hi => by
    show args[i]? = some ((args[i]?).getD undef)
    rw [Array.getElem?_eq_getElem (by omega)]; rfl
  have hνr : ∀ s X, Xs[s]? = some X → VaR σ ι w S X (ν s) := fun s X hX => by
    obtain ⟨x, h1, h2⟩ := hargs s X hX
    have : ν s = a.eval x := by
      show ((c.args.map a.eval)[s]?).getD undef = a.eval x
      rw [Array.getElem?_toList] at h1
      rw [Array.getElem?_map, h1]; rfl
    rw [this]; exact h2
  have hlo : ∀ o, look (argSt 0 Xs ++ objPart σ) (.o o) = look σ (.o o) := fun o => by rw [look_argSt_o, look_objPart]
  have st : Step σ ι S w (argSt 0 Xs ++ objPart σ) ι S w := ⟨fun _ h => h, fun _ _ => rfl, fun o k hk => ⟨k, by rw [hlo]; exact hk, Evo.refl' _ _⟩⟩
  have hmut : ∀ o b, Mut (argSt 0 Xs ++ objPart σ) ι o b ↔ Mut σ ι o b := fun o b => by unfold Mut; rw [hlo]
  have hvr0 : VR (argSt 0 Xs ++ objPart σ) ι ν S w := by
    refine ⟨fun s x hx => ?_, fun o k hk => OR.step st (fun _ _ => rfl) (hw.vr.objs o k (by rw [← hlo]; exact hk)), fun o b q => hw.vr.mutS o b ((hmut o b).1 q), fun o o' b q q' => hw.vr.inj o o' b ((hmut o b).1 q) ((hmut o' b).1 q'), hw.vr.sz⟩
    obtain ⟨X, h1, h2⟩ := look_argSt_part hx
    cases h2
    exact VaR.step st (hνr s _ h1)
  have hsub : ∀ l k, look (argSt 0 Xs ++ objSt robj) l = some k → look (argSt 0 Xs ++ objPart σ) l = some k := fun l k h => by
    cases l with
    | o o =>
      rw [hlo]
      rw [look_argSt_o] at h
      exact hr (.o o, some k) (List.mem_append_left _ (List.mem_append_right _ (List.mem_map.2 ⟨(o, k), look_objSt h, rfl⟩)))
    | t s =>
      obtain ⟨X, h1, rfl⟩ := look_argSt_obj h
      have hs := (List.getElem?_eq_some_iff.1 h1).1
      rw [look_argSt 0 Xs _ s (Nat.zero_le _) (by omega)]; simp [h1]
  have hvr1 := VR_match hm hsub hvr0
  have hgb : GB P w fun b => ∃ o, Mut σin (fun j => ι (ren rl j)) o b := fun w2 h2 => cx.gb w2 (hw.fr.trans h2 fun x hx ⟨o, ho⟩ => by
    rcases hw.own _ x ((hmut _ _).1 (hm.mut hsub ho)) with h3 | ⟨k, q1, q2, q3⟩
    · omega
    · exact ⟨_, k, q1, q2, q3⟩)
  have hcl := hcall _ ν _ w args hgb hvr1 hsz hargν
  obtain ⟨callee, cargs, argTypes⟩ := c
  dsimp only at hc
  subst hc
  have hbd : ∃ cd, fn.body = some cd := by
    cases hq : fn.body with
    | none => rw [hq] at hbody; cases hbody
    | some cd => exact ⟨cd, rfl⟩
  obtain ⟨cd, hbd⟩ := hbd
  have hrun : (execOp a.eval o).run P w = .ok (.enter f args) w := by
    have h1 := MuLone.run_callFunc_enter (P := P) hf hname hbd args w
    have e : (execOp a.eval o).run P w = (callFunc f (args ++ #[])).run P w := by
      simp [execOp, ho, resolve, invoke, Deferred.ofValue, args, Act.eval]
    rw [e, Array.append_empty]; exact h1
  unfold Oper.wp
  rw [hrun, Oper.upon_enter]
  intro cs
  obtain ⟨e, w', fr, ⟨v, ι', S', σout, hQo, rfl, hpost⟩, hcomes⟩ := hcl cs
  refine ⟨_, w', fr, ?_, hcomes⟩
  dsimp only
  obtain ⟨hk, hb, hnw⟩ := hq σout hQo
  have hr' : Reads (callR Ra robj rl σin σout) σ := by
    intro p hp
    rcases List.mem_append.1 hp with hp | hp
    · exact hr p (List.mem_append_left _ hp)
    · obtain ⟨j, hj, rfl⟩ := List.mem_map.1 hp
      exact hr (.o (ren rl j), none) (List.mem_append_right _ (List.mem_map.2 ⟨j, hnw j hj, rfl⟩))
  have hrw := call_rw (Ra := Ra) hm hk hb hr' hw hνr hpost
  have hSK : ∀ {l : Loc} {k : K}, look σout l = some k → (∀ b, S' b → (S b ∨ (bor = [] ∧ S' b))) ∨ scalarK k := fun {l k} h => by
    rcases hb with e | hs
    · exact .inl fun b hb => .inr ⟨e, hb⟩
    · exact .inr (hs (l, k) (look_mem h))
  have hnext := hnext _ ⟨σout, hQo, rfl⟩
  cases hdst : o.dst with
  | none =>
    refine hnext (backι rl σout ι' ι) (fun b => S b ∨ (bor = [] ∧ S' b)) _ w' ?_
    rw [hdst]
    simp only [callW, dstW, List.append_nil]
    exact hrw
  | some d =>
    have hd' := hd d hdst
    cases hq : look σout (.t 0) with
    | none =>
      refine hnext (backι rl σout ι' ι) (fun b => S b ∨ (bor = [] ∧ S' b)) _ w' ?_
      rw [hdst]
      simp only [callW, dstW, upds_append, hq, upds]
      exact hrw.putDead hd' v
    | some k =>
      cases k with
      | v X =>
        refine hnext (backι rl σout ι' ι) (fun b => S b ∨ (bor = [] ∧ S' b)) _ w' ?_
        rw [hdst]
        simp only [callW, dstW, upds_append, hq, upds]
        exact hrw.put hd' (VaR_ren hk (hSK hq) (hpost.vr.slots 0 (.v X) hq))
      | _ =>
        refine hnext (backι rl σout ι' ι) (fun b => S b ∨ (bor = [] ∧ S' b)) _ w' ?_
        rw [hdst]
        simp only [callW, dstW, upds_append, hq, upds]
        exact hrw.putDead hd' v
end

theorem RW.weaken {P : Program} {cx : Cx P} {io : List Nat} {σ : St} {ι : Nat → Value} {S : Nat → Prop} {a : Act} {w : World} (σ' : St) (rl : List (Nat × Nat)) (bor : List Nat) (hm : Match σ σ' rl bor) (hk : keepsIo io σ' rl bor = true) (hio : ∀ o k, cx.k0 o = some k → o ∈ io) (hw : RW cx σ ι S a w) : RW cx σ' (fun j => ι (ren rl j)) (giveS σ ι bor S) a w := by
  have hkk : ∀ o k, cx.k0 o = some k → ren rl o = o ∧ o ∈ objIds σ' ∧ o ∉ bor := fun o k ho => by
    have := List.all_eq_true.1 hk o (hio o k ho)
    simp only [Bool.and_eq_true, Bool.not_eq_true'] at this
    refine ⟨Nat.eq_of_beq_eq_true this.1.1, memN_iff.1 this.1.2, fun hb => ?_⟩
    rw [memN_iff.2 hb] at this; cases this.2
  have hvr := VR_match hm (fun _ _ h => h) hw.vr
  refine ⟨hvr, hw.size, hw.defers, hw.fr, fun j b hmu => ?_, fun b hb => ?_, fun o k ho => ?_⟩
  · rcases hw.own _ b (hm.mut (fun _ _ h => h) hmu) with h1 | ⟨k, h1, h2, h3⟩
    · exact .inl h1
    · obtain ⟨q1, q2, q3⟩ := hkk _ k h1
      obtain ⟨⟨k', hk', _⟩, _⟩ := hmu
      have : ren rl j = j := hm.inj q2 (mem_objIds hk') q1
      exact .inr ⟨k, by rw [← this]; exact h1, h2, by rw [← this]; exact h3⟩
  · rcases hb with hb | ⟨o, ho, hmo⟩
    · exact hw.rd b hb
    · rcases hw.own o b hmo with h1 | ⟨k, h1, h2, h3⟩
      · exact .inr h1
      · exact absurd ho (hkk o k h1).2.2
  · obtain ⟨q1, q2, q3⟩ := hkk o k ho
    obtain ⟨k1, hk1, hev⟩ := hw.io o k ho
    obtain ⟨p, hp⟩ := look_of_objIds q2
    obtain ⟨k2, hk2, hmk⟩ := hm.ids o p hp
    rw [q1] at hk2
    rw [hk1] at hk2; cases hk2
    refine ⟨p, hp, ?_⟩
    rw [q1]
    cases k <;> cases k1 <;> cases p <;> simp_all [Evo, mK]

theorem RW.freeze {P : Program} {cx : Cx P} {σ : St} {ι : Nat → Value} {S : Nat → Prop} {a : Act} {w : World} (hw : RW cx σ ι S a w) {s o n : Nat} {e : TypeId} {es : Nat} {rows : List (List D)} (hs : look σ (.t s) = some (.v (.e (.c (.own o n))))) (ho : look σ (.o o) = some (.row e es rows)) (hn : rows.length = n) (hk : cx.k0 o = none) :
    RW cx (upd (upd σ (.o o) .dead) (.t s) (.v (Dv (.sl rows)))) ι (fun b => S b ∨ blk (ι o) = some b) a w := by
  have hlo : ∀ o', look (upd (upd σ (.o o) .dead) (.t s) (.v (Dv (.sl rows)))) (.o o') = if o' = o then some .dead else look σ (.o o') := fun o' => by
    rw [look_upd_ne _ _ (by simp), look_upd]
    by_cases h : o' = o
    · subst h; simp
    · rw [if_neg (by simpa using fun e => h e.symm), if_neg h]
  have hmut : ∀ o' b, Mut (upd (upd σ (.o o) .dead) (.t s) (.v (Dv (.sl rows)))) ι o' b → o' ≠ o ∧ Mut σ ι o' b := fun o' b ⟨⟨k, hk, hl⟩, hb⟩ => by
    rw [hlo] at hk
    by_cases h : o' = o
    · rw [if_pos h] at hk; cases hk; exact hl.elim
    · rw [if_neg h] at hk; exact ⟨h, ⟨k, hk, hl⟩, hb⟩
  have hmo : ∀ b, blk (ι o) = some b → Mut σ ι o b := fun b hb => ⟨⟨_, ho, trivial⟩, hb⟩
  have st : Step σ ι S w (upd (upd σ (.o o) .dead) (.t s) (.v (Dv (.sl rows)))) ι (fun b => S b ∨ blk (ι o) = some b) w := by
    refine ⟨fun b h => .inl h, fun _ _ => rfl, fun o' k hk => ?_⟩
    by_cases h : o' = o
    · exact ⟨.dead, by rw [hlo, if_pos h], by cases k <;> simp [Evo]⟩
    · exact ⟨k, by rw [hlo, if_neg h]; exact hk, Evo.refl' _ _⟩
  have hrow := hw.vr.objs o _ ho
  have hv : tmpsOf a s = ι o := by
    obtain ⟨_, h2⟩ := (show CR σ ι w S (.own o n) (tmpsOf a s) from hw.vr.slots s _ hs)
    rcases h2 with ⟨e2, es2, rows2, hl, _, hv⟩ | hd
    · rw [ho] at hl; cases hl; exact hv hn
    · rw [ho] at hd; cases hd
  refine ⟨⟨fun t k hkt => ?_, fun o' k hk => ?_, fun o' b hm hS => ?_, fun o1 o2 b h1 h2 => ?_, fun b hb => ?_⟩, hw.size, hw.defers, hw.fr, fun o' b hm => hw.own o' b (hmut o' b hm).2, fun b hb => ?_, fun o' k hk' => ?_⟩
  · rw [look_upd] at hkt
    by_cases e2 : s = t
    · subst e2
      rw [if_pos rfl] at hkt; cases hkt
      show DR w _ (.sl rows) (tmpsOf a s)
      rw [hv]
      rcases hrow with ⟨h1, h2⟩ | ⟨g, off, cap, cur, fz, h1, hh, hfz, h2, h3, h4, h5⟩
      · rw [h1, h2]
        exact DR.sl [] none 0 es ⟨0, 0, none⟩ (fun _ _ => undef) (Nat.le_refl _) (by decide) (by simp) (by simp) (by simp) (by simp)
      · rw [h1]
        let u : Nat → Nat → Value := fun i k => (cur[off + i * es + k]?).getD undef
        refine DR.sl rows (some ⟨g, off, none⟩) cap es ⟨g, off, none⟩ u h2 h3 (fun r hr => ?_) (fun _ => rfl) (fun i r k d hi hd => ?_) (fun i r k d hi hd => ?_)
        · obtain ⟨i, hi⟩ := List.mem_iff_getElem?.1 hr
          exact (h5 i r hi).1
        · obtain ⟨v, hv1, _⟩ := (h5 i r hi).2 k d hd
          refine ⟨.inr rfl, ?_⟩
          rw [add_mk, cell_of_row w g _ cur e fz hh, ← Nat.add_assoc]
          show cur[off + i * es + k]? = some ((cur[off + i * es + k]?).getD undef)
          rw [hv1]; rfl
        · obtain ⟨v, hv1, hv2⟩ := (h5 i r hi).2 k d hd
          have : u i k = v := by show (cur[off + i * es + k]?).getD undef = v; rw [hv1]; rfl
          rw [this]
          exact DR.mono (fun b h => .inl h) (fun _ _ => rfl) hv2
    · rw [if_neg (by simpa using e2), look_upd_ne _ _ (by simp)] at hkt
      exact SlotR.step st (hw.vr.slots t k hkt)
  · rw [hlo] at hk
    by_cases h : o' = o
    · rw [if_pos h] at hk; cases hk; trivial
    · rw [if_neg h] at hk
      exact OR.step st (fun _ _ => rfl) (hw.vr.objs o' k hk)
  · obtain ⟨hne, hm⟩ := hmut o' b hm
    rcases hS with hS | hS
    · exact hw.vr.mutS o' b hm hS
    · exact hne (hw.vr.inj o' o b hm (hmo b hS))
  · exact hw.vr.inj o1 o2 b (hmut o1 b h1).2 (hmut o2 b h2).2
  · rcases hb with hb | hb
    · exact hw.vr.sz b hb
    · exact OR.lt hrow trivial hb
  · rcases hb with hb | hb
    · exact hw.rd b hb
    · rcases hw.own o b (hmo b hb) with h | ⟨k, h1, _⟩
      · exact .inr h
      · rw [hk] at h1; cases h1
  · have hne : o' ≠ o := fun e => by subst e; rw [hk] at hk'; cases hk'
    obtain ⟨k2, q1, q2⟩ := hw.io o' k hk'
    exact ⟨k2, by rw [hlo, if_neg hne]; exact q1, q2⟩

def Wkn (io : List Nat) (σ σ1 : St) : Prop := ∀ (P : Program) (cx : Cx P) (ι : Nat → Value) (S : Nat → Prop) (a : Act) (w : World), (∀ o k, cx.k0 o = some k → o ∈ io) → RW cx σ ι S a w → ∃ ι' S', RW cx σ1 ι' S' a w
theorem Wkn.rfl {io : List Nat} {σ : St} : Wkn io σ σ := fun _ cx ι S a w _ h => ⟨ι, S, h⟩
theorem Wkn.trans {io : List Nat} {σ σ1 σ2 : St} (h : Wkn io σ σ1) (k : Wkn io σ1 σ2) : Wkn io σ σ2 := fun _ cx ι S a w hio hw => by
  obtain ⟨ι1, S1, h1⟩ := h _ cx ι S a w hio hw
  exact k _ cx ι1 S1 a w hio h1
theorem Wkn.weak {io : List Nat} {σ σ1 : St} (rl : List (Nat × Nat)) (bor : List Nat) (hm : mL σ σ1 rl bor σ1) (hm2 : mapOk σ1 rl bor = true) (hk : keepsIo io σ1 rl bor = true) : Wkn io σ σ1 := fun _ cx ι S a w hio hw => ⟨_, _, RW.weaken σ1 rl bor ⟨hm, hm2⟩ hk hio hw⟩
def stepE (P : Program) (T : Tab) (io : List Nat) (o : Oper) (σ : St) (k : St → Prop) : Prop :=
  match astep3 T o σ with
  | some (p, _, W) => p ∧ updsK σ W k
  | none => ∃ σ1, Wkn io σ σ1 ∧ ∃ R Ws, OpE P o R Ws ∧ Reads R σ1 ∧ ∀ W, Ws W → updsK σ1 W k
theorem stepE_sound {P : Program} {T : Tab} (hT : TabOk P T) {io : List Nat} {o : Oper} {σ : St} {k : St → Prop} (h : stepE P T io o σ k) : ∃ σ1, Wkn io σ σ1 ∧ ∃ R Ws, OpE P o R Ws ∧ Reads R σ1 ∧ ∀ W, Ws W → updsK σ1 W k := by
  unfold stepE at h
  split at h
  · rename_i p R W he
    obtain ⟨h1, h2⟩ := good_astep3 hT o σ p R W he h.1
    exact ⟨σ, Wkn.rfl, R, _, h1.toE, h2, fun W' e => by subst e; exact h.2⟩
  · exact h
def goE (P : Program) (T : Tab) (io : List Nat) (ops : List Oper) : List Oper → St → (St → Prop) → Prop
  | [], σ, k => k σ
  | o :: os, σ, k => match o.guard with
    | none => stepE P T io o σ fun σ' => goE P T io ops os σ' k
    | some (j, want) => match (ops[j]?).bind (·.dst), o.dst with
      | some s, some d => match gOf want (look σ (.t s)) with
        | some g => condStep P T o σ s want g d fun R X => updK σ (.t d) (.cv s want g X) fun σ' => goE P T io ops os σ' k
        | none => False
      | _, _ => False
theorem goE_sound {P : Program} {T : Tab} (hT : TabOk P T) {io : List Nat} {ops : Array Oper} {cx : Cx P} (hio : ∀ o k, cx.k0 o = some k → o ∈ io) {Q : Exit → Act → World → Prop} {k : St → Prop} (hk : ∀ σ ι S a w, k σ → RW cx σ ι S a w → Q .normal a w) : ∀ (l : List Oper) (σ : St) (ι : Nat → Value) (S : Nat → Prop) (a : Act) (w : World), goE P T io ops.toList l σ k → RW cx σ ι S a w → (∀ o ∈ l, ∀ d, o.dst = some d → d < cx.N) → wpList P ops Q l a w
  | [], σ, ι, S, a, w, h, hw, hf => hk σ ι S a w h hw
  | o :: os, σ, ι, S, a, w, h, hw, hf => by
    have hfo := hf o (List.mem_cons_self ..)
    have hfs : ∀ o ∈ os, ∀ d, o.dst = some d → d < cx.N := fun o ho => hf o (List.mem_cons_of_mem _ ho)
    unfold wpList
    simp only [goE] at h
    split at h
    · rename_i hg
      obtain ⟨σ1, hwk, R, Ws, h1, h2, h3⟩ := stepE_sound hT h
      rw [if_pos (by simp [Region.wanted, hg])]
      obtain ⟨ι1, S1, hw1⟩ := hwk _ cx ι S a w hio hw
      refine .inl (h1 cx σ1 ι1 S1 a w h2 hw1 hfo _ Q fun W hW ι' S' a' w' hw' => ?_)
      have h3 := h3 W hW
      rw [updsK_iff] at h3
      exact goE_sound hT hio hk os _ ι' S' a' w' h3 hw' hfs
    · rename_i j want hg
      split at h <;> try (exact h.elim)
      rename_i s d hs hd
      split at h <;> try (exact h.elim)
      rename_i g hl
      have hs' : (ops[j]?).bind (·.dst) = some s := by simpa using hs
      obtain ⟨R, X, h1, h2⟩ := condStep_sound hT hg hs' hd hl h
      rw [updK_iff] at h2
      exact h1 cx σ ι S a w reads_actual hw hfo _ Q fun ι' S' a' w' hw' => goE_sound hT hio hk os _ ι' S' a' w' (by simpa [upds] using h2) hw' hfs
section
variable {P : Program} {io : List Nat} {Q : Ex → St → Prop} {σ : St}
theorem SW.regE {T : Tab} (hT : TabOk P T) (ks : List Nat) {id : Nat} {ops : Array Oper} (h : goE P T io ops.toList ops.toList σ fun σ' => keepK ks σ' (Q .norm)) : SW P io (.region id ops false) Q σ := by
  intro cx ι S a w hio hw hf
  have hfit : ∀ o ∈ ops.toList, ∀ d, o.dst = some d → d < cx.N := fun o ho => fit_of (by simpa [fits] using hf) ho
  refine wp_region_list (goE_sound hT hio (fun σ' ι' S' a' w' h4 hw' => ?_) ops.toList σ ι S a w h hw hfit)
  rw [keepK_iff] at h4
  exact ⟨_, ι', S', h4, hw'.keep ks⟩
end
section
variable {P : Program} {T : Tab} {io : List Nat} {f : FuncId} {n : Nat} {σin : St} {o : Oper} {c : Call} {d : Nat} {σ σ1 : St} {Xs : List V} {Ra : List (Loc × Option K)}
theorem ee_call {Qo : St → Prop} {rl : List (Nat × Nat)} {bor news : List Nat} {robj : List (Nat × K)} {k : St → Prop} (hs : SpecE P f n σin Qo) (ho : o.op = .call c) (hc : c.callee = .value (.func f)) (hx : evA σ c.args.toList = some (Xs, Ra)) (hn : Xs.length = n)
    (hm : Match (argSt 0 Xs ++ objSt robj) σin rl bor) (hq : ∀ σout, Qo σout → callOkB rl σin σout = true ∧ (bor = [] ∨ scalarSt σout) ∧ ∀ j ∈ newIds σin σout, j ∈ news) (h1 : ∀ p ∈ robj, look σ (.o p.1) = some p.2) (h2 : ∀ j ∈ news, look σ (.o (ren rl j)) = none)
    (h : ∀ σout, Qo σout → updsK σ (callW rl σin σout o.dst) k) : ∃ σ1, Wkn io σ σ1 ∧ ∃ R Ws, OpE P o R Ws ∧ Reads R σ1 ∧ ∀ W, Ws W → updsK σ1 W k := by
  refine ⟨σ, Wkn.rfl, _, _, opt_callE hs ho hc hx hn hm hq, fun p hp => ?_, fun W ⟨σout, hQ, e⟩ => e ▸ h σout hQ⟩
  rcases List.mem_append.1 hp with hp | hp
  · rcases List.mem_append.1 hp with hp | hp
    · exact evA_reads hx p hp
    · obtain ⟨q, hq, rfl⟩ := List.mem_map.1 hp
      exact h1 q hq
  · obtain ⟨j, hj, rfl⟩ := List.mem_map.1 hp
    exact h2 j hj
end
end Go.Ab

namespace Go.Ab
open Go Go.RowKit
set_option linter.unusedVariables false

def intRows (l : List Int) : List (List D) := l.map fun x => [.i x]
def boolRows (l : List Bool) : List (List D) := l.map fun x => [.b x]
def strRows (l : List (List UInt8)) : List (List D) := l.map fun x => [.s x]
theorem intRows_length (l : List Int) : (intRows l).length = l.length := by simp [intRows]
theorem boolRows_length (l : List Bool) : (boolRows l).length = l.length := by simp [boolRows]
theorem strRows_length (l : List (List UInt8)) : (strRows l).length = l.length := by simp [strRows]
theorem strRows_len1 (l : List (List UInt8)) : ∀ r ∈ strRows l, r.length = 1 := by
  intro r hr
  obtain ⟨b, _, rfl⟩ := List.mem_map.1 hr
  rfl
theorem intRows_getD {l : List Int} {i : Nat} (h : i < l.length) : (intRows l).getD i [] = [.i (l.getD i 0)] := by
  rw [List.getD_eq_getElem?_getD, List.getD_eq_getElem?_getD]
  simp [intRows, h]
theorem boolRows_getD {l : List Bool} {i : Nat} (h : i < l.length) : (boolRows l).getD i [] = [.b (l.getD i false)] := by
  rw [List.getD_eq_getElem?_getD, List.getD_eq_getElem?_getD]
  simp [boolRows, h]
theorem strRows_getD {l : List (List UInt8)} {i : Nat} (h : i < l.length) : (strRows l).getD i [] = [.s (l.getD i [])] := by
  rw [List.getD_eq_getElem?_getD, List.getD_eq_getElem?_getD]
  simp [strRows, h]
theorem ixI {l : List Int} {j : Int} (h0 : 0 ≤ j) (h : j < l.length) : (0 ≤ j ∧ j < (intRows l).length) ∧ ((intRows l).getD j.toNat []).length = 1 := by
  refine ⟨⟨h0, by rw [intRows_length]; exact h⟩, ?_⟩
  rw [intRows_getD (by omega)]; rfl
theorem ixS {l : List (List UInt8)} {j : Int} (h0 : 0 ≤ j) (h : j < l.length) : (0 ≤ j ∧ j < (strRows l).length) ∧ ((strRows l).getD j.toNat []).length = 1 := by
  refine ⟨⟨h0, by rw [strRows_length]; exact h⟩, ?_⟩
  rw [strRows_getD (by omega)]; rfl
theorem ldS {l : List (List UInt8)} {j : Int} (h0 : 0 ≤ j) (h : j < l.length) : 1 ≤ ((strRows l).getD j.toNat []).length ∧ ((strRows l).getD j.toNat []).take 1 = tyCells [.d (.s [])] ((strRows l).getD j.toNat []) 0 := by
  rw [strRows_getD (by omega)]; exact ⟨Nat.le_refl _, rfl⟩
theorem valS {l : List (List UInt8)} {j : Int} (h0 : 0 ≤ j) (h : j < l.length) : toS (((strRows l).getD j.toNat []).getD 0 (.i 0)) = l.getD j.toNat [] := by
  rw [strRows_getD (by omega)]; rfl
theorem intRows_push (l : List Int) (x : Int) : intRows l ++ [[D.i x]] = intRows (l ++ [x]) := by simp [intRows]
theorem strRows_push (l : List (List UInt8)) (x : List UInt8) : strRows l ++ [[D.s x]] = strRows (l ++ [x]) := by simp [strRows]
def l1Ok (b n : Int) : Bool := inB b 1 6 && inB n 0 999
theorem retQR {T : Tab} {io : List Nat} {rs : List ResultVar} {Qo : St → Prop} {s : St} (σout : St) (hq : Qo σout) (h : RetOk T io rs σout s) : bodyQE T io rs Qo .ret s := ⟨σout, hq, h⟩
end Go.Ab

namespace Go.Ab
open Go Go.RowKit
set_option linter.unusedVariables false

end Go.Ab

namespace Go.Ab
open Go Go.RowKit
set_option linter.unusedVariables false
set_option linter.unusedSimpArgs false

end Go.Ab

namespace Go.Ab
open Go Go.RowKit
set_option linter.unusedVariables false
set_option linter.unusedSimpArgs false

theorem Spec.freeze {P : Program} {f : FuncId} {n m : Nat} {σin : St} {e : TypeId} {es : Nat} {rows : List (List D)} (h : Spec P f n σin [(.t 0, .v (.e (.c (.own 0 m)))), (.o 0, .row e es rows)]) (hm : rows.length = m) (h0 : objIds σin = []) : Spec P f n σin [(.t 0, .v (Dv (.sl rows)))] := by
  have hno : ∀ o k, look σin (.o o) = some k → False := fun o k hk => by have := mem_objIds hk; rw [h0] at this; cases this
  refine ⟨h.1, fun ι ν S w args hg h1 h2 h3 => calls_mono (fun ex w' => ?_) (h.2 ι ν S w args hg h1 h2 h3)⟩
  rintro ⟨v, ι', S', rfl, hp⟩
  have hrow := hp.vr.objs 0 (.row e es rows) rfl
  have hv : v = ι' 0 := by
    obtain ⟨_, h2⟩ := (show CR _ ι' w' S' (.own 0 m) v from hp.vr.slots 0 _ rfl)
    rcases h2 with ⟨e2, es2, rows2, hl, _, hv⟩ | hd
    · cases hl; exact hv hm
    · cases hd
  have hmut : ∀ b, blk (ι' 0) = some b → Mut [(Loc.t 0, K.v (.e (.c (.own 0 m)))), (.o 0, .row e es rows)] ι' 0 b := fun b hb => ⟨⟨_, rfl, trivial⟩, hb⟩
  refine ⟨v, ι', fun b => S' b ∨ blk (ι' 0) = some b, rfl, hp.fr, ⟨fun s k hk => ?_, fun o k hk => ?_, fun o b hm2 => ?_, fun o o' b hm2 => ?_, fun b hb => ?_⟩, fun b hb => ?_, fun o b hm2 => ?_, fun o k k' hk hk' => ?_⟩
  · simp only [look] at hk
    split at hk
    · rename_i e3; cases e3; cases hk
      show DR w' _ (.sl rows) v
      rw [hv]; exact DR_of_row hrow (fun b h => .inl h) (fun b h => .inr h)
    · cases hk
  · simp [look] at hk
  · obtain ⟨⟨k, hk, _⟩, _⟩ := hm2; simp [look] at hk
  · obtain ⟨⟨k, hk, _⟩, _⟩ := hm2; simp [look] at hk
  · rcases hb with hb | hb
    · exact hp.vr.sz b hb
    · exact OR.lt hrow trivial hb
  · rcases hb with hb | hb
    · exact hp.rd b hb
    · rcases hp.own 0 b (hmut b hb) with h | ⟨⟨k, hk, _⟩, _⟩
      · exact .inr h
      · exact (hno 0 k hk).elim
  · obtain ⟨⟨k, hk, _⟩, _⟩ := hm2; simp [look] at hk
  · exact (hno o k hk).elim

end Go.Ab

namespace Go.Ab
open Go Go.RowKit
set_option linter.unusedVariables false

theorem at_set {A B : List (List D)} {r x : List D} {i : Nat} (h : A.length = i) : (A ++ r :: B).set i x = A ++ x :: B := by
  subst h
  rw [List.set_append_right _ _ (Nat.le_refl _), Nat.sub_self]; rfl
end Go.Ab

namespace Go.Ab
open Go Go.RowKit
set_option linter.unusedVariables false

structure NoteR where
  frm : Int
  num : Int
  to : Int
  til : Int
  text : List UInt8
  deriving DecidableEq
structure MarkR where
  frm : Int
  num : Int
  til : Int
  deriving DecidableEq
def NoteR.row (n : NoteR) : List D := [.i n.frm, .i n.num, .i n.to, .i n.til, .s n.text]
def MarkR.row (n : MarkR) : List D := [.i n.frm, .i n.num, .i n.til]
abbrev NoteR.V (n : NoteR) : V := .e (.agg [.d (.i n.frm), .d (.i n.num), .d (.i n.to), .d (.i n.til), .d (.s n.text)])
abbrev MarkR.V (n : MarkR) : V := .e (.agg [.d (.i n.frm), .d (.i n.num), .d (.i n.til)])
def NoteR.zero : NoteR := ⟨0, 0, 0, 0, []⟩
def MarkR.zero : MarkR := ⟨0, 0, 0⟩
def noteRows (l : List NoteR) : List (List D) := l.map NoteR.row
def markRows (l : List MarkR) : List (List D) := l.map MarkR.row
theorem noteRows_length (l : List NoteR) : (noteRows l).length = l.length := by simp [noteRows]
theorem markRows_length (l : List MarkR) : (markRows l).length = l.length := by simp [markRows]
theorem noteRows_len5 (l : List NoteR) : ∀ r ∈ noteRows l, r.length = 5 := by
  intro r hr
  obtain ⟨b, _, rfl⟩ := List.mem_map.1 hr
  rfl
theorem markRows_len3 (l : List MarkR) : ∀ r ∈ markRows l, r.length = 3 := by
  intro r hr
  obtain ⟨b, _, rfl⟩ := List.mem_map.1 hr
  rfl
theorem noteRows_getD {l : List NoteR} {i : Nat} (h : i < l.length) : (noteRows l).getD i [] = (l.getD i .zero).row := by
  rw [List.getD_eq_getElem?_getD, List.getD_eq_getElem?_getD]
  simp [noteRows, h]
theorem markRows_getD {l : List MarkR} {i : Nat} (h : i < l.length) : (markRows l).getD i [] = (l.getD i .zero).row := by
  rw [List.getD_eq_getElem?_getD, List.getD_eq_getElem?_getD]
  simp [markRows, h]
def signOk (s : List UInt8) (i : Nat) : Bool := inB (byteI s i) 32 126
def textOk (s : List UInt8) : Bool := (List.range s.length).all (signOk s) && inB s.length 1 24
def noteOk (n : NoteR) : Bool := isNode n.frm && isNode n.to && inB n.num 1 99 && inB n.til 1 999 && textOk n.text
def markOk (m : MarkR) : Bool := isNode m.frm && inB m.num 1 99 && inB m.til 1 999
def before (a b c d : Int) : Bool := decide (a < c) || a == c && decide (b < d)
def noteStep (l : List NoteR) (i : Nat) : Bool := noteOk (l.getD i .zero) && (i == 0 || before (l.getD (i - 1) .zero).frm (l.getD (i - 1) .zero).num (l.getD i .zero).frm (l.getD i .zero).num)
def notesOk (l : List NoteR) : Bool := (List.range l.length).all (noteStep l)
def markStep (l : List MarkR) (i : Nat) : Bool := markOk (l.getD i .zero) && (i == 0 || before (l.getD (i - 1) .zero).frm (l.getD (i - 1) .zero).num (l.getD i .zero).frm (l.getD i .zero).num)
def marksOk (l : List MarkR) : Bool := (List.range l.length).all (markStep l)
theorem all_true {p : Nat → Bool} {n : Nat} (h : ∀ k, k < n → p k = true) : (List.range n).all p = true := by
  rw [List.all_eq_true]; intro k hk; exact h k (List.mem_range.1 hk)
theorem all_false {p : Nat → Bool} {n k : Nat} (hk : k < n) (h : p k = false) : (List.range n).all p = false := by
  rw [List.all_eq_false]; exact ⟨k, List.mem_range.2 hk, by simp [h]⟩
def placeOf (p : Nat → Bool) : Nat → Nat → Int
  | _, 0 => -1
  | i, n + 1 => if p i then i else placeOf p (i + 1) n
theorem placeOf_hit {p : Nat → Bool} : ∀ {n i k : Nat}, i ≤ k → k < i + n → (∀ j, i ≤ j → j < k → p j = false) → p k = true → placeOf p i n = k
  | 0, i, k, h1, h2, _, _ => by omega
  | n + 1, i, k, h1, h2, h, hp => by
    unfold placeOf
    by_cases e : i = k
    · subst e; rw [if_pos hp]
    · rw [if_neg (by rw [h i (Nat.le_refl _) (by omega)]; simp), placeOf_hit (n := n) (i := i + 1) (k := k) (by omega) (by omega) (fun j h3 h4 => h j (by omega) h4) hp]
theorem placeOf_none {p : Nat → Bool} : ∀ {n i : Nat}, (∀ j, i ≤ j → j < i + n → p j = false) → placeOf p i n = -1
  | 0, i, _ => rfl
  | n + 1, i, h => by
    unfold placeOf
    rw [if_neg (by rw [h i (Nat.le_refl _) (by omega)]; simp), placeOf_none (n := n) (i := i + 1) fun j h3 h4 => h j (by omega) (by omega)]
theorem placeOf_range (p : Nat → Bool) : ∀ (n i : Nat), placeOf p i n = -1 ∨ ∃ k : Nat, placeOf p i n = k ∧ i ≤ k ∧ k < i + n ∧ p k = true ∧ ∀ j, i ≤ j → j < k → p j = false
  | 0, i => .inl rfl
  | n + 1, i => by
    unfold placeOf
    by_cases h : p i = true
    · rw [if_pos h]; exact .inr ⟨i, rfl, Nat.le_refl _, by omega, h, fun j h1 h2 => by omega⟩
    · rw [if_neg h]
      rcases placeOf_range p n (i + 1) with h1 | ⟨k, h1, h2, h3, h4, h5⟩
      · exact .inl h1
      · refine .inr ⟨k, h1, by omega, by omega, h4, fun j h6 h7 => ?_⟩
        by_cases e : j = i
        · subst e; simpa using h
        · exact h5 j (by omega) h7
def noteIs (l : List NoteR) (f n : Int) (i : Nat) : Bool := (l.getD i .zero).frm == f && (l.getD i .zero).num == n
def markIs (l : List MarkR) (f n : Int) (i : Nat) : Bool := (l.getD i .zero).frm == f && (l.getD i .zero).num == n
def noteAt (l : List NoteR) (f n : Int) : Int := placeOf (noteIs l f n) 0 l.length
def markAt (l : List MarkR) (f n : Int) : Int := placeOf (markIs l f n) 0 l.length
def onWay (id : Int) (n : NoteR) : Bool := id != n.to && (inB id n.frm n.to || inB id n.to n.frm)
structure KeepR where
  id : Int
  time : Int
  next : Int
  held : List NoteR
  marks : List MarkR
  inbox : List NoteR
  deriving DecidableEq
def heldOk (k : KeepR) (i : Nat) : Bool :=
  let n := k.held.getD i .zero
  !(n.frm == k.id && decide (k.next ≤ n.num)) && decide (k.time < n.til) && onWay k.id n && decide (markAt k.marks n.frm n.num < 0)
def marked (k : KeepR) (i : Nat) : Bool :=
  let m := k.marks.getD i .zero
  !(m.frm == k.id && decide (k.next ≤ m.num)) && decide (k.time < m.til)
def inboxOk (k : KeepR) (i : Nat) : Bool :=
  let n := k.inbox.getD i .zero
  !(n.frm == k.id && decide (k.next ≤ n.num)) && n.to == k.id && !(decide (k.time < n.til) && decide (markAt k.marks n.frm n.num < 0))
def keepOk (k : KeepR) : Bool :=
  isNode k.id && inB k.time 0 999 && inB k.next 1 100 && decide (k.held.length ≤ 6) && decide (k.marks.length ≤ 12) && decide (k.inbox.length ≤ 6) &&
  notesOk k.held && marksOk k.marks && notesOk k.inbox && (List.range k.held.length).all (heldOk k) && (List.range k.marks.length).all (marked k) && (List.range k.inbox.length).all (inboxOk k)
end Go.Ab

namespace Go.Ab
open Go Go.RowKit
set_option linter.unusedVariables false

def decF : Nat → Nat → List UInt8
  | 0, n => [UInt8.ofNat (48 + n % 10)]
  | f + 1, n => if n < 10 then [UInt8.ofNat (48 + n)] else decF f (n / 10) ++ [UInt8.ofNat (48 + n % 10)]
def dec (n : Nat) : List UInt8 := decF n n
theorem decF_any : ∀ {f g n : Nat}, n ≤ f → n ≤ g → decF f n = decF g n
  | 0, 0, n, _, _ => rfl
  | 0, g + 1, n, h, _ => by
    obtain rfl : n = 0 := by omega
    rfl
  | f + 1, 0, n, _, h => by
    obtain rfl : n = 0 := by omega
    rfl
  | f + 1, g + 1, n, h1, h2 => by
    unfold decF
    split
    · rfl
    · rw [decF_any (f := f) (g := g) (n := n / 10) (by omega) (by omega)]
theorem dec_small {n : Nat} (h : n < 10) : dec n = [UInt8.ofNat (48 + n)] := by
  unfold dec
  cases n with
  | zero => rfl
  | succ k => unfold decF; rw [if_pos h]
theorem dec_big {n : Nat} (h : 10 ≤ n) : dec n = dec (n / 10) ++ [UInt8.ofNat (48 + n % 10)] := by
  unfold dec
  cases n with
  | zero => omega
  | succ k =>
    conv => lhs; unfold decF
    rw [if_neg (by omega), decF_any (f := k) (g := (k + 1) / 10) (by omega) (Nat.le_refl _)]
def isDigit (b : UInt8) : Bool := decide (48 ≤ b.toNat) && decide (b.toNat ≤ 57)
def figV : List UInt8 → Nat := fun l => l.foldl (fun n b => n * 10 + (b.toNat - 48)) 0
theorem figV_snoc (l : List UInt8) (b : UInt8) : figV (l ++ [b]) = figV l * 10 + (b.toNat - 48) := by simp [figV]
theorem digit_toNat {d : Nat} (h : d < 10) : (UInt8.ofNat (48 + d)).toNat = 48 + d := by
  rw [UInt8.toNat_ofNat']; omega
theorem isDigit_of {d : Nat} (h : d < 10) : isDigit (UInt8.ofNat (48 + d)) = true := by
  unfold isDigit
  rw [digit_toNat h, Bool.and_eq_true, decide_eq_true_eq, decide_eq_true_eq]; omega
theorem figV_dec (n : Nat) : figV (dec n) = n := by
  induction n using Nat.strongRecOn with
  | _ n ih =>
    by_cases h : n < 10
    · rw [dec_small h]
      show 0 * 10 + ((UInt8.ofNat (48 + n)).toNat - 48) = n
      rw [digit_toNat h]; omega
    · rw [dec_big (by omega), figV_snoc, ih (n / 10) (by omega), digit_toNat (by omega)]
      omega
theorem dec_digits (n : Nat) : ∀ b ∈ dec n, isDigit b = true := by
  induction n using Nat.strongRecOn with
  | _ n ih =>
    intro b hb
    by_cases h : n < 10
    · rw [dec_small h] at hb
      rw [List.mem_singleton] at hb; subst hb
      exact isDigit_of h
    · rw [dec_big (by omega)] at hb
      rcases List.mem_append.1 hb with hb | hb
      · exact ih (n / 10) (by omega) b hb
      · rw [List.mem_singleton] at hb; subst hb
        exact isDigit_of (Nat.mod_lt _ (by decide))
theorem dec_ne (n : Nat) : dec n ≠ [] := by
  by_cases h : n < 10
  · rw [dec_small h]; simp
  · rw [dec_big (by omega)]; simp
theorem dec_head (n : Nat) : (dec n).getD 0 0 = 48 → n = 0 := by
  induction n using Nat.strongRecOn with
  | _ n ih =>
    intro hb
    by_cases h : n < 10
    · rw [dec_small h] at hb
      have h1 := congrArg UInt8.toNat hb
      simp only [List.getD_cons_zero] at h1
      rw [digit_toNat h] at h1
      have : (48 : UInt8).toNat = 48 := rfl
      omega
    · rw [dec_big (by omega), List.getD_eq_getElem?_getD, List.getElem?_append_left (List.length_pos_iff.2 (dec_ne _)), ← List.getD_eq_getElem?_getD] at hb
      have := ih (n / 10) (by omega) hb
      omega
theorem dec_figV : ∀ (n : Nat) (l : List UInt8), l.length = n → l ≠ [] → (∀ b ∈ l, isDigit b = true) → (l.getD 0 0 = 48 → l.length = 1) → dec (figV l) = l
  | 0, l, hn, h, _, _ => absurd (List.eq_nil_of_length_eq_zero hn) h
  | n + 1, l0, hn, hne, hd, hz => by
    obtain ⟨l, b, rfl⟩ : ∃ l b, l0 = l ++ [b] := by
      rcases List.eq_nil_or_concat l0 with h | ⟨L, b, h⟩
      · exact absurd h hne
      · exact ⟨L, b, by rw [h, List.concat_eq_append]⟩
    have hb := hd b (by simp)
    simp only [isDigit, Bool.and_eq_true, decide_eq_true_eq] at hb
    have hbb : UInt8.ofNat (48 + (b.toNat - 48)) = b := by
      apply UInt8.toNat_inj.1
      rw [UInt8.toNat_ofNat']; omega
    by_cases hl : l = []
    · subst hl
      show dec (0 * 10 + (b.toNat - 48)) = [b]
      rw [Nat.zero_mul, Nat.zero_add, dec_small (by omega), hbb]
    · have hlen : 0 < l.length := List.length_pos_iff.2 hl
      have hh : (l ++ [b]).getD 0 0 = l.getD 0 0 := by
        rw [List.getD_eq_getElem?_getD, List.getD_eq_getElem?_getD, List.getElem?_append_left hlen]
      have hz2 : l.getD 0 0 ≠ 48 := fun e => by
        have := hz (hh.trans e)
        rw [List.length_append] at this
        have h9 : l.length + 1 = 1 := this
        omega
      have ih2 := dec_figV n l (by simpa using hn) hl (fun x hx => hd x (List.mem_append_left _ hx)) (fun e => absurd e hz2)
      have hv : 1 ≤ figV l := by
        by_cases h0 : figV l = 0
        · rw [h0] at ih2
          rw [← ih2] at hz2
          exact absurd rfl hz2
        · omega
      rw [figV_snoc, dec_big (by omega), show (figV l * 10 + (b.toNat - 48)) / 10 = figV l by omega, show (figV l * 10 + (b.toNat - 48)) % 10 = b.toNat - 48 by omega, ih2, hbb]
end Go.Ab

namespace Go.Ab
open Go Go.RowKit
set_option linter.unusedVariables false

def digits (s : List UInt8) : Bool := s.all isDigit
def natV (s : List UInt8) : Option Nat := if (1 ≤ s.length ∧ s.length ≤ 5) ∧ ¬ (s.getD 0 0 = 48 ∧ 1 < s.length) ∧ digits s = true then some (figV s) else none
def decV (s : List UInt8) : Int := if (1 ≤ s.length ∧ s.length ≤ 4) ∧ digits s = true ∧ dec (figV s) = s then figV s else -1
theorem dec_written {s : List UInt8} (h1 : 1 ≤ s.length) (hd : digits s = true) : dec (figV s) = s ↔ ¬ (s.getD 0 0 = 48 ∧ 1 < s.length) := by
  have hne : s ≠ [] := fun e => by subst e; simp at h1
  have hd' : ∀ b ∈ s, isDigit b = true := List.all_eq_true.1 hd
  constructor
  · rintro e ⟨h2, h3⟩
    have h4 : figV s = 0 := dec_head (figV s) (by rw [e]; exact h2)
    rw [h4] at e
    have : s.length = 1 := by rw [← e]; rfl
    omega
  · intro h
    exact dec_figV s.length s rfl hne hd' fun h2 => by
      by_cases h3 : 1 < s.length
      · exact absurd ⟨h2, h3⟩ h
      · omega
theorem decV_natV {s : List UInt8} (h : s.length ≤ 4) : decV s = match natV s with | some n => (n : Int) | none => -1 := by
  unfold decV natV
  by_cases h1 : 1 ≤ s.length
  · by_cases hd : digits s = true
    · by_cases hw : ¬ (s.getD 0 0 = 48 ∧ 1 < s.length)
      · rw [if_pos ⟨⟨h1, h⟩, hd, (dec_written h1 hd).2 hw⟩, if_pos ⟨⟨h1, by omega⟩, hw, hd⟩]
      · rw [if_neg (fun e => hw ((dec_written h1 hd).1 e.2.2)), if_neg (fun e => hw e.2.1)]
    · rw [if_neg (fun e => hd e.2.1), if_neg (fun e => hd e.2.2)]
  · rw [if_neg (fun e => h1 e.1.1), if_neg (fun e => h1 e.1.1)]
theorem figV_lt : ∀ (n : Nat) (s : List UInt8), s.length = n → (∀ b ∈ s, isDigit b = true) → figV s < 10 ^ n
  | 0, s, hn, _ => by rw [List.eq_nil_of_length_eq_zero hn]; decide
  | n + 1, s0, hn, hd => by
    obtain ⟨s, b, rfl⟩ : ∃ l b, s0 = l ++ [b] := by
      rcases List.eq_nil_or_concat s0 with h | ⟨L, b, h⟩
      · rw [h] at hn; simp at hn
      · exact ⟨L, b, by rw [h, List.concat_eq_append]⟩
    have hb := hd b (by simp)
    simp only [isDigit, Bool.and_eq_true, decide_eq_true_eq] at hb
    have ih := figV_lt n s (by simpa using hn) fun x hx => hd x (List.mem_append_left _ hx)
    rw [figV_snoc, Nat.pow_succ]
    omega
theorem figV_take {s : List UInt8} {i : Nat} (h : i < s.length) : figV (s.take (i + 1)) = figV (s.take i) * 10 + ((s.getD i 0).toNat - 48) := by
  rw [List.take_add_one, List.getElem?_eq_getElem h]
  rw [show s[i] = s.getD i 0 by rw [List.getD_eq_getElem?_getD, List.getElem?_eq_getElem h]; rfl]
  exact figV_snoc _ _
end Go.Ab

namespace Go.Ab
open Go Go.RowKit
set_option linter.unusedVariables false

def colonF (s : List UInt8) : Nat → Nat → Option Nat
  | 0, _ => none
  | f + 1, i => if i < s.length then (if s.getD i 0 = 58 then some i else colonF s f (i + 1)) else none
def colonAt (s : List UInt8) : Option Nat := colonF s 3 0
def recAt (s : List UInt8) : Option (List UInt8 × Nat) :=
  match colonAt s with
  | none => none
  | some i => match natV (s.take i) with
    | none => none
    | some n => if 1 ≤ n ∧ n ≤ 60 ∧ i + 2 + n ≤ s.length ∧ s.getD (i + 1 + n) 0 = 59 then some ((s.take (i + 1 + n)).drop (i + 1), i + 2 + n) else none
theorem colonF_spec {s : List UInt8} : ∀ {f i k : Nat}, colonF s f i = some k → i ≤ k ∧ k < i + f ∧ k < s.length ∧ s.getD k 0 = 58 ∧ ∀ j, i ≤ j → j < k → s.getD j 0 ≠ 58
  | 0, i, k, h => by cases h
  | f + 1, i, k, h => by
    unfold colonF at h
    split at h
    · rename_i h1
      split at h
      · rename_i h2
        cases h
        exact ⟨Nat.le_refl _, by omega, h1, h2, fun j h3 h4 => by omega⟩
      · rename_i h2
        obtain ⟨q1, q2, q3, q4, q5⟩ := colonF_spec h
        refine ⟨by omega, by omega, q3, q4, fun j h3 h4 => ?_⟩
        by_cases e : j = i
        · subst e; exact h2
        · exact q5 j (by omega) h4
    · cases h
theorem colonF_of {s : List UInt8} : ∀ {f i k : Nat}, i ≤ k → k < i + f → k < s.length → s.getD k 0 = 58 → (∀ j, i ≤ j → j < k → s.getD j 0 ≠ 58) → colonF s f i = some k
  | 0, i, k, h1, h2, _, _, _ => by omega
  | f + 1, i, k, h1, h2, h3, h4, h5 => by
    unfold colonF
    rw [if_pos (by omega)]
    by_cases e : i = k
    · subst e; rw [if_pos h4]
    · rw [if_neg (h5 i (Nat.le_refl _) (by omega))]
      exact colonF_of (by omega) (by omega) h3 h4 fun j h6 h7 => h5 j (by omega) h7
theorem colonF_no {s : List UInt8} : ∀ {f i : Nat}, (∀ j, i ≤ j → j < i + f → j < s.length → s.getD j 0 ≠ 58) → colonF s f i = none
  | 0, i, _ => rfl
  | f + 1, i, h => by
    unfold colonF
    split
    · rename_i h1
      rw [if_neg (h i (Nat.le_refl _) (by omega) h1)]
      exact colonF_no fun j h2 h3 => h j (by omega) (by omega)
    · rfl
theorem recAt_spec {s r : List UInt8} {n : Nat} (h : recAt s = some (r, n)) : 3 ≤ n ∧ n ≤ s.length ∧ n ≤ 64 ∧ r.length ≤ 60 ∧ 1 ≤ r.length := by
  unfold recAt at h
  split at h
  · cases h
  · rename_i i hi
    obtain ⟨q1, q2, q3, q4, q5⟩ := colonF_spec hi
    split at h
    · cases h
    · rename_i m hm
      split at h
      · rename_i hc
        cases h
        have h1 : 1 ≤ (s.take i).length := by
          unfold natV at hm
          split at hm
          · rename_i h9; exact h9.1.1
          · cases hm
        rw [List.length_take] at h1
        refine ⟨by omega, by omega, by omega, ?_, ?_⟩ <;> rw [List.length_drop, List.length_take] <;> omega
      · cases h
def readF : Nat → List UInt8 → List (List UInt8) × Nat
  | 0, _ => ([], 0)
  | f + 1, s => match recAt s with
    | none => ([], 0)
    | some (r, n) => (r :: (readF f (s.drop n)).1, n + (readF f (s.drop n)).2)
def shelfRead (s : List UInt8) : List (List UInt8) × Nat := readF s.length s
theorem recAt_nil : recAt [] = none := rfl
theorem readF_any : ∀ {f g : Nat} {s : List UInt8}, s.length ≤ f → s.length ≤ g → readF f s = readF g s
  | 0, 0, s, _, _ => rfl
  | 0, g + 1, s, h, _ => by
    obtain rfl : s = [] := List.eq_nil_of_length_eq_zero (by omega)
    simp [readF, recAt_nil]
  | f + 1, 0, s, _, h => by
    obtain rfl : s = [] := List.eq_nil_of_length_eq_zero (by omega)
    simp [readF, recAt_nil]
  | f + 1, g + 1, s, h1, h2 => by
    unfold readF
    cases hr : recAt s with
    | none => rfl
    | some p =>
      obtain ⟨r, n⟩ := p
      have := recAt_spec hr
      have e := readF_any (f := f) (g := g) (s := s.drop n) (by rw [List.length_drop]; omega) (by rw [List.length_drop]; omega)
      simp only [e]
theorem shelfRead_stop {s : List UInt8} (h : recAt s = none) : shelfRead s = ([], 0) := by
  unfold shelfRead
  cases s with
  | nil => rfl
  | cons b t => simp [readF, h]
theorem shelfRead_step {s r : List UInt8} {n : Nat} (h : recAt s = some (r, n)) : shelfRead s = (r :: (shelfRead (s.drop n)).1, n + (shelfRead (s.drop n)).2) := by
  have h1 := recAt_spec h
  unfold shelfRead
  rw [readF_any (f := s.length) (g := (s.length - 1) + 1) (Nat.le_refl _) (by omega)]
  conv => lhs; unfold readF
  rw [h]
  simp only
  rw [readF_any (f := s.length - 1) (g := (s.drop n).length) (by rw [List.length_drop]; omega) (Nat.le_refl _)]
theorem shelfRead_le : ∀ (k : Nat) (s : List UInt8), s.length ≤ k → (shelfRead s).2 ≤ s.length ∧ (shelfRead s).1.length ≤ s.length
  | 0, s, h => by
    obtain rfl : s = [] := List.eq_nil_of_length_eq_zero (by omega)
    rw [shelfRead_stop recAt_nil]; simp
  | k + 1, s, h => by
    cases hr : recAt s with
    | none => rw [shelfRead_stop hr]; simp
    | some p =>
      obtain ⟨r, n⟩ := p
      have h1 := recAt_spec hr
      have ih := shelfRead_le k (s.drop n) (by rw [List.length_drop]; omega)
      rw [List.length_drop] at ih
      rw [shelfRead_step hr]
      simp only [List.length_cons]
      omega
def shelfOk (log : List UInt8) (forced : Int) : Bool :=
  decide (log.length ≤ 2400) && inB forced 0 log.length && decide ((shelfRead log).2 = log.length) && decide (((shelfRead (log.take forced.toNat)).2 : Int) = forced)
end Go.Ab

namespace Go.Ab
open Go Go.RowKit
set_option linter.unusedVariables false
set_option linter.unusedSimpArgs false

def tilesB (T : Tab) (sz : Nat) : Nat → List (Nat × TypeId) → Bool
  | off, [] => Nat.beq off sz
  | off, p :: r => Nat.beq p.1 off && (match T p.2 with | some fi => tilesB T sz (off + fi.size) r | none => false)
def deepOk (T : Tab) : Nat → TypeId → Bool
  | 0, _ => false
  | n + 1, t => match T t with
    | none => false
    | some ti => match ti.kind with
      | .int .i64 => true
      | .int .u8 => true
      | .bool => true
      | .str => true
      | .sl e => deepOk T n e
      | .st fs => tilesB T ti.size 0 fs && fs.all fun p => deepOk T n p.2
      | _ => false
def Typed (T : Tab) (B : Nat) : Nat → TypeId → List D → Prop
  | 0, _, _ => False
  | n + 1, t, ds => match T t with
    | none => False
    | some ti => match ti.kind with
      | .int .i64 => ∃ x, ds = [.i x] ∧ (Lit.int .i64 x).wf = true
      | .int .u8 => ∃ x, ds = [.u x] ∧ (Lit.int .u8 x).wf = true
      | .bool => ∃ b, ds = [.b b]
      | .str => ∃ l, ds = [.s l] ∧ l.length ≤ B
      | .sl e => ∃ rows, ds = [.sl rows] ∧ (match T e with | some ei => rows.length * ei.bytes ≤ B | none => False) ∧ ∀ r ∈ rows, Typed T B n e r
      | .st fs => ds.length = ti.size ∧ ∀ p ∈ fs, match T p.2 with | some fi => Typed T B n p.2 ((ds.drop p.1).take fi.size) | none => False
      | _ => False
section
variable {H : Type} {enc : TypeId × Value → H} {P : Program} {W : World} {sp : Nat → Bool} {held : Bool} {T : Tab} {B : Nat}
theorem cellsOf_of (hT : TabOk P T) {t : TypeId} {ti : TI} (h : T t = some ti) : P.cellsOf t = ti.size ∧ P.bytesOf t = ti.bytes := by
  obtain ⟨i, z, hi, h1, h2, _⟩ := (hT t ti h).info
  exact ⟨by simp [Program.cellsOf, hi, h1], by simp [Program.bytesOf, hi, h2]⟩
theorem cell_lt {a : Addr} {v : Value} (h : W.cell? a = some v) : a.block < W.heap.size := by
  unfold World.cell? at h
  cases hq : W.heap[a.block]? with
  | none => rw [hq] at h; simp at h
  | some o => exact (Array.getElem?_eq_some_iff.1 hq).1
theorem cells_at {base : Nat} {a : Addr} {n : Nat} {cs : List Value} (h : W.cells? base a n = some cs) : cs.length = n ∧ ∀ (k : Nat) v, cs[k]? = some v → W.cell? (a.add k) = some v := by
  unfold World.cells? at h
  split at h
  · have key : ∀ (l : List Nat) (cs : List Value), l.mapM (fun i => W.cell? (a.add i)) = some cs → cs.length = l.length ∧ ∀ (k : Nat) v, cs[k]? = some v → ∃ i, l[k]? = some i ∧ W.cell? (a.add i) = some v := by
      intro l
      induction l with
      | nil => intro cs h; simp at h; subst h; exact ⟨rfl, by simp⟩
      | cons x r ih =>
        intro cs h
        rw [List.mapM_cons] at h
        obtain ⟨v, h1, h⟩ := Option.bind_eq_some_iff.1 h
        obtain ⟨vs, h2, h⟩ := Option.bind_eq_some_iff.1 h
        cases h
        obtain ⟨q1, q2⟩ := ih vs h2
        refine ⟨by simp [q1], fun k u hu => ?_⟩
        cases k with
        | zero => simp at hu; subst hu; exact ⟨x, rfl, h1⟩
        | succ k => simpa using q2 k u (by simpa using hu)
    obtain ⟨q1, q2⟩ := key _ _ h
    refine ⟨by simpa using q1, fun k v hv => ?_⟩
    obtain ⟨i, h1, h2⟩ := q2 k v hv
    have := (List.getElem?_eq_some_iff.1 h1)
    obtain ⟨h3, h4⟩ := this
    simp at h4
    rw [h4]; exact h2
  · cases h

def SW0 (W : World) : Nat → Prop := fun b => b < W.heap.size
def Rd (W : World) (ds : List D) (cs : List Value) : Prop := ds.length = cs.length ∧ ∀ (k : Nat) x v, ds[k]? = some x → cs[k]? = some v → DR W (SW0 W) x v
theorem Rd.one {x : D} {v : Value} (h : DR W (SW0 W) x v) : Rd W [x] [v] := ⟨rfl, fun k y u h1 h2 => by
  cases k with
  | zero => simp at h1 h2; subst h1; subst h2; exact h
  | succ k => simp at h1⟩
theorem Rd.append {ds es : List D} {cs vs : List Value} (h : Rd W ds cs) (k : Rd W es vs) : Rd W (ds ++ es) (cs ++ vs) := by
  refine ⟨by simp [h.1, k.1], fun i x v h1 h2 => ?_⟩
  by_cases hi : i < ds.length
  · rw [List.getElem?_append_left hi] at h1
    rw [List.getElem?_append_left (by rw [← h.1]; exact hi)] at h2
    exact h.2 i x v h1 h2
  · rw [List.getElem?_append_right (by omega)] at h1
    rw [List.getElem?_append_right (by rw [← h.1]; omega), ← h.1] at h2
    exact k.2 _ x v h1 h2

def OpenOk (enc : TypeId × Value → H) (P : Program) (W : World) (sp : Nat → Bool) (held : Bool) (T : Tab) (B N : Nat) (t : TypeId) : Prop :=
  ∀ fuel cs d ps, DataW.trod enc P W 0 sp held fuel t cs = some (d, ps) → (d.weights P t).all (· ≤ B) = true → ∃ ds, Rd W ds cs ∧ Typed T B N t ds

theorem fields_typed (hT : TabOk P T) {N sz fuel : Nat} : ∀ (fs : List Field) (off : Nat) (cs : List Value) (xs : List (DataW H × List MemPlace)), tilesB T sz off (fs.map fun f => (f.offset, f.type)) = true → cs.length = sz → off ≤ sz →
    (∀ f ∈ fs, OpenOk enc P W sp held T B N f.type) → fs.mapM (fun f => DataW.trod enc P W 0 sp held fuel f.type ((cs.drop f.offset).take (P.cellsOf f.type))) = some xs → (DataW.weightsEach P (fs.map (·.type)) (xs.map (·.1))).all (· ≤ B) = true →
    ∃ ds, Rd W ds (cs.drop off) ∧ ∀ p ∈ fs.map (fun f => (f.offset, f.type)), off ≤ p.1 ∧ match T p.2 with | some fi => Typed T B N p.2 ((ds.drop (p.1 - off)).take fi.size) | none => False
  | [], off, cs, xs, ht, hl, ho, _, _, _ => by
    have : off = sz := Nat.eq_of_beq_eq_true ht
    exact ⟨[], by rw [List.drop_eq_nil_of_le (by omega)]; exact ⟨rfl, by simp⟩, by simp⟩
  | f :: fs, off, cs, xs, ht, hl, ho, hop, hm, hw => by
    simp only [List.map_cons, tilesB, Bool.and_eq_true] at ht
    obtain ⟨h1, h2⟩ := ht
    have h1 := Nat.eq_of_beq_eq_true h1
    cases hf : T f.type with
    | none => rw [hf] at h2; cases h2
    | some fi =>
      rw [hf] at h2
      simp only at h2
      rw [List.mapM_cons] at hm
      obtain ⟨x, hx, hm⟩ := Option.bind_eq_some_iff.1 hm
      obtain ⟨ys, hy, hm⟩ := Option.bind_eq_some_iff.1 hm
      cases hm
      obtain ⟨hc1, hc2⟩ := cellsOf_of hT hf
      simp only [List.map_cons, DataW.weightsEach, List.all_append, Bool.and_eq_true] at hw
      obtain ⟨ds, hr, hty⟩ := hop f (List.mem_cons_self ..) _ _ _ _ hx hw.1
      have hoff : off + fi.size ≤ sz := by
        -- the rest tiles from there to sz
        have key : ∀ (l : List (Nat × TypeId)) (o : Nat), tilesB T sz o l = true → o ≤ sz := by
          intro l
          induction l with
          | nil => intro o h; exact Nat.le_of_eq (Nat.eq_of_beq_eq_true h)
          | cons p r ih =>
            intro o h
            simp only [tilesB, Bool.and_eq_true] at h
            cases hq : T p.2 with
            | none => rw [hq] at h; cases h.2
            | some qi => rw [hq] at h; have := ih _ h.2; omega
        exact key _ _ h2
      obtain ⟨es, hr2, hty2⟩ := fields_typed hT fs (off + fi.size) cs ys h2 hl hoff (fun g hg => hop g (List.mem_cons_of_mem _ hg)) hy hw.2
      rw [hc1, h1] at hr
      have hdl : ds.length = fi.size := by rw [hr.1, List.length_take, List.length_drop]; omega
      refine ⟨ds ++ es, ?_, fun p hp => ?_⟩
      · have e : cs.drop off = (cs.drop off).take fi.size ++ cs.drop (off + fi.size) := by
          rw [← List.drop_drop, List.take_append_drop]
        rw [e]; exact hr.append hr2
      · rcases List.mem_cons.1 hp with rfl | hp
        · refine ⟨Nat.le_of_eq h1.symm, ?_⟩
          simp only [hf, h1, Nat.sub_self, List.drop_zero]
          rw [List.take_append_of_le_length (by omega), ← hdl, List.take_length]; exact hty
        · obtain ⟨q1, q2⟩ := hty2 p hp
          refine ⟨by omega, ?_⟩
          cases hq : T p.2 with
          | none => rw [hq] at q2; exact q2
          | some qi =>
            rw [hq] at q2
            simp only at q2 ⊢
            rw [List.drop_append, List.drop_eq_nil_of_le (by omega), List.nil_append, hdl, show p.1 - off - fi.size = p.1 - (off + fi.size) by omega]
            exact q2
theorem weightsAll_mem {e : TypeId} : ∀ {l : List (DataW H)}, (DataW.weightsAll P e l).all (· ≤ B) = true → ∀ d ∈ l, (d.weights P e).all (· ≤ B) = true
  | [], _, d, hd => by cases hd
  | x :: r, h, d, hd => by
    simp only [DataW.weightsAll, List.all_append, Bool.and_eq_true] at h
    rcases List.mem_cons.1 hd with rfl | hd
    · exact h.1
    · exact weightsAll_mem h.2 d hd
theorem open_typed (hT : TabOk P T) : ∀ (N : Nat) (t : TypeId), deepOk T N t = true → OpenOk enc P W sp held T B N t
  | 0, t, h => by cases h
  | N + 1, t, h => by
    intro fuel cs d ps htr hw
    unfold deepOk at h
    cases ht : T t with
    | none => rw [ht] at h; cases h
    | some ti =>
      rw [ht] at h
      simp only at h
      have hok := hT t ti ht
      have hk := hok.kind
      cases fuel with
      | zero => cases htr
      | succ fuel =>
        cases hkk : ti.kind with
        | int k =>
          rw [hkk] at h hk
          simp only [TKOk] at hk
          unfold DataW.trod at htr
          rw [hk] at htr
          split at htr <;> rename_i he <;> try (cases he; done)
          · rename_i _ _ kk mm
            cases he
            split at htr
            · rename_i hc
              cases htr
              obtain ⟨rfl, hwf⟩ := hc
              cases kk <;> try (cases h; done)
              · exact ⟨[.i mm], .one (.i _), by unfold Typed; simp only [ht, hkk]; exact ⟨_, rfl, hwf⟩⟩
              · exact ⟨[.u mm], .one (.u _), by unfold Typed; simp only [ht, hkk]; exact ⟨_, rfl, hwf⟩⟩
            · cases htr
          all_goals cases htr
        | bool =>
          rw [hkk] at hk
          simp only [TKOk] at hk
          unfold DataW.trod at htr
          rw [hk] at htr
          split at htr <;> rename_i he <;> try (cases he; done)
          · cases htr
            exact ⟨[.b _], .one (.b _), by unfold Typed; simp only [ht, hkk]; exact ⟨_, rfl⟩⟩
          all_goals cases htr
        | str =>
          rw [hkk] at hk
          simp only [TKOk] at hk
          unfold DataW.trod at htr
          rw [hk] at htr
          split at htr <;> rename_i he <;> try (cases he; done)
          · rename_i _ s
            split at htr
            · cases htr
              refine ⟨[.s s.data.toList], .one (.s _), ?_⟩
              unfold Typed; simp only [ht, hkk]
              exact ⟨_, rfl, by simpa [DataW.weights] using hw⟩
            · cases htr
          all_goals cases htr
        | sl e =>
          rw [hkk] at h hk
          simp only [TKOk] at hk
          simp only at h
          have hih := open_typed hT N e h
          cases he : T e with
          | none => cases N with
            | zero => cases h
            | succ N => unfold deepOk at h; rw [he] at h; cases h
          | some ei =>
            obtain ⟨hc1, hc2⟩ := cellsOf_of hT he
            have hep := (hT e ei he).pos
            rcases Deep.open_slice hk htr with ⟨rfl, hx⟩ | ⟨a, len, cap, m, n, Df, Pl, rfl, hb, hl, hm, hmm, hx, hel⟩
            · refine ⟨[.sl []], .one (.sl [] none 0 0 ⟨0, 0, none⟩ (fun _ _ => undef) (by simp) (by simp [maxLen]) (by simp) (by simp) (by simp) (by simp)), ?_⟩
              unfold Typed; simp only [ht, hkk]
              exact ⟨[], rfl, by simp [he], by simp⟩
            · cases hx
              simp only [DataW.weights, hk, List.all_cons, List.all_append, Bool.and_eq_true, decide_eq_true_eq, List.length_map, List.length_range] at hw
              have hlm : len ≤ m := by rw [hmm]; split <;> omega
              have hrow : ∀ i, i < len → ∃ r, (∃ cs', W.cells? 0 (a.add (i * ei.size)) ei.size = some cs' ∧ Rd W r cs') ∧ Typed T B N e r := by
                intro i hi
                obtain ⟨cs', h1, h2⟩ := hel i (by omega)
                rw [hc1] at h1
                obtain ⟨r, q1, q2⟩ := hih _ _ _ _ h2 (weightsAll_mem hw.2.1 _ (List.mem_map.2 ⟨i, List.mem_range.2 hi, rfl⟩))
                exact ⟨r, ⟨cs', h1, q1⟩, q2⟩
              obtain ⟨rf, hrf⟩ : ∃ rf : Nat → List D, ∀ i, i < len → (∃ cs', W.cells? 0 (a.add (i * ei.size)) ei.size = some cs' ∧ Rd W (rf i) cs') ∧ Typed T B N e (rf i) :=
                ⟨fun i => if hi : i < len then Classical.choose (hrow i hi) else [], fun i hi => by dsimp only; rw [dif_pos hi]; exact Classical.choose_spec (hrow i hi)⟩
              have hget : ∀ (i : Nat) r, ((List.range len).map rf)[i]? = some r → i < len ∧ r = rf i := by
                intro i r hr
                rw [List.getElem?_map] at hr
                by_cases hi : i < len
                · rw [List.getElem?_range hi] at hr; simp at hr; exact ⟨hi, hr.symm⟩
                · rw [List.getElem?_eq_none (by simpa using hi)] at hr; cases hr
              have hlen : ∀ i, i < len → (rf i).length = ei.size := by
                intro i hi
                obtain ⟨⟨cs', h1, h2⟩, _⟩ := hrf i hi
                rw [h2.1, (cells_at h1).1]
              have hcell : ∀ i, i < len → ∀ (k : Nat) x, (rf i)[k]? = some x → ∃ v, W.cell? (a.add (i * ei.size + k)) = some v ∧ DR W (SW0 W) x v := by
                intro i hi k x hx
                obtain ⟨⟨cs', h1, h2⟩, _⟩ := hrf i hi
                have hk' : k < cs'.length := by rw [← h2.1]; exact (List.getElem?_eq_some_iff.1 hx).1
                refine ⟨cs'[k], ?_, h2.2 k x _ hx (List.getElem?_eq_getElem hk')⟩
                have := (cells_at h1).2 k _ (List.getElem?_eq_getElem hk')
                rwa [Deep.add_add] at this
              refine ⟨[.sl ((List.range len).map rf)], .one ?_, ?_⟩
              · have e1 : ((List.range len).map rf).length = len := by simp
                have := DR.sl (w := W) (S := SW0 W) ((List.range len).map rf) (some a) cap ei.size a (fun i k => (W.cell? (a.add (i * ei.size + k))).getD undef) (by rw [e1]; exact hl) hm
                  (fun r hr => by obtain ⟨i, hi, rfl⟩ := List.mem_map.1 hr; exact hlen i (List.mem_range.1 hi)) (fun _ => rfl)
                  (fun i r k d hi hk => by
                    obtain ⟨h1, rfl⟩ := hget i r hi
                    obtain ⟨v, h2, h3⟩ := hcell i h1 k d hk
                    have hb : (a.add (i * ei.size + k)).block = a.block := by unfold Addr.add; split <;> rfl
                    exact ⟨by have := cell_lt h2; rw [hb] at this; exact this, by rw [h2]; rfl⟩)
                  (fun i r k d hi hk => by
                    obtain ⟨h1, rfl⟩ := hget i r hi
                    obtain ⟨v, h2, h3⟩ := hcell i h1 k d hk
                    rw [h2]; exact h3)
                rw [e1] at this; exact this
              · unfold Typed; simp only [ht, hkk]
                refine ⟨_, rfl, ?_, fun r hr => ?_⟩
                · simp only [he]
                  rw [List.length_map, List.length_range, ← hc2]
                  have := hw.1
                  rw [Nat.add_mul] at this
                  omega
                · obtain ⟨i, hi, rfl⟩ := List.mem_map.1 hr
                  exact (hrf i (List.mem_range.1 hi)).2
        | st fs =>
          rw [hkk] at h hk
          simp only [TKOk] at hk
          obtain ⟨fields, hu, hfs⟩ := hk
          simp only [Bool.and_eq_true] at h
          unfold DataW.trod at htr
          rw [hu] at htr
          have htr : (if cs.length = P.cellsOf t then (fields.toList.mapM fun f => DataW.trod enc P W 0 sp held fuel f.type ((cs.drop f.offset).take (P.cellsOf f.type))).map fun xs => (DataW.agg (xs.map (·.1)), xs.flatMap (·.2)) else none) = some (d, ps) := htr
          split at htr
          · rename_i hcl
            obtain ⟨xs, hxs, hmk⟩ := Option.map_eq_some_iff.1 htr
            cases hmk
            have hsz := (cellsOf_of hT ht).1
            simp only [DataW.weights, hu] at hw
            obtain ⟨ds, h1, h2⟩ := fields_typed hT fields.toList 0 cs xs (by rw [hfs]; exact h.1) (by rw [hcl, hsz]) (Nat.zero_le _)
              (fun f hf => open_typed hT N f.type (by
                have := List.all_eq_true.1 h.2 (f.offset, f.type) (by rw [← hfs]; exact List.mem_map.2 ⟨f, hf, rfl⟩)
                exact this)) hxs hw
            refine ⟨ds, by simpa using h1, ?_⟩
            unfold Typed; simp only [ht, hkk]
            refine ⟨by have := h1.1; simp at this; rw [this, hcl, hsz], fun p hp => ?_⟩
            rw [← hfs] at hp
            have := (h2 p hp).2
            simpa using this
          · cases htr
        | arr n e => rw [hkk] at h; cases h
        | ptr e => rw [hkk] at h; cases h
end

section
variable {H : Type} {enc : TypeId × Value → H} {P : Program} {W : World} {sp : Nat → Bool} {held : Bool} {T : Tab} {B : Nat}
theorem arg_typed (hT : TabOk P T) (N : Nat) {t : TypeId} {ti : TI} (ht : T t = some ti) (hd : deepOk T N t = true) {v : Value} {d : DataW H} {ps : List MemPlace} {r : Reach} {base : Nat} (h : DataW.Trod enc P W 0 sp held t v d ps) (hv : Value.okWide P W r base t v) (hw : (d.weights P t).all (· ≤ B) = true) :
    ∃ ds, Typed T B N t ds ∧ (ti.kind.agg = true → ∀ σ ι, VaR σ ι W (SW0 W) (.e (.agg (ds.map C.d))) v) ∧ (ti.kind.agg = false → ∃ x, ds = [x] ∧ ∀ σ ι, VaR σ ι W (SW0 W) (Dv x) v) := by
  obtain ⟨fuel, hf⟩ := h
  obtain ⟨ds, h1, h2⟩ := open_typed hT N t hd _ _ _ _ hf hw
  refine ⟨ds, h2, fun ha => ?_, fun ha => ?_⟩
  · have hk := (hT t ti ht).kind
    have hcs : ∃ cs, v = .agg cs := by
      cases hkk : ti.kind <;> rw [hkk] at ha hk <;> simp only [TK.agg] at ha <;> try (cases ha; done)
      · simp only [TKOk] at hk
        obtain ⟨fields, hu, _⟩ := hk
        obtain ⟨cs, hcs, _⟩ := WideShapes.okWide_struct hu hv
        exact ⟨cs, hcs⟩
      · cases N with
        | zero => cases hd
        | succ N => unfold deepOk at hd; rw [ht] at hd; simp only [hkk] at hd; cases hd
    obtain ⟨cs, rfl⟩ := hcs
    intro σ ι
    have h1 : Rd W ds cs.toList := h1
    refine ⟨cs.toList, by simp, by rw [List.length_map, h1.1], fun k c u hc hu => ?_⟩
    rw [List.getElem?_map] at hc
    cases hq : ds[k]? with
    | none => rw [hq] at hc; cases hc
    | some x => rw [hq] at hc; cases hc; exact h1.2 k x u hq hu
  · have hk := (hT t ti ht).kind
    have hone : v.cells.toList = [v] := by
      cases hkk : ti.kind <;> rw [hkk] at ha hk <;> simp only [TK.agg] at ha <;> try (cases ha; done)
      all_goals simp only [TKOk] at hk
      · obtain ⟨n, rfl⟩ := WideShapes.okWide_int hk hv; rfl
      · obtain ⟨n, rfl⟩ := WideShapes.okWide_bool hk hv; rfl
      · obtain ⟨n, rfl⟩ := WideShapes.okWide_string hk hv; rfl
      · obtain ⟨a, l, c, rfl⟩ := WideShapes.okWide_slice hk hv; rfl
      · obtain ⟨a, rfl⟩ := WideShapes.okWide_pointer hk hv; rfl
    rw [hone] at h1
    match ds, h1.1 with
    | [x], _ => exact ⟨x, rfl, fun σ ι => h1.2 0 x v rfl rfl⟩
theorem calls_true (hgb : GB P W fun _ => False) {f : FuncId} {n : Nat} {Xs : List V} (hs : Spec P f n (argSt 0 Xs) [(.t 0, .v (Ab.B true))]) {args : Array Value} (hn : Xs.length = n) (hsz : args.size = n) (hX : ∀ (i : Nat) X v, Xs[i]? = some X → args[i]? = some v → ∀ σ ι, VaR σ ι W (SW0 W) X v) :
    Calls P f args W fun e W' => e = .returned (.bool true) ∧ Below W.heap.size W W' := by
  have hlo : ∀ o, look (argSt 0 Xs) (.o o) = none := fun o => by have := look_argSt_o 0 Xs [] o; simpa [look] using this
  have hvr : VR (argSt 0 Xs) (fun _ => undef) (fun i => (args[i]?).getD undef) (SW0 W) W := by
    refine ⟨fun s k hk => ?_, (fun o k hk => by rw [hlo] at hk; cases hk), fun o b hm => ?_, fun o o' b hm => ?_, fun b hb => hb⟩
    · rcases look_argSt_t 0 Xs [] s k (by simpa using hk) with ⟨X, h1, rfl, _, h2⟩ | h
      · have h3 : s < args.size := by omega
        have : args[s]? = some args[s] := Array.getElem?_eq_getElem h3
        show VaR _ _ _ _ X ((args[s]?).getD undef)
        rw [this]
        exact hX s X _ (by simpa using h1) this _ _
      · cases h
    · obtain ⟨⟨k, hk, _⟩, _⟩ := hm; rw [hlo] at hk; cases hk
    · obtain ⟨⟨k, hk, _⟩, _⟩ := hm; rw [hlo] at hk; cases hk
  refine (hs.2 _ _ _ W args (hgb.weak fun b ⟨o, ⟨k, hk, _⟩, _⟩ => by rw [hlo] at hk; cases hk) hvr hsz fun i hi => ?_).mono fun e W' ⟨v, ι', S', he, hp⟩ => ?_
  · rw [Array.getElem?_eq_getElem (by omega)]; rfl
  · have hv := hp.vr.slots 0 (.v (Ab.B true)) rfl
    simp only [SlotR, VaR, ER, CR] at hv
    refine ⟨?_, hp.fr.os, hp.fr.tape, hp.fr.output, hp.fr.size, fun k hk => hp.fr.block k hk fun ⟨o, ⟨q, hq, _⟩, _⟩ => by rw [hlo] at hq; cases hq⟩
    rw [he]; cases hv; rfl
end
end Go.Ab

namespace Go.Proofs.YtilahgkblckndaaGreatDoor
open Go Go.Ab Go.RowKit
set_option linter.unusedVariables false
set_option linter.unusedSimpArgs false
theorem mo : Tryz.prog.follows .mixedOrders = true := by kernel_rfl

theorem s_impl_in (n lo hi : Int) : Ab.Spec Tryz.prog 50 3 [(.t 0, .v (I n)), (.t 1, .v (I lo)), (.t 2, .v (I hi))] [(.t 0, .v (B (inB n lo hi)))] := by
  refine spec_of_body tabOk Tryz.func50 rfl (by kernel_rfl) (by decide) (by kernel_rfl) rfl ?_
  refine SW.seq ?_
  refine SW.regT tabOk [0, 1, 2, 11, 12, 13] ?_
  refine ai trivial ?_
  refine SW.seq ?_
  refine SW.regT tabOk [6] ?_
  refine ai trivial (ai trivial (ai trivial (ai trivial (ai (fun h => trivial) (ai rk (ai (fun h => trivial) (ai rk (ai (fun h => trivial) (ai rk (ai pk (ai trivial ?_)))))))))))
  refine SW.ret ?_
  refine retOk1 rfl ?_
  simp [inB, gb]

theorem s_spec_l6In (n lo hi : Int) : Ab.Spec Tryz.prog 44 3 [(.t 0, .v (I n)), (.t 1, .v (I lo)), (.t 2, .v (I hi))] [(.t 0, .v (B (inB n lo hi)))] := by
  refine spec_of_body tabOk Tryz.func44 rfl (by kernel_rfl) (by decide) (by kernel_rfl) rfl ?_
  refine SW.seq ?_
  refine SW.regT tabOk [0, 1, 2, 11, 12, 13] ?_
  refine ai trivial ?_
  refine SW.seq ?_
  refine SW.regT tabOk [6] ?_
  refine ai trivial (ai trivial (ai trivial (ai trivial (ai (fun h => trivial) (ai rk (ai (fun h => trivial) (ai rk (ai (fun h => trivial) (ai rk (ai pk (ai trivial ?_)))))))))))
  refine SW.ret ?_
  refine retOk1 rfl ?_
  simp [inB, gb]

theorem s_impl_isNode (n : Int) : Ab.Spec Tryz.prog 68 1 [(.t 0, .v (I n))] [(.t 0, .v (B (isNode n)))] := by
  refine spec_of_body tabOk Tryz.func68 rfl (by kernel_rfl) (by decide) (by kernel_rfl) rfl ?_
  refine SW.seq ?_
  refine SW.regT tabOk [0] ?_
  refine ai trivial ?_
  refine SW.seq ?_
  refine SW.regT tabOk [2] ?_
  refine ai trivial ?_
  refine ex_pure (s_impl_in _ _ _) rfl rfl rfl rfl rfl rfl rfl rfl ?_
  refine ai trivial ?_
  refine SW.ret ?_
  refine retOk1 rfl ?_
  first | rfl | (simp; done) | (simp_all; done)

theorem s_spec_l3Keeper (n : Int) : Ab.Spec Tryz.prog 61 1 [(.t 0, .v (I n))] [(.t 0, .v (B (isNode n)))] := by
  refine spec_of_body tabOk Tryz.func61 rfl (by kernel_rfl) (by decide) (by kernel_rfl) rfl ?_
  refine SW.seq ?_
  refine SW.regT tabOk [0] ?_
  refine ai trivial ?_
  refine SW.seq ?_
  refine SW.regT tabOk [2] ?_
  refine ai trivial ?_
  refine ex_pure (s_spec_l6In _ _ _) rfl rfl rfl rfl rfl rfl rfl rfl ?_
  refine ai trivial ?_
  refine SW.ret ?_
  refine retOk1 rfl ?_
  first | rfl | (simp; done) | (simp_all; done)

theorem s_impl_before (a b c d : Int) : Ab.Spec Tryz.prog 186 4 [(.t 0, .v (I a)), (.t 1, .v (I b)), (.t 2, .v (I c)), (.t 3, .v (I d))] [(.t 0, .v (B (before a b c d)))] := by
  refine spec_of_body tabOk Tryz.func186 rfl (by kernel_rfl) (by decide) (by kernel_rfl) rfl ?_
  refine SW.seq ?_
  refine SW.regT tabOk [0, 1, 2, 3, 13, 14, 15, 16, 17, 18, 19, 20] ?_
  refine ai trivial ?_
  refine SW.seq ?_
  refine SW.regT tabOk [8] ?_
  refine ai trivial (ai trivial (ai trivial (ai trivial (ai (fun h => trivial) (ai rk (ai (fun h => trivial) (ai rk (ai (fun h => trivial) (ai rk (ai (fun h => trivial) (ai rk (ai (fun h => trivial) (ai rk (ai (fun h => trivial) (ai rk (ai (fun h => trivial) (ai rk (ai (fun h => pk) (ai rk (ai pk (ai trivial ?_)))))))))))))))))))))
  refine SW.ret ?_
  refine retOk1 rfl (congrArg D.b ?_)
  simp [before, gb]

theorem s_spec_l12Less (a b c d : Int) : Ab.Spec Tryz.prog 185 4 [(.t 0, .v (I a)), (.t 1, .v (I b)), (.t 2, .v (I c)), (.t 3, .v (I d))] [(.t 0, .v (B (before a b c d)))] := by
  refine spec_of_body tabOk Tryz.func185 rfl (by kernel_rfl) (by decide) (by kernel_rfl) rfl ?_
  refine SW.seq ?_
  refine SW.regT tabOk [0, 1, 2, 3, 13, 14, 15, 16, 17, 18, 19, 20] ?_
  refine ai trivial ?_
  refine SW.seq ?_
  refine SW.regT tabOk [8] ?_
  refine ai trivial (ai trivial (ai trivial (ai trivial (ai (fun h => trivial) (ai rk (ai (fun h => trivial) (ai rk (ai (fun h => trivial) (ai rk (ai (fun h => trivial) (ai rk (ai (fun h => trivial) (ai rk (ai (fun h => trivial) (ai rk (ai (fun h => trivial) (ai rk (ai (fun h => pk) (ai rk (ai pk (ai trivial ?_)))))))))))))))))))))
  refine SW.ret ?_
  refine retOk1 rfl (congrArg D.b ?_)
  simp [before, gb]

theorem s_impl_markOk (m : MarkR) : Ab.Spec Tryz.prog 187 1 [(.t 0, .v (m.V))] [(.t 0, .v (B (markOk m)))] := by
  refine spec_of_body tabOk Tryz.func187 rfl (by kernel_rfl) (by decide) (by kernel_rfl) rfl ?_
  refine SW.seq ?_
  refine SW.regT tabOk [1, 7, 8, 9, 12, 13, 14] ?_
  refine ai trivial (ai trivial ?_)
  refine SW.seq ?_
  refine SW.regT tabOk [2] ?_
  refine ai (by first | trivial | rfl) (ai vc ?_)
  refine ex_pure (s_impl_isNode _) rfl rfl rfl rfl rfl rfl rfl rfl ?_
  refine ai trivial (ai (fun h => (by first | trivial | rfl)) (ai rk (ai (fun h => vc) (ai rk ?_))))
  refine exc_pure (fun h => (s_impl_in _ _ _)) rfl rfl rfl rfl rfl rfl rfl rfl rk ?_
  refine ai pk (ai trivial (ai (fun h => (by first | trivial | rfl)) (ai rk (ai (fun h => vc) (ai rk ?_)))))
  refine exc_pure (fun h => (s_impl_in _ _ _)) rfl rfl rfl rfl rfl rfl rfl rfl rk ?_
  refine ai pk (ai trivial ?_)
  refine SW.ret ?_
  refine retOk1 rfl (congrArg D.b ?_)
  simp [markOk, gb]

theorem s_impl_textOk (s : List UInt8) (hl : s.length ≤ 140737488355328) : Ab.Spec Tryz.prog 162 1 [(.t 0, .v (Dv (.s s)))] [(.t 0, .v (B (textOk s)))] := by
  refine spec_of_body tabOk Tryz.func162 rfl (by kernel_rfl) (by decide) (by kernel_rfl) rfl ?_
  refine SW.seq ?_
  refine SW.regT tabOk [0] ?_
  refine ai trivial ?_
  refine SW.seq ?_
  refine SW.seq ?_
  refine SW.regT tabOk [0, 3] ?_
  refine ai trivial ?_
  refine SW.block ?_
  -- live at the head: [0, 3]
  refine SW.loopW (n := s.length) (fun n q => ∃ i : Nat, n = s.length - i ∧ i ≤ s.length ∧ (∀ k, k < i → signOk s k = true) ∧ q = [(.t 0, .v (Dv (.s s))), (.t 3, .v (I (i : Nat)))]) ?_ ?_
  · skip
    refine wk [(.t 0, .v (Dv (.s s))), (.t 3, .v (I (0 : Nat)))] [] [] (⟨0, rfl, Nat.zero_le _, fun k h => absurd h (by omega), rfl⟩) ?_ rfl rfl
    repeat' first | exact trivial | refine mL_nil rfl ?_ | refine mL_d rfl ?_ ?_ | refine mL_own rfl rfl ?_ rfl ?_ | refine mL_row rfl ?_ ?_ | refine mL_pt rfl rfl rfl rfl ?_ | refine mL_box rfl ?_ ?_ | refine mL_agg rfl ?_ ?_ | exact mCs_nil0 | refine mCs_d ?_ ?_ | refine mCs_nil ?_ | refine mCs_own rfl ?_ rfl ?_ | refine mCs_pt rfl rfl rfl ?_
    all_goals first | with_reducible rfl | (first | rfl | (simp; done) | omega)
  rintro n s ⟨i, rfl, hi, hk, rfl⟩
  refine SW.seq ?_
  refine SW.seq ?_
  refine SW.regT tabOk [0, 3, 7] ?_
  refine ai trivial (ai trivial (ai vc (ai trivial ?_)))
  refine SW.cond rfl (fun c7 => ?_) (fun c7 => ?_)
  · skip
    have hi2 : i < s.length := by simpa using c7
    have hb8 := byteI_range s i
    have hw : wrap64 ((s.getD ((i : Nat) : Int).toNat 0).toNat : Int) = byteI s i := wrap64_of (by unfold byteI at hb8; rw [Int.toNat_natCast]; omega)
    refine SW.skip ?_
    refine SW.seq ?_
    refine SW.block ?_
    refine SW.seq ?_
    refine SW.regT tabOk [0, 3, 15] ?_
    refine ai trivial (ai trivial (ai (by exact ⟨by omega, by omega⟩) (ai (by first | trivial | rfl) ?_)))
    refine ex_pure (s_impl_in _ _ _) rfl rfl rfl rfl rfl rfl rfl rfl ?_
    refine ai trivial ?_
    refine SW.cond rfl (fun c15 => ?_) (fun c15 => ?_)
    · skip
      refine SW.seq ?_
      refine SW.regT tabOk [2] ?_
      refine ai trivial ?_
      refine SW.ret ?_
      refine retOk1 rfl (congrArg D.b ?_)
      have hs : signOk s i = false := by
        have h9 := c15
        rw [hw] at h9
        simpa [signOk] using h9
      rw [textOk, all_false hi2 hs]; rfl
    · skip
      refine SW.skip ?_
      refine SW.regT tabOk [0, 3] ?_
      refine ai trivial (ai trivial (ai trivial ?_))
      have hs : signOk s i = true := by
        have h9 := c15
        rw [hw] at h9
        simpa [signOk] using h9
      refine wk [(.t 0, .v (Dv (.s s))), (.t 3, .v (I ((i + 1) : Nat)))] [] [] (⟨s.length - (i + 1), by omega, i + 1, rfl, by omega, fun k h => by by_cases e : k = i; exact e ▸ hs; exact hk k (by omega), rfl⟩) ?_ rfl rfl
      repeat' first | exact trivial | refine mL_nil rfl ?_ | refine mL_d rfl ?_ ?_ | refine mL_own rfl rfl ?_ rfl ?_ | refine mL_row rfl ?_ ?_ | refine mL_pt rfl rfl rfl rfl ?_ | refine mL_box rfl ?_ ?_ | refine mL_agg rfl ?_ ?_ | exact mCs_nil0 | refine mCs_d ?_ ?_ | refine mCs_nil ?_ | refine mCs_own rfl ?_ rfl ?_ | refine mCs_pt rfl rfl rfl ?_
      all_goals first | with_reducible rfl | (first | with_reducible rfl | exact congrArg D.i (wrap64_of (by omega)))
  · skip
    have hi3 : i = s.length := by simp at c7; omega
    refine SW.exit ?_
    refine SW.seq ?_
    refine SW.regT tabOk [2] ?_
    refine ai trivial (ai vc ?_)
    refine ex_pure (s_impl_in _ _ _) rfl rfl rfl rfl rfl rfl rfl rfl ?_
    refine ai trivial ?_
    refine SW.ret ?_
    refine retOk1 rfl (congrArg D.b ?_)
    subst hi3
    rw [textOk, all_true hk]; rfl

theorem s_impl_NoteOk (n : NoteR) (hl : n.text.length ≤ 140737488355328) : Ab.Spec Tryz.prog 117 1 [(.t 0, .v (n.V))] [(.t 0, .v (B (noteOk n)))] := by
  refine spec_of_body tabOk Tryz.func117 rfl (by kernel_rfl) (by decide) (by kernel_rfl) rfl ?_
  refine SW.seq ?_
  refine SW.regT tabOk [1, 7, 8, 9, 12, 13, 14, 17, 18, 19, 22, 23, 24] ?_
  refine ai trivial (ai trivial ?_)
  refine SW.seq ?_
  refine SW.regT tabOk [2] ?_
  refine ai (by first | trivial | rfl) (ai vc ?_)
  refine ex_pure (s_impl_isNode _) rfl rfl rfl rfl rfl rfl rfl rfl ?_
  refine ai trivial (ai (fun h => (by first | trivial | rfl)) (ai rk (ai (fun h => vc) (ai rk ?_))))
  refine exc_pure (fun h => (s_impl_isNode _)) rfl rfl rfl rfl rfl rfl rfl rfl rk ?_
  refine ai pk (ai trivial (ai (fun h => (by first | trivial | rfl)) (ai rk (ai (fun h => vc) (ai rk ?_)))))
  refine exc_pure (fun h => (s_impl_in _ _ _)) rfl rfl rfl rfl rfl rfl rfl rfl rk ?_
  refine ai pk (ai trivial (ai (fun h => (by first | trivial | rfl)) (ai rk (ai (fun h => vc) (ai rk ?_)))))
  refine exc_pure (fun h => (s_impl_in _ _ _)) rfl rfl rfl rfl rfl rfl rfl rfl rk ?_
  refine ai pk (ai trivial (ai (fun h => (by first | trivial | rfl)) (ai rk (ai (fun h => vc) (ai rk ?_)))))
  refine exc_pure (fun h => (s_impl_textOk n.text hl)) rfl rfl rfl rfl rfl rfl rfl rfl rk ?_
  refine ai pk (ai trivial ?_)
  refine SW.ret ?_
  refine retOk1 rfl (congrArg D.b ?_)
  simp [noteOk, gb, Bool.and_assoc]

end Go.Proofs.YtilahgkblckndaaGreatDoor

namespace Go.Proofs.YtilahgkblckndaaGreatDoor
open Go Go.Ab Go.RowKit
set_option linter.unusedVariables false
set_option linter.unusedSimpArgs false

set_option maxHeartbeats 800000 in
theorem s_spec_NoteOk (n : NoteR) (hl : n.text.length ≤ 140737488355328) : Ab.Spec Tryz.prog 62 1 [(.t 0, .v (n.V))] [(.t 0, .v (B (noteOk n)))] := by
  refine spec_of_body tabOk Tryz.func62 rfl (by kernel_rfl) (by decide) (by kernel_rfl) rfl ?_
  refine SW.seq ?_
  refine SW.regT tabOk [1, 9, 10, 11, 12, 15, 16, 17, 18, 21, 22, 23, 24, 27, 28, 29, 30, 33, 34, 35, 36, 51, 52, 53, 54, 55] ?_
  refine ai trivial (ai trivial ?_)
  refine SW.seq ?_
  refine SW.seq ?_
  refine SW.regT tabOk [1, 37, 51, 52, 53, 54, 55] ?_
  refine ai (by first | trivial | rfl) (ai vc ?_)
  refine ex_pure (s_spec_l3Keeper _) rfl rfl rfl rfl rfl rfl rfl rfl ?_
  refine ai trivial (ai trivial (ai (fun h => (by first | trivial | rfl)) (ai rk (ai (fun h => vc) (ai rk ?_)))))
  refine exc_pure (fun h => (s_spec_l3Keeper _)) rfl rfl rfl rfl rfl rfl rfl rfl rk ?_
  refine ai (fun h => trivial) (ai rk (ai pk (ai trivial (ai (fun h => (by first | trivial | rfl)) (ai rk (ai (fun h => vc) (ai rk ?_)))))))
  refine exc_pure (fun h => (s_spec_l6In _ _ _)) rfl rfl rfl rfl rfl rfl rfl rfl rk ?_
  refine ai (fun h => trivial) (ai rk (ai pk (ai trivial (ai (fun h => (by first | trivial | rfl)) (ai rk (ai (fun h => vc) (ai rk ?_)))))))
  refine exc_pure (fun h => (s_spec_l6In _ _ _)) rfl rfl rfl rfl rfl rfl rfl rfl rk ?_
  refine ai (fun h => trivial) (ai rk (ai pk (ai trivial (ai (fun h => (by first | trivial | rfl)) (ai rk (ai (fun h => vc) (ai rk (ai (fun h => vc) (ai rk (ai (fun h => trivial) (ai rk (ai pk (ai trivial (ai (fun h => (by first | trivial | rfl)) (ai rk (ai (fun h => vc) (ai rk (ai (fun h => vc) (ai rk (ai (fun h => trivial) (ai rk (ai pk ?_))))))))))))))))))))))
  refine SW.cond rfl (fun c37 => ?_) (fun c37 => ?_)
  · skip
    refine SW.seq ?_
    refine SW.regT tabOk [2] ?_
    refine ai trivial ?_
    refine SW.ret ?_
    refine retOk1 rfl (congrArg D.b ?_)
    cases h : noteOk n with
    | false => rfl
    | true =>
      exfalso
      simp only [noteOk, textOk, Bool.and_eq_true] at h
      obtain ⟨⟨⟨⟨h1, h2⟩, h3⟩, h4⟩, h5, h6⟩ := h
      simp only [inB, Bool.and_eq_true, decide_eq_true_eq] at h6
      simp only [h1, h2, h3, h4, Bool.not_true, Bool.false_or, Bool.or_eq_true, decide_eq_true_eq] at c37
      omega
  · skip
    have hf : isNode n.frm = true ∧ isNode n.to = true ∧ inB n.num 1 99 = true ∧ inB n.til 1 999 = true ∧ 1 ≤ n.text.length ∧ n.text.length ≤ 24 := by
      simp only [gb, Bool.or_eq_false_iff, Bool.not_eq_false, decide_eq_false_iff_not, Bool.not_eq_eq_eq_not, Bool.not_false] at c37
      grind
    refine SW.skip ?_
    refine SW.seq ?_
    refine SW.seq ?_
    refine SW.regT tabOk [1, 3, 51, 52, 53, 54, 55] ?_
    refine ai trivial ?_
    refine SW.block ?_
    -- live at the head: [1, 3, 51, 52, 53, 54, 55]
    refine SW.loopW (n := n.text.length) (fun m q => ∃ i : Nat, m = n.text.length - i ∧ i ≤ n.text.length ∧ (∀ k, k < i → signOk n.text k = true) ∧ q = [(.t 1, .v (.e (.c (.pt 1 0)))), (.t 3, .v (I (i : Nat))), (.o 1, .box 64 [.d (.i n.frm), .d (.i n.num), .d (.i n.to), .d (.i n.til), .d (.s n.text)])]) ?_ ?_
    · skip
      refine wk [(.t 1, .v (.e (.c (.pt 1 0)))), (.t 3, .v (I (0 : Nat))), (.o 1, .box 64 [.d (.i n.frm), .d (.i n.num), .d (.i n.to), .d (.i n.til), .d (.s n.text)])] [] [] (⟨0, rfl, Nat.zero_le _, fun k h => absurd h (by omega), rfl⟩) ?_ rfl rfl
      repeat' first | exact trivial | refine mL_nil rfl ?_ | refine mL_d rfl ?_ ?_ | refine mL_own rfl rfl ?_ rfl ?_ | refine mL_row rfl ?_ ?_ | refine mL_pt rfl rfl rfl rfl ?_ | refine mL_box rfl ?_ ?_ | refine mL_agg rfl ?_ ?_ | exact mCs_nil0 | refine mCs_d ?_ ?_ | refine mCs_nil ?_ | refine mCs_own rfl ?_ rfl ?_ | refine mCs_pt rfl rfl rfl ?_
      all_goals first | with_reducible rfl | (first | rfl | (simp; done) | omega)
    rintro n s ⟨i, rfl, hi, hk, rfl⟩
    refine SW.seq ?_
    refine SW.seq ?_
    refine SW.regT tabOk [1, 3, 42, 51, 52, 53, 54, 55] ?_
    refine ai trivial (ai (by first | trivial | rfl) (ai vc (ai vc (ai trivial ?_))))
    refine SW.cond rfl (fun c42 => ?_) (fun c42 => ?_)
    · skip
      have hi2 : i < n.text.length := by simpa using c42
      refine SW.skip ?_
      refine SW.seq ?_
      refine SW.block ?_
      refine SW.seq ?_
      refine SW.regT tabOk [1, 3, 51, 52, 53, 54, 55, 56] ?_
      refine ai (by first | trivial | rfl) (ai vc (ai trivial (ai (by exact ⟨by omega, by omega⟩) (ai trivial (ai trivial (ai (fun h => (by first | trivial | rfl)) (ai rk (ai (fun h => vc) (ai rk (ai (fun h => trivial) (ai rk (ai (fun h => (by exact ⟨by omega, by omega⟩)) (ai rk (ai (fun h => trivial) (ai rk (ai pk ?_))))))))))))))))
      refine SW.cond rfl (fun c56 => ?_) (fun c56 => ?_)
      · skip
        refine SW.seq ?_
        refine SW.regT tabOk [2] ?_
        refine ai trivial ?_
        refine SW.ret ?_
        refine retOk1 rfl (congrArg D.b ?_)
        have hs : signOk n.text i = false := by
          have h9 := c56
          rw [Int.toNat_natCast] at h9
          simp [gb] at h9
          simp [signOk, inB, byteI]; omega
        rw [noteOk, textOk, all_false hi2 hs]; simp
      · skip
        refine SW.skip ?_
        refine SW.regT tabOk [1, 3, 51, 52, 53, 54, 55] ?_
        refine ai trivial (ai trivial (ai trivial ?_))
        have hs : signOk n.text i = true := by
          have h9 := c56
          rw [Int.toNat_natCast] at h9
          simp [gb] at h9
          simp [signOk, inB, byteI]; omega
        refine wk [(.t 1, .v (.e (.c (.pt 1 0)))), (.t 3, .v (I ((i + 1) : Nat))), (.o 1, .box 64 [.d (.i n.frm), .d (.i n.num), .d (.i n.to), .d (.i n.til), .d (.s n.text)])] [] [] (⟨n.text.length - (i + 1), by omega, i + 1, rfl, by omega, fun k h => by by_cases e : k = i; exact e ▸ hs; exact hk k (by omega), rfl⟩) ?_ rfl rfl
        repeat' first | exact trivial | refine mL_nil rfl ?_ | refine mL_d rfl ?_ ?_ | refine mL_own rfl rfl ?_ rfl ?_ | refine mL_row rfl ?_ ?_ | refine mL_pt rfl rfl rfl rfl ?_ | refine mL_box rfl ?_ ?_ | refine mL_agg rfl ?_ ?_ | exact mCs_nil0 | refine mCs_d ?_ ?_ | refine mCs_nil ?_ | refine mCs_own rfl ?_ rfl ?_ | refine mCs_pt rfl rfl rfl ?_
        all_goals first | with_reducible rfl | (first | with_reducible rfl | exact congrArg D.i (wrap64_of (by omega)))
    · skip
      have hi3 : i = n.text.length := by simp at c42; omega
      refine SW.exit ?_
      refine SW.seq ?_
      refine SW.regT tabOk [2] ?_
      refine ai trivial ?_
      refine SW.ret ?_
      refine retOk1 rfl (congrArg D.b ?_)
      subst hi3
      obtain ⟨h1, h2, h3, h4, h5, h6⟩ := hf
      rw [noteOk, textOk, all_true hk, h1, h2, h3, h4]
      simp [inB]; omega

theorem s_impl_noteAt (l : List NoteR) (f m : Int) (hl : l.length ≤ 1000000) : Ab.Spec Tryz.prog 52 3 [(.t 0, .v (Dv (.sl (noteRows l)))), (.t 1, .v (I f)), (.t 2, .v (I m))] [(.t 0, .v (I (noteAt l f m)))] := by
  refine spec_of_body tabOk Tryz.func52 rfl (by kernel_rfl) (by decide) (by kernel_rfl) rfl ?_
  refine SW.seq ?_
  refine SW.regT tabOk [0, 1, 2, 21, 22, 23, 24] ?_
  refine ai trivial ?_
  refine SW.seq ?_
  refine SW.seq ?_
  refine SW.regT tabOk [1, 2, 9, 10, 11, 21, 22, 23, 24] ?_
  refine ai trivial (ai vc (ai trivial ?_))
  refine SW.block ?_
  -- live at the head: [1, 2, 9, 10, 11, 21, 22, 23, 24]
  refine SW.loopW (n := l.length) (fun n q => ∃ i : Nat, n = l.length - i ∧ i ≤ l.length ∧ (∀ k, k < i → noteIs l f m k = false) ∧ q = [(.t 1, .v (I f)), (.t 2, .v (I m)), (.t 9, .v (Dv (.sl (noteRows l)))), (.t 10, .v (I (l.length : Nat))), (.t 11, .v (I (i : Nat)))]) ?_ ?_
  · skip
    refine wk [(.t 1, .v (I f)), (.t 2, .v (I m)), (.t 9, .v (Dv (.sl (noteRows l)))), (.t 10, .v (I (l.length : Nat))), (.t 11, .v (I (0 : Nat)))] [] [] (⟨0, rfl, Nat.zero_le _, fun k h => absurd h (by omega), rfl⟩) ?_ rfl rfl
    repeat' first | exact trivial | refine mL_nil rfl ?_ | refine mL_d rfl ?_ ?_ | refine mL_own rfl rfl ?_ rfl ?_ | refine mL_row rfl ?_ ?_ | refine mL_pt rfl rfl rfl rfl ?_ | refine mL_box rfl ?_ ?_ | refine mL_agg rfl ?_ ?_ | exact mCs_nil0 | refine mCs_d ?_ ?_ | refine mCs_nil ?_ | refine mCs_own rfl ?_ rfl ?_ | refine mCs_pt rfl rfl rfl ?_
    all_goals first | with_reducible rfl | (first | with_reducible rfl | (rw [noteRows_length]; done) | rfl)
  rintro n s ⟨i, rfl, hi, hk, rfl⟩
  refine SW.seq ?_
  refine SW.regT tabOk [1, 2, 9, 10, 11, 12, 21, 22, 23, 24] ?_
  refine ai trivial ?_
  refine SW.seq ?_
  refine SW.cond rfl (fun c12 => ?_) (fun c12 => ?_)
  · skip
    have hi2 : i < l.length := by simpa using c12
    have hg := noteRows_getD (l := l) hi2
    refine SW.skip ?_
    refine SW.seq ?_
    refine SW.block ?_
    refine SW.seq ?_
    refine SW.regT tabOk [1, 2, 7, 8, 9, 10, 11, 21, 22, 23, 24] ?_
    refine ai trivial (ai (by rw [Int.toNat_natCast, hg]; exact ⟨⟨by omega, by rw [noteRows_length]; omega⟩, rfl⟩) (ai (by rw [Int.toNat_natCast, hg]; exact ⟨Nat.le_of_ble_eq_true rfl, rfl⟩) (ai trivial (ai trivial (ai ⟨by kernel_rfl, Nat.le_of_ble_eq_true (by kernel_rfl)⟩ ?_)))))
    refine SW.seq ?_
    refine SW.regT tabOk [1, 2, 7, 9, 10, 11, 21, 22, 23, 24, 25] ?_
    refine ai (by first | trivial | rfl) (ai vc (ai trivial (ai trivial (ai trivial (ai (fun h => (by first | trivial | rfl)) (ai rk (ai (fun h => vc) (ai rk (ai (fun h => trivial) (ai rk (ai (fun h => trivial) (ai rk (ai pk ?_)))))))))))))
    refine SW.cond rfl (fun c25 => ?_) (fun c25 => ?_)
    · skip
      refine SW.seq ?_
      refine SW.regT tabOk [6] ?_
      refine ai trivial (ai trivial ?_)
      refine SW.ret ?_
      refine retOk1 rfl (congrArg D.i ?_)
      have hs : noteIs l f m i = true := by
        have h9 := c25
        rw [Int.toNat_natCast, hg] at h9
        exact h9
      exact (placeOf_hit (Nat.zero_le _) (by omega) (fun j _ h => hk j h) hs).symm
    · skip
      refine SW.skip ?_
      refine SW.regT tabOk [1, 2, 9, 10, 11, 21, 22, 23, 24] ?_
      refine ai trivial (ai trivial ?_)
      have hs : noteIs l f m i = false := by
        have h9 := c25
        rw [Int.toNat_natCast, hg] at h9
        exact h9
      refine wk [(.t 1, .v (I f)), (.t 2, .v (I m)), (.t 9, .v (Dv (.sl (noteRows l)))), (.t 10, .v (I (l.length : Nat))), (.t 11, .v (I ((i + 1) : Nat)))] [] [] (⟨l.length - (i + 1), by omega, i + 1, rfl, by omega, fun k h => by by_cases e : k = i; exact e ▸ hs; exact hk k (by omega), rfl⟩) ?_ rfl rfl
      repeat' first | exact trivial | refine mL_nil rfl ?_ | refine mL_d rfl ?_ ?_ | refine mL_own rfl rfl ?_ rfl ?_ | refine mL_row rfl ?_ ?_ | refine mL_pt rfl rfl rfl rfl ?_ | refine mL_box rfl ?_ ?_ | refine mL_agg rfl ?_ ?_ | exact mCs_nil0 | refine mCs_d ?_ ?_ | refine mCs_nil ?_ | refine mCs_own rfl ?_ rfl ?_ | refine mCs_pt rfl rfl rfl ?_
      all_goals first | with_reducible rfl | (first | with_reducible rfl | exact congrArg D.i (wrap64_of (by omega)))
  · skip
    have hi3 : i = l.length := by simp at c12; omega
    refine SW.exit ?_
    refine SW.seq ?_
    refine SW.regT tabOk [6] ?_
    refine ai trivial ?_
    refine SW.ret ?_
    refine retOk1 rfl (congrArg D.i ?_)
    exact (placeOf_none (fun j _ h => hk j (by omega))).symm

theorem s_spec_l12Held (l : List NoteR) (f m : Int) (hl : l.length ≤ 1000000) : Ab.Spec Tryz.prog 43 3 [(.t 0, .v (Dv (.sl (noteRows l)))), (.t 1, .v (I f)), (.t 2, .v (I m))] [(.t 0, .v (I (noteAt l f m)))] := by
  refine spec_of_body tabOk Tryz.func43 rfl (by kernel_rfl) (by decide) (by kernel_rfl) rfl ?_
  refine SW.seq ?_
  refine SW.regT tabOk [0, 1, 2, 22, 23, 24, 25, 26, 27, 28] ?_
  refine ai trivial ?_
  refine SW.seq ?_
  refine SW.seq ?_
  refine SW.regT tabOk [0, 1, 2, 7, 22, 23, 24, 25, 26, 27, 28] ?_
  refine ai trivial ?_
  refine SW.block ?_
  -- live at the head: [0, 1, 2, 7, 22, 23, 24, 25, 26, 27, 28]
  refine SW.loopW (n := l.length) (fun n q => ∃ i : Nat, n = l.length - i ∧ i ≤ l.length ∧ (∀ k, k < i → noteIs l f m k = false) ∧ q = [(.t 0, .v (Dv (.sl (noteRows l)))), (.t 1, .v (I f)), (.t 2, .v (I m)), (.t 7, .v (I (i : Nat)))]) ?_ ?_
  · skip
    refine wk [(.t 0, .v (Dv (.sl (noteRows l)))), (.t 1, .v (I f)), (.t 2, .v (I m)), (.t 7, .v (I (0 : Nat)))] [] [] (⟨0, rfl, Nat.zero_le _, fun k h => absurd h (by omega), rfl⟩) ?_ rfl rfl
    repeat' first | exact trivial | refine mL_nil rfl ?_ | refine mL_d rfl ?_ ?_ | refine mL_own rfl rfl ?_ rfl ?_ | refine mL_row rfl ?_ ?_ | refine mL_pt rfl rfl rfl rfl ?_ | refine mL_box rfl ?_ ?_ | refine mL_agg rfl ?_ ?_ | exact mCs_nil0 | refine mCs_d ?_ ?_ | refine mCs_nil ?_ | refine mCs_own rfl ?_ rfl ?_ | refine mCs_pt rfl rfl rfl ?_
    all_goals first | with_reducible rfl | (first | rfl | (simp; done) | omega)
  rintro n s ⟨i, rfl, hi, hk, rfl⟩
  refine SW.seq ?_
  refine SW.seq ?_
  refine SW.regT tabOk [0, 1, 2, 7, 11, 22, 23, 24, 25, 26, 27, 28] ?_
  refine ai trivial (ai trivial (ai vc (ai trivial ?_)))
  refine SW.cond rfl (fun c11 => ?_) (fun c11 => ?_)
  · skip
    have hi2 : i < l.length := by simpa [noteRows_length] using c11
    have hg := noteRows_getD (l := l) hi2
    refine SW.skip ?_
    refine SW.seq ?_
    refine SW.block ?_
    refine SW.seq ?_
    refine SW.regT tabOk [0, 1, 2, 7, 22, 23, 24, 25, 26, 27, 28, 29] ?_
    refine ai trivial (ai trivial (ai (by rw [Int.toNat_natCast, hg]; exact ⟨⟨by omega, by rw [noteRows_length]; omega⟩, rfl⟩) (ai (by first | trivial | rfl) (ai (by rw [Int.toNat_natCast, hg]; exact ⟨Nat.le_of_ble_eq_true rfl, rfl⟩) (ai trivial (ai trivial (ai trivial (ai (fun h => trivial) (ai rk (ai (fun h => trivial) (ai rk (ai (fun h => (by rw [Int.toNat_natCast, hg]; exact ⟨⟨by omega, by rw [noteRows_length]; omega⟩, rfl⟩)) (ai rk (ai (fun h => (by first | trivial | rfl)) (ai rk (ai (fun h => (by rw [Int.toNat_natCast, hg]; exact ⟨Nat.le_of_ble_eq_true rfl, rfl⟩)) (ai rk (ai (fun h => trivial) (ai rk (ai (fun h => trivial) (ai rk (ai pk ?_))))))))))))))))))))))
    refine SW.cond rfl (fun c29 => ?_) (fun c29 => ?_)
    · skip
      refine SW.seq ?_
      refine SW.regT tabOk [6] ?_
      refine ai trivial (ai trivial ?_)
      refine SW.ret ?_
      refine retOk1 rfl (congrArg D.i ?_)
      have hs : noteIs l f m i = true := by
        have h9 := c29
        rw [Int.toNat_natCast, hg] at h9
        exact h9
      exact (placeOf_hit (Nat.zero_le _) (by omega) (fun j _ h => hk j h) hs).symm
    · skip
      refine SW.skip ?_
      refine SW.regT tabOk [0, 1, 2, 7, 22, 23, 24, 25, 26, 27, 28] ?_
      refine ai trivial (ai trivial (ai trivial ?_))
      have hs : noteIs l f m i = false := by
        have h9 := c29
        rw [Int.toNat_natCast, hg] at h9
        exact h9
      refine wk [(.t 0, .v (Dv (.sl (noteRows l)))), (.t 1, .v (I f)), (.t 2, .v (I m)), (.t 7, .v (I ((i + 1) : Nat)))] [] [] (⟨l.length - (i + 1), by omega, i + 1, rfl, by omega, fun k h => by by_cases e : k = i; exact e ▸ hs; exact hk k (by omega), rfl⟩) ?_ rfl rfl
      repeat' first | exact trivial | refine mL_nil rfl ?_ | refine mL_d rfl ?_ ?_ | refine mL_own rfl rfl ?_ rfl ?_ | refine mL_row rfl ?_ ?_ | refine mL_pt rfl rfl rfl rfl ?_ | refine mL_box rfl ?_ ?_ | refine mL_agg rfl ?_ ?_ | exact mCs_nil0 | refine mCs_d ?_ ?_ | refine mCs_nil ?_ | refine mCs_own rfl ?_ rfl ?_ | refine mCs_pt rfl rfl rfl ?_
      all_goals first | with_reducible rfl | (first | with_reducible rfl | exact congrArg D.i (wrap64_of (by omega)))
  · skip
    have hi3 : i = l.length := by simp [noteRows_length] at c11; omega
    refine SW.exit ?_
    refine SW.seq ?_
    refine SW.regT tabOk [6] ?_
    refine ai trivial ?_
    refine SW.ret ?_
    refine retOk1 rfl (congrArg D.i ?_)
    exact (placeOf_none (fun j _ h => hk j (by omega))).symm

theorem s_impl_markAt (l : List MarkR) (f m : Int) (hl : l.length ≤ 1000000) : Ab.Spec Tryz.prog 143 3 [(.t 0, .v (Dv (.sl (markRows l)))), (.t 1, .v (I f)), (.t 2, .v (I m))] [(.t 0, .v (I (markAt l f m)))] := by
  refine spec_of_body tabOk Tryz.func143 rfl (by kernel_rfl) (by decide) (by kernel_rfl) rfl ?_
  refine SW.seq ?_
  refine SW.regT tabOk [0, 1, 2, 21, 22, 23, 24] ?_
  refine ai trivial ?_
  refine SW.seq ?_
  refine SW.seq ?_
  refine SW.regT tabOk [1, 2, 9, 10, 11, 21, 22, 23, 24] ?_
  refine ai trivial (ai vc (ai trivial ?_))
  refine SW.block ?_
  -- live at the head: [1, 2, 9, 10, 11, 21, 22, 23, 24]
  refine SW.loopW (n := l.length) (fun n q => ∃ i : Nat, n = l.length - i ∧ i ≤ l.length ∧ (∀ k, k < i → markIs l f m k = false) ∧ q = [(.t 1, .v (I f)), (.t 2, .v (I m)), (.t 9, .v (Dv (.sl (markRows l)))), (.t 10, .v (I (l.length : Nat))), (.t 11, .v (I (i : Nat)))]) ?_ ?_
  · skip
    refine wk [(.t 1, .v (I f)), (.t 2, .v (I m)), (.t 9, .v (Dv (.sl (markRows l)))), (.t 10, .v (I (l.length : Nat))), (.t 11, .v (I (0 : Nat)))] [] [] (⟨0, rfl, Nat.zero_le _, fun k h => absurd h (by omega), rfl⟩) ?_ rfl rfl
    repeat' first | exact trivial | refine mL_nil rfl ?_ | refine mL_d rfl ?_ ?_ | refine mL_own rfl rfl ?_ rfl ?_ | refine mL_row rfl ?_ ?_ | refine mL_pt rfl rfl rfl rfl ?_ | refine mL_box rfl ?_ ?_ | refine mL_agg rfl ?_ ?_ | exact mCs_nil0 | refine mCs_d ?_ ?_ | refine mCs_nil ?_ | refine mCs_own rfl ?_ rfl ?_ | refine mCs_pt rfl rfl rfl ?_
    all_goals first | with_reducible rfl | (first | with_reducible rfl | (rw [markRows_length]; done) | rfl)
  rintro n s ⟨i, rfl, hi, hk, rfl⟩
  refine SW.seq ?_
  refine SW.regT tabOk [1, 2, 9, 10, 11, 12, 21, 22, 23, 24] ?_
  refine ai trivial ?_
  refine SW.seq ?_
  refine SW.cond rfl (fun c12 => ?_) (fun c12 => ?_)
  · skip
    have hi2 : i < l.length := by simpa using c12
    have hg := markRows_getD (l := l) hi2
    refine SW.skip ?_
    refine SW.seq ?_
    refine SW.block ?_
    refine SW.seq ?_
    refine SW.regT tabOk [1, 2, 7, 8, 9, 10, 11, 21, 22, 23, 24] ?_
    refine ai trivial (ai (by rw [Int.toNat_natCast, hg]; exact ⟨⟨by omega, by rw [markRows_length]; omega⟩, rfl⟩) (ai (by rw [Int.toNat_natCast, hg]; exact ⟨Nat.le_of_ble_eq_true rfl, rfl⟩) (ai trivial (ai trivial (ai ⟨by kernel_rfl, Nat.le_of_ble_eq_true (by kernel_rfl)⟩ ?_)))))
    refine SW.seq ?_
    refine SW.regT tabOk [1, 2, 7, 9, 10, 11, 21, 22, 23, 24, 25] ?_
    refine ai (by first | trivial | rfl) (ai vc (ai trivial (ai trivial (ai trivial (ai (fun h => (by first | trivial | rfl)) (ai rk (ai (fun h => vc) (ai rk (ai (fun h => trivial) (ai rk (ai (fun h => trivial) (ai rk (ai pk ?_)))))))))))))
    refine SW.cond rfl (fun c25 => ?_) (fun c25 => ?_)
    · skip
      refine SW.seq ?_
      refine SW.regT tabOk [6] ?_
      refine ai trivial (ai trivial ?_)
      refine SW.ret ?_
      refine retOk1 rfl (congrArg D.i ?_)
      have hs : markIs l f m i = true := by
        have h9 := c25
        rw [Int.toNat_natCast, hg] at h9
        exact h9
      exact (placeOf_hit (Nat.zero_le _) (by omega) (fun j _ h => hk j h) hs).symm
    · skip
      refine SW.skip ?_
      refine SW.regT tabOk [1, 2, 9, 10, 11, 21, 22, 23, 24] ?_
      refine ai trivial (ai trivial ?_)
      have hs : markIs l f m i = false := by
        have h9 := c25
        rw [Int.toNat_natCast, hg] at h9
        exact h9
      refine wk [(.t 1, .v (I f)), (.t 2, .v (I m)), (.t 9, .v (Dv (.sl (markRows l)))), (.t 10, .v (I (l.length : Nat))), (.t 11, .v (I ((i + 1) : Nat)))] [] [] (⟨l.length - (i + 1), by omega, i + 1, rfl, by omega, fun k h => by by_cases e : k = i; exact e ▸ hs; exact hk k (by omega), rfl⟩) ?_ rfl rfl
      repeat' first | exact trivial | refine mL_nil rfl ?_ | refine mL_d rfl ?_ ?_ | refine mL_own rfl rfl ?_ rfl ?_ | refine mL_row rfl ?_ ?_ | refine mL_pt rfl rfl rfl rfl ?_ | refine mL_box rfl ?_ ?_ | refine mL_agg rfl ?_ ?_ | exact mCs_nil0 | refine mCs_d ?_ ?_ | refine mCs_nil ?_ | refine mCs_own rfl ?_ rfl ?_ | refine mCs_pt rfl rfl rfl ?_
      all_goals first | with_reducible rfl | (first | with_reducible rfl | exact congrArg D.i (wrap64_of (by omega)))
  · skip
    have hi3 : i = l.length := by simp at c12; omega
    refine SW.exit ?_
    refine SW.seq ?_
    refine SW.regT tabOk [6] ?_
    refine ai trivial ?_
    refine SW.ret ?_
    refine retOk1 rfl (congrArg D.i ?_)
    exact (placeOf_none (fun j _ h => hk j (by omega))).symm

theorem s_spec_l12Mark (l : List MarkR) (f m : Int) (hl : l.length ≤ 1000000) : Ab.Spec Tryz.prog 136 3 [(.t 0, .v (Dv (.sl (markRows l)))), (.t 1, .v (I f)), (.t 2, .v (I m))] [(.t 0, .v (I (markAt l f m)))] := by
  refine spec_of_body tabOk Tryz.func136 rfl (by kernel_rfl) (by decide) (by kernel_rfl) rfl ?_
  refine SW.seq ?_
  refine SW.regT tabOk [0, 1, 2, 22, 23, 24, 25, 26, 27, 28] ?_
  refine ai trivial ?_
  refine SW.seq ?_
  refine SW.seq ?_
  refine SW.regT tabOk [0, 1, 2, 7, 22, 23, 24, 25, 26, 27, 28] ?_
  refine ai trivial ?_
  refine SW.block ?_
  -- live at the head: [0, 1, 2, 7, 22, 23, 24, 25, 26, 27, 28]
  refine SW.loopW (n := l.length) (fun n q => ∃ i : Nat, n = l.length - i ∧ i ≤ l.length ∧ (∀ k, k < i → markIs l f m k = false) ∧ q = [(.t 0, .v (Dv (.sl (markRows l)))), (.t 1, .v (I f)), (.t 2, .v (I m)), (.t 7, .v (I (i : Nat)))]) ?_ ?_
  · skip
    refine wk [(.t 0, .v (Dv (.sl (markRows l)))), (.t 1, .v (I f)), (.t 2, .v (I m)), (.t 7, .v (I (0 : Nat)))] [] [] (⟨0, rfl, Nat.zero_le _, fun k h => absurd h (by omega), rfl⟩) ?_ rfl rfl
    repeat' first | exact trivial | refine mL_nil rfl ?_ | refine mL_d rfl ?_ ?_ | refine mL_own rfl rfl ?_ rfl ?_ | refine mL_row rfl ?_ ?_ | refine mL_pt rfl rfl rfl rfl ?_ | refine mL_box rfl ?_ ?_ | refine mL_agg rfl ?_ ?_ | exact mCs_nil0 | refine mCs_d ?_ ?_ | refine mCs_nil ?_ | refine mCs_own rfl ?_ rfl ?_ | refine mCs_pt rfl rfl rfl ?_
    all_goals first | with_reducible rfl | (first | rfl | (simp; done) | omega)
  rintro n s ⟨i, rfl, hi, hk, rfl⟩
  refine SW.seq ?_
  refine SW.seq ?_
  refine SW.regT tabOk [0, 1, 2, 7, 11, 22, 23, 24, 25, 26, 27, 28] ?_
  refine ai trivial (ai trivial (ai vc (ai trivial ?_)))
  refine SW.cond rfl (fun c11 => ?_) (fun c11 => ?_)
  · skip
    have hi2 : i < l.length := by simpa [markRows_length] using c11
    have hg := markRows_getD (l := l) hi2
    refine SW.skip ?_
    refine SW.seq ?_
    refine SW.block ?_
    refine SW.seq ?_
    refine SW.regT tabOk [0, 1, 2, 7, 22, 23, 24, 25, 26, 27, 28, 29] ?_
    refine ai trivial (ai trivial (ai (by rw [Int.toNat_natCast, hg]; exact ⟨⟨by omega, by rw [markRows_length]; omega⟩, rfl⟩) (ai (by first | trivial | rfl) (ai (by rw [Int.toNat_natCast, hg]; exact ⟨Nat.le_of_ble_eq_true rfl, rfl⟩) (ai trivial (ai trivial (ai trivial (ai (fun h => trivial) (ai rk (ai (fun h => trivial) (ai rk (ai (fun h => (by rw [Int.toNat_natCast, hg]; exact ⟨⟨by omega, by rw [markRows_length]; omega⟩, rfl⟩)) (ai rk (ai (fun h => (by first | trivial | rfl)) (ai rk (ai (fun h => (by rw [Int.toNat_natCast, hg]; exact ⟨Nat.le_of_ble_eq_true rfl, rfl⟩)) (ai rk (ai (fun h => trivial) (ai rk (ai (fun h => trivial) (ai rk (ai pk ?_))))))))))))))))))))))
    refine SW.cond rfl (fun c29 => ?_) (fun c29 => ?_)
    · skip
      refine SW.seq ?_
      refine SW.regT tabOk [6] ?_
      refine ai trivial (ai trivial ?_)
      refine SW.ret ?_
      refine retOk1 rfl (congrArg D.i ?_)
      have hs : markIs l f m i = true := by
        have h9 := c29
        rw [Int.toNat_natCast, hg] at h9
        exact h9
      exact (placeOf_hit (Nat.zero_le _) (by omega) (fun j _ h => hk j h) hs).symm
    · skip
      refine SW.skip ?_
      refine SW.regT tabOk [0, 1, 2, 7, 22, 23, 24, 25, 26, 27, 28] ?_
      refine ai trivial (ai trivial (ai trivial ?_))
      have hs : markIs l f m i = false := by
        have h9 := c29
        rw [Int.toNat_natCast, hg] at h9
        exact h9
      refine wk [(.t 0, .v (Dv (.sl (markRows l)))), (.t 1, .v (I f)), (.t 2, .v (I m)), (.t 7, .v (I ((i + 1) : Nat)))] [] [] (⟨l.length - (i + 1), by omega, i + 1, rfl, by omega, fun k h => by by_cases e : k = i; exact e ▸ hs; exact hk k (by omega), rfl⟩) ?_ rfl rfl
      repeat' first | exact trivial | refine mL_nil rfl ?_ | refine mL_d rfl ?_ ?_ | refine mL_own rfl rfl ?_ rfl ?_ | refine mL_row rfl ?_ ?_ | refine mL_pt rfl rfl rfl rfl ?_ | refine mL_box rfl ?_ ?_ | refine mL_agg rfl ?_ ?_ | exact mCs_nil0 | refine mCs_d ?_ ?_ | refine mCs_nil ?_ | refine mCs_own rfl ?_ rfl ?_ | refine mCs_pt rfl rfl rfl ?_
      all_goals first | with_reducible rfl | (first | with_reducible rfl | exact congrArg D.i (wrap64_of (by omega)))
  · skip
    have hi3 : i = l.length := by simp [markRows_length] at c11; omega
    refine SW.exit ?_
    refine SW.seq ?_
    refine SW.regT tabOk [6] ?_
    refine ai trivial ?_
    refine SW.ret ?_
    refine retOk1 rfl (congrArg D.i ?_)
    exact (placeOf_none (fun j _ h => hk j (by omega))).symm

theorem s_impl_onWay (id : Int) (n : NoteR) : Ab.Spec Tryz.prog 168 2 [(.t 0, .v (I id)), (.t 1, .v (n.V))] [(.t 0, .v (B (onWay id n)))] := by
  refine spec_of_body tabOk Tryz.func168 rfl (by kernel_rfl) (by decide) (by kernel_rfl) rfl ?_
  refine SW.seq ?_
  refine SW.regT tabOk [0, 3, 10, 11, 12, 13, 14, 15, 16, 17, 18, 19, 20, 21, 22, 23] ?_
  refine ai trivial (ai trivial ?_)
  refine SW.seq ?_
  refine SW.regT tabOk [4] ?_
  refine ai trivial (ai (by first | trivial | rfl) (ai vc (ai trivial (ai trivial (ai (fun h => trivial) (ai rk (ai (fun h => (by first | trivial | rfl)) (ai rk (ai (fun h => vc) (ai rk (ai (fun h => (by first | trivial | rfl)) (ai rk (ai (fun h => vc) (ai rk ?_))))))))))))))
  refine exc_pure (fun h => (s_impl_in _ _ _)) rfl rfl rfl rfl rfl rfl rfl rfl rk ?_
  refine ai (fun h => trivial) (ai rk (ai (fun h => trivial) (ai rk (ai (fun h => (by first | trivial | rfl)) (ai rk (ai (fun h => vc) (ai rk (ai (fun h => (by first | trivial | rfl)) (ai rk (ai (fun h => vc) (ai rk ?_)))))))))))
  refine exc_pure (fun h => (s_impl_in _ _ _)) rfl rfl rfl rfl rfl rfl rfl rfl rk ?_
  refine ai (fun h => pk) (ai rk (ai pk (ai trivial ?_)))
  refine SW.ret ?_
  refine retOk1 rfl (congrArg D.b ?_)
  first | (simp only [onWay, inB, gb]; done) | (simp only [onWay, inB, gb]; grind)

theorem s_spec_l12Way (n : NoteR) (id : Int) : Ab.Spec Tryz.prog 165 2 [(.t 0, .v (n.V)), (.t 1, .v (I id))] [(.t 0, .v (B (onWay id n)))] := by
  refine spec_of_body tabOk Tryz.func165 rfl (by kernel_rfl) (by decide) (by kernel_rfl) rfl ?_
  refine SW.seq ?_
  refine SW.regT tabOk [1, 2, 10, 11, 12, 13, 16, 17, 18, 19, 20, 21, 22, 23, 24, 25] ?_
  refine ai trivial (ai trivial ?_)
  refine SW.seq ?_
  refine SW.regT tabOk [4] ?_
  refine ai (by first | trivial | rfl) (ai vc (ai trivial (ai trivial (ai trivial (ai (fun h => trivial) (ai rk (ai (fun h => (by first | trivial | rfl)) (ai rk (ai (fun h => vc) (ai rk (ai (fun h => trivial) (ai rk (ai pk (ai trivial (ai (fun h => (by first | trivial | rfl)) (ai rk (ai (fun h => vc) (ai rk (ai (fun h => trivial) (ai rk (ai (fun h => trivial) (ai rk (ai (fun h => trivial) (ai rk (ai (fun h => trivial) (ai rk (ai (fun h => (by first | trivial | rfl)) (ai rk (ai (fun h => vc) (ai rk (ai (fun h => trivial) (ai rk (ai (fun h => pk) (ai rk (ai pk (ai trivial ?_))))))))))))))))))))))))))))))))))))
  refine SW.ret ?_
  refine retOk1 rfl (congrArg D.b ?_)
  first | (simp only [onWay, inB, gb]; done) | (simp only [onWay, inB, gb]; grind)

end Go.Proofs.YtilahgkblckndaaGreatDoor

namespace Go.Ab
open Go Go.RowKit
set_option linter.unusedVariables false

theorem noteStep_gen {l : List NoteR} {i : Nat} {E c : Bool} (h : (!noteOk (l.getD i .zero) || decide ((i : Int) > 0) && !E) = c) (hE : 0 < i → E = before (l.getD (i - 1) .zero).frm (l.getD (i - 1) .zero).num (l.getD i .zero).frm (l.getD i .zero).num) : noteStep l i = !c := by
  subst h
  unfold noteStep
  by_cases h0 : i = 0
  · subst h0; simp
  · rw [hE (by omega)]
    have h1 : decide ((i : Int) > 0) = true := decide_eq_true (by omega)
    have h2 : (i == 0) = false := by simpa using h0
    rw [h1, h2, Bool.true_and, Bool.false_or, Bool.not_or, Bool.not_not, Bool.not_not]
theorem markStep_gen {l : List MarkR} {i : Nat} {E c : Bool} (h : (!markOk (l.getD i .zero) || decide ((i : Int) > 0) && !E) = c) (hE : 0 < i → E = before (l.getD (i - 1) .zero).frm (l.getD (i - 1) .zero).num (l.getD i .zero).frm (l.getD i .zero).num) : markStep l i = !c := by
  subst h
  unfold markStep
  by_cases h0 : i = 0
  · subst h0; simp
  · rw [hE (by omega)]
    have h1 : decide ((i : Int) > 0) = true := decide_eq_true (by omega)
    have h2 : (i == 0) = false := by simpa using h0
    rw [h1, h2, Bool.true_and, Bool.false_or, Bool.not_or, Bool.not_not, Bool.not_not]
theorem pred_cast {i : Nat} (h : 0 < i) (hl : i ≤ 1000000) : wrap64 ((i : Int) - 1) = ((i - 1 : Nat) : Int) := by
  rw [wrap64_of (by omega)]; omega
end Go.Ab
namespace Go.Ab
open Go Go.RowKit
abbrev KeepR.V (k : KeepR) : V := .e (.agg [.d (.i k.id), .d (.i k.time), .d (.i k.next), .d (.sl (noteRows k.held)), .d (.sl (markRows k.marks)), .d (.sl (noteRows k.inbox))])
theorem ge_lt (a b : Int) : decide (a ≥ b) = !decide (a < b) := by
  by_cases h : a < b
  · simp [h, Int.not_le.2 h]
  · simp [h, Int.not_lt.1 h]
theorem heldOk_gen {k : KeepR} {i : Nat} {c : Bool} (h : ((k.held.getD i .zero).frm == k.id && decide ((k.held.getD i .zero).num ≥ k.next) || decide ((k.held.getD i .zero).til ≤ k.time) || !onWay k.id (k.held.getD i .zero) || decide (markAt k.marks (k.held.getD i .zero).frm (k.held.getD i .zero).num ≥ 0)) = c) : heldOk k i = !c := by
  subst h
  unfold heldOk
  simp only [ge_lt, Bool.not_or, Bool.not_not]
theorem marked_gen {k : KeepR} {i : Nat} {c : Bool} (h : ((k.marks.getD i .zero).frm == k.id && decide ((k.marks.getD i .zero).num ≥ k.next) || decide ((k.marks.getD i .zero).til ≤ k.time)) = c) : marked k i = !c := by
  subst h
  unfold marked
  simp only [ge_lt, Bool.not_or, Bool.not_not]
theorem inboxOk_gen {k : KeepR} {i : Nat} {c : Bool} (h : ((k.inbox.getD i .zero).frm == k.id && decide ((k.inbox.getD i .zero).num ≥ k.next) || (k.inbox.getD i .zero).to != k.id || decide ((k.inbox.getD i .zero).til > k.time) && decide (markAt k.marks (k.inbox.getD i .zero).frm (k.inbox.getD i .zero).num < 0)) = c) : inboxOk k i = !c := by
  subst h
  unfold inboxOk
  simp only [ge_lt, Bool.not_or, Bool.not_not, bne, gt_iff_lt]
theorem keepOk_parts (k : KeepR) : keepOk k = true ↔ (isNode k.id = true ∧ (0 ≤ k.time ∧ k.time ≤ 999) ∧ (1 ≤ k.next ∧ k.next ≤ 100) ∧ k.held.length ≤ 6 ∧ k.marks.length ≤ 12 ∧ k.inbox.length ≤ 6) ∧ (notesOk k.held = true ∧ marksOk k.marks = true ∧ notesOk k.inbox = true) ∧
    (List.range k.held.length).all (heldOk k) = true ∧ (List.range k.marks.length).all (marked k) = true ∧ (List.range k.inbox.length).all (inboxOk k) = true := by
  simp only [keepOk, inB, Bool.and_eq_true, decide_eq_true_eq]
  constructor
  · rintro ⟨⟨⟨⟨⟨⟨⟨⟨⟨⟨⟨h1, h2⟩, h3⟩, h4⟩, h5⟩, h6⟩, h7⟩, h8⟩, h9⟩, h10⟩, h11⟩, h12⟩
    exact ⟨⟨h1, h2, h3, h4, h5, h6⟩, ⟨h7, h8, h9⟩, h10, h11, h12⟩
  · rintro ⟨⟨h1, h2, h3, h4, h5, h6⟩, ⟨h7, h8, h9⟩, h10, h11, h12⟩
    exact ⟨⟨⟨⟨⟨⟨⟨⟨⟨⟨⟨h1, h2⟩, h3⟩, h4⟩, h5⟩, h6⟩, h7⟩, h8⟩, h9⟩, h10⟩, h11⟩, h12⟩
theorem keepOk_no {k : KeepR} (h : ¬ keepOk k = true) : keepOk k = false := by simpa using h
end Go.Ab

namespace Go.Proofs.YtilahgkblckndaaGreatDoor
open Go Go.Ab Go.RowKit
set_option linter.unusedVariables false
set_option linter.unusedSimpArgs false

set_option maxHeartbeats 800000 in
theorem s_impl_notesOk (l : List NoteR) (hx : ∀ x ∈ l, x.text.length ≤ 140737488355328) (hl : l.length ≤ 100000) : Ab.Spec Tryz.prog 166 1 [(.t 0, .v (Dv (.sl (noteRows l))))] [(.t 0, .v (B (notesOk l)))] := by
  refine spec_of_body tabOk Tryz.func166 rfl (by kernel_rfl) (by decide) (by kernel_rfl) rfl ?_
  refine SW.seq ?_
  refine SW.regT tabOk [0, 16, 17, 18, 19, 20, 21, 22, 23, 24, 25, 26, 27, 28, 29, 30, 31, 32, 33, 34, 35, 36, 37] ?_
  refine ai trivial ?_
  refine SW.seq ?_
  refine SW.seq ?_
  refine SW.regT tabOk [0, 5, 6, 7, 16, 17, 18, 19, 20, 21, 22, 23, 24, 25, 26, 27, 28, 29, 30, 31, 32, 33, 34, 35, 36, 37] ?_
  refine ai trivial (ai vc (ai trivial ?_))
  refine SW.block ?_
  -- live at the head: [0, 5, 6, 7, 16, 17, 18, 19, 20, 21, 22, 23, 24, 25, 26, 27, 28, 29, 30, 31, 32, 33, 34, 35, 36, 37]
  refine SW.loopW (n := l.length) (fun n q => ∃ i : Nat, n = l.length - i ∧ i ≤ l.length ∧ (∀ k, k < i → noteStep l k = true) ∧ q = [(.t 0, .v (Dv (.sl (noteRows l)))), (.t 5, .v (Dv (.sl (noteRows l)))), (.t 6, .v (I (l.length : Nat))), (.t 7, .v (I (i : Nat)))]) ?_ ?_
  · skip
    refine wk [(.t 0, .v (Dv (.sl (noteRows l)))), (.t 5, .v (Dv (.sl (noteRows l)))), (.t 6, .v (I (l.length : Nat))), (.t 7, .v (I (0 : Nat)))] [] [] (⟨0, rfl, Nat.zero_le _, fun k h => absurd h (by omega), rfl⟩) ?_ rfl rfl
    repeat' first | exact trivial | refine mL_nil rfl ?_ | refine mL_d rfl ?_ ?_ | refine mL_own rfl rfl ?_ rfl ?_ | refine mL_row rfl ?_ ?_ | refine mL_pt rfl rfl rfl rfl ?_ | refine mL_box rfl ?_ ?_ | refine mL_agg rfl ?_ ?_ | exact mCs_nil0 | refine mCs_d ?_ ?_ | refine mCs_nil ?_ | refine mCs_own rfl ?_ rfl ?_ | refine mCs_pt rfl rfl rfl ?_
    all_goals first | with_reducible rfl | (first | with_reducible rfl | (rw [noteRows_length]; done) | rfl)
  rintro n s ⟨i, rfl, hi, hk, rfl⟩
  refine SW.seq ?_
  refine SW.regT tabOk [0, 5, 6, 7, 8, 16, 17, 18, 19, 20, 21, 22, 23, 24, 25, 26, 27, 28, 29, 30, 31, 32, 33, 34, 35, 36, 37] ?_
  refine ai trivial ?_
  refine SW.seq ?_
  refine SW.cond rfl (fun c8 => ?_) (fun c8 => ?_)
  · skip
    have hi2 : i < l.length := by simpa using c8
    have hg := noteRows_getD (l := l) hi2
    have hmem : l.getD i .zero ∈ l := by rw [List.getD_eq_getElem?_getD, List.getElem?_eq_getElem hi2]; exact List.getElem_mem _
    refine SW.skip ?_
    refine SW.seq ?_
    refine SW.block ?_
    refine SW.seq ?_
    refine SW.regT tabOk [0, 3, 4, 5, 6, 7, 16, 17, 18, 19, 20, 21, 22, 23, 24, 25, 26, 27, 28, 29, 30, 31, 32, 33, 34, 35, 36, 37] ?_
    refine ai trivial (ai (by rw [Int.toNat_natCast, hg]; exact ⟨⟨by omega, by rw [noteRows_length]; omega⟩, rfl⟩) (ai (by rw [Int.toNat_natCast, hg]; exact ⟨Nat.le_of_ble_eq_true rfl, rfl⟩) (ai trivial (ai trivial (ai ⟨by kernel_rfl, Nat.le_of_ble_eq_true (by kernel_rfl)⟩ ?_)))))
    refine SW.seq ?_
    refine SW.regD tabOk mo [0, 5, 6, 7, 16, 17, 18, 19, 20, 21, 22, 23, 24, 25, 26, 27, 28, 29, 30, 31, 32, 33, 34, 35, 36, 37, 38] ?_
    refine ai vc ?_
    refine ex_pure (s_impl_NoteOk (l.getD i .zero) (hx _ hmem)) rfl rfl rfl rfl rfl (by rw [Int.toNat_natCast, hg]; rfl) rfl rfl ?_
    refine ai trivial (ai trivial (ai (fun h => trivial) (ai rk (ai (fun h => trivial) (ai rk (ai (fun h => trivial) (ai rk (ai (fun h => trivial) (ai rk (ai (fun h => trivial) (ai rk (ai (fun h => trivial) (ai rk (ai (fun h => (by have h0 : 0 < i := (by have h9 := h; simp [gb] at h9; omega); rw [pred_cast h0 (by omega), Int.toNat_natCast, noteRows_getD (by omega), noteRows_length]; exact ⟨⟨by omega, by omega⟩, rfl⟩)) (ai rk (ai (fun h => (by first | trivial | rfl)) (ai rk (ai (fun h => (by have h0 : 0 < i := (by have h9 := h; simp [gb] at h9; omega); rw [pred_cast h0 (by omega), Int.toNat_natCast, noteRows_getD (by omega)]; exact ⟨Nat.le_of_ble_eq_true rfl, rfl⟩)) (ai rk (ai (fun h => trivial) (ai rk (ai (fun h => trivial) (ai rk (ai (fun h => trivial) (ai rk (ai (fun h => (by have h0 : 0 < i := (by have h9 := h; simp [gb] at h9; omega); rw [pred_cast h0 (by omega), Int.toNat_natCast, noteRows_getD (by omega), noteRows_length]; exact ⟨⟨by omega, by omega⟩, rfl⟩)) (ai rk (ai (fun h => (by first | trivial | rfl)) (ai rk (ai (fun h => (by have h0 : 0 < i := (by have h9 := h; simp [gb] at h9; omega); rw [pred_cast h0 (by omega), Int.toNat_natCast, noteRows_getD (by omega)]; exact ⟨Nat.le_of_ble_eq_true rfl, rfl⟩)) (ai rk (ai (fun h => (by first | trivial | rfl)) (ai rk (ai (fun h => vc) (ai rk (ai (fun h => (by first | trivial | rfl)) (ai rk (ai (fun h => vc) (ai rk ?_)))))))))))))))))))))))))))))))))))))))
    refine exc_pure (fun h => (s_impl_before _ _ _ _)) rfl rfl rfl rfl rfl rfl rfl rfl rk ?_
    refine ai (fun h => trivial) (ai rk (ai (fun h => pk) (ai rk (ai pk (ai (by kernel_rfl) ?_)))))
    refine SW.cond rfl (fun c38 => ?_) (fun c38 => ?_)
    · skip
      refine SW.seq ?_
      refine SW.regT tabOk [2] ?_
      refine ai trivial ?_
      refine SW.ret ?_
      refine retOk1 rfl (congrArg D.b ?_)
      have hs : noteStep l i = false := noteStep_gen c38 (fun h0 => by simp only [pred_cast h0 (show i ≤ 1000000 by omega), Int.toNat_natCast, hg, noteRows_getD (show i - 1 < l.length by omega)]; rfl)
      rw [notesOk, all_false hi2 hs]
    · skip
      refine SW.skip ?_
      refine SW.regT tabOk [0, 5, 6, 7, 16, 17, 18, 19, 20, 21, 22, 23, 24, 25, 26, 27, 28, 29, 30, 31, 32, 33, 34, 35, 36, 37] ?_
      refine ai trivial (ai trivial ?_)
      have hs : noteStep l i = true := noteStep_gen c38 (fun h0 => by simp only [pred_cast h0 (show i ≤ 1000000 by omega), Int.toNat_natCast, hg, noteRows_getD (show i - 1 < l.length by omega)]; rfl)
      refine wk [(.t 0, .v (Dv (.sl (noteRows l)))), (.t 5, .v (Dv (.sl (noteRows l)))), (.t 6, .v (I (l.length : Nat))), (.t 7, .v (I ((i + 1) : Nat)))] [] [] (⟨l.length - (i + 1), by omega, i + 1, rfl, by omega, fun k h => by by_cases e : k = i; exact e ▸ hs; exact hk k (by omega), rfl⟩) ?_ rfl rfl
      repeat' first | exact trivial | refine mL_nil rfl ?_ | refine mL_d rfl ?_ ?_ | refine mL_own rfl rfl ?_ rfl ?_ | refine mL_row rfl ?_ ?_ | refine mL_pt rfl rfl rfl rfl ?_ | refine mL_box rfl ?_ ?_ | refine mL_agg rfl ?_ ?_ | exact mCs_nil0 | refine mCs_d ?_ ?_ | refine mCs_nil ?_ | refine mCs_own rfl ?_ rfl ?_ | refine mCs_pt rfl rfl rfl ?_
      all_goals first | with_reducible rfl | (first | with_reducible rfl | exact congrArg D.i (wrap64_of (by omega)))
  · skip
    have hi3 : i = l.length := by simp at c8; omega
    refine SW.exit ?_
    refine SW.seq ?_
    refine SW.regT tabOk [2] ?_
    refine ai trivial ?_
    refine SW.ret ?_
    refine retOk1 rfl (congrArg D.b ?_)
    subst hi3
    rw [notesOk, all_true hk]

set_option maxHeartbeats 800000 in
theorem s_spec_l12Notes (l : List NoteR) (most : Int) (hx : ∀ x ∈ l, x.text.length ≤ 140737488355328) (hl : l.length ≤ 100000) : Ab.Spec Tryz.prog 163 2 [(.t 0, .v (Dv (.sl (noteRows l)))), (.t 1, .v (I most))] [(.t 0, .v (B (decide ((l.length : Int) ≤ most) && notesOk l)))] := by
  refine spec_of_body tabOk Tryz.func163 rfl (by kernel_rfl) (by decide) (by kernel_rfl) rfl ?_
  refine SW.seq ?_
  refine SW.regT tabOk [0, 1, 23, 24, 25, 26, 27, 28, 29, 30, 31, 32, 33, 34, 35, 36, 37, 38, 39, 40, 41, 42, 43, 44, 45, 46, 47, 48, 49, 50] ?_
  refine ai trivial ?_
  refine SW.seq ?_
  refine SW.seq ?_
  refine SW.regT tabOk [0, 9, 23, 24, 25, 26, 27, 28, 29, 30, 31, 32, 33, 34, 35, 36, 37, 38, 39, 40, 41, 42, 43, 44, 45, 46, 47, 48, 49, 50] ?_
  refine ai trivial (ai vc (ai trivial (ai trivial ?_)))
  refine SW.cond rfl (fun c9 => ?_) (fun c9 => ?_)
  · skip
    refine SW.seq ?_
    refine SW.regT tabOk [4] ?_
    refine ai trivial ?_
    refine SW.ret ?_
    refine retOk1 rfl (congrArg D.b ?_)
    simp [noteRows_length] at c9
    simp [Int.not_le.2 c9]
  · skip
    have hm : (l.length : Int) ≤ most := by simp [noteRows_length] at c9; omega
    refine SW.skip ?_
    refine SW.seq ?_
    refine SW.seq ?_
    refine SW.regT tabOk [0, 5, 23, 24, 25, 26, 27, 28, 29, 30, 31, 32, 33, 34, 35, 36, 37, 38, 39, 40, 41, 42, 43, 44, 45, 46, 47, 48, 49, 50] ?_
    refine ai trivial ?_
    refine SW.block ?_
    -- live at the head: [0, 5, 23, 24, 25, 26, 27, 28, 29, 30, 31, 32, 33, 34, 35, 36, 37, 38, 39, 40, 41, 42, 43, 44, 45, 46, 47, 48, 49, 50]
    refine SW.loopW (n := l.length) (fun n q => ∃ i : Nat, n = l.length - i ∧ i ≤ l.length ∧ (∀ k, k < i → noteStep l k = true) ∧ q = [(.t 0, .v (Dv (.sl (noteRows l)))), (.t 5, .v (I (i : Nat)))]) ?_ ?_
    · skip
      refine wk [(.t 0, .v (Dv (.sl (noteRows l)))), (.t 5, .v (I (0 : Nat)))] [] [] (⟨0, rfl, Nat.zero_le _, fun k h => absurd h (by omega), rfl⟩) ?_ rfl rfl
      repeat' first | exact trivial | refine mL_nil rfl ?_ | refine mL_d rfl ?_ ?_ | refine mL_own rfl rfl ?_ rfl ?_ | refine mL_row rfl ?_ ?_ | refine mL_pt rfl rfl rfl rfl ?_ | refine mL_box rfl ?_ ?_ | refine mL_agg rfl ?_ ?_ | exact mCs_nil0 | refine mCs_d ?_ ?_ | refine mCs_nil ?_ | refine mCs_own rfl ?_ rfl ?_ | refine mCs_pt rfl rfl rfl ?_
      all_goals first | with_reducible rfl | (first | rfl | (simp; done) | omega)
    rintro n s ⟨i, rfl, hi, hk, rfl⟩
    refine SW.seq ?_
    refine SW.seq ?_
    refine SW.regT tabOk [0, 5, 13, 23, 24, 25, 26, 27, 28, 29, 30, 31, 32, 33, 34, 35, 36, 37, 38, 39, 40, 41, 42, 43, 44, 45, 46, 47, 48, 49, 50] ?_
    refine ai trivial (ai trivial (ai vc (ai trivial ?_)))
    refine SW.cond rfl (fun c13 => ?_) (fun c13 => ?_)
    · skip
      have hi2 : i < l.length := by simpa [noteRows_length] using c13
      have hg := noteRows_getD (l := l) hi2
      have hmem : l.getD i .zero ∈ l := by rw [List.getD_eq_getElem?_getD, List.getElem?_eq_getElem hi2]; exact List.getElem_mem _
      refine SW.skip ?_
      refine SW.seq ?_
      refine SW.block ?_
      refine SW.seq ?_
      refine SW.regD tabOk mo [0, 5, 23, 24, 25, 26, 27, 28, 29, 30, 31, 32, 33, 34, 35, 36, 37, 38, 39, 40, 41, 42, 43, 44, 45, 46, 47, 48, 49, 50, 51] ?_
      refine ai trivial (ai trivial (ai (by rw [Int.toNat_natCast, hg]; exact ⟨⟨by omega, by rw [noteRows_length]; omega⟩, rfl⟩) (ai (by rw [Int.toNat_natCast, hg]; exact ⟨Nat.le_of_ble_eq_true rfl, rfl⟩) ?_)))
      refine ex_pure (s_spec_NoteOk (l.getD i .zero) (hx _ hmem)) rfl rfl rfl rfl rfl (by rw [Int.toNat_natCast, hg]; rfl) rfl rfl ?_
      refine ai trivial (ai trivial (ai (fun h => trivial) (ai rk (ai (fun h => trivial) (ai rk (ai (fun h => trivial) (ai rk (ai (fun h => trivial) (ai rk (ai (fun h => trivial) (ai rk (ai (fun h => trivial) (ai rk (ai (fun h => (by have h0 : 0 < i := (by have h9 := h; simp [gb] at h9; omega); rw [pred_cast h0 (by omega), Int.toNat_natCast, noteRows_getD (by omega), noteRows_length]; exact ⟨⟨by omega, by omega⟩, rfl⟩)) (ai rk (ai (fun h => (by first | trivial | rfl)) (ai rk (ai (fun h => (by have h0 : 0 < i := (by have h9 := h; simp [gb] at h9; omega); rw [pred_cast h0 (by omega), Int.toNat_natCast, noteRows_getD (by omega)]; exact ⟨Nat.le_of_ble_eq_true rfl, rfl⟩)) (ai rk (ai (fun h => trivial) (ai rk (ai (fun h => trivial) (ai rk (ai (fun h => trivial) (ai rk (ai (fun h => (by have h0 : 0 < i := (by have h9 := h; simp [gb] at h9; omega); rw [pred_cast h0 (by omega), Int.toNat_natCast, noteRows_getD (by omega), noteRows_length]; exact ⟨⟨by omega, by omega⟩, rfl⟩)) (ai rk (ai (fun h => (by first | trivial | rfl)) (ai rk (ai (fun h => (by have h0 : 0 < i := (by have h9 := h; simp [gb] at h9; omega); rw [pred_cast h0 (by omega), Int.toNat_natCast, noteRows_getD (by omega)]; exact ⟨Nat.le_of_ble_eq_true rfl, rfl⟩)) (ai rk (ai (fun h => trivial) (ai rk (ai (fun h => trivial) (ai rk (ai (fun h => (by rw [Int.toNat_natCast, hg]; exact ⟨⟨by omega, by rw [noteRows_length]; omega⟩, rfl⟩)) (ai rk (ai (fun h => (by first | trivial | rfl)) (ai rk (ai (fun h => (by rw [Int.toNat_natCast, hg]; exact ⟨Nat.le_of_ble_eq_true rfl, rfl⟩)) (ai rk (ai (fun h => trivial) (ai rk (ai (fun h => trivial) (ai rk (ai (fun h => (by rw [Int.toNat_natCast, hg]; exact ⟨⟨by omega, by rw [noteRows_length]; omega⟩, rfl⟩)) (ai rk (ai (fun h => (by first | trivial | rfl)) (ai rk (ai (fun h => (by rw [Int.toNat_natCast, hg]; exact ⟨Nat.le_of_ble_eq_true rfl, rfl⟩)) (ai rk ?_)))))))))))))))))))))))))))))))))))))))))))))))))))
      refine exc_pure (fun h => (s_spec_l12Less _ _ _ _)) rfl rfl rfl rfl rfl rfl rfl rfl rk ?_
      refine ai (fun h => trivial) (ai rk (ai (fun h => pk) (ai rk (ai pk (ai (by kernel_rfl) ?_)))))
      refine SW.cond rfl (fun c51 => ?_) (fun c51 => ?_)
      · skip
        refine SW.seq ?_
        refine SW.regT tabOk [4] ?_
        refine ai trivial ?_
        refine SW.ret ?_
        refine retOk1 rfl (congrArg D.b ?_)
        have hs : noteStep l i = false := noteStep_gen c51 (fun h0 => by simp only [pred_cast h0 (show i ≤ 1000000 by omega), Int.toNat_natCast, hg, noteRows_getD (show i - 1 < l.length by omega)]; rfl)
        rw [notesOk, all_false hi2 hs]; simp
      · skip
        refine SW.skip ?_
        refine SW.regT tabOk [0, 5, 23, 24, 25, 26, 27, 28, 29, 30, 31, 32, 33, 34, 35, 36, 37, 38, 39, 40, 41, 42, 43, 44, 45, 46, 47, 48, 49, 50] ?_
        refine ai trivial (ai trivial (ai trivial ?_))
        have hs : noteStep l i = true := noteStep_gen c51 (fun h0 => by simp only [pred_cast h0 (show i ≤ 1000000 by omega), Int.toNat_natCast, hg, noteRows_getD (show i - 1 < l.length by omega)]; rfl)
        refine wk [(.t 0, .v (Dv (.sl (noteRows l)))), (.t 5, .v (I ((i + 1) : Nat)))] [] [] (⟨l.length - (i + 1), by omega, i + 1, rfl, by omega, fun k h => by by_cases e : k = i; exact e ▸ hs; exact hk k (by omega), rfl⟩) ?_ rfl rfl
        repeat' first | exact trivial | refine mL_nil rfl ?_ | refine mL_d rfl ?_ ?_ | refine mL_own rfl rfl ?_ rfl ?_ | refine mL_row rfl ?_ ?_ | refine mL_pt rfl rfl rfl rfl ?_ | refine mL_box rfl ?_ ?_ | refine mL_agg rfl ?_ ?_ | exact mCs_nil0 | refine mCs_d ?_ ?_ | refine mCs_nil ?_ | refine mCs_own rfl ?_ rfl ?_ | refine mCs_pt rfl rfl rfl ?_
        all_goals first | with_reducible rfl | (first | with_reducible rfl | exact congrArg D.i (wrap64_of (by omega)))
    · skip
      have hi3 : i = l.length := by simp [noteRows_length] at c13; omega
      refine SW.exit ?_
      refine SW.seq ?_
      refine SW.regT tabOk [4] ?_
      refine ai trivial ?_
      refine SW.ret ?_
      refine retOk1 rfl (congrArg D.b ?_)
      subst hi3
      rw [notesOk, all_true hk]; simp [hm]

set_option maxHeartbeats 800000 in
theorem s_impl_marksOk (l : List MarkR) (hl : l.length ≤ 100000) : Ab.Spec Tryz.prog 167 1 [(.t 0, .v (Dv (.sl (markRows l))))] [(.t 0, .v (B (marksOk l)))] := by
  refine spec_of_body tabOk Tryz.func167 rfl (by kernel_rfl) (by decide) (by kernel_rfl) rfl ?_
  refine SW.seq ?_
  refine SW.regT tabOk [0, 16, 17, 18, 19, 20, 21, 22, 23, 24, 25, 26, 27, 28, 29, 30, 31, 32, 33, 34, 35, 36, 37] ?_
  refine ai trivial ?_
  refine SW.seq ?_
  refine SW.seq ?_
  refine SW.regT tabOk [0, 5, 6, 7, 16, 17, 18, 19, 20, 21, 22, 23, 24, 25, 26, 27, 28, 29, 30, 31, 32, 33, 34, 35, 36, 37] ?_
  refine ai trivial (ai vc (ai trivial ?_))
  refine SW.block ?_
  -- live at the head: [0, 5, 6, 7, 16, 17, 18, 19, 20, 21, 22, 23, 24, 25, 26, 27, 28, 29, 30, 31, 32, 33, 34, 35, 36, 37]
  refine SW.loopW (n := l.length) (fun n q => ∃ i : Nat, n = l.length - i ∧ i ≤ l.length ∧ (∀ k, k < i → markStep l k = true) ∧ q = [(.t 0, .v (Dv (.sl (markRows l)))), (.t 5, .v (Dv (.sl (markRows l)))), (.t 6, .v (I (l.length : Nat))), (.t 7, .v (I (i : Nat)))]) ?_ ?_
  · skip
    refine wk [(.t 0, .v (Dv (.sl (markRows l)))), (.t 5, .v (Dv (.sl (markRows l)))), (.t 6, .v (I (l.length : Nat))), (.t 7, .v (I (0 : Nat)))] [] [] (⟨0, rfl, Nat.zero_le _, fun k h => absurd h (by omega), rfl⟩) ?_ rfl rfl
    repeat' first | exact trivial | refine mL_nil rfl ?_ | refine mL_d rfl ?_ ?_ | refine mL_own rfl rfl ?_ rfl ?_ | refine mL_row rfl ?_ ?_ | refine mL_pt rfl rfl rfl rfl ?_ | refine mL_box rfl ?_ ?_ | refine mL_agg rfl ?_ ?_ | exact mCs_nil0 | refine mCs_d ?_ ?_ | refine mCs_nil ?_ | refine mCs_own rfl ?_ rfl ?_ | refine mCs_pt rfl rfl rfl ?_
    all_goals first | with_reducible rfl | (first | with_reducible rfl | (rw [markRows_length]; done) | rfl)
  rintro n s ⟨i, rfl, hi, hk, rfl⟩
  refine SW.seq ?_
  refine SW.regT tabOk [0, 5, 6, 7, 8, 16, 17, 18, 19, 20, 21, 22, 23, 24, 25, 26, 27, 28, 29, 30, 31, 32, 33, 34, 35, 36, 37] ?_
  refine ai trivial ?_
  refine SW.seq ?_
  refine SW.cond rfl (fun c8 => ?_) (fun c8 => ?_)
  · skip
    have hi2 : i < l.length := by simpa using c8
    have hg := markRows_getD (l := l) hi2
    have hmem : l.getD i .zero ∈ l := by rw [List.getD_eq_getElem?_getD, List.getElem?_eq_getElem hi2]; exact List.getElem_mem _
    refine SW.skip ?_
    refine SW.seq ?_
    refine SW.block ?_
    refine SW.seq ?_
    refine SW.regT tabOk [0, 3, 4, 5, 6, 7, 16, 17, 18, 19, 20, 21, 22, 23, 24, 25, 26, 27, 28, 29, 30, 31, 32, 33, 34, 35, 36, 37] ?_
    refine ai trivial (ai (by rw [Int.toNat_natCast, hg]; exact ⟨⟨by omega, by rw [markRows_length]; omega⟩, rfl⟩) (ai (by rw [Int.toNat_natCast, hg]; exact ⟨Nat.le_of_ble_eq_true rfl, rfl⟩) (ai trivial (ai trivial (ai ⟨by kernel_rfl, Nat.le_of_ble_eq_true (by kernel_rfl)⟩ ?_)))))
    refine SW.seq ?_
    refine SW.regD tabOk mo [0, 5, 6, 7, 16, 17, 18, 19, 20, 21, 22, 23, 24, 25, 26, 27, 28, 29, 30, 31, 32, 33, 34, 35, 36, 37, 38] ?_
    refine ai vc ?_
    refine ex_pure (s_impl_markOk (l.getD i .zero)) rfl rfl rfl rfl rfl (by rw [Int.toNat_natCast, hg]; rfl) rfl rfl ?_
    refine ai trivial (ai trivial (ai (fun h => trivial) (ai rk (ai (fun h => trivial) (ai rk (ai (fun h => trivial) (ai rk (ai (fun h => trivial) (ai rk (ai (fun h => trivial) (ai rk (ai (fun h => trivial) (ai rk (ai (fun h => (by have h0 : 0 < i := (by have h9 := h; simp [gb] at h9; omega); rw [pred_cast h0 (by omega), Int.toNat_natCast, markRows_getD (by omega), markRows_length]; exact ⟨⟨by omega, by omega⟩, rfl⟩)) (ai rk (ai (fun h => (by first | trivial | rfl)) (ai rk (ai (fun h => (by have h0 : 0 < i := (by have h9 := h; simp [gb] at h9; omega); rw [pred_cast h0 (by omega), Int.toNat_natCast, markRows_getD (by omega)]; exact ⟨Nat.le_of_ble_eq_true rfl, rfl⟩)) (ai rk (ai (fun h => trivial) (ai rk (ai (fun h => trivial) (ai rk (ai (fun h => trivial) (ai rk (ai (fun h => (by have h0 : 0 < i := (by have h9 := h; simp [gb] at h9; omega); rw [pred_cast h0 (by omega), Int.toNat_natCast, markRows_getD (by omega), markRows_length]; exact ⟨⟨by omega, by omega⟩, rfl⟩)) (ai rk (ai (fun h => (by first | trivial | rfl)) (ai rk (ai (fun h => (by have h0 : 0 < i := (by have h9 := h; simp [gb] at h9; omega); rw [pred_cast h0 (by omega), Int.toNat_natCast, markRows_getD (by omega)]; exact ⟨Nat.le_of_ble_eq_true rfl, rfl⟩)) (ai rk (ai (fun h => (by first | trivial | rfl)) (ai rk (ai (fun h => vc) (ai rk (ai (fun h => (by first | trivial | rfl)) (ai rk (ai (fun h => vc) (ai rk ?_)))))))))))))))))))))))))))))))))))))))
    refine exc_pure (fun h => (s_impl_before _ _ _ _)) rfl rfl rfl rfl rfl rfl rfl rfl rk ?_
    refine ai (fun h => trivial) (ai rk (ai (fun h => pk) (ai rk (ai pk (ai (by kernel_rfl) ?_)))))
    refine SW.cond rfl (fun c38 => ?_) (fun c38 => ?_)
    · skip
      refine SW.seq ?_
      refine SW.regT tabOk [2] ?_
      refine ai trivial ?_
      refine SW.ret ?_
      refine retOk1 rfl (congrArg D.b ?_)
      have hs : markStep l i = false := markStep_gen c38 (fun h0 => by simp only [pred_cast h0 (show i ≤ 1000000 by omega), Int.toNat_natCast, hg, markRows_getD (show i - 1 < l.length by omega)]; rfl)
      rw [marksOk, all_false hi2 hs]
    · skip
      refine SW.skip ?_
      refine SW.regT tabOk [0, 5, 6, 7, 16, 17, 18, 19, 20, 21, 22, 23, 24, 25, 26, 27, 28, 29, 30, 31, 32, 33, 34, 35, 36, 37] ?_
      refine ai trivial (ai trivial ?_)
      have hs : markStep l i = true := markStep_gen c38 (fun h0 => by simp only [pred_cast h0 (show i ≤ 1000000 by omega), Int.toNat_natCast, hg, markRows_getD (show i - 1 < l.length by omega)]; rfl)
      refine wk [(.t 0, .v (Dv (.sl (markRows l)))), (.t 5, .v (Dv (.sl (markRows l)))), (.t 6, .v (I (l.length : Nat))), (.t 7, .v (I ((i + 1) : Nat)))] [] [] (⟨l.length - (i + 1), by omega, i + 1, rfl, by omega, fun k h => by by_cases e : k = i; exact e ▸ hs; exact hk k (by omega), rfl⟩) ?_ rfl rfl
      repeat' first | exact trivial | refine mL_nil rfl ?_ | refine mL_d rfl ?_ ?_ | refine mL_own rfl rfl ?_ rfl ?_ | refine mL_row rfl ?_ ?_ | refine mL_pt rfl rfl rfl rfl ?_ | refine mL_box rfl ?_ ?_ | refine mL_agg rfl ?_ ?_ | exact mCs_nil0 | refine mCs_d ?_ ?_ | refine mCs_nil ?_ | refine mCs_own rfl ?_ rfl ?_ | refine mCs_pt rfl rfl rfl ?_
      all_goals first | with_reducible rfl | (first | with_reducible rfl | exact congrArg D.i (wrap64_of (by omega)))
  · skip
    have hi3 : i = l.length := by simp at c8; omega
    refine SW.exit ?_
    refine SW.seq ?_
    refine SW.regT tabOk [2] ?_
    refine ai trivial ?_
    refine SW.ret ?_
    refine retOk1 rfl (congrArg D.b ?_)
    subst hi3
    rw [marksOk, all_true hk]

end Go.Proofs.YtilahgkblckndaaGreatDoor

namespace Go.Proofs.YtilahgkblckndaaGreatDoor
open Go Go.Ab Go.RowKit
set_option linter.unusedVariables false
set_option linter.unusedSimpArgs false

set_option maxHeartbeats 3200000 in
theorem s_impl_KeepOk (k : KeepR) (hx : ∀ x ∈ k.held, x.text.length ≤ 140737488355328) (hy : ∀ x ∈ k.inbox, x.text.length ≤ 140737488355328) : Ab.Spec Tryz.prog 126 1 [(.t 0, .v (k.V))] [(.t 0, .v (B (keepOk k)))] := by
  refine spec_of_body tabOk Tryz.func126 rfl (by kernel_rfl) (by decide) (by kernel_rfl) rfl ?_
  refine SW.seq ?_
  refine SW.regT tabOk [1, 14, 15, 16, 17, 20, 21, 22, 23, 26, 27, 28, 29, 32, 33, 34, 35, 38, 39, 40, 41, 48, 49, 50, 51, 54, 55, 56, 57, 72, 73, 74, 75, 76, 79, 80, 81, 82, 83, 86, 87, 88, 89, 90, 93, 94, 95, 96, 97, 98, 99, 100, 116, 117, 118, 119, 120, 123, 124, 125, 126, 127, 143, 144, 145, 146, 147, 150, 151, 152, 153, 154, 157, 158, 159, 160, 161, 162, 163, 164, 165, 166, 167, 168, 169, 170, 171] ?_
  refine ai trivial (ai trivial ?_)
  refine SW.seq ?_
  refine SW.seq ?_
  refine SW.regT tabOk [1, 42, 48, 49, 50, 51, 54, 55, 56, 57, 72, 73, 74, 75, 76, 79, 80, 81, 82, 83, 86, 87, 88, 89, 90, 93, 94, 95, 96, 97, 98, 99, 100, 116, 117, 118, 119, 120, 123, 124, 125, 126, 127, 143, 144, 145, 146, 147, 150, 151, 152, 153, 154, 157, 158, 159, 160, 161, 162, 163, 164, 165, 166, 167, 168, 169, 170, 171] ?_
  refine ai (by first | trivial | rfl) (ai vc ?_)
  refine ex_pure (s_impl_isNode _) rfl rfl rfl rfl rfl rfl rfl rfl ?_
  refine ai trivial (ai trivial (ai (fun h => (by first | trivial | rfl)) (ai rk (ai (fun h => vc) (ai rk ?_)))))
  refine exc_pure (fun h => (s_impl_in _ _ _)) rfl rfl rfl rfl rfl rfl rfl rfl rk ?_
  refine ai (fun h => trivial) (ai rk (ai pk (ai trivial (ai (fun h => (by first | trivial | rfl)) (ai rk (ai (fun h => vc) (ai rk ?_)))))))
  refine exc_pure (fun h => (s_impl_in _ _ _)) rfl rfl rfl rfl rfl rfl rfl rfl rk ?_
  refine ai (fun h => trivial) (ai rk (ai pk (ai trivial (ai (fun h => (by first | trivial | rfl)) (ai rk (ai (fun h => vc) (ai rk (ai (fun h => vc) (ai rk (ai (fun h => trivial) (ai rk (ai pk (ai trivial (ai (fun h => (by first | trivial | rfl)) (ai rk (ai (fun h => vc) (ai rk (ai (fun h => vc) (ai rk (ai (fun h => trivial) (ai rk (ai pk (ai trivial (ai (fun h => (by first | trivial | rfl)) (ai rk (ai (fun h => vc) (ai rk (ai (fun h => vc) (ai rk (ai (fun h => trivial) (ai rk (ai pk ?_))))))))))))))))))))))))))))))))
  refine SW.cond rfl (fun c42 => ?_) (fun c42 => ?_)
  · skip
    refine SW.seq ?_
    refine SW.regT tabOk [2] ?_
    refine ai trivial ?_
    refine SW.ret ?_
    refine retOk1 rfl (congrArg D.b ?_)
    refine (keepOk_no fun h => ?_).symm
    obtain ⟨⟨h1, h2, h3, h4, h5, h6⟩, ⟨h7, h8, h9⟩, h10, h11, h12⟩ := (keepOk_parts k).1 h
    simp only [gb, inB, noteRows_length, markRows_length, h1, Bool.not_true, Bool.false_or, Bool.or_eq_true, Bool.not_eq_eq_eq_not, Bool.and_eq_false_iff, decide_eq_true_eq, decide_eq_false_iff_not, Bool.not_eq_true'] at c42
    omega
  · skip
    have hf : isNode k.id = true ∧ (0 ≤ k.time ∧ k.time ≤ 999) ∧ (1 ≤ k.next ∧ k.next ≤ 100) ∧ k.held.length ≤ 6 ∧ k.marks.length ≤ 12 ∧ k.inbox.length ≤ 6 := by
      simp only [gb, inB, noteRows_length, markRows_length, Bool.or_eq_false_iff, Bool.not_eq_false, decide_eq_false_iff_not, Bool.not_eq_eq_eq_not, Bool.not_false, Bool.and_eq_true, decide_eq_true_eq] at c42
      obtain ⟨⟨⟨⟨⟨q1, q2⟩, q3⟩, q4⟩, q5⟩, q6⟩ := c42
      exact ⟨q1, q2, q3, by omega, by omega, by omega⟩
    obtain ⟨f1, f2, f3, f4, f5, f6⟩ := hf
    refine SW.skip ?_
    refine SW.seq ?_
    refine SW.seq ?_
    refine SW.regT tabOk [1, 58, 72, 73, 74, 75, 76, 79, 80, 81, 82, 83, 86, 87, 88, 89, 90, 93, 94, 95, 96, 97, 98, 99, 100, 116, 117, 118, 119, 120, 123, 124, 125, 126, 127, 143, 144, 145, 146, 147, 150, 151, 152, 153, 154, 157, 158, 159, 160, 161, 162, 163, 164, 165, 166, 167, 168, 169, 170, 171] ?_
    refine ai (by first | trivial | rfl) (ai vc ?_)
    refine ex_pure (s_impl_notesOk k.held hx (by omega)) rfl rfl rfl rfl rfl rfl rfl rfl ?_
    refine ai trivial (ai trivial (ai (fun h => (by first | trivial | rfl)) (ai rk (ai (fun h => vc) (ai rk ?_)))))
    refine exc_pure (fun h => (s_impl_marksOk k.marks (by omega))) rfl rfl rfl rfl rfl rfl rfl rfl rk ?_
    refine ai (fun h => trivial) (ai rk (ai pk (ai trivial (ai (fun h => (by first | trivial | rfl)) (ai rk (ai (fun h => vc) (ai rk ?_)))))))
    refine exc_pure (fun h => (s_impl_notesOk k.inbox hy (by omega))) rfl rfl rfl rfl rfl rfl rfl rfl rk ?_
    refine ai (fun h => trivial) (ai rk (ai pk ?_))
    refine SW.cond rfl (fun c58 => ?_) (fun c58 => ?_)
    · skip
      refine SW.seq ?_
      refine SW.regT tabOk [2] ?_
      refine ai trivial ?_
      refine SW.ret ?_
      refine retOk1 rfl (congrArg D.b ?_)
      refine (keepOk_no fun h => ?_).symm
      obtain ⟨⟨h1, h2, h3, h4, h5, h6⟩, ⟨h7, h8, h9⟩, h10, h11, h12⟩ := (keepOk_parts k).1 h
      rw [h7, h8, h9] at c58
      cases c58
    · skip
      have hg3 : notesOk k.held = true ∧ marksOk k.marks = true ∧ notesOk k.inbox = true := by
        simp only [gb, Bool.or_eq_false_iff, Bool.not_eq_false, Bool.not_eq_eq_eq_not, Bool.not_false] at c58
        exact ⟨c58.1.1, c58.1.2, c58.2⟩
      refine SW.skip ?_
      refine SW.seq ?_
      refine SW.seq ?_
      refine SW.regT tabOk [1, 60, 61, 62, 72, 73, 74, 75, 76, 79, 80, 81, 82, 83, 86, 87, 88, 89, 90, 93, 94, 95, 96, 97, 98, 99, 100, 116, 117, 118, 119, 120, 123, 124, 125, 126, 127, 143, 144, 145, 146, 147, 150, 151, 152, 153, 154, 157, 158, 159, 160, 161, 162, 163, 164, 165, 166, 167, 168, 169, 170, 171] ?_
      refine ai (by first | trivial | rfl) (ai vc (ai vc (ai trivial ?_)))
      refine SW.block ?_
      -- live at the head: [1, 60, 61, 62, 72, 73, 74, 75, 76, 79, 80, 81, 82, 83, 86, 87, 88, 89, 90, 93, 94, 95, 96, 97, 98, 99, 100, 116, 117, 118, 119, 120, 123, 124, 125, 126, 127, 143, 144, 145, 146, 147, 150, 151, 152, 153, 154, 157, 158, 159, 160, 161, 162, 163, 164, 165, 166, 167, 168, 169, 170, 171]
      refine SW.loopW (n := k.held.length) (fun n q => ∃ i : Nat, n = k.held.length - i ∧ i ≤ k.held.length ∧ (∀ j, j < i → heldOk k j = true) ∧ q = [(.t 1, .v (.e (.c (.pt 1 0)))), (.t 60, .v (Dv (.sl (noteRows k.held)))), (.t 61, .v (I (k.held.length : Nat))), (.t 62, .v (I (i : Nat))), (.o 1, .box 83 [.d (.i k.id), .d (.i k.time), .d (.i k.next), .d (.sl (noteRows k.held)), .d (.sl (markRows k.marks)), .d (.sl (noteRows k.inbox))])]) ?_ ?_
      · skip
        refine wk [(.t 1, .v (.e (.c (.pt 1 0)))), (.t 60, .v (Dv (.sl (noteRows k.held)))), (.t 61, .v (I (k.held.length : Nat))), (.t 62, .v (I (0 : Nat))), (.o 1, .box 83 [.d (.i k.id), .d (.i k.time), .d (.i k.next), .d (.sl (noteRows k.held)), .d (.sl (markRows k.marks)), .d (.sl (noteRows k.inbox))])] [] [] (⟨0, rfl, Nat.zero_le _, fun j h => absurd h (by omega), rfl⟩) ?_ rfl rfl
        repeat' first | exact trivial | refine mL_nil rfl ?_ | refine mL_d rfl ?_ ?_ | refine mL_own rfl rfl ?_ rfl ?_ | refine mL_row rfl ?_ ?_ | refine mL_pt rfl rfl rfl rfl ?_ | refine mL_box rfl ?_ ?_ | refine mL_agg rfl ?_ ?_ | exact mCs_nil0 | refine mCs_d ?_ ?_ | refine mCs_nil ?_ | refine mCs_own rfl ?_ rfl ?_ | refine mCs_pt rfl rfl rfl ?_
        all_goals first | with_reducible rfl | (first | with_reducible rfl | (rw [noteRows_length]; done) | rfl)
      rintro n s ⟨i, rfl, hi, hk, rfl⟩
      refine SW.seq ?_
      refine SW.regT tabOk [1, 60, 61, 62, 63, 72, 73, 74, 75, 76, 79, 80, 81, 82, 83, 86, 87, 88, 89, 90, 93, 94, 95, 96, 97, 98, 99, 100, 116, 117, 118, 119, 120, 123, 124, 125, 126, 127, 143, 144, 145, 146, 147, 150, 151, 152, 153, 154, 157, 158, 159, 160, 161, 162, 163, 164, 165, 166, 167, 168, 169, 170, 171] ?_
      refine ai trivial ?_
      refine SW.seq ?_
      refine SW.cond rfl (fun c63 => ?_) (fun c63 => ?_)
      · skip
        have hi2 : i < k.held.length := by simpa using c63
        have hg := noteRows_getD (l := k.held) hi2
        refine SW.skip ?_
        refine SW.seq ?_
        refine SW.block ?_
        refine SW.seq ?_
        refine SW.regT tabOk [1, 4, 60, 61, 62, 72, 73, 74, 75, 76, 79, 80, 81, 82, 83, 86, 87, 88, 89, 90, 93, 94, 95, 96, 97, 98, 99, 100, 116, 117, 118, 119, 120, 123, 124, 125, 126, 127, 143, 144, 145, 146, 147, 150, 151, 152, 153, 154, 157, 158, 159, 160, 161, 162, 163, 164, 165, 166, 167, 168, 169, 170, 171] ?_
        refine ai (by rw [Int.toNat_natCast, hg]; exact ⟨⟨by omega, by rw [noteRows_length]; omega⟩, rfl⟩) (ai (by rw [Int.toNat_natCast, hg]; exact ⟨Nat.le_of_ble_eq_true rfl, rfl⟩) (ai trivial (ai ⟨by kernel_rfl, Nat.le_of_ble_eq_true (by kernel_rfl)⟩ ?_)))
        refine SW.seq ?_
        refine SW.wk (J := fun s => s = [(.t 1, .v (.e (.c (.pt 1 0)))), (.t 60, .v (Dv (.sl (noteRows k.held)))), (.t 61, .v (I (k.held.length : Nat))), (.t 62, .v (I (i : Nat))), (.o 1, .box 83 [.d (.i k.id), .d (.i k.time), .d (.i k.next), .d (.sl (noteRows k.held)), .d (.sl (markRows k.marks)), .d (.sl (noteRows k.inbox))]), (.t 4, .v (.e (.c (.pt 4 0)))), (.o 4, .box 64 [.d (.i (k.held.getD i .zero).frm), .d (.i (k.held.getD i .zero).num), .d (.i (k.held.getD i .zero).to), .d (.i (k.held.getD i .zero).til), .d (.s (k.held.getD i .zero).text)])]) ?_ ?_
        · skip
          refine wk [(.t 1, .v (.e (.c (.pt 1 0)))), (.t 60, .v (Dv (.sl (noteRows k.held)))), (.t 61, .v (I (k.held.length : Nat))), (.t 62, .v (I (i : Nat))), (.o 1, .box 83 [.d (.i k.id), .d (.i k.time), .d (.i k.next), .d (.sl (noteRows k.held)), .d (.sl (markRows k.marks)), .d (.sl (noteRows k.inbox))]), (.t 4, .v (.e (.c (.pt 4 0)))), (.o 4, .box 64 [.d (.i (k.held.getD i .zero).frm), .d (.i (k.held.getD i .zero).num), .d (.i (k.held.getD i .zero).to), .d (.i (k.held.getD i .zero).til), .d (.s (k.held.getD i .zero).text)])] [] [] (rfl) ?_ rfl rfl
          repeat' first | exact trivial | refine mL_nil rfl ?_ | refine mL_d rfl ?_ ?_ | refine mL_own rfl rfl ?_ rfl ?_ | refine mL_row rfl ?_ ?_ | refine mL_pt rfl rfl rfl rfl ?_ | refine mL_box rfl ?_ ?_ | refine mL_agg rfl ?_ ?_ | exact mCs_nil0 | refine mCs_d ?_ ?_ | refine mCs_nil ?_ | refine mCs_own rfl ?_ rfl ?_ | refine mCs_pt rfl rfl rfl ?_
          all_goals first | with_reducible rfl | (first | with_reducible rfl | (rw [Int.toNat_natCast, hg]; rfl))
        rintro s rfl
        refine SW.regT tabOk [1, 60, 61, 62, 72, 73, 74, 75, 76, 79, 80, 81, 82, 83, 86, 87, 88, 89, 90, 93, 94, 95, 96, 97, 98, 99, 100, 101, 116, 117, 118, 119, 120, 123, 124, 125, 126, 127, 143, 144, 145, 146, 147, 150, 151, 152, 153, 154, 157, 158, 159, 160, 161, 162, 163, 164, 165, 166, 167, 168, 169, 170, 171] ?_
        refine ai (by first | trivial | rfl) (ai vc (ai (by first | trivial | rfl) (ai vc (ai trivial (ai trivial (ai (fun h => (by first | trivial | rfl)) (ai rk (ai (fun h => vc) (ai rk (ai (fun h => (by first | trivial | rfl)) (ai rk (ai (fun h => vc) (ai rk (ai (fun h => trivial) (ai rk (ai pk (ai trivial (ai (fun h => (by first | trivial | rfl)) (ai rk (ai (fun h => vc) (ai rk (ai (fun h => (by first | trivial | rfl)) (ai rk (ai (fun h => vc) (ai rk (ai (fun h => trivial) (ai rk (ai pk (ai trivial (ai (fun h => (by first | trivial | rfl)) (ai rk (ai (fun h => vc) (ai rk (ai (fun h => vc) (ai rk ?_)))))))))))))))))))))))))))))))))))
        refine exc_pure (fun h => (s_impl_onWay k.id (k.held.getD i .zero))) rfl rfl rfl rfl rfl rfl rfl rfl rk ?_
        refine ai (fun h => trivial) (ai rk (ai pk (ai trivial (ai (fun h => (by first | trivial | rfl)) (ai rk (ai (fun h => vc) (ai rk (ai (fun h => (by first | trivial | rfl)) (ai rk (ai (fun h => vc) (ai rk (ai (fun h => (by first | trivial | rfl)) (ai rk (ai (fun h => vc) (ai rk ?_)))))))))))))))
        refine exc_pure (fun h => (s_impl_markAt k.marks _ _ (by omega))) rfl rfl rfl rfl rfl rfl rfl rfl rk ?_
        refine ai (fun h => trivial) (ai rk (ai pk ?_))
        refine SW.cond rfl (fun c101 => ?_) (fun c101 => ?_)
        · skip
          refine SW.seq ?_
          refine SW.regT tabOk [2] ?_
          refine ai trivial ?_
          refine SW.ret ?_
          refine retOk1 rfl (congrArg D.b ?_)
          refine (keepOk_no fun h => ?_).symm
          obtain ⟨⟨h1, h2, h3, h4, h5, h6⟩, ⟨h7, h8, h9⟩, h10, h11, h12⟩ := (keepOk_parts k).1 h
          rw [all_false hi2 (heldOk_gen c101)] at h10
          cases h10
        · skip
          refine SW.skip ?_
          refine SW.regT tabOk [1, 60, 61, 62, 72, 73, 74, 75, 76, 79, 80, 81, 82, 83, 86, 87, 88, 89, 90, 93, 94, 95, 96, 97, 98, 99, 100, 116, 117, 118, 119, 120, 123, 124, 125, 126, 127, 143, 144, 145, 146, 147, 150, 151, 152, 153, 154, 157, 158, 159, 160, 161, 162, 163, 164, 165, 166, 167, 168, 169, 170, 171] ?_
          refine ai trivial (ai trivial ?_)
          have hs : heldOk k i = true := heldOk_gen c101
          refine wk [(.t 1, .v (.e (.c (.pt 1 0)))), (.t 60, .v (Dv (.sl (noteRows k.held)))), (.t 61, .v (I (k.held.length : Nat))), (.t 62, .v (I ((i + 1) : Nat))), (.o 1, .box 83 [.d (.i k.id), .d (.i k.time), .d (.i k.next), .d (.sl (noteRows k.held)), .d (.sl (markRows k.marks)), .d (.sl (noteRows k.inbox))])] [] [] (⟨k.held.length - (i + 1), by omega, i + 1, rfl, by omega, fun j h => by by_cases e : j = i; exact e ▸ hs; exact hk j (by omega), rfl⟩) ?_ rfl rfl
          repeat' first | exact trivial | refine mL_nil rfl ?_ | refine mL_d rfl ?_ ?_ | refine mL_own rfl rfl ?_ rfl ?_ | refine mL_row rfl ?_ ?_ | refine mL_pt rfl rfl rfl rfl ?_ | refine mL_box rfl ?_ ?_ | refine mL_agg rfl ?_ ?_ | exact mCs_nil0 | refine mCs_d ?_ ?_ | refine mCs_nil ?_ | refine mCs_own rfl ?_ rfl ?_ | refine mCs_pt rfl rfl rfl ?_
          all_goals first | with_reducible rfl | (first | with_reducible rfl | exact congrArg D.i (wrap64_of (by omega)))
      · skip
        have hiA : i = k.held.length := by simp at c63; omega
        have hkA := hk
        clear hk hi
        refine SW.exit ?_
        refine SW.seq ?_
        refine SW.seq ?_
        refine SW.regT tabOk [1, 104, 105, 106, 116, 117, 118, 119, 120, 123, 124, 125, 126, 127, 143, 144, 145, 146, 147, 150, 151, 152, 153, 154, 157, 158, 159, 160, 161, 162, 163, 164, 165, 166, 167, 168, 169, 170, 171] ?_
        refine ai (by first | trivial | rfl) (ai vc (ai vc (ai trivial ?_)))
        refine SW.block ?_
        -- live at the head: [1, 104, 105, 106, 116, 117, 118, 119, 120, 123, 124, 125, 126, 127, 143, 144, 145, 146, 147, 150, 151, 152, 153, 154, 157, 158, 159, 160, 161, 162, 163, 164, 165, 166, 167, 168, 169, 170, 171]
        refine SW.loopW (n := k.marks.length) (fun n q => ∃ i : Nat, n = k.marks.length - i ∧ i ≤ k.marks.length ∧ (∀ j, j < i → marked k j = true) ∧ q = [(.t 1, .v (.e (.c (.pt 1 0)))), (.t 104, .v (Dv (.sl (markRows k.marks)))), (.t 105, .v (I (k.marks.length : Nat))), (.t 106, .v (I (i : Nat))), (.o 1, .box 83 [.d (.i k.id), .d (.i k.time), .d (.i k.next), .d (.sl (noteRows k.held)), .d (.sl (markRows k.marks)), .d (.sl (noteRows k.inbox))])]) ?_ ?_
        · skip
          refine wk [(.t 1, .v (.e (.c (.pt 1 0)))), (.t 104, .v (Dv (.sl (markRows k.marks)))), (.t 105, .v (I (k.marks.length : Nat))), (.t 106, .v (I (0 : Nat))), (.o 1, .box 83 [.d (.i k.id), .d (.i k.time), .d (.i k.next), .d (.sl (noteRows k.held)), .d (.sl (markRows k.marks)), .d (.sl (noteRows k.inbox))])] [] [] (⟨0, rfl, Nat.zero_le _, fun j h => absurd h (by omega), rfl⟩) ?_ rfl rfl
          repeat' first | exact trivial | refine mL_nil rfl ?_ | refine mL_d rfl ?_ ?_ | refine mL_own rfl rfl ?_ rfl ?_ | refine mL_row rfl ?_ ?_ | refine mL_pt rfl rfl rfl rfl ?_ | refine mL_box rfl ?_ ?_ | refine mL_agg rfl ?_ ?_ | exact mCs_nil0 | refine mCs_d ?_ ?_ | refine mCs_nil ?_ | refine mCs_own rfl ?_ rfl ?_ | refine mCs_pt rfl rfl rfl ?_
          all_goals first | with_reducible rfl | (first | with_reducible rfl | (rw [markRows_length]; done) | rfl)
        rintro n s ⟨i, rfl, hi, hk, rfl⟩
        refine SW.seq ?_
        refine SW.regT tabOk [1, 104, 105, 106, 107, 116, 117, 118, 119, 120, 123, 124, 125, 126, 127, 143, 144, 145, 146, 147, 150, 151, 152, 153, 154, 157, 158, 159, 160, 161, 162, 163, 164, 165, 166, 167, 168, 169, 170, 171] ?_
        refine ai trivial ?_
        refine SW.seq ?_
        refine SW.cond rfl (fun c107 => ?_) (fun c107 => ?_)
        · skip
          have hi2 : i < k.marks.length := by simpa using c107
          have hg := markRows_getD (l := k.marks) hi2
          refine SW.skip ?_
          refine SW.seq ?_
          refine SW.block ?_
          refine SW.seq ?_
          refine SW.regT tabOk [1, 6, 104, 105, 106, 116, 117, 118, 119, 120, 123, 124, 125, 126, 127, 143, 144, 145, 146, 147, 150, 151, 152, 153, 154, 157, 158, 159, 160, 161, 162, 163, 164, 165, 166, 167, 168, 169, 170, 171] ?_
          refine ai (by rw [Int.toNat_natCast, hg]; exact ⟨⟨by omega, by rw [markRows_length]; omega⟩, rfl⟩) (ai (by rw [Int.toNat_natCast, hg]; exact ⟨Nat.le_of_ble_eq_true rfl, rfl⟩) (ai trivial (ai ⟨by kernel_rfl, Nat.le_of_ble_eq_true (by kernel_rfl)⟩ ?_)))
          refine SW.seq ?_
          refine SW.wk (J := fun s => s = [(.t 1, .v (.e (.c (.pt 1 0)))), (.t 104, .v (Dv (.sl (markRows k.marks)))), (.t 105, .v (I (k.marks.length : Nat))), (.t 106, .v (I (i : Nat))), (.o 1, .box 83 [.d (.i k.id), .d (.i k.time), .d (.i k.next), .d (.sl (noteRows k.held)), .d (.sl (markRows k.marks)), .d (.sl (noteRows k.inbox))]), (.t 6, .v (.e (.c (.pt 6 0)))), (.o 6, .box 157 [.d (.i (k.marks.getD i .zero).frm), .d (.i (k.marks.getD i .zero).num), .d (.i (k.marks.getD i .zero).til)])]) ?_ ?_
          · skip
            refine wk [(.t 1, .v (.e (.c (.pt 1 0)))), (.t 104, .v (Dv (.sl (markRows k.marks)))), (.t 105, .v (I (k.marks.length : Nat))), (.t 106, .v (I (i : Nat))), (.o 1, .box 83 [.d (.i k.id), .d (.i k.time), .d (.i k.next), .d (.sl (noteRows k.held)), .d (.sl (markRows k.marks)), .d (.sl (noteRows k.inbox))]), (.t 6, .v (.e (.c (.pt 6 0)))), (.o 6, .box 157 [.d (.i (k.marks.getD i .zero).frm), .d (.i (k.marks.getD i .zero).num), .d (.i (k.marks.getD i .zero).til)])] [] [] (rfl) ?_ rfl rfl
            repeat' first | exact trivial | refine mL_nil rfl ?_ | refine mL_d rfl ?_ ?_ | refine mL_own rfl rfl ?_ rfl ?_ | refine mL_row rfl ?_ ?_ | refine mL_pt rfl rfl rfl rfl ?_ | refine mL_box rfl ?_ ?_ | refine mL_agg rfl ?_ ?_ | exact mCs_nil0 | refine mCs_d ?_ ?_ | refine mCs_nil ?_ | refine mCs_own rfl ?_ rfl ?_ | refine mCs_pt rfl rfl rfl ?_
            all_goals first | with_reducible rfl | (first | with_reducible rfl | (rw [Int.toNat_natCast, hg]; rfl))
          rintro s rfl
          refine SW.regT tabOk [1, 104, 105, 106, 116, 117, 118, 119, 120, 123, 124, 125, 126, 127, 128, 143, 144, 145, 146, 147, 150, 151, 152, 153, 154, 157, 158, 159, 160, 161, 162, 163, 164, 165, 166, 167, 168, 169, 170, 171] ?_
          refine ai (by first | trivial | rfl) (ai vc (ai (by first | trivial | rfl) (ai vc (ai trivial (ai trivial (ai (fun h => (by first | trivial | rfl)) (ai rk (ai (fun h => vc) (ai rk (ai (fun h => (by first | trivial | rfl)) (ai rk (ai (fun h => vc) (ai rk (ai (fun h => trivial) (ai rk (ai pk (ai trivial (ai (fun h => (by first | trivial | rfl)) (ai rk (ai (fun h => vc) (ai rk (ai (fun h => (by first | trivial | rfl)) (ai rk (ai (fun h => vc) (ai rk (ai (fun h => trivial) (ai rk (ai pk ?_))))))))))))))))))))))))))))
          refine SW.cond rfl (fun c128 => ?_) (fun c128 => ?_)
          · skip
            refine SW.seq ?_
            refine SW.regT tabOk [2] ?_
            refine ai trivial ?_
            refine SW.ret ?_
            refine retOk1 rfl (congrArg D.b ?_)
            refine (keepOk_no fun h => ?_).symm
            obtain ⟨⟨h1, h2, h3, h4, h5, h6⟩, ⟨h7, h8, h9⟩, h10, h11, h12⟩ := (keepOk_parts k).1 h
            rw [all_false hi2 (marked_gen c128)] at h11
            cases h11
          · skip
            refine SW.skip ?_
            refine SW.regT tabOk [1, 104, 105, 106, 116, 117, 118, 119, 120, 123, 124, 125, 126, 127, 143, 144, 145, 146, 147, 150, 151, 152, 153, 154, 157, 158, 159, 160, 161, 162, 163, 164, 165, 166, 167, 168, 169, 170, 171] ?_
            refine ai trivial (ai trivial ?_)
            have hs : marked k i = true := marked_gen c128
            refine wk [(.t 1, .v (.e (.c (.pt 1 0)))), (.t 104, .v (Dv (.sl (markRows k.marks)))), (.t 105, .v (I (k.marks.length : Nat))), (.t 106, .v (I ((i + 1) : Nat))), (.o 1, .box 83 [.d (.i k.id), .d (.i k.time), .d (.i k.next), .d (.sl (noteRows k.held)), .d (.sl (markRows k.marks)), .d (.sl (noteRows k.inbox))])] [] [] (⟨k.marks.length - (i + 1), by omega, i + 1, rfl, by omega, fun j h => by by_cases e : j = i; exact e ▸ hs; exact hk j (by omega), rfl⟩) ?_ rfl rfl
            repeat' first | exact trivial | refine mL_nil rfl ?_ | refine mL_d rfl ?_ ?_ | refine mL_own rfl rfl ?_ rfl ?_ | refine mL_row rfl ?_ ?_ | refine mL_pt rfl rfl rfl rfl ?_ | refine mL_box rfl ?_ ?_ | refine mL_agg rfl ?_ ?_ | exact mCs_nil0 | refine mCs_d ?_ ?_ | refine mCs_nil ?_ | refine mCs_own rfl ?_ rfl ?_ | refine mCs_pt rfl rfl rfl ?_
            all_goals first | with_reducible rfl | (first | with_reducible rfl | exact congrArg D.i (wrap64_of (by omega)))
        · skip
          have hiB : i = k.marks.length := by simp at c107; omega
          have hkB := hk
          clear hk hi
          refine SW.exit ?_
          refine SW.seq ?_
          refine SW.seq ?_
          refine SW.regT tabOk [1, 131, 132, 133, 143, 144, 145, 146, 147, 150, 151, 152, 153, 154, 157, 158, 159, 160, 161, 162, 163, 164, 165, 166, 167, 168, 169, 170, 171] ?_
          refine ai (by first | trivial | rfl) (ai vc (ai vc (ai trivial ?_)))
          refine SW.block ?_
          -- live at the head: [1, 131, 132, 133, 143, 144, 145, 146, 147, 150, 151, 152, 153, 154, 157, 158, 159, 160, 161, 162, 163, 164, 165, 166, 167, 168, 169, 170, 171]
          refine SW.loopW (n := k.inbox.length) (fun n q => ∃ i : Nat, n = k.inbox.length - i ∧ i ≤ k.inbox.length ∧ (∀ j, j < i → inboxOk k j = true) ∧ q = [(.t 1, .v (.e (.c (.pt 1 0)))), (.t 131, .v (Dv (.sl (noteRows k.inbox)))), (.t 132, .v (I (k.inbox.length : Nat))), (.t 133, .v (I (i : Nat))), (.o 1, .box 83 [.d (.i k.id), .d (.i k.time), .d (.i k.next), .d (.sl (noteRows k.held)), .d (.sl (markRows k.marks)), .d (.sl (noteRows k.inbox))])]) ?_ ?_
          · skip
            refine wk [(.t 1, .v (.e (.c (.pt 1 0)))), (.t 131, .v (Dv (.sl (noteRows k.inbox)))), (.t 132, .v (I (k.inbox.length : Nat))), (.t 133, .v (I (0 : Nat))), (.o 1, .box 83 [.d (.i k.id), .d (.i k.time), .d (.i k.next), .d (.sl (noteRows k.held)), .d (.sl (markRows k.marks)), .d (.sl (noteRows k.inbox))])] [] [] (⟨0, rfl, Nat.zero_le _, fun j h => absurd h (by omega), rfl⟩) ?_ rfl rfl
            repeat' first | exact trivial | refine mL_nil rfl ?_ | refine mL_d rfl ?_ ?_ | refine mL_own rfl rfl ?_ rfl ?_ | refine mL_row rfl ?_ ?_ | refine mL_pt rfl rfl rfl rfl ?_ | refine mL_box rfl ?_ ?_ | refine mL_agg rfl ?_ ?_ | exact mCs_nil0 | refine mCs_d ?_ ?_ | refine mCs_nil ?_ | refine mCs_own rfl ?_ rfl ?_ | refine mCs_pt rfl rfl rfl ?_
            all_goals first | with_reducible rfl | (first | with_reducible rfl | (rw [noteRows_length]; done) | rfl)
          rintro n s ⟨i, rfl, hi, hk, rfl⟩
          refine SW.seq ?_
          refine SW.regT tabOk [1, 131, 132, 133, 134, 143, 144, 145, 146, 147, 150, 151, 152, 153, 154, 157, 158, 159, 160, 161, 162, 163, 164, 165, 166, 167, 168, 169, 170, 171] ?_
          refine ai trivial ?_
          refine SW.seq ?_
          refine SW.cond rfl (fun c134 => ?_) (fun c134 => ?_)
          · skip
            have hi2 : i < k.inbox.length := by simpa using c134
            have hg := noteRows_getD (l := k.inbox) hi2
            refine SW.skip ?_
            refine SW.seq ?_
            refine SW.block ?_
            refine SW.seq ?_
            refine SW.regT tabOk [1, 8, 131, 132, 133, 143, 144, 145, 146, 147, 150, 151, 152, 153, 154, 157, 158, 159, 160, 161, 162, 163, 164, 165, 166, 167, 168, 169, 170, 171] ?_
            refine ai (by rw [Int.toNat_natCast, hg]; exact ⟨⟨by omega, by rw [noteRows_length]; omega⟩, rfl⟩) (ai (by rw [Int.toNat_natCast, hg]; exact ⟨Nat.le_of_ble_eq_true rfl, rfl⟩) (ai trivial (ai ⟨by kernel_rfl, Nat.le_of_ble_eq_true (by kernel_rfl)⟩ ?_)))
            refine SW.seq ?_
            refine SW.wk (J := fun s => s = [(.t 1, .v (.e (.c (.pt 1 0)))), (.t 131, .v (Dv (.sl (noteRows k.inbox)))), (.t 132, .v (I (k.inbox.length : Nat))), (.t 133, .v (I (i : Nat))), (.o 1, .box 83 [.d (.i k.id), .d (.i k.time), .d (.i k.next), .d (.sl (noteRows k.held)), .d (.sl (markRows k.marks)), .d (.sl (noteRows k.inbox))]), (.t 8, .v (.e (.c (.pt 8 0)))), (.o 8, .box 64 [.d (.i (k.inbox.getD i .zero).frm), .d (.i (k.inbox.getD i .zero).num), .d (.i (k.inbox.getD i .zero).to), .d (.i (k.inbox.getD i .zero).til), .d (.s (k.inbox.getD i .zero).text)])]) ?_ ?_
            · skip
              refine wk [(.t 1, .v (.e (.c (.pt 1 0)))), (.t 131, .v (Dv (.sl (noteRows k.inbox)))), (.t 132, .v (I (k.inbox.length : Nat))), (.t 133, .v (I (i : Nat))), (.o 1, .box 83 [.d (.i k.id), .d (.i k.time), .d (.i k.next), .d (.sl (noteRows k.held)), .d (.sl (markRows k.marks)), .d (.sl (noteRows k.inbox))]), (.t 8, .v (.e (.c (.pt 8 0)))), (.o 8, .box 64 [.d (.i (k.inbox.getD i .zero).frm), .d (.i (k.inbox.getD i .zero).num), .d (.i (k.inbox.getD i .zero).to), .d (.i (k.inbox.getD i .zero).til), .d (.s (k.inbox.getD i .zero).text)])] [] [] (rfl) ?_ rfl rfl
              repeat' first | exact trivial | refine mL_nil rfl ?_ | refine mL_d rfl ?_ ?_ | refine mL_own rfl rfl ?_ rfl ?_ | refine mL_row rfl ?_ ?_ | refine mL_pt rfl rfl rfl rfl ?_ | refine mL_box rfl ?_ ?_ | refine mL_agg rfl ?_ ?_ | exact mCs_nil0 | refine mCs_d ?_ ?_ | refine mCs_nil ?_ | refine mCs_own rfl ?_ rfl ?_ | refine mCs_pt rfl rfl rfl ?_
              all_goals first | with_reducible rfl | (first | with_reducible rfl | (rw [Int.toNat_natCast, hg]; rfl))
            rintro s rfl
            refine SW.regT tabOk [1, 131, 132, 133, 143, 144, 145, 146, 147, 150, 151, 152, 153, 154, 157, 158, 159, 160, 161, 162, 163, 164, 165, 166, 167, 168, 169, 170, 171, 172] ?_
            refine ai (by first | trivial | rfl) (ai vc (ai (by first | trivial | rfl) (ai vc (ai trivial (ai trivial (ai (fun h => (by first | trivial | rfl)) (ai rk (ai (fun h => vc) (ai rk (ai (fun h => (by first | trivial | rfl)) (ai rk (ai (fun h => vc) (ai rk (ai (fun h => trivial) (ai rk (ai pk (ai trivial (ai (fun h => (by first | trivial | rfl)) (ai rk (ai (fun h => vc) (ai rk (ai (fun h => (by first | trivial | rfl)) (ai rk (ai (fun h => vc) (ai rk (ai (fun h => trivial) (ai rk (ai pk (ai trivial (ai (fun h => (by first | trivial | rfl)) (ai rk (ai (fun h => vc) (ai rk (ai (fun h => (by first | trivial | rfl)) (ai rk (ai (fun h => vc) (ai rk (ai (fun h => trivial) (ai rk (ai (fun h => trivial) (ai rk (ai (fun h => (by first | trivial | rfl)) (ai rk (ai (fun h => vc) (ai rk (ai (fun h => (by first | trivial | rfl)) (ai rk (ai (fun h => vc) (ai rk (ai (fun h => (by first | trivial | rfl)) (ai rk (ai (fun h => vc) (ai rk ?_)))))))))))))))))))))))))))))))))))))))))))))))))))))
            refine exc_pure (fun h => (s_impl_markAt k.marks _ _ (by omega))) rfl rfl rfl rfl rfl rfl rfl rfl rk ?_
            refine ai (fun h => trivial) (ai rk (ai (fun h => pk) (ai rk (ai pk ?_))))
            refine SW.cond rfl (fun c172 => ?_) (fun c172 => ?_)
            · skip
              refine SW.seq ?_
              refine SW.regT tabOk [2] ?_
              refine ai trivial ?_
              refine SW.ret ?_
              refine retOk1 rfl (congrArg D.b ?_)
              refine (keepOk_no fun h => ?_).symm
              obtain ⟨⟨h1, h2, h3, h4, h5, h6⟩, ⟨h7, h8, h9⟩, h10, h11, h12⟩ := (keepOk_parts k).1 h
              rw [all_false hi2 (inboxOk_gen c172)] at h12
              cases h12
            · skip
              refine SW.skip ?_
              refine SW.regT tabOk [1, 131, 132, 133, 143, 144, 145, 146, 147, 150, 151, 152, 153, 154, 157, 158, 159, 160, 161, 162, 163, 164, 165, 166, 167, 168, 169, 170, 171] ?_
              refine ai trivial (ai trivial ?_)
              have hs : inboxOk k i = true := inboxOk_gen c172
              refine wk [(.t 1, .v (.e (.c (.pt 1 0)))), (.t 131, .v (Dv (.sl (noteRows k.inbox)))), (.t 132, .v (I (k.inbox.length : Nat))), (.t 133, .v (I ((i + 1) : Nat))), (.o 1, .box 83 [.d (.i k.id), .d (.i k.time), .d (.i k.next), .d (.sl (noteRows k.held)), .d (.sl (markRows k.marks)), .d (.sl (noteRows k.inbox))])] [] [] (⟨k.inbox.length - (i + 1), by omega, i + 1, rfl, by omega, fun j h => by by_cases e : j = i; exact e ▸ hs; exact hk j (by omega), rfl⟩) ?_ rfl rfl
              repeat' first | exact trivial | refine mL_nil rfl ?_ | refine mL_d rfl ?_ ?_ | refine mL_own rfl rfl ?_ rfl ?_ | refine mL_row rfl ?_ ?_ | refine mL_pt rfl rfl rfl rfl ?_ | refine mL_box rfl ?_ ?_ | refine mL_agg rfl ?_ ?_ | exact mCs_nil0 | refine mCs_d ?_ ?_ | refine mCs_nil ?_ | refine mCs_own rfl ?_ rfl ?_ | refine mCs_pt rfl rfl rfl ?_
              all_goals first | with_reducible rfl | (first | with_reducible rfl | exact congrArg D.i (wrap64_of (by omega)))
          · skip
            have hiC : i = k.inbox.length := by simp at c134; omega
            refine SW.exit ?_
            refine SW.seq ?_
            refine SW.regT tabOk [2] ?_
            refine ai trivial ?_
            refine SW.ret ?_
            refine retOk1 rfl (congrArg D.b ?_)
            refine ((keepOk_parts k).2 ⟨⟨f1, f2, f3, f4, f5, f6⟩, hg3, all_true ?_, all_true ?_, all_true ?_⟩).symm
            · rw [← hiA]; exact hkA
            · rw [← hiB]; exact hkB
            · rw [← hiC]; exact hk

end Go.Proofs.YtilahgkblckndaaGreatDoor

