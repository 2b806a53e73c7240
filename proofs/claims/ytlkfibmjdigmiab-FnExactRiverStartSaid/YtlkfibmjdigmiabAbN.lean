/- Ab, part N: any order; the rules for code. -/
import Derived.Test.YtlkfibmjdigmiabAbM
namespace Go.Ab
open Go Go.RowKit
set_option linter.unusedVariables false
set_option linter.unusedSimpArgs false

theorem part_succ (ts : List Trip) (L : Nat → Bool) (σ : St) (l : Loc) (n : Nat) : part ts L σ l (n + 1) = if L n = true then (match ts[n]? with
      | some t => (match wr t.2 l with | some k => some k | none => part ts L σ l n)
      | none => part ts L σ l n) else part ts L σ l n := rfl
theorem part_set {ts : List Trip} {σ : St} {l : Loc} {L L' : Nat → Bool} {i : Nat} {t : Trip} (hi : ts[i]? = some t) (hLi : L i = false) (hL' : ∀ j, L' j = if j = i then true else L j)
    (hlater : ∀ j u, i < j → L j = true → ts[j]? = some u → wr t.2 l ≠ none → wr u.2 l = none) :
    ∀ n, part ts L' σ l n = if i < n then (match wr t.2 l with | some k => some k | none => part ts L σ l n) else part ts L σ l n
  | 0 => by simp [part]
  | n + 1 => by
    have ih := part_set (σ := σ) hi hLi hL' hlater n
    simp only [part]
    by_cases e : n = i
    · subst e
      have h1 : L' n = true := by rw [hL' n, if_pos rfl]
      simp only [h1, hLi, if_true, hi, ih, Nat.lt_irrefl, if_false, Nat.lt_succ_self, Bool.false_eq_true]
      cases wr t.2 l <;> rfl
    · have h1 : L' n = L n := by rw [hL' n, if_neg e]
      rw [h1, ih]
      by_cases hlt : i < n
      · have h2 : i < n + 1 := by omega
        simp only [hlt, h2, if_true]
        cases hn : L n with
        | false => simp
        | true =>
          simp only [if_true]
          cases hu : ts[n]? with
          | none => cases wr t.2 l <;> rfl
          | some u =>
            cases hw : wr t.2 l with
            | none => rfl
            | some k => simp [hlater n u hlt hn hu (by rw [hw]; simp)]
      · have h2 : ¬ i < n + 1 := by omega
        simp only [hlt, h2, if_false]
theorem part_reads {ts : List Trip} {σ : St} {l : Loc} {L : Nat → Bool} {i : Nat} (hLi : L i = false) (hbefore : ∀ j u, j < i → L j = false → ts[j]? = some u → wr u.2 l = none)
    (hafter : ∀ j u, i < j → L j = true → ts[j]? = some u → wr u.2 l = none) : ∀ n, part ts L σ l n = part ts (fun _ => true) σ l (min n i)
  | 0 => by simp [part]
  | n + 1 => by
    have ih := part_reads (σ := σ) hLi hbefore hafter n
    by_cases hlt : n < i
    · rw [show min (n + 1) i = n + 1 by omega]
      rw [part_succ, part_succ]
      rw [ih, show min n i = n by omega]
      simp only [if_true]
      by_cases hn : L n = true
      · rw [if_pos hn]
      · rw [if_neg hn]
        cases hu : ts[n]? with
        | none => rfl
        | some u => simp [hbefore n u hlt (by simpa using hn) hu]
    · rw [show min (n + 1) i = min n i by omega]
      rw [part_succ]
      by_cases hn : L n = true
      · rw [if_pos hn]
        have hne : n ≠ i := fun e => by rw [e, hLi] at hn; cases hn
        cases hu : ts[n]? with
        | none => exact ih
        | some u => simp [hafter n u (by omega) hn hu]; exact ih
      · rw [if_neg hn]; exact ih
theorem wr_apart {t u : Trip} (h : apartN (rwN t).2 (rwN u).2 = true) {l : Loc} (hw : wr t.2 l ≠ none) : wr u.2 l = none := by
  apply wr_none
  intro hm
  have h1 : l ∈ t.2.map (·.1) := Decidable.byContradiction fun hc => hw (wr_none hc)
  have := apartN_spec h (locN l) (by simp [rwN]; obtain ⟨p, hp, rfl⟩ := List.mem_map.1 h1; exact ⟨p.1, ⟨p.2, hp⟩, rfl⟩)
  exact this (by simp [rwN]; obtain ⟨p, hp, rfl⟩ := List.mem_map.1 hm; exact ⟨p.1, ⟨p.2, hp⟩, rfl⟩)
theorem rd_apart {t u : Trip} (h : apartN (rwN t).1 (rwN u).2 = true) {p : Loc × Option K} (hp : p ∈ t.1) : wr u.2 p.1 = none := by
  apply wr_none
  intro hm
  have := apartN_spec h (locN p.1) (by simp [rwN]; exact ⟨p.1, ⟨p.2, hp⟩, rfl⟩)
  exact this (by simp [rwN]; obtain ⟨q, hq, he⟩ := List.mem_map.1 hm; exact ⟨p.1, ⟨q.2, by rw [← he]; exact hq⟩, rfl⟩)
theorem apart_rd {t u : Trip} (h : apartN (rwN t).2 (rwN u).1 = true) {p : Loc × Option K} (hp : p ∈ u.1) : wr t.2 p.1 = none := by
  apply wr_none
  intro hm
  obtain ⟨q, hq, he⟩ := List.mem_map.1 hm
  have := apartN_spec h (locN p.1) (by simp [rwN]; exact ⟨p.1, ⟨q.2, by rw [← he]; exact hq⟩, rfl⟩)
  exact this (by simp [rwN]; exact ⟨p.1, ⟨p.2, hp⟩, rfl⟩)

theorem getD_false_true {listed : Array Bool} {j : Nat} : listed.getD j true = false ↔ j < listed.size ∧ listed.getD j false = false := by
  rw [Array.getD_eq_getD_getElem?, Array.getD_eq_getD_getElem?]
  rcases Nat.lt_or_ge j listed.size with h | h
  · simp [h]
  · simp [Array.getElem?_eq_none h]; omega
theorem filter_drop {N i : Nat} {L L' : Nat → Bool} (hi : i < N) (hLi : L i = false) (hL' : ∀ j, L' j = if j = i then true else L j) : ((List.range N).filter fun j => !L' j).length < ((List.range N).filter fun j => !L j).length := by
  induction N with
  | zero => omega
  | succ N ih =>
    rw [List.range_succ, List.filter_append, List.filter_append, List.length_append, List.length_append]
    by_cases e : i = N
    · subst e
      have : ((List.range i).filter fun j => !L' j).length = ((List.range i).filter fun j => !L j).length := by
        congr 1
        apply List.filter_congr
        intro j hj
        rw [hL' j, if_neg (by have := List.mem_range.1 hj; omega)]
      have h1 : L' i = true := by rw [hL' i, if_pos rfl]
      rw [this]
      simp [hLi, h1]
    · have := ih (by omega)
      have h2 : ([N].filter fun j => !L' j).length = ([N].filter fun j => !L j).length := by
        simp [List.filter_cons, hL' N, show ¬ N = i by omega]
      omega

section
variable {P : Program} {ops : Array Oper} {cx : Cx} {Q : Exit → Act → World → Prop} {ts : List Trip} {σ : St}
theorem any_order (hlen : ts.length = ops.size) (hit : ∀ (i : Nat) o t, ops[i]? = some o → ts[i]? = some t → ItT P ops o t) (hr : ReadsAll ts σ) (hok : orderOk ops.toList ts = true) (hf : ∀ o ∈ ops.toList, ∀ d, o.dst = some d → d < cx.N)
    (hq : ∀ ι' S' a' w', RW cx (runAll ts σ) ι' S' a' w' → Q .normal a' w') :
    ∀ (fuel : Nat) (listed : Array Bool) (σL : St) (ι : Nat → Value) (S : Nat → Prop) (a : Act) (w : World), listed.size = ops.size → (∀ l, look σL l = part ts (fun i => listed.getD i false) σ l ts.length) → RW cx σL ι S a w →
      (∀ k o, ops[k]? = some o → listed.getD k false = true → ∀ i ∈ preds o, listed.getD i false = true) → ((List.range ops.size).filter fun i => !listed.getD i false).length ≤ fuel → wpAny P .any ops Q fuel listed a w := by
  simp only [orderOk, Bool.and_eq_true] at hok
  obtain ⟨hedge, hpair⟩ := hok
  have hedge' : ∀ (j : Nat) o, ops[j]? = some o → ∀ i ∈ preds o, i < j := fun j o ho i hi => by
    have := edgesOk_spec 0 ops.toList hedge j o (by simpa using ho) i hi; omega
  have hpl : ∀ (j : Nat) o, ops[j]? = some o → (precs ops.toList [])[j]? = some ((preds o).flatMap fun i => i :: (precs ops.toList []).getD i []) := fun j o ho => by
    have := precs_at ops.toList [] j o (by simpa using ho) hedge
    simpa using this
  have main : ∀ (fuel : Nat) (listed : Array Bool) (σL : St) (ι : Nat → Value) (S : Nat → Prop) (a : Act) (w : World), listed.size = ops.size → (∀ l, look σL l = part ts (fun i => listed.getD i false) σ l ts.length) → RW cx σL ι S a w →
      (∀ k o, ops[k]? = some o → listed.getD k false = true → ∀ i ∈ preds o, listed.getD i false = true) →
      (Region.ready .any ops listed = [] → Q .normal a w) ∧ ∀ i ∈ Region.ready .any ops listed, ∃ o t, ops[i]? = some o ∧ ts[i]? = some t ∧ i < ops.size ∧ listed.getD i false = false ∧ Reads t.1 σL ∧
        (∀ k o, ops[k]? = some o → (listed.setIfInBounds i true).getD k false = true → ∀ i' ∈ preds o, (listed.setIfInBounds i true).getD i' false = true) ∧ (∀ j, (listed.setIfInBounds i true).getD j false = if j = i then true else listed.getD j false) ∧
        ∀ l, look (upds σL t.2) l = part ts (fun j => (listed.setIfInBounds i true).getD j false) σ l ts.length := by
    intro fuel listed σL ι S a w hsz hlook hw hcl
    -- what is listed is closed under all that stands ahead
    have hclosed : ∀ (k : Nat), ∀ o, ops[k]? = some o → (∀ i ∈ preds o, listed.getD i false = true) → ∀ i ∈ (precs ops.toList []).getD k [], listed.getD i false = true := by
      intro k
      induction k using Nat.strongRecOn with
      | _ k ih =>
        intro o ho hp i hi
        rw [List.getD_eq_getElem?_getD, hpl k o ho] at hi
        simp only [Option.getD_some, List.mem_flatMap] at hi
        obtain ⟨i', hi', hi⟩ := hi
        rcases List.mem_cons.1 hi with rfl | hi
        · exact hp i hi'
        · have hlt := hedge' k o ho i' hi'
          have hsz' : k < ops.size := (Array.getElem?_eq_some_iff.1 ho).1
          have ho' : ops[i']? = some ops[i'] := Array.getElem?_eq_getElem (by omega)
          exact ih i' hlt _ ho' (hcl i' _ ho' (hp i' hi')) i hi
    refine ⟨fun hnil => ?_, fun i hi => ?_⟩
    · have hall : ∀ k, k < ops.size → listed.getD k false = true := by
        intro k
        induction k using Nat.strongRecOn with
        | _ k ih =>
          intro hk
          cases hL : listed.getD k false with
          | true => rfl
          | false =>
            have ho : ops[k]? = some ops[k] := Array.getElem?_eq_getElem hk
            have : k ∈ Region.ready .any ops listed := mem_ready.2 ⟨getD_false_true.2 ⟨by omega, hL⟩, _, ho, fun e he hb => by
              have hm : e.on ∈ preds ops[k] := List.mem_map.2 ⟨e, List.mem_filter.2 ⟨by simpa using he, hb⟩, rfl⟩
              have := hedge' k _ ho _ hm
              exact ih e.on this (by omega)⟩
            rw [hnil] at this; cases this
      refine hq ι S a w (hw.congr fun l => ?_)
      rw [hlook l, part_all ts σ l _ ts.length (Nat.le_refl _) (fun i hi => hall i (by omega)), List.take_length]
    · obtain ⟨hun, o, ho, hall⟩ := mem_ready.1 hi
      obtain ⟨hisz, hLi⟩ := getD_false_true.1 hun
      have hit' : i < ts.length := by omega
      have hti : ts[i]? = some ts[i] := List.getElem?_eq_getElem hit'
      have hpreds : ∀ i' ∈ preds o, listed.getD i' false = true := by
        intro i' hi'
        obtain ⟨e, he, rfl⟩ := List.mem_map.1 hi'
        obtain ⟨he1, he2⟩ := List.mem_filter.1 he
        exact hall e (by simpa using he1) he2
      have hset : ∀ j, (listed.setIfInBounds i true).getD j false = if j = i then true else listed.getD j false := by
        intro j
        rw [Array.getD_eq_getD_getElem?, Array.getD_eq_getD_getElem?]
        by_cases e : j = i
        · subst e; simp [hisz]
        · rw [if_neg e, Array.getElem?_setIfInBounds_ne (fun h => e h.symm)]
      -- a listed operation behind i does not meet i
      have later : ∀ j u, i < j → listed.getD j false = true → ts[j]? = some u → meetOk (rwN ts[i]) (rwN u) = true := by
        intro j u hij hLj hu
        have hjl : j < ts.length := (List.getElem?_eq_some_iff.1 hu).1
        have hoj : ops[j]? = some ops[j] := Array.getElem?_eq_getElem (by omega)
        rcases pairsOk_spec hpair j i hjl hij (rwN ts[i]) (rwN u) _ (by simp [hti]) (by simp [hu]) (hpl j _ hoj) with h | h
        · have := hclosed j _ hoj (hcl j _ hoj hLj) i (by rw [List.getD_eq_getElem?_getD, hpl j _ hoj]; exact h)
          rw [hLi] at this; cases this
        · exact h
      have earlier : ∀ j u, j < i → listed.getD j false = false → ts[j]? = some u → meetOk (rwN u) (rwN ts[i]) = true := by
        intro j u hij hLj hu
        rcases pairsOk_spec hpair i j hit' hij (rwN u) (rwN ts[i]) _ (by simp [hu]) (by simp [hti]) (hpl i _ ho) with h | h
        · have := hclosed i _ ho hpreds j (by rw [List.getD_eq_getElem?_getD, hpl i _ ho]; exact h)
          rw [hLj] at this; cases this
        · exact h
      have hreads : Reads ts[i].1 σL := by
        intro p hp
        rw [hlook p.1, part_reads hLi (fun j u hj hLj hu => by
          have := earlier j u hj hLj hu
          simp only [meetOk, Bool.and_eq_true] at this
          exact apart_rd this.1.2 hp) (fun j u hj hLj hu => by
          have := later j u hj hLj hu
          simp only [meetOk, Bool.and_eq_true] at this
          exact rd_apart this.2 hp), show min ts.length i = i by omega, part_all ts σ p.1 _ i (by omega) (fun _ _ => rfl)]
        exact readsAll_at ts σ hr i _ hti p hp
      refine ⟨o, ts[i], ho, hti, by omega, hLi, hreads, fun k o' ho' hk i' hi' => ?_, hset, fun l => ?_⟩
      · rw [hset] at hk ⊢
        by_cases e : i' = i
        · rw [if_pos e]
        · rw [if_neg e]
          by_cases e2 : k = i
          · subst e2; rw [ho] at ho'; cases ho'; exact hpreds i' hi'
          · rw [if_neg e2] at hk; exact hcl k o' ho' hk i' hi'
      · rw [look_upds, part_set hti hLi hset (fun j u hj hLj hu hne => by
          have := later j u hj hLj hu
          simp only [meetOk, Bool.and_eq_true] at this
          exact wr_apart this.1.1 hne) ts.length, if_pos hit', hlook l]
        cases wr ts[i].2 l <;> rfl
  intro fuel
  induction fuel with
  | zero =>
    intro listed σL ι S a w hsz hlook hw hcl hcount
    obtain ⟨h1, h2⟩ := main 0 listed σL ι S a w hsz hlook hw hcl
    have hnil : Region.ready .any ops listed = [] := by
      apply List.eq_nil_iff_forall_not_mem.2
      intro i hi
      obtain ⟨o, t, ho, ht, hlt, hLi, _⟩ := h2 i hi
      have : i ∈ (List.range ops.size).filter fun i => !listed.getD i false := List.mem_filter.2 ⟨List.mem_range.2 hlt, by rw [hLi]; rfl⟩
      rw [List.eq_nil_of_length_eq_zero (by omega : ((List.range ops.size).filter fun i => !listed.getD i false).length = 0)] at this
      cases this
    exact ⟨hnil, h1 hnil⟩
  | succ fuel ih =>
    intro listed σL ι S a w hsz hlook hw hcl hcount
    obtain ⟨h1, h2⟩ := main 0 listed σL ι S a w hsz hlook hw hcl
    refine ⟨h1, fun i hi => ?_⟩
    obtain ⟨o, t, ho, ht, hlt, hLi, hreads, hcl', hset, hlook'⟩ := h2 i hi
    unfold wpOp
    rw [ho]
    refine hit i o t ho ht cx σL ι S a w hreads hw (hf o (by have := Array.mem_of_getElem? ho; simpa using this)) _ Q fun ι' S' a' w' hw' => ?_
    exact ih (listed.setIfInBounds i true) (upds σL t.2) ι' S' a' w' (by simpa using hsz) hlook' hw' hcl' (by
      have := filter_drop (N := ops.size) (L := fun j => listed.getD j false) (L' := fun j => (listed.setIfInBounds i true).getD j false) hlt hLi hset
      omega)
end
end Go.Ab
