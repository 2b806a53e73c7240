/- Ab, part M: regions: in the text's order; and in any order that the edges let, where unordered operations do not meet. -/
import Derived.Test.YtlkfibmjdigmiabAbL
namespace Go.Ab
open Go Go.RowKit
set_option linter.unusedVariables false
set_option linter.unusedSimpArgs false

theorem RW.congr {cx : Cx} {σ σ' : St} {ι : Nat → Value} {S : Nat → Prop} {a : Act} {w : World} (h : RW cx σ ι S a w) (he : ∀ l, look σ' l = look σ l) : RW cx σ' ι S a w := by
  have st : Step σ ι S w σ' ι S w := ⟨fun _ h => h, fun _ _ => rfl, fun o k hk => ⟨k, by rw [he]; exact hk, Evo.refl' _ _⟩⟩
  have hm : ∀ o b, Mut σ' ι o b ↔ Mut σ ι o b := fun o b => by unfold Mut; rw [he]
  exact ⟨⟨fun s x hx => SlotR.step st (h.vr.slots s x (by rw [← he]; exact hx)), fun o k hk => OR.step st (fun _ _ => rfl) (h.vr.objs o k (by rw [← he]; exact hk)),
    fun o b q => h.vr.mutS o b ((hm o b).1 q), fun o o' b q q' => h.vr.inj o o' b ((hm o b).1 q) ((hm o' b).1 q'), h.vr.sz⟩, h.size, h.defers, h.fr, fun o b q => h.own o b ((hm o b).1 q), h.rd,
    fun o k hk => by obtain ⟨k', q1, q2⟩ := h.io o k hk; exact ⟨k', by rw [he]; exact q1, q2⟩⟩

abbrev Trip := List (Loc × Option K) × List (Loc × K)
/-- The operation, with its guard as the region has it, does what its triple says. -/
def ItT (P : Program) (ops : Array Oper) (o : Oper) (tr : Trip) : Prop :=
  ∀ (cx : Cx) (σ : St) (ι : Nat → Value) (S : Nat → Prop) (a : Act) (w : World), Reads tr.1 σ → RW cx σ ι S a w → (∀ d, o.dst = some d → d < cx.N) →
    ∀ (next : Act → World → Prop) (Q : Exit → Act → World → Prop), (∀ ι' S' a' w', RW cx (upds σ tr.2) ι' S' a' w' → next a' w') →
      if Region.wanted o (yielded ops a.tmps) then o.wp P a w next Q ∨ (o.asks P a w ∧ LetsOut Q) else next (a.put o.dst undef) w
theorem it_plain {P : Program} {ops : Array Oper} {o : Oper} {R : List (Loc × Option K)} {W : List (Loc × K)} (hg : o.guard = none) (h : OpT P o R W) : ItT P ops o (R, W) := by
  intro cx σ ι S a w hr hw hb next Q hn
  rw [if_pos (by simp [Region.wanted, hg])]
  exact .inl (h cx σ ι S a w hr hw hb next Q hn)
theorem yielded_of {cx : Cx} {σ : St} {ι : Nat → Value} {S : Nat → Prop} {a : Act} {w : World} (hw : RW cx σ ι S a w) {ops : Array Oper} {j s : Nat} (hs : (ops[j]?).bind (·.dst) = some s) {x : Bool} (hl : look σ (.t s) = some (.v (B x))) :
    yielded ops a.tmps j = some x := by
  have h1 := hw.vr.slots s _ hl
  simp only [SlotR, VaR, ER, CR] at h1
  have h2 : tmpsOf a s = .bool x := by generalize tmpsOf a s = v at h1; cases h1; rfl
  have h3 : a.tmps[s]? = some (.bool x) := by
    unfold tmpsOf at h2
    rw [Array.getD_eq_getD_getElem?] at h2
    cases hq : a.tmps[s]? with
    | none => rw [hq] at h2; simp [undef] at h2
    | some v => rw [hq] at h2; simp at h2; rw [h2]
  simp [yielded, hs, h3]
theorem it_guard {P : Program} {ops : Array Oper} {o : Oper} {R : List (Loc × Option K)} {W : List (Loc × K)} {j s : Nat} {x : Bool} (hg : o.guard = some (j, x)) (hs : (ops[j]?).bind (·.dst) = some s) (h : OpT P o R W) : ItT P ops o ((.t s, some (.v (B x))) :: R, W) := by
  intro cx σ ι S a w hr hw hb next Q hn
  have hy := yielded_of hw hs (hr (.t s, some (.v (B x))) (by simp))
  rw [if_pos (by simp [Region.wanted, hg, hy])]
  exact .inl (h cx σ ι S a w (fun p hp => hr p (List.mem_cons_of_mem _ hp)) hw hb next Q hn)
theorem it_skip {P : Program} {ops : Array Oper} {o : Oper} {j s : Nat} {x : Bool} (hg : o.guard = some (j, x)) (hs : (ops[j]?).bind (·.dst) = some s) {W : List (Loc × K)} (hW : W = match o.dst with | some d => [(.t d, .dead)] | none => []) :
    ItT P ops o ([(.t s, some (.v (B (!x))))], W) := by
  intro cx σ ι S a w hr hw hb next Q hn
  have hy := yielded_of hw hs (hr (.t s, some (.v (B (!x)))) (by simp))
  rw [if_neg (by simp [Region.wanted, hg, hy])]
  subst hW
  cases hd : o.dst with
  | none => rw [hd] at hn; exact hn ι S a w hw
  | some d => rw [hd] at hn; exact hn ι S _ w (hw.putDead (hb d hd) _)

/-! the text's order -/
def runAll : List Trip → St → St
  | [], σ => σ
  | t :: r, σ => runAll r (upds σ t.2)
def ReadsAll : List Trip → St → Prop
  | [], _ => True
  | t :: r, σ => Reads t.1 σ ∧ ReadsAll r (upds σ t.2)
def ItAll (P : Program) (ops : Array Oper) : List Oper → List Trip → Prop
  | [], [] => True
  | o :: os, t :: ts => ItT P ops o t ∧ ItAll P ops os ts
  | _, _ => False
def fitOps (N : Nat) (l : List Oper) : Bool := l.all fun o => match o.dst with | some d => decide (d < N) | none => true
theorem fit_of {N : Nat} {l : List Oper} (h : fitOps N l = true) {o : Oper} (ho : o ∈ l) : ∀ d, o.dst = some d → d < N := by
  intro d hd
  have := List.all_eq_true.1 h o ho
  rw [hd] at this
  simpa using this
theorem text_order {P : Program} {ops : Array Oper} {cx : Cx} {Q : Exit → Act → World → Prop} : ∀ (l : List Oper) (ts : List Trip) (σ : St) (ι : Nat → Value) (S : Nat → Prop) (a : Act) (w : World), ItAll P ops l ts → ReadsAll ts σ → RW cx σ ι S a w → (∀ o ∈ l, ∀ d, o.dst = some d → d < cx.N) →
    (∀ ι' S' a' w', RW cx (runAll ts σ) ι' S' a' w' → Q .normal a' w') → wpList P ops Q l a w
  | [], [], σ, ι, S, a, w, _, _, hw, _, hq => hq ι S a w hw
  | o :: os, t :: ts, σ, ι, S, a, w, hi, hr, hw, hf, hq => by
    unfold wpList
    exact hi.1 cx σ ι S a w hr.1 hw (hf o (List.mem_cons_self ..)) _ Q fun ι' S' a' w' hw' => text_order os ts _ ι' S' a' w' hi.2 hr.2 hw' (fun o ho => hf o (List.mem_cons_of_mem _ ho)) hq
  | [], _ :: _, _, _, _, _, _, hi, _, _, _, _ => hi.elim
  | _ :: _, [], _, _, _, _, _, hi, _, _, _, _ => hi.elim

/-! any order -/
/-- What the writes leave in a place, if they touch it. -/
def wr : List (Loc × K) → Loc → Option K
  | [], _ => none
  | p :: r, l => match wr r l with
    | some k => some k
    | none => if p.1 = l then some p.2 else none
theorem look_upds : ∀ (W : List (Loc × K)) (σ : St) (l : Loc), look (upds σ W) l = match wr W l with | some k => some k | none => look σ l
  | [], σ, l => rfl
  | p :: r, σ, l => by
    unfold upds wr
    rw [look_upds r]
    cases wr r l with
    | some k => rfl
    | none =>
      rw [look_upd]
      by_cases h : p.1 = l
      · simp [h]
      · simp [h]
theorem wr_none {W : List (Loc × K)} {l : Loc} (h : l ∉ W.map (·.1)) : wr W l = none := by
  induction W with
  | nil => rfl
  | cons p r ih =>
    simp at h
    unfold wr
    rw [ih (by simpa using h.2), if_neg (fun e => h.1 e.symm)]
theorem wr_some {W : List (Loc × K)} {l : Loc} (h : l ∈ W.map (·.1)) : ∃ k, wr W l = some k := by
  induction W with
  | nil => simp at h
  | cons p r ih =>
    unfold wr
    cases hq : wr r l with
    | some k => exact ⟨k, rfl⟩
    | none =>
      simp only [List.map_cons, List.mem_cons] at h
      rcases h with h | h
      · exact ⟨p.2, by rw [if_pos h.symm]⟩
      · obtain ⟨k, hk⟩ := ih h; rw [hq] at hk; cases hk
/-- What stands in a place behind those of the first n triples that are listed, in the text's order. -/
def part (ts : List Trip) (L : Nat → Bool) (σ : St) (l : Loc) : Nat → Option K
  | 0 => look σ l
  | n + 1 => if L n = true then (match ts[n]? with
      | some t => (match wr t.2 l with | some k => some k | none => part ts L σ l n)
      | none => part ts L σ l n) else part ts L σ l n

theorem runAll_append : ∀ (ts us : List Trip) (σ : St), runAll (ts ++ us) σ = runAll us (runAll ts σ)
  | [], us, σ => rfl
  | t :: ts, us, σ => by simp only [List.cons_append, runAll]; exact runAll_append ts us _
theorem part_all (ts : List Trip) (σ : St) (l : Loc) (L : Nat → Bool) : ∀ n, n ≤ ts.length → (∀ i, i < n → L i = true) → part ts L σ l n = look (runAll (ts.take n) σ) l
  | 0, _, _ => by simp [part, runAll]
  | n + 1, hn, hL => by
    have hlt : n < ts.length := hn
    unfold part
    rw [if_pos (hL n (by omega)), part_all ts σ l L n (by omega) (fun i hi => hL i (by omega)), List.getElem?_eq_getElem hlt, List.take_succ_eq_append_getElem hlt, runAll_append]
    simp only [runAll]
    rw [look_upds]
theorem readsAll_at : ∀ (ts : List Trip) (σ : St), ReadsAll ts σ → ∀ (i : Nat) t, ts[i]? = some t → Reads t.1 (runAll (ts.take i) σ)
  | t :: ts, σ, h, i, u, hu => by
    cases i with
    | zero => simp at hu; subst hu; exact h.1
    | succ i => simp only [List.take_succ_cons, runAll]; exact readsAll_at ts _ h.2 i u (by simpa using hu)

def locN : Loc → Nat
  | .t s => 2 * s
  | .o n => 2 * n + 1
theorem locN_inj {l m : Loc} (h : locN l = locN m) : l = m := by
  cases l <;> cases m <;> simp only [locN] at h
  · congr 1; omega
  · omega
  · omega
  · congr 1; omega
def memN (x : Nat) : List Nat → Bool
  | [] => false
  | y :: r => Nat.beq x y || memN x r
def apartN : List Nat → List Nat → Bool
  | [], _ => true
  | x :: r, ys => !memN x ys && apartN r ys
theorem memN_iff {x : Nat} : ∀ {ys : List Nat}, memN x ys = true ↔ x ∈ ys
  | [] => by simp [memN]
  | y :: r => by simp [memN, memN_iff (ys := r), Nat.beq_eq_true_eq]
theorem apartN_spec : ∀ {xs ys : List Nat}, apartN xs ys = true → ∀ x ∈ xs, x ∉ ys
  | [], _, _, x, hx => by simp at hx
  | z :: r, ys, h, x, hx => by
    simp only [apartN, Bool.and_eq_true, Bool.not_eq_true'] at h
    rcases List.mem_cons.1 hx with rfl | hx
    · intro hm; rw [memN_iff.2 hm] at h; cases h.1
    · exact apartN_spec h.2 x hx
def preds (o : Oper) : List Nat := (o.after.toList.filter (Region.binds .any)).map (·.on)
def precs : List Oper → List (List Nat) → List (List Nat)
  | [], acc => acc
  | o :: os, acc => precs os (acc ++ [(preds o).flatMap fun i => i :: acc.getD i []])
abbrev RWN := List Nat × List Nat
def rwN (t : Trip) : RWN := (t.1.map fun p => locN p.1, t.2.map fun p => locN p.1)
def meetOk (x y : RWN) : Bool := apartN x.2 y.2 && apartN x.2 y.1 && apartN x.1 y.2
def pairsOk (ns : List RWN) (pl : List (List Nat)) : Nat → Bool
  | 0 => true
  | k + 1 => (match ns[k]?, pl[k]? with
    | some y, some pk => (List.range k).all fun i => memN i pk || (match ns[i]? with | some x => meetOk x y | none => true)
    | _, _ => true) && pairsOk ns pl k
def edgesOk : Nat → List Oper → Bool
  | _, [] => true
  | k, o :: os => (preds o).all (fun i => decide (i < k)) && edgesOk (k + 1) os
def orderOk (l : List Oper) (ts : List Trip) : Bool := edgesOk 0 l && pairsOk (ts.map rwN) (precs l []) ts.length

theorem edgesOk_spec : ∀ (k : Nat) (l : List Oper), edgesOk k l = true → ∀ (j : Nat) o, l[j]? = some o → ∀ i ∈ preds o, i < k + j
  | k, [], h, j, o', ho, i, hi => by simp at ho
  | k, o :: os, h, j, o', ho, i, hi => by
    simp only [edgesOk, Bool.and_eq_true, List.all_eq_true, decide_eq_true_eq] at h
    cases j with
    | zero => simp at ho; subst ho; exact h.1 i hi
    | succ j => have := edgesOk_spec (k + 1) os h.2 j o' (by simpa using ho) i hi; omega
theorem precs_length : ∀ (l : List Oper) (acc : List (List Nat)), (precs l acc).length = acc.length + l.length
  | [], acc => rfl
  | o :: os, acc => by rw [precs, precs_length os]; simp; omega
theorem precs_prefix : ∀ (l : List Oper) (acc : List (List Nat)) (i : Nat), i < acc.length → (precs l acc)[i]? = acc[i]?
  | [], acc, i, h => rfl
  | o :: os, acc, i, h => by
    rw [precs, precs_prefix os _ i (by simp; omega), List.getElem?_append_left h]
theorem precs_at : ∀ (l : List Oper) (acc : List (List Nat)) (j : Nat) o, l[j]? = some o → (edgesOk acc.length l = true) →
    (precs l acc)[acc.length + j]? = some ((preds o).flatMap fun i => i :: (precs l acc).getD i [])
  | [], acc, j, o', ho, he => by simp at ho
  | o :: os, acc, j, o', ho, he => by
    have hb := edgesOk_spec _ _ he
    simp only [edgesOk, Bool.and_eq_true] at he
    rw [precs]
    cases j with
    | zero =>
      simp at ho; subst ho
      rw [precs_prefix os _ _ (by simp), Nat.add_zero, List.getElem?_append_right (Nat.le_refl _)]
      simp only [Nat.sub_self, List.getElem?_cons_zero, Option.some.injEq]
      have hp : ∀ i ∈ preds o, acc.getD i [] = (precs os (acc ++ [(preds o).flatMap fun i => i :: acc.getD i []])).getD i [] := by
        intro i hi
        have hlt := hb 0 o (by simp) i hi
        rw [List.getD_eq_getElem?_getD, List.getD_eq_getElem?_getD, precs_prefix os _ i (by simp; omega), List.getElem?_append_left (by omega)]
      have : ∀ (l : List Nat), (∀ i ∈ l, i ∈ preds o) → (l.flatMap fun i => i :: acc.getD i []) = l.flatMap fun i => i :: (precs os (acc ++ [(preds o).flatMap fun i => i :: acc.getD i []])).getD i [] := by
        intro l
        induction l with
        | nil => intro _; rfl
        | cons x l ih =>
          intro h
          rw [List.flatMap_cons, List.flatMap_cons, ih (fun i hi => h i (List.mem_cons_of_mem _ hi)), hp x (h x (List.mem_cons_self ..))]
      exact this _ (fun i hi => hi)
    | succ j =>
      have := precs_at os (acc ++ [(preds o).flatMap fun i => i :: acc.getD i []]) j o' (by simpa using ho) (by simpa using he.2)
      simp only [List.length_append, List.length_cons, List.length_nil, Nat.zero_add] at this
      rw [show acc.length + (j + 1) = acc.length + 1 + j by omega]
      exact this
theorem pairsOk_spec {ns : List RWN} {pl : List (List Nat)} : ∀ {n : Nat}, pairsOk ns pl n = true → ∀ k i, k < n → i < k → ∀ x y pk, ns[i]? = some x → ns[k]? = some y → pl[k]? = some pk → i ∈ pk ∨ meetOk x y = true
  | n + 1, h, k, i, hk, hi, x, y, pk, hx, hy, hp => by
    simp only [pairsOk, Bool.and_eq_true] at h
    by_cases e : k = n
    · subst e
      have h1 := h.1
      rw [hy, hp] at h1
      have h2 := List.all_eq_true.1 h1 i (List.mem_range.2 hi)
      rw [hx] at h2
      simp only [Bool.or_eq_true] at h2
      exact h2.imp memN_iff.1 id
    · exact pairsOk_spec h.2 k i (by omega) hi x y pk hx hy hp
end Go.Ab
