/- Ab, part Q: every operation at once; a region's run; the rules for code. -/
import Derived.Test.YtlkfibmjdigmiabAbP
namespace Go.Ab
open Go Go.RowKit
set_option linter.unusedVariables false
set_option linter.unusedSimpArgs false

def fNil (σ0 : St) : V → Option (Prop × List (Loc × Option K) × V) := fun X => match X with
  | .e (.c (.pt ob k)) => match look σ0 (.o ob) with
    | some (.box ty cs) => some (True, [(.o ob, some (.box ty cs))], .e (.c (.pt ob k)))
    | _ => none
  | _ => none
def fLenT (T : Tab) (σ0 : St) (t : TypeId) : V → Option (Prop × List (Loc × Option K) × V) := fun X => match T t with
  | some ti => match ti.kind, X with
      | .str, .e (.c (.d (.s l))) => fLen σ0 (.e (.c (.d (.s l))))
      | .sl _, .e (.c (.d (.sl rows))) => fLen σ0 (.e (.c (.d (.sl rows))))
      | .sl _, .e (.c .nil) => fLen σ0 (.e (.c .nil))
      | .sl _, .e (.c (.own ob n)) => fLen σ0 (.e (.c (.own ob n)))
      | _, _ => none
  | none => none
def aCall (T : Tab) (σ : St) (c : Call) (d : Option Tmp) : Res :=
  match c.callee, c.args.toList, c.argTypes.toList with
  | .builtin .len, [x], [t] => lift1 σ x d (fLenT T σ t)
  | .builtin .append, [x, y], [t, t2] => aAppend T σ t t2 x y d
  | .builtin .min, [x, y], _ => lift2 σ x y d fMin
  | .builtin .max, [x, y], _ => lift2 σ x y d fMax
  | _, _, _ => none
def astep (T : Tab) (o : Oper) (σ : St) : Res :=
  match o.op with
  | .move x => lift1 σ x o.dst fId
  | .assign x => lift1 σ x o.dst fId
  | .pick c x y => aPick σ c x y o.dst
  | .box e x => aBox σ e x o.dst
  | .alloc e => aAlloc T σ e o.dst
  | .build t ps => aBuild T σ t ps.toList o.dst
  | .buildSlice t n ps => aBuildSlice T σ t n ps.toList o.dst
  | .load t x => lift1 σ x o.dst (fLoad T σ t)
  | .store t x y => aStore T σ t x y o.dst
  | .nilCheck x => lift1 σ x o.dst (fNil σ)
  | .binOp op t x y u => lift2 σ x y o.dst (fBin op)
  | .unOp u t x => lift1 σ x o.dst (fUn u)
  | .convert s t x => match T s with
    | some _ => lift1 σ x o.dst (fConv T t)
    | none => none
  | .makeSlice t x y => aMake T σ t x y o.dst
  | .slice t x lo hi mx => aSlice T σ t x lo hi mx o.dst
  | .fieldAddr s x f => lift1 σ x o.dst (fFieldAddr T σ s f)
  | .field s x f => lift1 σ x o.dst (fField T s f)
  | .indexAddr t x y => lift2 σ x y o.dst (fIndexAddr T σ t)
  | .index t x y => match T t with
    | some ⟨.str, _, _, _⟩ => lift2 σ x y o.dst fIdxS
    | _ => none
  | .extract x i => lift1 σ x o.dst (fExtract i)
  | .call c => aCall T σ c o.dst
  | _ => none
theorem good_none {P : Program} {o : Oper} {σ : St} : Good P o σ none := fun p R W h => by cases h
theorem good_call {P : Program} {T : Tab} (hT : TabOk P T) {o : Oper} {σ : St} {c : Call} (ho : o.op = .call c) : Good P o σ (aCall T σ c o.dst) := by
  obtain ⟨callee, args, argTypes⟩ := c
  unfold aCall
  dsimp only
  split
  · rename_i x t ha hat
    obtain rfl : args = #[x] := Array.toList_inj.1 (by simpa using ha)
    obtain rfl : argTypes = #[t] := Array.toList_inj.1 (by simpa using hat)
    cases ht : T t with
    | none =>
      intro p R W h
      unfold lift1 at h
      split at h <;> try (cases h; done)
      simp [fLenT, ht] at h
    | some ti =>
      by_cases hk : ti.kind = .str ∨ ∃ e, ti.kind = .sl e
      · have := good_len hT (σ0 := σ) ho ht hk
        have e : fLenT T σ t = fun X => match ti.kind, X with
          | .str, .e (.c (.d (.s l))) => fLen σ (.e (.c (.d (.s l))))
          | .sl _, .e (.c (.d (.sl rows))) => fLen σ (.e (.c (.d (.sl rows))))
          | .sl _, .e (.c .nil) => fLen σ (.e (.c .nil))
          | .sl _, .e (.c (.own ob n)) => fLen σ (.e (.c (.own ob n)))
          | _, _ => none := by funext X; simp [fLenT, ht]
        rw [e]; exact this
      · intro p R W h
        unfold lift1 at h
        split at h <;> try (cases h; done)
        rename_i X R' d' _ _
        have : fLenT T σ t X = none := by
          simp only [fLenT, ht]
          split <;> first | rfl | (exfalso; apply hk; first | exact .inl ‹_› | exact .inr ⟨_, ‹_›⟩)
        rw [this] at h; cases h
  · rename_i x y t t2 ha hat
    obtain rfl : args = #[x, y] := Array.toList_inj.1 (by simpa using ha)
    obtain rfl : argTypes = #[t, t2] := Array.toList_inj.1 (by simpa using hat)
    exact good_append hT ho
  · rename_i x y ha
    obtain rfl : args = #[x, y] := Array.toList_inj.1 (by simpa using ha)
    exact good_min ho
  · rename_i x y ha
    obtain rfl : args = #[x, y] := Array.toList_inj.1 (by simpa using ha)
    exact good_max ho
  · exact good_none
theorem good_astep {P : Program} {T : Tab} (hT : TabOk P T) (o : Oper) (σ : St) : Good P o σ (astep T o σ) := by
  unfold astep
  split
  case h_1 x ho => exact good_move (.inl ho)
  case h_2 x ho => exact good_move (.inr ho)
  case h_3 ho => exact good_pick ho
  case h_4 ho => exact good_box ho
  case h_5 ho => exact good_alloc hT ho
  case h_6 ho => exact good_build hT ho
  case h_7 ho => exact good_buildSlice hT ho
  case h_8 ho => exact good_load hT ho
  case h_9 ho => exact good_store hT ho
  case h_10 ho => exact good_nilCheck (T := T) ho
  case h_11 ho => exact good_bin ho
  case h_12 ho => exact good_un ho
  case h_13 ho =>
    split
    · rename_i h; exact good_conv hT ho (by rw [h]; rfl)
    · exact good_none
  case h_14 ho => exact good_make hT ho
  case h_15 ho => exact good_slice hT ho
  case h_16 ho => exact good_fieldAddr hT ho
  case h_17 ho => exact good_field hT ho
  case h_18 ho => exact good_indexAddr hT ho
  case h_19 ho =>
    split
    · rename_i h; exact good_idxS hT ho h rfl
    · exact good_none
  case h_20 ho => exact good_extract ho
  case h_21 ho => exact good_call hT ho
  case h_22 => exact good_none

/-! a region's run -/
def stepG (P : Program) (T : Tab) (o : Oper) (σ : St) (k : List (Loc × Option K) → List (Loc × K) → Prop) : Prop :=
  match astep T o σ with
  | some (p, R, W) => p ∧ k R W
  | none => ∃ R W, OpT P o R W ∧ Reads R σ ∧ k R W
theorem stepG_sound {P : Program} {T : Tab} (hT : TabOk P T) {o : Oper} {σ : St} {k : List (Loc × Option K) → List (Loc × K) → Prop} (h : stepG P T o σ k) : ∃ R W, OpT P o R W ∧ Reads R σ ∧ k R W := by
  unfold stepG at h
  split at h
  · rename_i p R W he
    obtain ⟨h1, h2⟩ := good_astep hT o σ p R W he h.1
    exact ⟨R, W, h1, h2, h.2⟩
  · exact h
def skipW (o : Oper) : List (Loc × K) := match o.dst with | some d => [(.t d, .dead)] | none => []
def goR (P : Program) (T : Tab) (ops : List Oper) : List Oper → St → List RWN → (St → List RWN → Prop) → Prop
  | [], σ, acc, k => k σ acc
  | o :: os, σ, acc, k => match o.guard with
    | none => stepG P T o σ fun R W => goR P T ops os (upds σ W) (acc ++ [rwN (R, W)]) k
    | some (j, want) => match (ops[j]?).bind (·.dst) with
      | some s => match look σ (.t s) with
        | some (.v (.e (.c (.d (.b x))))) =>
          (x = want → stepG P T o σ fun R W => goR P T ops os (upds σ W) (acc ++ [rwN ((.t s, none) :: R, W)]) k) ∧
          (x = !want → goR P T ops os (upds σ (skipW o)) (acc ++ [rwN ([(.t s, none)], skipW o)]) k)
        | _ => False
      | none => False
theorem goR_sound {P : Program} {T : Tab} (hT : TabOk P T) {ops : Array Oper} {k : St → List RWN → Prop} : ∀ (l : List Oper) (σ : St) (acc : List RWN), goR P T ops.toList l σ acc k →
    ∃ ts : List Trip, ItAll P ops l ts ∧ ReadsAll ts σ ∧ k (runAll ts σ) (acc ++ ts.map rwN)
  | [], σ, acc, h => ⟨[], trivial, trivial, by simpa [goR, runAll] using h⟩
  | o :: os, σ, acc, h => by
    simp only [goR] at h
    split at h
    · rename_i hg
      obtain ⟨R, W, h1, h2, h3⟩ := stepG_sound hT h
      obtain ⟨ts, q1, q2, q3⟩ := goR_sound hT os _ _ h3
      exact ⟨(R, W) :: ts, ⟨it_plain hg h1, q1⟩, ⟨h2, q2⟩, by simpa [runAll] using q3⟩
    · rename_i j want hg
      split at h <;> try (exact h.elim)
      rename_i s hs
      split at h <;> try (exact h.elim)
      rename_i x hl
      have hs' : (ops[j]?).bind (·.dst) = some s := by simpa using hs
      by_cases hx : x = want
      · subst hx
        obtain ⟨R, W, h1, h2, h3⟩ := stepG_sound hT (h.1 rfl)
        obtain ⟨ts, q1, q2, q3⟩ := goR_sound hT os _ _ h3
        refine ⟨((.t s, some (.v (B x))) :: R, W) :: ts, ⟨it_guard hg hs' h1, q1⟩, ⟨fun p hp => ?_, q2⟩, by simpa [runAll, rwN] using q3⟩
        rcases List.mem_cons.1 hp with rfl | hp
        · exact hl
        · exact h2 p hp
      · have hx' : x = !want := by cases x <;> cases want <;> simp_all
        obtain ⟨ts, q1, q2, q3⟩ := goR_sound hT os _ _ (h.2 hx')
        subst hx'
        refine ⟨([(.t s, some (.v (B (!want))))], skipW o) :: ts, ⟨it_skip hg hs' rfl, q1⟩, ⟨Reads.one hl, q2⟩, by simpa [runAll, rwN] using q3⟩
def orderN (l : List Oper) (ns : List RWN) : Bool := edgesOk 0 l && pairsOk ns (precs l []) ns.length

/-! code -/
inductive Ex where
  | norm
  | exit (id : Nat)
  | ret
def liftQ (cx : Cx) (Q : Ex → St → Prop) : Exit → Act → World → Prop
  | .normal, a, w => ∃ σ ι S, Q .norm σ ∧ RW cx σ ι S a w
  | .exit id, a, w => ∃ σ ι S, Q (.exit id) σ ∧ RW cx σ ι S a w
  | .ret, a, w => ∃ σ ι S, Q .ret σ ∧ RW cx σ ι S a w
  | _, _, _ => False
def fits (N : Nat) : Code → Bool
  | .region _ ops _ => fitOps N ops.toList
  | .seq a b => fits N a && fits N b
  | .cond _ a b => fits N a && fits N b
  | .block _ c => fits N c
  | .loop c => fits N c
  | .skip | .exit _ | .ret => true
  | _ => false
def SW (P : Program) (io : List Nat) (c : Code) (Q : Ex → St → Prop) (σ : St) : Prop := ∀ cx ι S a w, (∀ o k, cx.k0 o = some k → o ∈ io) → RW cx σ ι S a w → fits cx.N c = true → c.wp P (liftQ cx Q) a w
theorem SW.mono {P : Program} {io : List Nat} {c : Code} {Q Q' : Ex → St → Prop} {σ : St} (hq : ∀ e s, Q e s → Q' e s) (h : SW P io c Q σ) : SW P io c Q' σ := fun cx ι S a w hio hw hf =>
  wp_mono (h cx ι S a w hio hw hf) fun e a w hq' => by
    cases e <;> simp only [liftQ] at hq' ⊢ <;> (obtain ⟨σ, ι, S, h1, h2⟩ := hq'; exact ⟨σ, ι, S, hq _ _ h1, h2⟩)
section
variable {P : Program} {io : List Nat} {Q : Ex → St → Prop} {σ : St}
theorem SW.skip (h : Q .norm σ) : SW P io .skip Q σ := fun cx ι S a w hio hw _ => wp_skip ⟨σ, ι, S, h, hw⟩
theorem SW.exit {id : Nat} (h : Q (.exit id) σ) : SW P io (.exit id) Q σ := fun cx ι S a w hio hw _ => wp_exit ⟨σ, ι, S, h, hw⟩
theorem SW.ret (h : Q .ret σ) : SW P io .ret Q σ := fun cx ι S a w hio hw _ => wp_ret ⟨σ, ι, S, h, hw⟩
def thenQ (k : St → Prop) (Q : Ex → St → Prop) : Ex → St → Prop
  | .norm, s => k s
  | e, s => Q e s
theorem SW.seq {x y : Code} (h : SW P io x (thenQ (SW P io y Q) Q) σ) : SW P io (.seq x y) Q σ := fun cx ι S a w hio hw hf => by
  simp only [fits, Bool.and_eq_true] at hf
  refine wp_seq (wp_mono (h cx ι S a w hio hw hf.1) fun e a' w' hq => ?_)
  cases e <;> simp only [liftQ, thenQ, Exit.then] at hq ⊢
  · obtain ⟨σ', ι', S', h1, h2⟩ := hq
    exact h1 cx ι' S' a' w' hio h2 hf.2
  · exact hq
  · exact hq
theorem SW.cond {c : Operand} {x y : Code} {t : Bool} {R : List (Loc × Option K)} (hc : ev σ c = some (B t, R)) (h1 : t = true → SW P io x Q σ) (h2 : t = false → SW P io y Q σ) : SW P io (.cond c x y) Q σ := fun cx ι S a w hio hw hf => by
  simp only [fits, Bool.and_eq_true] at hf
  have hv := ev_sound hc (ev_reads hc) hw
  simp only [VaR, ER, CR] at hv
  have he : a.eval c = .bool t := by generalize a.eval c = v at hv; cases hv; rfl
  exact wp_cond_split he (fun h => h1 h cx ι S a w hio hw hf.1) (fun h => h2 h cx ι S a w hio hw hf.2)
def blockQ (id : Nat) (Q : Ex → St → Prop) : Ex → St → Prop
  | .exit i, s => if i = id then Q .norm s else Q (.exit i) s
  | e, s => Q e s
theorem SW.block {id : Nat} {c : Code} (h : SW P io c (blockQ id Q) σ) : SW P io (.block id c) Q σ := fun cx ι S a w hio hw hf => by
  refine wp_block (wp_mono (h cx ι S a w hio hw (by simpa [fits] using hf)) fun e a' w' hq => ?_)
  cases e <;> simp only [liftQ, blockQ, Exit.inBlock] at hq ⊢ <;> try exact hq
  rename_i i
  obtain ⟨σ', ι', S', h1, h2⟩ := hq
  split
  · rename_i hi; rw [if_pos hi] at h1; exact ⟨σ', ι', S', h1, h2⟩
  · rename_i hi; rw [if_neg hi] at h1; exact ⟨σ', ι', S', h1, h2⟩
theorem SW.loop {c : Code} (I : Nat → St → Prop) {n : Nat} (h0 : I n σ) (hr : ∀ n s, I n s → SW P io c (thenQ (fun s' => ∃ m, m < n ∧ I m s') Q) s) : SW P io (.loop c) Q σ := fun cx ι S a w hio hw hf => by
  have hf' : fits cx.N c = true := by simpa [fits] using hf
  intro b k cs
  have key : ∀ n a w, (∃ σ ι S, I n σ ∧ RW cx σ ι S a w) → ∃ e a' w', liftQ cx Q e a' w' ∧ Arrives P (lone (b.at a (.code c :: .inLoop c :: k)) cs w) b k cs e a' w' := by
    intro n
    induction n using Nat.strongRecOn with
    | _ n ih =>
      rintro a w ⟨σ', ι', S', hI, hw'⟩
      obtain ⟨e, a₁, w₁, hq, harr⟩ := hr n σ' hI cx ι' S' a w hio hw' hf' b (.inLoop c :: k) cs
      cases e with
      | normal =>
        simp only [liftQ, thenQ] at hq
        obtain ⟨σ₁, ι₁, S₁, ⟨m, hm, hI₁⟩, hw₁⟩ := hq
        obtain ⟨e₂, a₂, w₂, hq₂, harr₂⟩ := ih m hm a₁ w₁ ⟨σ₁, ι₁, S₁, hI₁, hw₁⟩
        exact ⟨e₂, a₂, w₂, hq₂, .of_steps (Steps.trans harr (.one step_inLoop)) harr₂⟩
      | exit id => exact ⟨.exit id, a₁, w₁, hq, .pass (x := .inLoop c) rfl (fun _ _ => .inl (by simp)) harr⟩
      | goto l => exact hq.elim
      | ret => exact ⟨.ret, a₁, w₁, hq, .pass (x := .inLoop c) rfl (fun _ _ => .inl (by simp)) harr⟩
      | panic ch => exact hq.elim
      | outgrown => exact hq.elim
  obtain ⟨e, a', w', hq, harr⟩ := key n a w ⟨σ, ι, S, h0, hw⟩
  exact ⟨e, a', w', hq, .of_steps (.one step_loop) harr⟩
theorem SW.region {T : Tab} (hT : TabOk P T) (hm : P.follows .mixedOrders = true) {id : Nat} {ops : Array Oper} {draw : Bool} (h : goR P T ops.toList ops.toList σ [] fun σ' ns => (draw = true → orderN ops.toList ns = true) ∧ Q .norm σ') : SW P io (.region id ops draw) Q σ := fun cx ι S a w hio hw hf => by
  have hfit : ∀ o ∈ ops.toList, ∀ d, o.dst = some d → d < cx.N := fun o ho => fit_of (by simpa [fits] using hf) ho
  obtain ⟨ts, h1, h2, h3, h4⟩ := goR_sound hT ops.toList σ [] h
  have hlen : ∀ (l : List Oper) (ts : List Trip), ItAll P ops l ts → ts.length = l.length ∧ ∀ (i : Nat) o t, l[i]? = some o → ts[i]? = some t → ItT P ops o t := by
    intro l
    induction l with
    | nil => intro ts h; cases ts with
      | nil => exact ⟨rfl, by simp⟩
      | cons t ts => exact h.elim
    | cons o os ih => intro ts h; cases ts with
      | nil => exact h.elim
      | cons t ts =>
        obtain ⟨q1, q2⟩ := ih ts h.2
        refine ⟨by simp [q1], fun i o' t' ho ht => ?_⟩
        cases i with
        | zero => simp at ho ht; subst ho; subst ht; exact h.1
        | succ i => exact q2 i o' t' (by simpa using ho) (by simpa using ht)
  cases draw with
  | false => exact wp_region_list (text_order ops.toList ts σ ι S a w h1 h2 hw hfit fun ι' S' a' w' hw' => ⟨_, ι', S', h4, hw'⟩)
  | true =>
    obtain ⟨q1, q2⟩ := hlen _ _ h1
    have hord := h3 rfl
    simp only [List.nil_append] at hord
    refine wp_region_any hm (any_order (cx := cx) (σ := σ) (ts := ts) (by simpa using q1) (fun i o t ho ht => q2 i o t (by simpa using ho) ht) h2 (by simpa [orderOk, orderN] using hord) hfit (fun ι' S' a' w' hw' => ⟨_, ι', S', h4, hw'⟩)
      ops.size (Array.replicate ops.size false) σ ι S a _ (by simp) (fun l => ?_) hw.drew (fun k o ho hk => ?_) ?_)
    · have hL : ∀ i, (Array.replicate ops.size false).getD i false = false := fun i => by
        rw [Array.getD_eq_getD_getElem?, Array.getElem?_replicate]; split <;> rfl
      have : ∀ n, part ts (fun i => (Array.replicate ops.size false).getD i false) σ l n = look σ l := by
        intro n
        induction n with
        | zero => rfl
        | succ n ih => rw [part_succ, if_neg (by rw [hL]; simp), ih]
      rw [this]
    · rw [Array.getD_eq_getD_getElem?, Array.getElem?_replicate] at hk; split at hk <;> cases hk
    · exact Nat.le_trans (List.length_filter_le _ _) (by simp)
end
end Go.Ab
