/- Ab, part X: operations under a guard, without a fork: what they leave holds if the guard did. -/
import Derived.Test.YtlkfibmjdigmiabAbW
namespace Go.Ab
open Go Go.RowKit
set_option linter.unusedVariables false
set_option linter.unusedSimpArgs false

def gb (want x : Bool) : Bool := match want with | true => x | false => !x
/-- What must hold for the guarded operation to run. -/
def gOf (want : Bool) : Option K → Option Bool
  | some (.v (.e (.c (.d (.b x))))) => some (gb want x)
  | some (.cv _ _ b (.e (.c (.d (.b x))))) => some (b && gb want x)
  | _ => none
def assume (s : Nat) (want : Bool) : St → St
  | [] => []
  | (.t t, .cv s' want' b X) :: r => match Nat.beq s' s && (want' == want) with
    | true => (.t t, .v X) :: assume s want r
    | false => (.t t, .cv s' want' b X) :: assume s want r
  | p :: r => p :: assume s want r
def readOk (σ : St) : List (Loc × Option K) → Prop
  | [] => True
  | p :: r => match look σ p.1, p.2 with
    | some (.cv _ _ b _), some (.v _) => b = true ∧ readOk σ r
    | _, _ => readOk σ r
def actual (σ : St) (R : List (Loc × Option K)) : List (Loc × Option K) := R.map fun p => (p.1, look σ p.1)

theorem look_assume (s : Nat) (want : Bool) : ∀ (σ : St) (l : Loc), look (assume s want σ) l = look σ l ∨ ∃ s' w' b X, look σ l = some (.cv s' w' b X) ∧ look (assume s want σ) l = some (.v X)
  | [], l => .inl rfl
  | (.t t, .v X) :: r, l => by
    simp only [assume, look]
    by_cases e : Loc.t t = l
    · rw [if_pos e, if_pos e]; exact .inl rfl
    · rw [if_neg e, if_neg e]; exact look_assume s want r l
  | (.t t, .box a b) :: r, l => by
    simp only [assume, look]
    by_cases e : Loc.t t = l
    · rw [if_pos e, if_pos e]; exact .inl rfl
    · rw [if_neg e, if_neg e]; exact look_assume s want r l
  | (.t t, .row a b c) :: r, l => by
    simp only [assume, look]
    by_cases e : Loc.t t = l
    · rw [if_pos e, if_pos e]; exact .inl rfl
    · rw [if_neg e, if_neg e]; exact look_assume s want r l
  | (.t t, .dead) :: r, l => by
    simp only [assume, look]
    by_cases e : Loc.t t = l
    · rw [if_pos e, if_pos e]; exact .inl rfl
    · rw [if_neg e, if_neg e]; exact look_assume s want r l
  | (.o t, k) :: r, l => by
    simp only [assume, look]
    by_cases e : Loc.o t = l
    · rw [if_pos e, if_pos e]; exact .inl rfl
    · rw [if_neg e, if_neg e]; exact look_assume s want r l
  | (.t t, .cv s' w' b X) :: r, l => by
    simp only [assume]
    cases Nat.beq s' s && (w' == want) with
    | true =>
      simp only [look]
      by_cases e : Loc.t t = l
      · rw [if_pos e, if_pos e]; exact .inr ⟨s', w', b, X, rfl, rfl⟩
      · rw [if_neg e, if_neg e]; exact look_assume s want r l
    | false =>
      simp only [look]
      by_cases e : Loc.t t = l
      · rw [if_pos e, if_pos e]; exact .inl rfl
      · rw [if_neg e, if_neg e]; exact look_assume s want r l

/-- Slots may be told anew; the objects stand. -/
theorem RW.reslot {cx : Cx} {σ σ2 : St} {ι : Nat → Value} {S : Nat → Prop} {a : Act} {w : World} (h : RW cx σ ι S a w) (ho : ∀ o, look σ2 (.o o) = look σ (.o o)) (hs : ∀ t k, look σ2 (.t t) = some k → SlotR σ ι w S k (tmpsOf a t)) : RW cx σ2 ι S a w := by
  have st : Step σ ι S w σ2 ι S w := ⟨fun _ h => h, fun _ _ => rfl, fun o k hk => ⟨k, by rw [ho]; exact hk, Evo.refl' _ _⟩⟩
  have hmut : ∀ o b, Mut σ2 ι o b ↔ Mut σ ι o b := fun o b => by unfold Mut; rw [ho]
  exact ⟨⟨fun s x hx => SlotR.step st (hs s x hx), fun o k hk => OR.step st (fun _ _ => rfl) (h.vr.objs o k (by rw [← ho]; exact hk)), fun o b q => h.vr.mutS o b ((hmut o b).1 q), fun o o' b q q' => h.vr.inj o o' b ((hmut o b).1 q) ((hmut o' b).1 q'), h.vr.sz⟩,
    h.size, h.defers, h.fr, fun o b q => h.own o b ((hmut o b).1 q), h.rd, fun o k hk => by rw [ho]; exact h.io o k hk⟩

theorem readOk_mem {σ : St} : ∀ {R : List (Loc × Option K)}, readOk σ R → ∀ p ∈ R, ∀ s w b X Y, look σ p.1 = some (.cv s w b X) → p.2 = some (.v Y) → b = true
  | [], _, p, hp => by cases hp
  | q :: r, h, p, hp => by
    intro s w b X Y hl hy
    rcases List.mem_cons.1 hp with rfl | hp
    · simp only [readOk, hl, hy] at h; exact h.1
    · refine readOk_mem (R := r) ?_ p hp s w b X Y hl hy
      simp only [readOk] at h
      split at h
      · exact h.2
      · exact h

theorem wanted_iff {cx : Cx} {σ : St} {ι : Nat → Value} {S : Nat → Prop} {a : Act} {w : World} (hw : RW cx σ ι S a w) {ops : Array Oper} {o : Oper} {j s : Nat} {want g : Bool} (hg : o.guard = some (j, want)) (hs : (ops[j]?).bind (·.dst) = some s) (hl : gOf want (look σ (.t s)) = some g) :
    Region.wanted o (yielded ops a.tmps) = g := by
  have key : ∀ x, tmpsOf a s = .bool x → yielded ops a.tmps j = some x := by
    intro x h2
    have h3 : a.tmps[s]? = some (.bool x) := by
      unfold tmpsOf at h2
      rw [Array.getD_eq_getD_getElem?] at h2
      cases hq : a.tmps[s]? with
      | none => rw [hq] at h2; simp [undef] at h2
      | some v => rw [hq] at h2; simp at h2; rw [h2]
    simp [yielded, hs, h3]
  have keyu : tmpsOf a s = undef → yielded ops a.tmps j = none := by
    intro h2
    unfold tmpsOf at h2
    rw [Array.getD_eq_getD_getElem?] at h2
    cases hq : a.tmps[s]? with
    | none => simp [yielded, hs, hq]
    | some v => rw [hq] at h2; simp at h2; simp [yielded, hs, hq, h2, undef]
  unfold gOf at hl
  split at hl
  · rename_i x hx
    cases hl
    have h1 := hw.vr.slots s _ hx
    simp only [SlotR, VaR, ER, CR] at h1
    have h2 : tmpsOf a s = .bool x := by generalize tmpsOf a s = v at h1; cases h1; rfl
    cases want <;> cases x <;> simp [Region.wanted, hg, key _ h2, gb]
  · rename_i s' w' b x hx
    cases hl
    have h1 := hw.vr.slots s _ hx
    cases b with
    | true =>
      have h1 := h1.1 rfl
      simp only [VaR, ER, CR] at h1
      have h2 : tmpsOf a s = .bool x := by generalize tmpsOf a s = v at h1; cases h1; rfl
      cases want <;> cases x <;> simp [Region.wanted, hg, key _ h2, gb]
    | false =>
      have h2 := h1.2 rfl
      simp [Region.wanted, hg, keyu h2]
  · cases hl

theorem look_assume_o (s : Nat) (want : Bool) : ∀ (σ : St) (o : Nat), look (assume s want σ) (.o o) = look σ (.o o)
  | [], l => rfl
  | (.o t, k) :: r, l => by
    simp only [assume, look]
    rw [look_assume_o s want r l]
  | (.t t, .v X) :: r, l => by simp only [assume, look]; rw [if_neg (by simp), if_neg (by simp)]; exact look_assume_o s want r l
  | (.t t, .box a b) :: r, l => by simp only [assume, look]; rw [if_neg (by simp), if_neg (by simp)]; exact look_assume_o s want r l
  | (.t t, .row a b c) :: r, l => by simp only [assume, look]; rw [if_neg (by simp), if_neg (by simp)]; exact look_assume_o s want r l
  | (.t t, .dead) :: r, l => by simp only [assume, look]; rw [if_neg (by simp), if_neg (by simp)]; exact look_assume_o s want r l
  | (.t t, .cv s' w' b X) :: r, l => by
    simp only [assume]
    cases Nat.beq s' s && (w' == want) <;> (simp only [look]; rw [if_neg (by simp), if_neg (by simp)]; exact look_assume_o s want r l)
theorem wr_mem' : ∀ {W : List (Loc × K)} {l : Loc} {k : K}, wr W l = some k → (l, k) ∈ W
  | [], l, k, h => by cases h
  | p :: r, l, k, h => by
    unfold wr at h
    cases hq : wr r l with
    | some k' => rw [hq] at h; cases h; exact List.mem_cons_of_mem _ (wr_mem' hq)
    | none =>
      rw [hq] at h
      simp only at h
      split at h
      · rename_i e; cases h; rw [← e]; exact List.mem_cons_self ..
      · cases h
def bare (p : Loc × Option K) : Option (Loc × K) := match p.2 with
  | some (.v X) => some (p.1, .v X)
  | _ => none
theorem it_cond {P : Program} {ops : Array Oper} {o : Oper} {σ : St} {R : List (Loc × Option K)} {X : V} {d j s : Nat} {want g : Bool} (hg : o.guard = some (j, want)) (hs : (ops[j]?).bind (·.dst) = some s) (hd : o.dst = some d) (hl : gOf want (look σ (.t s)) = some g)
    (hop : g = true → OpT P o R [(.t d, .v X)] ∧ Reads R (assume s want σ)) (hok : g = true → readOk σ R) : ItT P ops o ((.t s, look σ (.t s)) :: actual σ R, [(.t d, .cv s want g X)]) := by
  intro cx σ1 ι S a w hr hw hb next Q hn
  have hls : look σ1 (.t s) = look σ (.t s) := hr (.t s, look σ (.t s)) (List.mem_cons_self ..)
  have hact : ∀ p ∈ R, look σ1 p.1 = look σ p.1 := fun p hp => hr (p.1, look σ p.1) (List.mem_cons_of_mem _ (List.mem_map.2 ⟨p, hp, rfl⟩))
  rw [wanted_iff hw hg hs (by rw [hls]; exact hl)]
  have hdN := hb d hd
  cases g with
  | false =>
    rw [if_neg (by simp)]
    rw [hd]
    have h1 := hw.putDead hdN undef
    refine hn ι S _ w (h1.reslot (fun o => by simp only [upds]; rw [look_upd_ne _ _ (by simp), look_upd_ne _ _ (by simp)]) fun t k hk => ?_)
    simp only [upds] at hk
    rw [look_upd] at hk
    split at hk
    · rename_i e; cases e; cases hk
      refine ⟨(by simp), fun _ => ?_⟩
      rw [tmpsOf_put (by rw [hw.size]; exact hdN), if_pos rfl]
    · rename_i e
      exact h1.vr.slots t k (by rw [look_upd_ne _ _ e]; exact hk)
  | true =>
    rw [if_pos rfl]
    left
    obtain ⟨hop, hrd⟩ := hop rfl
    have hok := hok rfl
    let L : List (Loc × K) := R.filterMap bare
    have hL : ∀ l k, (l, k) ∈ L → ∃ Y, k = .v Y ∧ look (assume s want σ) l = some (.v Y) ∧ look σ1 l = look σ l ∧ (look σ l = some (.v Y) ∨ ∃ s' w', look σ l = some (.cv s' w' true Y)) := by
      intro l k hm
      obtain ⟨p, hp, hpe⟩ := List.mem_filterMap.1 hm
      obtain ⟨pl, pk⟩ := p
      unfold bare at hpe
      split at hpe
      · rename_i e1 Y e2
        cases hpe
        simp only at e2 ⊢
        have h1 := hrd _ hp
        simp only at h1
        refine ⟨Y, rfl, h1.trans e2, hact _ hp, ?_⟩
        rcases look_assume s want σ pl with h3 | ⟨s2, w2, b2, X2, h3, h4⟩
        · left; rw [← h3, h1, e2]
        · rw [h4, e2] at h1; cases h1
          have := readOk_mem hok _ hp _ _ _ _ _ h3 e2
          subst this
          exact .inr ⟨_, _, h3⟩
      · cases hpe
    have hσ2 : ∀ l, look (upds σ1 L) l = look σ1 l ∨ ∃ Y s' w', look (upds σ1 L) l = some (.v Y) ∧ look σ1 l = some (.cv s' w' true Y) := by
      intro l
      rw [look_upds]
      cases hq : wr L l with
      | none => exact .inl rfl
      | some k =>
        obtain ⟨Y, rfl, h1, h2, h3⟩ := hL l k (wr_mem' hq)
        rcases h3 with h3 | ⟨s', w', h3⟩
        · left; rw [h2, h3]
        · right; exact ⟨Y, s', w', rfl, by rw [h2, h3]⟩
    have hσ2o : ∀ o, look (upds σ1 L) (.o o) = look σ1 (.o o) := by
      intro o'
      rw [look_upds]
      cases hq : wr L (.o o') with
      | none => rfl
      | some k =>
        obtain ⟨Y, rfl, h1, h2, h3⟩ := hL _ k (wr_mem' hq)
        rw [look_assume_o] at h1
        rw [h2, h1]
    have hrw2 : RW cx (upds σ1 L) ι S a w := hw.reslot hσ2o fun t k hk => by
      rcases hσ2 (.t t) with h | ⟨Y, s', w', h1, h2⟩
      · rw [h] at hk; exact hw.vr.slots t k hk
      · rw [h1] at hk; cases hk
        exact (hw.vr.slots t _ h2).1 rfl
    have hrd2 : Reads R (upds σ1 L) := by
      intro p hp
      have h1 := hrd p hp
      rw [look_upds]
      cases hq : wr L p.1 with
      | some k =>
        obtain ⟨Y, rfl, h2, _, _⟩ := hL _ k (wr_mem' hq)
        rw [← h1, h2]
      | none =>
        show look σ1 p.1 = p.2
        rw [hact p hp]
        rcases look_assume s want σ p.1 with h3 | ⟨s2, w2, b2, X2, h3, h4⟩
        · rw [← h3]; exact h1
        · exfalso
          have : (p.1, K.v X2) ∈ L := List.mem_filterMap.2 ⟨p, hp, by unfold bare; rw [← h1, h4]⟩
          obtain ⟨k, hk⟩ := wr_some (W := L) (l := p.1) (List.mem_map.2 ⟨_, this, rfl⟩)
          rw [hk] at hq; cases hq
    refine hop cx (upds σ1 L) ι S a w hrd2 hrw2 hb next Q fun ι' S' a' w' hw' => hn ι' S' a' w' ?_
    simp only [upds] at hw' ⊢
    refine hw'.reslot (fun o' => by rw [look_upd_ne _ _ (by simp), look_upd_ne _ _ (by simp), hσ2o]) fun t k hk => ?_
    rw [look_upd] at hk
    by_cases e : d = t
    · subst e
      rw [if_pos rfl] at hk; cases hk
      exact ⟨fun _ => hw'.vr.slots d _ (look_upd_same _ _ _), by simp⟩
    · rw [if_neg (by simpa using e)] at hk
      rcases hσ2 (.t t) with h | ⟨Y, s', w', h1, h2⟩
      · exact hw'.vr.slots t k (by rw [look_upd_ne _ _ (by simpa using e), h]; exact hk)
      · rw [h2] at hk; cases hk
        exact ⟨fun _ => hw'.vr.slots t (.v Y) (by rw [look_upd_ne _ _ (by simpa using e)]; exact h1), by simp⟩

/-! a choice, told without a fork -/
def evc (σ : St) : Operand → Option (V × List (Loc × Option K) × Option Bool)
  | .tmp t => match look σ (.t t) with
    | some (.v X) => some (X, [(.t t, some (.v X))], none)
    | some (.cv s w b X) => some (X, [(.t t, some (.cv s w b X))], some b)
    | _ => none
  | .const v => if v.oneCell' then some (.e (.c (cconst v)), [], none) else none
  | _ => none
def condOf : Option Bool → Prop
  | none => True
  | some b => b = true
theorem evc_reads {σ : St} {x : Operand} {X : V} {R : List (Loc × Option K)} {c : Option Bool} (h : evc σ x = some (X, R, c)) : Reads R σ := by
  cases x with
  | tmp t =>
    simp only [evc] at h
    split at h
    · rename_i X' hl; cases h; exact Reads.one hl
    · rename_i hl; cases h; exact Reads.one hl
    · cases h
  | const v =>
    simp only [evc] at h
    split at h
    · cases h; exact Reads.nil
    · cases h
  | global g => simp [evc] at h
  | func f => simp [evc] at h
theorem evc_sound {σ0 : St} {x : Operand} {X : V} {R : List (Loc × Option K)} {c : Option Bool} (h : evc σ0 x = some (X, R, c)) (hc : condOf c) {cx : Cx} {σ : St} {ι : Nat → Value} {S : Nat → Prop} {a : Act} {w : World}
    (hr : Reads R σ) (hw : RW cx σ ι S a w) : VaR σ ι w S X (a.eval x) := by
  cases x with
  | tmp t =>
    simp only [evc] at h
    split at h
    · rename_i X' hl; cases h; exact hw.vr.slots t _ (hr (.t t, some (.v X)) (by simp))
    · rename_i s w' b X' hl
      cases h
      exact (hw.vr.slots t (.cv s w' b X) (hr (.t t, some (.cv s w' b X)) (by simp))).1 hc
    · cases h
  | const v =>
    simp only [evc] at h
    split at h
    · rename_i hv; cases h; exact cconst_sound hv
    · cases h
  | global g => simp [evc] at h
  | func f => simp [evc] at h
def mergeD (b : Bool) : D → D → Option D
  | .i m, .i n => some (.i (bif b then m else n))
  | .u m, .u n => some (.u (bif b then m else n))
  | .b m, .b n => some (.b (bif b then m else n))
  | .s m, .s n => some (.s (bif b then m else n))
  | _, _ => none
def mergeO (x y : Operand) (b : Bool) (X Y : D) : Option D := match x, y with
  | _, .const (.bool false) => match X with | .b m => some (.b (b && m)) | _ => none
  | .const (.bool true), _ => match Y with | .b n => some (.b (b || n)) | _ => none
  | _, _ => mergeD b X Y
def aPick2 (σ : St) (c x y : Operand) (d : Option Tmp) : Res :=
  match ev σ c, evc σ x, evc σ y, d with
  | some (.e (.c (.d (.b b))), R), some (.e (.c (.d X)), R1, c1), some (.e (.c (.d Y)), R2, c2), some d => match mergeO x y b X Y with
    | some Z => some ((b = true → condOf c1) ∧ (b = false → condOf c2), R ++ R1 ++ R2, [(.t d, .v (Dv Z))])
    | none => none
  | _, _, _, _ => none
theorem mergeD_sound {b : Bool} {X Y Z : D} {w : World} {S : Nat → Prop} {vx vy : Value} (h : mergeD b X Y = some Z) (hx : b = true → DR w S X vx) (hy : b = false → DR w S Y vy) : DR w S Z (if b then vx else vy) := by
  cases X <;> cases Y <;> simp only [mergeD] at h <;> cases h
  all_goals
    cases b with
    | true => have := hx rfl; cases this; first | exact .i _ | exact .u _ | exact .b _ | exact .s _
    | false => have := hy rfl; cases this; first | exact .i _ | exact .u _ | exact .b _ | exact .s _
theorem good_pick2 {P : Program} {o : Oper} {σ0 : St} {c x y : Operand} (ho : o.op = .pick c x y) : Good P o σ0 (aPick2 σ0 c x y o.dst) := by
  intro p R W h hp
  unfold aPick2 at h
  split at h <;> try (cases h; done)
  rename_i b Rc X R1 c1 Y R2 c2 d hc hx hy hd
  split at h <;> try (cases h; done)
  rename_i Z hz
  cases h
  refine ⟨opt_val hd fun cx σ ι S a w hr hw => ?_, ((ev_reads hc).append (evc_reads hx)).append (evc_reads hy)⟩
  have hC := ev_sound hc hr.left.left hw
  have hX : b = true → VaR σ ι w S (Dv X) (a.eval x) := fun hb => evc_sound hx (hp.1 hb) hr.left.right hw
  have hY : b = false → VaR σ ι w S (Dv Y) (a.eval y) := fun hb => evc_sound hy (hp.2 hb) hr.right hw
  have hcv : a.eval c = .bool b := by
    simp only [VaR, ER, CR] at hC
    generalize a.eval c = v at hC; cases hC; rfl
  have hX : b = true → DR w S X (a.eval x) := hX
  have hY : b = false → DR w S Y (a.eval y) := hY
  refine ⟨if b then a.eval x else a.eval y, ?_, ?_⟩
  · cases b <;> simp [execOp, ho, hcv, asBool]
  · show DR w S Z (if b then a.eval x else a.eval y)
    unfold mergeO at hz
    split at hz
    · split at hz
      · cases hz
        cases b with
        | true => have := hX rfl; simpa using this
        | false => simp [Act.eval]; exact .b _
      · cases hz
    · split at hz
      · cases hz
        cases b with
        | true => simp [Act.eval]; exact .b _
        | false => have := hY rfl; simpa using this
      · cases hz
    · exact mergeD_sound hz hX hY
def astep3 (T : Tab) (o : Oper) (σ : St) : Res :=
  match o.op with
  | .pick c x y => match aPick2 σ c x y o.dst with
    | some r => some r
    | none => aPick σ c x y o.dst
  | _ => astep2 T o σ
theorem good_astep3 {P : Program} {T : Tab} (hT : TabOk P T) (o : Oper) (σ : St) : Good P o σ (astep3 T o σ) := by
  unfold astep3
  split
  · rename_i ho
    split
    · rename_i r hr
      have := good_pick2 (P := P) (σ0 := σ) ho
      rw [hr] at this; exact this
    · exact good_pick ho
  · exact good_astep2 hT o σ

/-! the check of orders, by numbers' bits -/
def bitAt (m i : Nat) : Bool := Nat.beq (Nat.land (Nat.shiftRight m i) 1) 1
theorem bitAt_eq (m i : Nat) : bitAt m i = m.testBit i := by
  have h : bitAt m i = decide ((m >>> i) % 2 = 1) := by
    show Nat.beq ((m >>> i) &&& 1) 1 = _
    rw [Nat.and_one_is_mod, Bool.eq_iff_iff, Nat.beq_eq, decide_eq_true_eq]
  rw [h, Nat.testBit, Nat.one_and_eq_mod_two, Bool.eq_iff_iff, decide_eq_true_eq, bne_iff_ne]
  omega
def bits : List Nat → Nat
  | [] => 0
  | x :: r => Nat.lor (Nat.shiftLeft 1 x) (bits r)
theorem mem_bits {b : Nat} : ∀ {l : List Nat}, (bits l).testBit b = true ↔ b ∈ l
  | [] => by simp [bits]
  | x :: r => by
    show ((1 <<< x) ||| bits r).testBit b = true ↔ _
    rw [Nat.testBit_or, Bool.or_eq_true, mem_bits (l := r), List.mem_cons, Nat.shiftLeft_eq, Nat.one_mul, Nat.testBit_two_pow, decide_eq_true_eq]
    exact ⟨fun h => h.imp Eq.symm id, fun h => h.imp Eq.symm id⟩
def maskOf (acc : List Nat) : List Nat → Nat
  | [] => 0
  | i :: r => Nat.lor (Nat.lor (Nat.shiftLeft 1 i) (acc.getD i 0)) (maskOf acc r)
def masks : List Oper → List Nat → List Nat
  | [], acc => acc
  | o :: os, acc => masks os (acc ++ [maskOf acc (preds o)])
def MaskOk (accM : List Nat) (accP : List (List Nat)) : Prop := accM.length = accP.length ∧ ∀ i b, (accM.getD i 0).testBit b = true → b ∈ accP.getD i []
theorem maskOf_spec {accM : List Nat} {accP : List (List Nat)} (h : MaskOk accM accP) {b : Nat} : ∀ {l : List Nat}, (maskOf accM l).testBit b = true → b ∈ l.flatMap fun i => i :: accP.getD i []
  | [], hb => by simp [maskOf] at hb
  | i :: r, hb => by
    have hb : (((1 <<< i) ||| accM.getD i 0) ||| maskOf accM r).testBit b = true := hb
    rw [Nat.testBit_or, Nat.testBit_or, Bool.or_eq_true, Bool.or_eq_true, Nat.shiftLeft_eq, Nat.one_mul, Nat.testBit_two_pow, decide_eq_true_eq] at hb
    rw [List.flatMap_cons, List.mem_append, List.mem_cons]
    rcases hb with (hb | hb) | hb
    · exact .inl (.inl hb.symm)
    · exact .inl (.inr (h.2 i b hb))
    · exact .inr (maskOf_spec h hb)
theorem masks_spec : ∀ (l : List Oper) {accM : List Nat} {accP : List (List Nat)}, MaskOk accM accP → MaskOk (masks l accM) (precs l accP)
  | [], accM, accP, h => h
  | o :: os, accM, accP, h => by
    unfold masks precs
    refine masks_spec os ⟨by simp [h.1], fun i b hb => ?_⟩
    rw [List.getD_eq_getElem?_getD] at hb ⊢
    by_cases hi : i < accM.length
    · rw [List.getElem?_append_left hi] at hb
      rw [List.getElem?_append_left (by rw [← h.1]; exact hi)]
      have := h.2 i b (by rw [List.getD_eq_getElem?_getD]; exact hb)
      rwa [List.getD_eq_getElem?_getD] at this
    · rw [List.getElem?_append_right (by omega)] at hb
      rw [List.getElem?_append_right (by rw [← h.1]; omega), ← h.1]
      by_cases e : i - accM.length = 0
      · rw [e] at hb ⊢
        exact maskOf_spec h hb
      · rw [List.getElem?_eq_none (by simp; omega)] at hb
        simp at hb
abbrev RWM := Nat × Nat
def rwM (x : RWN) : RWM := (bits x.1, bits x.2)
def meetM (x y : RWM) : Bool := Nat.beq (Nat.land x.2 (Nat.lor y.1 y.2)) 0 && Nat.beq (Nat.land x.1 y.2) 0
theorem apart_of_bits {xs ys : List Nat} (h : ∀ b, b ∈ xs → b ∈ ys → False) : apartN xs ys = true := by
  induction xs with
  | nil => rfl
  | cons x r ih =>
    simp only [apartN, Bool.and_eq_true, Bool.not_eq_true']
    refine ⟨?_, ih fun b hb => h b (List.mem_cons_of_mem _ hb)⟩
    rw [← Bool.not_eq_true, memN_iff]
    exact h x (List.mem_cons_self ..)
theorem land_zero {m n b : Nat} (h : Nat.beq (Nat.land m n) 0 = true) (hm : m.testBit b = true) (hn : n.testBit b = true) : False := by
  have h : m &&& n = 0 := Nat.eq_of_beq_eq_true h
  have : (m &&& n).testBit b = true := by rw [Nat.testBit_and, hm, hn]; rfl
  rw [h] at this; simp at this
theorem meetM_spec {x y : RWN} (h : meetM (rwM x) (rwM y) = true) : meetOk x y = true := by
  simp only [meetM, rwM, Bool.and_eq_true] at h
  simp only [meetOk, Bool.and_eq_true]
  have hor : ∀ b, (b ∈ y.1 ∨ b ∈ y.2) → (Nat.lor (bits y.1) (bits y.2)).testBit b = true := fun b hb => by
    show (bits y.1 ||| bits y.2).testBit b = true
    rw [Nat.testBit_or, Bool.or_eq_true, mem_bits, mem_bits]; exact hb
  exact ⟨⟨apart_of_bits fun b h1 h2 => land_zero h.1 (mem_bits.2 h1) (hor b (.inr h2)), apart_of_bits fun b h1 h2 => land_zero h.1 (mem_bits.2 h1) (hor b (.inl h2))⟩, apart_of_bits fun b h1 h2 => land_zero h.2 (mem_bits.2 h1) (mem_bits.2 h2)⟩
def oneM (pm : Nat) (y : RWM) : Nat → List RWM → Bool
  | _, [] => true
  | i, x :: r => (bitAt pm i || meetM x y) && oneM pm y (i + 1) r
def allM : List RWM → List Nat → List RWM → Bool
  | [], _, _ => true
  | y :: ys, pm :: pms, done => oneM pm y 0 done && allM ys pms (done ++ [y])
  | _ :: _, [], _ => false
theorem oneM_spec {pm : Nat} {y : RWM} : ∀ {l : List RWM} {i : Nat}, oneM pm y i l = true → ∀ (k : Nat) x, l[k]? = some x → pm.testBit (i + k) = true ∨ meetM x y = true
  | [], i, _, k, x, hx => by simp at hx
  | z :: r, i, h, k, x, hx => by
    simp only [oneM, Bool.and_eq_true, Bool.or_eq_true] at h
    cases k with
    | zero => simp at hx; subst hx; rw [← bitAt_eq]; exact h.1
    | succ k =>
      have := oneM_spec h.2 k x (by simpa using hx)
      rwa [show i + 1 + k = i + (k + 1) by omega] at this
theorem allM_spec : ∀ {ys : List RWM} {pms : List Nat} {done : List RWM}, allM ys pms done = true → ∀ (k : Nat) y pm, ys[k]? = some y → pms[k]? = some pm → ∀ (i : Nat) x, i < done.length + k → (done ++ ys)[i]? = some x → pm.testBit i = true ∨ meetM x y = true
  | [], pms, done, _, k, y, pm, hy, _, i, x, _, _ => by simp at hy
  | z :: ys, [], done, h, k, y, pm, hy, hp, i, x, _, _ => by simp [allM] at h
  | z :: ys, p :: pms, done, h, k, y, pm, hy, hp, i, x, hi, hx => by
    simp only [allM, Bool.and_eq_true] at h
    cases k with
    | zero =>
      simp at hy hp; subst hy; subst hp
      have := oneM_spec h.1 i x (by rw [List.getElem?_append_left (by omega)] at hx; exact hx)
      rwa [Nat.zero_add] at this
    | succ k => exact allM_spec h.2 k y pm (by simpa using hy) (by simpa using hp) i x (by simp; omega) (by simpa using hx)
theorem pairsOk_of {ns : List RWN} {pl : List (List Nat)} : ∀ (n : Nat), (∀ k, k < n → ∀ i, i < k → ∀ x y pk, ns[i]? = some x → ns[k]? = some y → pl[k]? = some pk → i ∈ pk ∨ meetOk x y = true) → pairsOk ns pl n = true
  | 0, _ => rfl
  | n + 1, h => by
    simp only [pairsOk, Bool.and_eq_true]
    refine ⟨?_, pairsOk_of n fun k hk => h k (by omega)⟩
    split
    · rename_i y pk hy hp
      rw [List.all_eq_true]
      intro i hi
      rw [Bool.or_eq_true]
      cases hx : ns[i]? with
      | none => exact .inr rfl
      | some x => exact (h n (by omega) i (List.mem_range.1 hi) x y pk hx hy hp).imp memN_iff.2 id
    · rfl
def orderM (l : List Oper) (ns : List RWN) : Bool := edgesOk 0 l && allM (ns.map rwM) (masks l []) []
theorem orderM_spec {l : List Oper} {ns : List RWN} (h : orderM l ns = true) : orderN l ns = true := by
  simp only [orderM, Bool.and_eq_true] at h
  simp only [orderN, Bool.and_eq_true]
  refine ⟨h.1, pairsOk_of _ fun k hk i hi x y pk hx hy hp => ?_⟩
  have hm := masks_spec l (accM := []) (accP := []) ⟨rfl, by simp⟩
  have hpl : k < (precs l []).length := (List.getElem?_eq_some_iff.1 hp).1
  have hml : k < (masks l []).length := by rw [hm.1]; exact hpl
  have hpm : (masks l [])[k]? = some (masks l [])[k] := List.getElem?_eq_getElem hml
  rcases allM_spec h.2 k (rwM y) _ (by simp [hy]) hpm i (rwM x) (by simpa using hi) (by simp [hx]) with h1 | h1
  · left
    have := hm.2 k i (by rw [List.getD_eq_getElem?_getD, hpm]; exact h1)
    rwa [List.getD_eq_getElem?_getD, hp] at this
  · exact .inr (meetM_spec h1)

/-! regions -/
def stepC (P : Program) (T : Tab) (o : Oper) (σ : St) (k : List (Loc × Option K) → List (Loc × K) → Prop) : Prop :=
  match astep3 T o σ with
  | some (p, R, W) => p ∧ k R W
  | none => ∃ R W, OpT P o R W ∧ Reads R σ ∧ k R W
theorem stepC_sound {P : Program} {T : Tab} (hT : TabOk P T) {o : Oper} {σ : St} {k : List (Loc × Option K) → List (Loc × K) → Prop} (h : stepC P T o σ k) : ∃ R W, OpT P o R W ∧ Reads R σ ∧ k R W := by
  unfold stepC at h
  split at h
  · rename_i p R W he
    obtain ⟨h1, h2⟩ := good_astep3 hT o σ p R W he h.1
    exact ⟨R, W, h1, h2, h.2⟩
  · exact h
def accC (dr : Bool) (acc : List RWN) (R : List (Loc × Option K)) (W : List (Loc × K)) : List RWN := match dr with
  | true => acc ++ [rwN (R, W)]
  | false => []
def condStep (P : Program) (T : Tab) (o : Oper) (σ : St) (s : Nat) (want g : Bool) (d : Nat) (k : List (Loc × Option K) → V → Prop) : Prop :=
  match astep3 T o (assume s want σ) with
  | some (p, R, [(.t d', .v X)]) => match Nat.beq d' d with
    | true => (g = true → p) ∧ (g = true → readOk σ R) ∧ k R X
    | false => False
  | some _ => False
  | none => ∃ R X, (g = true → OpT P o R [(.t d, .v X)] ∧ Reads R (assume s want σ)) ∧ (g = true → readOk σ R) ∧ k R X
def goC (P : Program) (T : Tab) (ops : List Oper) (dr : Bool) : List Oper → St → List RWN → (St → List RWN → Prop) → Prop
  | [], σ, acc, k => k σ acc
  | o :: os, σ, acc, k => match o.guard with
    | none => stepC P T o σ fun R W => updsK σ W fun σ' => goC P T ops dr os σ' (accC dr acc R W) k
    | some (j, want) => match (ops[j]?).bind (·.dst), o.dst with
      | some s, some d => match gOf want (look σ (.t s)) with
        | some g => condStep P T o σ s want g d fun R X => updK σ (.t d) (.cv s want g X) fun σ' => goC P T ops dr os σ' (accC dr acc ((.t s, none) :: R) [(.t d, .dead)]) k
        | none => False
      | _, _ => False
theorem condStep_sound {P : Program} {T : Tab} (hT : TabOk P T) {ops : Array Oper} {o : Oper} {σ : St} {j s d : Nat} {want g : Bool} {k : List (Loc × Option K) → V → Prop} (hg : o.guard = some (j, want)) (hs : (ops[j]?).bind (·.dst) = some s) (hd : o.dst = some d) (hl : gOf want (look σ (.t s)) = some g)
    (h : condStep P T o σ s want g d k) : ∃ R X, ItT P ops o ((.t s, look σ (.t s)) :: actual σ R, [(.t d, .cv s want g X)]) ∧ k R X := by
  unfold condStep at h
  split at h
  · rename_i p R d' X he
    split at h
    · rename_i hdd
      have hdd := Nat.eq_of_beq_eq_true hdd
      subst hdd
      obtain ⟨h1, h2, h3⟩ := h
      exact ⟨R, X, it_cond hg hs hd hl (fun hgt => good_astep3 hT o _ p R _ he (h1 hgt)) h2, h3⟩
    · exact h.elim
  · exact h.elim
  · obtain ⟨R, X, h1, h2, h3⟩ := h
    exact ⟨R, X, it_cond hg hs hd hl h1 h2, h3⟩
theorem reads_actual {σ : St} {s : Nat} {R : List (Loc × Option K)} : Reads ((.t s, look σ (.t s)) :: actual σ R) σ := by
  intro p hp
  rcases List.mem_cons.1 hp with rfl | hp
  · rfl
  · obtain ⟨q, hq, rfl⟩ := List.mem_map.1 hp; rfl
theorem rwN_actual {σ : St} {s d : Nat} {R : List (Loc × Option K)} {k : K} {o : Option K} {k' : K} : rwN ((.t s, o) :: R, [(.t d, k)]) = rwN ((.t s, look σ (.t s)) :: actual σ R, [(.t d, k')]) := by
  simp [rwN, actual, Function.comp_def]
theorem goC_sound {P : Program} {T : Tab} (hT : TabOk P T) {ops : Array Oper} {dr : Bool} {k : St → List RWN → Prop} : ∀ (l : List Oper) (σ : St) (acc : List RWN), goC P T ops.toList dr l σ acc k →
    ∃ ts : List Trip, ItAll P ops l ts ∧ ReadsAll ts σ ∧ ∃ acc', (dr = true → acc' = acc ++ ts.map rwN) ∧ k (runAll ts σ) acc'
  | [], σ, acc, h => ⟨[], trivial, trivial, acc, fun _ => by simp, by simpa [goC, runAll] using h⟩
  | o :: os, σ, acc, h => by
    simp only [goC] at h
    split at h
    · rename_i hg
      obtain ⟨R, W, h1, h2, h3⟩ := stepC_sound hT h
      rw [updsK_iff] at h3
      obtain ⟨ts, q1, q2, acc', q3, q4⟩ := goC_sound hT os _ _ h3
      refine ⟨(R, W) :: ts, ⟨it_plain hg h1, q1⟩, ⟨h2, q2⟩, acc', fun hd => ?_, by simpa [runAll] using q4⟩
      rw [q3 hd]; subst hd; simp [accC]
    · rename_i j want hg
      split at h <;> try (exact h.elim)
      rename_i s d hs hd
      split at h <;> try (exact h.elim)
      rename_i g hl
      have hs' : (ops[j]?).bind (·.dst) = some s := by simpa using hs
      obtain ⟨R, X, h1, h2⟩ := condStep_sound hT hg hs' hd hl h
      rw [updK_iff] at h2
      obtain ⟨ts, q1, q2, acc', q3, q4⟩ := goC_sound hT os _ _ h2
      refine ⟨((.t s, look σ (.t s)) :: actual σ R, [(.t d, .cv s want g X)]) :: ts, ⟨h1, q1⟩, ⟨reads_actual, q2⟩, acc', fun hdr => ?_, by simpa [runAll, upds] using q4⟩
      rw [q3 hdr]; subst hdr
      simp only [accC, List.map_cons, List.append_assoc, List.singleton_append]
      rw [rwN_actual (σ := σ) (k' := .cv s want g X)]
section
variable {P : Program} {io : List Nat} {Q : Ex → St → Prop} {σ : St}
/-- A region in the text's order; the slots of ks are kept. -/
theorem SW.regT {T : Tab} (hT : TabOk P T) (ks : List Nat) {id : Nat} {ops : Array Oper} (h : goC P T ops.toList false ops.toList σ [] fun σ' _ => keepK ks σ' (Q .norm)) : SW P io (.region id ops false) Q σ := by
  intro cx ι S a w hio hw hf
  have hfit : ∀ o ∈ ops.toList, ∀ d, o.dst = some d → d < cx.N := fun o ho => fit_of (by simpa [fits] using hf) ho
  obtain ⟨ts, h1, h2, acc, _, h4⟩ := goC_sound hT ops.toList σ [] h
  rw [keepK_iff] at h4
  exact wp_region_list (text_order ops.toList ts σ ι S a w h1 h2 hw hfit fun ι' S' a' w' hw' => ⟨_, ι', S', h4, hw'.keep ks⟩)
/-- A region in any order. -/
theorem SW.regD {T : Tab} (hT : TabOk P T) (hm : P.follows .mixedOrders = true) (ks : List Nat) {id : Nat} {ops : Array Oper} (h : goC P T ops.toList true ops.toList σ [] fun σ' ns => orderM ops.toList ns = true ∧ keepK ks σ' (Q .norm)) : SW P io (.region id ops true) Q σ := by
  intro cx ι S a w hio hw hf
  have hfit : ∀ o ∈ ops.toList, ∀ d, o.dst = some d → d < cx.N := fun o ho => fit_of (by simpa [fits] using hf) ho
  obtain ⟨ts, h1, h2, acc, h3, h4, h5⟩ := goC_sound hT ops.toList σ [] h
  have h3 := h3 rfl
  rw [List.nil_append] at h3
  subst h3
  rw [keepK_iff] at h5
  have hlen : ∀ (l : List Oper) (ts : List Trip), ItAll P ops l ts → ts.length = l.length ∧ ∀ (i : Nat) o t, l[i]? = some o → ts[i]? = some t → ItT P ops o t := by
    intro l
    induction l with
    | nil => intro ts h; cases ts with
      | nil => exact ⟨rfl, by simp⟩
      | cons t ts => exact h.elim
    | cons o os ih => intro ts h; cases ts with
      | nil => exact h.elim
      | cons t ts =>
        obtain ⟨q1, q2⟩ := ih ts h.2
        refine ⟨by simp [q1], fun i o' t' ho ht => ?_⟩
        cases i with
        | zero => simp at ho ht; subst ho; subst ht; exact h.1
        | succ i => exact q2 i o' t' (by simpa using ho) (by simpa using ht)
  obtain ⟨q1, q2⟩ := hlen _ _ h1
  refine wp_region_any hm (any_order (cx := cx) (σ := σ) (ts := ts) (by simpa using q1) (fun i o t ho ht => q2 i o t (by simpa using ho) ht) h2 (by have := orderM_spec h4; simpa [orderOk, orderN] using this) hfit (fun ι' S' a' w' hw' => ⟨_, ι', S', h5, hw'.keep ks⟩)
    ops.size (Array.replicate ops.size false) σ ι S a _ (by simp) (fun l => ?_) hw.drew (fun k o ho hk => ?_) ?_)
  · have hL : ∀ i, (Array.replicate ops.size false).getD i false = false := fun i => by
      rw [Array.getD_eq_getD_getElem?, Array.getElem?_replicate]; split <;> rfl
    have : ∀ n, part ts (fun i => (Array.replicate ops.size false).getD i false) σ l n = look σ l := by
      intro n
      induction n with
      | zero => rfl
      | succ n ih => rw [part_succ, if_neg (by rw [hL]; simp), ih]
    rw [this]
  · rw [Array.getD_eq_getD_getElem?, Array.getElem?_replicate] at hk; split at hk <;> cases hk
  · exact Nat.le_trans (List.length_filter_le _ _) (by simp)
end
end Go.Ab
