/- Ab, part V: reading with the type in mind; booleans compared; regions run so that each state stands written out. -/
import Derived.Test.YtlkfibmjdigmiabAbU
namespace Go.Ab
open Go Go.RowKit
set_option linter.unusedVariables false
set_option linter.unusedSimpArgs false

/-! data of a kind -/
def toI : D → Int | .i n => n | _ => 0
def toU : D → Int | .u n => n | _ => 0
def toB : D → Bool | .b x => x | _ => false
def toS : D → List UInt8 | .s l => l | _ => []
def toSl : D → List (List D) | .sl r => r | _ => []
def tyCell (z : C) (d : D) : D := match z with
  | .d (.i _) => .i (toI d)
  | .d (.u _) => .u (toU d)
  | .d (.b _) => .b (toB d)
  | .d (.s _) => .s (toS d)
  | .nil => .sl (toSl d)
  | _ => d
def tyCells : List C → List D → Nat → List D
  | [], _, _ => []
  | z :: zs, cs, k => tyCell z (cs.getD k (.i 0)) :: tyCells zs cs (k + 1)
def aggOrOne (ti : TI) (l : List D) : Option V := if ti.kind.agg then some (.e (.agg (l.map C.d))) else match l with | d :: _ => some (Dv d) | [] => none
def fLoad2 (T : Tab) (σ : St) (t : TypeId) : V → Option (Prop × List (Loc × Option K) × V)
  | .e (.c (.pe ob n i k)) => match T t, look σ (.o ob) with
    | some ti, some (.row e es rows) => match aggOrOne ti (tyCells ti.zero (rows.getD i []) k) with
      | some X => some ((rows.length = n ∧ i < n) ∧ k + ti.size ≤ (rows.getD i []).length ∧ ((rows.getD i []).drop k).take ti.size = tyCells ti.zero (rows.getD i []) k, [(.o ob, some (.row e es rows))], X)
      | none => none
    | _, _ => none
  | .e (.c (.rp cs)) => match T t with
    | some ti => match aggOrOne ti (tyCells ti.zero cs 0) with
      | some X => some (ti.size ≤ cs.length ∧ cs.take ti.size = tyCells ti.zero cs 0, [], X)
      | none => none
    | none => none
  | X => fLoad T σ t X
theorem aggOrOne_eq {ti : TI} {l : List D} {X : V} (h : aggOrOne ti l = some X) : (ti.kind.agg = true ∧ X = .e (.agg (l.map C.d))) ∨ (ti.kind.agg = false ∧ ∃ d r, l = d :: r ∧ X = Dv d) := by
  unfold aggOrOne at h
  split at h
  · rename_i ha; cases h; exact .inl ⟨ha, rfl⟩
  · rename_i ha
    split at h
    · cases h; exact .inr ⟨by simpa using ha, _, _, rfl, rfl⟩
    · cases h
theorem fLoad2_imp {P : Program} {T : Tab} (hT : TabOk P T) {σ : St} {t : TypeId} {X : V} {p : Prop} {R : List (Loc × Option K)} {Y : V} (h : fLoad2 T σ t X = some (p, R, Y)) (hp : p) : ∃ q, fLoad T σ t X = some (q, R, Y) ∧ q := by
  have hd : ∀ (l : List D) (k n : Nat) (m : List D) (d : D) (r : List D), 0 < n → k + n ≤ l.length → (l.drop k).take n = m → m = d :: r → l.getD k (.i 0) = d ∧ k < l.length := by
    intro l k n m d r hn hk h1 h2
    subst h1
    cases n with
    | zero => omega
    | succ n =>
      have hk' : k < l.length := by omega
      rw [List.drop_eq_getElem_cons hk', List.take_succ_cons] at h2
      cases h2
      exact ⟨by rw [List.getD_eq_getElem?_getD, List.getElem?_eq_getElem hk']; rfl, hk'⟩
  unfold fLoad2 at h
  split at h
  · rename_i ob n i k
    split at h <;> try (cases h; done)
    rename_i ti e es rows ht hl
    split at h <;> try (cases h; done)
    rename_i Z hz
    cases h
    obtain ⟨⟨h1, h2⟩, h3, h4⟩ := hp
    simp only [fLoad, ht, hl]
    rcases aggOrOne_eq hz with ⟨ha, rfl⟩ | ⟨ha, d, r, hm, rfl⟩
    · rw [if_pos ha]
      refine ⟨_, by rw [h4], ?_⟩; exact ⟨h1, h2, h3⟩
    · rw [if_neg (by simp [ha])]
      obtain ⟨q1, q2⟩ := hd _ _ _ _ d r (hT t ti ht).pos h3 h4 hm
      refine ⟨_, by rw [q1], ?_⟩; exact ⟨h1, h2, q2⟩
  · rename_i cs
    split at h <;> try (cases h; done)
    rename_i ti ht
    split at h <;> try (cases h; done)
    rename_i Z hz
    cases h
    obtain ⟨h3, h4⟩ := hp
    simp only [fLoad, ht]
    rcases aggOrOne_eq hz with ⟨ha, rfl⟩ | ⟨ha, d, r, hm, rfl⟩
    · rw [if_pos ha]
      refine ⟨_, by rw [h4], ?_⟩; exact h3
    · rw [if_neg (by simp [ha])]
      obtain ⟨q1, q2⟩ := hd cs 0 _ _ d r (hT t ti ht).pos (by simpa using h3) (by simpa using h4) hm
      refine ⟨_, by rw [q1], ?_⟩; exact q2
  · exact ⟨p, h, hp⟩
theorem good_imp1 {P : Program} {o : Oper} {σ : St} {x : Operand} {d : Option Tmp} {f g : V → Option (Prop × List (Loc × Option K) × V)} (hfg : ∀ X p R Y, g X = some (p, R, Y) → p → ∃ q, f X = some (q, R, Y) ∧ q)
    (h : Good P o σ (lift1 σ x d f)) : Good P o σ (lift1 σ x d g) := by
  intro p R W hg hp
  unfold lift1 at hg
  split at hg <;> try (cases hg; done)
  rename_i X Rx d hx
  split at hg <;> try (cases hg; done)
  rename_i p' R' Y hgx
  cases hg
  obtain ⟨q, h1, h2⟩ := hfg _ _ _ _ hgx hp
  exact h q _ _ (by simp only [lift1, hx, h1]) h2

/-! booleans compared -/
theorem run_equal_bool {P : Program} {w : World} {t : TypeId} (hu : P.underlying t = some .bool) (x y : Bool) : (Op.equal t (.bool x) (.bool y)).run P w = .ok (x == y) w := by
  unfold Op.equal
  rw [show Op.maxDepth = (Op.maxDepth - 1) + 1 from rfl]
  unfold Op.equalIn
  rw [Sem.run_bind, run_underlying hu]; rfl
theorem run_binOp_bool {P : Program} {w : World} {t : TypeId} (hu : P.underlying t = some .bool) (x y : Bool) (ox oy : Operand) :
    (do eqGuard .eql t ox oy (.bool x) (.bool y); binOp .eql t (.bool x) (.bool y) : Sem Value).run P w = .ok (.bool (x == y)) w ∧
    (do eqGuard .neq t ox oy (.bool x) (.bool y); binOp .neq t (.bool x) (.bool y) : Sem Value).run P w = .ok (.bool (!(x == y))) w := by
  constructor
  · rw [Sem.run_bind, run_eqGuard_bool, Result.andThen_ok]
    show (do pure (.bool (← Op.equal t (.bool x) (.bool y))) : Sem Value).run P w = _
    rw [Sem.run_bind, run_equal_bool hu]; rfl
  · rw [Sem.run_bind, run_eqGuard_bool, Result.andThen_ok]
    show (do pure (.bool (!(← Op.equal t (.bool x) (.bool y)))) : Sem Value).run P w = _
    rw [Sem.run_bind, run_equal_bool hu]; rfl
def fBin2 (T : Tab) (t : TypeId) (op : BinOp) : V → V → Option (Prop × List (Loc × Option K) × V)
  | .e (.c (.d (.b x))), .e (.c (.d (.b y))) => match T t with
    | some ti => match ti.kind, op with
      | .bool, .eql => some (True, [], B (x == y))
      | .bool, .neq => some (True, [], B (!(x == y)))
      | _, _ => none
    | none => none
  | X, Y => fBin op X Y
def fBinB (T : Tab) (t : TypeId) (op : BinOp) : V → V → Option (Prop × List (Loc × Option K) × V)
  | .e (.c (.d (.b x))), .e (.c (.d (.b y))) => match T t with
    | some ti => match ti.kind, op with
      | .bool, .eql => some (True, [], B (x == y))
      | .bool, .neq => some (True, [], B (!(x == y)))
      | _, _ => none
    | none => none
  | X, Y => none
theorem good_binB {P : Program} {T : Tab} (hT : TabOk P T) {o : Oper} {σ0 : St} {op : BinOp} {t u : TypeId} {x y : Operand} (ho : o.op = .binOp op t x y u) : Good P o σ0 (lift2 σ0 x y o.dst (fBinB T t op)) := by
  refine good_lift2 fun X Y p R Z h hp => ?_
  unfold fBinB at h
  split at h
  · rename_i a b
    split at h <;> try (cases h; done)
    rename_i ti ht
    have hk : (ti.kind = .bool ∧ op = .eql ∧ R = [] ∧ Z = B (a == b)) ∨ (ti.kind = .bool ∧ op = .neq ∧ R = [] ∧ Z = B (!(a == b))) := by
      split at h
      · rename_i hk; cases h; exact .inl ⟨hk, rfl, rfl, rfl⟩
      · rename_i hk; cases h; exact .inr ⟨hk, rfl, rfl, rfl⟩
      · cases h
    have hu := (hT t ti ht).kind
    have hkk : ti.kind = .bool := by rcases hk with h | h <;> exact h.1
    rw [hkk] at hu; simp only [TKOk] at hu
    rcases hk with ⟨_, rfl, rfl, rfl⟩ | ⟨_, rfl, rfl, rfl⟩
    all_goals
      refine ⟨Reads.nil, fun cx σ ι S ac w _ _ hx hy => ?_⟩
      simp only [VaR, ER, CR] at hx hy
      cases hv : ac.eval x <;> rw [hv] at hx <;> cases hx
      cases hv2 : ac.eval y <;> rw [hv2] at hy <;> cases hy
    · refine ⟨_, ?_, .b _⟩
      have := (run_binOp_bool (w := w) hu a b x y).1
      unfold execOp; simp only [ho, hv, hv2]; rw [Sem.run_bind, this]; rfl
    · refine ⟨_, ?_, .b _⟩
      have := (run_binOp_bool (w := w) hu a b x y).2
      unfold execOp; simp only [ho, hv, hv2]; rw [Sem.run_bind, this]; rfl
  · cases h
theorem good_bin2 {P : Program} {T : Tab} (hT : TabOk P T) {o : Oper} {σ0 : St} {op : BinOp} {t u : TypeId} {x y : Operand} (ho : o.op = .binOp op t x y u) : Good P o σ0 (lift2 σ0 x y o.dst (fBin2 T t op)) := by
  intro p R W h hp
  unfold lift2 at h
  split at h <;> try (cases h; done)
  rename_i X Rx Y Ry d hd hx hy
  split at h <;> try (cases h; done)
  rename_i p' R' Z hf
  cases h
  unfold fBin2 at hf
  split at hf
  · exact good_binB (P := P) (σ0 := σ0) hT ho p _ _ (by simp only [lift2, hx, hy, hd, fBinB]; simp only [hf]) hp
  · exact good_bin (P := P) (σ := σ0) ho p _ _ (by simp only [lift2, hx, hy, hf, hd]) hp

def aConv2 (T : Tab) (o : Oper) (σ : St) (s d : TypeId) (x : Operand) : Res :=
  match T s, T d with
  | some si, some di => match si.kind, di.kind with
    | .sl e, .str => match T e with
      | some ei => match ei.kind with
        | .int .u8 => lift1 σ x o.dst (fB2S σ)
        | _ => none
      | none => none
    | .str, .sl e => match T e with
      | some ei => match ei.kind with
        | .int .u8 => aS2B σ x e o.dst
        | _ => none
      | none => none
    | _, _ => astep T o σ
  | _, _ => none
def aCall2 (T : Tab) (o : Oper) (σ : St) (c : Call) : Res :=
  match c.callee, c.args.toList, c.argTypes.toList with
  | .builtin .copy, [x, y], [t, t2] => aCopy T σ t t2 x y o.dst
  | _, _, _ => astep T o σ
def astep2 (T : Tab) (o : Oper) (σ : St) : Res :=
  match o.op with
  | .load t x => lift1 σ x o.dst (fLoad2 T σ t)
  | .binOp op t x y u => lift2 σ x y o.dst (fBin2 T t op)
  | .convert s d x => aConv2 T o σ s d x
  | .call c => aCall2 T o σ c
  | _ => astep T o σ
theorem good_conv2 {P : Program} {T : Tab} (hT : TabOk P T) {o : Oper} {σ : St} {s d : TypeId} {x : Operand} (ho : o.op = .convert s d x) : Good P o σ (aConv2 T o σ s d x) := by
  unfold aConv2
  split
  · rename_i si di hs hd
    split
    · rename_i e hk1 hk2
      split
      · rename_i ei he
        split
        · rename_i hek
          exact good_b2s hT ho hs hk1 he hek hd hk2
        · exact good_none
      · exact good_none
    · rename_i e hk1 hk2
      split
      · rename_i ei he
        split
        · rename_i hek
          exact good_s2b hT ho hs hk1 he hek hd hk2
        · exact good_none
      · exact good_none
    · exact good_astep hT o σ
  · exact good_none
theorem good_call2 {P : Program} {T : Tab} (hT : TabOk P T) {o : Oper} {σ : St} {c : Call} (ho : o.op = .call c) : Good P o σ (aCall2 T o σ c) := by
  obtain ⟨callee, args, argTypes⟩ := c
  unfold aCall2
  dsimp only
  split
  · rename_i x y t t2 ha hat
    obtain rfl : args = #[x, y] := Array.toList_inj.1 (by simpa using ha)
    obtain rfl : argTypes = #[t, t2] := Array.toList_inj.1 (by simpa using hat)
    exact good_copy hT ho
  · exact good_astep hT o σ
theorem good_astep2 {P : Program} {T : Tab} (hT : TabOk P T) (o : Oper) (σ : St) : Good P o σ (astep2 T o σ) := by
  unfold astep2
  split
  · rename_i ho; exact good_imp1 (fun X p R Y h hp => fLoad2_imp hT h hp) (good_load hT ho)
  · rename_i ho; exact good_bin2 hT ho
  · rename_i ho; exact good_conv2 hT ho
  · rename_i ho; exact good_call2 hT ho
  · exact good_astep hT o σ

/-! states written out -/
def locEq : Loc → Loc → Bool
  | .t a, .t b => Nat.beq a b
  | .o a, .o b => Nat.beq a b
  | _, _ => false
theorem locEq_iff {a b : Loc} : locEq a b = true ↔ a = b := by
  cases a <;> cases b <;> simp [locEq]
def updK : St → Loc → K → (St → Prop) → Prop
  | [], m, k, c => c [(m, k)]
  | p :: r, m, k, c => match locEq p.1 m with
    | true => c ((m, k) :: r)
    | false => updK r m k fun r' => c (p :: r')
theorem updK_iff : ∀ {σ : St} {m : Loc} {k : K} {c : St → Prop}, updK σ m k c ↔ c (upd σ m k)
  | [], m, k, c => Iff.rfl
  | p :: r, m, k, c => by
    unfold updK upd
    by_cases h : p.1 = m
    · rw [locEq_iff.2 h, if_pos h]
    · have : locEq p.1 m = false := by rw [← Bool.not_eq_true, locEq_iff]; exact h
      rw [this, if_neg h]
      exact updK_iff
def forceL : List C → (List C → Prop) → Prop
  | [], c => c []
  | x :: r, c => forceL r fun r' => c (x :: r')
theorem forceL_iff : ∀ {l : List C} {c : List C → Prop}, forceL l c ↔ c l
  | [], c => Iff.rfl
  | x :: r, c => by unfold forceL; exact forceL_iff
def forceK : K → (K → Prop) → Prop
  | .box ty cs, c => forceL cs fun cs' => c (.box ty cs')
  | k, c => c k
theorem forceK_iff {k : K} {c : K → Prop} : forceK k c ↔ c k := by
  cases k <;> simp only [forceK]
  exact forceL_iff
def updsK : St → List (Loc × K) → (St → Prop) → Prop
  | σ, [], c => c σ
  | σ, p :: r, c => forceK p.2 fun k => updK σ p.1 k fun σ' => updsK σ' r c
theorem updsK_iff : ∀ {W : List (Loc × K)} {σ : St} {c : St → Prop}, updsK σ W c ↔ c (upds σ W)
  | [], σ, c => Iff.rfl
  | p :: r, σ, c => by unfold updsK upds; rw [forceK_iff, updK_iff]; exact updsK_iff
def stepS (P : Program) (T : Tab) (o : Oper) (σ : St) (k : List (Loc × Option K) → List (Loc × K) → Prop) : Prop :=
  match astep2 T o σ with
  | some (p, R, W) => p ∧ k R W
  | none => ∃ R W, OpT P o R W ∧ Reads R σ ∧ k R W
theorem stepS_sound {P : Program} {T : Tab} (hT : TabOk P T) {o : Oper} {σ : St} {k : List (Loc × Option K) → List (Loc × K) → Prop} (h : stepS P T o σ k) : ∃ R W, OpT P o R W ∧ Reads R σ ∧ k R W := by
  unfold stepS at h
  split at h
  · rename_i p R W he
    obtain ⟨h1, h2⟩ := good_astep2 hT o σ p R W he h.1
    exact ⟨R, W, h1, h2, h.2⟩
  · exact h
def goS (P : Program) (T : Tab) (ops : List Oper) (dr : Bool) : List Oper → St → List RWN → (St → List RWN → Prop) → Prop
  | [], σ, acc, k => k σ acc
  | o :: os, σ, acc, k => match o.guard with
    | none => stepS P T o σ fun R W => updsK σ W fun σ' => goS P T ops dr os σ' (match dr with | true => acc ++ [rwN (R, W)] | false => []) k
    | some (j, want) => match (ops[j]?).bind (·.dst) with
      | some s => match look σ (.t s) with
        | some (.v (.e (.c (.d (.b x))))) =>
          (x = want → stepS P T o σ fun R W => updsK σ W fun σ' => goS P T ops dr os σ' (match dr with | true => acc ++ [rwN ((.t s, none) :: R, W)] | false => []) k) ∧
          (x = !want → updsK σ (skipW o) fun σ' => goS P T ops dr os σ' (match dr with | true => acc ++ [rwN ([(.t s, none)], skipW o)] | false => []) k)
        | _ => False
      | none => False
theorem goS_sound {P : Program} {T : Tab} (hT : TabOk P T) {ops : Array Oper} {dr : Bool} {k : St → List RWN → Prop} : ∀ (l : List Oper) (σ : St) (acc : List RWN), goS P T ops.toList dr l σ acc k →
    ∃ ts : List Trip, ItAll P ops l ts ∧ ReadsAll ts σ ∧ ∃ acc', (dr = true → acc' = acc ++ ts.map rwN) ∧ k (runAll ts σ) acc'
  | [], σ, acc, h => ⟨[], trivial, trivial, acc, fun _ => by simp, by simpa [goS, runAll] using h⟩
  | o :: os, σ, acc, h => by
    simp only [goS] at h
    split at h
    · rename_i hg
      obtain ⟨R, W, h1, h2, h3⟩ := stepS_sound hT h
      rw [updsK_iff] at h3
      obtain ⟨ts, q1, q2, acc', q3, q4⟩ := goS_sound hT os _ _ h3
      refine ⟨(R, W) :: ts, ⟨it_plain hg h1, q1⟩, ⟨h2, q2⟩, acc', fun hd => ?_, by simpa [runAll] using q4⟩
      rw [q3 hd]; subst hd; simp
    · rename_i j want hg
      split at h <;> try (exact h.elim)
      rename_i s hs
      split at h <;> try (exact h.elim)
      rename_i x hl
      have hs' : (ops[j]?).bind (·.dst) = some s := by simpa using hs
      by_cases hx : x = want
      · subst hx
        obtain ⟨R, W, h1, h2, h3⟩ := stepS_sound hT (h.1 rfl)
        rw [updsK_iff] at h3
        obtain ⟨ts, q1, q2, acc', q3, q4⟩ := goS_sound hT os _ _ h3
        refine ⟨((.t s, some (.v (B x))) :: R, W) :: ts, ⟨it_guard hg hs' h1, q1⟩, ⟨fun p hp => ?_, q2⟩, acc', fun hd => ?_, by simpa [runAll] using q4⟩
        · rcases List.mem_cons.1 hp with rfl | hp
          · exact hl
          · exact h2 p hp
        · rw [q3 hd]; subst hd; simp [rwN]
      · have hx' : x = !want := by cases x <;> cases want <;> simp_all
        have h3 := h.2 hx'
        rw [updsK_iff] at h3
        obtain ⟨ts, q1, q2, acc', q3, q4⟩ := goS_sound hT os _ _ h3
        subst hx'
        refine ⟨([(.t s, some (.v (B (!want))))], skipW o) :: ts, ⟨it_skip hg hs' rfl, q1⟩, ⟨Reads.one hl, q2⟩, acc', fun hd => ?_, by simpa [runAll] using q4⟩
        rw [q3 hd]; subst hd; simp [rwN]
section
variable {P : Program} {io : List Nat} {Q : Ex → St → Prop} {σ : St}
/-- A region in the text's order. -/
theorem SW.text {T : Tab} (hT : TabOk P T) (hm : P.follows .mixedOrders = true) {id : Nat} {ops : Array Oper} (h : goS P T ops.toList false ops.toList σ [] fun σ' _ => Q .norm σ') : SW P io (.region id ops false) Q σ := by
  intro cx ι S a w hio hw hf
  have hfit : ∀ o ∈ ops.toList, ∀ d, o.dst = some d → d < cx.N := fun o ho => fit_of (by simpa [fits] using hf) ho
  obtain ⟨ts, h1, h2, acc, _, h4⟩ := goS_sound hT ops.toList σ [] h
  exact wp_region_list (text_order ops.toList ts σ ι S a w h1 h2 hw hfit fun ι' S' a' w' hw' => ⟨_, ι', S', h4, hw'⟩)
/-- A region in any order. -/
theorem SW.drawn {T : Tab} (hT : TabOk P T) (hm : P.follows .mixedOrders = true) {id : Nat} {ops : Array Oper} (h : goS P T ops.toList true ops.toList σ [] fun σ' ns => orderN ops.toList ns = true ∧ Q .norm σ') : SW P io (.region id ops true) Q σ := by
  intro cx ι S a w hio hw hf
  have hfit : ∀ o ∈ ops.toList, ∀ d, o.dst = some d → d < cx.N := fun o ho => fit_of (by simpa [fits] using hf) ho
  obtain ⟨ts, h1, h2, acc, h3, h4, h5⟩ := goS_sound hT ops.toList σ [] h
  have h3 := h3 rfl
  rw [List.nil_append] at h3
  subst h3
  have hlen : ∀ (l : List Oper) (ts : List Trip), ItAll P ops l ts → ts.length = l.length ∧ ∀ (i : Nat) o t, l[i]? = some o → ts[i]? = some t → ItT P ops o t := by
    intro l
    induction l with
    | nil => intro ts h; cases ts with
      | nil => exact ⟨rfl, by simp⟩
      | cons t ts => exact h.elim
    | cons o os ih => intro ts h; cases ts with
      | nil => exact h.elim
      | cons t ts =>
        obtain ⟨q1, q2⟩ := ih ts h.2
        refine ⟨by simp [q1], fun i o' t' ho ht => ?_⟩
        cases i with
        | zero => simp at ho ht; subst ho; subst ht; exact h.1
        | succ i => exact q2 i o' t' (by simpa using ho) (by simpa using ht)
  obtain ⟨q1, q2⟩ := hlen _ _ h1
  refine wp_region_any hm (any_order (cx := cx) (σ := σ) (ts := ts) (by simpa using q1) (fun i o t ho ht => q2 i o t (by simpa using ho) ht) h2 (by simpa [orderOk, orderN] using h4) hfit (fun ι' S' a' w' hw' => ⟨_, ι', S', h5, hw'⟩)
    ops.size (Array.replicate ops.size false) σ ι S a _ (by simp) (fun l => ?_) hw.drew (fun k o ho hk => ?_) ?_)
  · have hL : ∀ i, (Array.replicate ops.size false).getD i false = false := fun i => by
      rw [Array.getD_eq_getD_getElem?, Array.getElem?_replicate]; split <;> rfl
    have : ∀ n, part ts (fun i => (Array.replicate ops.size false).getD i false) σ l n = look σ l := by
      intro n
      induction n with
      | zero => rfl
      | succ n ih => rw [part_succ, if_neg (by rw [hL]; simp), ih]
    rw [this]
  · rw [Array.getD_eq_getD_getElem?, Array.getElem?_replicate] at hk; split at hk <;> cases hk
  · exact Nat.le_trans (List.length_filter_le _ _) (by simp)
/-- What is not needed any more is let go of; what is needed stands in the order wanted. -/
def subSt (σ : St) : List (Loc × K) → Prop
  | [] => True
  | p :: r => look σ p.1 = some p.2 ∧ subSt σ r
theorem subSt_look {σ : St} : ∀ {L : St}, subSt σ L → ∀ l k, look L l = some k → look σ l = some k
  | [], _, l, k, h => by cases h
  | p :: r, hs, l, k, h => by
    simp only [look] at h
    split at h
    · rename_i e; cases h; rw [← e]; exact hs.1
    · exact subSt_look hs.2 l k h
end
end Go.Ab
