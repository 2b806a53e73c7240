/- Ab, part E: the other operations that write no memory: one operand, addresses, loads. -/
import Derived.Test.YtlkfibmjdigmiabAbD
namespace Go.Ab
open Go Go.RowKit
set_option linter.unusedVariables false
set_option linter.unusedSimpArgs false

def fUn : UnOp → V → Option (Prop × List (Loc × Option K) × V)
  | .not, .e (.c (.d (.b x))) => some (True, [], B (!x))
  | .neg, .e (.c (.d (.i n))) => some (True, [], I (wrap64 (0 - n)))
  | _, _ => none
theorem good_un {P : Program} {o : Oper} {σ : St} {x : Operand} {u : UnOp} {t : TypeId} (ho : o.op = .unOp u t x) : Good P o σ (lift1 σ x o.dst (fUn u)) :=
  good_lift1 fun X p R Y h _ => by
    unfold fUn at h
    split at h
    · cases h
      refine ⟨Reads.nil, fun cx σ ι S a w _ _ hx => ?_⟩
      simp only [VaR, ER, CR] at hx
      cases hv : a.eval x <;> rw [hv] at hx <;> cases hx
      exact ⟨_, by simp [execOp, ho, hv, Op.unary] <;> rfl, .b _⟩
    · cases h
      refine ⟨Reads.nil, fun cx σ ι S a w _ _ hx => ?_⟩
      simp only [VaR, ER, CR] at hx
      cases hv : a.eval x <;> rw [hv] at hx <;> cases hx
      exact ⟨_, by simp [execOp, ho, hv, Op.unary, Op.intArith, wrap64_is] <;> rfl, .i _⟩
    · cases h

def fBin (op : BinOp) : V → V → Option (Prop × List (Loc × Option K) × V)
  | .e (.c (.d x)), .e (.c (.d y)) => match bin op x y with
    | some (p, z) => some (p, [], Dv z)
    | none => none
  | _, _ => none
theorem good_bin {P : Program} {o : Oper} {σ : St} {x y : Operand} {op : BinOp} {t u : TypeId} (ho : o.op = .binOp op t x y u) : Good P o σ (lift2 σ x y o.dst (fBin op)) :=
  good_lift2 fun X Y p R Z h hp => by
    unfold fBin at h
    split at h
    · split at h
      · rename_i p' z hb
        cases h
        refine ⟨Reads.nil, fun cx σ ι S a w _ _ hx hy => ?_⟩
        obtain ⟨v, hr, hz⟩ := bin_sound (P := P) hb hp hx hy t x y
        exact ⟨v, by unfold execOp; simp only [ho]; rw [Sem.run_bind, hr]; rfl, hz⟩
      · cases h
    · cases h

/-! conversions between whole numbers -/
def fConv (T : Tab) (dst : TypeId) : V → Option (Prop × List (Loc × Option K) × V)
  | .e (.c (.d (.i n))) => match T dst with
    | some ⟨.int .i64, _, _, _⟩ => some (True, [], I (wrap64 n))
    | some ⟨.int .u8, _, _, _⟩ => some (True, [], Dv (.u (wrap8 n)))
    | _ => none
  | .e (.c (.d (.u n))) => match T dst with
    | some ⟨.int .i64, _, _, _⟩ => some (True, [], I (wrap64 n))
    | some ⟨.int .u8, _, _, _⟩ => some (True, [], Dv (.u (wrap8 n)))
    | _ => none
  | _ => none
theorem run_conv {P : Program} {w : World} {src dst : TypeId} {k k' : IntKind} {n : Int} (hs : (P.underlying src).isSome = true) (hd : P.underlying dst = some (.int k')) : (convert src dst (.int k n)).run P w = .ok (.int k' (k'.wrap n)) w := by
  obtain ⟨d, hd'⟩ := Option.isSome_iff_exists.mp hs
  simp [convert, run_underlying hd', run_underlying hd, Conv.intToInt]
theorem good_conv {P : Program} {T : Tab} (hT : TabOk P T) {o : Oper} {σ : St} {x : Operand} {src dst : TypeId} (ho : o.op = .convert src dst x) (hs : (T src).isSome = true) : Good P o σ (lift1 σ x o.dst (fConv T dst)) := by
  obtain ⟨si, hsi⟩ := Option.isSome_iff_exists.mp hs
  have hsrc : (P.underlying src).isSome = true := by
    have := (hT src si hsi).kind
    cases hk : si.kind <;> rw [hk] at this <;> simp only [TKOk] at this <;> (try (obtain ⟨_, this, _⟩ := this)) <;> simp [this]
  refine good_lift1 fun X p R Y h _ => ?_
  unfold fConv at h
  split at h <;> try (cases h; done)
  all_goals
    split at h <;> try (cases h; done)
    all_goals
      rename_i ht
      cases h
      refine ⟨Reads.nil, fun cx σ ι S a w _ _ hx => ?_⟩
      have hk := (hT dst _ ht).kind
      simp only [TKOk] at hk
      simp only [VaR, ER, CR] at hx
      cases hv : a.eval x <;> rw [hv] at hx <;> cases hx
      first
        | exact ⟨_, by simp [execOp, ho, hv, run_conv hsrc hk, wrap64_is, wrap8_is] <;> rfl, .i _⟩
        | exact ⟨_, by simp [execOp, ho, hv, run_conv hsrc hk, wrap64_is, wrap8_is] <;> rfl, .u _⟩

/-! strings: an index -/
def fIdxS : V → V → Option (Prop × List (Loc × Option K) × V)
  | .e (.c (.d (.s l))), .e (.c (.d (.i n))) => some (0 ≤ n ∧ n < l.length, [], Dv (.u ((l.getD n.toNat 0).toNat : Int)))
  | _, _ => none
theorem good_idxS {P : Program} {T : Tab} (hT : TabOk P T) {o : Oper} {σ : St} {x y : Operand} {t : TypeId} {ti : TI} (ho : o.op = .index t x y) (ht : T t = some ti) (hk : ti.kind = .str) : Good P o σ (lift2 σ x y o.dst fIdxS) :=
  good_lift2 fun X Y p R Z h hp => by
    unfold fIdxS at h
    split at h
    · rename_i l n
      cases h
      refine ⟨Reads.nil, fun cx σ ι S a w _ _ hx hy => ?_⟩
      have hu := (hT t ti ht).kind
      rw [hk] at hu; simp only [TKOk] at hu
      simp only [VaR, ER, CR] at hx hy
      cases hv : a.eval x <;> rw [hv] at hx <;> cases hx
      cases hv2 : a.eval y <;> rw [hv2] at hy <;> cases hy
      have hlt : n.toNat < l.length := by omega
      have hg : (⟨l.toArray⟩ : ByteArray)[n.toNat]? = some l[n.toNat] := by
        have hsz : n.toNat < (⟨l.toArray⟩ : ByteArray).size := by rw [size_mk]; exact hlt
        rw [getElem?_pos (⟨l.toArray⟩ : ByteArray) n.toNat hsz]; rfl
      refine ⟨.int .u8 (l[n.toNat].toNat), ?_, ?_⟩
      · simp [execOp, ho, hv, hv2, Instr.index, asIntOf, run_underlying hu, hp.1, hg]
      · have : l.getD n.toNat 0 = l[n.toNat] := by simp [hlt]
        rw [this]; exact .u _
    · cases h

/-! len -/
def fLen (σ : St) : V → Option (Prop × List (Loc × Option K) × V)
  | .e (.c (.d (.s l))) => some (True, [], I l.length)
  | .e (.c (.d (.sl rows))) => some (True, [], I rows.length)
  | .e (.c .nil) => some (True, [], I 0)
  | .e (.c (.own ob n)) => match look σ (.o ob) with
    | some (.row e es rows) => some (rows.length = n, [(.o ob, some (.row e es rows))], I n)
    | _ => none
  | _ => none
theorem good_len {P : Program} {T : Tab} (hT : TabOk P T) {o : Oper} {σ0 : St} {x : Operand} {t : TypeId} {ti : TI} (ho : o.op = .call { callee := .builtin .len, args := #[x], argTypes := #[t] }) (ht : T t = some ti)
    (hk : ti.kind = .str ∨ ∃ e, ti.kind = .sl e) : Good P o σ0 (lift1 σ0 x o.dst fun X => match ti.kind, X with
      | .str, .e (.c (.d (.s l))) => fLen σ0 (.e (.c (.d (.s l))))
      | .sl _, .e (.c (.d (.sl rows))) => fLen σ0 (.e (.c (.d (.sl rows))))
      | .sl _, .e (.c .nil) => fLen σ0 (.e (.c .nil))
      | .sl _, .e (.c (.own ob n)) => fLen σ0 (.e (.c (.own ob n)))
      | _, _ => none) :=
  good_lift1 fun X p R Y h hp => by
    have hu := (hT t ti ht).kind
    split at h <;> try (cases h; done)
    · rename_i hkk
      rw [hkk] at hu; simp only [TKOk] at hu
      cases h
      refine ⟨Reads.nil, fun cx σ ι S a w _ _ hx => ?_⟩
      simp only [VaR, ER, CR] at hx
      cases hv : a.eval x <;> rw [hv] at hx <;> cases hx
      exact ⟨_, by simp [execOp, ho, hv, resolve, invoke, builtin, Builtin.len_, run_underlying hu, size_mk] <;> rfl, .i _⟩
    · rename_i hkk
      rw [hkk] at hu; simp only [TKOk] at hu
      cases h
      refine ⟨Reads.nil, fun cx σ ι S a w _ _ hx => ?_⟩
      simp only [VaR, ER, CR] at hx
      cases hv : a.eval x <;> rw [hv] at hx <;> cases hx
      exact ⟨_, by simp [execOp, ho, hv, resolve, invoke, builtin, Builtin.len_, run_underlying hu] <;> rfl, .i _⟩
    · rename_i hkk
      rw [hkk] at hu; simp only [TKOk] at hu
      cases h
      refine ⟨Reads.nil, fun cx σ ι S a w _ _ hx => ?_⟩
      simp only [VaR, ER, CR] at hx
      exact ⟨_, by simp [execOp, ho, hx, resolve, invoke, builtin, Builtin.len_, run_underlying hu] <;> rfl, .i _⟩
    · rename_i e ob n hkk
      rw [hkk] at hu; simp only [TKOk] at hu
      simp only [fLen] at h
      split at h
      · rename_i e' es rows hl
        cases h
        refine ⟨Reads.one hl, fun cx σ ι S a w hr hw hx => ?_⟩
        have hl' := hr (.o ob, some (.row e' es rows)) (by simp)
        dsimp only at hl'
        obtain ⟨_, h2⟩ := (show CR σ ι w S (.own ob n) (a.eval x) from hx)
        rcases h2 with ⟨e2, es2, rows2, hl2, hn, hv⟩ | hd
        · rw [hl'] at hl2; cases hl2
          have hv := hv hp
          have ho2 := hw.vr.objs ob _ hl'
          have hlen : ∃ a0 c0, ι ob = .slice a0 n c0 := by
            rcases ho2 with ⟨hn2, hr2⟩ | ⟨g, off, cap, cur, fz, hg, _⟩
            · subst hr2; simp at hp; subst hp; exact ⟨_, _, hn2⟩
            · rw [hp] at hg; exact ⟨_, _, hg⟩
          obtain ⟨a0, c0, hi⟩ := hlen
          exact ⟨_, by simp [execOp, ho, hv, hi, resolve, invoke, builtin, Builtin.len_, run_underlying hu] <;> rfl, .i _⟩
        · rw [hl'] at hd; cases hd
      · cases h
end Go.Ab
