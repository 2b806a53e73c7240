/- Ab, part O: slices of strings and of slices; make; bytes to a string and back; copy; min and max. -/
import Derived.Test.YtlkfibmjdigmiabAbN
namespace Go.Ab
open Go Go.RowKit
set_option linter.unusedVariables false
set_option linter.unusedSimpArgs false

/-! x[lo:hi] -/
def evI (σ : St) : Option Operand → Option (Option Int × List (Loc × Option K))
  | none => some (none, [])
  | some x => match ev σ x with
    | some (.e (.c (.d (.i n))), R) => some (some n, R)
    | _ => none
theorem evI_reads {σ : St} {x : Option Operand} {n : Option Int} {R : List (Loc × Option K)} (h : evI σ x = some (n, R)) : Reads R σ := by
  cases x with
  | none => cases h; exact Reads.nil
  | some x =>
    simp only [evI] at h
    split at h <;> try (cases h; done)
    rename_i m R' hx
    cases h
    exact ev_reads hx
theorem evI_sound {σ0 : St} {x : Option Operand} {n : Option Int} {R : List (Loc × Option K)} (h : evI σ0 x = some (n, R)) {cx : Cx} {σ : St} {ι : Nat → Value} {S : Nat → Prop} {a : Act} {w : World} (hr : Reads R σ) (hw : RW cx σ ι S a w) :
    x.map a.eval = n.map fun n => .int .i64 n := by
  cases x with
  | none => cases h; rfl
  | some x =>
    simp only [evI] at h
    split at h <;> try (cases h; done)
    rename_i m R' hx
    cases h
    have := ev_sound hx hr hw
    simp only [VaR, ER, CR] at this
    cases hv : a.eval x <;> rw [hv] at this <;> cases this
    simp [hv]
def loOf (lo : Option Int) : Nat := (lo.getD 0).toNat
def hiOf (hi : Option Int) (len : Nat) : Nat := (hi.getD len).toNat
def bnd (lo hi : Option Int) (len : Nat) : Prop := 0 ≤ lo.getD 0 ∧ lo.getD 0 ≤ hi.getD len ∧ hi.getD len ≤ len
theorem run_bounds {P : Program} {w : World} {isSl : Bool} {len cap : Nat} {lo hi : Option Int} (hlc : len ≤ cap) (h : bnd lo hi len) :
    (Instr.sliceBounds isSl len cap (lo.map fun n => .int .i64 n) (hi.map fun n => .int .i64 n) none).run P w = .ok (loOf lo, hiOf hi len, cap) w := by
  obtain ⟨h1, h2, h3⟩ := h
  cases lo with
  | none =>
    cases hi with
    | none => simp [Instr.sliceBounds, loOf, hiOf]
    | some n =>
      simp only [Option.getD_some, Option.getD_none] at h1 h2 h3
      simp only [Instr.sliceBounds, Option.map_none, Option.map_some, Sem.run_bind, Sem.run_pure, Result.andThen_ok, loOf, hiOf, Option.getD_none, Option.getD_some]
      rw [run_sliceBound w .i64 n cap _ (by omega) (by omega)]
      simp
  | some m =>
    cases hi with
    | none =>
      simp only [Option.getD_some, Option.getD_none] at h1 h2 h3
      simp only [Instr.sliceBounds, Option.map_none, Option.map_some, Sem.run_bind, Sem.run_pure, Result.andThen_ok, loOf, hiOf, Option.getD_none, Option.getD_some]
      rw [run_sliceBound w .i64 m len _ h1 h2]
      simp
    | some n =>
      simp only [Option.getD_some] at h1 h2 h3
      simp only [Instr.sliceBounds, Option.map_some, Sem.run_bind, Sem.run_pure, Result.andThen_ok, loOf, hiOf, Option.getD_some]
      rw [run_sliceBound w .i64 n cap _ (by omega) (by omega)]
      simp only [Result.andThen_ok]
      rw [run_sliceBound w .i64 m n.toNat _ h1 (by omega)]
      simp
def aSlice (T : Tab) (σ : St) (t : TypeId) (x : Operand) (lo hi mx : Option Operand) (d : Option Tmp) : Res :=
  match ev σ x, evI σ lo, evI σ hi, T t, mx, d with
  | some (.e (.c (.d (.s l))), R), some (lo, R1), some (hi, R2), some ⟨.str, _, _, _⟩, none, some d => some (bnd lo hi l.length, R ++ R1 ++ R2, [(.t d, .v (Dv (.s ((l.take (hiOf hi l.length)).drop (loOf lo)))))])
  | some (.e (.c (.d (.sl rows))), R), some (lo, R1), some (hi, R2), some ⟨.sl e, _, _, _⟩, none, some d => match T e with
    | some ti => some (bnd lo hi rows.length ∧ (∀ r ∈ rows, r.length = ti.size), R ++ R1 ++ R2, [(.t d, .v (Dv (.sl ((rows.take (hiOf hi rows.length)).drop (loOf lo)))))])
    | none => none
  | _, _, _, _, _, _ => none
theorem good_slice {P : Program} {T : Tab} (hT : TabOk P T) {o : Oper} {σ0 : St} {t : TypeId} {x : Operand} {lo hi mx : Option Operand} (ho : o.op = .slice t x lo hi mx) : Good P o σ0 (aSlice T σ0 t x lo hi mx o.dst) := by
  intro p R W h hp
  unfold aSlice at h
  split at h
  · rename_i l Rx lo' R1 hi' R2 _ _ _ d hx hlo hhi ht hd
    cases h
    have hu := (hT t _ ht).kind
    simp only [TKOk] at hu
    refine ⟨opt_val hd fun cx σ ι S a w hr hw => ?_, ((ev_reads hx).append (evI_reads hlo)).append (evI_reads hhi)⟩
    have hX := ev_sound hx hr.left.left hw
    have h1 := evI_sound hlo hr.left.right hw
    have h2 := evI_sound hhi hr.right hw
    simp only [VaR, ER, CR] at hX
    cases hv : a.eval x <;> rw [hv] at hX <;> cases hX
    have hb := run_bounds (P := P) (w := w) (isSl := false) (len := l.length) (cap := l.length) (Nat.le_refl _) hp
    refine ⟨.string ⟨((l.take (hiOf hi' l.length)).drop (loOf lo')).toArray⟩, ?_, .s _⟩
    have hex : (⟨l.toArray⟩ : ByteArray).extract (loOf lo') (hiOf hi' l.length) = ⟨((l.take (hiOf hi' l.length)).drop (loOf lo')).toArray⟩ := by
      apply ByteArray.ext
      simp
      rw [List.drop_take]
    simp [execOp, ho, hv, Instr.sliceAt, run_underlying hu, Instr.slice, h1, h2, size_mk, hb, hex]
  · rename_i rows Rx lo' R1 hi' R2 e _ _ _ d hx hlo hhi ht hd
    split at h <;> try (cases h; done)
    rename_i ti hte
    cases h
    have hu := (hT t _ ht).kind
    simp only [TKOk] at hu
    have hok := hT e ti hte
    obtain ⟨hp, hes⟩ := hp
    refine ⟨opt_val hd fun cx σ ι S a w hr hw => ?_, ((ev_reads hx).append (evI_reads hlo)).append (evI_reads hhi)⟩
    have hX := ev_sound hx hr.left.left hw
    have h1 := evI_sound hlo hr.left.right hw
    have h2 := evI_sound hhi hr.right hw
    obtain ⟨a0, cap, es, ad, u, hv, hc, hm, he, ha, hw1, hd1⟩ := (show DR w S (.sl rows) (a.eval x) from hX).sl_inv
    have hb := run_bounds (P := P) (w := w) (isSl := true) (len := rows.length) (cap := cap) hc hp
    have hlen : ((rows.take (hiOf hi' rows.length)).drop (loOf lo')).length = hiOf hi' rows.length - loOf lo' := by
      obtain ⟨q1, q2, q3⟩ := hp
      have : hiOf hi' rows.length ≤ rows.length := by unfold hiOf; omega
      simp; omega
    refine ⟨.slice (if cap = loOf lo' then a0 else a0.map (·.add (loOf lo' * ti.size))) (hiOf hi' rows.length - loOf lo') (cap - loOf lo'), ?_, ?_⟩
    · simp [execOp, ho, hv, Instr.sliceAt, run_underlying hu, Instr.slice, h1, h2, hb, run_sizeOfT hok]
    · have hcap : loOf lo' ≤ cap := by obtain ⟨q1, q2, q3⟩ := hp; unfold loOf; omega
      have hle : hiOf hi' rows.length ≤ cap := by obtain ⟨q1, q2, q3⟩ := hp; unfold hiOf; omega
      have goal : DR w S (.sl ((rows.take (hiOf hi' rows.length)).drop (loOf lo'))) (.slice (if cap = loOf lo' then a0 else a0.map (·.add (loOf lo' * ti.size))) ((rows.take (hiOf hi' rows.length)).drop (loOf lo')).length (cap - loOf lo')) := by
        have hget : ∀ (i : Nat) r, ((rows.take (hiOf hi' rows.length)).drop (loOf lo'))[i]? = some r → rows[loOf lo' + i]? = some r := by
          intro i r hr
          rw [List.getElem?_drop, List.getElem?_take] at hr
          split at hr
          · exact hr
          · cases hr
        refine .sl _ _ _ ti.size (ad.add (loOf lo' * ti.size)) (fun i k => u (loOf lo' + i) k) (by rw [hlen]; omega) (by omega) (fun r hr => hes r (List.mem_of_mem_take (List.mem_of_mem_drop hr))) (fun hne => ?_) (fun i r k d hr hk => ?_) (fun i r k d hr hk => hd1 _ r k d (hget i r hr) hk)
        · have hlt : 0 < ((rows.take (hiOf hi' rows.length)).drop (loOf lo')).length := List.length_pos_iff.2 hne
          rw [hlen] at hlt
          rw [if_neg (by omega), ha (fun e => by rw [e] at hlt; simp [hiOf] at hlt; obtain ⟨q1, q2, q3⟩ := hp; rw [e] at q3; simp at q3; unfold loOf at hlt; omega)]
          rfl
        · have hr2 := hget i r hr
          obtain ⟨q1, q2⟩ := hw1 _ r k d hr2 hk
          have hee : es = ti.size := by rw [← he r (List.mem_of_getElem? hr2)]; exact hes r (List.mem_of_getElem? hr2)
          refine ⟨by rw [add_block]; exact q1, ?_⟩
          rw [add_add, show loOf lo' * ti.size + (i * ti.size + k) = (loOf lo' + i) * es + k by rw [hee, Nat.add_mul]; omega]
          exact q2
      rw [hlen] at goal
      exact goal
  · cases h

/-! min and max of two whole numbers -/
def fMin : V → V → Option (Prop × List (Loc × Option K) × V)
  | .e (.c (.d (.i m))), .e (.c (.d (.i n))) => some (True, [], I (if n < m then n else m))
  | _, _ => none
def fMax : V → V → Option (Prop × List (Loc × Option K) × V)
  | .e (.c (.d (.i m))), .e (.c (.d (.i n))) => some (True, [], I (if n > m then n else m))
  | _, _ => none
theorem good_min {P : Program} {o : Oper} {σ : St} {x y : Operand} {ts : Array TypeId} (ho : o.op = .call { callee := .builtin .min, args := #[x, y], argTypes := ts }) : Good P o σ (lift2 σ x y o.dst fMin) :=
  good_lift2 fun X Y p R Z h hp => by
    unfold fMin at h
    split at h <;> try (cases h; done)
    cases h
    refine ⟨Reads.nil, fun cx σ ι S a w _ _ hx hy => ?_⟩
    simp only [VaR, ER, CR] at hx hy
    cases hv : a.eval x <;> rw [hv] at hx <;> cases hx
    cases hv2 : a.eval y <;> rw [hv2] at hy <;> cases hy
    exact ⟨_, by simp [execOp, ho, resolve, invoke, builtin, hv, hv2, Builtin.min_, Builtin.min2] <;> rfl, .i _⟩
theorem good_max {P : Program} {o : Oper} {σ : St} {x y : Operand} {ts : Array TypeId} (ho : o.op = .call { callee := .builtin .max, args := #[x, y], argTypes := ts }) : Good P o σ (lift2 σ x y o.dst fMax) :=
  good_lift2 fun X Y p R Z h hp => by
    unfold fMax at h
    split at h <;> try (cases h; done)
    cases h
    refine ⟨Reads.nil, fun cx σ ι S a w _ _ hx hy => ?_⟩
    simp only [VaR, ER, CR] at hx hy
    cases hv : a.eval x <;> rw [hv] at hx <;> cases hx
    cases hv2 : a.eval y <;> rw [hv2] at hy <;> cases hy
    exact ⟨_, by simp [execOp, ho, resolve, invoke, builtin, hv, hv2, Builtin.max_, Builtin.max2] <;> rfl, .i _⟩

/-! make([]T, n) -/
def aMake (T : Tab) (σ : St) (t : TypeId) (x y : Operand) (d : Option Tmp) : Res :=
  match ev σ x, ev σ y, T t, d with
  | some (.e (.c (.d (.i n))), R), some (.e (.c (.d (.i m))), R2), some ⟨.sl e, _, _, _⟩, some d => match T e with
    | some ti => match toDs ti.zero with
      | some z => if absent σ (.o (newId σ d)) then some (n = m ∧ 0 ≤ n ∧ ti.bytes * n ≤ 281474976710656, R ++ R2 ++ [(.o (newId σ d), none)], [(.o (newId σ d), .row e ti.size (List.replicate n.toNat z)), (.t d, .v (.e (.c (.own (newId σ d) n.toNat))))]) else none
      | none => none
    | none => none
  | _, _, _, _ => none
theorem good_make {P : Program} {T : Tab} (hT : TabOk P T) {o : Oper} {σ0 : St} {t : TypeId} {x y : Operand} (ho : o.op = .makeSlice t x y) : Good P o σ0 (aMake T σ0 t x y o.dst) := by
  intro p R W h hp
  unfold aMake at h
  split at h <;> try (cases h; done)
  rename_i n Rx m Ry e _ _ _ d hx hy ht hd
  split at h <;> try (cases h; done)
  rename_i ti hte
  split at h <;> try (cases h; done)
  rename_i z hz
  split at h <;> try (cases h; done)
  rename_i habs
  cases h
  obtain ⟨rfl, h0, hbytes⟩ := hp
  have hu := (hT t _ ht).kind
  simp only [TKOk] at hu
  have hok := hT e ti hte
  refine ⟨opt_new hd (by simp) fun cx σ ι S a w hr hw => ?_, ((ev_reads hx).append (ev_reads hy)).append (Reads.one (absent_look habs))⟩
  have hno := hr.right (.o (newId σ0 d), none) (by simp)
  dsimp only at hno
  have hX := ev_sound hx hr.left.left hw
  have hY := ev_sound hy hr.left.right hw
  simp only [VaR, ER, CR] at hX hY
  cases hv : a.eval x <;> rw [hv] at hX <;> cases hX
  cases hv2 : a.eval y <;> rw [hv2] at hY <;> cases hY
  obtain ⟨i, zz, hi, hsz, hby, hzero, hzc⟩ := hok.info
  have hb1 : n ≤ ti.bytes * n := by
    have h1 : (1 : Int) ≤ ti.bytes := by have := hok.bpos; omega
    have := Int.mul_le_mul_of_nonneg_right h1 h0
    simpa using this
  have hrun := run_make (P := P) w t e i zz hu hi hzero .i64 .i64 n n h0 (Int.le_refl _) (by rw [hby]; exact hbytes) (by omega)
  rw [hsz] at hrun
  have hzl : zz.cells.size = ti.size := by rw [← Array.length_toList, hzc, List.length_map, hok.zlen]
  obtain ⟨htt, st⟩ := turn_alloc (ν := tmpsOf a) (w := w) (w0 := w) (σ := σ) (ι := ι) (S := S) (id := newId σ0 d) (k := .row e ti.size (List.replicate n.toNat z)) (p := .slice (some ⟨w.heap.size, 0, none⟩) n.toNat n.toNat) (o := .cells (madeCells zz.cells (n.toNat * ti.size)) e) ⟨rfl, rfl, rfl, rfl⟩ hno
    (fun b hb => by simp [blk] at hb; exact hb.symm)
    (fun st => .inr ⟨w.heap.size, 0, n.toNat, _, (0, 0), by simp, heap_alloc_new w _, .inl rfl, by simp, by simp only [maxLen]; omega, by rw [size_madeCells]; omega, fun i r hri => by
      have hil : i < n.toNat := by have := (List.getElem?_eq_some_iff.1 hri).1; simpa using this
      have hr : r = z := by simp [hil] at hri; exact hri.symm
      subst hr
      have hrl := toDs_length hz
      refine ⟨by rw [hrl, hok.zlen], fun k d hk => ?_⟩
      obtain ⟨c, hc, htd⟩ := toDs_get hz k d hk
      have hkl : k < ti.size := by rw [← hok.zlen]; exact (List.getElem?_eq_some_iff.1 hc).1
      have hlt := mul_le_idx hil hkl
      have hzk : zz.cells[k]? = some (zv c) := by rw [← Array.getElem?_toList, hzc, List.getElem?_map, hc]; rfl
      refine ⟨zv c, ?_, toD_sound (σ := σ) (ι := ι) htd (zconst_sound (List.all_eq_true.1 hok.zok c (List.mem_of_getElem? hc)))⟩
      have hm : (0 + i * ti.size + k) % zz.cells.size = k := by rw [hzl, Nat.zero_add, Nat.mul_comm, Nat.mul_add_mod, Nat.mod_eq_of_lt hkl]
      have hk2 : k < zz.cells.size := by rw [hzl]; exact hkl
      have e1 : zz.cells[k]! = zv c := by rw [getElem!_pos zz.cells k hk2]; rw [Array.getElem?_eq_getElem hk2] at hzk; exact Option.some.inj hzk
      have hlt' : 0 + i * ti.size + k < n.toNat * ti.size := by omega
      simp only [madeCells, Array.getElem?_map, Array.getElem?_range, hlt', if_true, Option.map_some, hm, e1]⟩) hw.vr.sz
  refine ⟨.slice (some ⟨w.heap.size, 0, none⟩) n.toNat n.toNat, _, _, ?_, htt, rfl, .inl ⟨e, ti.size, _, look_upd_same _ _ _, by simp, fun _ => by simp⟩⟩
  simp [execOp, ho, hv, hv2]
  rw [hrun]; rfl
end Go.Ab
