/- Ab, part Df: structs compared. -/
import Derived.Test.YtlkfibmjdigmiabAbDe
import Derived.Laws.StructEq
namespace Go.Ab
open Go Go.RowKit
set_option linter.unusedVariables false
set_option linter.unusedSimpArgs false

def eqD : D → D → Bool
  | .i m, .i n => m == n
  | .b m, .b n => m == n
  | .s l, .s r => l == r
  | _, _ => false
def eqDs : List D → List D → Bool
  | x :: xs, y :: ys => eqD x y && eqDs xs ys
  | _, _ => true
def flatK : TK → D → D → Bool
  | .int _, .i _, .i _ => true
  | .bool, .b _, .b _ => true
  | .str, .s _, .s _ => true
  | _, _, _ => false
def flatB (T : Tab) : List Field → Nat → List D → List D → Bool
  | [], _, [], [] => true
  | f :: fs, k, x :: xs, y :: ys => (f.name != "_") && Nat.beq f.offset k && (match T f.type with | some ti => flatK ti.kind x y | none => false) && flatB T fs (k + 1) xs ys
  | _, _, _, _ => false
theorem run_eqF {P : Program} {T : Tab} (hT : TabOk P T) {w : World} {S : Nat → Prop} {va vb : Array Value} (d : Nat) : ∀ (fs : List Field) (k : Nat) (xs ys : List D), flatB T fs k xs ys = true → (∀ (j : Nat) x, xs[j]? = some x → ∃ v, va[k + j]? = some v ∧ DR w S x v) → (∀ (j : Nat) x, ys[j]? = some x → ∃ v, vb[k + j]? = some v ∧ DR w S x v) →
    (Op.eqFields (d + 1) va vb fs).run P w = .ok (eqDs xs ys) w
  | [], k, xs, ys, h, _, _ => by
    cases xs <;> cases ys <;> first | rfl | (simp [flatB] at h)
  | f :: fs, k, [], ys, h, _, _ => by simp [flatB] at h
  | f :: fs, k, x :: xs, [], h, _, _ => by simp [flatB] at h
  | f :: fs, k, x :: xs, y :: ys, h, hx, hy => by
    simp only [flatB, Bool.and_eq_true] at h
    obtain ⟨⟨⟨h1, h2⟩, h3⟩, h4⟩ := h
    have h2 := Nat.eq_of_beq_eq_true h2
    split at h3 <;> try (cases h3; done)
    rename_i ti hti
    have ok := hT _ _ hti
    obtain ⟨u, hu, hxu⟩ := hx 0 x rfl
    obtain ⟨v, hv, hyv⟩ := hy 0 y rfl
    have ih := run_eqF hT d fs (k + 1) xs ys h4 (fun j z hj => by rw [Nat.add_assoc, Nat.add_comm 1 j]; exact hx (j + 1) z hj) (fun j z hj => by rw [Nat.add_assoc, Nat.add_comm 1 j]; exact hy (j + 1) z hj)
    have hag : ti.kind.agg = false := by
      cases hk : ti.kind <;> rw [hk] at h3 <;> first | rfl | (simp [flatK] at h3)
    have pu : (Go.part f.type va f.offset).run P w = .ok u w := by
      rw [h2]; simp only [Go.part, Sem.run_bind, run_isAggT ok, hag, Result.andThen_ok]
      simp only [Nat.add_zero] at hu
      simp [hu]
    have pv : (Go.part f.type vb f.offset).run P w = .ok v w := by
      rw [h2]; simp only [Go.part, Sem.run_bind, run_isAggT ok, hag, Result.andThen_ok]
      simp only [Nat.add_zero] at hv
      simp [hv]
    have heq : (Op.equalIn (d + 1) f.type u v).run P w = .ok (eqD x y) w := by
      have hkd := ok.kind
      cases hk : ti.kind with
      | int k' =>
        rw [hk] at h3 hkd
        cases x <;> cases y <;> simp [flatK] at h3
        cases hxu; cases hyv
        exact run_equalIn_int w d f.type .i64 k' _ _ hkd
      | bool =>
        rw [hk] at h3 hkd
        cases x <;> cases y <;> simp [flatK] at h3
        cases hxu; cases hyv
        exact run_equalIn_bool w d f.type _ _ hkd
      | str =>
        rw [hk] at h3 hkd
        cases x <;> cases y <;> simp [flatK] at h3
        rename_i l r
        cases hxu; cases hyv
        rw [run_equalIn_string w d f.type _ _ hkd]
        simp [eqD, ByteArray.toList_eq]
      | _ => rw [hk] at h3; simp [flatK] at h3
    simp only [Op.eqFields, if_pos (by simpa using h1), Sem.run_bind, pu, pv, heq, Result.andThen_ok]
    cases hxy : eqD x y
    · simp [eqDs, hxy]
    · simp [eqDs, hxy, ih]
def dOf : C → Option D
  | .d x => some x
  | _ => none
theorem opt_eqS {P : Program} {T : Tab} (hT : TabOk P T) {o : Oper} {op : BinOp} {t u : TypeId} {x y : Operand} {d : Nat} {σ0 : St} {xs ys : List D} {Rx Ry : List (Loc × Option K)} (ho : o.op = .binOp op t x y u) (hd : o.dst = some d) (hop : (match op with | .eql => true | .neq => true | _ => false) = true)
    (ht : P.underlying t = some (.struct (P.fieldsOf t))) (hp : P.stoodInHeld t = false) (hm : P.eqGuardType P.depth t = false) (hf : flatB T (P.fieldsOf t).toList 0 xs ys = true)
    (hx : ev σ0 x = some (.e (.agg (xs.map .d)), Rx)) (hy : ev σ0 y = some (.e (.agg (ys.map .d)), Ry)) :
    OpT P o (Rx ++ Ry) [(.t d, .v (B (match op with | .neq => !eqDs xs ys | _ => eqDs xs ys)))] := by
  refine opt_val hd fun cx σ ι S a w hr hw => ?_
  obtain ⟨va, ea, la, ha⟩ := (show ER σ ι w S (.agg (xs.map .d)) _ from ev_sound hx hr.left hw)
  obtain ⟨vb, eb, lb, hb⟩ := (show ER σ ι w S (.agg (ys.map .d)) _ from ev_sound hy hr.right hw)
  have hA : ∀ (j : Nat) z, xs[j]? = some z → ∃ v, va.toArray[0 + j]? = some v ∧ DR w S z v := fun j z hj => by
    have hj' : (xs.map C.d)[j]? = some (.d z) := by simp [hj]
    have hlt : j < va.length := by rw [la]; exact (List.getElem?_eq_some_iff.1 hj').1
    refine ⟨va[j], by simp [hlt], ha j _ _ hj' (by simp [hlt])⟩
  have hB : ∀ (j : Nat) z, ys[j]? = some z → ∃ v, vb.toArray[0 + j]? = some v ∧ DR w S z v := fun j z hj => by
    have hj' : (ys.map C.d)[j]? = some (.d z) := by simp [hj]
    have hlt : j < vb.length := by rw [lb]; exact (List.getElem?_eq_some_iff.1 hj').1
    refine ⟨vb[j], by simp [hlt], hb j _ _ hj' (by simp [hlt])⟩
  have key := run_eqF hT 9998 (P.fieldsOf t).toList 0 xs ys hf hA hB
  have key2 : (Op.equalIn 10000 t (.agg va.toArray) (.agg vb.toArray)).run P w = .ok (eqDs xs ys) w := by
    rw [show (10000 : Nat) = 9999 + 1 from rfl, run_equalIn_struct w 9999 t _ _ ht hp]; exact key
  cases op <;> simp at hop
  · refine ⟨.bool (eqDs xs ys), ?_, .b _⟩
    unfold execOp
    simp only [ho, Act.eval] at *
    simp only [ea, eb]
    rw [Sem.run_bind, Sem.run_bind, run_eqGuard_agg w .eql t x y _ _ hm, Result.andThen_ok, run_eql_struct, key2]
    rfl
  · refine ⟨.bool (!eqDs xs ys), ?_, .b _⟩
    unfold execOp
    simp only [ho, Act.eval] at *
    simp only [ea, eb]
    rw [Sem.run_bind, Sem.run_bind, run_eqGuard_agg w .neq t x y _ _ hm, Result.andThen_ok, run_neq_struct, key2]
    rfl
theorem ex_eqS {P : Program} {T : Tab} (hT : TabOk P T) {o : Oper} {op : BinOp} {t u : TypeId} {x y : Operand} {d : Nat} {σ : St} (xs ys : List D) {Rx Ry : List (Loc × Option K)} {k : List (Loc × Option K) → List (Loc × K) → Prop} (ho : o.op = .binOp op t x y u) (hd : o.dst = some d) (hop : (match op with | .eql => true | .neq => true | _ => false) = true)
    (ht : P.underlying t = some (.struct (P.fieldsOf t))) (hp : P.stoodInHeld t = false) (hm : P.eqGuardType P.depth t = false) (hf : flatB T (P.fieldsOf t).toList 0 xs ys = true)
    (hx : ev σ x = some (.e (.agg (xs.map .d)), Rx)) (hy : ev σ y = some (.e (.agg (ys.map .d)), Ry)) (h : k (Rx ++ Ry) [(.t d, .v (B (match op with | .neq => !eqDs xs ys | _ => eqDs xs ys)))]) : ∃ R W, OpT P o R W ∧ Reads R σ ∧ k R W :=
  ⟨_, _, opt_eqS hT ho hd hop ht hp hm hf hx hy, (fun p hp => by
    rcases List.mem_append.1 hp with hp | hp
    · exact ev_reads hx p hp
    · exact ev_reads hy p hp), h⟩
theorem exc_eqS {P : Program} {T : Tab} (hT : TabOk P T) {o : Oper} {op : BinOp} {t u : TypeId} {x y : Operand} {d : Nat} {σ σ1 : St} {g : Bool} (xs ys : List D) {Rx Ry : List (Loc × Option K)} {k : List (Loc × Option K) → V → Prop} (ho : o.op = .binOp op t x y u) (hd : o.dst = some d) (hop : (match op with | .eql => true | .neq => true | _ => false) = true)
    (ht : P.underlying t = some (.struct (P.fieldsOf t))) (hp : P.stoodInHeld t = false) (hm : P.eqGuardType P.depth t = false) (hf : flatB T (P.fieldsOf t).toList 0 xs ys = true)
    (hx : ev σ1 x = some (.e (.agg (xs.map .d)), Rx)) (hy : ev σ1 y = some (.e (.agg (ys.map .d)), Ry)) (hr : g = true → readOk σ (Rx ++ Ry)) (h : k (Rx ++ Ry) (B (match op with | .neq => !eqDs xs ys | _ => eqDs xs ys))) :
    ∃ R X, (g = true → OpT P o R [(.t d, .v X)] ∧ Reads R σ1) ∧ (g = true → readOk σ R) ∧ k R X :=
  ⟨_, _, fun _ => ⟨opt_eqS hT ho hd hop ht hp hm hf hx hy, (fun p hp => by
    rcases List.mem_append.1 hp with hp | hp
    · exact ev_reads hx p hp
    · exact ev_reads hy p hp)⟩, hr, h⟩
theorem eqD_refl : ∀ {x : D}, (match x with | .i _ => true | .b _ => true | .s _ => true | _ => false) = true → eqD x x = true
  | .i m, _ => by simp [eqD]
  | .b m, _ => by simp [eqD]
  | .s m, _ => by simp [eqD]
end Go.Ab
