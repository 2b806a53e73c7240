/- Ab, part Y: calls as steps of a region. -/
import Derived.Test.YtlkfibmjdigmiabAbX
namespace Go.Ab
open Go Go.RowKit
set_option linter.unusedVariables false
set_option linter.unusedSimpArgs false

def plainC : C → Bool
  | .d _ => true
  | .nil => true
  | .rp _ => true
  | _ => false
def plainE : E → Bool
  | .c x => plainC x
  | .agg cs => cs.all plainC
def plainV : V → Bool
  | .e x => plainE x
  | .tup xs => xs.all plainE
section
variable {τ σ' : St} {rl : List (Nat × Nat)} {bor : List Nat}
theorem mC_plain {c : C} (h : plainC c = true) : mC τ σ' rl bor c c := by cases c <;> simp_all [plainC, mC]
theorem mCs_plain : ∀ {cs : List C}, cs.all plainC = true → mCs τ σ' rl bor cs cs
  | [], _ => trivial
  | c :: cs, h => by
    simp only [List.all_cons, Bool.and_eq_true] at h
    exact ⟨mC_plain h.1, mCs_plain h.2⟩
theorem mE_plain {c : E} (h : plainE c = true) : mE τ σ' rl bor c c := by
  cases c with
  | c x => exact mC_plain h
  | agg cs => exact mCs_plain h
theorem mEs_plain : ∀ {cs : List E}, cs.all plainE = true → mEs τ σ' rl bor cs cs
  | [], _ => trivial
  | c :: cs, h => by
    simp only [List.all_cons, Bool.and_eq_true] at h
    exact ⟨mE_plain h.1, mEs_plain h.2⟩
theorem mV_plain {c : V} (h : plainV c = true) : mV τ σ' rl bor c c := by
  cases c with
  | e x => exact mE_plain h
  | tup cs => exact mEs_plain h
theorem renC_plain {c : C} (h : plainC c = true) : renC rl c = c := by cases c <;> simp_all [plainC, renC]
theorem renCs_plain {cs : List C} (h : cs.all plainC = true) : cs.map (renC rl) = cs := by
  rw [List.all_eq_true] at h
  exact (List.map_congr_left fun c hc => renC_plain (h c hc)).trans (List.map_id cs)
theorem renE_plain {c : E} (h : plainE c = true) : renE rl c = c := by
  cases c with
  | c x => simp [renE, renC_plain (show plainC x = true from h)]
  | agg cs => simp only [renE]; rw [renCs_plain h]
theorem renV_plain {c : V} (h : plainV c = true) : renV rl c = c := by
  cases c with
  | e x => simp [renV, renE_plain (show plainE x = true from h)]
  | tup cs =>
    simp only [renV]
    have h : cs.all plainE = true := h
    rw [List.all_eq_true] at h
    rw [(List.map_congr_left fun c hc => renE_plain (h c hc)).trans (List.map_id cs)]
theorem mL_argSt : ∀ {Ys : List V} {i : Nat}, (∀ j Y, Ys[j]? = some Y → look τ (.t (i + j)) = some (.v Y)) → Ys.all plainV = true → mL τ σ' rl bor (argSt i Ys)
  | [], i, _, _ => trivial
  | Y :: Ys, i, h, hp => by
    simp only [List.all_cons, Bool.and_eq_true] at hp
    refine ⟨⟨Y, h 0 Y rfl, mV_plain hp.1⟩, mL_argSt (fun j Z hj => ?_) hp.2⟩
    rw [show i + 1 + j = i + (j + 1) by omega]
    exact h (j + 1) Z hj
theorem objIds_argSt : ∀ (Ys : List V) (i : Nat), objIds (argSt i Ys) = []
  | [], i => rfl
  | Y :: Ys, i => objIds_argSt Ys (i + 1)
theorem match_plain {Xs : List V} (h : Xs.all plainV = true) : Match (argSt 0 Xs ++ objSt []) (argSt 0 Xs) [] [] := by
  refine ⟨mL_argSt (fun j Y hj => ?_) h, ?_⟩
  · have hlt := (List.getElem?_eq_some_iff.1 hj).1
    rw [Nat.zero_add, look_argSt 0 Xs _ j (Nat.zero_le _) (by omega), Nat.sub_zero, hj]; rfl
  · simp [mapOk, objIds_argSt, nodupN, apartN]
end
section
variable {P : Program} {T : Tab} {f : FuncId} {n : Nat} {σin : St} {X : V} {o : Oper} {c : Call} {d : Nat} {σ : St} {Xs : List V} {Ra : List (Loc × Option K)}
theorem opt_pure (hs : Spec P f n σin [(.t 0, .v X)]) (ho : o.op = .call c) (hc : c.callee = .value (.func f)) (hd : o.dst = some d) (hx : evA σ c.args.toList = some (Xs, Ra)) (hn : Xs.length = n) (hin : σin = argSt 0 Xs) (hp : Xs.all plainV = true) (hX : plainV X = true) :
    OpT P o Ra [(.t d, .v X)] := by
  subst hin
  have := opt_call (robj := []) (rl := []) (bor := []) hs ho hc hx hn (match_plain hp) (by simp [callOkB, objIds, goneIds, objIds_argSt, nodupN, slotsLt]) (.inl rfl)
  have e1 : callR Ra [] [] (argSt 0 Xs) [(.t 0, .v X)] = Ra := by simp [callR, newIds, objIds]
  have e2 : callW [] (argSt 0 Xs) [(.t 0, .v X)] o.dst = [(.t d, .v X)] := by
    simp [callW, objW, outObjs, goneIds, objIds_argSt, hd, dstW, look, renV_plain hX]
  rw [e1, e2] at this
  exact this
theorem ex_pure {k : List (Loc × Option K) → List (Loc × K) → Prop} (hs : Spec P f n σin [(.t 0, .v X)]) (ho : o.op = .call c) (hc : c.callee = .value (.func f)) (hd : o.dst = some d) (hx : evA σ c.args.toList = some (Xs, Ra)) (hn : Xs.length = n) (hin : σin = argSt 0 Xs) (hp : Xs.all plainV = true) (hX : plainV X = true)
    (h : k Ra [(.t d, .v X)]) : ∃ R W, OpT P o R W ∧ Reads R σ ∧ k R W :=
  ⟨Ra, _, opt_pure hs ho hc hd hx hn hin hp hX, evA_reads hx, h⟩
theorem exc_pure {σ1 : St} {g : Bool} {k : List (Loc × Option K) → V → Prop} (hs : g = true → Spec P f n σin [(.t 0, .v X)]) (ho : o.op = .call c) (hc : c.callee = .value (.func f)) (hd : o.dst = some d) (hx : evA σ1 c.args.toList = some (Xs, Ra)) (hn : Xs.length = n) (hin : σin = argSt 0 Xs) (hp : Xs.all plainV = true) (hX : plainV X = true)
    (hr : g = true → readOk σ Ra) (h : k Ra X) : ∃ R X, (g = true → OpT P o R [(.t d, .v X)] ∧ Reads R σ1) ∧ (g = true → readOk σ R) ∧ k R X :=
  ⟨Ra, X, fun hg => ⟨opt_pure (hs hg) ho hc hd hx hn hin hp hX, evA_reads hx⟩, hr, h⟩
theorem ex_call {σout : St} {rl : List (Nat × Nat)} {bor : List Nat} {robj : List (Nat × K)} {k : List (Loc × Option K) → List (Loc × K) → Prop} (hs : Spec P f n σin σout) (ho : o.op = .call c) (hc : c.callee = .value (.func f)) (hx : evA σ c.args.toList = some (Xs, Ra)) (hn : Xs.length = n)
    (hm : Match (argSt 0 Xs ++ objSt robj) σin rl bor) (hk : callOkB rl σin σout = true) (hb : bor = [] ∨ scalarSt σout) (h1 : ∀ p ∈ robj, look σ (.o p.1) = some p.2) (h2 : ∀ j ∈ newIds σin σout, look σ (.o (ren rl j)) = none)
    (h : k (callR Ra robj rl σin σout) (callW rl σin σout o.dst)) : ∃ R W, OpT P o R W ∧ Reads R σ ∧ k R W :=
  ⟨_, _, opt_call hs ho hc hx hn hm hk hb, call_reads hx h1 h2, h⟩
end
end Go.Ab
