/- Plain data: bytes marked with numbers. -/
import Derived.Test.YtlkfibmjdigmiabAbDb
namespace Go.Ab
open Go Go.RowKit
set_option linter.unusedVariables false

def markB (k : Int) (n : Nat) : List UInt8 := (List.range n).map fun i => UInt8.ofNat (k.toNat + i)
theorem markB_length (k : Int) (n : Nat) : (markB k n).length = n := by simp [markB]
theorem markB_succ (k : Int) (n : Nat) : markB k (n + 1) = markB k n ++ [UInt8.ofNat (k.toNat + n)] := by simp [markB, List.range_succ]
theorem wrap8_mark {k : Int} (hk : 0 ≤ k) (i : Nat) : wrap8 (k + i) = ((UInt8.ofNat (k.toNat + i)).toNat : Int) := by
  rw [UInt8.toNat_ofNat']
  unfold wrap8
  omega
theorem markB_getD {k : Int} {i n : Nat} (h : i < n) : (markB k n).getD i 0 = UInt8.ofNat (k.toNat + i) := by
  rw [List.getD_eq_getElem?_getD]
  simp [markB, h]
theorem mark_set {l : List UInt8} {k : Int} {i : Nat} (hi : i < l.length) (hk : 0 ≤ k) :
    (bytesRows (markB k i ++ l.drop i)).set i (setSeg ((bytesRows (markB k i ++ l.drop i)).getD i []) 0 [D.u (wrap8 (k + i))]) = bytesRows (markB k (i + 1) ++ l.drop (i + 1)) := by
  have h1 : i < (markB k i ++ l.drop i).length := by simp [markB_length]; omega
  rw [bytesRows_getD h1]
  have e : setSeg [D.u ((markB k i ++ l.drop i).getD i 0).toNat] 0 [D.u (wrap8 (k + i))] = [D.u (UInt8.ofNat (k.toNat + i)).toNat] := by rw [← wrap8_mark hk]; rfl
  rw [e, bytesRows, bytesRows, ← List.map_set (f := fun b : UInt8 => [D.u (b.toNat : Int)])]
  congr 1
  rw [List.set_append_right (h := by rw [markB_length]; exact Nat.le_refl _), markB_length, Nat.sub_self, List.drop_eq_getElem_cons hi, List.set_cons_zero, markB_succ, List.append_assoc]
  rfl
theorem eqB_step {l m : List UInt8} {i : Nat} (hl : l.length = m.length) (hi : i < l.length) (h : l.take i = m.take i) (hg : l.getD i 0 = m.getD i 0) : l.take (i + 1) = m.take (i + 1) := by
  rw [List.take_add_one, List.take_add_one, h]
  rw [List.getD_eq_getElem?_getD, List.getD_eq_getElem?_getD] at hg
  have h1 : m[i]? = some m[i] := List.getElem?_eq_getElem (by omega)
  have h2 : l[i]? = some l[i] := List.getElem?_eq_getElem hi
  rw [h1, h2] at hg ⊢
  have hg : l[i] = m[i] := by simpa using hg
  rw [hg]


theorem framePack_len (f : FrameR) : (framePack f).length ≤ 17 := by
  rw [framePack_eq]
  split
  · rename_i h
    have := packBody_len h
    simp [two]; omega
  · simp
def robjOk (σ : St) : List (Nat × K) → Prop
  | [] => True
  | p :: r => look σ (.o p.1) = some p.2 ∧ robjOk σ r
theorem robjOk_spec {σ : St} : ∀ {l : List (Nat × K)}, robjOk σ l → ∀ p ∈ l, look σ (.o p.1) = some p.2
  | q :: r, h, p, hp => by
    rcases List.mem_cons.1 hp with rfl | hp
    · exact h.1
    · exact robjOk_spec h.2 p hp
section
variable {P : Program} {f : FuncId} {n : Nat} {σin σout : St} {o : Oper} {c : Call} {σ : St} {Xs : List V} {Ra : List (Loc × Option K)}
/-- A call with plain arguments; new objects come back. -/
theorem ex_callP {k : List (Loc × Option K) → List (Loc × K) → Prop} (rl : List (Nat × Nat)) (hs : Spec P f n σin σout) (ho : o.op = .call c) (hc : c.callee = .value (.func f)) (hx : evA σ c.args.toList = some (Xs, Ra)) (hn : Xs.length = n) (hin : σin = argSt 0 Xs) (hp : Xs.all plainV = true)
    (hk : callOkB rl σin σout = true) (h2 : ∀ j ∈ newIds σin σout, look σ (.o (ren rl j)) = none) (h : k (callR Ra [] rl σin σout) (callW rl σin σout o.dst)) : ∃ R W, OpT P o R W ∧ Reads R σ ∧ k R W := by
  subst hin
  refine ex_call (robj := []) (rl := rl) (bor := []) hs ho hc hx hn ⟨mL_argSt (fun j Y hj => ?_) hp, ?_⟩ hk (.inl rfl) (by simp) h2 h
  · have hlt := (List.getElem?_eq_some_iff.1 hj).1
    rw [Nat.zero_add, look_argSt 0 Xs _ j (Nat.zero_le _) (by omega), Nat.sub_zero, hj]; rfl
  · simp [mapOk, objIds_argSt, nodupN, apartN]
end
end Go.Ab
