/- Contracts whose new slice is only read further on; regions with a fork at each guard. -/
import Derived.Test.YtlkfibmjdigmiabAbDl
import Derived.Test.YtlkfibmjdigmiabAbDf
namespace Go.Ab
open Go Go.RowKit
set_option linter.unusedVariables false
set_option linter.unusedSimpArgs false

/-- A new slice that comes back, as data. -/
theorem Spec.freeze {P : Program} {f : FuncId} {n m : Nat} {σin : St} {e : TypeId} {es : Nat} {rows : List (List D)} (h : Spec P f n σin [(.t 0, .v (.e (.c (.own 0 m)))), (.o 0, .row e es rows)]) (hm : rows.length = m) (h0 : objIds σin = []) : Spec P f n σin [(.t 0, .v (Dv (.sl rows)))] := by
  have hno : ∀ o k, look σin (.o o) = some k → False := fun o k hk => by have := mem_objIds hk; rw [h0] at this; cases this
  refine ⟨h.1, fun ι ν S w args h1 h2 h3 => calls_mono (fun ex w' => ?_) (h.2 ι ν S w args h1 h2 h3)⟩
  rintro ⟨v, ι', S', rfl, hp⟩
  have hrow := hp.vr.objs 0 (.row e es rows) rfl
  have hv : v = ι' 0 := by
    obtain ⟨_, h2⟩ := (show CR _ ι' w' S' (.own 0 m) v from hp.vr.slots 0 _ rfl)
    rcases h2 with ⟨e2, es2, rows2, hl, _, hv⟩ | hd
    · cases hl; exact hv hm
    · cases hd
  have hmut : ∀ b, blk (ι' 0) = some b → Mut [(Loc.t 0, K.v (.e (.c (.own 0 m)))), (.o 0, .row e es rows)] ι' 0 b := fun b hb => ⟨⟨_, rfl, trivial⟩, hb⟩
  refine ⟨v, ι', fun b => S' b ∨ blk (ι' 0) = some b, rfl, hp.fr, ⟨fun s k hk => ?_, fun o k hk => ?_, fun o b hm2 => ?_, fun o o' b hm2 => ?_, fun b hb => ?_⟩, fun b hb => ?_, fun o b hm2 => ?_, fun o k k' hk hk' => ?_⟩
  · simp only [look] at hk
    split at hk
    · rename_i e3; cases e3; cases hk
      show DR w' _ (.sl rows) v
      rw [hv]; exact DR_of_row hrow (fun b h => .inl h) (fun b h => .inr h)
    · cases hk
  · simp [look] at hk
  · obtain ⟨⟨k, hk, _⟩, _⟩ := hm2; simp [look] at hk
  · obtain ⟨⟨k, hk, _⟩, _⟩ := hm2; simp [look] at hk
  · rcases hb with hb | hb
    · exact hp.vr.sz b hb
    · exact OR.lt hrow trivial hb
  · rcases hb with hb | hb
    · exact hp.rd b hb
    · rcases hp.own 0 b (hmut b hb) with h | ⟨⟨k, hk, _⟩, _⟩
      · exact .inr h
      · exact (hno 0 k hk).elim
  · obtain ⟨⟨k, hk, _⟩, _⟩ := hm2; simp [look] at hk
  · exact (hno o k hk).elim

/-! regions with a fork at each guard -/
def goF (P : Program) (T : Tab) (io : List Nat) (ops : List Oper) : List Oper → St → (St → Prop) → Prop
  | [], σ, k => k σ
  | o :: os, σ, k => match o.guard with
    | none => stepE P T io o σ fun σ' => goF P T io ops os σ' k
    | some (j, want) => match (ops[j]?).bind (·.dst), o.dst with
      | some s, some d => match gOf want (look σ (.t s)) with
        | some g => (g = true → stepE P T io o σ fun σ' => goF P T io ops os σ' k) ∧ (g = false → ∃ X, updK σ (.t d) (.cv s want false X) fun σ' => goF P T io ops os σ' k)
        | none => False
      | _, _ => False
theorem goF_sound {P : Program} {T : Tab} (hT : TabOk P T) {io : List Nat} {ops : Array Oper} {cx : Cx} (hio : ∀ o k, cx.k0 o = some k → o ∈ io) {Q : Exit → Act → World → Prop} {k : St → Prop} (hk : ∀ σ ι S a w, k σ → RW cx σ ι S a w → Q .normal a w) : ∀ (l : List Oper) (σ : St) (ι : Nat → Value) (S : Nat → Prop) (a : Act) (w : World), goF P T io ops.toList l σ k → RW cx σ ι S a w → (∀ o ∈ l, ∀ d, o.dst = some d → d < cx.N) → wpList P ops Q l a w
  | [], σ, ι, S, a, w, h, hw, hf => hk σ ι S a w h hw
  | o :: os, σ, ι, S, a, w, h, hw, hf => by
    have hfo := hf o (List.mem_cons_self ..)
    have hfs : ∀ o ∈ os, ∀ d, o.dst = some d → d < cx.N := fun o ho => hf o (List.mem_cons_of_mem _ ho)
    have run : (stepE P T io o σ fun σ' => goF P T io ops.toList os σ' k) → o.wp P a w (fun a w => wpList P ops Q os a w) Q := fun h => by
      obtain ⟨σ1, hwk, R, Ws, h1, h2, h3⟩ := stepE_sound hT h
      obtain ⟨ι1, S1, hw1⟩ := hwk cx ι S a w hio hw
      refine h1 cx σ1 ι1 S1 a w h2 hw1 hfo _ Q fun W hW ι' S' a' w' hw' => ?_
      have h3 := h3 W hW
      rw [updsK_iff] at h3
      exact goF_sound hT hio hk os _ ι' S' a' w' h3 hw' hfs
    unfold wpList
    simp only [goF] at h
    split at h
    · rename_i hg
      rw [if_pos (by simp [Region.wanted, hg])]
      exact .inl (run h)
    · rename_i j want hg
      split at h <;> try (exact h.elim)
      rename_i s d hs hd
      split at h <;> try (exact h.elim)
      rename_i g hl
      have hs' : (ops[j]?).bind (·.dst) = some s := by simpa using hs
      cases g with
      | true =>
        rw [wanted_iff hw hg hs' hl, if_pos rfl]
        exact .inl (run (h.1 rfl))
      | false =>
        obtain ⟨X, h2⟩ := h.2 rfl
        rw [updK_iff] at h2
        exact it_cond (R := []) (X := X) hg hs' hd hl (by simp) (by simp) cx σ ι S a w reads_actual hw hfo _ Q fun ι' S' a' w' hw' => goF_sound hT hio hk os _ ι' S' a' w' (by simpa [upds] using h2) hw' hfs
theorem SW.regF {P : Program} {io : List Nat} {Q : Ex → St → Prop} {σ : St} {T : Tab} (hT : TabOk P T) (ks : List Nat) {id : Nat} {ops : Array Oper} (h : goF P T io ops.toList ops.toList σ fun σ' => keepK ks σ' (Q .norm)) : SW P io (.region id ops false) Q σ := by
  intro cx ι S a w hio hw hf
  have hfit : ∀ o ∈ ops.toList, ∀ d, o.dst = some d → d < cx.N := fun o ho => fit_of (by simpa [fits] using hf) ho
  refine wp_region_list (goF_sound hT hio (fun σ' ι' S' a' w' h4 hw' => ?_) ops.toList σ ι S a w h hw hfit)
  rw [keepK_iff] at h4
  exact ⟨_, ι', S', h4, hw'.keep ks⟩

/-! bytes, bit by bit unlike -/
theorem bv8_nat {m : Int} (hm : 0 ≤ m) : BitVec.ofInt 8 m = BitVec.ofNat 8 m.toNat := by
  obtain ⟨k, rfl⟩ := Int.eq_ofNat_of_zero_le hm
  exact BitVec.ofInt_natCast ..
theorem xor8_nat {m n : Int} (hm : 0 ≤ m ∧ m < 256) (hn : 0 ≤ n ∧ n < 256) : xor8 m n = ((m.toNat ^^^ n.toNat : Nat) : Int) := by
  have hlt : m.toNat ^^^ n.toNat < 2 ^ 8 := Nat.xor_lt_two_pow (by omega) (by omega)
  show IntKind.u8.wrap ((BitVec.ofInt 8 m ^^^ BitVec.ofInt 8 n).toNat : Int) = _
  rw [bv8_nat hm.1, bv8_nat hn.1, BitVec.toNat_xor, BitVec.toNat_ofNat, BitVec.toNat_ofNat, Nat.mod_eq_of_lt (by omega), Nat.mod_eq_of_lt (by omega), wrap8_is]
  unfold wrap8
  omega
theorem u8_spoil {x : UInt8} {c : Int} (hc : 1 ≤ c ∧ c ≤ 255) : u8 (xor8 (x.toNat : Int) c) ≠ x := by
  intro e
  have h1 := u8_toNat (xor8 (x.toNat : Int) c)
  have hx := u8_lt x
  have h2 := xor8_nat (m := (x.toNat : Int)) (n := c) (by omega) (by omega)
  rw [e, ← xor8_range, h2] at h1
  rw [Int.toNat_natCast] at h1
  have h3 : x.toNat = x.toNat ^^^ c.toNat := by omega
  have h4 : x.toNat ^^^ (x.toNat ^^^ c.toNat) = x.toNat ^^^ x.toNat := congrArg (x.toNat ^^^ ·) h3.symm
  rw [← Nat.xor_assoc, Nat.xor_self, Nat.zero_xor] at h4
  omega
end Go.Ab
