/- Ab, part W: regions whose dead slots are let go of; ends of bodies. -/
import Derived.Test.YtlkfibmjdigmiabAbV
namespace Go.Ab
open Go Go.RowKit
set_option linter.unusedVariables false
set_option linter.unusedSimpArgs false

def keep (ks : List Nat) : St → St
  | [] => []
  | (.t s, k) :: r => match memN s ks with | true => (.t s, k) :: keep ks r | false => keep ks r
  | (.o n, k) :: r => (.o n, k) :: keep ks r
def keepK (ks : List Nat) : St → (St → Prop) → Prop
  | [], c => c []
  | (.t s, k) :: r, c => match memN s ks with | true => keepK ks r fun r' => c ((.t s, k) :: r') | false => keepK ks r c
  | (.o n, k) :: r, c => keepK ks r fun r' => c ((.o n, k) :: r')
theorem keepK_iff {ks : List Nat} : ∀ {σ : St} {c : St → Prop}, keepK ks σ c ↔ c (keep ks σ)
  | [], c => Iff.rfl
  | (.t s, k) :: r, c => by
    unfold keepK keep
    cases memN s ks
    · exact keepK_iff
    · exact keepK_iff
  | (.o n, k) :: r, c => by unfold keepK keep; exact keepK_iff
theorem look_keep_o (ks : List Nat) : ∀ (σ : St) (o : Nat), look (keep ks σ) (.o o) = look σ (.o o)
  | [], o => rfl
  | (.t s, k) :: r, o => by
    unfold keep
    cases memN s ks
    · simp only [look]; rw [if_neg (by simp)]; exact look_keep_o ks r o
    · simp only [look]; rw [if_neg (by simp), if_neg (by simp)]; exact look_keep_o ks r o
  | (.o n, k) :: r, o => by
    unfold keep
    simp only [look]
    rw [look_keep_o ks r o]
theorem look_keep_t (ks : List Nat) : ∀ (σ : St) (s : Nat) (k : K), look (keep ks σ) (.t s) = some k → look σ (.t s) = some k
  | [], s, k, h => h
  | (.t a, x) :: r, s, k, h => by
    unfold keep at h
    cases hm : memN a ks with
    | false =>
      rw [hm] at h
      simp only [look]
      by_cases e : a = s
      · -- the slot was dropped: then it is nowhere
        have hno : ∀ (r : St), look (keep ks r) (.t a) = none := by
          intro r
          induction r with
          | nil => rfl
          | cons p r ih =>
            obtain ⟨l, y⟩ := p
            cases l with
            | o n => unfold keep; simp only [look]; rw [if_neg (by simp)]; exact ih
            | t b =>
              unfold keep
              cases hb : memN b ks with
              | false => exact ih
              | true =>
                simp only [look]
                by_cases e2 : b = a
                · subst e2; rw [hm] at hb; cases hb
                · rw [if_neg (by simpa using e2)]; exact ih
        subst e
        have h : look (keep ks r) (.t a) = some k := h
        rw [hno r] at h; cases h
      · rw [if_neg (by simpa using e)]; exact look_keep_t ks r s k h
    | true =>
      rw [hm] at h
      simp only [look] at h ⊢
      by_cases e : Loc.t a = Loc.t s
      · rw [if_pos e] at h ⊢; exact h
      · rw [if_neg e] at h ⊢; exact look_keep_t ks r s k h
  | (.o n, x) :: r, s, k, h => by
    unfold keep at h
    simp only [look] at h ⊢
    rw [if_neg (by simp)] at h ⊢
    exact look_keep_t ks r s k h
theorem RW.keep (ks : List Nat) {cx : Cx} {σ : St} {ι : Nat → Value} {S : Nat → Prop} {a : Act} {w : World} (h : RW cx σ ι S a w) : RW cx (keep ks σ) ι S a w := by
  have st : Step σ ι S w (Ab.keep ks σ) ι S w := ⟨fun _ h => h, fun _ _ => rfl, fun o k hk => ⟨k, by rw [look_keep_o]; exact hk, Evo.refl' _ _⟩⟩
  have hmut : ∀ o b, Mut (Ab.keep ks σ) ι o b ↔ Mut σ ι o b := fun o b => by unfold Mut; rw [look_keep_o]
  refine ⟨⟨fun s x hx => SlotR.step st (h.vr.slots s x (look_keep_t ks σ s _ hx)), fun o k hk => OR.step st (fun _ _ => rfl) (h.vr.objs o k (by rw [← look_keep_o ks]; exact hk)), fun o b q => h.vr.mutS o b ((hmut o b).1 q), fun o o' b q q' => h.vr.inj o o' b ((hmut o b).1 q) ((hmut o' b).1 q'), h.vr.sz⟩,
    h.size, h.defers, h.fr, fun o b q => h.own o b ((hmut o b).1 q), h.rd, fun o k hk => by rw [look_keep_o]; exact h.io o k hk⟩

section
variable {P : Program} {io : List Nat} {Q : Ex → St → Prop} {σ : St}
theorem SW.keep (ks : List Nat) {c : Code} (h : keepK ks σ (SW P io c Q)) : SW P io c Q σ := by
  rw [keepK_iff] at h
  intro cx ι S a w hio hw hf
  exact h cx ι S a w hio (hw.keep ks) hf
/-- After a part whose end is normal, only some slots are kept. -/
theorem SW.seqK (ks : List Nat) {x y : Code} (h : SW P io x (thenQ (fun s => keepK ks s (SW P io y Q)) Q) σ) : SW P io (.seq x y) Q σ :=
  SW.seq (h.mono fun e s hq => by
    cases e with
    | norm => exact SW.keep ks hq
    | exit id => exact hq
    | ret => exact hq)
theorem SW.eqSt {c : Code} {σ' : St} (he : σ = σ') (h : SW P io c Q σ') : SW P io c Q σ := he ▸ h
/-- A place where several ways come together. -/
theorem SW.mid (J : St → Prop) {x y : Code} (h : SW P io x (thenQ J Q) σ) (hy : ∀ s, J s → SW P io y Q s) : SW P io (.seq x y) Q σ :=
  SW.seq (h.mono fun e s hq => by
    cases e with
    | norm => exact hy s hq
    | exit id => exact hq
    | ret => exact hq)
end
theorem retOk {T : Tab} {io : List Nat} {rs : List ResultVar} {σout s : St} (X : V) (rl : List (Nat × Nat)) (bor : List Nat) (h1 : retV T s rs = some X) (h2 : mL ((.t 0, .v X) :: objPart s) σout rl bor σout) (h3 : mapOk σout rl bor = true) (h4 : retIo io σout rl bor = true) : RetOk T io rs σout s :=
  ⟨X, rl, bor, h1, ⟨h2, h3⟩, h4⟩
/-- An answer of one plain cell. -/
theorem retOk1 {T : Tab} {io : List Nat} {rs : List ResultVar} {s : St} {x y : D} (h1 : retV T s rs = some (Dv x)) (h2 : x = y) : RetOk T io rs [(.t 0, .v (Dv y))] s :=
  ⟨Dv x, [], [], h1, ⟨⟨⟨Dv x, rfl, h2⟩, trivial⟩, rfl⟩, by simp [retIo, objIds, apartN]; exact fun x _ => .inl rfl⟩
end Go.Ab
