/- Plain frames: their ways, their lengths; what is read of their bytes, whole, cut, or spoilt. -/
import Derived.Test.YtlkfibmjdigmiabAbDk
namespace Go.Ab
open Go Go.RowKit
set_option linter.unusedVariables false

theorem frameOk_way {f : FrameR} (h : frameOk f = true) : (f.kind = 1 → f.dst = noteNext f.src f.to) ∧ (f.kind ≠ 1 → f.src = noteNext f.dst f.to ∧ f.size = 0 ∧ f.mix = 0 ∧ f.data = []) := by
  simp only [frameOk, Bool.and_eq_true] at h
  obtain ⟨_, h7⟩ := h
  split at h7
  · rename_i hk
    simp only [Bool.and_eq_true, decide_eq_true_eq] at h7
    exact ⟨fun _ => h7.2, fun h => absurd hk h⟩
  · rename_i hk
    split at h7
    · simp only [Bool.and_eq_true, decide_eq_true_eq] at h7
      exact ⟨fun h => absurd h hk, fun _ => ⟨h7.2, h7.1.1.1, h7.1.1.2, h7.1.2⟩⟩
    · cases h7
theorem noteNext_side {a b n : Int} (h : n = noteNext a b) (hn : 0 ≤ n) : a - n = 1 ∨ n - a = 1 := by
  unfold noteNext at h
  split at h
  · omega
  · split at h <;> omega
theorem frameWay1 {f : FrameR} (h : frameOk f = true) (hk : f.kind = 1) : noteNext f.src f.to = f.dst ∧ (f.src - f.dst = 1 ∨ f.dst - f.src = 1) := by
  obtain ⟨k1, k2, _⟩ := frameOk_spec h
  have := (frameOk_way h).1 hk
  exact ⟨this.symm, noteNext_side this (by omega)⟩
theorem frameWay2 {f : FrameR} (h : frameOk f = true) (hk : f.kind ≠ 1) : noteNext f.dst f.to = f.src ∧ (f.src - f.dst = 1 ∨ f.dst - f.src = 1) := by
  obtain ⟨k1, k2, _⟩ := frameOk_spec h
  have := ((frameOk_way h).2 hk).1
  exact ⟨this.symm, (noteNext_side this (by omega)).symm⟩
theorem packBody_length {f : FrameR} (h : frameOk f = true) : (packBody f).length = if f.kind = 1 then 15 else 8 := by
  have := (frameOk_spec h).2.2.2.2.2.2.2
  unfold packBody packHead two
  split
  · rename_i hk; simp [(this hk).2.2]
  · simp
theorem framePack_ok {f : FrameR} (h : frameOk f = true) : framePack f = packBody f ++ two (fsum (packBody f) (packBody f).length) := by rw [framePack_eq, if_pos h]
theorem framePack_no {f : FrameR} (h : frameOk f = false) : framePack f = [] := by rw [framePack_eq, if_neg (by rw [h]; simp)]
theorem two_length (n : Int) : (two n).length = 2 := rfl
theorem framePack_length {f : FrameR} (h : frameOk f = true) : (framePack f).length = if f.kind = 1 then 17 else 10 := by
  rw [framePack_ok h, List.length_append, packBody_length h, two_length]
  split <;> rfl
theorem ok_of_pack {f : FrameR} (h : framePack f ≠ []) : frameOk f = true := by
  cases hf : frameOk f with
  | true => rfl
  | false => exact absurd (framePack_no hf) h
theorem b8_val {x : Int} (h : 0 ≤ x ∧ x < 256) : (((b8 x).toNat : Nat) : Int) = x := b8_toNat h
theorem readFrame_pack {f : FrameR} (h : frameOk f = true) : readFrame (framePack f) = f := by
  obtain ⟨k1, k2, k3, k4, k5, k6, k7, k8⟩ := frameOk_spec h
  have hl := framePack_length h
  have hp := framePack_ok h
  generalize hs : fsum (packBody f) (packBody f).length = s at hp
  by_cases hk : f.kind = 1
  · obtain ⟨m1, m2, m3⟩ := k8 hk
    rw [if_pos hk] at hl
    match hd : f.data, m3 with
    | [d0, d1, d2, d3], _ =>
      have e : framePack f = [b8 f.kind, b8 f.src, b8 f.dst, b8 f.frm, b8 f.num, b8 f.to, b8 (f.til / 256), b8 (f.til % 256), b8 f.size, b8 (f.mix / 256), b8 (f.mix % 256), d0, d1, d2, d3, b8 ((s : Int) / 256), b8 ((s : Int) % 256)] := by
        rw [hp, packBody, if_pos hk, hd]; rfl
      rw [e]
      have e1 : f.til / 256 * 256 + f.til % 256 = f.til := by omega
      have e2 : f.mix / 256 * 256 + f.mix % 256 = f.mix := by omega
      simp only [readFrame, byteI, List.length_cons, List.length_nil, List.getD_cons_zero, List.getD_cons_succ]
      rw [b8_val (x := f.kind) (by omega), b8_val (x := f.src) (by omega), b8_val (x := f.dst) (by omega), b8_val (x := f.frm) (by omega), b8_val (x := f.num) (by omega), b8_val (x := f.to) (by omega), b8_val (x := f.til / 256) (by omega), b8_val (x := f.til % 256) (by omega), b8_val (x := f.size) (by omega), b8_val (x := f.mix / 256) (by omega), b8_val (x := f.mix % 256) (by omega), e1, e2]
      simp [← hd]
  · obtain ⟨w1, w2, w3, w4⟩ := (frameOk_way h).2 hk
    have e : framePack f = [b8 f.kind, b8 f.src, b8 f.dst, b8 f.frm, b8 f.num, b8 f.to, b8 (f.til / 256), b8 (f.til % 256), b8 ((s : Int) / 256), b8 ((s : Int) % 256)] := by
      rw [hp, packBody, if_neg hk]; rfl
    rw [e]
    have e1 : f.til / 256 * 256 + f.til % 256 = f.til := by omega
    simp only [readFrame, byteI, List.length_cons, List.length_nil, List.getD_cons_zero, List.getD_cons_succ]
    rw [b8_val (x := f.kind) (by omega), b8_val (x := f.src) (by omega), b8_val (x := f.dst) (by omega), b8_val (x := f.frm) (by omega), b8_val (x := f.num) (by omega), b8_val (x := f.to) (by omega), b8_val (x := f.til / 256) (by omega), b8_val (x := f.til % 256) (by omega), e1]
    obtain ⟨a0, a1, a2, a3, a4, a5, a6, a7, a8, a9⟩ := f
    simp at w2 w3 w4
    simp [w2, w3, w4]
theorem unpack_pack {f : FrameR} (h : frameOk f = true) : unpackOk (framePack f) = true := by
  have hl := framePack_length h
  unfold unpackOk
  rw [readFrame_pack h]
  split at hl <;> simp [hl]
theorem unpackF_pack {f : FrameR} (h : frameOk f = true) : unpackF (framePack f) = f := by
  rw [unpackF, if_pos (unpack_pack h), readFrame_pack h]
theorem unpackOk_spec {l : List UInt8} (h : unpackOk l = true) : (l.length = 10 ∨ l.length = 17) ∧ framePack (readFrame l) = l ∧ frameOk (readFrame l) = true := by
  simp only [unpackOk, Bool.and_eq_true, Bool.or_eq_true, beq_iff_eq] at h
  refine ⟨h.1, h.2, ok_of_pack fun e => ?_⟩
  have : l = [] := by rw [← h.2]; exact e
  rw [this] at h
  simp at h
/-- A beginning of a frame is none. -/
theorem unpack_take {f : FrameR} (h : frameOk f = true) {i : Nat} (hi : i < (framePack f).length) : unpackOk ((framePack f).take i) = false := by
  cases hu : unpackOk ((framePack f).take i) with
  | false => rfl
  | true =>
    exfalso
    obtain ⟨h1, h2, h3⟩ := unpackOk_spec hu
    have hl := framePack_length h
    have hl3 := framePack_length h3
    rw [h2] at hl3
    have e : ((framePack f).take i).length = i := by rw [List.length_take]; omega
    rw [e] at h1 hl3
    have hk : (readFrame ((framePack f).take i)).kind = f.kind := by
      have h5 : (readFrame (framePack f)).kind = f.kind := by rw [readFrame_pack h]
      rw [← h5]
      show byteI _ 0 = byteI _ 0
      unfold byteI
      rw [List.getD_eq_getElem?_getD, List.getD_eq_getElem?_getD, List.getElem?_take_of_lt (by omega)]
    rw [hk] at hl3
    split at hl <;> split at hl3 <;> omega
theorem two_inj {m n : Nat} (hm : m < 65521) (hn : n < 65521) (h : two (m : Int) = two (n : Int)) : m = n := by
  simp only [two, List.cons.injEq, and_true] at h
  have h1 : ((b8 ((m : Int) / 256)).toNat : Int) = ((b8 ((n : Int) / 256)).toNat : Int) := congrArg (fun b : UInt8 => (b.toNat : Int)) h.1
  have h2 : ((b8 ((m : Int) % 256)).toNat : Int) = ((b8 ((n : Int) % 256)).toNat : Int) := congrArg (fun b : UInt8 => (b.toNat : Int)) h.2
  rw [b8_toNat (by omega), b8_toNat (by omega)] at h1 h2
  omega
/-- A frame of which one byte is another one is never read. -/
theorem unpack_set {f : FrameR} (h : frameOk f = true) {i : Nat} {y : UInt8} (hi : i < (framePack f).length) (hy : y ≠ (framePack f).getD i 0) : unpackOk ((framePack f).set i y) = false := by
  cases hu : unpackOk ((framePack f).set i y) with
  | false => rfl
  | true =>
    exfalso
    obtain ⟨h1, h2, h3⟩ := unpackOk_spec hu
    generalize hg : readFrame ((framePack f).set i y) = g at h2 h3
    have p1 := framePack_ok h
    have p2 := framePack_ok h3
    rw [h2] at p2
    have hlen : (packBody g).length = (packBody f).length := by
      have := congrArg List.length p2
      rw [List.length_set, p1, List.length_append, List.length_append, two_length, two_length] at this
      omega
    generalize packBody f = b at *
    generalize packBody g = c at *
    rw [p1] at p2 hy hi
    have hs1 := fsum_lt b b.length
    have hs2 := fsum_lt c c.length
    by_cases hlt : i < b.length
    · rw [List.set_append_left _ _ hlt] at p2
      obtain ⟨q1, q2⟩ := List.append_inj p2 (by rw [List.length_set]; exact hlen.symm)
      have q3 := two_inj hs1 hs2 q2
      rw [← q1, List.length_set] at q3
      refine fsum_set hlt ?_ q3.symm
      rwa [List.getD_eq_getElem?_getD, List.getElem?_append_left hlt, ← List.getD_eq_getElem?_getD] at hy
    · rw [List.set_append_right _ _ (by omega)] at p2
      obtain ⟨q1, q2⟩ := List.append_inj p2 hlen.symm
      subst q1
      have hj : i - b.length < 2 := by simp [two_length] at hi; omega
      apply hy
      have q3 : ((two (fsum b b.length)).set (i - b.length) y).getD (i - b.length) 0 = (two (fsum b b.length)).getD (i - b.length) 0 := congrArg (fun l : List UInt8 => l.getD (i - b.length) 0) q2
      rw [getD_set_same (by rw [two_length]; exact hj)] at q3
      rw [List.getD_eq_getElem?_getD, List.getElem?_append_right (by omega), ← List.getD_eq_getElem?_getD]
      exact q3
theorem unpack_more {f : FrameR} (h : frameOk f = true) (y : UInt8) : unpackOk (framePack f ++ [y]) = false := by
  have hl := framePack_length h
  have : (framePack f ++ [y]).length = 18 ∨ (framePack f ++ [y]).length = 11 := by
    rw [List.length_append, hl]; split <;> simp
  unfold unpackOk
  rcases this with h | h <;> rw [h] <;> rfl
end Go.Ab
