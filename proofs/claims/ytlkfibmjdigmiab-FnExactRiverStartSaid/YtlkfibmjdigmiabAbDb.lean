/- Plain data, more: frames as bytes. -/
import Derived.Test.YtlkfibmjdigmiabAbDat
namespace Go.Ab
open Go Go.RowKit
set_option linter.unusedVariables false

def b8 (x : Int) : UInt8 := UInt8.ofNat x.toNat
def two (n : Int) : List UInt8 := [b8 (n / 256), b8 (n % 256)]
def framePack (f : FrameR) : List UInt8 :=
  if frameOk f then
    let body := [b8 f.kind, b8 f.src, b8 f.dst, b8 f.frm, b8 f.num, b8 f.to] ++ two f.til ++ (if f.kind = 1 then [b8 f.size] ++ two f.mix ++ f.data else [])
    body ++ two (fsum body body.length)
  else []
theorem b8_toNat {x : Int} (h : 0 ≤ x ∧ x < 256) : ((b8 x).toNat : Int) = x := by
  unfold b8
  rw [UInt8.toNat_ofNat']
  omega
theorem wrap8_of {x : Int} (h : 0 ≤ x ∧ x < 256) : wrap8 x = x := by unfold wrap8; omega
theorem b8_row {x : Int} (h : 0 ≤ x ∧ x < 256) : [D.u (wrap8 x)] = [D.u (b8 x).toNat] := by rw [wrap8_of h, b8_toNat h]
theorem two_rows {n : Int} (h : 0 ≤ n ∧ n < 65536) : [[D.u (wrap8 (wrap64 (n.tdiv 256)))], [D.u (wrap8 (n.tmod 256))]] = bytesRows (two n) := by
  rw [Int.tdiv_eq_ediv_of_nonneg h.1, Int.tmod_eq_emod_of_nonneg h.1, wrap64_of (by omega), wrap8_of (by omega), wrap8_of (by omega)]
  simp only [bytesRows, two, List.map_cons, List.map_nil]
  rw [b8_toNat (by omega), b8_toNat (by omega)]
theorem scalar_bytes (l : List UInt8) : ∀ r ∈ bytesRows l, ∀ d ∈ r, scalarD d := by
  intro r hr d hd
  obtain ⟨b, _, rfl⟩ := List.mem_map.1 hr
  simp at hd; subst hd; trivial
theorem scalarSt_own (l : List UInt8) (e : TypeId) (n : Nat) : scalarSt [(.t 0, .v (.e (.c (.own 0 n)))), (.o 0, .row e 1 (bytesRows l))] := by
  intro p hp
  simp at hp
  rcases hp with rfl | rfl
  · trivial
  · exact scalar_bytes l
theorem scalarSt_i (n : Int) : scalarSt [(.t 0, .v (I n))] := by
  intro p hp
  simp at hp
  subst hp; trivial
def packHead (f : FrameR) : List UInt8 := [b8 f.kind, b8 f.src, b8 f.dst, b8 f.frm, b8 f.num, b8 f.to] ++ two f.til
def packBody (f : FrameR) : List UInt8 := packHead f ++ (if f.kind = 1 then [b8 f.size] ++ two f.mix ++ f.data else [])
theorem framePack_eq (f : FrameR) : framePack f = if frameOk f then packBody f ++ two (fsum (packBody f) (packBody f).length) else [] := by
  unfold framePack packBody packHead
  rfl
theorem frameOk_spec {f : FrameR} (h : frameOk f = true) : (0 ≤ f.src ∧ f.src ≤ 3) ∧ (0 ≤ f.dst ∧ f.dst ≤ 3) ∧ (0 ≤ f.frm ∧ f.frm ≤ 3) ∧ (0 ≤ f.to ∧ f.to ≤ 3) ∧ (1 ≤ f.num ∧ f.num ≤ 99) ∧ (1 ≤ f.til ∧ f.til ≤ 999) ∧ (1 ≤ f.kind ∧ f.kind ≤ 3) ∧ (f.kind = 1 → (1 ≤ f.size ∧ f.size ≤ 24) ∧ (0 ≤ f.mix ∧ f.mix ≤ 999) ∧ f.data.length = 4) := by
  simp only [frameOk, isNode, inB, Bool.and_eq_true, decide_eq_true_eq] at h
  obtain ⟨⟨⟨⟨⟨⟨h1, h2⟩, h3⟩, h4⟩, h5⟩, h6⟩, h7⟩ := h
  split at h7
  · rename_i hk
    simp only [Bool.and_eq_true, decide_eq_true_eq] at h7
    exact ⟨h1, h2, h3, h4, h5, h6, by omega, fun _ => ⟨h7.1.1.1, h7.1.1.2, h7.1.2⟩⟩
  · split at h7
    · rename_i hk hk2
      exact ⟨h1, h2, h3, h4, h5, h6, by omega, fun h => absurd h hk⟩
    · cases h7
theorem packBody_len {f : FrameR} (h : frameOk f = true) : (packBody f).length ≤ 15 := by
  have := (frameOk_spec h).2.2.2.2.2.2.2
  unfold packBody packHead two
  split
  · rename_i hk; simp [(this hk).2.2]
  · simp
theorem packHead_rows {f : FrameR} (h : frameOk f = true) : [[D.u (wrap8 f.kind)], [.u (wrap8 f.src)], [.u (wrap8 f.dst)], [.u (wrap8 f.frm)], [.u (wrap8 f.num)], [.u (wrap8 f.to)], [.u (wrap8 (wrap64 (f.til.tdiv 256)))], [.u (wrap8 (f.til.tmod 256))]] = bytesRows (packHead f) := by
  obtain ⟨k1, k2, k3, k4, k5, k6, k7, k8⟩ := frameOk_spec h
  rw [packHead, ← bytesRows_append, ← two_rows (by omega)]
  simp only [bytesRows, List.map_cons, List.map_nil, List.cons_append, List.nil_append]
  rw [b8_row (x := f.kind) (by omega), b8_row (x := f.src) (by omega), b8_row (x := f.dst) (by omega), b8_row (x := f.frm) (by omega), b8_row (x := f.num) (by omega), b8_row (x := f.to) (by omega)]
theorem packTail_rows {f : FrameR} (h : frameOk f = true) (hk : f.kind = 1) : bytesRows (packHead f) ++ [[D.u (wrap8 f.size)], [.u (wrap8 (wrap64 (f.mix.tdiv 256)))], [.u (wrap8 (f.mix.tmod 256))]] ++ bytesRows f.data = bytesRows (packBody f) := by
  obtain ⟨m1, m2, m3⟩ := (frameOk_spec h).2.2.2.2.2.2.2 hk
  rw [packBody, if_pos hk, ← bytesRows_append, ← bytesRows_append, ← bytesRows_append, ← two_rows (by omega)]
  simp only [bytesRows, List.map_cons, List.map_nil, List.cons_append, List.nil_append, List.append_assoc]
  rw [b8_row (x := f.size) (by omega)]
theorem packBody_plain {f : FrameR} (hk : ¬ f.kind = 1) : packBody f = packHead f := by simp [packBody, hk]
def packSix (f : FrameR) : List UInt8 := [b8 f.kind, b8 f.src, b8 f.dst, b8 f.frm, b8 f.num, b8 f.to]
theorem packSix_rows {f : FrameR} (h : frameOk f = true) : [] ++ [[D.u (wrap8 f.kind)], [.u (wrap8 f.src)], [.u (wrap8 f.dst)], [.u (wrap8 f.frm)], [.u (wrap8 f.num)], [.u (wrap8 f.to)]] = bytesRows (packSix f) := by
  obtain ⟨k1, k2, k3, k4, k5, k6, k7, k8⟩ := frameOk_spec h
  simp only [packSix, bytesRows, List.map_cons, List.map_nil, List.nil_append]
  rw [b8_row (x := f.kind) (by omega), b8_row (x := f.src) (by omega), b8_row (x := f.dst) (by omega), b8_row (x := f.frm) (by omega), b8_row (x := f.num) (by omega), b8_row (x := f.to) (by omega)]
end Go.Ab
