import Derived.Test.YtjncgdeohbcihaaTab
import Derived.Test.YtjncgdeohbcihaaWkSum
import Derived.Test.YtjncgdeohbcihaaAbDj
import Derived.Test.YtjncgdeohbcihaaAbBr
namespace Go.Proofs.Ytjncgdeohbcihaa
open Go Go.Ab Go.RowKit
set_option linter.unusedVariables false
set_option linter.unusedSimpArgs false

theorem s_laws_FnFrameSum (l m : List UInt8) (hl : l.length ≤ 140737488355328) (hm : m.length ≤ 140737488355328) : Ab.Spec Try.prog 4 2 [(.t 0, .v (Dv (.sl (bytesRows l)))), (.t 1, .v (Dv (.sl (bytesRows m))))] [(.t 0, .v (B true))] := by
  refine spec_of_body tabOk Try.func4 rfl (by kernel_rfl) (by decide) (by kernel_rfl) rfl ?_
  refine SW.seq ?_
  refine SW.regT tabOk [0, 1, 14, 15, 16, 28, 29, 32, 33, 36, 37, 38, 41, 42, 43] ?_
  refine And.intro trivial ?_
  refine SW.seq ?_
  refine SW.seq ?_
  refine SW.regT tabOk [0, 1, 17, 28, 29, 32, 33, 36, 37, 38, 41, 42, 43] ?_
  refine And.intro trivial (And.intro (by first | trivial | exact Nat.le_of_ble_eq_true rfl | exact ⟨rfl, Nat.le_of_ble_eq_true rfl⟩ | omega | ((repeat' apply And.intro) <;> first | trivial | rfl | exact Nat.le_of_ble_eq_true rfl | omega) | (simp; done) | (simp; omega)) (And.intro trivial (And.intro trivial (And.intro (fun h => trivial) (And.intro (by intro h; (repeat' apply And.intro) <;> first | exact h | trivial) (And.intro (fun h => (by first | trivial | exact Nat.le_of_ble_eq_true rfl | exact ⟨rfl, Nat.le_of_ble_eq_true rfl⟩ | omega | ((repeat' apply And.intro) <;> first | trivial | rfl | exact Nat.le_of_ble_eq_true rfl | omega) | (simp; done) | (simp; omega))) (And.intro (by intro h; (repeat' apply And.intro) <;> first | exact h | trivial) (And.intro (fun h => trivial) (And.intro (by intro h; (repeat' apply And.intro) <;> first | exact h | trivial) (And.intro (by constructor <;> intro h <;> first | trivial | exact h | (simp [gb, condOf]; done) | (simpa [gb, condOf] using h)) ?_))))))))))
  refine SW.cond rfl (fun c17 => ?_) (fun c17 => ?_)
  · skip
    refine SW.seq ?_
    refine SW.regT tabOk [4] ?_
    refine And.intro trivial ?_
    refine SW.ret ?_
    refine retOk1 rfl ?_
    rfl
  · skip
    refine SW.skip ?_
    refine SW.seq ?_
    refine SW.regE tabOk [0, 1, 5, 28, 29, 32, 33, 36, 37, 38, 41, 42, 43] ?_
    refine And.intro trivial ?_
    refine ee_call (robj := []) (rl := [(0, 19)]) (bor := []) (news := [0]) (s_spec_DrawFrameSum l hl) rfl rfl rfl rfl ⟨mL_d rfl rfl trivial, rfl⟩ (by rintro _ ⟨b, hb, rfl⟩; exact ⟨rfl, .inl rfl, fun j hj => hj⟩) (fun p hp => nomatch hp) (fun j hj => by (obtain rfl : j = 0 := by simpa using hj); rfl) ?_
    rintro _ ⟨b, hb, rfl⟩
    refine And.intro trivial ?_
    refine SW.seq ?_
    refine SW.regT tabOk [0, 1, 5, 6, 28, 29, 32, 33, 36, 37, 38, 41, 42, 43] ?_
    refine And.intro trivial ?_
    refine ex_call (robj := [(19, .row 5 1 (bytesRows (b)))]) (rl := []) (bor := [19]) (s_spec_FrameSum b (by omega)) rfl rfl rfl rfl ⟨mL_froze rfl rfl rfl (by first | exact bytesRows_length _ | (simp [bytesRows_length, markB_length]; done)) rfl (trivial), rfl⟩ rfl (.inr (scalarSt_v rfl)) (robjOk_spec ⟨rfl, trivial⟩) (fun _ hj => nomatch hj) ?_
    refine And.intro trivial ?_
    refine SW.seq ?_
    refine SW.regT tabOk [0, 1, 5, 6, 7, 28, 29, 32, 33, 36, 37, 38, 41, 42, 43] ?_
    refine And.intro trivial ?_
    refine ex_call (robj := [(19, .row 5 1 (bytesRows (b)))]) (rl := []) (bor := [19]) (s_impl_FrameSum b (by omega)) rfl rfl rfl rfl ⟨mL_froze rfl rfl rfl (by first | exact bytesRows_length _ | (simp [bytesRows_length, markB_length]; done)) rfl (trivial), rfl⟩ rfl (.inr (scalarSt_v rfl)) (robjOk_spec ⟨rfl, trivial⟩) (fun _ hj => nomatch hj) ?_
    refine And.intro trivial ?_
    refine SW.seq ?_
    refine SW.seq ?_
    refine SW.regT tabOk [0, 1, 5, 6, 7, 44] ?_
    refine And.intro trivial (And.intro trivial (And.intro trivial (And.intro trivial (And.intro (fun h => trivial) (And.intro (by intro h; (repeat' apply And.intro) <;> first | exact h | trivial) (And.intro (fun h => trivial) (And.intro (by intro h; (repeat' apply And.intro) <;> first | exact h | trivial) (And.intro (by constructor <;> intro h <;> first | trivial | exact h | (simp [gb, condOf]; done) | (simpa [gb, condOf] using h)) (And.intro trivial (And.intro (fun h => trivial) (And.intro (by intro h; (repeat' apply And.intro) <;> first | exact h | trivial) (And.intro (fun h => trivial) (And.intro (by intro h; (repeat' apply And.intro) <;> first | exact h | trivial) (And.intro (by constructor <;> intro h <;> first | trivial | exact h | (simp [gb, condOf]; done) | (simpa [gb, condOf] using h)) (And.intro trivial (And.intro (fun h => trivial) (And.intro (by intro h; (repeat' apply And.intro) <;> first | exact h | trivial) (And.intro (fun h => (bytesRows_length _)) (And.intro (by intro h; (repeat' apply And.intro) <;> first | exact h | trivial) (And.intro (fun h => trivial) (And.intro (by intro h; (repeat' apply And.intro) <;> first | exact h | trivial) (And.intro (by constructor <;> intro h <;> first | trivial | exact h | (simp [gb, condOf]; done) | (simpa [gb, condOf] using h)) (And.intro trivial (And.intro (fun h => trivial) (And.intro (by intro h; (repeat' apply And.intro) <;> first | exact h | trivial) (And.intro (fun h => (bytesRows_length _)) (And.intro (by intro h; (repeat' apply And.intro) <;> first | exact h | trivial) (And.intro (fun h => trivial) (And.intro (by intro h; (repeat' apply And.intro) <;> first | exact h | trivial) (And.intro (by constructor <;> intro h <;> first | trivial | exact h | (simp [gb, condOf]; done) | (simpa [gb, condOf] using h)) ?_))))))))))))))))))))))))))))))
    refine SW.cond rfl (fun c44 => ?_) (fun c44 => ?_)
    · skip
      refine SW.seq ?_
      refine SW.regT tabOk [4] ?_
      refine And.intro trivial (And.intro trivial (And.intro trivial (And.intro trivial ?_)))
      refine SW.ret ?_
      refine retOk1 rfl ?_
      simp
    · skip
      have hL : b.length ≠ 0 ∧ b.length ≤ 1000 := by
        simp [gb, bytesRows_length] at c44
        exact ⟨fun e => c44.1.2 (List.eq_nil_of_length_eq_zero e), by omega⟩
      have hbl := bytesRows_length b
      have hat := tmod_range (x := (m.length : Int)) (n := (b.length : Int)) (by omega) (by omega)
      have hgb := bytesRows_getD (l := b) (i := (Int.tmod (m.length : Int) (b.length : Int)).toNat) (by omega)
      refine SW.skip ?_
      refine SW.seq ?_
      refine SW.regT tabOk [0, 1, 5, 7, 8] ?_
      refine And.intro (by first | trivial | exact Nat.le_of_ble_eq_true rfl | exact ⟨rfl, Nat.le_of_ble_eq_true rfl⟩ | omega | ((repeat' apply And.intro) <;> first | trivial | rfl | exact Nat.le_of_ble_eq_true rfl | omega) | (simp; done) | (simp; omega)) (And.intro trivial (And.intro (by refine ⟨bytesRows_length _, rfl, bytesRows_len1 _, ?_⟩; show (_ + _) * 1 ≤ _; simp [bytesRows_length]; omega) (And.intro trivial ?_)))
      refine SW.seq ?_
      refine SW.regT tabOk [0, 7, 8, 9] ?_
      refine And.intro trivial (And.intro (by first | trivial | exact Nat.le_of_ble_eq_true rfl | exact ⟨rfl, Nat.le_of_ble_eq_true rfl⟩ | omega | ((repeat' apply And.intro) <;> first | trivial | rfl | exact Nat.le_of_ble_eq_true rfl | omega) | (simp; done) | (simp; omega)) (And.intro trivial (And.intro (bytesRows_length _) (And.intro (by omega) (And.intro trivial ?_)))))
      refine SW.seq ?_
      refine SW.wk (J := fun s => s = [(.t 0, .v (Dv (.sl (bytesRows l)))), (.t 7, .v (I (fsum b b.length : Nat))), (.t 8, .v (.e (.c (.own 48 b.length)))), (.t 9, .v (I (Int.tmod (m.length : Int) (b.length : Int)))), (.o 48, .row 5 1 (bytesRows b))]) ?_ ?_
      · skip
        refine wk [(.t 0, .v (Dv (.sl (bytesRows l)))), (.t 7, .v (I (fsum b b.length : Nat))), (.t 8, .v (.e (.c (.own 48 b.length)))), (.t 9, .v (I (Int.tmod (m.length : Int) (b.length : Int)))), (.o 48, .row 5 1 (bytesRows b))] [] [] (rfl) ?_ rfl rfl
        repeat' first | exact trivial | refine mL_nil rfl ?_ | refine mL_d rfl ?_ ?_ | refine mL_own rfl rfl ?_ rfl ?_ | refine mL_row rfl ?_ ?_ | refine mL_pt rfl rfl rfl rfl ?_ | refine mL_box rfl ?_ ?_ | refine mL_agg rfl ?_ ?_ | exact mCs_nil0 | refine mCs_d ?_ ?_ | refine mCs_nil ?_ | refine mCs_own rfl ?_ rfl ?_ | refine mCs_pt rfl rfl rfl ?_
        all_goals first | with_reducible rfl | (first | (simp [bytesRows_length]; done))
      rintro s rfl
      refine SW.regT tabOk [7, 8] ?_
      refine And.intro trivial (And.intro trivial (And.intro trivial (And.intro trivial (And.intro (by exact ⟨by omega, by omega, by omega⟩) (And.intro (by rw [hgb]; exact ⟨⟨by omega, by omega⟩, Nat.le_refl _, rfl⟩) (And.intro trivial (And.intro (by first | trivial | exact Nat.le_of_ble_eq_true rfl | exact ⟨rfl, Nat.le_of_ble_eq_true rfl⟩ | omega | ((repeat' apply And.intro) <;> first | trivial | rfl | exact Nat.le_of_ble_eq_true rfl | omega) | (simp; done) | (simp; omega)) (And.intro (by first | trivial | exact Nat.le_of_ble_eq_true rfl | exact ⟨rfl, Nat.le_of_ble_eq_true rfl⟩ | omega | ((repeat' apply And.intro) <;> first | trivial | rfl | exact Nat.le_of_ble_eq_true rfl | omega) | (simp; done) | (simp; omega)) (And.intro trivial (And.intro (by first | trivial | rfl) (And.intro trivial (And.intro (by exact ⟨by omega, by omega, by omega⟩) (And.intro (by rw [hgb]; exact ⟨by omega, by omega, rfl, Nat.le_refl _⟩) ?_)))))))))))))
      refine SW.seq ?_
      have hval : toU (((bytesRows b).getD (Int.tmod (m.length : Int) (b.length : Int)).toNat []).getD 0 (.i 0)) = ((b.getD (Int.tmod (m.length : Int) (b.length : Int)).toNat 0).toNat : Int) := by rw [hgb]; rfl
      have hc : Int.tmod (l.length : Int) 255 = (l.length : Int) % 255 := Int.tmod_eq_emod_of_nonneg (by omega)
      refine SW.wk (J := fun s => s = [(.t 7, .v (I (fsum b b.length : Nat))), (.t 8, .v (.e (.c (.own 48 b.length)))), (.o 48, .row 5 1 (bytesRows (b.set (Int.tmod (m.length : Int) (b.length : Int)).toNat (u8 (wrap8 (((b.getD (Int.tmod (m.length : Int) (b.length : Int)).toNat 0).toNat : Int) + wrap8 (1 + (l.length : Int) % 255)))))))]) ?_ ?_
      · skip
        refine wk [(.t 7, .v (I (fsum b b.length : Nat))), (.t 8, .v (.e (.c (.own 48 b.length)))), (.o 48, .row 5 1 (bytesRows (b.set (Int.tmod (m.length : Int) (b.length : Int)).toNat (u8 (wrap8 (((b.getD (Int.tmod (m.length : Int) (b.length : Int)).toNat 0).toNat : Int) + wrap8 (1 + (l.length : Int) % 255)))))))] [] [] (rfl) ?_ rfl rfl
        repeat' first | exact trivial | refine mL_nil rfl ?_ | refine mL_d rfl ?_ ?_ | refine mL_own rfl rfl ?_ rfl ?_ | refine mL_row rfl ?_ ?_ | refine mL_pt rfl rfl rfl rfl ?_ | refine mL_box rfl ?_ ?_ | refine mL_agg rfl ?_ ?_ | exact mCs_nil0 | refine mCs_d ?_ ?_ | refine mCs_nil ?_ | refine mCs_own rfl ?_ rfl ?_ | refine mCs_pt rfl rfl rfl ?_
        all_goals first | with_reducible rfl | (first | (rw [hval, bytesRows_length, hc, wrap64_of (by omega)]; exact rows_set (by omega) (wrap8_wrap8 _)) | (simp; done))
      rintro s rfl
      refine SW.regT tabOk [4] ?_
      refine And.intro trivial ?_
      refine ex_call (robj := [(48, .row 5 1 (bytesRows (b.set (Int.tmod (m.length : Int) (b.length : Int)).toNat (u8 (wrap8 (((b.getD (Int.tmod (m.length : Int) (b.length : Int)).toNat 0).toNat : Int) + wrap8 (1 + (l.length : Int) % 255)))))))]) (rl := []) (bor := [48]) (s_impl_FrameSum _ (by rw [List.length_set]; omega)) rfl rfl rfl rfl ⟨mL_froze rfl rfl rfl (by first | exact bytesRows_length _ | (simp [bytesRows_length, markB_length]; done)) rfl (trivial), rfl⟩ rfl (.inr (scalarSt_v rfl)) (robjOk_spec ⟨rfl, trivial⟩) (fun _ hj => nomatch hj) ?_
      refine And.intro trivial (And.intro trivial (And.intro trivial ?_))
      refine SW.ret ?_
      refine retOk1 rfl (congrArg D.b ?_)
      rw [List.length_set]
      have hns := fsum_set (b := b) (i := (Int.tmod (m.length : Int) (b.length : Int)).toNat) (y := u8 (wrap8 (((b.getD (Int.tmod (m.length : Int) (b.length : Int)).toNat 0).toNat : Int) + wrap8 (1 + (l.length : Int) % 255)))) (by omega) (u8_bump (by omega))
      rw [bne_iff_ne]
      intro e
      exact hns (Int.ofNat.inj e)

end Go.Proofs.Ytjncgdeohbcihaa
