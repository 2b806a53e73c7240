import Derived.Test.YtjncgdeohbcihaaTab
import Derived.Test.YtjncgdeohbcihaaWkMark
import Derived.Test.YtjncgdeohbcihaaAbDg
import Derived.Test.YtjncgdeohbcihaaAbBr
namespace Go.Proofs.Ytjncgdeohbcihaa
open Go Go.Ab Go.RowKit
set_option linter.unusedVariables false
set_option linter.unusedSimpArgs false

theorem s_laws_FnExactFramePack (f : FrameR) (hf : f.data.length ≤ 140737488355328) : Ab.Spec Try.prog 6 1 [(.t 0, .v (f.V))] [(.t 0, .v (B true))] := by
  refine spec_of_body tabOk Try.func6 rfl (by kernel_rfl) (by decide) (by kernel_rfl) rfl ?_
  refine SW.seq ?_
  refine SW.regT tabOk [1] ?_
  refine And.intro trivial (And.intro trivial ?_)
  refine SW.seq ?_
  refine SW.regT tabOk [1, 3] ?_
  refine And.intro trivial ?_
  refine SW.seq ?_
  refine SW.regT tabOk [1, 3] ?_
  refine And.intro (by first | trivial | exact Nat.le_of_ble_eq_true rfl | exact ⟨rfl, Nat.le_of_ble_eq_true rfl⟩ | omega | ((repeat' apply And.intro) <;> first | trivial | rfl | exact Nat.le_of_ble_eq_true rfl | omega) | (simp; done) | (simp; omega)) (And.intro trivial ?_)
  refine ex_pure (s_laws_szFrame _ _ (by first | trivial | exact Nat.le_of_ble_eq_true rfl | exact ⟨rfl, Nat.le_of_ble_eq_true rfl⟩ | omega | ((repeat' apply And.intro) <;> first | trivial | rfl | exact Nat.le_of_ble_eq_true rfl | omega) | (simp; done) | (simp; omega))) rfl rfl rfl rfl rfl rfl rfl rfl ?_
  refine And.intro trivial ?_
  refine SW.seq ?_
  refine SW.seq ?_
  refine SW.regT tabOk [1, 13] ?_
  refine And.intro trivial (And.intro trivial ?_)
  refine SW.cond rfl (fun c13 => ?_) (fun c13 => ?_)
  · skip
    refine SW.seq ?_
    refine SW.regT tabOk [2] ?_
    refine And.intro trivial ?_
    refine SW.ret ?_
    refine retOk1 rfl ?_
    rfl
  · skip
    refine SW.skip ?_
    refine SW.seq ?_
    have hlen := framePack_len f
    refine SW.regT tabOk [1, 4] ?_
    refine And.intro (by first | trivial | exact Nat.le_of_ble_eq_true rfl | exact ⟨rfl, Nat.le_of_ble_eq_true rfl⟩ | omega | ((repeat' apply And.intro) <;> first | trivial | rfl | exact Nat.le_of_ble_eq_true rfl | omega) | (simp; done) | (simp; omega)) ?_
    refine ex_pure (s_laws_toFrame _) rfl rfl rfl rfl rfl rfl rfl rfl ?_
    refine ex_callP [(0, 16)] (s_spec_FramePack f) rfl rfl rfl rfl rfl rfl rfl (fun j hj => by (obtain rfl : j = 0 := by simpa [newIds, objIds, memN] using hj); rfl) ?_
    refine And.intro trivial ?_
    refine SW.seq ?_
    refine SW.regT tabOk [1, 4, 5] ?_
    refine And.intro (by first | trivial | exact Nat.le_of_ble_eq_true rfl | exact ⟨rfl, Nat.le_of_ble_eq_true rfl⟩ | omega | ((repeat' apply And.intro) <;> first | trivial | rfl | exact Nat.le_of_ble_eq_true rfl | omega) | (simp; done) | (simp; omega)) ?_
    refine ex_pure (s_laws_toFrame _) rfl rfl rfl rfl rfl rfl rfl rfl ?_
    refine ex_callP [(0, 19)] (s_impl_FramePack f) rfl rfl rfl rfl rfl rfl rfl (fun j hj => by (obtain rfl : j = 0 := by simpa [newIds, objIds, memN] using hj); rfl) ?_
    refine And.intro trivial ?_
    refine SW.seq ?_
    refine SW.seq ?_
    refine SW.regT tabOk [1, 4, 5, 23] ?_
    refine And.intro trivial (And.intro trivial ?_)
    refine ex_call (robj := [(19, .row 5 1 (bytesRows (framePack f))), (16, .row 5 1 (bytesRows (framePack f)))]) (rl := []) (bor := [19, 16]) (s_laws_eqByteS (framePack f) (framePack f) (by omega)) rfl rfl rfl rfl ⟨mL_froze rfl rfl rfl (by first | exact bytesRows_length _ | (simp [bytesRows_length, markB_length]; done)) rfl (mL_froze rfl rfl rfl (by first | exact bytesRows_length _ | (simp [bytesRows_length, markB_length]; done)) rfl (trivial)), rfl⟩ rfl (.inr (by intro p hp; simp at hp; subst hp; trivial)) (robjOk_spec ⟨rfl, rfl, trivial⟩) (fun _ hj => nomatch hj) ?_
    refine And.intro trivial ?_
    refine SW.cond rfl (fun c23 => ?_) (fun c23 => ?_)
    · skip
      simp at c23
    · skip
      refine SW.skip ?_
      refine SW.seq ?_
      refine SW.regT tabOk [1, 4, 5, 6] ?_
      refine And.intro trivial ?_
      refine SW.seq ?_
      refine SW.regT tabOk [1, 4, 5, 6] ?_
      refine And.intro trivial (And.intro trivial ?_)
      refine ex_call (robj := [(19, _)]) (rl := [(0, 19)]) (bor := []) (s_laws_markByteS (framePack f) 1 (by omega) (by omega)) rfl rfl rfl rfl ⟨mL_own rfl rfl rfl rfl (mL_d rfl rfl (mL_row rfl rfl trivial)), rfl⟩ rfl (.inl rfl) (fun p hp => by simp at hp; subst hp; rfl) (fun _ hj => nomatch hj) ?_
      refine And.intro trivial ?_
      refine SW.seq ?_
      refine SW.regT tabOk [1, 4, 5, 6, 7] ?_
      refine And.intro trivial ?_
      refine SW.seq ?_
      refine SW.regT tabOk [1, 4, 5, 6, 7] ?_
      refine And.intro trivial (And.intro trivial ?_)
      refine ex_call (robj := [(19, .row 5 1 (bytesRows (markB 1 (framePack f).length)))]) (rl := []) (bor := [19]) (s_laws_heldByteS 1 (framePack f).length (by omega) (by omega)) rfl rfl rfl rfl ⟨mL_froze rfl rfl rfl (by first | exact bytesRows_length _ | (simp [bytesRows_length, markB_length]; done)) rfl (mL_d rfl rfl trivial), rfl⟩ rfl (.inr (scalarSt_i _)) (robjOk_spec ⟨rfl, trivial⟩) (fun _ hj => nomatch hj) ?_
      refine And.intro trivial ?_
      refine SW.seq ?_
      refine SW.seq ?_
      refine SW.regT tabOk [1, 4, 5, 6, 7, 31] ?_
      refine And.intro trivial (And.intro trivial ?_)
      refine SW.cond rfl (fun c31 => ?_) (fun c31 => ?_)
      · skip
        first | (simp at c31; done) | (simp at c31; omega)
      · skip
        refine SW.skip ?_
        refine SW.seq ?_
        refine SW.seq ?_
        refine SW.regT tabOk [1, 4, 5, 6, 34] ?_
        refine And.intro trivial (And.intro trivial (And.intro trivial ?_))
        refine SW.cond rfl (fun c34 => ?_) (fun c34 => ?_)
        · skip
          simp at c34
        · skip
          refine SW.skip ?_
          refine SW.seq ?_
          refine SW.regT tabOk [4, 5, 6, 8] ?_
          refine And.intro (by first | trivial | exact Nat.le_of_ble_eq_true rfl | exact ⟨rfl, Nat.le_of_ble_eq_true rfl⟩ | omega | ((repeat' apply And.intro) <;> first | trivial | rfl | exact Nat.le_of_ble_eq_true rfl | omega) | (simp; done) | (simp; omega)) ?_
          refine ex_pure (s_laws_toFrame _) rfl rfl rfl rfl rfl rfl rfl rfl ?_
          refine ex_callP [(0, 37)] (s_impl_FramePack f) rfl rfl rfl rfl rfl rfl rfl (fun j hj => by (obtain rfl : j = 0 := by simpa [newIds, objIds, memN] using hj); rfl) ?_
          refine And.intro trivial ?_
          refine SW.seq ?_
          refine SW.seq ?_
          refine SW.regT tabOk [5, 6, 41] ?_
          refine And.intro trivial (And.intro trivial ?_)
          refine ex_call (robj := [(37, .row 5 1 (bytesRows (framePack f))), (16, .row 5 1 (bytesRows (framePack f)))]) (rl := []) (bor := [37, 16]) (s_laws_eqByteS (framePack f) (framePack f) (by omega)) rfl rfl rfl rfl ⟨mL_froze rfl rfl rfl (by first | exact bytesRows_length _ | (simp [bytesRows_length, markB_length]; done)) rfl (mL_froze rfl rfl rfl (by first | exact bytesRows_length _ | (simp [bytesRows_length, markB_length]; done)) rfl (trivial)), rfl⟩ rfl (.inr (by intro p hp; simp at hp; subst hp; trivial)) (robjOk_spec ⟨rfl, rfl, trivial⟩) (fun _ hj => nomatch hj) ?_
          refine And.intro trivial ?_
          refine SW.cond rfl (fun c41 => ?_) (fun c41 => ?_)
          · skip
            simp at c41
          · skip
            refine SW.skip ?_
            refine SW.seq ?_
            refine SW.regT tabOk [5, 6, 7] ?_
            refine And.intro trivial ?_
            refine SW.seq ?_
            refine SW.regT tabOk [6, 7] ?_
            refine And.intro trivial (And.intro trivial ?_)
            refine ex_call (robj := [(19, .row 5 1 (bytesRows (markB 1 (framePack f).length)))]) (rl := []) (bor := [19]) (s_laws_heldByteS 1 (framePack f).length (by omega) (by omega)) rfl rfl rfl rfl ⟨mL_froze rfl rfl rfl (by first | exact bytesRows_length _ | (simp [bytesRows_length, markB_length]; done)) rfl (mL_d rfl rfl trivial), rfl⟩ rfl (.inr (scalarSt_i _)) (robjOk_spec ⟨rfl, trivial⟩) (fun _ hj => nomatch hj) ?_
            refine And.intro trivial ?_
            refine SW.seq ?_
            refine SW.seq ?_
            refine SW.regT tabOk [6, 7, 46] ?_
            refine And.intro trivial (And.intro trivial ?_)
            refine SW.cond rfl (fun c46 => ?_) (fun c46 => ?_)
            · skip
              first | (simp at c46; done) | (simp at c46; omega)
            · skip
              refine SW.skip ?_
              refine SW.seq ?_
              refine SW.seq ?_
              refine SW.regT tabOk [49] ?_
              refine And.intro trivial (And.intro trivial (And.intro trivial ?_))
              refine SW.cond rfl (fun c49 => ?_) (fun c49 => ?_)
              · skip
                simp at c49
              · skip
                refine SW.skip ?_
                refine SW.seq ?_
                refine SW.regT tabOk [2] ?_
                refine And.intro trivial ?_
                refine SW.ret ?_
                refine retOk1 rfl ?_
                rfl

end Go.Proofs.Ytjncgdeohbcihaa
