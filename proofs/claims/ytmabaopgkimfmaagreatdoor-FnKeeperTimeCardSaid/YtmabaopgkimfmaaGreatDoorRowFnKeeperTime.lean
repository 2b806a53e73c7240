/-
  The card of FnKeeperTime: for every input the law returns true, and its arguments read behind the call as before. No conditions but that the tables that the row lists are laid as the program's text lays them.
-/
import Derived.Test.YtmabaopgkimfmaaGreatDoorCards
import Derived.Test.YtmabaopgkimfmaaGreatDoorTie
import Derived.WalkKit
import Derived.ProofKit
import Derived.OpenShut
import Derived.ShutString
import Derived.ChangeOld
import Derived.Below
import Derived.SizedLaws
import Derived.Deep.DeepHandedRow
import Derived.Lib.LaidTab
import Derived.Lay
import Derived.LaidMore
import Derived.SevenTiedAt
import Derived.Test.YtmabaopgkimfmaaGreatDoorB5
namespace Go.Proofs.YtmabaopgkimfmaaGreatDoor.fnKeeperTime
open Int renaming toNat_natCast→aXy
open List renaming length_append→aXz,length_cons→aX1,length_nil→aX2,length_take→aX4,getD_eq_getElem?_getD→aX6,length_drop→aX7,getElem?_eq_getElem→aX9,getElem?_eq_some_iff→aYa,range→aYb,mem_map→aYc,all_eq_true→aYd,take_length→aYe
open Nat renaming le_of_ble_eq_true→aX0,zero_le→aX5,le_refl→aX8
open Bool renaming and_eq_true→aX3
open Go.ChangeShapes Go.WideShapes Go.ChangeAt Go.RowKit Go.Ab
open Go.ChangeMaps (open_string shut_string)
set_option linter.unusedVariables false
set_option linter.unusedSimpArgs false
theorem own:ownKnob Tryz.prog.godebug=none:=by kernel_rfl
theorem laidOut:laidOutB Tryz.prog=true:=by kernel_rfl
theorem table {W:World} (h:laidMetH Tryz.prog Rows.fnKeeperTimeRow.laid W):Lib.TabIs Tryz.prog W "internal/strconv.uint64pow10" .u64 Lib.pow10Tab:=by
 rw[MakeChecks.laidMetH_plain _ _ _ (by kernel_rfl)] at h
 exact Lib.tabIs_of_head (g:=0) (t:=251) (e:=238) (n:=20) (by kernel_rfl) (by kernel_rfl) Tryz.underlying251 Tryz.underlying238 (by kernel_rfl) (by kernel_rfl) (show laidMet Tryz.prog ((_,Lib.tabData .u64 Lib.pow10Tab)::_) W from h.tail.tail)
theorem maxLen {W:World} (h:W.ShapedOpen Tryz.prog): ∃m,W.var? Tryz.prog "internal/bytealg.MaxLen" =some #[.int .i64 m]:=by
 obtain⟨cs,hh,hs,_⟩:=h.1 1 #[.int .i64 0] 3 (of_decide_eq_true (by kernel_rfl)) (by kernel_rfl)
 obtain⟨m,hm⟩:=Go.Proofs.cell_of_shapedOpen_int (zero:= #[.int .i64 0]) (t:=3) h (of_decide_eq_true (by kernel_rfl)) (by kernel_rfl) rfl (by kernel_rfl) (by kernel_rfl) Tryz.underlying3
 exact⟨m,aK7 (by kernel_rfl) hh hs hm⟩
set_option maxRecDepth 100000 in
theorem lifted (os:Os) (started:os.Started) (H:Type) (enc:TypeId×Value→H) (F:Stop.Interp):
 ReturnsInHanded {} Tryz.checked os 13 .any ((OpenSpec.ofChange Rows.fnKeeperTimeSpec).preRow enc Tryz.prog Tryz.f13 Rows.fnKeeperTimeRow.domain false Rows.fnKeeperTimeRow.laid) (((OpenSpec.ofChange Rows.fnKeeperTimeSpec).at F).post enc Tryz.prog Tryz.f13 false true false false):=by
 refine returnsInHanded_of_row (C:=Tryz.checked) (s:=OpenSpec.ofChange Rows.fnKeeperTimeSpec) own started (by kernel_rfl) Tryz.func13
  (ChangeSpec.witness_shaped (enc:=enc) (C:=Tryz.checked) (os:=os) (X:=fun w _=>laidMetH Tryz.prog Rows.fnKeeperTimeRow.laid w) false (World.laidAll Tryz.prog os Rows.fnKeeperTimeRow.laid) #[.slice none 0 0] 8 (World.laidAll_os _ _ _)
   (World.shaped_of_ZipB (by kernel_rfl) (by kernel_rfl)) (by kernel_rfl) (by kernel_rfl) (by kernel_rfl)
   (by rw[MakeChecks.laidMetH_plain _ _ _ (by kernel_rfl)];exact laidMet_laidAll _ (by kernel_rfl) (by kernel_rfl))) ?_
 intro W base args ds gs cJ hval0 hW hcnd _ hsz0 hL hS _
 have hgb:GB Tryz.prog W fun _=>False:=aUh (table hL) (maxLen hS)
 have hsz: (DataW.weightsEach Tryz.prog (Tryz.f13.params.toList++Rows.fnKeeperTimeSpec.plain.varTypes Tryz.prog) (ds++gs)).all (· ≤reachBytes)=true:=hsz0
 have hval: ∀(j:Nat) t v,Tryz.f13.params[j]? =some t→args[j]? =some v→Value.okWide Tryz.prog W .any base t v:=hval0
 have hW':=hW
 obtain⟨p,q,hA0,hV,rfl,hfz,hnd⟩:=hW
 have hA:DataW.TrodAll enc Tryz.prog W 0 (fun _=>true) true Tryz.f13.params.toList args.toList ds p:=hA0
 rw[Tryz.params13] at hA hval hsz
 obtain⟨v0,vs0,d0,ds0,p0,q0,hargs0,rfl,rfl,h0,r0⟩:=trodAll_cons hA
 obtain⟨rfl,rfl,rfl⟩:=trodAll_nil r0
 obtain rfl:args= #[v0]:=by cases args;simp_all
 obtain⟨rfl,rfl⟩:=trodVars_none hV
 have lt0: ∀x∈p0,x.block<W.heap.size:=by obtain⟨m,hm⟩:=h0;exact DataW.trod_lt m _ _ _ hm
 have hsz1: (d0.weights Tryz.prog 68).all (· ≤reachBytes)=true:=by
  have e:Rows.fnKeeperTimeSpec.plain.varTypes Tryz.prog=[]:=rfl
  rw[e] at hsz
  simpa[DataW.weightsEach,List.all_append,aX3] using hsz
 obtain⟨cs0,ty0,ag0,on0⟩:=qa cK 8 (ti:=aOb) rfl (by kernel_rfl) h0 (hval 0 68 v0 rfl rfl) hsz1
 obtain⟨f0,rfl,hf0⟩:=eg ty0
 obtain⟨x0,ex0,on0⟩:=on0 rfl
 cases ex0
 refine(yz hgb (n:=1) (Xs:=[Dv (.sl (aE f0))]) (fp f0 (by simp only[reachBytes] at hf0;omega)) rfl rfl ?_).mono fun e W' ⟨he,bel⟩=> ?_
 · intro i X v hi hv
   match i,hi,hv with
   |0,hi,hv=>simp at hi hv;subst hi;subst hv;exact fun σ ι=>on0 σ ι
   |i+1,hi,hv=>simp at hi
 subst he
 exact⟨_,rfl,_,_,_,[],_,[],hW',trodAll_mk1 (shut_bool Tryz.underlying4 _),(trodAll_cons_mk (Below.trod laidOut (by kernel_rfl) (of_decide_eq_true (by kernel_rfl)) h0 bel lt0) trodAll_mk0),rfl,bel.frame _,fun h=>by cases h⟩
set_option maxHeartbeats 8000000 in
theorem closed : joinedFacts Tryz.prog 13 Tryz.f13 (OpenSpec.ofChange Rows.fnKeeperTimeSpec).bare Rows.fnKeeperTimeRow = true := by
 unfold joinedFacts
 simp only [Bool.and_eq_true]
 repeat' apply And.intro
 all_goals (as_aux_lemma => kernel_rfl)
set_option maxHeartbeats 8000000 in
theorem over:Rows.fnKeeperTimeRow.holds Tryz.pinned (OpenSpec.ofChange Rows.fnKeeperTimeSpec):=
 OpenClaim.holds_of_cond 13 Tryz.f13 rfl rfl rfl rfl rfl rfl rfl ⟨rfl,rfl,rfl,rfl,rfl⟩ rfl rfl rfl rfl rfl (by as_aux_lemma => kernel_rfl) Tryz.func13 closed
  (of_decide_eq_true (by as_aux_lemma => kernel_rfl)) (by unfold Func.isWrapper;first|(rw[aC (by decide+kernel)];kernel_rfl)|(rw[aB (by decide+kernel)];exact⟨rfl,rfl⟩))
  (fun os started H enc _ F=>by rw[OpenClaim.pre_eq_preRow];exact lifted os started H enc F)
set_option maxHeartbeats 8000000 in
theorem card:Rows.FnKeeperTimeCardSaid:=
 Claim7.holds_tied_plain_at .later [] [.data,.data,.data,.data,.pinned] true (true, "a76fc37ecd5886b0ccdaa479efbd056c29dad722ce01eb0c7ffba8912f419677") false over (fun _ h=>by cases h) (by as_aux_lemma => kernel_rfl) (fun _ h=>by cases h) fnKeeperTime_row_tie rfl ⟨rfl,rfl⟩ (by as_aux_lemma => kernel_rfl) rfl
  (fun f fn hf hfn=>by
   obtain rfl:f=13:=Option.some.inj ((show Tryz.prog.funcNamed "loop.example/bargeman/laws.FnKeeperTime" =some 13 by kernel_rfl).symm.trans hf) |>.symm
   obtain rfl:fn=Tryz.f13:=(Option.some.inj (Tryz.func13.symm.trans hfn)).symm
   exact⟨by kernel_rfl,fun j t ht=>by
    rw[Tryz.params13] at ht
    have hm:t∈[68]:=by simpa using Array.mem_of_getElem? ht
    have hall: ([68].all fun u=> !Tryz.prog.wantsStandIn u)=true:=by kernel_rfl
    exact(show Tryz.prog.wantsStandIn t=false by simpa using aYd.1 hall t hm)⟩)
  (by as_aux_lemma => kernel_rfl)
end Go.Proofs.YtmabaopgkimfmaaGreatDoor.fnKeeperTime
namespace Go.Proofs.YtmabaopgkimfmaaGreatDoor
open Int renaming toNat_natCast→aXy
open List renaming length_append→aXz,length_cons→aX1,length_nil→aX2,length_take→aX4,getD_eq_getElem?_getD→aX6,length_drop→aX7,getElem?_eq_getElem→aX9,getElem?_eq_some_iff→aYa,range→aYb,mem_map→aYc,all_eq_true→aYd,take_length→aYe
open Nat renaming le_of_ble_eq_true→aX0,zero_le→aX5,le_refl→aX8
open Bool renaming and_eq_true→aX3
/-- The card,under a short name,for the claim. -/
theorem fnKeeperTime_holds:Rows.FnKeeperTimeCardSaid:=fnKeeperTime.card
#print axioms fnKeeperTime_holds
end Go.Proofs.YtmabaopgkimfmaaGreatDoor
