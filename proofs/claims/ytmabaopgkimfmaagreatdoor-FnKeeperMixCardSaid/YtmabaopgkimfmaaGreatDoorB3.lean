/- Plain functions, and contracts of the functions that the law reaches. -/
import Derived.Test.YtmabaopgkimfmaaGreatDoorB2
set_option maxHeartbeats 12800000
namespace Go.Proofs.YtmabaopgkimfmaaGreatDoor
open Int renaming toNat_natCast→aVy,tmod→aWe
open List renaming length_append→aVz,length_nil→aV2,length_cons→aV3,length_take→aV4,getD_eq_getElem?_getD→aV6,length_drop→aV7,getElem?_eq_getElem→aV8,getElem?_eq_some_iff→aV9,range→aWb,mem_map→aWc,take_length→aWd,all_eq_true→aWf,mem_singleton→aWg
open Nat renaming le_of_ble_eq_true→aV0,zero_le→aV5,le_refl→aWa,add_mul→aWh
open Bool renaming and_eq_true→aV1
open Go Go.Ab Go.RowKit
set_option linter.unusedVariables false
set_option linter.unusedSimpArgs false
set_option maxRecDepth 9000
theorem xh (k:bO) (t:Int) (hb:k.held.length≤100000∧k.marks.length≤100000∧k.inbox.length≤100000):Sp 244 2 [tV 0 k.V,tI 1 t] [tV 0 ((kB k t).V)]:=by
 refine sb Tryz.func244 rfl (sq (rT [1,2,4] (s2 (sq (rT [1,2,4,5] (s9 (s1 (sq (sq (rT [1,2,4,5,19,20,21] (s4 (bk (SW.nilBox 5 100 3 52 5 rfl rfl rfl (SW.nilBox 5 101 4 162 3 rfl rfl rfl (SW.loopW (n:=k.held.length) (fun m q=> ∃i:Nat,m=k.held.length - i∧i≤k.held.length∧q=[tI 1 t,tP 2 2,tP 4 4,tP 5 5,tD 19 (.sl (aE k.held)),tI 20 (k.held.length:Nat),tI 21 (i:Nat),oB 2 44 [.d (.i k.id),.d (.i k.time),.d (.i k.next),.d (.sl (aE k.held)),.d (.sl (aQ k.marks)),.d (.sl (aE k.inbox))],oB 4 44 [.d (.i 0),.d (.i 0),.d (.i 0),.nil,.nil,.nil],oB 5 44 [.d (.i k.id),.d (.i t),.d (.i k.next),.own 100 (aE ((k.held.take i).filter (fun n=>decide (t<n.til)))).length,.own 101 (aQ []).length,.d (.sl (aE k.inbox))],oR 100 52 5 (aE ((k.held.take i).filter (fun n=>decide (t<n.til)))),oR 101 162 3 (aQ [])]) ?_ ?_)))))))))))))))
 · refine wq (σ':=[tI 1 t,tP 2 2,tP 4 4,tP 5 5,tD 19 (.sl (aE k.held)),tI 20 (k.held.length:Nat),tI 21 (0:Nat),oB 2 44 [.d (.i k.id),.d (.i k.time),.d (.i k.next),.d (.sl (aE k.held)),.d (.sl (aQ k.marks)),.d (.sl (aE k.inbox))],oB 4 44 [.d (.i 0),.d (.i 0),.d (.i 0),.nil,.nil,.nil],oB 5 44 [.d (.i k.id),.d (.i t),.d (.i k.next),.own 100 (aE ((k.held.take 0).filter (fun n=>decide (t<n.til)))).length,.own 101 (aQ []).length,.d (.sl (aE k.inbox))],oR 100 52 5 (aE ((k.held.take 0).filter (fun n=>decide (t<n.til)))),oR 101 162 3 (aQ [])]) [] [] (⟨0,rfl,aV5 _,rfl⟩) ?_
   repeat' apply ai
   all_goals first|exact qx|rfl|(rw[aD];done)|(rw[aO];done)|exact qz
 rintro n s ⟨i,rfl,hi,rfl⟩
 refine sq (rT [1,2,4,5,19,20,21,22] (s1 (sq (cd rfl (fun c22=> ?_) fun c22=> ?_))))
 · have hi2:i<k.held.length:=by simpa using c22
   have hg:=aT (l:=k.held) hi2
   refine sk (sq (bk (sq (rT [1,2,4,5,7,19,20,21] (ai (by rw[aVy,hg];exact⟨⟨by omega,by rw[aD];omega⟩,rfl⟩) (ai (by rw[aVy,hg];exact⟨aV0 rfl,rfl⟩) (s2 (sq (wa [tI 1 t,tP 2 2,tP 4 4,tP 5 5,tD 19 (.sl (aE k.held)),tI 20 (k.held.length:Nat),tI 21 (i:Nat),oB 2 44 [.d (.i k.id),.d (.i k.time),.d (.i k.next),.d (.sl (aE k.held)),.d (.sl (aQ k.marks)),.d (.sl (aE k.inbox))],oB 4 44 [.d (.i 0),.d (.i 0),.d (.i 0),.nil,.nil,.nil],oB 5 44 [.d (.i k.id),.d (.i t),.d (.i k.next),.own 100 (aE ((k.held.take i).filter (fun n=>decide (t<n.til)))).length,.own 101 (aQ []).length,.d (.sl (aE k.inbox))],oR 100 52 5 (aE ((k.held.take i).filter (fun n=>decide (t<n.til)))),oR 101 162 3 (aQ []),tP 7 7,oB 7 52 [.d (.i (k.held.getD i .zero).frm),.d (.i (k.held.getD i .zero).num),.d (.i (k.held.getD i .zero).to),.d (.i (k.held.getD i .zero).til),.d (.s (k.held.getD i .zero).text)]] [] [] ?_ ?_)))))))))
   · repeat' apply ai
     all_goals first|exact qx|(rw[aVy,hg];rfl)|exact qz
   refine rT [1,2,4,5,7,19,20,21,28] (s4 (cd rfl (fun c28=> ?_) fun c28=> ?_))
   · have hp: (fun n:bA=>decide (t<n.til)) (k.held.getD i .zero)=true:=c28
     have hf:=zA (z:=bA.zero) (p:=fun n=>decide (t<n.til)) hi2 hp
     refine rT [1,2,4,5,19,20,21] (s3 (ai (by exact⟨by simp,aV0 rfl⟩) (ai (by exact⟨by first|trivial|rfl|(simp;done),by first|rfl|(simp;done),by first|(simp;done)|(intro r hr;rw[aWg.1 hr];rfl),by(have hm:=(List.length_filter_le (fun n=>decide (t<n.til)) (k.held.take i)));rw[aV4] at hm;simp only[aD,aV3,aV2];show _*48≤_;omega⟩) (s2 (rT [1,2,4,5,19,20,21] (s2 (wq [] [] (⟨k.held.length - (i+1),by omega,i+1,rfl,by omega,rfl⟩) ?_)))))))
     repeat' apply ai
     all_goals first|exact qx|exact congrArg D.i (by rw[aB (by omega)];omega)|(rw[hf];simp[aE,aQ,bA.row,cM.row];done)|(rw[hf];done)|exact qz
   have hp: (fun n:bA=>decide (t<n.til)) (k.held.getD i .zero)=false:=c28
   have hf:=dt (z:=bA.zero) (p:=fun n=>decide (t<n.til)) hi2 hp
   refine sk (rT [1,2,4,5,19,20,21] (s2 (wq [] [] (⟨k.held.length - (i+1),by omega,i+1,rfl,by omega,rfl⟩) ?_)))
   repeat' apply ai
   all_goals first|exact qx|exact congrArg D.i (by rw[aB (by omega)];omega)|(rw[hf];simp[aE,aQ,bA.row,cM.row];done)|(rw[hf];done)|exact qz
 have hi3:i=k.held.length:=by simp at c22;omega
 subst hi3
 clear hi
 refine xt (sq (sq (rT [1,4,5,37,38,39] (s4 (bk (SW.loopW (n:=k.marks.length) (fun m q=> ∃i:Nat,m=k.marks.length - i∧i≤k.marks.length∧q=[tI 1 t,tP 4 4,tP 5 5,tD 37 (.sl (aQ k.marks)),tI 38 (k.marks.length:Nat),tI 39 (i:Nat),oB 4 44 [.d (.i 0),.d (.i 0),.d (.i 0),.nil,.nil,.nil],oB 5 44 [.d (.i k.id),.d (.i t),.d (.i k.next),.own 100 (aE ((k.held.take k.held.length).filter (fun n=>decide (t<n.til)))).length,.own 101 (aQ ((k.marks.take i).filter (fun n=>decide (t<n.til)))).length,.d (.sl (aE k.inbox))],oR 100 52 5 (aE ((k.held.take k.held.length).filter (fun n=>decide (t<n.til)))),oR 101 162 3 (aQ ((k.marks.take i).filter (fun n=>decide (t<n.til))))]) ?_ ?_))))))
 · refine wq (σ':=[tI 1 t,tP 4 4,tP 5 5,tD 37 (.sl (aQ k.marks)),tI 38 (k.marks.length:Nat),tI 39 (0:Nat),oB 4 44 [.d (.i 0),.d (.i 0),.d (.i 0),.nil,.nil,.nil],oB 5 44 [.d (.i k.id),.d (.i t),.d (.i k.next),.own 100 (aE ((k.held.take k.held.length).filter (fun n=>decide (t<n.til)))).length,.own 101 (aQ ((k.marks.take 0).filter (fun n=>decide (t<n.til)))).length,.d (.sl (aE k.inbox))],oR 100 52 5 (aE ((k.held.take k.held.length).filter (fun n=>decide (t<n.til)))),oR 101 162 3 (aQ ((k.marks.take 0).filter (fun n=>decide (t<n.til))))]) [] [] (⟨0,rfl,aV5 _,rfl⟩) ?_
   repeat' apply ai
   all_goals first|exact qx|rfl|(rw[aD];done)|(rw[aO];done)|exact qz
 rintro n s ⟨i,rfl,hi,rfl⟩
 refine sq (rT [1,4,5,37,38,39,40] (s1 (sq (cd rfl (fun c40=> ?_) fun c40=> ?_))))
 · have hi2:i<k.marks.length:=by simpa using c40
   have hg:=cA (l:=k.marks) hi2
   refine sk (sq (bk (sq (rT [1,4,5,9,37,38,39] (ai (by rw[aVy,hg];exact⟨⟨by omega,by rw[aO];omega⟩,rfl⟩) (ai (by rw[aVy,hg];exact⟨aV0 rfl,rfl⟩) (s2 (sq (wa [tI 1 t,tP 4 4,tP 5 5,tD 37 (.sl (aQ k.marks)),tI 38 (k.marks.length:Nat),tI 39 (i:Nat),oB 4 44 [.d (.i 0),.d (.i 0),.d (.i 0),.nil,.nil,.nil],oB 5 44 [.d (.i k.id),.d (.i t),.d (.i k.next),.own 100 (aE ((k.held.take k.held.length).filter (fun n=>decide (t<n.til)))).length,.own 101 (aQ ((k.marks.take i).filter (fun n=>decide (t<n.til)))).length,.d (.sl (aE k.inbox))],oR 100 52 5 (aE ((k.held.take k.held.length).filter (fun n=>decide (t<n.til)))),oR 101 162 3 (aQ ((k.marks.take i).filter (fun n=>decide (t<n.til)))),tP 9 9,oB 9 162 [.d (.i (k.marks.getD i .zero).frm),.d (.i (k.marks.getD i .zero).num),.d (.i (k.marks.getD i .zero).til)]] [] [] ?_ ?_)))))))))
   · repeat' apply ai
     all_goals first|exact qx|(rw[aVy,hg];rfl)|exact qz
   refine rT [1,4,5,9,37,38,39,46] (s4 (cd rfl (fun c46=> ?_) fun c46=> ?_))
   · have hp: (fun n:cM=>decide (t<n.til)) (k.marks.getD i .zero)=true:=c46
     have hf:=zA (z:=cM.zero) (p:=fun n=>decide (t<n.til)) hi2 hp
     refine rT [1,4,5,37,38,39] (s3 (ai (by exact⟨by simp,aV0 rfl⟩) (ai (by exact⟨by first|trivial|rfl|(simp;done),by first|rfl|(simp;done),by first|(simp;done)|(intro r hr;rw[aWg.1 hr];rfl),by(have hm:=(List.length_filter_le (fun n=>decide (t<n.til)) (k.marks.take i)));rw[aV4] at hm;simp only[aO,aV3,aV2];show _*24≤_;omega⟩) (s2 (rT [1,4,5,37,38,39] (s2 (wq [] [] (⟨k.marks.length - (i+1),by omega,i+1,rfl,by omega,rfl⟩) ?_)))))))
     repeat' apply ai
     all_goals first|exact qx|exact congrArg D.i (by rw[aB (by omega)];omega)|(rw[hf];simp[aE,aQ,bA.row,cM.row];done)|(rw[hf];done)|exact qz
   have hp: (fun n:cM=>decide (t<n.til)) (k.marks.getD i .zero)=false:=c46
   have hf:=dt (z:=cM.zero) (p:=fun n=>decide (t<n.til)) hi2 hp
   refine sk (rT [1,4,5,37,38,39] (s2 (wq [] [] (⟨k.marks.length - (i+1),by omega,i+1,rfl,by omega,rfl⟩) ?_)))
   repeat' apply ai
   all_goals first|exact qx|exact congrArg D.i (by rw[aB (by omega)];omega)|(rw[hf];simp[aE,aQ,bA.row,cM.row];done)|(rw[hf];done)|exact qz
 have hi3:i=k.marks.length:=by simp at c40;omega
 subst hi3
 refine xt (sq (rT [4] (s2 (rt (rq [] [100,101] rfl ?_)))))
 repeat' apply ai
 all_goals try exact qx
 all_goals(first|with_reducible rfl|(simp[kB];done))
theorem xi (k:bO) (t:Int) (hb:k.held.length≤100000∧k.marks.length≤100000∧k.inbox.length≤100000):Sp 229 2 [tV 0 k.V,tI 1 t] [tV 0 ((kB k t).V)]:=by
 refine sb Tryz.func229 rfl (sq (rT [1,2,4] (s2 (sq (rT [1,2,4,5] (ai (by simp) (s1 (sq (sq (rT [1,2,4,5,6] (s1 (bk (SW.loopW (n:=k.held.length) (fun m q=> ∃i:Nat,m=k.held.length - i∧i≤k.held.length∧q=[tI 1 t,tP 2 2,tP 4 4,tO 5 9 (aE ((k.held.take i).filter (fun n=>decide (t<n.til)))).length,tI 6 (i:Nat),oB 2 44 [.d (.i k.id),.d (.i k.time),.d (.i k.next),.d (.sl (aE k.held)),.d (.sl (aQ k.marks)),.d (.sl (aE k.inbox))],oB 4 44 [.d (.i 0),.d (.i 0),.d (.i 0),.nil,.nil,.nil],oR 9 52 5 (aE ((k.held.take i).filter (fun n=>decide (t<n.til))))]) ?_ ?_)))))))))))))
 · refine wq (σ':=[tI 1 t,tP 2 2,tP 4 4,tO 5 9 (aE ((k.held.take 0).filter (fun n=>decide (t<n.til)))).length,tI 6 (0:Nat),oB 2 44 [.d (.i k.id),.d (.i k.time),.d (.i k.next),.d (.sl (aE k.held)),.d (.sl (aQ k.marks)),.d (.sl (aE k.inbox))],oB 4 44 [.d (.i 0),.d (.i 0),.d (.i 0),.nil,.nil,.nil],oR 9 52 5 (aE ((k.held.take 0).filter (fun n=>decide (t<n.til))))]) [] [] (⟨0,rfl,aV5 _,rfl⟩) ?_
   repeat' apply ai
   all_goals first|exact qx|rfl|(rw[aD];done)|(rw[aO];done)|exact qz
 rintro n s ⟨i,rfl,hi,rfl⟩
 refine sq (sq (rT [1,2,4,5,6,14] (s5 (cd rfl (fun c14=> ?_) fun c14=> ?_))))
 · have hi2:i<k.held.length:=by simpa[aD] using c14
   have hg:=aT (l:=k.held) hi2
   refine sk (sq (bk (sq (rT [1,2,4,5,6,24] (s3 (ai (by rw[aVy,hg];exact⟨⟨by omega,by rw[aD];omega⟩,rfl⟩) (s1 (ai (by rw[aVy,hg];exact⟨aV0 rfl,rfl⟩) (s2 (cd rfl (fun c24=> ?_) fun c24=> ?_))))))))))
   · rw[aVy,hg] at c24
     have hp: (fun n:bA=>decide (t<n.til)) (k.held.getD i .zero)=true:=c24
     have hf:=zA (z:=bA.zero) (p:=fun n=>decide (t<n.til)) hi2 hp
     refine rT [1,2,4,5,6] (s4 (ai (by rw[aVy,hg];exact⟨⟨by omega,by rw[aD];omega⟩,rfl⟩) (ai (by rw[aVy,hg];exact⟨aV0 rfl,rfl⟩) (ai (by exact⟨by simp,aV0 rfl⟩) (ai (by exact⟨by first|trivial|rfl|(simp;done),by first|rfl|(simp;done),by first|(simp;done)|(intro r hr;rw[aWg.1 hr];rfl),by(have hm:=(List.length_filter_le (fun n=>decide (t<n.til)) (k.held.take i)));rw[aV4] at hm;simp only[aD,aV3,aV2];show _*48≤_;omega⟩) (s1 (rT [1,2,4,5,6] (s3 (wq [] [] (⟨k.held.length - (i+1),by omega,i+1,rfl,by omega,rfl⟩) ?_)))))))))
     repeat' apply ai
     all_goals first|exact qx|exact congrArg D.i (by rw[aB (by omega)];omega)|(rw[hf,aVy,hg];exact eu _ _)|(rw[hf];simp[aE,aQ];done)|(rw[hf];done)|exact qz
   rw[aVy,hg] at c24
   have hp: (fun n:bA=>decide (t<n.til)) (k.held.getD i .zero)=false:=c24
   have hf:=dt (z:=bA.zero) (p:=fun n=>decide (t<n.til)) hi2 hp
   refine sk (rT [1,2,4,5,6] (s3 (wq [] [] (⟨k.held.length - (i+1),by omega,i+1,rfl,by omega,rfl⟩) ?_)))
   repeat' apply ai
   all_goals first|exact qx|exact congrArg D.i (by rw[aB (by omega)];omega)|(rw[hf,aVy,hg];exact eu _ _)|(rw[hf];simp[aE,aQ];done)|(rw[hf];done)|exact qz
 have hi3:i=k.held.length:=by simp[aD] at c14;omega
 subst hi3
 clear hi
 refine xt (sq (rT [1,2,4,5,7] (ai (by simp) (s1 (sq (sq (rT [1,2,4,5,7,8] (s1 (bk (SW.loopW (n:=k.marks.length) (fun m q=> ∃i:Nat,m=k.marks.length - i∧i≤k.marks.length∧q=[tI 1 t,tP 2 2,tP 4 4,tO 5 9 (aE ((k.held.take k.held.length).filter (fun n=>decide (t<n.til)))).length,tO 7 33 (aQ ((k.marks.take i).filter (fun n=>decide (t<n.til)))).length,tI 8 (i:Nat),oB 2 44 [.d (.i k.id),.d (.i k.time),.d (.i k.next),.d (.sl (aE k.held)),.d (.sl (aQ k.marks)),.d (.sl (aE k.inbox))],oB 4 44 [.d (.i 0),.d (.i 0),.d (.i 0),.nil,.nil,.nil],oR 9 52 5 (aE ((k.held.take k.held.length).filter (fun n=>decide (t<n.til)))),oR 33 162 3 (aQ ((k.marks.take i).filter (fun n=>decide (t<n.til))))]) ?_ ?_))))))))))
 · refine wq (σ':=[tI 1 t,tP 2 2,tP 4 4,tO 5 9 (aE ((k.held.take k.held.length).filter (fun n=>decide (t<n.til)))).length,tO 7 33 (aQ ((k.marks.take 0).filter (fun n=>decide (t<n.til)))).length,tI 8 (0:Nat),oB 2 44 [.d (.i k.id),.d (.i k.time),.d (.i k.next),.d (.sl (aE k.held)),.d (.sl (aQ k.marks)),.d (.sl (aE k.inbox))],oB 4 44 [.d (.i 0),.d (.i 0),.d (.i 0),.nil,.nil,.nil],oR 9 52 5 (aE ((k.held.take k.held.length).filter (fun n=>decide (t<n.til)))),oR 33 162 3 (aQ ((k.marks.take 0).filter (fun n=>decide (t<n.til))))]) [] [] (⟨0,rfl,aV5 _,rfl⟩) ?_
   repeat' apply ai
   all_goals first|exact qx|rfl|(rw[aD];done)|(rw[aO];done)|exact qz
 rintro n s ⟨i,rfl,hi,rfl⟩
 refine sq (sq (rT [1,2,4,5,7,8,38] (s5 (cd rfl (fun c38=> ?_) fun c38=> ?_))))
 · have hi2:i<k.marks.length:=by simpa[aO] using c38
   have hg:=cA (l:=k.marks) hi2
   refine sk (sq (bk (sq (rT [1,2,4,5,7,8,48] (s3 (ai (by rw[aVy,hg];exact⟨⟨by omega,by rw[aO];omega⟩,rfl⟩) (s1 (ai (by rw[aVy,hg];exact⟨aV0 rfl,rfl⟩) (s2 (cd rfl (fun c48=> ?_) fun c48=> ?_))))))))))
   · rw[aVy,hg] at c48
     have hp: (fun n:cM=>decide (t<n.til)) (k.marks.getD i .zero)=true:=c48
     have hf:=zA (z:=cM.zero) (p:=fun n=>decide (t<n.til)) hi2 hp
     refine rT [1,2,4,5,7,8] (s4 (ai (by rw[aVy,hg];exact⟨⟨by omega,by rw[aO];omega⟩,rfl⟩) (ai (by rw[aVy,hg];exact⟨aV0 rfl,rfl⟩) (ai (by exact⟨by simp,aV0 rfl⟩) (ai (by exact⟨by first|trivial|rfl|(simp;done),by first|rfl|(simp;done),by first|(simp;done)|(intro r hr;rw[aWg.1 hr];rfl),by(have hm:=(List.length_filter_le (fun n=>decide (t<n.til)) (k.marks.take i)));rw[aV4] at hm;simp only[aO,aV3,aV2];show _*24≤_;omega⟩) (s1 (rT [1,2,4,5,7,8] (s3 (wq [] [] (⟨k.marks.length - (i+1),by omega,i+1,rfl,by omega,rfl⟩) ?_)))))))))
     repeat' apply ai
     all_goals first|exact qx|exact congrArg D.i (by rw[aB (by omega)];omega)|(rw[hf,aVy,hg];exact ew _ _)|(rw[hf];simp[aE,aQ];done)|(rw[hf];done)|exact qz
   rw[aVy,hg] at c48
   have hp: (fun n:cM=>decide (t<n.til)) (k.marks.getD i .zero)=false:=c48
   have hf:=dt (z:=cM.zero) (p:=fun n=>decide (t<n.til)) hi2 hp
   refine sk (rT [1,2,4,5,7,8] (s3 (wq [] [] (⟨k.marks.length - (i+1),by omega,i+1,rfl,by omega,rfl⟩) ?_)))
   repeat' apply ai
   all_goals first|exact qx|exact congrArg D.i (by rw[aB (by omega)];omega)|(rw[hf,aVy,hg];exact ew _ _)|(rw[hf];simp[aE,aQ];done)|(rw[hf];done)|exact qz
 have hi3:i=k.marks.length:=by simp[aO] at c38;omega
 subst hi3
 refine xt (sq (rT [2,4,5,7] (s3 (sq (rT [2,4,7] (s3 (sq (rT [2,4] (s3 (sq (rT [4] (s2 (rt (rq [] [9,33] rfl ?_))))))))))))))
 repeat' apply ai
 all_goals try exact qx
 all_goals(first|with_reducible rfl|(simp[kB];done))
theorem fq (k:bO) (n:bA) (hb:k.held.length≤100000∧k.marks.length≤100000∧k.inbox.length≤100000) (hn:n.text.length≤140737488355328):Sp 246 2 [tV 0 k.V,tV 1 n.V] [tV 0 (.tup [.agg [.d (.i ((jN k n).1).id),.d (.i ((jN k n).1).time),.d (.i ((jN k n).1).next),.d (.sl (aE ((jN k n).1).held)),.d (.sl (aQ ((jN k n).1).marks)),.d (.sl (aE ((jN k n).1).inbox))],.c (.d (.b (jN k n).2))])]:=by
 refine sb Tryz.func246 rfl (sq (rT [2,3,4] (s4 (sq (sq (rT [2,3,4,56] (s1 (xp (sG n hn) (ai rfl ?_)))))))))
 refine s2 (y4 (y1 (ai pk (s1 (y4 (y2 (xc (fun h=>(kZ k.held _ _ (by omega))) (ai rfl (ai rk ?_)))))))))
 refine y1 (ai pk (s1 (y4 (y2 (xc (fun h=>(kZ k.inbox _ _ (by omega))) (ai rfl (ai rk ?_)))))))
 refine y1 (ai pk (s1 (y4 (y2 (xc (fun h=>(sH k.marks _ _ (by omega))) (ai rfl (ai rk ?_)))))))
 refine y1 (ai pk (s1 (y4 (y4 (y1 (ai pk (cd rfl (fun c56=> ?_) fun c56=> ?_)))))))
 · have ha:=ut hb c56
   refine sq (rT [4,5] (s3 (rt ?_)))
   have hr:jN k n=(k,false):=if_neg (bn ha)
   refine bU rfl rfl ?_
   rw[hr]<;>rfl
 have ha:=ut hb c56
 refine sk (sq (sq (rT [2,3,4,62] (s5 (cd rfl (fun c62=> ?_) fun c62=> ?_)))))
 · refine sq (rT [2,3,4] (s3 (xp (sI k.inbox n hb.2.2) (ai rfl ?_))))
   refine s2 (rT [2,4] (s9 (xp (xB k.marks ⟨n.frm,n.num,n.til⟩ hb.2.1) (ai rfl ?_))))
   refine s2 (sq (rT [4,5] (s3 (rt ?_))))
   first|have hr:=aA3 ha c62|have hr:=aA4 ha c62
   refine bU rfl rfl ?_
   rw[hr]<;>rfl
 refine rT [2,4] (s3 (xp (sI k.held n hb.1) (ai rfl ?_)))
 refine s2 (sq (rT [4,5] (s3 (rt ?_))))
 first|have hr:=aA3 ha c62|have hr:=aA4 ha c62
 refine bU rfl rfl ?_
 rw[hr]<;>rfl
theorem aDd (k:bO) (w:List UInt8) (n:Int) (hb:k.held.length≤100000∧k.marks.length≤100000∧k.inbox.length≤100000):Sp 205 3 [tV 0 k.V,tD 1 (.s w),tI 2 n] [tV 0 (.tup [.agg [.d (.i ((nB k w n).1).id),.d (.i ((nB k w n).1).time),.d (.i ((nB k w n).1).next),.d (.sl (aE ((nB k w n).1).held)),.d (.sl (aQ ((nB k w n).1).marks)),.d (.sl (aE ((nB k w n).1).inbox))],.c (.d (.b (nB k w n).2))])]:=by
 refine sb Tryz.func205 rfl (sq (rT [1,2,3,6] (s3 (sq (bk (sq (rT [1,2,3,6,8] (s3 (y4 (ai pk (s1 (cd rfl (fun c8=> ?_) fun c8=> ?_))))))))))))
 · refine sq (rT [6,7] (s2 (xp (xh k n hb) (ai rfl ?_))))
   refine s2 (rt ?_)
   have hr:nB k w n=(kB k n,true):=if_pos c8
   refine bU rfl rfl ?_
   rw[hr]<;>rfl
 refine sq (rT [2,3,6,20] (s3 (y4 (ai pk (s1 (cd rfl (fun c20=> ?_) fun c20=> ?_))))))
 · refine sq (rT [3,6] (s3 (sq (rT [6,7] (s3 (rt ?_))))))
   have hr:nB k w n=({k with next:=n},true):=(if_neg (bn c8)).trans (if_pos c20)
   refine bU rfl rfl ?_
   rw[hr]<;>rfl
 refine sk (sq (rT [6,7] (s3 (rt ?_))))
 have hr:nB k w n=(k,false):=(if_neg (bn c8)).trans (if_neg (bn c20))
 refine bU rfl rfl ?_
 rw[hr]<;>rfl
theorem zc (k:bO) (w:List UInt8) (n:bA) (hb:k.held.length≤100000∧k.marks.length≤100000∧k.inbox.length≤100000) (hn:n.text.length≤140737488355328):Sp 207 3 [tV 0 k.V,tD 1 (.s w),tV 2 n.V] [tV 0 (.tup [.agg [.d (.i ((gK k w n).1).id),.d (.i ((gK k w n).1).time),.d (.i ((gK k w n).1).next),.d (.sl (aE ((gK k w n).1).held)),.d (.sl (aQ ((gK k w n).1).marks)),.d (.sl (aE ((gK k w n).1).inbox))],.c (.d (.b (gK k w n).2))])]:=by
 refine sb Tryz.func207 rfl (sq (rT [1,3,5,6] (s4 (sq (bk (sq (rT [1,3,5,6,8] (s3 (y4 (y1 (ai pk (s1 (y4 (y1 (ai pk (s1 (cd rfl (fun c8=> ?_) fun c8=> ?_)))))))))))))))))
 · refine sq (rT [3,5,6] (s5 (sq (rT [6,7] (s2 (xp (fq {k with next:=wrap64 (k.next+1)} n hb hn) (ai rfl ?_)))))))
   refine s4 (rt ?_)
   have hr:gK k w n=jN {k with next:=wrap64 (k.next+1)} n:=if_pos c8
   refine bU rfl rfl ?_
   rw[hr]<;>rfl
 refine sq (rT [1,3,5,6,34] (s3 (y4 (y1 (ai pk (s1 (cd rfl (fun c34=> ?_) fun c34=> ?_)))))))
 · refine sq (rT [6,7] (s2 (xp (fq k n hb hn) (ai rfl ?_))))
   refine s4 (rt ?_)
   have hr:gK k w n=jN k n:=(if_neg (bn c8)).trans (if_pos c34)
   refine bU rfl rfl ?_
   rw[hr]<;>rfl
 refine sq (rT [1,3,5,6,49] (s6 (xp (kZ k.held _ _ (by omega)) (ai rfl ?_))))
 refine s2 (y4 (y2 (xc (fun h=>(kZ k.inbox _ _ (by omega))) (ai rfl (ai rk ?_)))))
 refine y1 (ai pk (s1 (cd rfl (fun c49=> ?_) fun c49=> ?_)))
 · refine sk (sq (rT [6,7] (s3 (rt ?_))))
   have hr:gK k w n=(k,false):=by
    first|exact(if_neg (bn c8)).trans ((if_neg (bn c34)).trans (if_pos c49))|exact(if_neg (bn c8)).trans ((if_neg (bn c34)).trans ((if_neg (bn c49)).trans ((if_neg (bn c68)).trans (if_neg (bn c77)))))
   refine bU rfl rfl ?_
   rw[hr]<;>rfl
 refine sq (rT [1,3,5,6,68] (s3 (cd rfl (fun c68=> ?_) fun c68=> ?_)))
 · refine sq (rT [3,6] (s3 (xp (sI k.held n hb.1) (ai rfl ?_))))
   refine s2 (sq (rT [6,7] (s3 (rt ?_))))
   have hr:gK k w n=({k with held:=mW k.held n},true):=(if_neg (bn c8)).trans ((if_neg (bn c34)).trans ((if_neg (bn c49)).trans (if_pos c68)))
   refine bU rfl rfl ?_
   rw[hr]<;>rfl
 refine sq (rT [3,5,6,77] (s3 (cd rfl (fun c77=> ?_) fun c77=> ?_)))
 · refine sq (rT [3,6] (s3 (xp (sI k.inbox n hb.2.2) (ai rfl ?_))))
   refine s2 (sq (rT [6,7] (s3 (rt ?_))))
   have hr:gK k w n=({k with inbox:=mW k.inbox n},true):=(if_neg (bn c8)).trans ((if_neg (bn c34)).trans ((if_neg (bn c49)).trans ((if_neg (bn c68)).trans (if_pos c77))))
   refine bU rfl rfl ?_
   rw[hr]<;>rfl
 refine sk (sq (rT [6,7] (s3 (rt ?_))))
 have hr:gK k w n=(k,false):=by
  first|exact(if_neg (bn c8)).trans ((if_neg (bn c34)).trans (if_pos c49))|exact(if_neg (bn c8)).trans ((if_neg (bn c34)).trans ((if_neg (bn c49)).trans ((if_neg (bn c68)).trans (if_neg (bn c77)))))
 refine bU rfl rfl ?_
 rw[hr]<;>rfl
theorem zd (k:bO) (w:List UInt8) (m:cM) (hb:k.held.length≤100000∧k.marks.length≤100000∧k.inbox.length≤100000):Sp 210 3 [tV 0 k.V,tD 1 (.s w),tV 2 m.V] [tV 0 (.tup [.agg [.d (.i ((jO k w m).1).id),.d (.i ((jO k w m).1).time),.d (.i ((jO k w m).1).next),.d (.sl (aE ((jO k w m).1).held)),.d (.sl (aQ ((jO k w m).1).marks)),.d (.sl (aE ((jO k w m).1).inbox))],.c (.d (.b (jO k w m).2))])]:=by
 refine sb Tryz.func210 rfl (sq (rT [1,3,5,6] (s4 (sq (rD [1,3,5,6,8,9] (s6 (xp (kZ k.held _ _ (by omega)) (ai rfl ?_))))))))
 refine s6 (xp (kZ k.inbox _ _ (by omega)) (ai rfl ?_))
 refine s2 (ai (by kernel_rfl) (sq (rT [1,3,5,6,8,9,10] (s6 (xp (sH k.marks _ _ (by omega)) (ai rfl ?_))))))
 refine s2 (sq (bk (sq (rD [1,3,5,6,8,9,10,33] (s3 (y2 (ai pk (s1 (y3 (ai (fun h=>(by skip;have hp:0≤aW k.held m.frm m.num:=(by have h8:=h;simp only[gb,aV1,decide_eq_true_eq] at h8;exact h8.2);have hr:=fL k.held m.frm m.num;rw[aT (by omega)];exact⟨⟨hp,by rw[aD];omega⟩,rfl⟩)) (ai rk (y1 (ai (fun h=>(by have hp:0≤aW k.held m.frm m.num:=(by have h8:=h;simp only[gb,aV1,decide_eq_true_eq] at h8;exact h8.2);have hr:=fL k.held m.frm m.num;rw[aT (by omega)];exact⟨aV0 rfl,rfl⟩)) (ai rk (y3 (ai pk (s1 (ai (by kernel_rfl) (cd rfl (fun c33=> ?_) fun c33=> ?_)))))))))))))))))))
 · have hc: (w==oI&&decide (0≤aW k.held m.frm m.num)&&(k.held.getD (aW k.held m.frm m.num).toNat .zero).til==m.til)=true:=by
    have h9:=c33
    by_cases hp:0≤aW k.held m.frm m.num
    · have hr:=fL k.held m.frm m.num
      rw[aT (by omega)] at h9
      exact h9
    · rw[show decide (aW k.held m.frm m.num≥0)=false from decide_eq_false hp,Bool.and_false,Bool.false_and] at h9
      rw[show decide (0≤aW k.held m.frm m.num)=false from decide_eq_false hp,Bool.and_false,Bool.false_and]<;>exact h9
   have hp:0≤aW k.held m.frm m.num:=by
    simp only[aV1,decide_eq_true_eq] at hc
    exact hc.1.2
   have hr:=fL k.held m.frm m.num
   refine sq (rT [3,5,6] (s3 (xp (cy k.held (aW k.held m.frm m.num) ⟨hp,by omega⟩ hb.1) (ai rfl ?_))))
   refine s2 (sq (rT [3,6] (s3 (xp (xB k.marks m hb.2.1) (ai rfl ?_)))))
   refine s2 (sq (rT [6,7] (s3 (rt ?_))))
   have hr:jO k w m=({k with held:=hF k.held (aW k.held m.frm m.num).toNat,marks:=tE k.marks m},true):=if_pos hc
   refine bU rfl rfl ?_
   rw[hr]<;>rfl
 have hc: (w==oI&&decide (0≤aW k.held m.frm m.num)&&(k.held.getD (aW k.held m.frm m.num).toNat .zero).til==m.til)=false:=by
  have h9:=c33
  by_cases hp:0≤aW k.held m.frm m.num
  · have hr:=fL k.held m.frm m.num
    rw[aT (by omega)] at h9
    exact h9
  · rw[show decide (aW k.held m.frm m.num≥0)=false from decide_eq_false hp,Bool.and_false,Bool.false_and] at h9
    rw[show decide (0≤aW k.held m.frm m.num)=false from decide_eq_false hp,Bool.and_false,Bool.false_and]<;>exact h9
 have hc1:=hc
 clear hc
 refine sq (rD [1,3,5,6,9,10,62] (s3 (y2 (ai pk (s1 (y3 (ai (fun h=>(by skip;have hp:0≤aW k.inbox m.frm m.num:=(by have h8:=h;simp only[gb,aV1,decide_eq_true_eq] at h8;exact h8.2);have hr:=fL k.inbox m.frm m.num;rw[aT (by omega)];exact⟨⟨hp,by rw[aD];omega⟩,rfl⟩)) (ai rk (y1 (ai (fun h=>(by have hp:0≤aW k.inbox m.frm m.num:=(by have h8:=h;simp only[gb,aV1,decide_eq_true_eq] at h8;exact h8.2);have hr:=fL k.inbox m.frm m.num;rw[aT (by omega)];exact⟨aV0 rfl,rfl⟩)) (ai rk (y3 (ai pk (s1 (ai (by kernel_rfl) (cd rfl (fun c62=> ?_) fun c62=> ?_))))))))))))))))
 · have hc: (w==nD&&decide (0≤aW k.inbox m.frm m.num)&&(k.inbox.getD (aW k.inbox m.frm m.num).toNat .zero).til==m.til)=true:=by
    have h9:=c62
    by_cases hp:0≤aW k.inbox m.frm m.num
    · have hr:=fL k.inbox m.frm m.num
      rw[aT (by omega)] at h9
      exact h9
    · rw[show decide (aW k.inbox m.frm m.num≥0)=false from decide_eq_false hp,Bool.and_false,Bool.false_and] at h9
      rw[show decide (0≤aW k.inbox m.frm m.num)=false from decide_eq_false hp,Bool.and_false,Bool.false_and]<;>exact h9
   have hp:0≤aW k.inbox m.frm m.num:=by
    simp only[aV1,decide_eq_true_eq] at hc
    exact hc.1.2
   have hr:=fL k.inbox m.frm m.num
   refine sq (rT [3,6] (s3 (xp (cy k.inbox (aW k.inbox m.frm m.num) ⟨hp,by omega⟩ hb.2.2) (ai rfl ?_))))
   refine s2 (sq (rT [6,7] (s3 (rt ?_))))
   have hr:jO k w m=({k with inbox:=hF k.inbox (aW k.inbox m.frm m.num).toNat},true):=(if_neg (bn hc1)).trans (if_pos hc)
   refine bU rfl rfl ?_
   rw[hr]<;>rfl
 have hc: (w==nD&&decide (0≤aW k.inbox m.frm m.num)&&(k.inbox.getD (aW k.inbox m.frm m.num).toNat .zero).til==m.til)=false:=by
  have h9:=c62
  by_cases hp:0≤aW k.inbox m.frm m.num
  · have hr:=fL k.inbox m.frm m.num
    rw[aT (by omega)] at h9
    exact h9
  · rw[show decide (aW k.inbox m.frm m.num≥0)=false from decide_eq_false hp,Bool.and_false,Bool.false_and] at h9
    rw[show decide (0≤aW k.inbox m.frm m.num)=false from decide_eq_false hp,Bool.and_false,Bool.false_and]<;>exact h9
 refine sq (rT [3,5,6,86] (s3 (y2 (ai pk (s1 (cd rfl (fun c86=> ?_) fun c86=> ?_))))))
 · have hm: (w==iV&&decide (iT k.marks m.frm m.num<0))=true:=by
    have h9:=c86
    rw[aAx,Bool.not_not] at h9
    exact h9
   refine sq (rT [3,6] (s3 (xp (xB k.marks m hb.2.1) (ai rfl ?_))))
   refine s2 (sq (rT [6,7] (s3 (rt ?_))))
   have hr:jO k w m=({k with marks:=tE k.marks m},true):=(if_neg (bn hc1)).trans ((if_neg (bn hc)).trans (if_pos hm))
   refine bU rfl rfl ?_
   rw[hr]<;>rfl
 have hm: (w==iV&&decide (iT k.marks m.frm m.num<0))=false:=by
  have h9:=c86
  rw[aAx,Bool.not_not] at h9
  exact h9
 refine sk (sq (rT [6,7] (s3 (rt ?_))))
 have hr:jO k w m=(k,false):=(if_neg (bn hc1)).trans ((if_neg (bn hc)).trans (if_neg (bn hm)))
 refine bU rfl rfl ?_
 rw[hr]<;>rfl
theorem aDe (k:bO) (rec:List UInt8) (hb:k.held.length≤100000∧k.marks.length≤100000∧k.inbox.length≤100000) (hr:rec.length≤900000):Sp 170 2 [tV 0 k.V,tD 1 (.s rec)] [tV 0 (.tup [.agg [.d (.i ((gI k rec).1).id),.d (.i ((gI k rec).1).time),.d (.i ((gI k rec).1).next),.d (.sl (aE ((gI k rec).1).held)),.d (.sl (aQ ((gI k rec).1).marks)),.d (.sl (aE ((gI k rec).1).inbox))],.c (.d (.b (gI k rec).2))])]:=by
 have hl1:=uT rec
 have hl2:=dq rec
 have hl3:=zE (aN rec)
 refine sb Tryz.func170 rfl (sq (rT [1,2,4] (s3 (sq (rT [2,4,6,7,8] (s1 (xp (zb rec (by omega)) (ai rfl ?_))))))))
 refine s7 (sq (sq (rT [2,4,6,7,22] (s2 (cd rfl (fun c22=> ?_) fun c22=> ?_)))))
 · have hs:fS rec=false:=by simpa using c22
   refine sq (rT [4,5] (s3 (rt ?_)))
   have hr:gI k rec=(k,false):=aKo hs
   refine bU rfl rfl ?_
   rw[hr]<;>rfl
 have hs:fS rec=true:=by simpa using c22
 refine sk (sq (sq (rT [2,4,6,7,24] (s1 (bk (SW.midW (fun q=>q=[tP 2 2,tP 4 4,tD 6 (.s (bG rec)),tD 7 (.s (aN rec)),tD 24 (.s (bG rec)),tB 25 (bG rec==jI||bG rec==kR),oB 2 44 [.d (.i k.id),.d (.i k.time),.d (.i k.next),.d (.sl (aE k.held)),.d (.sl (aQ k.marks)),.d (.sl (aE k.inbox))],oB 4 44 [.d (.i 0),.d (.i 0),.d (.i 0),.nil,.nil,.nil]]) ?_ ?_))))))
 · refine sq (rT [2,4,6,7,24,25] (s2 (cd rfl (fun c25=> ?_) fun c25=> ?_)))
   · refine sk (wq [] [] (rfl) ?_)
     repeat' apply ai
     all_goals first|exact qx|(refine congrArg D.b ?_;simp_all[jI,kR,kJ,gD,iP,gH,oI,nD,iV])|exact qz
   refine rT [2,4,6,7,24,25] (s2 (wq [] [] (rfl) ?_))
   repeat' apply ai
   all_goals first|exact qx|(refine congrArg D.b ?_;simp_all[jI,kR,kJ,gD,iP,gH,oI,nD,iV])|exact qz
 rintro s rfl
 refine cd rfl (fun c25=> ?_) fun c25=> ?_
 · refine sq (rT [2,4,6,9,10] (s1 (xp (aBo (aN rec) (by omega)) (ai rfl ?_))))
   refine s5 (sq (rT [2,4,6,9,33] (s1 (cd rfl (fun c33=> ?_) fun c33=> ?_))))
   · refine sq (rT [4,5] (s3 (xp (aDd k (bG rec) (iU (aN rec)) hb) (ai rfl ?_))))
     refine s4 (rt ?_)
     have hr:gI k rec=_:=aEv hs c25 c33
     refine bU rfl rfl ?_
     rw[hr]<;>rfl
   refine sk (sq (rT [4,5] (s3 (rt ?_))))
   have hr2:gI k rec=(k,false):=by
    first|exact dx hs c25 c33|exact vL hs c25 c40 c50|exact zF hs c25 c40 c57 hm3|exact jy hs c25 c40 c57
   refine bU rfl rfl ?_
   rw[hr2]<;>rfl
 refine SW.midW (fun q=>q=[tP 2 2,tP 4 4,tD 6 (.s (bG rec)),tD 7 (.s (aN rec)),tD 24 (.s (bG rec)),tB 40 (bG rec==kJ||bG rec==gD||bG rec==iP||bG rec==gH),oB 2 44 [.d (.i k.id),.d (.i k.time),.d (.i k.next),.d (.sl (aE k.held)),.d (.sl (aQ k.marks)),.d (.sl (aE k.inbox))],oB 4 44 [.d (.i 0),.d (.i 0),.d (.i 0),.nil,.nil,.nil]]) ?_ ?_
 · refine sq (rT [2,4,6,7,24,40] (s2 (cd rfl (fun c40=> ?_) fun c40=> ?_)))
   · refine sk (wq [] [] (rfl) ?_)
     repeat' apply ai
     all_goals first|exact qx|(refine congrArg D.b ?_;simp_all[jI,kR,kJ,gD,iP,gH,oI,nD,iV])|exact qz
   refine sq (rT [2,4,6,7,24,40] (s2 (cd rfl (fun c40_2=> ?_) fun c40_2=> ?_)))
   · refine sk (wq [] [] (rfl) ?_)
     repeat' apply ai
     all_goals first|exact qx|(refine congrArg D.b ?_;simp_all[jI,kR,kJ,gD,iP,gH,oI,nD,iV])|exact qz
   refine sq (rT [2,4,6,7,24,40] (s2 (cd rfl (fun c40_3=> ?_) fun c40_3=> ?_)))
   · refine sk (wq [] [] (rfl) ?_)
     repeat' apply ai
     all_goals first|exact qx|(refine congrArg D.b ?_;simp_all[jI,kR,kJ,gD,iP,gH,oI,nD,iV])|exact qz
   refine rT [2,4,6,7,24,40] (s2 (wq [] [] (rfl) ?_))
   repeat' apply ai
   all_goals first|exact qx|(refine congrArg D.b ?_;simp_all[jI,kR,kJ,gD,iP,gH,oI,nD,iV])|exact qz
 rintro s rfl
 refine cd rfl (fun c40=> ?_) fun c40=> ?_
 · refine sq (rT [2,4,6,11,12] (s1 (xp (rr (aN rec) (by omega)) (ai rfl ?_))))
   refine s6 (sq (rT [2,4,6,11,50] (s1 (cd rfl (fun c50=> ?_) fun c50=> ?_))))
   · refine sq (rT [4,5] (s3 (xp (zc k (bG rec) (dZ (aN rec)).1 hb (by omega)) (ai rfl ?_))))
     refine s4 (rt ?_)
     have hr:gI k rec=_:=aKp hs c25 c40 c50
     refine bU rfl rfl ?_
     rw[hr]<;>rfl
   refine sk (sq (rT [4,5] (s3 (rt ?_))))
   have hr2:gI k rec=(k,false):=by
    first|exact dx hs c25 c33|exact vL hs c25 c40 c50|exact zF hs c25 c40 c57 hm3|exact jy hs c25 c40 c57
   refine bU rfl rfl ?_
   rw[hr2]<;>rfl
 refine SW.midW (fun q=>q=[tP 2 2,tP 4 4,tD 6 (.s (bG rec)),tD 7 (.s (aN rec)),tB 57 (bG rec==oI||bG rec==nD||bG rec==iV),oB 2 44 [.d (.i k.id),.d (.i k.time),.d (.i k.next),.d (.sl (aE k.held)),.d (.sl (aQ k.marks)),.d (.sl (aE k.inbox))],oB 4 44 [.d (.i 0),.d (.i 0),.d (.i 0),.nil,.nil,.nil]]) ?_ ?_
 · refine sq (rT [2,4,6,7,24,57] (s2 (cd rfl (fun c57=> ?_) fun c57=> ?_)))
   · refine sk (wq [] [] (rfl) ?_)
     repeat' apply ai
     all_goals first|exact qx|(refine congrArg D.b ?_;simp_all[jI,kR,kJ,gD,iP,gH,oI,nD,iV])|exact qz
   refine sq (rT [2,4,6,7,24,57] (s2 (cd rfl (fun c57_2=> ?_) fun c57_2=> ?_)))
   · refine sk (wq [] [] (rfl) ?_)
     repeat' apply ai
     all_goals first|exact qx|(refine congrArg D.b ?_;simp_all[jI,kR,kJ,gD,iP,gH,oI,nD,iV])|exact qz
   refine rT [2,4,6,7,57] (s2 (wq [] [] (rfl) ?_))
   repeat' apply ai
   all_goals first|exact qx|(refine congrArg D.b ?_;simp_all[jI,kR,kJ,gD,iP,gH,oI,nD,iV])|exact qz
 rintro s rfl
 refine cd rfl (fun c57=> ?_) fun c57=> ?_
 · refine sq (rT [2,4,6,13,14] (s1 (xp (ro (aN rec) (by omega)) (ai rfl ?_))))
   refine xp (ar (dE (aN rec)) (by have:=aKn (aN rec);omega) (fun x hx=>by have:=aNg (aN rec) x hx;omega)) (ai rfl ?_)
   refine s5 (sq (rT [2,4,6,13,72] (s2 (y3 (ai pk (cd rfl (fun c72=> ?_) fun c72=> ?_))))))
   · have hm3:=aA5 c72
     have hm4:=hm3
     rw[aV1,beq_iff_eq] at hm4
     obtain⟨hno,hl4⟩:=hm4
     have e0:sd (((bX (kH (dE (aN rec)))).getD 0 []).getD 0 (.i 0))=iU ((dE (aN rec)).getD 0 []):=aCo hno (by omega)
     have e1:sd (((bX (kH (dE (aN rec)))).getD 1 []).getD 0 (.i 0))=iU ((dE (aN rec)).getD 1 []):=aCo hno (by omega)
     have e2:sd (((bX (kH (dE (aN rec)))).getD 2 []).getD 0 (.i 0))=iU ((dE (aN rec)).getD 2 []):=aCo hno (by omega)
     refine sq (rD [4,5] (s3 (ai (by exact jm (l:=kH (dE (aN rec))) (by omega) (by rw[hD hno];omega)) (ai (by have:=iH (l:=kH (dE (aN rec))) (i:=0) (by rw[hD hno];omega);first|(rw[show((0:Int)).toNat=((0:Nat):Int).toNat from rfl,this];exact⟨aV0 rfl,rfl⟩)) (s1 (ai (by exact jm (l:=kH (dE (aN rec))) (by omega) (by rw[hD hno];omega)) (ai (by have:=iH (l:=kH (dE (aN rec))) (i:=1) (by rw[hD hno];omega);first|(rw[show((1:Int)).toNat=((1:Nat):Int).toNat from rfl,this];exact⟨aV0 rfl,rfl⟩)) (s1 (ai (by exact jm (l:=kH (dE (aN rec))) (by omega) (by rw[hD hno];omega)) (ai (by have:=iH (l:=kH (dE (aN rec))) (i:=2) (by rw[hD hno];omega);first|(rw[show((2:Int)).toNat=((2:Nat):Int).toNat from rfl,this];exact⟨aV0 rfl,rfl⟩)) (s1 (xp (zd k (bG rec) (three (dE (aN rec))) hb) (ai (by exact aVp e0 e1 e2) ?_)))))))))))))
     refine s4 (ai (by kernel_rfl) (rt ?_))
     have hr:gI k rec=_:=aKq hs c25 c40 c57 hm3
     refine bU rfl rfl ?_
     rw[hr]<;>rfl
   have hm3:=aA5 c72
   refine sk (sq (rT [4,5] (s3 (rt ?_))))
   have hr2:gI k rec=(k,false):=by
    first|exact dx hs c25 c33|exact vL hs c25 c40 c50|exact zF hs c25 c40 c57 hm3|exact jy hs c25 c40 c57
   refine bU rfl rfl ?_
   rw[hr2]<;>rfl
 refine sk (sq (rT [4,5] (s3 (rt ?_))))
 have hr2:gI k rec=(k,false):=by
  first|exact dx hs c25 c33|exact vL hs c25 c40 c50|exact zF hs c25 c40 c57 hm3|exact jy hs c25 c40 c57
 refine bU rfl rfl ?_
 rw[hr2]<;>rfl
theorem ol (id:Int):Sp 112 1 [tI 0 id] [tV 0 ((eB id).V)]:=by
 refine sb Tryz.func112 rfl (sq (rT [0,2] (s1 (sq (sq (rT [0,2,5] (s1 (xp (eP _) (ai rfl ?_)))))))))
 refine s1 (cd rfl (fun c5=> ?_) fun c5=> ?_)
 · have hr:eB id= .zero:=if_neg (by simpa using c5)
   refine sq (rT [2] (s2 (rt ?_)))
   rw[hr]
   exact rq [] [] rfl qz
 have hr:eB id=⟨id,0,1,[],[],[]⟩:=if_pos (by simpa using c5)
 refine sk (sq (rT [2] (s3 (rt ?_))))
 rw[hr]
 exact rq [] [] rfl qz
theorem ze (k:bO) (rec:List UInt8) (hk:KB k) (hr:rec.length≤900000):Sp 113 2 [tV 0 k.V,tD 1 (.s rec)] [tV 0 (.tup [.agg [.d (.i ((eH k rec).1).id),.d (.i ((eH k rec).1).time),.d (.i ((eH k rec).1).next),.d (.sl (aE ((eH k rec).1).held)),.d (.sl (aQ ((eH k rec).1).marks)),.d (.sl (aE ((eH k rec).1).inbox))],.c (.d (.b (eH k rec).2))])]:=by
 refine sb Tryz.func113 rfl (sq (rT [1,2,4] (s3 (sq (sq (rT [1,2,4,10] (s1 (xp (fm k hk.2.1 hk.2.2) (ai rfl ?_)))))))))
 refine s1 (cd rfl (fun c10=> ?_) fun c10=> ?_)
 · refine sq (rT [4,5] (s3 (rt ?_)))
   have hr:eH k rec=(.zero,false):=if_neg (by simpa using c10)
   rw[hr]
   exact rq [] [] rfl qz
 have hok:eG k=true:=by simpa using c10
 refine sk (sq (rT [2,4,6,7] (s1 (xp (tH k (by have:=hk.1;omega)) (ai rfl ?_)))))
 refine s1 (xp (aDe k rec hk.1 hr) (ai rfl ?_))
 refine s6 (sq (sq (rT [2,4,6,25] (s3 (y1 (xc (fun h=>fm (gI k rec).1 (nn (fC hok) (by omega)).2.1 (nn (fC hok) (by omega)).2.2) (ai rfl (ai rk ?_))))))))
 refine y1 (ai pk (cd rfl (fun c25=> ?_) fun c25=> ?_))
 · refine sq (rT [4,5] (s1 (xp (tH k (by have:=hk.1;omega)) (ai rfl ?_))))
   refine s2 (rt ?_)
   have hr:eH k rec=(k,false):=(if_pos hok).trans (if_neg (by intro h;rw[aV1] at h;rw[h.1,h.2] at c25;cases c25))
   rw[hr]
   exact rq [] [] rfl qz
 refine sk (sq (rT [4,5] (s1 (xp (tH (gI k rec).1 (by have:=(nn (fC hok) (show rec.length≤1000000 by omega)).1;omega)) (ai rfl ?_)))))
 refine s2 (rt ?_)
 have hr:eH k rec=((gI k rec).1,true):=(if_pos hok).trans (if_pos (by simpa using c25))
 rw[hr]
 exact rq [] [] rfl qz
theorem zf (id:Int) (l:List (List UInt8)) (hl:l.length≤900000) (hx: ∀x∈l,x.length≤900000):Sp 50 2 [tI 0 id,tD 1 (.sl (aX l))] [tV 0 (.tup [.agg [.d (.i ((gL id l).1).id),.d (.i ((gL id l).1).time),.d (.i ((gL id l).1).next),.d (.sl (aE ((gL id l).1).held)),.d (.sl (aQ ((gL id l).1).marks)),.d (.sl (aE ((gL id l).1).inbox))],.c (.d (.b (gL id l).2))])]:=by
 refine sb Tryz.func50 rfl (sq (rT [0,1,4] (s2 (sq (sq (rT [0,1,4,13] (s1 (xp (eP _) (ai rfl ?_)))))))))
 refine s1 (cd rfl (fun c13=> ?_) fun c13=> ?_)
 · refine sq (rT [4,5] (s3 (rt ?_)))
   have hr:gL id l=(.zero,false):=if_neg (by simpa using c13)
   rw[hr]
   exact rq [] [] rfl qz
 have hnode:eA id=true:=by simpa using c13
 refine sk (sq (rT [1,4,6] (s1 (xp (ol id) (ai rfl ?_)))))
 refine s2 (sq (sq (rT [4,6,17,18,19] (s3 (bk (SW.loopW (n:=l.length) (fun m s=> ∃(i:Nat) (q:bO),m=l.length - i∧i≤l.length∧K6 q∧oK (eB id) l=oK q (l.drop i)∧s=[tP 4 4,tP 6 6,tD 17 (.sl (aX l)),tI 18 (l.length:Nat),tI 19 (i:Nat),oB 4 44 [.d (.i 0),.d (.i 0),.d (.i 0),.nil,.nil,.nil],oB 6 44 [.d (.i (q).id),.d (.i (q).time),.d (.i (q).next),.d (.sl (aE (q).held)),.d (.sl (aQ (q).marks)),.d (.sl (aE (q).inbox))]]) ?_ ?_))))))
 · refine wq (σ':=[tP 4 4,tP 6 6,tD 17 (.sl (aX l)),tI 18 (l.length:Nat),tI 19 (0:Nat),oB 4 44 [.d (.i 0),.d (.i 0),.d (.i 0),.nil,.nil,.nil],oB 6 44 [.d (.i (eB id).id),.d (.i (eB id).time),.d (.i (eB id).next),.d (.sl (aE (eB id).held)),.d (.sl (aQ (eB id).marks)),.d (.sl (aE (eB id).inbox))]]) [] [] (⟨0,eB id,rfl,aV5 _,jz id,rfl,rfl⟩) ?_
   repeat' apply ai
   all_goals first|exact qx|rfl|(rw[aM];done)|exact qz
 rintro n s ⟨i,q,rfl,hi,hq,hgo,rfl⟩
 refine sq (rT [4,6,17,18,19,20] (s1 (sq (cd rfl (fun c20=> ?_) fun c20=> ?_))))
 · have hi2:i<l.length:=by simpa using c20
   have hg:=eN (l:=l) hi2
   have hmem:l.getD i []∈l:=dH hi2
   refine sk (sq (bk (sq (rT [4,6,8,17,18,19] (ai (by rw[aVy,hg];exact⟨⟨by omega,by rw[aM];omega⟩,rfl⟩) (ai (by rw[aVy,hg];exact⟨aV0 rfl,rfl⟩) (s1 (sq (wa [tP 4 4,tP 6 6,tD 8 (.s (l.getD i [])),tD 17 (.sl (aX l)),tI 18 (l.length:Nat),tI 19 (i:Nat),oB 4 44 [.d (.i 0),.d (.i 0),.d (.i 0),.nil,.nil,.nil],oB 6 44 [.d (.i (q).id),.d (.i (q).time),.d (.i (q).next),.d (.sl (aE (q).held)),.d (.sl (aQ (q).marks)),.d (.sl (aE (q).inbox))]] [] [] ?_ ?_)))))))))
   · repeat' apply ai
     all_goals first|exact qx|(rw[aVy,hg];rfl)|exact qz
   refine rT [4,6,9,10,17,18,19] (s2 (xp (ze q (l.getD i []) hq.seven.big (hx _ hmem)) (ai rfl ?_)))
   refine s6 (sq (sq (rT [4,6,9,17,18,19,30] (s2 (cd rfl (fun c30=> ?_) fun c30=> ?_)))))
   · have hno: (eH q (l.getD i [])).2=false:=by simpa using c30
     rw[List.drop_eq_getElem_cons hi2,oK,show l[i]=l.getD i [] by rw[aV6,aV8 hi2];rfl,hno] at hgo
     refine sq (rT [4,5] (s3 (rt ?_)))
     have hr:gL id l=(.zero,false):=(if_pos hnode).trans (hgo.trans (if_neg (by simp)))
     rw[hr]
     exact rq [] [] rfl qz
   have hno: (eH q (l.getD i [])).2=true:=by simpa using c30
   rw[List.drop_eq_getElem_cons hi2,oK,show l[i]=l.getD i [] by rw[aV6,aV8 hi2];rfl,if_pos hno] at hgo
   refine sk (rT [4,6,17,18,19] (s2 (rT [4,6,17,18,19] (s2 (wq [] [] (⟨l.length - (i+1),by omega,i+1,(eH q (l.getD i [])).1,rfl,by omega,aA7,hgo,rfl⟩) ?_)))))
   repeat' apply ai
   all_goals first|exact qx|exact congrArg D.i (aB (by omega))|exact qz
 have hi3:i=l.length:=by simp at c20;omega
 subst hi3
 refine xt (sq (rT [4,5] (s3 (rt ?_))))
 have hr:gL id l=(q,true):=(if_pos hnode).trans (hgo.trans (by rw[List.drop_length];rfl))
 rw[hr]
 exact rq [] [] rfl qz
theorem ru (k:bO) (n:bA) (hb:k.held.length≤100000∧k.marks.length≤100000∧k.inbox.length≤100000) (hn:n.text.length≤140737488355328):Sp 252 2 [tV 0 k.V,tV 1 n.V] [tB 0 (gq k n)]:=by
 refine sb Tryz.func252 rfl (sq (rT [2,3] (s3 (sq (rT [4] (s1 (xp (wZ n hn) (ai rfl ?_))))))))
 refine s1 (y4 (y1 (ai pk (s1 (y4 (y2 (xc (fun h=>(fU k.held _ _ (by omega))) (ai rfl (ai rk ?_)))))))))
 refine y1 (ai pk (s1 (y4 (y2 (xc (fun h=>(nT k.marks _ _ (by omega))) (ai rfl (ai rk ?_)))))))
 refine y1 (ai pk (s1 (y4 (y2 (xc (fun h=>(fU k.inbox _ _ (by omega))) (ai rfl (ai rk ?_)))))))
 refine y1 (ai pk (s1 (rt (bL rfl (congrArg D.b ?_)))))
 rfl
theorem cz (k:bO) (n:bA) (hb:k.held.length≤100000∧k.marks.length≤100000∧k.inbox.length≤100000) (hn:n.text.length≤140737488355328):Sp 231 2 [tV 0 k.V,tV 1 n.V] [tV 0 (.tup [.agg [.d (.i ((mH k n).1).id),.d (.i ((mH k n).1).time),.d (.i ((mH k n).1).next),.d (.sl (aE ((mH k n).1).held)),.d (.sl (aQ ((mH k n).1).marks)),.d (.sl (aE ((mH k n).1).inbox))],.c (.d (.b (mH k n).2))])]:=by
 refine sb Tryz.func231 rfl (sq (rT [2,3,4] (s4 (sq (sq (rT [2,3,4,9] (s2 (xp (ru k n hb hn) (ai rfl ?_)))))))))
 refine s1 (cd rfl (fun c9=> ?_) fun c9=> ?_)
 · refine sq (rT [4,5] (s3 (rt ?_)))
   have hr:mH k n=_:=aNj c9
   refine bU rfl rfl ?_
   rw[hr]<;>rfl
 refine sk (sq (sq (rT [2,3,4,15] (s5 (cd rfl (fun c15=> ?_) fun c15=> ?_)))))
 · refine sq (rT [2,4] (s3 (xp (nC k.held n hb.1) (ai rfl ?_))))
   refine s2 (sq (rD [4,5] (s9 (s2 (ai (by kernel_rfl) (rt ?_))))))
   have hr:mH k n=_:=aNk hb c9 c15
   refine bU rfl rfl ?_
   rw[hr]<;>rfl
 refine sk (sq (rT [2,3,4] (s3 (xp (nC k.inbox n hb.2.2) (ai rfl ?_)))))
 refine s2 (sq (rT [2,4] (s9 (xp (qT k.marks ⟨n.frm,n.num,n.til⟩ hb.2.1) (ai rfl ?_)))))
 refine s2 (sq (rD [4,5] (s9 (s2 (ai (by kernel_rfl) (rt ?_))))))
 have hr:mH k n=_:=aNl hb c9 c15
 refine bU rfl rfl ?_
 rw[hr]<;>rfl
theorem zg (k:bO) (a b:Int) (hb:k.held.length≤100000∧k.marks.length≤100000∧k.inbox.length≤100000):Sp 234 3 [tV 0 k.V,tI 1 a,tI 2 b] [tV 0 (.tup [.agg [.d (.i ((ju k a b).1).id),.d (.i ((ju k a b).1).time),.d (.i ((ju k a b).1).next),.d (.sl (aE ((ju k a b).1).held)),.d (.sl (aQ ((ju k a b).1).marks)),.d (.sl (aE ((ju k a b).1).inbox))],.c (.d (.b (ju k a b).2))])]:=by
 refine sb Tryz.func234 rfl (sq (rT [1,2,3,6] (s3 (sq (rT [1,2,3,6,8] (s4 (xp (fU k.held a b (by omega)) (ai rfl ?_))))))))
 refine s1 (sq (sq (rT [1,2,3,6,8,16] (s2 (cd rfl (fun c16=> ?_) fun c16=> ?_)))))
 · have hr:ju k a b=(k,false):=if_neg (by simpa using c16)
   refine sq (rT [6,7] (s3 (rt ?_)))
   rw[hr]
   exact rq [] [] rfl qz
 have hp:0≤aW k.held a b:=by simpa using c16
 have hr0:=fL k.held a b
 obtain⟨i,hi⟩:=Int.eq_ofNat_of_zero_le hp
 rw[hi] at hr0
 have hw:wrap64 ((i:Int)+1)=((i+1:Nat):Int):=by rw[aB (by omega)];omega
 have hr:ju k a b=_:=if_pos hp
 have hg:=aT (l:=k.held) (i:=i) (by omega)
 have et:sd (((aE k.held).getD (aW k.held a b).toNat []).getD 3 (.i 0))=(k.held.getD i .zero).til:=by rw[hi,aVy,hg];rfl
 refine sk (sq (rT [1,2,3,6,8,9] (s3 (ai (by rw[hi,aVy,hg];exact⟨⟨by omega,by rw[aD];omega⟩,rfl⟩) (ai (by rw[hi,aVy,hg];exact⟨aV0 rfl,rfl⟩) (s2 (sq (rD [1,2,3,6,9] (ai (by simp) (s3 (ai (by rw[hi];(try rw[hw]);exact⟨by rw[aD];exact⟨by first|(simp;done)|(simp;omega),by first|(simp;done)|(simp;omega),by first|(simp;done)|(simp;omega)⟩,fW _⟩) (ai (by rw[hi];(try rw[hw]);exact⟨by first|trivial|rfl|(simp;done),by first|rfl|(simp[aD];done),by first|exact jP _ _ _|(simp;done),by(try simp only[aVz,aV3,aV2,aV4,aV7,aD,jA,jB,jC,jD]);show _*48≤_;omega⟩) (s4 (ai (by rw[hi];(try rw[hw]);exact⟨by rw[aD];exact⟨by first|(simp;done)|(simp;omega),by first|(simp;done)|(simp;omega),by first|(simp;done)|(simp;omega)⟩,fW _⟩) (ai (by rw[hi];(try rw[hw]);exact⟨by first|trivial|rfl|(simp;done),by first|rfl|(simp[aD];done),by first|exact jP _ _ _|(simp;done),by(try simp only[aVz,aV3,aV2,aV4,aV7,aD,jA,jB,jC,jD]);show _*48≤_;omega⟩) (s2 (ai (by kernel_rfl) (sq (rT [3,6] (s7 (xp (qT k.marks ⟨a,b,(k.held.getD i .zero).til⟩ hb.2.1) (ai (by exact aNi rfl rfl et) ?_))))))))))))))))))))))
 refine s2 (sq (rT [6,7] (s3 (rt ?_))))
 rw[hr]
 refine rq [] [23] rfl ?_
 repeat' apply ai
 all_goals try exact qx
 all_goals(first|with_reducible rfl|(rw[hi,hw,vK,zD,aVy];simp[aE,hF,List.map_take,List.map_drop];done)|(rw[hi];rfl)|rfl)
theorem zh (k:bO) (a b:Int) (hb:k.held.length≤100000∧k.marks.length≤100000∧k.inbox.length≤100000):Sp 235 3 [tV 0 k.V,tI 1 a,tI 2 b] [tV 0 (.tup [.agg [.d (.i ((jv k a b).1).id),.d (.i ((jv k a b).1).time),.d (.i ((jv k a b).1).next),.d (.sl (aE ((jv k a b).1).held)),.d (.sl (aQ ((jv k a b).1).marks)),.d (.sl (aE ((jv k a b).1).inbox))],.c (.d (.b (jv k a b).2))])]:=by
 refine sb Tryz.func235 rfl (sq (rT [1,2,3,6] (s3 (sq (rT [3,6,8] (s4 (xp (fU k.inbox a b (by omega)) (ai rfl ?_))))))))
 refine s1 (sq (sq (rT [3,6,8,15] (s2 (cd rfl (fun c15=> ?_) fun c15=> ?_)))))
 · have hr:jv k a b=(k,false):=if_neg (by simpa using c15)
   refine sq (rT [6,7] (s3 (rt ?_)))
   rw[hr]
   exact rq [] [] rfl qz
 have hp:0≤aW k.inbox a b:=by simpa using c15
 have hr0:=fL k.inbox a b
 obtain⟨i,hi⟩:=Int.eq_ofNat_of_zero_le hp
 rw[hi] at hr0
 have hw:wrap64 ((i:Int)+1)=((i+1:Nat):Int):=by rw[aB (by omega)];omega
 have hr:jv k a b=_:=if_pos hp
 refine sk (sq (rD [3,6] (ai (by simp) (s3 (ai (by rw[hi];(try rw[hw]);exact⟨by rw[aD];exact⟨by first|(simp;done)|(simp;omega),by first|(simp;done)|(simp;omega),by first|(simp;done)|(simp;omega)⟩,fW _⟩) (ai (by rw[hi];(try rw[hw]);exact⟨by first|trivial|rfl|(simp;done),by first|rfl|(simp[aD];done),by first|exact jP _ _ _|(simp;done),by(try simp only[aVz,aV3,aV2,aV4,aV7,aD,jA,jB,jC,jD]);show _*48≤_;omega⟩) (s4 (ai (by rw[hi];(try rw[hw]);exact⟨by rw[aD];exact⟨by first|(simp;done)|(simp;omega),by first|(simp;done)|(simp;omega),by first|(simp;done)|(simp;omega)⟩,fW _⟩) (ai (by rw[hi];(try rw[hw]);exact⟨by first|trivial|rfl|(simp;done),by first|rfl|(simp[aD];done),by first|exact jP _ _ _|(simp;done),by(try simp only[aVz,aV3,aV2,aV4,aV7,aD,jA,jB,jC,jD]);show _*48≤_;omega⟩) (s2 (ai (by kernel_rfl) (sq (rT [6,7] (s3 (rt ?_)))))))))))))))
 rw[hr]
 refine rq [] [17] rfl ?_
 repeat' apply ai
 all_goals try exact qx
 all_goals(first|with_reducible rfl|(rw[hi,hw,vK,zD,aVy];simp[aE,hF,List.map_take,List.map_drop];done)|rfl)
theorem aH7 (m:Nat) (hm:1≤m∧m≤1000000):Sp 89 1 [tI 0 (-(m:Int))] [tD 0 (.s (45::kE m))]:=by
 refine sb Tryz.func89 rfl (sq (rT [0] (s1 (sq (sq (rT [0,4] (s2 (cd rfl (fun c4=> ?_) fun c4=> ?_))))))))
 · simp at c4
   omega
 refine sk (sq (sq (rT [0,6] (s2 (cd rfl (fun c6=> ?_) fun c6=> ?_)))))
 · refine sq (rT [2] (s2 (xp (uM m (by omega)) (ai (by exact aI2 (show wrap64 (0 - -(m:Int))=m by rw[aB (by omega)];omega)) ?_))))
   refine ai (by have:=aIx m;show _≤9223372036854775807;simp only[aV3,aV2];omega) (s1 (rt (bL rfl (congrArg D.s ?_))))
   rfl
 simp at c6
 omega
theorem xU (n:Int) (h: -1≤n∧n≤9999):Sp 89 1 [tI 0 n] [tD 0 (.s (nl n))]:=by
 unfold nl
 by_cases h0:n<0
 · obtain rfl:n= -1:=by omega
   exact aH7 1 (by omega)
 rw[if_neg h0]
 exact jZ n (by omega)
theorem zi (k:bO) (rec:List UInt8) (hb:k.held.length≤100000∧k.marks.length≤100000∧k.inbox.length≤100000) (hr:rec.length≤900000):Sp 194 2 [tV 0 k.V,tD 1 (.s rec)] [tV 0 (.tup [.agg [.d (.i ((fZ k rec).1).id),.d (.i ((fZ k rec).1).time),.d (.i ((fZ k rec).1).next),.d (.sl (aE ((fZ k rec).1).held)),.d (.sl (aQ ((fZ k rec).1).marks)),.d (.sl (aE ((fZ k rec).1).inbox))],.c (.d (.b (fZ k rec).2))])]:=by
 have hl1:=uT rec
 have hl2:=dq rec
 have hl3:=zE (aN rec)
 have e0:sd (((bX (eO 3 (aN rec))).getD 0 []).getD 0 (.i 0))=dN (aN rec) 0:=uw (by omega)
 have e1:sd (((bX (eO 3 (aN rec))).getD 1 []).getD 0 (.i 0))=dN (aN rec) 1:=uw (by omega)
 have e2:sd (((bX (eO 3 (aN rec))).getD 2 []).getD 0 (.i 0))=dN (aN rec) 2:=uw (by omega)
 refine sb Tryz.func194 rfl (sq (rT [1,2,4] (s3 (sq (rT [2,4,6,7] (s1 (xp (fo rec (by omega)) (ai rfl ?_))))))))
 refine s5 (sq (sq (rT [2,4,6,7,25] (s1 (bk (sq (rT [2,4,6,7,25,26] (s2 (cd rfl (fun c26=> ?_) fun c26=> ?_)))))))))
 · refine sq (rT [2,4,8] (s1 (xp (uN (aN rec) (by omega)) (ai rfl ?_))))
   refine s1 (sq (sq (rT [2,4,8,33] (s4 (cd rfl (fun c33=> ?_) fun c33=> ?_)))))
   · refine sq (rT [4,5] (s3 (rt ?_)))
     have hr:fZ k rec=(k,false):=(if_pos c26).trans (if_pos (by simpa using c33))
     refine bU rfl rfl ?_
     rw[hr]<;>rfl
   refine sk (sq (rT [4,5] (s2 (xp (xi k (gG (aN rec)) hb) (ai rfl ?_)))))
   refine s2 (rt ?_)
   have hr:fZ k rec=_:=(if_pos c26).trans (if_neg (by simpa using c33))
   refine bU rfl rfl ?_
   rw[hr]<;>rfl
 refine sq (rT [2,4,6,7,25,38] (s2 (cd rfl (fun c38=> ?_) fun c38=> ?_)))
 · refine sq (rT [2,4,9,10] (s1 (xp (tG (aN rec) (by omega)) (ai rfl ?_))))
   refine s6 (sq (sq (rT [2,4,9,60] (s3 (y4 (y1 (ai pk (s1 (y4 (y1 (ai pk (cd rfl (fun c60=> ?_) fun c60=> ?_))))))))))))
   · refine sq (rT [4,5] (s3 (rt ?_)))
     have hr:fZ k rec=(k,false):=(if_neg (bn c26)).trans ((if_pos c38).trans (if_pos c60))
     refine bU rfl rfl ?_
     rw[hr]<;>rfl
   refine sk (sq (rT [2,4,9] (s5 (sq (rT [4,5] (s2 (xp (cz {k with next:=wrap64 (k.next+1)} (dZ (aN rec)).1 hb (by omega)) (ai rfl ?_))))))))
   refine s4 (rt ?_)
   have hr:fZ k rec=_:=(if_neg (bn c26)).trans ((if_pos c38).trans (if_neg (bn c60)))
   refine bU rfl rfl ?_
   rw[hr]<;>rfl
 refine sq (rT [2,4,6,7,25,71] (s2 (cd rfl (fun c71=> ?_) fun c71=> ?_)))
 · refine sq (rT [2,4,11,12] (s1 (xp (tG (aN rec) (by omega)) (ai rfl ?_))))
   refine s6 (sq (sq (rT [2,4,11,86] (s3 (y4 (y1 (ai pk (cd rfl (fun c86=> ?_) fun c86=> ?_))))))))
   · refine sq (rT [4,5] (s3 (rt ?_)))
     have hr:fZ k rec=(k,false):=(if_neg (bn c26)).trans ((if_neg (bn c38)).trans ((if_pos c71).trans (if_pos c86)))
     refine bU rfl rfl ?_
     rw[hr]<;>rfl
   refine sk (sq (rT [4,5] (s2 (xp (cz k (dZ (aN rec)).1 hb (by omega)) (ai rfl ?_)))))
   refine s4 (rt ?_)
   have hr:fZ k rec=_:=(if_neg (bn c26)).trans ((if_neg (bn c38)).trans ((if_pos c71).trans (if_neg (bn c86))))
   refine bU rfl rfl ?_
   rw[hr]<;>rfl
 refine sq (rT [2,4,6,7,25,93] (s2 (cd rfl (fun c93=> ?_) fun c93=> ?_)))
 · refine sq (rT [2,4,13] (s1 (xp (uN (aN rec) (by omega)) (ai rfl ?_))))
   refine s1 (sq (sq (rT [2,4,13,100] (s4 (cd rfl (fun c100=> ?_) fun c100=> ?_)))))
   · refine sq (rT [4,5] (s3 (rt ?_)))
     have hr:fZ k rec=(k,false):=(if_neg (bn c26)).trans ((if_neg (bn c38)).trans ((if_neg (bn c71)).trans ((if_pos c93).trans (if_pos (by simpa using c100)))))
     refine bU rfl rfl ?_
     rw[hr]<;>rfl
   refine sk (sq (rT [2,4] (s3 (sq (rT [4,5] (s3 (rt ?_)))))))
   have hr:fZ k rec=_:=(if_neg (bn c26)).trans ((if_neg (bn c38)).trans ((if_neg (bn c71)).trans ((if_pos c93).trans (if_neg (by simpa using c100)))))
   refine bU rfl rfl ?_
   rw[hr]<;>rfl
 refine SW.midW (fun q=>q=[tP 2 2,tP 4 4,tD 6 (.s (bG rec)),tD 7 (.s (aN rec)),tB 105 (bG rec==iP||bG rec==gH),oB 2 44 [.d (.i k.id),.d (.i k.time),.d (.i k.next),.d (.sl (aE k.held)),.d (.sl (aQ k.marks)),.d (.sl (aE k.inbox))],oB 4 44 [.d (.i 0),.d (.i 0),.d (.i 0),.nil,.nil,.nil]]) ?_ ?_
 · refine sq (rT [2,4,6,7,25,105] (s2 (cd rfl (fun c105=> ?_) fun c105=> ?_)))
   · refine sk (wq [] [] (rfl) ?_)
     repeat' apply ai
     all_goals first|exact qx|(refine congrArg D.b ?_;simp_all[iP,gH])|exact qz
   refine rT [2,4,6,7,105] (s2 (wq [] [] (rfl) ?_))
   repeat' apply ai
   all_goals first|exact qx|(refine congrArg D.b ?_;simp_all[iP,gH])|exact qz
 rintro s rfl
 refine cd rfl (fun c105=> ?_) fun c105=> ?_
 · refine sq (rT [2,4,6,14,15] (s1 (xp (tG (aN rec) (by omega)) (ai rfl ?_))))
   refine s6 (sq (sq (rT [2,4,6,14,134] (s3 (y4 (y2 (xc (fun h=>(fU k.held _ _ (by omega))) (ai rfl (ai rk ?_)))))))))
   refine y1 (ai pk (s1 (y4 (y2 (xc (fun h=>(fU k.inbox _ _ (by omega))) (ai rfl (ai rk ?_)))))))
   refine y1 (ai pk (cd rfl (fun c134=> ?_) fun c134=> ?_))
   · refine sq (rT [4,5] (s3 (rt ?_)))
     have hr:fZ k rec=(k,false):=(if_neg (bn c26)).trans ((if_neg (bn c38)).trans ((if_neg (bn c71)).trans ((if_neg (bn c93)).trans ((if_pos c105).trans (if_pos c134)))))
     refine bU rfl rfl ?_
     rw[hr]<;>rfl
   refine sk (sq (sq (rT [2,4,14,137] (s2 (cd rfl (fun c137=> ?_) fun c137=> ?_)))))
   · refine rT [2,4] (s3 (xp (nC k.held (dZ (aN rec)).1 hb.1) (ai rfl ?_)))
     refine s2 (sq (rT [4,5] (s3 (rt ?_))))
     first|have hr:fZ k rec=_:=(if_neg (bn c26)).trans ((if_neg (bn c38)).trans ((if_neg (bn c71)).trans ((if_neg (bn c93)).trans ((if_pos c105).trans ((if_neg (bn c134)).trans (if_pos c137))))))|have hr:fZ k rec=_:=(if_neg (bn c26)).trans ((if_neg (bn c38)).trans ((if_neg (bn c71)).trans ((if_neg (bn c93)).trans ((if_pos c105).trans ((if_neg (bn c134)).trans (if_neg (bn c137)))))))
     refine bU rfl rfl ?_
     rw[hr]<;>rfl
   refine rT [2,4] (s3 (xp (nC k.inbox (dZ (aN rec)).1 hb.2.2) (ai rfl ?_)))
   refine s2 (sq (rT [4,5] (s3 (rt ?_))))
   first|have hr:fZ k rec=_:=(if_neg (bn c26)).trans ((if_neg (bn c38)).trans ((if_neg (bn c71)).trans ((if_neg (bn c93)).trans ((if_pos c105).trans ((if_neg (bn c134)).trans (if_pos c137))))))|have hr:fZ k rec=_:=(if_neg (bn c26)).trans ((if_neg (bn c38)).trans ((if_neg (bn c71)).trans ((if_neg (bn c93)).trans ((if_pos c105).trans ((if_neg (bn c134)).trans (if_neg (bn c137)))))))
   refine bU rfl rfl ?_
   rw[hr]<;>rfl
 refine sk (sq (rT [2,4,6,7,16,17] (s1 (xp (fp (aN rec) 3 (by omega) (by omega)) (ai rfl ?_)))))
 refine s5 (sq (sq (rD [2,4,6,16,175] (s3 (y2 (ai (fun h=>(by exact jm (l:=eO 3 (aN rec)) (by omega) (by rw[bP];omega))) (ai rk (ai (fun h=>(by have:=iH (l:=eO 3 (aN rec)) (i:=0) (by rw[bP];omega);rw[show((0:Int)).toNat=((0:Nat):Int).toNat from rfl,this];exact⟨aV0 rfl,rfl⟩)) (ai rk (xc (fun h=>xU (dN (aN rec) 0) (gA _ _)) (ai (by exact aI2 e0) (ai rk ?_))))))))))))
 refine ai (fun h=>(by have q0:=mI (gA (aN rec) 0);have q1:=mI (gA (aN rec) 1);have q2:=mI (gA (aN rec) 2);show _≤9223372036854775807;simp only[aVz,aV3,aV2];omega)) (ai rk (y1 (ai (fun h=>(by exact jm (l:=eO 3 (aN rec)) (by omega) (by rw[bP];omega))) (ai rk (ai (fun h=>(by have:=iH (l:=eO 3 (aN rec)) (i:=1) (by rw[bP];omega);rw[show((1:Int)).toNat=((1:Nat):Int).toNat from rfl,this];exact⟨aV0 rfl,rfl⟩)) (ai rk (xc (fun h=>xU (dN (aN rec) 1) (gA _ _)) (ai (by exact aI2 e1) (ai rk ?_)))))))))
 refine ai (fun h=>(by have q0:=mI (gA (aN rec) 0);have q1:=mI (gA (aN rec) 1);have q2:=mI (gA (aN rec) 2);show _≤9223372036854775807;simp only[aVz,aV3,aV2];omega)) (ai rk (ai (fun h=>(by have q0:=mI (gA (aN rec) 0);have q1:=mI (gA (aN rec) 1);have q2:=mI (gA (aN rec) 2);show _≤9223372036854775807;simp only[aVz,aV3,aV2];omega)) (ai rk (y1 (ai (fun h=>(by exact jm (l:=eO 3 (aN rec)) (by omega) (by rw[bP];omega))) (ai rk (ai (fun h=>(by have:=iH (l:=eO 3 (aN rec)) (i:=2) (by rw[bP];omega);rw[show((2:Int)).toNat=((2:Nat):Int).toNat from rfl,this];exact⟨aV0 rfl,rfl⟩)) (ai rk (xc (fun h=>xU (dN (aN rec) 2) (gA _ _)) (ai (by exact aI2 e2) (ai rk ?_)))))))))))
 refine ai (fun h=>(by have q0:=mI (gA (aN rec) 0);have q1:=mI (gA (aN rec) 1);have q2:=mI (gA (aN rec) 2);show _≤9223372036854775807;simp only[aVz,aV3,aV2];omega)) (ai rk (y1 (ai pk (ai (by kernel_rfl) (cd rfl (fun c175=> ?_) fun c175=> ?_)))))
 · refine sq (rT [4,5] (s3 (rt ?_)))
   have hr:fZ k rec=(k,false):=(if_neg (bn c26)).trans ((if_neg (bn c38)).trans ((if_neg (bn c71)).trans ((if_neg (bn c93)).trans ((if_neg (bn c105)).trans (if_pos c175)))))
   refine bU rfl rfl ?_
   rw[hr]<;>rfl
 refine sk (sq (sq (rT [2,4,16,177] (s1 (bk (sq (rT [2,4,16,177,178] (s2 (cd rfl (fun c178=> ?_) fun c178=> ?_)))))))))
 · refine sq (rD [2,4,16,18] (s3 (ai (by exact jm (l:=eO 3 (aN rec)) (by omega) (by rw[bP];omega)) (ai (by have:=iH (l:=eO 3 (aN rec)) (i:=0) (by rw[bP];omega);rw[show((0:Int)).toNat=((0:Nat):Int).toNat from rfl,this];exact⟨aV0 rfl,rfl⟩) (s1 (ai (by exact jm (l:=eO 3 (aN rec)) (by omega) (by rw[bP];omega)) (ai (by have:=iH (l:=eO 3 (aN rec)) (i:=1) (by rw[bP];omega);rw[show((1:Int)).toNat=((1:Nat):Int).toNat from rfl,this];exact⟨aV0 rfl,rfl⟩) (xp (fU k.held (dN (aN rec) 0) (dN (aN rec) 1) (by omega)) (ai (by exact uv e0 e1) ?_)))))))))
   refine s1 (ai (by kernel_rfl) (sq (sq (rD [2,4,16,202] (s3 (y3 (ai (fun h=>(by have hp:0≤aW k.held (dN (aN rec) 0) (dN (aN rec) 1):=(by have h8:=h;simp[gb] at h8;omega);have hr:=fL k.held (dN (aN rec) 0) (dN (aN rec) 1);rw[aT (by omega)];exact⟨⟨hp,by rw[aD];omega⟩,rfl⟩)) (ai rk (y1 (ai (fun h=>(by have hp:0≤aW k.held (dN (aN rec) 0) (dN (aN rec) 1):=(by have h8:=h;simp[gb] at h8;omega);have hr:=fL k.held (dN (aN rec) 0) (dN (aN rec) 1);rw[aT (by omega)];exact⟨aV0 rfl,rfl⟩)) (ai rk (y1 (ai (fun h=>(by exact jm (l:=eO 3 (aN rec)) (by omega) (by rw[bP];omega))) (ai rk (ai (fun h=>(by have:=iH (l:=eO 3 (aN rec)) (i:=2) (by rw[bP];omega);rw[show((2:Int)).toNat=((2:Nat):Int).toNat from rfl,this];exact⟨aV0 rfl,rfl⟩)) (ai rk (y1 (ai pk (ai (by kernel_rfl) (cd rfl (fun c202=> ?_) fun c202=> ?_))))))))))))))))))))
   · have hq:=dy (y:=(k.held.getD (aW k.held (dN (aN rec) 0) (dN (aN rec) 1)).toNat .zero).til != (dN (aN rec) 2)) c202 (fun hp=>by have hr:=fL k.held (dN (aN rec) 0) (dN (aN rec) 1);rw[aT (by omega)];exact congrArg (fun z=>((k.held.getD (aW k.held (dN (aN rec) 0) (dN (aN rec) 1)).toNat .zero).til != z)) e2)
     refine sq (rT [4,5] (s3 (rt ?_)))
     have hr:fZ k rec=(k,false):=(if_neg (bn c26)).trans ((if_neg (bn c38)).trans ((if_neg (bn c71)).trans ((if_neg (bn c93)).trans ((if_neg (bn c105)).trans ((if_neg (bn c175)).trans ((if_pos c178).trans (if_pos hq)))))))
     refine bU rfl rfl ?_
     rw[hr]<;>rfl
   have hq:=dy (y:=(k.held.getD (aW k.held (dN (aN rec) 0) (dN (aN rec) 1)).toNat .zero).til != (dN (aN rec) 2)) c202 (fun hp=>by have hr:=fL k.held (dN (aN rec) 0) (dN (aN rec) 1);rw[aT (by omega)];exact congrArg (fun z=>((k.held.getD (aW k.held (dN (aN rec) 0) (dN (aN rec) 1)).toNat .zero).til != z)) e2)
   refine sk (sq (rD [4,5] (s2 (ai (by exact jm (l:=eO 3 (aN rec)) (by omega) (by rw[bP];omega)) (ai (by have:=iH (l:=eO 3 (aN rec)) (i:=0) (by rw[bP];omega);rw[show((0:Int)).toNat=((0:Nat):Int).toNat from rfl,this];exact⟨aV0 rfl,rfl⟩) (s1 (ai (by exact jm (l:=eO 3 (aN rec)) (by omega) (by rw[bP];omega)) (ai (by have:=iH (l:=eO 3 (aN rec)) (i:=1) (by rw[bP];omega);rw[show((1:Int)).toNat=((1:Nat):Int).toNat from rfl,this];exact⟨aV0 rfl,rfl⟩) (xp (zg k (dN (aN rec) 0) (dN (aN rec) 1) hb) (ai (by exact uv e0 e1) ?_))))))))))
   refine s4 (ai (by kernel_rfl) (rt ?_))
   have hr:fZ k rec=_:=(if_neg (bn c26)).trans ((if_neg (bn c38)).trans ((if_neg (bn c71)).trans ((if_neg (bn c93)).trans ((if_neg (bn c105)).trans ((if_neg (bn c175)).trans ((if_pos c178).trans (if_neg (bn hq))))))))
   refine bU rfl rfl ?_
   rw[hr]<;>rfl
 refine sq (rT [2,4,16,177,214] (s2 (cd rfl (fun c214=> ?_) fun c214=> ?_)))
 · refine sq (rD [2,4,16,19] (s3 (ai (by exact jm (l:=eO 3 (aN rec)) (by omega) (by rw[bP];omega)) (ai (by have:=iH (l:=eO 3 (aN rec)) (i:=0) (by rw[bP];omega);rw[show((0:Int)).toNat=((0:Nat):Int).toNat from rfl,this];exact⟨aV0 rfl,rfl⟩) (s1 (ai (by exact jm (l:=eO 3 (aN rec)) (by omega) (by rw[bP];omega)) (ai (by have:=iH (l:=eO 3 (aN rec)) (i:=1) (by rw[bP];omega);rw[show((1:Int)).toNat=((1:Nat):Int).toNat from rfl,this];exact⟨aV0 rfl,rfl⟩) (xp (fU k.inbox (dN (aN rec) 0) (dN (aN rec) 1) (by omega)) (ai (by exact uv e0 e1) ?_)))))))))
   refine s1 (ai (by kernel_rfl) (sq (sq (rD [2,4,16,238] (s3 (y3 (ai (fun h=>(by have hp:0≤aW k.inbox (dN (aN rec) 0) (dN (aN rec) 1):=(by have h8:=h;simp[gb] at h8;omega);have hr:=fL k.inbox (dN (aN rec) 0) (dN (aN rec) 1);rw[aT (by omega)];exact⟨⟨hp,by rw[aD];omega⟩,rfl⟩)) (ai rk (y1 (ai (fun h=>(by have hp:0≤aW k.inbox (dN (aN rec) 0) (dN (aN rec) 1):=(by have h8:=h;simp[gb] at h8;omega);have hr:=fL k.inbox (dN (aN rec) 0) (dN (aN rec) 1);rw[aT (by omega)];exact⟨aV0 rfl,rfl⟩)) (ai rk (y1 (ai (fun h=>(by exact jm (l:=eO 3 (aN rec)) (by omega) (by rw[bP];omega))) (ai rk (ai (fun h=>(by have:=iH (l:=eO 3 (aN rec)) (i:=2) (by rw[bP];omega);rw[show((2:Int)).toNat=((2:Nat):Int).toNat from rfl,this];exact⟨aV0 rfl,rfl⟩)) (ai rk (y1 (ai pk (ai (by kernel_rfl) (cd rfl (fun c238=> ?_) fun c238=> ?_))))))))))))))))))))
   · have hq:=dy (y:=(k.inbox.getD (aW k.inbox (dN (aN rec) 0) (dN (aN rec) 1)).toNat .zero).til != (dN (aN rec) 2)) c238 (fun hp=>by have hr:=fL k.inbox (dN (aN rec) 0) (dN (aN rec) 1);rw[aT (by omega)];exact congrArg (fun z=>((k.inbox.getD (aW k.inbox (dN (aN rec) 0) (dN (aN rec) 1)).toNat .zero).til != z)) e2)
     refine sq (rT [4,5] (s3 (rt ?_)))
     have hr:fZ k rec=(k,false):=(if_neg (bn c26)).trans ((if_neg (bn c38)).trans ((if_neg (bn c71)).trans ((if_neg (bn c93)).trans ((if_neg (bn c105)).trans ((if_neg (bn c175)).trans ((if_neg (bn c178)).trans ((if_pos c214).trans (if_pos hq))))))))
     refine bU rfl rfl ?_
     rw[hr]<;>rfl
   have hq:=dy (y:=(k.inbox.getD (aW k.inbox (dN (aN rec) 0) (dN (aN rec) 1)).toNat .zero).til != (dN (aN rec) 2)) c238 (fun hp=>by have hr:=fL k.inbox (dN (aN rec) 0) (dN (aN rec) 1);rw[aT (by omega)];exact congrArg (fun z=>((k.inbox.getD (aW k.inbox (dN (aN rec) 0) (dN (aN rec) 1)).toNat .zero).til != z)) e2)
   refine sk (sq (rD [4,5] (s2 (ai (by exact jm (l:=eO 3 (aN rec)) (by omega) (by rw[bP];omega)) (ai (by have:=iH (l:=eO 3 (aN rec)) (i:=0) (by rw[bP];omega);rw[show((0:Int)).toNat=((0:Nat):Int).toNat from rfl,this];exact⟨aV0 rfl,rfl⟩) (s1 (ai (by exact jm (l:=eO 3 (aN rec)) (by omega) (by rw[bP];omega)) (ai (by have:=iH (l:=eO 3 (aN rec)) (i:=1) (by rw[bP];omega);rw[show((1:Int)).toNat=((1:Nat):Int).toNat from rfl,this];exact⟨aV0 rfl,rfl⟩) (xp (zh k (dN (aN rec) 0) (dN (aN rec) 1) hb) (ai (by exact uv e0 e1) ?_))))))))))
   refine s4 (ai (by kernel_rfl) (rt ?_))
   have hr:fZ k rec=_:=(if_neg (bn c26)).trans ((if_neg (bn c38)).trans ((if_neg (bn c71)).trans ((if_neg (bn c93)).trans ((if_neg (bn c105)).trans ((if_neg (bn c175)).trans ((if_neg (bn c178)).trans ((if_pos c214).trans (if_neg (bn hq)))))))))
   refine bU rfl rfl ?_
   rw[hr]<;>rfl
 refine sq (rT [2,4,16,250] (s2 (cd rfl (fun c250=> ?_) fun c250=> ?_)))
 · refine sq (sq (rD [2,4,16,261] (s3 (ai (by exact jm (l:=eO 3 (aN rec)) (by omega) (by rw[bP];omega)) (ai (by have:=iH (l:=eO 3 (aN rec)) (i:=0) (by rw[bP];omega);rw[show((0:Int)).toNat=((0:Nat):Int).toNat from rfl,this];exact⟨aV0 rfl,rfl⟩) (s1 (ai (by exact jm (l:=eO 3 (aN rec)) (by omega) (by rw[bP];omega)) (ai (by have:=iH (l:=eO 3 (aN rec)) (i:=1) (by rw[bP];omega);rw[show((1:Int)).toNat=((1:Nat):Int).toNat from rfl,this];exact⟨aV0 rfl,rfl⟩) (xp (nT k.marks (dN (aN rec) 0) (dN (aN rec) 1) (by omega)) (ai (by exact uv e0 e1) ?_))))))))))
   refine s1 (ai (by kernel_rfl) (cd rfl (fun c261=> ?_) fun c261=> ?_))
   · refine sq (rT [4,5] (s3 (rt ?_)))
     have hr:fZ k rec=(k,false):=(if_neg (bn c26)).trans ((if_neg (bn c38)).trans ((if_neg (bn c71)).trans ((if_neg (bn c93)).trans ((if_neg (bn c105)).trans ((if_neg (bn c175)).trans ((if_neg (bn c178)).trans ((if_neg (bn c214)).trans ((if_pos c250).trans (if_pos (of_decide_eq_true c261))))))))))
     refine bU rfl rfl ?_
     rw[hr]<;>rfl
   refine sk (sq (rD [2,4] (s3 (ai (by exact jm (l:=eO 3 (aN rec)) (by omega) (by rw[bP];omega)) (ai (by have:=iH (l:=eO 3 (aN rec)) (i:=0) (by rw[bP];omega);rw[show((0:Int)).toNat=((0:Nat):Int).toNat from rfl,this];exact⟨aV0 rfl,rfl⟩) (s1 (ai (by exact jm (l:=eO 3 (aN rec)) (by omega) (by rw[bP];omega)) (ai (by have:=iH (l:=eO 3 (aN rec)) (i:=1) (by rw[bP];omega);rw[show((1:Int)).toNat=((1:Nat):Int).toNat from rfl,this];exact⟨aV0 rfl,rfl⟩) (s1 (ai (by exact jm (l:=eO 3 (aN rec)) (by omega) (by rw[bP];omega)) (ai (by have:=iH (l:=eO 3 (aN rec)) (i:=2) (by rw[bP];omega);rw[show((2:Int)).toNat=((2:Nat):Int).toNat from rfl,this];exact⟨aV0 rfl,rfl⟩) (s1 (xp (qT k.marks ⟨(dN (aN rec) 0),(dN (aN rec) 1),(dN (aN rec) 2)⟩ hb.2.1) (ai (by exact aNi e0 e1 e2) ?_))))))))))))))
   refine s2 (ai (by kernel_rfl) (sq (rT [4,5] (s3 (rt ?_)))))
   have hr:fZ k rec=_:=(if_neg (bn c26)).trans ((if_neg (bn c38)).trans ((if_neg (bn c71)).trans ((if_neg (bn c93)).trans ((if_neg (bn c105)).trans ((if_neg (bn c175)).trans ((if_neg (bn c178)).trans ((if_neg (bn c214)).trans ((if_pos c250).trans (if_neg (of_decide_eq_false c261))))))))))
   refine bU rfl rfl ?_
   rw[hr]<;>rfl
 refine sk (sq (rT [4,5] (s3 (rt ?_))))
 have hr:fZ k rec=(k,false):=(if_neg (bn c26)).trans ((if_neg (bn c38)).trans ((if_neg (bn c71)).trans ((if_neg (bn c93)).trans ((if_neg (bn c105)).trans ((if_neg (bn c175)).trans ((if_neg (bn c178)).trans ((if_neg (bn c214)).trans (if_neg (bn c250)))))))))
 refine bU rfl rfl ?_
 rw[hr]<;>rfl
theorem om (id:Int):Sp 184 1 [tI 0 id] [tV 0 ((eB id).V)]:=by
 refine sb Tryz.func184 rfl (sq (rT [0,2] (s1 (sq (sq (rT [0,2,5] (s1 (xp (dP _) (ai rfl ?_)))))))))
 refine s1 (cd rfl (fun c5=> ?_) fun c5=> ?_)
 · have hr:eB id= .zero:=if_neg (by simpa using c5)
   refine sq (rT [2] (s2 (rt ?_)))
   rw[hr]
   exact rq [] [] rfl qz
 have hr:eB id=⟨id,0,1,[],[],[]⟩:=if_pos (by simpa using c5)
 refine sk (sq (rT [2] (s3 (rt ?_))))
 rw[hr]
 exact rq [] [] rfl qz
theorem fu (k:bO) (rec:List UInt8) (hk:KB k) (hr:rec.length≤900000):Sp 149 2 [tV 0 k.V,tD 1 (.s rec)] [tV 0 (.tup [.agg [.d (.i ((oY k rec).1).id),.d (.i ((oY k rec).1).time),.d (.i ((oY k rec).1).next),.d (.sl (aE ((oY k rec).1).held)),.d (.sl (aQ ((oY k rec).1).marks)),.d (.sl (aE ((oY k rec).1).inbox))],.c (.d (.b (oY k rec).2))])]:=by
 refine sb Tryz.func149 rfl (sq (rT [1,2,4] (s3 (sq (sq (rT [1,2,4,10] (s1 (xp (xA k hk.1 hk.2.1 hk.2.2) (ai rfl ?_)))))))))
 refine s1 (cd rfl (fun c10=> ?_) fun c10=> ?_)
 · refine sq (rT [4,5] (s3 (rt ?_)))
   have hr:oY k rec=(.zero,false):=if_neg (by simpa using c10)
   rw[hr]
   exact rq [] [] rfl qz
 have hok:eG k=true:=by simpa using c10
 refine sk (sq (rT [2,4,6,7] (s1 (xp (vQ k (by have:=hk.1;omega)) (ai rfl ?_)))))
 refine s1 (xp (zi k rec hk.1 hr) (ai rfl ?_))
 refine s6 (sq (sq (rT [2,4,6,25] (s3 (y1 (xc (fun h=>xA (fZ k rec).1 (dz (fC hok) (by omega)).big.1 (dz (fC hok) (by omega)).2.1 (dz (fC hok) (by omega)).2.2) (ai rfl (ai rk ?_))))))))
 refine y1 (ai pk (cd rfl (fun c25=> ?_) fun c25=> ?_))
 · refine sq (rT [4,5] (s1 (xp (vQ k (by have:=hk.1;omega)) (ai rfl ?_))))
   refine s2 (rt ?_)
   have hr:oY k rec=(k,false):=(if_pos hok).trans (if_neg (by intro h;rw[aV1] at h;rw[h.1,h.2] at c25;cases c25))
   rw[hr]
   exact rq [] [] rfl qz
 refine sk (sq (rT [4,5] (s1 (xp (vQ (fZ k rec).1 (by have:=(dz (fC hok) (show rec.length≤1000000 by omega)).1;omega)) (ai rfl ?_)))))
 refine s2 (rt ?_)
 have hr:oY k rec=((fZ k rec).1,true):=(if_pos hok).trans (if_pos (by simpa using c25))
 rw[hr]
 exact rq [] [] rfl qz
theorem aN7 (k:bO) (rec:List UInt8) (hk:KB k) (hr:rec.length≤900000):Ab.Spec Tryz.prog 149 2 [(.t 0,.v (k.V)),(.t 1,.v (Dv (.s rec)))] [(.t 0,.v (.tup [.agg [.d (.i ((eH k rec).1).id),.d (.i ((eH k rec).1).time),.d (.i ((eH k rec).1).next),.d (.sl (aE ((eH k rec).1).held)),.d (.sl (aQ ((eH k rec).1).marks)),.d (.sl (aE ((eH k rec).1).inbox))],.c (.d (.b (eH k rec).2))]))]:=np k rec▸fu k rec hk hr
theorem xC (id:Int) (l:List (List UInt8)) (hl:l.length≤900000) (hx: ∀x∈l,x.length≤900000):Sp 133 2 [tI 0 id,tD 1 (.sl (aX l))] [tV 0 (.tup [.agg [.d (.i ((gL id l).1).id),.d (.i ((gL id l).1).time),.d (.i ((gL id l).1).next),.d (.sl (aE ((gL id l).1).held)),.d (.sl (aQ ((gL id l).1).marks)),.d (.sl (aE ((gL id l).1).inbox))],.c (.d (.b (gL id l).2))])]:=by
 refine sb Tryz.func133 rfl (sq (rT [0,1,4] (s2 (sq (rT [0,1,4,6] (s1 (xp (om id) (ai rfl ?_))))))))
 refine s2 (sq (sq (rT [1,4,6,14] (s1 (xp (dP _) (ai rfl ?_))))))
 refine s1 (cd rfl (fun c14=> ?_) fun c14=> ?_)
 · refine sq (rT [4,5] (s3 (rt ?_)))
   have hr:gL id l=(.zero,false):=if_neg (by simpa using c14)
   have hz:eB id= .zero:=if_neg (by simpa using c14)
   rw[hr,hz]
   exact rq [] [] rfl qz
 have hnode:eA id=true:=by simpa using c14
 refine sk (sq (sq (rT [1,4,6,7] (s1 (bk (SW.loopW (n:=l.length) (fun m s=> ∃(i:Nat) (q:bO),m=l.length - i∧i≤l.length∧K6 q∧oK (eB id) l=oK q (l.drop i)∧s=[tD 1 (.sl (aX l)),tP 4 4,tP 6 6,tI 7 (i:Nat),oB 4 44 [.d (.i 0),.d (.i 0),.d (.i 0),.nil,.nil,.nil],oB 6 44 [.d (.i (q).id),.d (.i (q).time),.d (.i (q).next),.d (.sl (aE (q).held)),.d (.sl (aQ (q).marks)),.d (.sl (aE (q).inbox))]]) ?_ ?_))))))
 · refine wq (σ':=[tD 1 (.sl (aX l)),tP 4 4,tP 6 6,tI 7 (0:Nat),oB 4 44 [.d (.i 0),.d (.i 0),.d (.i 0),.nil,.nil,.nil],oB 6 44 [.d (.i (eB id).id),.d (.i (eB id).time),.d (.i (eB id).next),.d (.sl (aE (eB id).held)),.d (.sl (aQ (eB id).marks)),.d (.sl (aE (eB id).inbox))]]) [] [] (⟨0,eB id,rfl,aV5 _,jz id,rfl,rfl⟩) ?_
   repeat' apply ai
   all_goals first|exact qx|rfl|(rw[aM];done)|exact qz
 rintro n s ⟨i,q,rfl,hi,hq,hgo,rfl⟩
 refine sq (sq (rT [1,4,6,7,19] (s4 (cd rfl (fun c19=> ?_) fun c19=> ?_))))
 · have hi2:i<l.length:=by simpa[aM] using c19
   have hg:=eN (l:=l) hi2
   have hmem:l.getD i []∈l:=dH hi2
   have es:toS (((aX l).getD (i:Int).toNat []).getD 0 (.i 0))=l.getD i []:=by rw[aVy,hg];rfl
   refine sk (sq (bk (sq (rD [1,4,6,7,8,9] (s3 (ai (by rw[aVy,hg];exact⟨⟨by omega,by rw[aM];omega⟩,rfl⟩) (ai (by rw[aVy,hg];exact⟨aV0 rfl,rfl⟩) (xp (aN7 q (l.getD i []) hq.seven.big (hx _ hmem)) (ai (by exact aVq es) ?_)))))))))
   refine s6 (ai (by kernel_rfl) (sq (sq (rT [1,4,6,7,8,32] (s2 (cd rfl (fun c32=> ?_) fun c32=> ?_))))))
   · have hno: (eH q (l.getD i [])).2=false:=by simpa using c32
     rw[List.drop_eq_getElem_cons hi2,oK,show l[i]=l.getD i [] by rw[aV6,aV8 hi2];rfl,hno] at hgo
     refine sq (rT [4,5] (s3 (rt ?_)))
     have hr:gL id l=(.zero,false):=(if_pos hnode).trans (hgo.trans (if_neg (by simp)))
     rw[hr]
     exact rq [] [] rfl qz
   have hno: (eH q (l.getD i [])).2=true:=by simpa using c32
   rw[List.drop_eq_getElem_cons hi2,oK,show l[i]=l.getD i [] by rw[aV6,aV8 hi2];rfl,if_pos hno] at hgo
   refine sk (rT [1,4,6,7] (s2 (rT [1,4,6,7] (s3 (wq [] [] (⟨l.length - (i+1),by omega,i+1,(eH q (l.getD i [])).1,rfl,by omega,aA7,hgo,rfl⟩) ?_)))))
   repeat' apply ai
   all_goals first|exact qx|exact congrArg D.i (aB (by omega))|exact qz
 have hi3:i=l.length:=by simp[aM] at c19;omega
 subst hi3
 refine xt (sq (rT [4,5] (s3 (rt ?_))))
 have hr:gL id l=(q,true):=(if_pos hnode).trans (hgo.trans (by rw[List.drop_length];rfl))
 rw[hr]
 exact rq [] [] rfl qz
theorem qU (s:List UInt8) (hl:s.length≤1000000):Sp 49 1 [tD 0 (.s s)] [tV 0 (.tup [.c (.d (.sl (aX (cG s).1))),.c (.d (.i ((cG s).2:Nat)))])]:=by
 refine Spec.told (rl:=[]) (bor:=[0]) (oh s hl) ?_ rfl rfl
 refine qs ?_
 repeat' first|exact qx|apply ai
 all_goals first|rfl|exact aM _
theorem fY (s:List UInt8) (hl:s.length≤1000000):Sp 132 1 [tD 0 (.s s)] [tV 0 (.tup [.c (.d (.sl (aX (cG s).1))),.c (.d (.i ((cG s).2:Nat)))])]:=by
 refine Spec.told (rl:=[]) (bor:=[0]) (og s hl) ?_ rfl rfl
 refine qs ?_
 repeat' first|exact qx|apply ai
 all_goals first|rfl|exact aM _
theorem xj (l:List UInt8) (f:Int) (hl:l.length≤140737488355328):Sp 118 1 [tV 0 (.e (.agg [.d (.s l),.d (.i f)]))] [tB 0 (eJ l f)]:=by
 refine sb Tryz.func118 rfl (sq (rT [1] (s2 (sq (sq (rT [1,19] (s5 (y4 (y1 (xc (fun h=>(dW _ _ _)) (ai rfl (ai rk ?_))))))))))))
 refine y1 (ai pk (cd rfl (fun c19=> ?_) fun c19=> ?_))
 · refine sq (rT [2] (s1 (rt (bL rfl (congrArg D.b ?_)))))
   exact(vh c19).symm
 obtain⟨⟨h1,h2,h3⟩,hs⟩:=qm c19
 refine sk (sq (rT [1,4] (s2 (xp (qU l (by omega)) (ai rfl ?_)))))
 refine s5 (sq (rT [1,4,6] (s4 (ai (by exact⟨by simp,by simpa using h2,by simpa using h3⟩) (xp (qU (l.take f.toNat) (by rw[aV4];omega)) (ai rfl ?_))))))
 refine s5 (sq (rT [2] (s6 (y4 (ai pk (s1 (rt (bL rfl (congrArg D.b ?_)))))))))
 exact hs.symm
theorem nU (l:List UInt8) (f:Int) (hl:l.length≤140737488355328):Sp 131 1 [tV 0 (.e (.agg [.d (.s l),.d (.i f)]))] [tB 0 (eJ l f)]:=by
 refine sb Tryz.func131 rfl (sq (rT [1] (s2 (sq (sq (rT [1,19] (s5 (y4 (y1 (xc (fun h=>(dI _ _ _)) (ai rfl (ai rk ?_))))))))))))
 refine y1 (ai pk (cd rfl (fun c19=> ?_) fun c19=> ?_))
 · refine sq (rT [2] (s1 (rt (bL rfl (congrArg D.b ?_)))))
   exact(vh c19).symm
 obtain⟨⟨h1,h2,h3⟩,hs⟩:=qm c19
 refine sk (sq (rT [1,4] (s2 (xp (fY l (by omega)) (ai rfl ?_)))))
 refine s5 (sq (rT [1,4,6] (s4 (ai (by exact⟨by simp,by simpa using h2,by simpa using h3⟩) (xp (fY (l.take f.toNat) (by rw[aV4];omega)) (ai rfl ?_))))))
 refine s5 (sq (rT [2] (s6 (y4 (ai pk (s1 (rt (bL rfl (congrArg D.b ?_)))))))))
 exact hs.symm
theorem vR (id:Int) (s:List UInt8) (hl:s.length≤900000):Sp 77 2 [tI 0 id,tD 1 (.s s)] [tV 0 (.tup [.agg [.d (.i ((gL id (cG s).1).1).id),.d (.i ((gL id (cG s).1).1).time),.d (.i ((gL id (cG s).1).1).next),.d (.sl (aE ((gL id (cG s).1).1).held)),.d (.sl (aQ ((gL id (cG s).1).1).marks)),.d (.sl (aE ((gL id (cG s).1).1).inbox))],.c (.d (.b (gL id (cG s).1).2))])]:=by
 refine sb Tryz.func77 rfl (sq (rT [0,1,4] (s2 (sq (rT [0,4,6] (s1 (xp (qU s (by omega)) (ai rfl ?_))))))))
 refine s5 (sq (rT [4,5] (s2 (xp (zf id (cG s).1 (nK s hl).1 (nK s hl).2) (ai rfl ?_)))))
 exact s4 (rt (bU rfl rfl rfl))
theorem gV (k:aJ) (hl:k.log.length≤900000):Sp 76 1 [tV 0 k.V] [tV 0 (.tup [.agg [.d (.i ((bB k).1).id),.d (.i ((bB k).1).time),.d (.i ((bB k).1).next),.d (.sl (aE ((bB k).1).held)),.d (.sl (aQ ((bB k).1).marks)),.d (.sl (aE ((bB k).1).inbox))],.c (.d (.b (bB k).2))])]:=by
 refine sb Tryz.func76 rfl (sq (rT [1,2] (s3 (sq (rT [1,2,4] (s3 (xp (fY k.log (by omega)) (ai rfl ?_))))))))
 refine s5 (sq (rT [2,3] (s3 (xp (xC k.id (cG k.log).1 (nK k.log hl).1 (nK k.log hl).2) (ai rfl ?_)))))
 exact s4 (rt (bU rfl rfl rfl))
theorem wK (b n:Int):Sp 156 2 [tI 0 b,tI 1 n] [tB 0 (mD b n)]:=by
 refine sb Tryz.func156 rfl (sq (rT [0,1] (s1 (sq (rT [4] (s1 (xp (dI _ _ _) (ai rfl ?_))))))))
 refine s1 (y1 (xc (fun h=>(dI _ _ _)) (ai rfl (ai rk ?_))))
 refine ai pk (s1 (rt (bL rfl ?_)))
 rfl
theorem pB (n:Int) (hn:0≤n∧n≤140737488355328):Sp 157 1 [tI 0 n] [tI 0 ((n+3) / 4)]:=by
 refine sb Tryz.func157 rfl (sq (rT [0] (s1 (sq (rT [2] (s3 (ai (by decide) (s1 (rt (bL rfl (congrArg D.i ?_)))))))))))
 rw[aB (n:=n+4) (by omega),aB (n:=n+4 - 1) (by omega),Int.tdiv_eq_ediv_of_nonneg (by omega),aB (by omega)]
 omega
theorem da (b:Int) (m:gC):Sp 185 2 [tI 0 b,tV 1 m.V] [tB 0 (mD b m.num&&decide ((m.data.length:Int)=4))]:=by
 refine sb Tryz.func185 rfl (sq (rT [0,3] (s2 (sq (rT [4] (s3 (xp (wK _ _) (ai rfl ?_))))))))
 refine s1 (y4 (ai pk (s1 (rt (bL rfl (congrArg D.b ?_))))))
 show(_&&_)=_
 congr 1
theorem zj (h:dT):Sp 119 1 [tV 0 h.V] [tB 0 (lS h)]:=by
 refine sb Tryz.func119 rfl (sq (rT [1] (s2 (sq (sq (rT [1,40] (s2 (xp (eP _) (ai rfl ?_)))))))))
 refine s2 (y2 (xc (fun h=>(eP _)) (ai rfl (ai rk ?_))))
 refine y1 (ai pk (s1 (y2 (xc (fun h=>(dW _ _ _)) (ai rfl (ai rk ?_))))))
 refine y1 (ai pk (s1 (y2 (xc (fun h=>(dW _ _ _)) (ai rfl (ai rk ?_))))))
 refine y1 (ai pk (s1 (y2 (xc (fun h=>(dW _ _ _)) (ai rfl (ai rk ?_))))))
 refine y1 (ai pk (s1 (y4 (ai pk (cd rfl (fun c40=> ?_) fun c40=> ?_)))))
 · have hh:=ki c40
   refine sq (rT [2] (s1 (rt (bL rfl (congrArg D.b ?_)))))
   rw[lS,hh];rfl
 have hh:=ki c40
 obtain⟨p1,p2,p3,p4,p5,p6⟩:=lE hh
 refine sk (sq (sq (rT [1,42,43,44] (s4 (bk (SW.loopW (n:=h.got.length) (fun m q=> ∃i:Nat,m=h.got.length - i∧i≤h.got.length∧(∀k,k<i→oA h.got k=true)∧q=[tP 1 1,tD 42 (.sl (cC h.got)),tI 43 (h.got.length:Nat),tI 44 (i:Nat),oB 1 138 [.d (.i (h).frm),.d (.i (h).num),.d (.i (h).to),.d (.i (h).til),.d (.i (h).size),.d (.sl (cC (h).got))]]) ?_ ?_))))))
 · refine wq (σ':=[tP 1 1,tD 42 (.sl (cC h.got)),tI 43 (h.got.length:Nat),tI 44 (0:Nat),oB 1 138 [.d (.i (h).frm),.d (.i (h).num),.d (.i (h).to),.d (.i (h).til),.d (.i (h).size),.d (.sl (cC (h).got))]]) [] [] (⟨0,rfl,aV5 _,fun k h=>absurd h (by omega),rfl⟩) ?_
   repeat' apply ai
   all_goals first|exact qx|rfl|(rw[bI];done)|exact qz
 rintro n s ⟨i,rfl,hi,hk,rfl⟩
 refine sq (rT [1,42,43,44,45] (s1 (sq (cd rfl (fun c45=> ?_) fun c45=> ?_))))
 · have hi2:i<h.got.length:=by simpa using c45
   have hg:=lR (l:=h.got) hi2
   refine sk (sq (bk (sq (rT [1,3,4,42,43,44] (s1 (ai (by rw[aVy,hg];exact⟨⟨by omega,by rw[bI];omega⟩,rfl⟩) (ai (by rw[aVy,hg];exact⟨aV0 rfl,rfl⟩) (s3 (sq (sq (wa [tP 1 1,tI 3 (i:Nat),tP 4 4,tD 42 (.sl (cC h.got)),tI 43 (h.got.length:Nat),tI 44 (i:Nat),oB 1 138 [.d (.i (h).frm),.d (.i (h).num),.d (.i (h).to),.d (.i (h).til),.d (.i (h).size),.d (.sl (cC (h).got))],oB 4 86 [.d (.i (h.got.getD i .zero).num),.d (.s (h.got.getD i .zero).data)]] [] [] ?_ ?_)))))))))))
   · repeat' apply ai
     all_goals first|exact qx|(rw[aVy,hg];rfl)|exact qz
   refine rT [1,3,4,42,43,44,58] (s2 (xp (dW _ _ _) (ai rfl ?_)))
   refine s2 (y4 (ai pk (cd rfl (fun c58=> ?_) fun c58=> ?_)))
   · have hm:wD (h.got.getD i .zero)=false:=by
      unfold wD
      rw[← Bool.not_eq_true',Bool.not_and]
      exact mixC c58
     have hs:=qk hm
     refine sq (rT [2] (s1 (rt (bL rfl (congrArg D.b ?_)))))
     rw[lS,hh,Bool.not_false,Bool.true_and,fK hi2 hs]
   have hm:wD (h.got.getD i .zero)=true:=aVr c58
   refine sk (sq (rT [1,4,42,43,44,62,63,64] (s3 (ai (by exact⟨by rw[bI];exact⟨by first|(simp;done)|(simp;omega),by first|(simp;done)|(simp;omega),by first|(simp;done)|(simp;omega)⟩,uB _⟩) (s2 (bk (SW.loopW (n:=i) (fun m q=> ∃j:Nat,m=i - j∧j≤i∧(∀k,k<j→((h.got.getD k .zero).num==(h.got.getD i .zero).num)=false)∧q=[tP 1 1,tP 4 4,tD 42 (.sl (cC h.got)),tI 43 (h.got.length:Nat),tI 44 (i:Nat),tD 62 (.sl ((cC h.got).take i)),tI 63 (i:Nat),tI 64 (j:Nat),oB 1 138 [.d (.i (h).frm),.d (.i (h).num),.d (.i (h).to),.d (.i (h).til),.d (.i (h).size),.d (.sl (cC (h).got))],oB 4 86 [.d (.i (h.got.getD i .zero).num),.d (.s (h.got.getD i .zero).data)]]) ?_ ?_)))))))
   · refine wq (σ':=[tP 1 1,tP 4 4,tD 42 (.sl (cC h.got)),tI 43 (h.got.length:Nat),tI 44 (i:Nat),tD 62 (.sl ((cC h.got).take i)),tI 63 (i:Nat),tI 64 (0:Nat),oB 1 138 [.d (.i (h).frm),.d (.i (h).num),.d (.i (h).to),.d (.i (h).til),.d (.i (h).size),.d (.sl (cC (h).got))],oB 4 86 [.d (.i (h.got.getD i .zero).num),.d (.s (h.got.getD i .zero).data)]]) [] [] (⟨0,rfl,aV5 _,fun k h=>absurd h (by omega),rfl⟩) ?_
     repeat' apply ai
     all_goals first|exact qx|rfl|(rw[zD];done)|(rw[zD,aV4,bI];refine congrArg D.i ?_;omega)|exact qz
   rintro n s ⟨j,rfl,hj,hkj,rfl⟩
   refine sq (rT [1,4,42,43,44,62,63,64,65] (s1 (sq (cd rfl (fun c65=> ?_) fun c65=> ?_))))
   · have hj2:j<i:=by simpa using c65
     have hg2: ((cC h.got).take i).getD j []=(h.got.getD j .zero).row:=by rw[xN hj2,lR (by omega)]
     refine sk (sq (bk (sq (rT [1,4,6,42,43,44,62,63,64] (ai (by rw[aVy,hg2];exact⟨⟨by omega,by rw[aV4,bI];omega⟩,rfl⟩) (ai (by rw[aVy,hg2];exact⟨aV0 rfl,rfl⟩) (s2 (sq (rT [1,4,42,43,44,62,63,64,72] (s5 (cd rfl (fun c72=> ?_) fun c72=> ?_)))))))))))
     · have hq: ((h.got.getD j .zero).num==(h.got.getD i .zero).num)=true:=by
        have h9:=c72
        rw[aVy,hg2] at h9
        exact h9
       have hs:=vg hj2 hq
       refine sq (rT [2] (s1 (rt (bL rfl (congrArg D.b ?_)))))
       rw[lS,hh,Bool.not_false,Bool.true_and,fK hi2 hs]
     refine sk (rT [1,4,42,43,44,62,63,64] (s2 ?_))
     have hq: ((h.got.getD j .zero).num==(h.got.getD i .zero).num)=false:=by
      have h9:=c72
      rw[aVy,hg2] at h9
      exact h9
     refine wq [] [] (⟨i - (j+1),by omega,j+1,rfl,by omega,fun k h=>by by_cases e:k=j;exact e▸hq;exact hkj k (by omega),rfl⟩) ?_
     repeat' apply ai
     all_goals first|exact qx|exact congrArg D.i (aB (by omega))|exact qz
   have hj3:j=i:=by simp at c65;omega
   subst hj3
   have hs:=qj hm hkj
   refine xt (rT [1,42,43,44] (s2 (wq [] [] (⟨h.got.length - (j+1),by omega,j+1,rfl,by omega,fun k h=>by by_cases e:k=j;exact e▸hs;exact hk k (by omega),rfl⟩) ?_)))
   repeat' apply ai
   all_goals first|exact qx|exact congrArg D.i (aB (by omega))|exact qz
 have hi3:i=h.got.length:=by simp at c45;omega
 refine xt (sq (rT [2] (s1 (rt (bL rfl (congrArg D.b ?_))))))
 rw[lS,hh,Bool.not_false,Bool.true_and]
 subst hi3
 exact(iD hk).symm
theorem oq (h:dT):Sp 134 1 [tV 0 h.V] [tB 0 (lS h)]:=by
 refine sb Tryz.func134 rfl (sq (rT [1] (s2 (sq (sq (rT [1,38] (s2 (xp (dP _) (ai rfl ?_)))))))))
 refine s2 (y2 (xc (fun h=>(dP _)) (ai rfl (ai rk ?_))))
 refine y1 (ai pk (s1 (y2 (xc (fun h=>(dI _ _ _)) (ai rfl (ai rk ?_))))))
 refine y1 (ai pk (s1 (y2 (xc (fun h=>(dI _ _ _)) (ai rfl (ai rk ?_))))))
 refine y1 (ai pk (s1 (y2 (xc (fun h=>(dI _ _ _)) (ai rfl (ai rk ?_))))))
 refine y1 (ai pk (s1 (y4 (ai pk (cd rfl (fun c38=> ?_) fun c38=> ?_)))))
 · have hh:=ki c38
   refine sq (rT [2] (s1 (rt (bL rfl (congrArg D.b ?_)))))
   rw[lS,hh];rfl
 have hh:=ki c38
 obtain⟨p1,p2,p3,p4,p5,p6⟩:=lE hh
 have hb1:fG ((h.size+3) / 4) 1 6=true:=by simp only[fG,aV1,decide_eq_true_eq];omega
 refine sk (sq (sq (rT [1,3] (s1 (bk (SW.loopW (n:=h.got.length) (fun m q=> ∃i:Nat,m=h.got.length - i∧i≤h.got.length∧(∀k,k<i→oA h.got k=true)∧q=[tP 1 1,tI 3 (i:Nat),oB 1 138 [.d (.i (h).frm),.d (.i (h).num),.d (.i (h).to),.d (.i (h).til),.d (.i (h).size),.d (.sl (cC (h).got))]]) ?_ ?_))))))
 · exact wq (σ':=[tP 1 1,tI 3 (0:Nat),oB 1 138 [.d (.i (h).frm),.d (.i (h).num),.d (.i (h).to),.d (.i (h).til),.d (.i (h).size),.d (.sl (cC (h).got))]]) [] [] (⟨0,rfl,aV5 _,fun k h=>absurd h (by omega),rfl⟩) qz
 rintro n s ⟨i,rfl,hi,hk,rfl⟩
 refine sq (sq (rT [1,3,43] (s5 (cd rfl (fun c43=> ?_) fun c43=> ?_))))
 · have hi2:i<h.got.length:=by simpa[bI] using c43
   have hg:=lR (l:=h.got) hi2
   refine sk (sq (bk (sq (sq (rD [1,3,55] (s2 (xp (pB h.size (by omega)) (ai rfl ?_))))))))
   refine s3 (ai (by rw[aVy,hg];exact⟨⟨by omega,by rw[bI];omega⟩,rfl⟩) (ai (by rw[aVy,hg];exact⟨aV0 rfl,rfl⟩) (xp (da ((h.size+3) / 4) (h.got.getD i .zero)) (ai (by rw[aVy,hg];rfl) ?_))))
   refine s1 (ai (by kernel_rfl) (cd rfl (fun c55=> ?_) fun c55=> ?_))
   · have hm:wD (h.got.getD i .zero)=false:=by
      have h9:=c55
      rw[mD,hb1,Bool.true_and] at h9
      simpa only[wD,Bool.not_eq_true'] using h9
     have hs:=qk hm
     refine sq (rT [2] (s1 (rt (bL rfl (congrArg D.b ?_)))))
     rw[lS,hh,Bool.not_false,Bool.true_and,fK hi2 hs]
   have hm:wD (h.got.getD i .zero)=true:=by
    have h9:=c55
    rw[mD,hb1,Bool.true_and] at h9
    simpa only[wD,Bool.not_eq_false'] using h9
   refine sk (sq (rT [1,3,4] (s1 (bk (SW.loopW (n:=i) (fun m q=> ∃j:Nat,m=i - j∧j≤i∧(∀k,k<j→((h.got.getD k .zero).num==(h.got.getD i .zero).num)=false)∧q=[tP 1 1,tI 3 (i:Nat),tI 4 (j:Nat),oB 1 138 [.d (.i (h).frm),.d (.i (h).num),.d (.i (h).to),.d (.i (h).til),.d (.i (h).size),.d (.sl (cC (h).got))]]) ?_ ?_)))))
   · exact wq (σ':=[tP 1 1,tI 3 (i:Nat),tI 4 (0:Nat),oB 1 138 [.d (.i (h).frm),.d (.i (h).num),.d (.i (h).to),.d (.i (h).til),.d (.i (h).size),.d (.sl (cC (h).got))]]) [] [] (⟨0,rfl,aV5 _,fun k h=>absurd h (by omega),rfl⟩) qz
   rintro n s ⟨j,rfl,hj,hkj,rfl⟩
   refine sq (sq (rT [1,3,4,58] (s3 (cd rfl (fun c58=> ?_) fun c58=> ?_))))
   · have hj2:j<i:=by simpa using c58
     have hg2:=lR (l:=h.got) (i:=j) (by omega)
     refine sk (sq (bk (sq (rD [1,3,4,73] (s3 (ai (by rw[aVy,hg2];exact⟨⟨by omega,by rw[bI];omega⟩,rfl⟩) (s1 (ai (by rw[aVy,hg2];exact⟨aV0 rfl,rfl⟩) (s3 (ai (by rw[aVy,hg];exact⟨⟨by omega,by rw[bI];omega⟩,rfl⟩) (s1 (ai (by rw[aVy,hg];exact⟨aV0 rfl,rfl⟩) (s1 (ai (by kernel_rfl) (cd rfl (fun c73=> ?_) fun c73=> ?_)))))))))))))))
     · have hq: ((h.got.getD j .zero).num==(h.got.getD i .zero).num)=true:=by
        have h9:=c73
        rw[aVy,aVy,hg2,hg] at h9
        exact h9
       have hs:=vg hj2 hq
       refine sq (rT [2] (s1 (rt (bL rfl (congrArg D.b ?_)))))
       rw[lS,hh,Bool.not_false,Bool.true_and,fK hi2 hs]
     refine sk (rT [1,3,4] (s3 ?_))
     have hq: ((h.got.getD j .zero).num==(h.got.getD i .zero).num)=false:=by
      have h9:=c73
      rw[aVy,aVy,hg2,hg] at h9
      exact h9
     refine wq [] [] (⟨i - (j+1),by omega,j+1,rfl,by omega,fun k h=>by by_cases e:k=j;exact e▸hq;exact hkj k (by omega),rfl⟩) ?_
     repeat' apply ai
     all_goals first|exact qx|exact congrArg D.i (aB (by omega))|exact qz
   have hj3:j=i:=by simp at c58;omega
   subst hj3
   have hs:=qj hm hkj
   refine xt (rT [1,3] (s3 (wq [] [] (⟨h.got.length - (j+1),by omega,j+1,rfl,by omega,fun k h=>by by_cases e:k=j;exact e▸hs;exact hk k (by omega),rfl⟩) ?_)))
   repeat' apply ai
   all_goals first|exact qx|exact congrArg D.i (aB (by omega))|exact qz
 have hi3:i=h.got.length:=by simp[bI] at c43;omega
 refine xt (sq (rT [2] (s1 (rt (bL rfl (congrArg D.b ?_))))))
 rw[lS,hh,Bool.not_false,Bool.true_and]
 subst hi3
 exact(iD hk).symm
theorem zk (l:List dT) (f m:Int) (hl:l.length≤1000000):Sp 120 3 [tD 0 (.sl (bC l)),tI 1 f,tI 2 m] [tI 0 (gM l f m)]:=by
 refine sb Tryz.func120 rfl (sq (rT [0,1,2] (s1 (sq (sq (rT [1,2,9,10,11] (s3 (bk (SW.loopW (n:=l.length) (fun n q=> ∃i:Nat,n=l.length - i∧i≤l.length∧(∀k,k<i→hP l f m k=false)∧q=[tI 1 f,tI 2 m,tD 9 (.sl (bC l)),tI 10 (l.length:Nat),tI 11 (i:Nat)]) ?_ ?_)))))))))
 · refine wq (σ':=[tI 1 f,tI 2 m,tD 9 (.sl (bC l)),tI 10 (l.length:Nat),tI 11 (0:Nat)]) [] [] (⟨0,rfl,aV5 _,fun k h=>absurd h (by omega),rfl⟩) ?_
   repeat' apply ai
   all_goals first|exact qx|(rw[aK];done)|rfl|exact qz
 rintro n s ⟨i,rfl,hi,hk,rfl⟩
 refine sq (rT [1,2,9,10,11,12] (s1 (sq (cd rfl (fun c12=> ?_) fun c12=> ?_))))
 · have hi2:i<l.length:=by simpa using c12
   have hg:=gT (l:=l) hi2
   refine sk (sq (bk (sq (rT [1,2,7,8,9,10,11] (s1 (ai (by rw[aVy,hg];exact⟨⟨by omega,by rw[aK];omega⟩,rfl⟩) (ai (by rw[aVy,hg];exact⟨aV0 rfl,rfl⟩) (s3 (sq (rT [1,2,7,9,10,11,25] (s5 (y4 (ai pk (cd rfl (fun c25=> ?_) fun c25=> ?_))))))))))))))
   · refine sq (rT [6] (s2 (rt (bL rfl (congrArg D.i ?_)))))
     have hs:hP l f m i=true:=by
      have h9:=c25
      rw[aVy,hg] at h9
      exact h9
     exact(lM (aV5 _) (by omega) (fun j _ h=>hk j h) hs).symm
   refine sk (rT [1,2,9,10,11] (s2 ?_))
   have hs:hP l f m i=false:=by
    have h9:=c25
    rw[aVy,hg] at h9
    exact h9
   refine wq [] [] (⟨l.length - (i+1),by omega,i+1,rfl,by omega,fun k h=>by by_cases e:k=i;exact e▸hs;exact hk k (by omega),rfl⟩) ?_
   repeat' apply ai
   all_goals first|exact qx|exact congrArg D.i (aB (by omega))|exact qz
 have hi3:i=l.length:=by simp at c12;omega
 refine xt (sq (rT [6] (s1 (rt (bL rfl (congrArg D.i ?_))))))
 exact(lP (fun j _ h=>hk j (by omega))).symm
theorem au (k:aJ) (hl:k.log.length≤140737488355328):Sp 54 1 [tV 0 k.V] [tB 0 (aZ k)]:=by
 refine sb Tryz.func54 rfl (sq (rT [1] (s2 (sq (sq (rT [1,35] (s2 (xp (eP _) (ai rfl ?_)))))))))
 refine s2 (y2 (xc (fun h=>(xj k.log k.forced hl)) (ai rfl (ai rk ?_))))
 refine y1 (ai pk (s1 (y4 (ai pk (s1 (y4 (y4 (ai (fun h=>pk) (ai rk (ai pk (cd rfl (fun c35=> ?_) fun c35=> ?_)))))))))))
 · have hh:=zH c35
   refine sq (rT [2] (s1 (rt (bL rfl (congrArg D.b ?_)))))
   exact(wX hh).symm
 have hh:=zH c35
 obtain⟨p1,p2,p3,p4⟩:=fX hh
 obtain⟨q1,q2,q3,q4⟩:=mS p2
 refine sk (sq (rT [1,4] (s5 (xp (vR k.id k.log (by omega)) (ai rfl ?_)))))
 refine s6 (sq (rD [1,4,6] (s8 (ai (by exact⟨by simp,by simpa using q2.1,by simpa using q2.2⟩) (xp (vR k.id (k.log.take k.forced.toNat) (by rw[aV4];omega)) (ai rfl ?_))))))
 refine s6 (ai (by kernel_rfl) (sq (sq (rT [1,63] (s3 (y2 (ai pk (cd rfl (fun c63=> ?_) fun c63=> ?_))))))))
 · have hn:=ql (k:=k) c63 (.inl ⟨rfl,rfl⟩)
   refine sq (rT [2] (s1 (rt (bL rfl (congrArg D.b ?_)))))
   exact hn.symm
 have hy:=kh (k:=k) hh c63 (.inl ⟨rfl,rfl⟩)
 refine sk (sq (sq (rT [1,65,66,67] (s4 (bk (SW.loopW (n:=k.halves.length) (fun m q=> ∃i:Nat,m=k.halves.length - i∧i≤k.halves.length∧(∀j,j<i→hG k.halves j=true)∧q=[tP 1 1,tD 65 (.sl (bC k.halves)),tI 66 (k.halves.length:Nat),tI 67 (i:Nat),oB 1 31 [.d (.i (k).id),.d (.b (k).up),.d (.s (k).log),.d (.i (k).forced),.d (.sl (bC (k).halves))]]) ?_ ?_))))))
 · refine wq (σ':=[tP 1 1,tD 65 (.sl (bC k.halves)),tI 66 (k.halves.length:Nat),tI 67 (0:Nat),oB 1 31 [.d (.i (k).id),.d (.b (k).up),.d (.s (k).log),.d (.i (k).forced),.d (.sl (bC (k).halves))]]) [] [] (⟨0,rfl,aV5 _,fun j h=>absurd h (by omega),rfl⟩) ?_
   repeat' apply ai
   all_goals first|exact qx|rfl|(rw[aK];done)|exact qz
 rintro n s ⟨i,rfl,hi,hk,rfl⟩
 refine sq (rT [1,65,66,67,68] (s1 (sq (cd rfl (fun c68=> ?_) fun c68=> ?_))))
 · have hi2:i<k.halves.length:=by simpa using c68
   have hg:=gT (l:=k.halves) hi2
   refine sk (sq (bk (sq (rT [1,7,8,65,66,67] (s1 (ai (by rw[aVy,hg];exact⟨⟨by omega,by rw[aK];omega⟩,rfl⟩) (ai (by rw[aVy,hg];exact⟨aV0 rfl,rfl⟩) (s3 (sq (wa [tP 1 1,tI 7 (i:Nat),tP 8 8,tD 65 (.sl (bC k.halves)),tI 66 (k.halves.length:Nat),tI 67 (i:Nat),oB 1 31 [.d (.i (k).id),.d (.b (k).up),.d (.s (k).log),.d (.i (k).forced),.d (.sl (bC (k).halves))],oB 8 138 [.d (.i (k.halves.getD i .zero).frm),.d (.i (k.halves.getD i .zero).num),.d (.i (k.halves.getD i .zero).to),.d (.i (k.halves.getD i .zero).til),.d (.i (k.halves.getD i .zero).size),.d (.sl (cC (k.halves.getD i .zero).got))]] [] [] ?_ ?_))))))))))
   · repeat' apply ai
     all_goals first|exact qx|(rw[aVy,hg];rfl)|exact qz
   refine rT [1,65,66,67,85] (s1 (xp (zj (k.halves.getD i .zero)) (ai rfl ?_)))
   refine s2 (y4 (y2 (xc (fun h=>(zk k.halves _ _ (by omega))) (ai rfl (ai rk ?_)))))
   refine y2 (ai pk (cd rfl (fun c85=> ?_) fun c85=> ?_))
   · refine sq (rT [2] (s1 (rt (bL rfl (congrArg D.b ?_)))))
     have hs:hG k.halves i=false:=kf hi2 c85
     rw[hy,fK hi2 hs]
   refine sk (rT [1,65,66,67] (s2 ?_))
   have hs:hG k.halves i=true:=kf hi2 c85
   refine wq [] [] (⟨k.halves.length - (i+1),by omega,i+1,rfl,by omega,fun j h=>by by_cases e:j=i;exact e▸hs;exact hk j (by omega),rfl⟩) ?_
   repeat' apply ai
   all_goals first|exact qx|exact congrArg D.i (aB (by omega))|exact qz
 have hi3:i=k.halves.length:=by simp at c68;omega
 refine xt (sq (rT [2] (s1 (rt (bL rfl (congrArg D.b ?_))))))
 subst hi3
 rw[hy,iD hk]
theorem gX (k:aJ) (hl:k.log.length≤140737488355328):Sp 63 1 [tV 0 k.V] [tB 0 (aZ k)]:=by
 refine sb Tryz.func63 rfl (sq (rT [1] (s2 (sq (sq (rT [1,37] (s2 (xp (dP _) (ai rfl ?_)))))))))
 refine s2 (y2 (xc (fun h=>(nU k.log k.forced hl)) (ai rfl (ai rk ?_))))
 refine y1 (ai pk (s1 (y4 (ai pk (s1 (y4 (y4 (ai (fun h=>pk) (ai rk (ai pk (cd rfl (fun c37=> ?_) fun c37=> ?_)))))))))))
 · have hh:=zH c37
   refine sq (rT [2] (s1 (rt (bL rfl (congrArg D.b ?_)))))
   exact(wX hh).symm
 have hh:=zH c37
 obtain⟨p1,p2,p3,p4⟩:=fX hh
 obtain⟨q1,q2,q3,q4⟩:=mS p2
 refine sk (sq (rT [1,3] (s6 (ai (by exact⟨by simp,by simpa using q2.1,by simpa using q2.2⟩) (xp (fY (k.log.take k.forced.toNat) (by rw[aV4];omega)) (ai rfl ?_))))))
 refine s5 (sq (rT [1,6] (s3 (xp (xC k.id (cG (k.log.take k.forced.toNat)).1 (nK _ (by rw[aV4];omega)).1 (nK _ (by rw[aV4];omega)).2) (ai rfl ?_)))))
 refine s6 (sq (rT [1,6,8] (s1 (xp (gV k (by omega)) (ai rfl ?_)))))
 refine s6 (sq (sq (rT [1,66] (s3 (y2 (ai pk (cd rfl (fun c66=> ?_) fun c66=> ?_)))))))
 · have hn:=ql (k:=k) c66 (.inl ⟨rfl,rfl⟩)
   refine sq (rT [2] (s1 (rt (bL rfl (congrArg D.b ?_)))))
   exact hn.symm
 have hy:=kh (k:=k) hh c66 (.inl ⟨rfl,rfl⟩)
 refine sk (sq (sq (rT [1,9] (s1 (bk (SW.loopW (n:=k.halves.length) (fun m q=> ∃i:Nat,m=k.halves.length - i∧i≤k.halves.length∧(∀j,j<i→hG k.halves j=true)∧q=[tP 1 1,tI 9 (i:Nat),oB 1 31 [.d (.i (k).id),.d (.b (k).up),.d (.s (k).log),.d (.i (k).forced),.d (.sl (bC (k).halves))]]) ?_ ?_))))))
 · exact wq (σ':=[tP 1 1,tI 9 (0:Nat),oB 1 31 [.d (.i (k).id),.d (.b (k).up),.d (.s (k).log),.d (.i (k).forced),.d (.sl (bC (k).halves))]]) [] [] (⟨0,rfl,aV5 _,fun j h=>absurd h (by omega),rfl⟩) qz
 rintro n s ⟨i,rfl,hi,hk,rfl⟩
 refine sq (sq (rT [1,9,71] (s5 (cd rfl (fun c71=> ?_) fun c71=> ?_))))
 · have hi2:i<k.halves.length:=by simpa[aK] using c71
   have hg:=gT (l:=k.halves) hi2
   refine sk (sq (bk (sq (sq (rT [1,9,80] (s3 (ai (by rw[aVy,hg];exact⟨⟨by omega,by rw[aK];omega⟩,rfl⟩) (ai (by rw[aVy,hg];exact⟨aV0 rfl,rfl⟩) (xp (oq (k.halves.getD i .zero)) (ai (by rw[aVy,hg];rfl) ?_))))))))))
   refine s1 (cd rfl (fun c80=> ?_) fun c80=> ?_)
   · have hs:=aCr (by simpa using c80)
     refine sq (rT [2] (s1 (rt (bL rfl (congrArg D.b ?_)))))
     rw[hy,fK hi2 hs]
   refine sk (sq (rT [1,9,10] (s1 (bk (SW.loopW (n:=i) (fun m q=> ∃j:Nat,m=i - j∧j≤i∧(∀k1,k1<j→hP k.halves (k.halves.getD i .zero).frm (k.halves.getD i .zero).num k1=false)∧q=[tP 1 1,tI 9 (i:Nat),tI 10 (j:Nat),oB 1 31 [.d (.i (k).id),.d (.b (k).up),.d (.s (k).log),.d (.i (k).forced),.d (.sl (bC (k).halves))]]) ?_ ?_)))))
   · exact wq (σ':=[tP 1 1,tI 9 (i:Nat),tI 10 (0:Nat),oB 1 31 [.d (.i (k).id),.d (.b (k).up),.d (.s (k).log),.d (.i (k).forced),.d (.sl (bC (k).halves))]]) [] [] (⟨0,rfl,aV5 _,fun j h=>absurd h (by omega),rfl⟩) qz
   rintro n s ⟨j,rfl,hj,hkj,rfl⟩
   refine sq (sq (rT [1,9,10,83] (s3 (cd rfl (fun c83=> ?_) fun c83=> ?_))))
   · have hj2:j<i:=by simpa using c83
     have hg2:=gT (l:=k.halves) (i:=j) (by omega)
     refine sk (sq (bk (sq (rD [1,9,10,113] (s3 (ai (by rw[aVy,hg2];exact⟨⟨by omega,by rw[aK];omega⟩,rfl⟩) (s1 (ai (by rw[aVy,hg2];exact⟨aV0 rfl,rfl⟩) (s3 (ai (by rw[aVy,hg];exact⟨⟨by omega,by rw[aK];omega⟩,rfl⟩) (s1 (ai (by rw[aVy,hg];exact⟨aV0 rfl,rfl⟩) (s2 (y3 (ai (fun h=>(by rw[aVy,hg2];exact⟨⟨by omega,by rw[aK];omega⟩,rfl⟩)) (ai rk (y1 (ai (fun h=>(by rw[aVy,hg2];exact⟨aV0 rfl,rfl⟩)) (ai rk (y3 (ai (fun h=>(by rw[aVy,hg];exact⟨⟨by omega,by rw[aK];omega⟩,rfl⟩)) (ai rk (y1 (ai (fun h=>(by rw[aVy,hg];exact⟨aV0 rfl,rfl⟩)) (ai rk (y1 (ai pk (ai (by kernel_rfl) (cd rfl (fun c113=> ?_) fun c113=> ?_)))))))))))))))))))))))))))))
     · have hq:hP k.halves (k.halves.getD i .zero).frm (k.halves.getD i .zero).num j=true:=by
        have h9:=c113
        rw[aVy,aVy,hg2,hg] at h9
        exact h9
       have hs:=aE5 hj2 hq
       refine sq (rT [2] (s1 (rt (bL rfl (congrArg D.b ?_)))))
       rw[hy,fK hi2 hs]
     refine sk (rT [1,9,10] (s3 ?_))
     have hq:hP k.halves (k.halves.getD i .zero).frm (k.halves.getD i .zero).num j=false:=by
      have h9:=c113
      rw[aVy,aVy,hg2,hg] at h9
      exact h9
     refine wq [] [] (⟨i - (j+1),by omega,j+1,rfl,by omega,fun m h=>by by_cases e:m=j;exact e▸hq;exact hkj m (by omega),rfl⟩) ?_
     repeat' apply ai
     all_goals first|exact qx|exact congrArg D.i (aB (by omega))|exact qz
   have hj3:j=i:=by simp at c83;omega
   subst hj3
   have hs:=aCq (by simpa using c80) hkj
   refine xt (rT [1,9] (s3 (wq [] [] (⟨k.halves.length - (j+1),by omega,j+1,rfl,by omega,fun m h=>by by_cases e:m=j;exact e▸hs;exact hk m (by omega),rfl⟩) ?_)))
   repeat' apply ai
   all_goals first|exact qx|exact congrArg D.i (aB (by omega))|exact qz
 have hi3:i=k.halves.length:=by simp[aK] at c71;omega
 refine xt (sq (rT [2] (s1 (rt (bL rfl (congrArg D.b ?_))))))
 subst hi3
 rw[hy,iD hk]
theorem iL (l:List UInt8) (f:Int) (hl:l.length≤140737488355328):Sp 74 1 [tV 0 (.e (.agg [.d (.s l),.d (.i f)]))] [tV 0 (.e (.agg [.d (.s (fO l f).1),.d (.i (fO l f).2)]))]:=by
 refine sb Tryz.func74 rfl (sq (rT [1,2] (s2 (sq (sq (rT [1,2,5] (s1 (xp (nU l f hl) (ai rfl ?_)))))))))
 refine s1 (cd rfl (fun c5=> ?_) fun c5=> ?_)
 · refine sq (rT [2] (s2 (rt ?_)))
   have hr:fO l f=([],0):=if_neg (by simpa using c5)
   refine bU rfl rfl ?_
   rw[hr]<;>rfl
 refine sk (sq (rT [2] (s7 (rt ?_))))
 have hr:fO l f=(l,(l.length:Int)):=if_pos (by simpa using c5)
 refine bU rfl rfl ?_
 rw[hr]<;>rfl
theorem ot (l:List UInt8) (f keep:Int) (hl:l.length≤140737488355328):Sp 64 2 [tV 0 (.e (.agg [.d (.s l),.d (.i f)])),tI 1 keep] [tV 0 (.e (.agg [.d (.s (jU l f keep).1),.d (.i (jU l f keep).2)]))]:=by
 refine sb Tryz.func64 rfl (sq (rT [1,2,4] (s2 (sq (sq (rT [1,2,4,8] (s1 (xp (nU l f hl) (ai rfl ?_)))))))))
 refine s1 (cd rfl (fun c8=> ?_) fun c8=> ?_)
 · refine sq (rT [4] (s2 (rt ?_)))
   have hr:jU l f keep=([],0):=if_neg (by simpa using c8)
   refine bU rfl rfl ?_
   rw[hr]<;>rfl
 have hok:eJ l f=true:=by simpa using c8
 obtain⟨q1,q2,q3,q4⟩:=mS hok
 have hfa:=aCs (keep:=keep) q2
 have hfl: (cG (List.take (kK l f keep).toNat l)).2≤l.length:=aHj l f keep
 refine sk (sq (rT [1,2,4,5] (s3 (sq (sq (rT [1,2,4,5,18] (s7 (cd rfl (fun c18=> ?_) fun c18=> ?_))))))))
 · have hd:=of_decide_eq_true c18
   rw[aB (by omega)] at hd
   refine rT [1,2,4,5] (s6 (sq (sq (rT [1,2,4,5,25] (s2 (cd rfl (fun c25=> ?_) fun c25=> ?_))))))
   · have hz:=of_decide_eq_true c25
     refine rT [2,4,5] (s4 (sq (wa [tP 2 2,tP 4 4,tI 5 (kK l f keep),oB 2 28 [.d (.s l),.d (.i f)],oB 4 28 [.d (.s []),.d (.i 0)]] [] [] ?_ ?_)))
     · repeat' apply ai
       all_goals first|exact qx|exact congrArg D.i (by unfold kK;(try rw[aB (n:=(l.length:Int) - f) (by omega)] at*);split<;>first|omega|(rw[aB (by omega)];omega))|exact qz
     refine rT [2,4,5] (s3 (ai (by exact⟨by simp,by simpa using(by omega:0≤kK l f keep),by simpa using hfa.2⟩) (xp (fY (l.take (kK l f keep).toNat) (by rw[aV4];omega)) (ai rfl ?_))))
     refine s4 (sq (rT [4] (s3 (ai (by exact⟨by simp,by simp,by simpa using hfl⟩) (s3 (rt ?_))))))
     have hr:jU l f keep=_:=if_pos hok
     refine bU rfl rfl ?_
     rw[hr]
     rfl
   have hz:=of_decide_eq_false c25
   refine sk (sq (wa [tP 2 2,tP 4 4,tI 5 (kK l f keep),oB 2 28 [.d (.s l),.d (.i f)],oB 4 28 [.d (.s []),.d (.i 0)]] [] [] ?_ ?_))
   · repeat' apply ai
     all_goals first|exact qx|exact congrArg D.i (by unfold kK;(try rw[aB (n:=(l.length:Int) - f) (by omega)] at*);split<;>first|omega|(rw[aB (by omega)];omega))|exact qz
   refine rT [2,4,5] (s3 (ai (by exact⟨by simp,by simpa using(by omega:0≤kK l f keep),by simpa using hfa.2⟩) (xp (fY (l.take (kK l f keep).toNat) (by rw[aV4];omega)) (ai rfl ?_))))
   refine s4 (sq (rT [4] (s3 (ai (by exact⟨by simp,by simp,by simpa using hfl⟩) (s3 (rt ?_))))))
   have hr:jU l f keep=_:=if_pos hok
   refine bU rfl rfl ?_
   rw[hr]
   rfl
 have hd:=of_decide_eq_false c18
 rw[aB (by omega)] at hd
 refine sk (sq (sq (rT [1,2,4,5,25] (s2 (cd rfl (fun c25=> ?_) fun c25=> ?_)))))
 · have hz:=of_decide_eq_true c25
   refine rT [2,4,5] (s4 (sq (wa [tP 2 2,tP 4 4,tI 5 (kK l f keep),oB 2 28 [.d (.s l),.d (.i f)],oB 4 28 [.d (.s []),.d (.i 0)]] [] [] ?_ ?_)))
   · repeat' apply ai
     all_goals first|exact qx|exact congrArg D.i (by unfold kK;(try rw[aB (n:=(l.length:Int) - f) (by omega)] at*);split<;>first|omega|(rw[aB (by omega)];omega))|exact qz
   refine rT [2,4,5] (s3 (ai (by exact⟨by simp,by simpa using(by omega:0≤kK l f keep),by simpa using hfa.2⟩) (xp (fY (l.take (kK l f keep).toNat) (by rw[aV4];omega)) (ai rfl ?_))))
   refine s4 (sq (rT [4] (s3 (ai (by exact⟨by simp,by simp,by simpa using hfl⟩) (s3 (rt ?_))))))
   have hr:jU l f keep=_:=if_pos hok
   refine bU rfl rfl ?_
   rw[hr]
   rfl
 have hz:=of_decide_eq_false c25
 refine sk (sq (wa [tP 2 2,tP 4 4,tI 5 (kK l f keep),oB 2 28 [.d (.s l),.d (.i f)],oB 4 28 [.d (.s []),.d (.i 0)]] [] [] ?_ ?_))
 · repeat' apply ai
   all_goals first|exact qx|exact congrArg D.i (by unfold kK;(try rw[aB (n:=(l.length:Int) - f) (by omega)] at*);split<;>first|omega|(rw[aB (by omega)];omega))|exact qz
 refine rT [2,4,5] (s3 (ai (by exact⟨by simp,by simpa using(by omega:0≤kK l f keep),by simpa using hfa.2⟩) (xp (fY (l.take (kK l f keep).toNat) (by rw[aV4];omega)) (ai rfl ?_))))
 refine s4 (sq (rT [4] (s3 (ai (by exact⟨by simp,by simp,by simpa using hfl⟩) (s3 (rt ?_))))))
 have hr:jU l f keep=_:=if_pos hok
 refine bU rfl rfl ?_
 rw[hr]
 rfl
theorem pC (n:Int):Sp 218 1 [tI 0 n] [tI 0 (cR n)]:=by
 refine sb Tryz.func218 rfl (sq (rT [0] (s1 (sq (sq (rT [0,5] (s1 (xp (dW _ _ _) (ai rfl ?_)))))))))
 refine s1 (cd rfl (fun c5=> ?_) fun c5=> ?_)
 · refine sq (rT [2] (s1 (rt (bL rfl (congrArg D.i ?_)))))
   simp at c5
   simp[cR,c5,Int.mul_comm]
 refine sk (sq (rT [2] (s5 (rt (bL rfl (congrArg D.i ?_))))))
 simp at c5
 simp[cR,c5,Int.mul_comm]
theorem pD (n:Int):Sp 215 1 [tI 0 n] [tI 0 (cR n)]:=by
 refine sb Tryz.func215 rfl (sq (rT [0] (s1 (sq (sq (rT [0,5] (s1 (xp (dI _ _ _) (ai rfl ?_)))))))))
 refine s1 (cd rfl (fun c5=> ?_) fun c5=> ?_)
 · refine sq (rT [2] (s1 (rt (bL rfl (congrArg D.i ?_)))))
   simp at c5
   simp[cR,c5,Int.mul_comm]
 refine sk (sq (rT [2] (s5 (rt (bL rfl (congrArg D.i ?_))))))
 simp at c5
 simp[cR,c5,Int.mul_comm]
theorem lr (b n:Int):Sp 217 2 [tI 0 b,tI 1 n] [tB 0 (mD b n)]:=by
 refine sb Tryz.func217 rfl (sq (rT [0,1] (s1 (sq (rT [4] (s1 (xp (dW _ _ _) (ai rfl ?_))))))))
 refine s1 (y1 (xc (fun h=>(dW _ _ _)) (ai rfl (ai rk ?_))))
 refine ai pk (s1 (rt (bL rfl ?_)))
 rfl
theorem av (b d:Int) (hb:1≤b∧b≤6) (hd:1≤d∧d≤6):Sp 251 2 [tI 0 b,tI 1 d] [tI 0 (gZ b d)]:=by
 refine sb Tryz.func251 rfl (sq (rT [0,1] (s1 (sq (sq (rT [0,1,6] (s2 (cd rfl (fun c6=> ?_) fun c6=> ?_))))))))
 · have h1:d=1:=by simpa using c6
   refine sq (rT [4] (s1 (ai (by omega) (s2 (rt (bL rfl (congrArg D.i ?_)))))))
   exact(if_pos h1).symm
 have h1: ¬d=1:=by simpa using c6
 have h2:wrap64 (d*wrap64 (d - 1))≠0:=kt (by omega)
 refine sk (sq (rT [4] (s4 (ai (h2) (s1 (rt (bL rfl (congrArg D.i ?_))))))))
 exact(if_neg h1).symm
theorem ou (b n:Int) (hok:mD b n=true):Sp 219 2 [tI 0 b,tI 1 n] [tI 0 (hO b n)]:=by
 obtain⟨hb,hn⟩:=rL hok
 refine sb Tryz.func219 rfl (sq (rT [0,1] (s1 (sq (sq (rT [0,1,14] (s2 (xp (lr _ _) (ai rfl ?_)))))))))
 refine s1 (cd rfl (fun c14=> ?_) fun c14=> ?_)
 · rw[hok] at c14
   cases c14
 refine sk (sq (sq (rT [0,1,17] (s3 (cd rfl (fun c17=> ?_) fun c17=> ?_)))))
 · have hs:n<b:=by simpa using c17
   refine sq (rT [4] (s1 (rt (bL rfl (congrArg D.i ?_)))))
   exact(am hok hs).symm
 have hs: ¬n<b:=by simpa using c17
 refine sk (sq (rT [0,1,5] (s1 (ai (by omega) (s3 (sq (rT [0,1,5,6] (s1 (ai (by exact⟨rfl,by simp,by simp⟩) (ai (by exact⟨⟨rfl,by simp⟩,aWa _,rfl⟩) (s1 (sq (sq (wa [tI 0 b,tI 1 n,tO 5 21 (rG b 1).length,tI 6 (oT b 1),oR 21 3 1 (bX (rG b 1))] [] [] ?_ ?_))))))))))))))
 · repeat' apply ai
   all_goals first|exact qx|(rw[aNs];rfl)|(simp[rG,bX,gZ,List.range_succ];done)|exact qz
 refine rT [0,1,5,6,7] (s1 (bk (SW.loopW (n:=5) (fun m s=> ∃i:Nat,m=6 - i∧(1≤i∧(i:Int)≤b)∧s=[tI 0 b,tI 1 n,tO 5 21 (rG b (i)).length,tI 6 (oT b (i)),tI 7 ((i+1:Nat):Int),oR 21 3 1 (bX (rG b (i)))]) ?_ ?_)))
 · refine wq [] [] (⟨1,rfl,by omega,rfl⟩) ?_
   repeat' apply ai
   all_goals first|exact qx|rfl|exact congrArg D.i (by rw[aB (by omega)];omega)|(simp;done)|omega|exact qz
 rintro n s ⟨i,rfl,hi,rfl⟩
 refine sq (sq (rT [0,1,5,6,7,27] (s3 (cd rfl (fun c27=> ?_) fun c27=> ?_))))
 · have hi2: ((i+1:Nat):Int)≤b:=by simpa using c27
   have hr1:=nM hb (d:=i) (by omega)
   have hw1:=nJ (b:=b) (d:=((i+1:Nat):Int)) hb (by omega)
   refine sk (sq (bk (sq (rT [0,1,5,6,7] (s5 (ai (kt (by omega)) (s1 (ai (by refine⟨rfl,bS _,by simp,?_⟩;rw[lU];show(_+1)*8≤_;omega) (s1 (wa [tI 0 b,tI 1 n,tO 5 21 (rG b (i+1)).length,tI 6 (oT b (i)),tI 7 ((i+1:Nat):Int),oR 21 3 1 (bX (rG b (i+1)))] [] [] ?_ ?_))))))))))
   · repeat' apply ai
     all_goals first|exact qx|(simp[bS,lU];done)|(rw[vm,← iW,← fa (by omega)];done)|(rw[vm,← iW,← fa (by omega)];rfl)|exact congrArg D.i (by rw[aB (by omega)];omega)|(simp;done)|omega|exact qz
   refine rT [0,1,5,6,7] (s3 (ai (aVn (by omega) (by rw[lU];omega) rfl) (ai (by rw[aVy];exact yl (by rw[lU];omega) rfl) (s2 (rT [0,1,5,6,7] (s3 ?_))))))
   have hat:=aE6 (b:=b) (k:=i+1) (i:=i+1) (by omega) (by omega)
   refine wq [] [] (⟨6 - (i+1),by omega,i+1,rfl,by omega,rfl⟩) ?_
   repeat' apply ai
   all_goals first|exact qx|(rw[aVy,hat];exact congrArg D.i (aB (by omega)))|exact congrArg D.i (by rw[aB (by omega)];omega)|(simp;done)|omega|exact qz
 have hi3: ¬((i+1:Nat):Int)≤b:=by simpa using c27
 have hie:i=b.toNat:=by omega
 subst hie
 have hq:=nM hb (d:=b.toNat) (by omega)
 refine xt (sq (rT [0,5,8] (s4 (xp (pC _) (ai rfl ?_)))))
 refine xp (pC _) (ai rfl ?_)
 refine ai (by decide) (s1 (ai (by omega) (s1 (sq (rT [0,5,8,9] (s1 (sq (sq (rT [0,5,8,9,10] (s1 (bk (SW.loopW (n:=7) (fun m s=> ∃j:Nat,m=7 - j∧(j:Int)≤b∧zI b (ca b n) (6 - j) (j+1)=hO b n∧s=[tI 0 b,tO 5 21 (rG b b.toNat).length,tI 8 (ca b n),tI 9 (oT b (j)),tI 10 ((j+1:Nat):Int),oR 21 3 1 (bX (rG b b.toNat))]) ?_ ?_))))))))))))
 · refine wq [] [] (⟨0,rfl,by omega,(fb hok hs).symm,rfl⟩) ?_
   repeat' apply ai
   all_goals first|exact qx|(rw[Int.mul_comm 31 n];rfl)|rfl|exact congrArg D.i (by rw[aB (by omega)];omega)|(simp;done)|omega|exact qz
 rintro n s ⟨j,rfl,hj,hdg,rfl⟩
 refine sq (sq (rT [0,5,8,9,10,55] (s3 (cd rfl (fun c55=> ?_) fun c55=> ?_))))
 · have hj2: ((j+1:Nat):Int)≤b:=by simpa using c55
   have hr1:=nM hb (d:=j) (by omega)
   have hw1:=nJ (b:=b) (d:=((j+1:Nat):Int)) hb (by omega)
   have hat:=aE6 (b:=b) (k:=b.toNat) (i:=j+1) (by omega) (by omega)
   have hsum:wrap64 (oT b j+sd (((bX (rG b b.toNat)).getD ((j+1:Nat):Int).toNat []).getD 0 (.i 0)))=oT b (j+1):=by
    rw[aVy,hat]
    show _=oT b j+gZ b ((j+1:Nat):Int)
    exact aB (by omega)
   refine sk (sq (bk (sq (rT [0,5,8,9,10] (s3 (ai (aVn (by omega) (by rw[lU];omega) rfl) (ai (by rw[aVy];exact yl (by rw[lU];omega) rfl) (s2 (sq (rT [0,5,8,9,10,66] (s3 (cd rfl (fun c66=> ?_) fun c66=> ?_))))))))))))
   · have hlt:ca b n<oT b (j+1):=by
      rw[← hsum]
      exact of_decide_eq_true c66
     refine sq (rT [4] (s2 (rt (bL rfl (congrArg D.i ?_)))))
     rw[← hdg]
     exact(aBc (by omega) hj2 hlt).symm
   have hnl: ¬ca b n<oT b (j+1):=by
    rw[← hsum]
    exact of_decide_eq_false c66
   have hst:=aBb (by omega) hj2 hnl
   refine sk (rT [0,5,8,9,10] (s3 (wq [] [] (⟨7 - (j+1),by omega,j+1,rfl,by omega,hst▸hdg,rfl⟩) ?_)))
   repeat' apply ai
   all_goals first|exact qx|(rw[hsum];done)|exact congrArg D.i (by rw[aB (by omega)];omega)|(simp;done)|omega|exact qz
 have hj3: ¬((j+1:Nat):Int)≤b:=by simpa using c55
 refine xt (sq (rT [4] (s2 (rt (bL rfl (congrArg D.i ?_))))))
 rw[← hdg]
 exact(cc (by omega)).symm
theorem ov (b n:Int) (hok:mD b n=true):Sp 216 2 [tI 0 b,tI 1 n] [tI 0 (hO b n)]:=by
 obtain⟨hb,hn⟩:=rL hok
 refine sb Tryz.func216 rfl (sq (rT [0,1] (s1 (sq (sq (rT [0,1,12] (s2 (xp (wK _ _) (ai rfl ?_)))))))))
 refine s1 (cd rfl (fun c12=> ?_) fun c12=> ?_)
 · rw[hok] at c12
   cases c12
 refine sk (sq (sq (rT [0,1,15] (s3 (cd rfl (fun c15=> ?_) fun c15=> ?_)))))
 · have hs:n<b:=by simpa using c15
   refine sq (rT [4] (s1 (rt (bL rfl (congrArg D.i ?_)))))
   exact(am hok hs).symm
 have hs: ¬n<b:=by simpa using c15
 refine sk (sq (rT [0,1,5] (s1 (sq (sq (rT [0,1,5,6] (s1 (bk (SW.loopW (n:=7) (fun m s=> ∃i:Nat,m=7 - i∧(i:Int)≤b∧s=[tI 0 b,tI 1 n,tI 5 (oT b (i)),tI 6 ((i+1:Nat):Int)]) ?_ ?_)))))))))
 · refine wq [] [] (⟨0,rfl,by omega,rfl⟩) ?_
   repeat' apply ai
   all_goals first|exact qx|rfl|exact congrArg D.i (by rw[aB (by omega)];omega)|(simp;done)|omega|exact qz
 rintro n s ⟨i,rfl,hi,rfl⟩
 refine sq (sq (rT [0,1,5,6,18] (s3 (cd rfl (fun c18=> ?_) fun c18=> ?_))))
 · have hi2: ((i+1:Nat):Int)≤b:=by simpa using c18
   have hr1:=nM hb (d:=i) (by omega)
   have hw1:=nJ (b:=b) (d:=((i+1:Nat):Int)) hb (by omega)
   refine sk (sq (bk (rT [0,1,5,6] (s3 (xp (av b _ (by omega) (by omega)) (ai rfl ?_))))))
   refine s2 (rT [0,1,5,6] (s3 (wq [] [] (⟨7 - (i+1),by omega,i+1,rfl,by omega,rfl⟩) ?_)))
   repeat' apply ai
   all_goals first|exact qx|(show D.i _=D.i (oT b i+gZ b ((i+1:Nat):Int));exact congrArg D.i (aB (by omega)))|exact congrArg D.i (by rw[aB (by omega)];omega)|(simp;done)|omega|exact qz
 have hi3: ¬((i+1:Nat):Int)≤b:=by simpa using c18
 have hie:i=b.toNat:=by omega
 subst hie
 have hq:=nM hb (d:=b.toNat) (by omega)
 refine xt (sq (rT [0,7] (s4 (xp (pD _) (ai rfl ?_)))))
 refine xp (pD _) (ai rfl ?_)
 refine ai (by decide) (s1 (ai (by omega) (s1 (sq (sq (rT [0,7,8] (s1 (bk ?_))))))))
 have hdr:=aHl (n:=n) hb
 refine SW.loopW (n:=7) (fun m s=> ∃j:Nat,m=7 - j∧((j:Int)≤b∧(j+1:Int)≤b)∧zI b (ca b n) (6 - j) (j+1)=hO b n∧s=[tI 0 b,tI 7 (ca b n - oT b (j)),tI 8 ((j+1:Nat):Int)]) ?_ ?_
 · refine wq [] [] (⟨0,rfl,by omega,(fb hok hs).symm,rfl⟩) ?_
   repeat' apply ai
   all_goals first|exact qx|(show D.i (ca b n)=D.i (ca b n - 0);rw[Int.sub_zero])|rfl|exact congrArg D.i (by rw[aB (by omega)];omega)|(simp;done)|omega|exact qz
 rintro n s ⟨j,rfl,hj,hdg,rfl⟩
 refine sq (sq (rT [0,7,8,37] (s3 (cd rfl (fun c37=> ?_) fun c37=> ?_))))
 · have hj2: ((j+1:Nat):Int)<b:=by simpa using c37
   have hr1:=nM hb (d:=j) (by omega)
   have hw1:=nJ (b:=b) (d:=((j+1:Nat):Int)) hb (by omega)
   have hsum:wrap64 (ca b n - oT b j - gZ b ((j+1:Nat):Int))=ca b n - oT b (j+1):=by
    show _=ca b n - (oT b j+gZ b ((j+1:Nat):Int))
    rw[aB (by omega)];omega
   refine sk (sq (bk (sq (rT [0,7,8] (s3 (xp (av b _ (by omega) (by omega)) (ai rfl ?_)))))))
   refine s2 (sq (rT [0,7,8,46] (s2 (cd rfl (fun c46=> ?_) fun c46=> ?_))))
   · have hlt:ca b n<oT b (j+1):=by
      have h9:=of_decide_eq_true c46
      rw[hsum] at h9;omega
     refine sq (rT [4] (s2 (rt (bL rfl (congrArg D.i ?_)))))
     rw[← hdg]
     exact(aBc (by omega) (by omega) hlt).symm
   have hnl: ¬ca b n<oT b (j+1):=by
    have h9:=of_decide_eq_false c46
    rw[hsum] at h9;omega
   have hst:=aBb (by omega) (by omega) hnl
   refine sk (rT [0,7,8] (s3 (wq [] [] (⟨7 - (j+1),by omega,j+1,rfl,by omega,hst▸hdg,rfl⟩) ?_)))
   repeat' apply ai
   all_goals first|exact qx|(rw[hsum];done)|exact congrArg D.i (by rw[aB (by omega)];omega)|(simp;done)|omega|exact qz
 have hj3: ¬((j+1:Nat):Int)<b:=by simpa using c37
 refine xt (sq (rT [4] (s2 (rt (bL rfl (congrArg D.i ?_))))))
 rw[← hdg]
 rw[cc (by omega)]
theorem aDf (l:List Int) (hl:l.length≤1000000):Sp 220 1 [tD 0 (.sl (bX l))] [tO 0 0 l.length,oR 0 3 1 (bX l)]:=by
 refine sb Tryz.func220 rfl (sq (rT [0] (s1 (sq (sq (rT [0,6] (s3 (cd rfl (fun c6=> ?_) fun c6=> ?_))))))))
 · refine sq (rT [2] (s1 (SW.nilOwn 2 0 3 1 rfl rfl (rt (rq [] [] rfl ?_)))))
   repeat' apply ai
   all_goals try exact qx
   all_goals(simp[bS] at c6;simp[c6,bX])
 refine sk (sq (rT [0,3] (s2 (ai (by refine⟨rfl,by omega,?_⟩;rw[bS];show((8:Nat):Int)*_≤_;omega) (s1 (sq (rT [3] (s2 (ai (by refine⟨trivial,by simp,aCh l⟩) (sq (rT [2] (s2 (rt (rq [(0,9)] [] rfl ?_))))))))))))))
 repeat' apply ai
 all_goals try exact qx
 all_goals first|(simp[bS];done)|(simp;done)
theorem aQk (o:List Int):mA [tO 0 0 o.length,oR 0 3 1 (bX (o))]:=by
 intro p hp
 simp at hp
 rcases hp with rfl|rfl
 · trivial
 intro r hr d hd
 obtain⟨x,_,rfl⟩:=aWc.1 hr
 simp at hd;subst hd;trivial
theorem lu (b n:Int):Sp 180 2 [tI 0 b,tI 1 n] [tD 0 (.sl (bX (bK b n)))]:=by
 refine sb Tryz.func180 rfl (sq (rT [0,1] (s1 (sq (sq (rT [0,1,15] (s2 (xp (lr _ _) (ai rfl ?_)))))))))
 refine s1 (cd rfl (fun c15=> ?_) fun c15=> ?_)
 · have hok: ¬mD b n=true:=by simpa using c15
   refine sq (rT [4] (s1 (rt (dQ _ [] [] rfl (bq rfl (congrArg D.sl ?_) trivial) rfl rfl))))
   rw[vM hok];rfl
 have hok:mD b n=true:=by simpa using c15
 obtain⟨hb,hn⟩:=rL hok
 have hmd:=mJ hok
 refine sk (sq (sq (rT [0,1,18] (s3 (cd rfl (fun c18=> ?_) fun c18=> ?_)))))
 · have hs:n<b:=by simpa using c18
   refine sq (rT [4] (s3 (rt (dQ _ [] [20] rfl (eD rfl rfl rfl ?_ (congrArg D.sl ?_) trivial) rfl rfl))))
   · rfl
   rw[nN hok hs];rfl
 have hs: ¬n<b:=by simpa using c18
 refine sk (sq (rT [0,1,5] (s1 (sq (rT [0,1,5,6] (s3 (xp (pC _) (ai rfl ?_))))))))
 refine s1 (sq (sq (rT [0,5,6,7] (s2 (xp (ou b n hok) (ai rfl ?_))))))
 refine s1 (bk (SW.loopW (n:=(hO b n).toNat*1) (fun m s=> ∃(x:Int) (k:Nat) (u:List Bool),m=k*1∧(UOk b u∧(u.count true:Int)+k≤b)∧kj b k x u=oL b n∧s=[tI 0 b,tP 5 5,tI 6 (x),tI 7 (k:Nat),oB 5 219 (dF (u))]) ?_ ?_))
 · refine wk [tI 0 b,tP 5 5,tI 6 (cR (wrap64 (wrap64 (n*7)+1))),tI 7 ((hO b n).toNat:Nat),oB 5 219 (dF (List.replicate 6 false))] [] [] (⟨_,_,_,rfl,⟨(qO b).1,by rw[(qO b).2];omega⟩,rfl,rfl⟩) ?_ rfl rfl
   repeat' first|exact trivial|(refine ec rfl ?_ ?_)|(refine sC rfl ?_ ?_)|refine gQ rfl ?_|refine cJ rfl ?_ ?_|refine fN rfl rfl ?_ rfl ?_|refine bR rfl ?_ ?_|refine bQ rfl rfl rfl rfl ?_|refine aS rfl ?_ ?_|refine dB rfl ?_ ?_|exact aG|refine aC ?_ ?_|refine fF ?_|refine bJ rfl ?_ rfl ?_|refine dD rfl rfl rfl ?_|refine aBa rfl ?_ ?_
   all_goals first|with_reducible rfl|(first|with_reducible rfl|rfl|(rw[Int.mul_comm 7 n];done)|exact congrArg D.i (by omega))
 rintro n s ⟨x,k,u,rfl,⟨hu,hc⟩,hp,rfl⟩
 refine sq (sq (rT [0,5,6,7,29] (s2 (cd rfl (fun c29=> ?_) fun c29=> ?_))))
 · have hk1:0<k:=by simpa using c29
   obtain⟨f,hf,hfree⟩:=vk hb hu (by omega)
   refine sk (sq (bk (sq (rT [0,5,6,7] (s1 (xp (pC _) (ai rfl ?_)))))))
   refine s1 (sq (rT [0,5,6,7,8] (s1 (ai (by decide) (s1 (ai (by omega) (s1 (sq (bk ?_)))))))))
   have ha0:=nq (x:=x) hb
   have hul:=hu.1
   refine SW.loopW (n:=((f+b - (aWe (wrap64 (Int.tdiv (cR x) 16)) b)) % b).toNat) (fun m s=> ∃at_:Int,m=((f+b - at_) % b).toNat∧(0≤at_∧at_<b)∧pQ u b 6 at_=pQ u b 6 (aWe (wrap64 (Int.tdiv (cR x) 16)) b)∧s=[tI 0 b,tP 5 5,tI 6 (cR x),tI 7 (k:Nat),tI 8 (at_),oB 5 219 (dF (u))]) ?_ ?_
   · refine wk [tI 0 b,tP 5 5,tI 6 (cR x),tI 7 (k:Nat),tI 8 ((aWe (wrap64 (Int.tdiv (cR x) 16)) b)),oB 5 219 (dF (u))] [] [] (⟨_,rfl,ha0,rfl,rfl⟩) ?_ rfl rfl
     repeat' first|exact trivial|(refine ec rfl ?_ ?_)|(refine sC rfl ?_ ?_)|refine gQ rfl ?_|refine cJ rfl ?_ ?_|refine fN rfl rfl ?_ rfl ?_|refine bR rfl ?_ ?_|refine bQ rfl rfl rfl rfl ?_|refine aS rfl ?_ ?_|refine dB rfl ?_ ?_|exact aG|refine aC ?_ ?_|refine fF ?_|refine bJ rfl ?_ rfl ?_|refine dD rfl rfl rfl ?_|refine aBa rfl ?_ ?_
     all_goals first|with_reducible rfl|(first|with_reducible rfl|rfl)
   rintro n s ⟨at_,rfl,hat,hga,rfl⟩
   refine sq (sq (rT [0,5,6,7,8,40] (s2 (ai (by show 0+at_.toNat*1<_;rw[lG];omega) (SW.wk (J:=fun s=>s=[tI 0 b,tP 5 5,tI 6 (cR x),tI 7 (k:Nat),tI 8 (at_),tB 40 (u.getD at_.toNat false),oB 5 219 (dF (u))]) ?_ ?_)))))
   · refine wk [tI 0 b,tP 5 5,tI 6 (cR x),tI 7 (k:Nat),tI 8 (at_),tB 40 (u.getD at_.toNat false),oB 5 219 (dF (u))] [] [] (rfl) ?_ rfl rfl
     repeat' first|exact trivial|(refine ec rfl ?_ ?_)|(refine sC rfl ?_ ?_)|refine gQ rfl ?_|refine cJ rfl ?_ ?_|refine fN rfl rfl ?_ rfl ?_|refine bR rfl ?_ ?_|refine bQ rfl rfl rfl rfl ?_|refine aS rfl ?_ ?_|refine dB rfl ?_ ?_|exact aG|refine aC ?_ ?_|refine fF ?_|refine bJ rfl ?_ rfl ?_|refine dD rfl rfl rfl ?_|refine aBa rfl ?_ ?_
     all_goals first|with_reducible rfl|(first|with_reducible rfl|(show(dF u).getD (0+at_.toNat*1) .nil=_;rw[show 0+at_.toNat*1=at_.toNat by omega];exact vl (by omega)))
   rintro s rfl
   refine cd rfl (fun c40=> ?_) fun c40=> ?_
   · refine sk (bk (rT [0,5,6,7,8] (s3 (ai (by omega) (s1 ?_)))))
     have hne:at_≠f:=by
      rintro rfl
      rw[hfree] at c40
      cases c40
     obtain⟨q1,q2⟩:=aCi hb hf hat hne
     have hgo:=aE7 hb hf hfree hat c40
     refine wk [tI 0 b,tP 5 5,tI 6 (cR x),tI 7 (k:Nat),tI 8 (aWe (wrap64 (at_+1)) b),oB 5 219 (dF (u))] [] [] (⟨_,q1,_,rfl,q2,hgo▸hga,rfl⟩) ?_ rfl rfl
     repeat' first|exact trivial|(refine ec rfl ?_ ?_)|(refine sC rfl ?_ ?_)|refine gQ rfl ?_|refine cJ rfl ?_ ?_|refine fN rfl rfl ?_ rfl ?_|refine bR rfl ?_ ?_|refine bQ rfl rfl rfl rfl ?_|refine aS rfl ?_ ?_|refine dB rfl ?_ ?_|exact aG|refine aC ?_ ?_|refine fF ?_|refine bJ rfl ?_ rfl ?_|refine dD rfl rfl rfl ?_|refine aBa rfl ?_ ?_
     all_goals first|with_reducible rfl|(first|with_reducible rfl|rfl)
   have hz:at_=pQ u b 6 (aWe (wrap64 (Int.tdiv (cR x) 16)) b):=by rw[← hga,xQ c40]
   have hpo:uD b x u=u.set at_.toNat true:=by rw[uD,← hz]
   have huk:=kl (x:=x) hb hu (by omega)
   rw[hpo] at huk
   refine xt (rT [0,5,6,7] (s2 (ai (by refine⟨rfl,?_⟩;rw[lG];show 0+at_.toNat*1+1≤_;omega) (gk.2 (rT [0,5,6,7] (s3 ?_))))))
   obtain⟨k,rfl⟩: ∃k2,k=k2+1:=⟨k - 1,by omega⟩
   have hpp:kj b k (cR x) (u.set at_.toNat true)=oL b n:=by
    rw[← hpo];exact hp
   refine wk [tI 0 b,tP 5 5,tI 6 (cR x),tI 7 (k:Nat),oB 5 219 (dF (u.set at_.toNat true))] [] [] (⟨k*1,by omega,cR x,k,u.set at_.toNat true,rfl,⟨huk.1,by rw[huk.2];omega⟩,hpp,rfl⟩) ?_ rfl rfl
   repeat' first|exact trivial|(refine ec rfl ?_ ?_)|(refine sC rfl ?_ ?_)|refine gQ rfl ?_|refine cJ rfl ?_ ?_|refine fN rfl rfl ?_ rfl ?_|refine bR rfl ?_ ?_|refine bQ rfl rfl rfl rfl ?_|refine aS rfl ?_ ?_|refine dB rfl ?_ ?_|exact aG|refine aC ?_ ?_|refine fF ?_|refine bJ rfl ?_ rfl ?_|refine dD rfl rfl rfl ?_|refine aBa rfl ?_ ?_
   all_goals first|with_reducible rfl|(first|with_reducible rfl|exact congrArg D.i (by rw[aB (by omega)];omega)|(show cX (dF u) (0+at_.toNat*1) [.d (.b true)]=_;rw[show 0+at_.toNat*1=at_.toNat by omega];exact yo (by omega)))
 have hk1:k=0:=by simp at c29;omega
 subst hk1
 have hue:u=oL b n:=hp
 have hul:=hu.1
 refine xt (sq (rT [5,9] (s1 (sq (sq (rT [9,47,48] (ai (by show 0+6≤_;rw[lG];omega) (s1 (bk (SW.nilOwn 9 100 3 1 rfl rfl (SW.loopW (n:=6) (fun m s=> ∃i:Nat,m=6 - i∧i≤6∧s=[tO 9 100 (iJ u (i)).length,tI 48 (i:Nat),tV 47 (.e (.agg (dF u))),oR 100 3 1 (bX (iJ u (i)))]) ?_ ?_)))))))))))
 · refine wk [tO 9 100 (iJ u (0)).length,tI 48 (0:Nat),tV 47 (.e (.agg (dF u))),oR 100 3 1 (bX (iJ u (0)))] [] [] (⟨0,rfl,by omega,rfl⟩) ?_ rfl rfl
   repeat' first|exact trivial|(refine ec rfl ?_ ?_)|(refine sC rfl ?_ ?_)|refine gQ rfl ?_|refine cJ rfl ?_ ?_|refine fN rfl rfl ?_ rfl ?_|refine bR rfl ?_ ?_|refine bQ rfl rfl rfl rfl ?_|refine aS rfl ?_ ?_|refine dB rfl ?_ ?_|exact aG|refine aC ?_ ?_|refine fF ?_|refine bJ rfl ?_ rfl ?_|refine dD rfl rfl rfl ?_|refine aBa rfl ?_ ?_
   all_goals first|with_reducible rfl|(first|with_reducible rfl|rfl|(show((dF u).drop 0).take 6=dF u;rw[List.drop_zero,List.take_of_length_le (by rw[lG];omega)]))
 rintro n s ⟨i,rfl,hi,rfl⟩
 refine sq (rT [9,47,48,49] (s1 (sq (cd rfl (fun c49=> ?_) fun c49=> ?_))))
 · have hi2:i<6:=by simp at c49;omega
   refine sk (sq (bk (sq (rT [9,10,11,47,48] (s1 (aT0 dA u (i:Nat) (u.getD i false) rfl rfl rfl rfl rfl rfl rfl (by rfl) (by rfl) (by omega) hul.symm (by rw[aVy]) (s2 (sq (rT [9,10,47,48,52] (s1 (cd rfl (fun c52=> ?_) fun c52=> ?_)))))))))))
   · refine rT [9,47,48] (s3 (ai (by refine⟨rfl,bS _,by simp,?_⟩;have:=sD u i;show(_+1)*8≤_;omega) (s1 (rT [9,47,48] (s2 ?_)))))
     first
     |(have hx:=zL c52
       refine wk [tO 9 100 (iJ u ((i+1))).length,tI 48 ((i+1):Nat),tV 47 (.e (.agg (dF u))),oR 100 3 1 (bX (iJ u ((i+1))))] [] [] (⟨6 - (i+1),by omega,i+1,rfl,by omega,rfl⟩) ?_ rfl rfl
       repeat' first|exact trivial|refine gQ rfl ?_|refine cJ rfl ?_ ?_|refine fN rfl rfl ?_ rfl ?_|refine bR rfl ?_ ?_|refine bQ rfl rfl rfl rfl ?_|refine aS rfl ?_ ?_|refine sC rfl ?_ ?_|exact aG|refine aC ?_ ?_|refine fF ?_|refine bJ rfl ?_ rfl ?_|refine dD rfl rfl rfl ?_
       all_goals first|with_reducible rfl|(first|with_reducible rfl|exact congrArg D.i (by rw[aB (by omega)];omega)|omega|(simp;done)|(rw[hx,aVz];rfl)|(rw[hx];exact iW _ _)|(rw[hx];simp[bX,aVz];done)))
     |(have hx:=xR c52
       refine wk [tO 9 100 (iJ u ((i+1))).length,tI 48 ((i+1):Nat),tV 47 (.e (.agg (dF u))),oR 100 3 1 (bX (iJ u ((i+1))))] [] [] (⟨6 - (i+1),by omega,i+1,rfl,by omega,rfl⟩) ?_ rfl rfl
       repeat' first|exact trivial|refine gQ rfl ?_|refine cJ rfl ?_ ?_|refine fN rfl rfl ?_ rfl ?_|refine bR rfl ?_ ?_|refine bQ rfl rfl rfl rfl ?_|refine aS rfl ?_ ?_|refine sC rfl ?_ ?_|exact aG|refine aC ?_ ?_|refine fF ?_|refine bJ rfl ?_ rfl ?_|refine dD rfl rfl rfl ?_
       all_goals first|with_reducible rfl|(first|with_reducible rfl|exact congrArg D.i (by rw[aB (by omega)];omega)|omega|(simp;done)|(rw[hx];done)))
   refine sk (rT [9,47,48] (s2 ?_))
   first
   |(have hx:=zL c52
     refine wk [tO 9 100 (iJ u ((i+1))).length,tI 48 ((i+1):Nat),tV 47 (.e (.agg (dF u))),oR 100 3 1 (bX (iJ u ((i+1))))] [] [] (⟨6 - (i+1),by omega,i+1,rfl,by omega,rfl⟩) ?_ rfl rfl
     repeat' first|exact trivial|refine gQ rfl ?_|refine cJ rfl ?_ ?_|refine fN rfl rfl ?_ rfl ?_|refine bR rfl ?_ ?_|refine bQ rfl rfl rfl rfl ?_|refine aS rfl ?_ ?_|refine sC rfl ?_ ?_|exact aG|refine aC ?_ ?_|refine fF ?_|refine bJ rfl ?_ rfl ?_|refine dD rfl rfl rfl ?_
     all_goals first|with_reducible rfl|(first|with_reducible rfl|exact congrArg D.i (by rw[aB (by omega)];omega)|omega|(simp;done)|(rw[hx,aVz];rfl)|(rw[hx];exact iW _ _)|(rw[hx];simp[bX,aVz];done)))
   |(have hx:=xR c52
     refine wk [tO 9 100 (iJ u ((i+1))).length,tI 48 ((i+1):Nat),tV 47 (.e (.agg (dF u))),oR 100 3 1 (bX (iJ u ((i+1))))] [] [] (⟨6 - (i+1),by omega,i+1,rfl,by omega,rfl⟩) ?_ rfl rfl
     repeat' first|exact trivial|refine gQ rfl ?_|refine cJ rfl ?_ ?_|refine fN rfl rfl ?_ rfl ?_|refine bR rfl ?_ ?_|refine bQ rfl rfl rfl rfl ?_|refine aS rfl ?_ ?_|refine sC rfl ?_ ?_|exact aG|refine aC ?_ ?_|refine fF ?_|refine bJ rfl ?_ rfl ?_|refine dD rfl rfl rfl ?_
     all_goals first|with_reducible rfl|(first|with_reducible rfl|exact congrArg D.i (by rw[aB (by omega)];omega)|omega|(simp;done)|(rw[hx];done)))
 have hi3:i=6:=by simp at c49;omega
 subst hi3
 refine xt (sq (rT [4] (s1 (bH (robj:=[(100,.row 3 1 (bX (iJ u 6)))]) (rl:=[(0,59)]) (bor:=[100]) (aDf (iJ u 6) (by have:=sD u 6;omega)) rfl rfl rfl rfl ⟨eD rfl rfl rfl (bS _) rfl trivial,rfl⟩ rfl (.inr (aQk _)) (aH ⟨rfl,trivial⟩) (fun j hj=>by(obtain rfl:j=0:=by simpa[kI,cE,iM] using hj);rfl) (s1 (rt (dQ _ [] [59] rfl (eD rfl rfl rfl ?_ (congrArg D.sl ?_) trivial) rfl rfl)))))))
 · exact bS _
 rw[xS hok hs,← hue,← gv,hul]
theorem lv (b n:Int):Sp 176 2 [tI 0 b,tI 1 n] [tD 0 (.sl (bX (bK b n)))]:=by
 refine sb Tryz.func176 rfl (sq (rT [0,1] (s1 (sq (rT [0,1,5] (s2 (sq (sq (rT [0,1,5,15] (s2 (xp (wK _ _) (ai rfl ?_))))))))))))
 refine s1 (cd rfl (fun c15=> ?_) fun c15=> ?_)
 · have hok: ¬mD b n=true:=by simpa using c15
   refine sq (rT [4] (s2 (rt (dQ _ [] [11] rfl (eD rfl rfl rfl ?_ (congrArg D.sl ?_) trivial) rfl rfl))))
   · rfl
   rw[vM hok];rfl
 have hok:mD b n=true:=by simpa using c15
 obtain⟨hb,hn⟩:=rL hok
 have hmd:=mJ hok
 refine sk (sq (sq (rT [0,1,5,19] (s3 (cd rfl (fun c19=> ?_) fun c19=> ?_)))))
 · have hs:n<b:=by simpa using c19
   refine sq (rT [4] (s5 (rt (dQ _ [] [11] rfl (eD rfl rfl rfl ?_ (congrArg D.sl ?_) trivial) rfl rfl))))
   · rfl
   rw[nN hok hs];rfl
 have hs: ¬n<b:=by simpa using c19
 refine sk (sq (rT [0,1,5,6] (s1 (ai (by refine⟨rfl,by omega,?_⟩;show((1:Nat):Int)*_≤_;omega) (s1 (sq (rT [0,1,5,6,7] (s3 (xp (pD _) (ai rfl ?_))))))))))
 refine s1 (sq (sq (rT [0,5,6,7,8] (s2 (xp (ov b n hok) (ai rfl ?_))))))
 refine s1 (bk (SW.loopW (n:=(hO b n).toNat*1) (fun m s=> ∃(x:Int) (k:Nat) (u:List Bool),m=k*1∧(UOk b u∧(u.count true:Int)+k≤b)∧kj b k x u=oL b n∧s=[tI 0 b,tO 5 11 (([]:List Int)).length,tO 6 25 b.toNat,tI 7 (x),tI 8 (k:Nat),oR 11 3 1 (bX ([])),oR 25 4 1 (aL ((u).take b.toNat))]) ?_ ?_))
 · refine wq (σ':=[tI 0 b,tO 5 11 (([]:List Int)).length,tO 6 25 b.toNat,tI 7 (cR (wrap64 (wrap64 (n*7)+1))),tI 8 ((hO b n).toNat:Nat),oR 11 3 1 (bX ([])),oR 25 4 1 (aL ((List.replicate 6 false).take b.toNat))]) [] [] (⟨_,_,_,rfl,⟨(qO b).1,by rw[(qO b).2];omega⟩,rfl,rfl⟩) ?_
   repeat' apply ai
   all_goals first|exact qx|rfl|exact congrArg D.i (by omega)|(rw[List.take_replicate,Nat.min_eq_left (by omega)];exact repT _)|exact qz
 rintro n s ⟨x,k,u,rfl,⟨hu,hc⟩,hp,rfl⟩
 refine sq (sq (rT [0,5,6,7,8,34] (s2 (cd rfl (fun c34=> ?_) fun c34=> ?_))))
 · have hk1:0<k:=by simpa using c34
   obtain⟨f,hf,hfree⟩:=vk hb hu (by omega)
   refine sk (sq (bk (sq (rT [0,5,6,7,8] (s1 (xp (pD _) (ai rfl ?_)))))))
   refine s1 (sq (rT [0,5,6,7,8,9] (s1 (ai (by decide) (s1 (ai (by omega) (s1 (sq (bk ?_)))))))))
   have ha0:=nq (x:=x) hb
   have hul:=hu.1
   have htl: (u.take b.toNat).length=b.toNat:=by rw[aV4];omega
   refine SW.loopW (n:=((f+b - (aWe (wrap64 (Int.tdiv (cR x) 16)) b)) % b).toNat) (fun m s=> ∃at_:Int,m=((f+b - at_) % b).toNat∧(0≤at_∧at_<b)∧pQ u b 6 at_=pQ u b 6 (aWe (wrap64 (Int.tdiv (cR x) 16)) b)∧s=[tI 0 b,tO 5 11 (([]:List Int)).length,tO 6 25 b.toNat,tI 7 (cR x),tI 8 (k:Nat),tI 9 (at_),oR 11 3 1 (bX ([])),oR 25 4 1 (aL ((u).take b.toNat))]) ?_ ?_
   · refine wq (σ':=[tI 0 b,tO 5 11 (([]:List Int)).length,tO 6 25 b.toNat,tI 7 (cR x),tI 8 (k:Nat),tI 9 ((aWe (wrap64 (Int.tdiv (cR x) 16)) b)),oR 11 3 1 (bX ([])),oR 25 4 1 (aL ((u).take b.toNat))]) [] [] (⟨_,rfl,ha0,rfl,rfl⟩) ?_
     repeat' apply ai
     all_goals first|exact qx|rfl|exact qz
   rintro n s ⟨at_,rfl,hat,hga,rfl⟩
   have hbo:=kW (l:=u.take b.toNat) (i:=at_.toNat) (by omega)
   rw[xN (by omega)] at hbo
   refine sq (sq (rT [0,5,6,7,8,9,46] (s2 (ai (by exact⟨by rw[cT];exact htl,by omega,by omega⟩) (ai (by rw[hbo];exact⟨⟨by rw[cT];exact htl,by omega⟩,aWa _,rfl⟩) (cd rfl (fun c46=> ?_) fun c46=> ?_))))))
   · have c40:u.getD at_.toNat false=true:=by
      rw[hbo] at c46;exact c46
     refine sk (bk (rT [0,5,6,7,8,9] (s3 (ai (by omega) (s1 ?_)))))
     have hne:at_≠f:=by
      rintro rfl
      rw[hfree] at c40
      cases c40
     obtain⟨q1,q2⟩:=aCi hb hf hat hne
     have hgo:=aE7 hb hf hfree hat c40
     refine wq (σ':=[tI 0 b,tO 5 11 (([]:List Int)).length,tO 6 25 b.toNat,tI 7 (cR x),tI 8 (k:Nat),tI 9 (aWe (wrap64 (at_+1)) b),oR 11 3 1 (bX ([])),oR 25 4 1 (aL ((u).take b.toNat))]) [] [] (⟨_,q1,_,rfl,q2,hgo▸hga,rfl⟩) ?_
     repeat' apply ai
     all_goals first|exact qx|rfl|exact qz
   have c40:u.getD at_.toNat false=false:=by
    rw[hbo] at c46;exact c46
   have hz:at_=pQ u b 6 (aWe (wrap64 (Int.tdiv (cR x) 16)) b):=by rw[← hga,xQ c40]
   have hpo:uD b x u=u.set at_.toNat true:=by rw[uD,← hz]
   have huk:=kl (x:=x) hb hu (by omega)
   rw[hpo] at huk
   refine xt (rT [0,5,6,7,8] (s2 (ai (by exact⟨by rw[cT];exact htl,by omega,by omega⟩) (ai (by rw[hbo];exact⟨by rw[cT];exact htl,by omega,rfl,aWa _⟩) (rT [0,5,6,7,8] (s3 ?_))))))
   obtain⟨k,rfl⟩: ∃k2,k=k2+1:=⟨k - 1,by omega⟩
   have hpp:kj b k (cR x) (u.set at_.toNat true)=oL b n:=by
    rw[← hpo];exact hp
   refine wq [] [] (⟨k*1,by omega,cR x,k,u.set at_.toNat true,rfl,⟨huk.1,by rw[huk.2];omega⟩,hpp,rfl⟩) ?_
   repeat' apply ai
   all_goals first|exact qx|exact congrArg D.i (by rw[aB (by omega)];omega)|(rw[List.take_set];exact aJ7 (by omega))|exact qz
 have hk1:k=0:=by simp at c34;omega
 subst hk1
 have hue:u=oL b n:=hp
 have hul:=hu.1
 have htl: (u.take b.toNat).length=b.toNat:=by rw[aV4];omega
 refine xt (sq (sq (rT [0,5,6,10] (s1 (bk (SW.loopW (n:=b.toNat) (fun m s=> ∃i:Nat,m=b.toNat - i∧(i:Int)≤b∧s=[tI 0 b,tO 5 11 (iJ u (i)).length,tO 6 25 b.toNat,tI 10 (i:Nat),oR 11 3 1 (bX (iJ u (i))),oR 25 4 1 (aL (u.take b.toNat))]) ?_ ?_))))))
 · refine wq [] [] (⟨0,rfl,by omega,rfl⟩) ?_
   repeat' apply ai
   all_goals first|exact qx|rfl|exact qz
 rintro n s ⟨i,rfl,hi,rfl⟩
 refine sq (sq (rT [0,5,6,10,56] (s3 (cd rfl (fun c56=> ?_) fun c56=> ?_))))
 · have hi2: (i:Int)<b:=by simpa using c56
   have hbo:=kW (l:=u.take b.toNat) (i:=i) (by omega)
   rw[xN (by omega)] at hbo
   refine sk (sq (bk (sq (rT [0,5,6,10,62] (s2 (ai (by exact⟨by rw[cT];exact htl,by omega,by omega⟩) (ai (by rw[aVy];rw[hbo];exact⟨⟨by rw[cT];exact htl,by omega⟩,aWa _,rfl⟩) (cd rfl (fun c62=> ?_) fun c62=> ?_))))))))
   · have c52:u.getD i false=true:=by
      rw[aVy,hbo] at c62;exact c62
     refine rT [0,5,6,10] (s3 (ai (by refine⟨rfl,bS _,by simp,?_⟩;have:=sD u i;show(_+1)*8≤_;omega) (s1 (rT [0,5,6,10] (s3 ?_)))))
     first
     |(have hx:=zL c52
       refine wq [] [] (⟨b.toNat - (i+1),by omega,i+1,rfl,by omega,rfl⟩) ?_
       repeat' apply ai
       all_goals first|exact qx|exact congrArg D.i (by rw[aB (by omega)];omega)|omega|(simp;done)|(rw[hx,aVz];rfl)|(rw[hx];exact iW _ _)|(rw[hx];simp[bX,aVz];done)|exact qz)
     |(have hx:=xR c52
       refine wq [] [] (⟨b.toNat - (i+1),by omega,i+1,rfl,by omega,rfl⟩) ?_
       repeat' apply ai
       all_goals first|exact qx|exact congrArg D.i (by rw[aB (by omega)];omega)|omega|(simp;done)|(rw[hx];done)|exact qz)
   have c52:u.getD i false=false:=by
    rw[aVy,hbo] at c62;exact c62
   refine sk (rT [0,5,6,10] (s3 ?_))
   first
   |(have hx:=zL c52
     refine wq [] [] (⟨b.toNat - (i+1),by omega,i+1,rfl,by omega,rfl⟩) ?_
     repeat' apply ai
     all_goals first|exact qx|exact congrArg D.i (by rw[aB (by omega)];omega)|omega|(simp;done)|(rw[hx,aVz];rfl)|(rw[hx];exact iW _ _)|(rw[hx];simp[bX,aVz];done)|exact qz)
   |(have hx:=xR c52
     refine wq [] [] (⟨b.toNat - (i+1),by omega,i+1,rfl,by omega,rfl⟩) ?_
     repeat' apply ai
     all_goals first|exact qx|exact congrArg D.i (by rw[aB (by omega)];omega)|omega|(simp;done)|(rw[hx];done)|exact qz)
 have hi3:i=b.toNat:=by simp at c56;omega
 subst hi3
 refine xt (sq (rT [4] (s2 (rt (dQ _ [] [11] rfl (eD rfl rfl rfl ?_ (congrArg D.sl ?_) trivial) rfl rfl)))))
 · exact bS _
 rw[xS hok hs,← hue,← gv,qn (i:=b.toNat) (fun j hj=>hu.2 j (by omega)) (by omega)]
theorem zl:Sp 177 0 [] [tD 0 (.s [0,0,0,0])]:=by
 refine sb Tryz.func177 rfl (sq (rT [] (s1 (sq (rT [0] (ai (by exact⟨rfl,by decide,by decide⟩) (ai (by exact⟨rfl,rfl⟩) (s1 (rt (bL rfl (congrArg D.s ?_)))))))))))
 rfl
theorem lw (a c:List UInt8) (ha:a.length=4) (hc:c.length=4):Sp 178 2 [tD 0 (.s a),tD 1 (.s c)] [tD 0 (.s (km a c))]:=by
 refine sb Tryz.func178 rfl (sq (rT [0,1] (s1 (sq (rT [0,1,5] (s2 (sq (sq (rT [0,1,5,6] (s1 (bk (SW.loopW (n:=4) (fun m s=> ∃i:Nat,m=4 - i∧i≤4∧s=[tD 0 (.s a),tD 1 (.s c),tO 5 7 (vN a c (i)).length,tI 6 (i:Nat),oR 7 5 1 (aA (vN a c (i)))]) ?_ ?_))))))))))))
 · refine wq [] [] (⟨0,rfl,by omega,rfl⟩) ?_
   repeat' apply ai
   all_goals first|exact qx|rfl|exact qz
 rintro n s ⟨i,rfl,hi,rfl⟩
 refine sq (sq (rT [0,1,5,6,9] (s2 (cd rfl (fun c9=> ?_) fun c9=> ?_))))
 · have hi2:i<4:=by simp at c9;omega
   refine sk (sq (bk (rD [0,1,5,6] (s3 (ai (by omega) (s2 (ai (by omega) (s2 (ai (by refine⟨rfl,aP _,by simp,?_⟩;rw[lV];show(_+1)*1≤_;omega) (s1 (ai (by kernel_rfl) (rT [0,1,5,6] (s3 ?_)))))))))))))
   have hx:=vo a c i
   refine wq [] [] (⟨4 - (i+1),by omega,i+1,rfl,by omega,rfl⟩) ?_
   repeat' apply ai
   all_goals first|exact qx|(rw[hx,aVz];rfl)|(rw[hx,aVy];exact aJ9 _ _ _)|(simp[aP,lV];done)|exact congrArg D.i (by rw[aB (by omega)];omega)|omega|(simp;done)|exact qz
 have hi2:i=4:=by simp at c9;omega
 subst hi2
 refine xt (sq (rT [4] (s1 (ai (by exact⟨aP _,(congrArg aA (bZ _)).symm⟩) (s1 (rt (bL rfl (congrArg D.s ?_))))))))
 exact bZ _
theorem lx (a c:List UInt8) (ha:a.length=4) (hc:c.length=4):Sp 181 2 [tD 0 (.s a),tD 1 (.s c)] [tD 0 (.s (km a c))]:=by
 refine sb Tryz.func181 rfl (sq (rT [0,1] (s1 (sq (rT [1,5] (s1 (ai (by omega) (s1 (sq (sq (rT [1,5,10,11] (s1 (ai (by exact aP _) (s1 (bk (SW.loopW (n:=4) (fun m s=> ∃i:Nat,m=4 - i∧i≤4∧s=[tD 1 (.s c),tO 5 8 4,tI 10 (4:Nat),tI 11 (i:Nat),oR 8 5 1 (aA (vN a c (i)++a.drop (i)))]) ?_ ?_))))))))))))))))
 · refine wq [] [] (⟨0,rfl,by omega,rfl⟩) ?_
   repeat' apply ai
   all_goals first|exact qx|rfl|(rw[ha];done)|(exact congrArg D.i (by omega))|omega|exact qz
 rintro n s ⟨i,rfl,hi,rfl⟩
 refine sq (rT [1,5,10,11,12] (s1 (sq (cd rfl (fun c12=> ?_) fun c12=> ?_))))
 · have hi2:i<4:=by simp at c12;omega
   have hlx: (vN a c (i)++a.drop (i)).length=4:=by rw[aVz,lV,aV7];omega
   have hgx:=iB (l:=(vN a c (i)++a.drop (i))) (i:=i) (by omega)
   rw[aQa (by omega)] at hgx
   refine sk (sq (bk (sq (rT [1,5,6,10,11] (s2 (rD [1,5,10,11] (s2 (ai (by exact⟨by rw[aP];exact hlx,by omega,by omega⟩) (ai (by rw[aVy,hgx];exact⟨⟨by rw[aP];exact hlx,by omega⟩,aWa _,rfl⟩) (s2 (ai (by omega) (s1 (ai (by exact⟨by rw[aP];exact hlx,by omega,by omega⟩) (ai (by rw[aVy,hgx];exact⟨by rw[aP];exact hlx,by omega,rfl,aWa _⟩) (ai (by kernel_rfl) (rT [1,5,10,11] (s2 (wq [] [] (⟨4 - (i+1),by omega,i+1,rfl,by omega,rfl⟩) ?_))))))))))))))))))
   repeat' apply ai
   all_goals first|exact qx|(rw[aVy,hgx];exact aQb (by omega))|exact congrArg D.i (by rw[aB (by omega)];omega)|omega|(simp;done)|exact qz
 have hi2:i=4:=by simp at c12;omega
 subst hi2
 refine xt (sq (rT [4] (s1 (ai (by exact⟨by rw[aP,aVz,lV,aV7];omega,(congrArg aA (bZ _)).symm⟩) (s1 (rt (bL rfl (congrArg D.s ?_))))))))
 rw[bZ,List.drop_of_length_le (by omega),List.append_nil];rfl
theorem zm (l:List UInt8) (hl:l.length≤140737488355328):Sp 175 1 [tD 0 (.s l)] [tD 0 (.sl (aX (aY l)))]:=by
 refine sb Tryz.func175 rfl (sq (rT [0] (s1 (sq (rT [0,3] (s2 (sq (sq (rT [0,3,15] (s4 (y3 (ai pk (cd rfl (fun c15=> ?_) fun c15=> ?_)))))))))))))
 · have hin: ¬fG l.length 1 24=true:=by
    have h1: (l.length:Int)<1∨(l.length:Int)>24:=by simpa only[Bool.or_eq_true,decide_eq_true_eq] using c15
    simp[fG];omega
   refine sq (rT [2] (s2 (rt (dQ _ [] [7] rfl (eD rfl rfl rfl ?_ (congrArg D.sl ?_) trivial) rfl rfl))))
   · rfl
   rw[nw hin];rfl
 have hl2:1≤l.length∧l.length≤24:=by
  have h1: ¬(l.length:Int)<1∧ ¬(l.length:Int)>24:=by simpa only[Bool.or_eq_false_iff,decide_eq_false_iff_not] using c15
  omega
 have hin:fG l.length 1 24=true:=by simp[fG];omega
 refine sk (sq (sq (rT [0,3,4] (s1 (bk (SW.loopW (n:=((l.length+3) / 4)) (fun m s=> ∃i:Nat,m=((l.length+3) / 4) - i∧i≤((l.length+3) / 4)∧s=[tD 0 (.s l),tO 3 7 (nP l (i)).length,tI 4 (i:Nat),oR 7 9 1 (aX (nP l (i)))]) ?_ ?_))))))
 · refine wq (σ':=[tD 0 (.s l),tO 3 7 (nP l (0)).length,tI 4 (0:Nat),oR 7 9 1 (aX (nP l (0)))]) [] [] (⟨0,rfl,aV5 _,rfl⟩) ?_
   repeat' apply ai
   all_goals first|exact qx|rfl|exact qz
 rintro n s ⟨i,rfl,hi,rfl⟩
 refine sq (sq (rT [0,3,4,21] (s3 (xp (pB _ (by omega)) (ai rfl ?_)))))
 refine s1 (cd rfl (fun c21=> ?_) fun c21=> ?_)
 · have hi2:i< ((l.length+3) / 4):=by simp at c21;omega
   refine sk (sq (bk (sq (rT [0,3,4,5] (s2 (sq (sq (rT [0,3,4,5,6] (s3 (bk (SW.loopW (n:=4) (fun m s=> ∃c:Nat,m=4 - c∧c≤4∧s=[tD 0 (.s l),tO 3 7 (nP l i).length,tI 4 (i:Nat),tO 5 24 (tQ l i (c)).length,tI 6 (4*i+c:Nat),oR 7 9 1 (aX (nP l i)),oR 24 5 1 (aA (tQ l i (c)))]) ?_ ?_)))))))))))
   · refine wq (σ':=[tD 0 (.s l),tO 3 7 (nP l i).length,tI 4 (i:Nat),tO 5 24 (tQ l i (0)).length,tI 6 (4*i+0:Nat),oR 7 9 1 (aX (nP l i)),oR 24 5 1 (aA (tQ l i (0)))]) [] [] (⟨0,rfl,aV5 _,rfl⟩) ?_
     repeat' apply ai
     all_goals first|exact qx|rfl|exact congrArg D.i (by rw[aB (by omega)];omega)|exact qz
   rintro n s ⟨c,rfl,hc,rfl⟩
   refine sq (sq (rT [0,3,4,5,6,31] (s5 (cd rfl (fun c31=> ?_) fun c31=> ?_))))
   · have hc2:c<4:=by
      have h:=c31
      rw[aB (n:=(i:Int)+1) (by omega),aB (by omega)] at h
      simp at h;omega
     refine sk (sq (bk (sq (rT [0,3,4,5,6,37] (s4 (cd rfl (fun c37=> ?_) fun c37=> ?_))))))
     · have hk3:4*i+c<l.length:=by simp at c37;omega
       refine rT [0,3,4,5,6] (s3 (ai (by omega) (s1 (ai (by refine⟨rfl,aP _,by simp,?_⟩;rw[kS];show(_+1)*1≤_;omega) (s1 (rT [0,3,4,5,6] (s3 ?_)))))))
       first
       |(have hk4:4*i+c<l.length:=hk3
         have hbs:=zM l i c
         refine wq [] [] (⟨4 - (c+1),by omega,c+1,rfl,by omega,rfl⟩) ?_
         repeat' apply ai
         all_goals first|exact qx|exact congrArg D.i (by rw[aB (by omega)];omega)|(rw[hbs,aVz];rfl)|(rw[hbs,aVy];exact gE _ [_])|(simp[aP,kS];done)|exact qz)
       |(have hbs:=zM l i c
         rw[hk3] at hbs
         refine wq [] [] (⟨4 - (c+1),by omega,c+1,rfl,by omega,rfl⟩) ?_
         repeat' apply ai
         all_goals first|exact qx|exact congrArg D.i (by rw[aB (by omega)];omega)|(rw[hbs,aVz];rfl)|(rw[hbs];exact gE _ [0])|(simp[aP,kS];done)|exact qz)
     have hk3:l.getD (4*i+c) 0=0:=getD_none (by simp at c37;omega)
     refine rT [0,3,4,5,6] (s2 (ai (by refine⟨rfl,aP _,by simp,?_⟩;rw[kS];show(_+1)*1≤_;omega) (s1 (rT [0,3,4,5,6] (s3 ?_)))))
     first
     |(have hk4:4*i+c<l.length:=hk3
       have hbs:=zM l i c
       refine wq [] [] (⟨4 - (c+1),by omega,c+1,rfl,by omega,rfl⟩) ?_
       repeat' apply ai
       all_goals first|exact qx|exact congrArg D.i (by rw[aB (by omega)];omega)|(rw[hbs,aVz];rfl)|(rw[hbs,aVy];exact gE _ [_])|(simp[aP,kS];done)|exact qz)
     |(have hbs:=zM l i c
       rw[hk3] at hbs
       refine wq [] [] (⟨4 - (c+1),by omega,c+1,rfl,by omega,rfl⟩) ?_
       repeat' apply ai
       all_goals first|exact qx|exact congrArg D.i (by rw[aB (by omega)];omega)|(rw[hbs,aVz];rfl)|(rw[hbs];exact gE _ [0])|(simp[aP,kS];done)|exact qz)
   have hc2:c=4:=by
    have h:=c31
    rw[aB (n:=(i:Int)+1) (by omega),aB (by omega)] at h
    simp at h;omega
   subst hc2
   refine xt (rT [0,3,4] (s2 (ai (by exact⟨aP _,(congrArg aA (bZ _)).symm⟩) (s1 (ai (by refine⟨rfl,aM _,by simp,?_⟩;rw[jQ];show(_+1)*16≤_;omega) (s1 (rT [0,3,4] (s3 ?_))))))))
   have hcs:=gw l i
   refine wq [] [] (⟨((l.length+3) / 4) - (i+1),by omega,i+1,rfl,by omega,rfl⟩) ?_
   repeat' apply ai
   all_goals first|exact qx|(rw[hcs,bZ];exact iC _ _)|(rw[hcs,aVz];rfl)|(simp[aM,jQ];done)|exact congrArg D.i (by rw[aB (by omega)];omega)|omega|(simp;done)|exact qz
 have hi3:i=((l.length+3) / 4):=by simp at c21;omega
 refine xt (sq (rT [2] (s2 (rt (dQ _ [] [7] rfl (eD rfl rfl rfl ?_ (congrArg D.sl ?_) trivial) rfl rfl)))))
 · exact aM _
 rw[rO hin,hi3]
theorem zn (l:List UInt8) (hl:l.length≤140737488355328):Sp 179 1 [tD 0 (.s l)] [tD 0 (.sl (aX (aY l)))]:=by
 refine sb Tryz.func179 rfl (sq (rT [0] (s1 (sq (sq (rT [0,9] (s2 (xp (dW _ _ _) (ai rfl ?_)))))))))
 refine s1 (cd rfl (fun c9=> ?_) fun c9=> ?_)
 · have hin: ¬fG l.length 1 24=true:=by simpa using c9
   refine sq (rT [2] (s1 (rt (dQ _ [] [] rfl (bq rfl (congrArg D.sl ?_) trivial) rfl rfl))))
   rw[nw hin];rfl
 have hin:fG l.length 1 24=true:=by simpa using c9
 have hl2: (1:Int)≤l.length∧(l.length:Int)≤24:=by simpa[fG] using hin
 refine sk (sq (rT [0,3] (s1 (sq (sq (rT [0,3,4] (s1 (bk (SW.nilOwn 3 100 9 1 rfl rfl (SW.loopW (n:=((l.length+3) / 4)) (fun m s=> ∃i:Nat,m=((l.length+3) / 4) - i∧i≤((l.length+3) / 4)∧s=[tD 0 (.s l),tO 3 100 (nP l (i)).length,tI 4 (4*i:Nat),oR 100 9 1 (aX (nP l (i)))]) ?_ ?_))))))))))
 · refine wq (σ':=[tD 0 (.s l),tO 3 100 (nP l (0)).length,tI 4 (4*0:Nat),oR 100 9 1 (aX (nP l (0)))]) [] [] (⟨0,rfl,aV5 _,rfl⟩) ?_
   repeat' apply ai
   all_goals first|exact qx|rfl|exact qz
 rintro n s ⟨i,rfl,hi,rfl⟩
 refine sq (sq (rT [0,3,4,13] (s4 (cd rfl (fun c13=> ?_) fun c13=> ?_))))
 · have hi2:i< ((l.length+3) / 4)∧4*i<l.length:=by simp at c13;omega
   refine sk (sq (bk (sq (rT [0,3,4,5] (ai (by exact⟨rfl,by decide,by decide⟩) (s1 (sq (rT [0,3,4,5] (s3 (ai (by simp[mu,eK,fM];omega) (ai (by refine⟨trivial,rfl,fun r hr=> ?_⟩;obtain⟨x,_,rfl⟩:=aWc.1 hr;rfl) (rT [0,3,4] (s2 (ai (by rw[aBd];exact⟨by rw[aP,kS];rfl,(congrArg aA (bZ _)).symm⟩) (s1 (ai (by refine⟨rfl,aM _,by simp,?_⟩;rw[jQ];show(_+1)*16≤_;omega) (s1 (rT [0,3,4] (s3 ?_)))))))))))))))))))
   have hcs:=gw l i
   refine wq [] [] (⟨((l.length+3) / 4) - (i+1),by omega,i+1,rfl,by omega,rfl⟩) ?_
   repeat' apply ai
   all_goals first|exact qx|(rw[hcs,aBd,bZ];exact iC _ _)|(rw[hcs,aVz];rfl)|(simp[aM,jQ];done)|exact congrArg D.i (by rw[aB (by omega)];omega)|omega|(simp;done)|exact qz
 have hi3:i=((l.length+3) / 4):=by simp at c13;omega
 subst hi3
 refine xt (sq (rT [2] (s1 (bH (robj:=[(100,.row 9 1 (aX (nP l ((l.length+3) / 4))))]) (rl:=[(0,28)]) (bor:=[100]) (zT (nP l ((l.length+3) / 4)) (by rw[jQ];omega)) rfl rfl rfl rfl ⟨eD rfl rfl rfl (aM _) rfl trivial,rfl⟩ rfl (.inr (sj _)) (aH ⟨rfl,trivial⟩) (fun j hj=>by(obtain rfl:j=0:=by simpa[kI,cE,iM] using hj);rfl) (s1 (rt (dQ _ [] [28] rfl (eD rfl rfl rfl ?_ (congrArg D.sl ?_) trivial) rfl rfl)))))))
 · exact aM _
 rw[rO hin]
theorem xk (l:List UInt8) (n:Int) (hl:l.length≤140737488355328):Sp 125 2 [tD 0 (.s l),tI 1 n] [tD 0 (.s (kD l n))]:=by
 refine sb Tryz.func125 rfl (sq (rT [0,1] (s1 (sq (rT [1,5] (s1 (xp (zm l hl) (ai rfl ?_))))))))
 refine s1 (sq (rT [5,6] (s3 (xp (lv ((aY l).length:Nat) n) (ai (by rw[aM];rfl) ?_)))))
 refine s1 (sq (sq (rT [5,6,22] (s4 (y3 (ai pk (cd rfl (fun c22=> ?_) fun c22=> ?_)))))))
 · have hn:aY l=[]∨(bK (aY l).length n)=[]:=by simpa[aX,bX] using c22
   refine sq (rT [4] (s1 (rt (bL rfl (congrArg D.s ?_)))))
   exact(ku hn).symm
 have hn: ¬(aY l=[]∨(bK (aY l).length n)=[]):=by simpa[aX,bX] using c22
 refine sk (sq (rT [5,6,7] (xp zl (ai rfl ?_))))
 refine s1 (sq (sq (rT [5,6,7,8] (s1 (bk (SW.loopW (n:=(bK (aY l).length n).length) (fun m s=> ∃i:Nat,m=(bK (aY l).length n).length - i∧i≤(bK (aY l).length n).length∧s=[tD 5 (.sl (aX (aY l))),tD 6 (.sl (bX (bK (aY l).length n))),tD 7 (.s (sQ (aY l) [0,0,0,0] ((bK (aY l).length n).take i))),tI 8 (i:Nat)]) ?_ ?_))))))
 · refine wq (σ':=[tD 5 (.sl (aX (aY l))),tD 6 (.sl (bX (bK (aY l).length n))),tD 7 (.s (sQ (aY l) [0,0,0,0] ((bK (aY l).length n).take 0))),tI 8 (0:Nat)]) [] [] (⟨0,rfl,aV5 _,rfl⟩) ?_
   repeat' apply ai
   all_goals first|exact qx|rfl|exact qz
 rintro n s ⟨i,rfl,hi,rfl⟩
 refine sq (sq (rT [5,6,7,8,27] (s4 (cd rfl (fun c27=> ?_) fun c27=> ?_))))
 · have hi2:i< (bK (aY l).length n).length:=by simp[bS] at c27;omega
   have hml:=uE (aY l).length n
   have hj:=aNw (t:=l) (n:=n) hi2
   have hio:=eW (l:=(bK (aY l).length n)) (i:=i) hi2
   have hv:=aM6 (l:=aY l) hj.1 hj.2.1
   refine sk (sq (bk (rT [5,6,7,8] (s4 (ai (by rw[aVy,hio];exact⟨⟨by omega,by rw[bS];omega⟩,rfl⟩) (ai (by rw[aVy,hio];exact⟨aV0 rfl,rfl⟩) (ai (by rw[aVy,hio];exact ixS hj.1 hj.2.1) (ai (by rw[aVy,hio];exact ldS hj.1 hj.2.1) (xp (lw (sQ (aY l) [0,0,0,0] ((bK (aY l).length n).take i)) ((aY l).getD ((bK (aY l).length n).getD i 0).toNat []) (uF rfl) hj.2.2) (ai (by rw[aVy,hio];exact(congrArg (fun z=>eL 0 [Dv (.s (sQ (aY l) [0,0,0,0] ((bK (aY l).length n).take i))),Dv (.s z)]) hv).symm) ?_))))))))))
   refine s1 (rT [5,6,7,8] (s3 ?_))
   have hgt:=gx (bl:=aY l) hi2 (x:=[0,0,0,0])
   refine wq [] [] (⟨(bK (aY l).length n).length - (i+1),by omega,i+1,rfl,by omega,rfl⟩) ?_
   repeat' apply ai
   all_goals first|exact qx|(rw[hgt];done)|exact congrArg D.i (by rw[aB (by omega)];omega)|omega|(simp;done)|exact qz
 have hi3:i=(bK (aY l).length n).length:=by simp[bS] at c27;omega
 refine xt (sq (rT [4] (s2 (rt (bL rfl (congrArg D.s ?_))))))
 rw[uG hn,hi3,aWd]
theorem xl (l:List UInt8) (n:Int) (hl:l.length≤140737488355328):Sp 127 2 [tD 0 (.s l),tI 1 n] [tD 0 (.s (kD l n))]:=by
 refine sb Tryz.func127 rfl (sq (rT [0,1] (s1 (sq (rT [1,5] (s1 (xp (zn l hl) (ai rfl ?_))))))))
 refine s1 (sq (rT [1,5,6] (s1 (sq (sq (rT [5,6,14,15,16] (s3 (xp (lu ((aY l).length:Nat) n) (ai (by rw[aM];rfl) ?_)))))))))
 refine s2 (bk (SW.loopW (n:=(bK (aY l).length n).length) (fun m s=> ∃i:Nat,m=(bK (aY l).length n).length - i∧i≤(bK (aY l).length n).length∧s=[tD 5 (.sl (aX (aY l))),tD 6 (.s (sR (aY l) (bK (aY l).length n) i)),tD 14 (.sl (bX (bK (aY l).length n))),tI 15 ((bK (aY l).length n).length:Nat),tI 16 (i:Nat)]) ?_ ?_))
 · refine wq (σ':=[tD 5 (.sl (aX (aY l))),tD 6 (.s (sR (aY l) (bK (aY l).length n) 0)),tD 14 (.sl (bX (bK (aY l).length n))),tI 15 ((bK (aY l).length n).length:Nat),tI 16 (0:Nat)]) [] [] (⟨0,rfl,aV5 _,rfl⟩) ?_
   repeat' apply ai
   all_goals first|exact qx|rfl|(rw[bS];done)|exact qz
 rintro n s ⟨i,rfl,hi,rfl⟩
 refine sq (rT [5,6,14,15,16,17] (s1 (sq (cd rfl (fun c17=> ?_) fun c17=> ?_))))
 · have hi2:i< (bK (aY l).length n).length:=by simp at c17;omega
   have hml:=uE (aY l).length n
   have hj:=aNw (t:=l) (n:=n) hi2
   have hio:=eW (l:=(bK (aY l).length n)) (i:=i) hi2
   have hv:=aM6 (l:=aY l) hj.1 hj.2.1
   refine sk (sq (bk (sq (rT [5,6,7,8,14,15,16] (s1 (ai (by rw[aVy,hio];exact⟨⟨by omega,by rw[bS];omega⟩,rfl⟩) (ai (by rw[aVy,hio];exact⟨aV0 rfl,rfl⟩) (s2 (sq (wa [tD 5 (.sl (aX (aY l))),tD 6 (.s (sR (aY l) (bK (aY l).length n) i)),tI 7 (i:Nat),tI 8 ((bK (aY l).length n).getD i 0),tD 14 (.sl (bX (bK (aY l).length n))),tI 15 ((bK (aY l).length n).length:Nat),tI 16 (i:Nat)] [] [] ?_ ?_))))))))))
   · repeat' apply ai
     all_goals first|exact qx|(rw[aVy,hio];rfl)|exact qz
   refine rT [5,6,8,14,15,16,22] (s2 (cd rfl (fun c22=> ?_) fun c22=> ?_))
   · have hi0:i=0:=by simp at c22;omega
     have hm:sR (aY l) (bK (aY l).length n) (i+1)=((aY l).getD ((bK (aY l).length n).getD i 0).toNat []):=by subst hi0;exact aE8 hi2 hj.2.2
     refine rT [5,6,14,15,16] (s2 (ai (by exact ixS hj.1 hj.2.1) (ai (by exact ldS hj.1 hj.2.1) (s1 (rT [5,6,14,15,16] (s2 (wq [] [] (⟨(bK (aY l).length n).length - (i+1),by omega,i+1,rfl,by omega,rfl⟩) ?_)))))))
     repeat' apply ai
     all_goals first|exact qx|(rw[hm,hv];done)|(rw[hm];exact congrArg D.s hv)|(rw[hm];done)|exact congrArg D.i (by rw[aB (by omega)];omega)|omega|(simp;done)|exact qz
   have hi0:i≠0:=by simp at c22;omega
   have hm:=aHn (bl:=aY l) hi0 hi2
   refine rT [5,6,14,15,16] (s3 (ai (by exact ixS hj.1 hj.2.1) (ai (by exact ldS hj.1 hj.2.1) (xp (lx (sR (aY l) (bK (aY l).length n) i) ((aY l).getD ((bK (aY l).length n).getD i 0).toNat []) (aCv hi0) hj.2.2) (ai ((congrArg (fun z=>eL 0 [Dv (.s (sR (aY l) (bK (aY l).length n) i)),Dv (.s z)]) hv).symm) ?_)))))
   refine s1 (rT [5,6,14,15,16] (s2 (wq [] [] (⟨(bK (aY l).length n).length - (i+1),by omega,i+1,rfl,by omega,rfl⟩) ?_)))
   repeat' apply ai
   all_goals first|exact qx|(rw[hm,hv];done)|(rw[hm];exact congrArg D.s hv)|(rw[hm];done)|exact congrArg D.i (by rw[aB (by omega)];omega)|omega|(simp;done)|exact qz
 have hi3:i=(bK (aY l).length n).length:=by simp at c17;omega
 refine xt (sq (rT [4] (s2 (rt (bL rfl (congrArg D.s ?_))))))
 rw[vt,hi3]
theorem pE (a b:Int):Sp 126 2 [tI 0 a,tI 1 b] [tI 0 (fR a b)]:=by
 refine sb Tryz.func126 rfl (sq (rT [0,1] (s1 (sq (bk (sq (rT [0,1,5] (s1 (xp (eP _) (ai rfl ?_))))))))))
 refine s2 (y1 (xc (fun h=>(eP _)) (ai rfl (ai rk ?_))))
 refine y1 (ai pk (s1 (y3 (ai pk (s1 (cd rfl (fun c5=> ?_) fun c5=> ?_))))))
 · refine sq (rT [4] (s1 (rt (bL rfl ?_))))
   simp only[fR,wrap64,eA,fG,gb] at*
   grind
 refine sq (rT [0,19] (s4 (cd rfl (fun c19=> ?_) fun c19=> ?_)))
 · refine sq (rT [4] (s3 (rt (bL rfl ?_))))
   simp only[fR,wrap64,eA,fG,gb] at*
   grind
 refine sk (sq (rT [4] (s3 (rt (bL rfl ?_)))))
 simp only[fR,wrap64,eA,fG,gb] at*
 grind
theorem tJ (a b:Int):Sp 124 2 [tI 0 a,tI 1 b] [tI 0 (fR a b)]:=by
 refine sb Tryz.func124 rfl (sq (rT [0,1] (s1 (sq (bk (sq (rT [0,1,5] (s1 (xp (dP _) (ai rfl ?_))))))))))
 refine s2 (y1 (xc (fun h=>(dP _)) (ai rfl (ai rk ?_))))
 refine y1 (ai pk (s1 (y3 (ai pk (s1 (cd rfl (fun c5=> ?_) fun c5=> ?_))))))
 · refine sq (rT [4] (s1 (rt (bL rfl ?_))))
   simp only[fR,wrap64,eA,fG,gb] at*
   grind
 refine sq (rT [0,19] (s4 (cd rfl (fun c19=> ?_) fun c19=> ?_)))
 · refine sq (rT [4] (s3 (rt (bL rfl ?_))))
   simp only[fR,wrap64,eA,fG,gb] at*
   grind
 refine sk (sq (rT [4] (s3 (rt (bL rfl ?_)))))
 simp only[fR,wrap64,eA,fG,gb] at*
 grind
theorem xV (k:aJ) (hl:k.log.length≤140737488355328):Sp 27 1 [tV 0 k.V] [tV 0 ((eE k).V)]:=by
 refine sb Tryz.func27 rfl (sq (rT [1,2] (s2 (sq (sq (rT [1,2,7] (s1 (xp (au k hl) (ai rfl ?_)))))))))
 refine s1 (cd rfl (fun c7=> ?_) fun c7=> ?_)
 · have hr:eE k= .zero:=aCx (by simpa using c7)
   refine sq (rT [2] (s2 (rt (dQ _ [] [] rfl ?_ rfl rfl))))
   rw[hr]
   refine qs ?_
   repeat' first|exact qx|apply ai
   all_goals rfl
 have hok:aZ k=true:=by simpa using c7
 have hr:eE k=_:=kY hok
 have hlg:=(fP hok).2.1
 refine sk (sq (rT [2,3] (s5 (xp (vR k.id k.log (by omega)) (ai rfl ?_)))))
 refine s6 (sq (rT [2] (s2 (rt (bU rfl rfl ?_)))))
 rw[hr]
 rfl
theorem xW (k:aJ) (f n mix:Int) (hl:k.log.length≤140737488355328):Sp 57 4 [tV 0 k.V,tI 1 f,tI 2 n,tI 3 mix] [tV 0 (.tup [.agg [.d (.i ((aU k f n mix).1).kind),.d (.i ((aU k f n mix).1).src),.d (.i ((aU k f n mix).1).dst),.d (.i ((aU k f n mix).1).frm),.d (.i ((aU k f n mix).1).num),.d (.i ((aU k f n mix).1).to),.d (.i ((aU k f n mix).1).til),.d (.i ((aU k f n mix).1).size),.d (.i ((aU k f n mix).1).mix),.d (.s ((aU k f n mix).1).data)],.c (.d (.b (aU k f n mix).2))])]:=by
 refine sb Tryz.func57 rfl (sq (rT [1,2,3,4,8] (s3 (sq (sq (rT [1,2,3,4,8,25] (s1 (xp (au k hl) (ai rfl ?_)))))))))
 refine s2 (y3 (ai pk (s1 (y1 (xc (fun h=>(dW _ _ _)) (ai rfl (ai rk ?_)))))))
 refine y1 (ai pk (cd rfl (fun c25=> ?_) fun c25=> ?_))
 · have hn:aU k f n mix=(.zero,false):=uH (by
    intro h9
    simp only[aV1] at h9
    rw[h9.1.1.1,h9.1.1.2,h9.1.2] at c25
    cases c25)
   refine sq (rT [8,9] (s3 (rt ?_)))
   have hr:=hn
   refine bU rfl rfl ?_
   rw[hr]
   rfl
 have hok:aZ k=true∧k.up=true∧fG mix 0 999=true:=by
  revert c25
  cases aZ k<;>cases k.up<;>cases fG mix 0 999<;>simp
 obtain⟨hok,hup,hmx⟩:=hok
 have hlg:=(fP hok).2.1
 have hK:=kY hok
 have h6:=fC (gU hok)
 refine sk (sq (rT [1,2,3,4,8,10] (s1 (xp (xV k hl) (ai rfl ?_)))))
 refine s2 (sq (rT [3,4,8,10,11] (s3 (xp (kZ (eE k).held f n (by rw[hK];have:=h6.1;omega)) (ai rfl ?_)))))
 refine s1 (sq (sq (rT [3,4,8,10,11,35] (s2 (cd rfl (fun c35=> ?_) fun c35=> ?_)))))
 · have hn:aU k f n mix=(.zero,false):=uH (by
    intro h9
    simp only[aV1,decide_eq_true_eq] at h9
    have h8:=of_decide_eq_true c35
    rw[hK] at h8
    exact absurd h9.2 (by omega))
   refine sq (rT [8,9] (s3 (rt ?_)))
   have hr:=hn
   refine bU rfl rfl ?_
   rw[hr]
   rfl
 have hp:0≤aW (bB k).1.held f n:=by
  have h8:=of_decide_eq_false c35
  rw[hK] at h8
  omega
 have hy:=wY hok hup hmx hp
 obtain⟨j,hj,hjl,hjt⟩:=pR hok hp
 have hg:=aT (l:=(bB k).1.held) hjl
 rw[hj,aVy] at hy
 refine sk (sq (rT [3,4,8,12] (s2 (ai (by rw[hK,hj,aVy,hg];exact⟨⟨by omega,by rw[aD];omega⟩,rfl⟩) (ai (by rw[hK,hj,aVy,hg];exact⟨aV0 rfl,rfl⟩) (s2 (sq (wa [tP 4 4,tP 8 8,tP 12 12,tI 3 mix,oB 4 31 [.d (.i (k).id),.d (.b (k).up),.d (.s (k).log),.d (.i (k).forced),.d (.sl (bC (k).halves))],oB 8 63 [.d (.i 0),.d (.i 0),.d (.i 0),.d (.i 0),.d (.i 0),.d (.i 0),.d (.i 0),.d (.i 0),.d (.i 0),.d (.s [])],oB 12 52 [.d (.i (((bB k).1.held.getD j .zero)).frm),.d (.i (((bB k).1.held.getD j .zero)).num),.d (.i (((bB k).1.held.getD j .zero)).to),.d (.i (((bB k).1.held.getD j .zero)).til),.d (.s (((bB k).1.held.getD j .zero)).text)]] [] [] ?_ ?_))))))))
 · repeat' apply ai
   all_goals first|exact qx|(rw[hK,hj,aVy,hg];rfl)|exact qz
 refine rD [8,9] (s6 (xp (pE _ _) (ai rfl ?_)))
 refine s9 (s6 (xp (xl ((bB k).1.held.getD j .zero).text mix hjt) (ai rfl ?_)))
 refine s3 (ai (by kernel_rfl) (rt ?_))
 have hr:=hy
 refine bU rfl rfl ?_
 rw[hr]
 rfl
theorem xX (k:aJ) (f n mix:Int) (hl:k.log.length≤140737488355328):Sp 56 4 [tV 0 k.V,tI 1 f,tI 2 n,tI 3 mix] [tV 0 (.tup [.agg [.d (.i ((aU k f n mix).1).kind),.d (.i ((aU k f n mix).1).src),.d (.i ((aU k f n mix).1).dst),.d (.i ((aU k f n mix).1).frm),.d (.i ((aU k f n mix).1).num),.d (.i ((aU k f n mix).1).to),.d (.i ((aU k f n mix).1).til),.d (.i ((aU k f n mix).1).size),.d (.i ((aU k f n mix).1).mix),.d (.s ((aU k f n mix).1).data)],.c (.d (.b (aU k f n mix).2))])]:=by
 refine sb Tryz.func56 rfl (sq (rT [1,2,3,4,8] (s3 (sq (sq (rT [1,2,3,4,8,21] (s1 (xp (gX k hl) (ai rfl ?_)))))))))
 refine s2 (y3 (ai pk (cd rfl (fun c21=> ?_) fun c21=> ?_)))
 · have hn:aU k f n mix=(.zero,false):=uH (by
    intro h9
    simp only[aV1] at h9
    rw[h9.1.1.1,h9.1.1.2] at c21
    cases c21)
   refine sq (rT [8,9] (s3 (rt ?_)))
   have hr:=hn
   refine bU rfl rfl ?_
   rw[hr]
   rfl
 have hok:aZ k=true∧k.up=true:=by
  revert c21
  cases aZ k<;>cases k.up<;>simp
 obtain⟨hok,hup⟩:=hok
 have hlg:=(fP hok).2.1
 have h6:=fC (gU hok)
 refine sk (sq (rT [1,2,3,4,8,10] (s1 (xp (gV k (by omega)) (ai rfl ?_)))))
 refine s6 (sq (rT [3,4,8,10,12] (s4 (xp (fU (bB k).1.held f n (by have:=h6.1;omega)) (ai rfl ?_)))))
 refine s1 (sq (sq (rT [3,4,8,10,12,39] (s3 (y1 (xc (fun h=>(dI _ _ _)) (ai rfl (ai rk ?_))))))))
 refine y1 (ai pk (cd rfl (fun c39=> ?_) fun c39=> ?_))
 · have hn:aU k f n mix=(.zero,false):=uH (by
    intro h9
    simp only[aV1,decide_eq_true_eq] at h9
    rw[h9.1.2,decide_eq_false (show ¬aW (bB k).1.held f n<0 by omega)] at c39
    cases c39)
   refine sq (rT [8,9] (s3 (rt ?_)))
   have hr:=hn
   refine bU rfl rfl ?_
   rw[hr]
   rfl
 have hpm:0≤aW (bB k).1.held f n∧fG mix 0 999=true:=by
  by_cases h8:aW (bB k).1.held f n<0
  · rw[decide_eq_true h8] at c39;cases c39
  · refine⟨by omega,?_⟩
    rw[decide_eq_false h8] at c39
    simpa using c39
 obtain⟨hp,hmx⟩:=hpm
 have hy:=wY hok hup hmx hp
 obtain⟨j,hj,hjl,hjt⟩:=pR hok hp
 have hg:=aT (l:=(bB k).1.held) hjl
 rw[hj,aVy] at hy
 refine sk (sq (rT [3,4,8,13] (s3 (ai (by rw[hj,aVy,hg];exact⟨⟨by omega,by rw[aD];omega⟩,rfl⟩) (ai (by rw[hj,aVy,hg];exact⟨aV0 rfl,rfl⟩) (s2 (sq (wa [tP 4 4,tP 8 8,tP 13 13,tI 3 mix,oB 4 31 [.d (.i (k).id),.d (.b (k).up),.d (.s (k).log),.d (.i (k).forced),.d (.sl (bC (k).halves))],oB 8 63 [.d (.i 0),.d (.i 0),.d (.i 0),.d (.i 0),.d (.i 0),.d (.i 0),.d (.i 0),.d (.i 0),.d (.i 0),.d (.s [])],oB 13 52 [.d (.i (((bB k).1.held.getD j .zero)).frm),.d (.i (((bB k).1.held.getD j .zero)).num),.d (.i (((bB k).1.held.getD j .zero)).to),.d (.i (((bB k).1.held.getD j .zero)).til),.d (.s (((bB k).1.held.getD j .zero)).text)]] [] [] ?_ ?_))))))))
 · repeat' apply ai
   all_goals first|exact qx|(rw[hj,aVy,hg];rfl)|exact qz
 refine rD [8,9] (s6 (xp (tJ _ _) (ai rfl ?_)))
 refine s9 (s6 (xp (xk ((bB k).1.held.getD j .zero).text mix hjt) (ai rfl ?_)))
 refine s3 (ai (by kernel_rfl) (rt ?_))
 have hr:=hy
 refine bU rfl rfl ?_
 rw[hr]
 rfl
theorem aw (rec:List UInt8):Sp 143 1 [tD 0 (.s rec)] [tB 0 (wE rec)]:=by
 refine sb Tryz.func143 rfl (sq (rT [0] (s1 (sq (rT [2] (s2 (xp (dI _ _ _) (ai rfl ?_))))))))
 refine s1 (rt (bL rfl ?_))
 rfl
theorem oU (rec:List UInt8) (hrec:rec.length≤900000):Sp 144 1 [tD 0 (.s rec)] [tD 0 (.s (kC rec))]:=by
 have hdl:=cL (k:=5) (n:=rec.length) (by simp;omega)
 refine sb Tryz.func144 rfl (sq (rT [0] (s1 (sq (rT [2] (s2 (xp (uM rec.length (by omega)) (ai rfl ?_))))))))
 refine ai (by show _≤9223372036854775807;(try simp only[aVz,aV3,aV2]);omega) (s1 (ai (by show _≤9223372036854775807;(try simp only[aVz,aV3,aV2]);omega) (ai (by show _≤9223372036854775807;(try simp only[aVz,aV3,aV2]);omega) (s1 (rt (bL rfl ?_))))))
 rfl
theorem tK (l:List UInt8) (f:Int) (rec:List UInt8) (hl:l.length≤140737488355328) (hrec:rec.length≤900000):Sp 150 2 [tV 0 (.e (.agg [.d (.s l),.d (.i f)])),tD 1 (.s rec)] [tV 0 (.tup [.agg [.d (.s (bT l f rec).1.1),.d (.i (bT l f rec).1.2)],.c (.d (.b (bT l f rec).2))])]:=by
 refine sb Tryz.func150 rfl (sq (rT [1,2,4] (s3 (sq (sq (rT [1,2,4,8] (s1 (xp (nU l f hl) (ai rfl ?_)))))))))
 refine s1 (cd rfl (fun c8=> ?_) fun c8=> ?_)
 · have hr:bT l f rec=(([],0),false):=aCy (by simpa using c8)
   refine sq (rT [4,5] (s3 (rt (bU rfl rfl ?_))))
   rw[hr]
   rfl
 have hok:eJ l f=true:=by simpa using c8
 have hl2:=(mS hok).1
 have hst:=sP hrec
 refine sk (sq (sq (rD [1,2,4,22] (s1 (xp (aw rec) (ai rfl ?_))))))
 refine s2 (y4 (xc (fun h=>(oU rec hrec)) (ai rfl (ai rk ?_))))
 refine y3 (ai pk (ai (by kernel_rfl) (cd rfl (fun c22=> ?_) fun c22=> ?_)))
 · have hr:bT l f rec=((l,f),false):=aE9 hok (fun h9=>by have:=(aFa c22 hl2 (by omega)).1 h9;cases this)
   refine sq (rT [4,5] (s3 (rt (bU rfl rfl ?_))))
   rw[hr]
   rfl
 have hr:bT l f rec=((l++kC rec,f),true):=aCz hok ((aFa c22 hl2 (by omega)).2 rfl)
 refine sk (sq (rD [4,5] (s3 (xp (oU rec hrec) (ai rfl ?_)))))
 refine ai (by show _≤9223372036854775807;(try simp only[aVz,aV3,aV2]);omega) (s5 (ai (by kernel_rfl) (rt (bU rfl rfl ?_))))
 rw[hr]
 rfl
theorem xY (l:List UInt8) (f:Int) (recs:List (List UInt8)) (hl:l.length≤140737488355328) (hn:recs.length≤900000) (hrec: ∀r∈recs,r.length≤900000):Sp 84 2 [tV 0 (.e (.agg [.d (.s l),.d (.i f)])),tD 1 (.sl (aX recs))] [tV 0 (.tup [.agg [.d (.s (eR l f recs).1.1),.d (.i (eR l f recs).1.2)],.c (.d (.b (eR l f recs).2))])]:=by
 refine sb Tryz.func84 rfl (sq (rT [1,2,4] (s3 (sq (sq (rT [1,2,4,10] (s1 (xp (nU l f hl) (ai rfl ?_)))))))))
 refine s1 (cd rfl (fun c10=> ?_) fun c10=> ?_)
 · have hr:eR l f recs=(([],0),false):=yp (by simpa using c10)
   refine sq (rT [4,5] (s3 (rt (bU rfl rfl ?_))))
   rw[hr]
   rfl
 have hok:eJ l f=true:=by simpa using c10
 refine sk (sq (rT [1,2,4,6] (s1 (sq (sq (rT [1,2,4,6,7] (s1 (bk (SW.loopW (n:=recs.length) (fun m q=> ∃i:Nat,m=recs.length - i∧i≤recs.length∧(∀k,k<i→wE (recs.getD k [])=true)∧q=[tP 2 2,tP 4 4,tD 1 (.sl (aX recs)),tD 6 (.s (iI (recs.take (i)))),tI 7 (i:Nat),oB 2 28 [.d (.s l),.d (.i f)],oB 4 28 [.d (.s []),.d (.i 0)]]) ?_ ?_)))))))))
 · refine wq (σ':=[tP 2 2,tP 4 4,tD 1 (.sl (aX recs)),tD 6 (.s (iI (recs.take (0)))),tI 7 (0:Nat),oB 2 28 [.d (.s l),.d (.i f)],oB 4 28 [.d (.s []),.d (.i 0)]]) [] [] (⟨0,rfl,aV5 _,fun k h=>absurd h (by omega),rfl⟩) ?_
   repeat' apply ai
   all_goals first|exact qx|rfl|exact qz
 rintro n s ⟨i,rfl,hi,hk,rfl⟩
 refine sq (sq (rT [1,2,4,6,7,15] (s4 (cd rfl (fun c15=> ?_) fun c15=> ?_))))
 · have hi2:i<recs.length:=by simpa[aM] using c15
   have hg:=eN (l:=recs) hi2
   have hmem: (recs.getD i [])∈recs:=dH hi2
   have hrq:=hrec _ hmem
   have hpt:=aC0 hi2
   have hple:=aHp recs i
   have hps:=fd hrec
   have hsl:=sP hrq
   refine sk (sq (bk (sq (sq (rT [1,2,4,6,7,23] (s2 (ai (by rw[aVy,hg];exact⟨⟨by omega,by rw[aM];omega⟩,rfl⟩) (ai (by rw[aVy,hg];exact⟨aV0 rfl,rfl⟩) (xp (aw (recs.getD i [])) (ai (by rw[aVy,hg];rfl) ?_))))))))))
   refine s1 (cd rfl (fun c23=> ?_) fun c23=> ?_)
   · have hs:wE (recs.getD i [])=false:=by
      simpa using c23
     have hr:eR l f recs=((l,f),false):=kv hok (fun h9=>aNx hi2 hs h9.1)
     refine sq (rT [4,5] (s3 (rt (bU rfl rfl ?_))))
     rw[hr]
     rfl
   refine sk (rT [1,2,4,6,7] (s3 (ai (by rw[aVy,hg];exact⟨⟨by omega,by rw[aM];omega⟩,rfl⟩) (ai (by rw[aVy,hg];exact⟨aV0 rfl,rfl⟩) (xp (oU (recs.getD i []) hrq) (ai (by rw[aVy,hg];rfl) ?_))))))
   refine ai (by show _≤9223372036854775807;(try simp only[aVz,aV3,aV2]);omega) (s1 (rT [1,2,4,6,7] (s3 ?_)))
   have hs:wE (recs.getD i [])=true:=by
    simpa using c23
   refine wq [] [] (⟨recs.length - (i+1),by omega,i+1,rfl,by omega,fun k h=>by by_cases e:k=i;exact e▸hs;exact hk k (by omega),rfl⟩) ?_
   repeat' apply ai
   all_goals first|exact qx|exact congrArg D.i (by rw[aB (by omega)];omega)|(rw[hpt];done)|(rw[hpt,aVy,hg];rfl)|omega|exact qz
 have hi3:i=recs.length:=by simp[aM] at c15;omega
 subst hi3
 have hall:=aK6 hk
 rw[aWd]
 refine xt (sq (sq (rT [2,4,6,34] (s3 (cd rfl (fun c34=> ?_) fun c34=> ?_)))))
 · have hr:eR l f recs=((l,f),false):=kv hok (fun h9=>by have h8:=of_decide_eq_true c34;omega)
   refine sq (rT [4,5] (s3 (rt (bU rfl rfl ?_))))
   rw[hr]
   rfl
 have hr:=yq hok ⟨hall,by have h8:=of_decide_eq_false c34;omega⟩
 refine sk (sq (rT [4,5] (s6 (rt (bU rfl rfl ?_)))))
 rw[hr]
 rfl
theorem ax (a b c:Int) (h: (0≤a∧a≤1000000)∧(0≤b∧b≤1000000)∧(0≤c∧c≤1000000)):Sp 95 3 [tI 0 a,tI 1 b,tI 2 c] [tD 0 (.s (kE a.toNat++[32]++kE b.toNat++[32]++kE c.toNat))]:=by
 have q1:=cL (k:=6) (n:=a.toNat) (by simp;omega)
 have q2:=cL (k:=6) (n:=b.toNat) (by simp;omega)
 have q3:=cL (k:=6) (n:=c.toNat) (by simp;omega)
 refine sb Tryz.func95 rfl (sq (rT [0,1,2] (s1 (sq (rT [6] (s1 (xp (jZ a h.1) (ai rfl ?_))))))))
 refine ai (by show _≤9223372036854775807;(try simp only[aVz,aV3,aV2]);omega) (s1 (xp (jZ b h.2.1) (ai rfl ?_)))
 refine ai (by show _≤9223372036854775807;(try simp only[aVz,aV3,aV2]);omega) (ai (by show _≤9223372036854775807;(try simp only[aVz,aV3,aV2]);omega) (s1 (xp (jZ c h.2.2) (ai rfl ?_))))
 refine ai (by show _≤9223372036854775807;(try simp only[aVz,aV3,aV2]);omega) (s1 (rt (bL rfl ?_)))
 rfl
theorem ij (k:aJ) (hb:k.halves.length≤100000∧ ∀x∈k.halves,x.got.length≤100000):Sp 72 1 [tV 0 k.V] [tV 0 (.e (.agg [.d (.i k.id),.d (.b k.up),.d (.s k.log),.d (.i k.forced),.own 0 k.halves.length])),oR 0 138 6 (bC k.halves)]:=by
 refine sb Tryz.func72 rfl (sq (rT [1,2] (s2 (sq (rT [1,2,3] (s2 (sq (sq (rT [1,2,3,4] (s1 (bk (SW.loopW (n:=k.halves.length) (fun m q=> ∃i:Nat,m=k.halves.length - i∧i≤k.halves.length∧q=[tP 1 1,tP 2 2,tO 3 6 (k.halves.take (i)).length,tI 4 (i:Nat),oB 1 31 [.d (.i (k).id),.d (.b (k).up),.d (.s (k).log),.d (.i (k).forced),.d (.sl (bC (k).halves))],oB 2 31 [.d (.i 0),.d (.b false),.d (.s []),.d (.i 0),.nil],oR 6 138 6 (bC (k.halves.take (i)))]) ?_ ?_))))))))))))
 · refine wq (σ':=[tP 1 1,tP 2 2,tO 3 6 (k.halves.take (0)).length,tI 4 (0:Nat),oB 1 31 [.d (.i (k).id),.d (.b (k).up),.d (.s (k).log),.d (.i (k).forced),.d (.sl (bC (k).halves))],oB 2 31 [.d (.i 0),.d (.b false),.d (.s []),.d (.i 0),.nil],oR 6 138 6 (bC (k.halves.take (0)))]) [] [] (⟨0,rfl,aV5 _,rfl⟩) ?_
   repeat' apply ai
   all_goals first|exact qx|rfl|exact qz
 rintro n s ⟨i,rfl,hi,rfl⟩
 refine sq (sq (rT [1,2,3,4,11] (s5 (cd rfl (fun c11=> ?_) fun c11=> ?_))))
 · have hi2:i<k.halves.length:=by simpa[aK] using c11
   have hg:=gT (l:=k.halves) hi2
   have hmem:k.halves.getD i .zero∈k.halves:=dH hi2
   refine sk (sq (bk (sq (rT [1,2,3,4,5] (s3 (ai (by rw[aVy,hg];exact⟨⟨by omega,by rw[aK];omega⟩,rfl⟩) (ai (by rw[aVy,hg];exact⟨aV0 rfl,rfl⟩) (s2 (sq (wa [tP 1 1,tP 2 2,tO 3 6 (k.halves.take i).length,tI 4 (i:Nat),tP 5 5,oB 1 31 [.d (.i (k).id),.d (.b (k).up),.d (.s (k).log),.d (.i (k).forced),.d (.sl (bC (k).halves))],oB 2 31 [.d (.i 0),.d (.b false),.d (.s []),.d (.i 0),.nil],oB 5 138 [.d (.i (k.halves.getD i .zero).frm),.d (.i (k.halves.getD i .zero).num),.d (.i (k.halves.getD i .zero).to),.d (.i (k.halves.getD i .zero).til),.d (.i (k.halves.getD i .zero).size),.d (.sl (cC (k.halves.getD i .zero).got))],oR 6 138 6 (bC (k.halves.take i))] [] [] ?_ ?_))))))))))
   · repeat' apply ai
     all_goals first|exact qx|(rw[aVy,hg];rfl)|exact qz
   refine rT [1,2,3,4,5] (ai (by simp) (s2 (ai (by refine⟨trivial,rfl,?_,?_⟩<;>first|exact uB _|(simp only[bI,aV2,Nat.zero_add];have:=hb.2 _ hmem;show _*24≤_;omega)) (s2 (wa [tP 1 1,tP 2 2,tO 3 6 (k.halves.take i).length,tI 4 (i:Nat),tP 5 5,oB 1 31 [.d (.i (k).id),.d (.b (k).up),.d (.s (k).log),.d (.i (k).forced),.d (.sl (bC (k).halves))],oB 2 31 [.d (.i 0),.d (.b false),.d (.s []),.d (.i 0),.nil],oB 5 138 [.d (.i (k.halves.getD i .zero).frm),.d (.i (k.halves.getD i .zero).num),.d (.i (k.halves.getD i .zero).to),.d (.i (k.halves.getD i .zero).til),.d (.i (k.halves.getD i .zero).size),.d (.sl (cC (k.halves.getD i .zero).got))],oR 6 138 6 (bC (k.halves.take i))] [] [19] ?_ ?_)))))
   · repeat' apply ai
     all_goals first|exact qx|(simp[bI];done)|rfl|exact qz
   refine rT [1,2,3,4] (s2 (ai (by exact⟨by simp,aV0 rfl⟩) (ai (by exact⟨rfl,aK _,by intro r hr;rw[aWg.1 hr];rfl,by simp only[aVz,aV3,aV2,aK,aV4];show _*64≤_;omega⟩) (s1 (rT [1,2,3,4] (s3 ?_))))))
   have hts:=fB (z:=dT.zero) hi2
   refine wq [] [] (⟨k.halves.length - (i+1),by omega,i+1,rfl,by omega,rfl⟩) ?_
   repeat' apply ai
   all_goals first|exact qx|exact congrArg D.i (by rw[aB (by omega)];omega)|(rw[hts,aVz];rfl)|(rw[hts];simp only[bC,List.map_append,List.map_cons,List.map_nil];rfl)|(rw[aK];done)|(simp[aK];done)|(simp[aK,aV4];omega)|exact qz
 have hi3:i=k.halves.length:=by simp[aK] at c11;omega
 subst hi3
 refine xt (sq (rT [1,2] (s3 (sq (rT [2] (s2 (rt ?_)))))))
 rw[aWd]
 exact dQ _ [(0,6)] [] rfl (dB rfl (aC rfl (aC rfl (aC rfl (aC rfl (bJ rfl rfl rfl aG))))) (bR rfl rfl trivial)) rfl rfl
theorem fV (k:aJ) (hb:k.halves.length≤100000∧ ∀x∈k.halves,x.got.length≤100000):Ab.Spec Tryz.prog 72 1 [(.t 0,.v k.V)] [(.t 0,.v k.V)]:=
 Spec.told (rl:=[]) (bor:=[0]) (ij k hb) (dB rfl (aC rfl (aC rfl (aC rfl (aC rfl (aJ0 rfl rfl (aK _) rfl aG))))) trivial) rfl rfl
theorem ay (k:bO) (hk:KB k):Sp 85 1 [tV 0 k.V] [tD 0 (.sl (aX (jJ k)))]:=by
 refine sb Tryz.func85 rfl (sq (rT [1] (s2 (sq (rT [1,3] (s2 (sq (sq (rT [1,3,11] (s1 (xp (xA k hk.1 hk.2.1 hk.2.2) (ai rfl ?_))))))))))))
 refine s1 (cd rfl (fun c11=> ?_) fun c11=> ?_)
 · have hno: ¬eG k=true:=by simpa using c11
   refine sq (rT [2] (s2 (rt (dQ _ [] [8] rfl (eD rfl rfl rfl ?_ (congrArg D.sl ?_) trivial) rfl rfl))))
   · rfl
   rw[qp hno];rfl
 have hok:eG k=true:=by simpa using c11
 have h6:=fC hok
 obtain⟨⟨_,ht,hn,_,_,_⟩,_⟩:=(cH k).1 hok
 have q1:=cL (k:=6) (n:=k.time.toNat) (by simp;omega)
 have q2:=cL (k:=6) (n:=k.next.toNat) (by simp;omega)
 have hnl:=aFb k
 refine sk (SW.midW (fun q=>q=[tP 1 1,tO 3 8 (cf k).length,oB 1 44 [.d (.i k.id),.d (.i k.time),.d (.i k.next),.d (.sl (aE k.held)),.d (.sl (aQ k.marks)),.d (.sl (aE k.inbox))],oR 8 9 1 (aX (cf k))]) ?_ ?_)
 · refine sq (rT [1,3,15] (s3 (cd rfl (fun c15=> ?_) fun c15=> ?_)))
   · have hq:=aK7 (of_decide_eq_true c15)
     refine rT [1,3] (s3 (xp (jZ k.time (by omega)) (ai rfl ?_)))
     refine ai (by show _≤9223372036854775807;(try simp only[aVz,aV3,aV2]);omega) (s1 (ai (by exact⟨rfl,rfl,by simp,by show(0+1)*16≤_;omega⟩) (s1 (wq [] [] (rfl) ?_))))
     repeat' apply ai
     all_goals first|exact qx|exact congrArg D.i (by rw[aB (by omega)];omega)|(rw[hq];done)|(rw[hq];rfl)|(rw[hq,aVz];rfl)|(rw[hq,aVz];done)|(rw[hq];simp[aM];done)|(rw[hq];exact iC _ _)|(rw[aM];done)|(simp[aM];done)|exact qz
   have hq:=aNy (of_decide_eq_false c15)
   refine sk (wq [] [] (rfl) ?_)
   repeat' apply ai
   all_goals first|exact qx|exact congrArg D.i (by rw[aB (by omega)];omega)|(rw[hq];done)|(rw[hq];rfl)|(rw[hq,aVz];rfl)|(rw[hq,aVz];done)|(rw[hq];simp[aM];done)|(rw[hq];exact iC _ _)|(rw[aM];done)|(simp[aM];done)|exact qz
 rintro s rfl
 refine SW.midW (fun q=>q=[tP 1 1,tO 3 8 (cg k).length,oB 1 44 [.d (.i k.id),.d (.i k.time),.d (.i k.next),.d (.sl (aE k.held)),.d (.sl (aQ k.marks)),.d (.sl (aE k.inbox))],oR 8 9 1 (aX (cg k))]) ?_ ?_
 · refine sq (rT [1,3,25] (s3 (cd rfl (fun c25=> ?_) fun c25=> ?_)))
   · have hq:=aK8 (of_decide_eq_true c25)
     have hnl2: (cf k).length≤1:=by unfold cf;split<;>simp
     refine rT [1,3] (s3 (xp (jZ k.next (by omega)) (ai rfl ?_)))
     refine ai (by show _≤9223372036854775807;(try simp only[aVz,aV3,aV2]);omega) (s1 (ai (by refine⟨rfl,aM _,by simp,?_⟩;skip;show(_+1)*16≤_;omega) (s1 (wq [] [] (rfl) ?_))))
     repeat' apply ai
     all_goals first|exact qx|exact congrArg D.i (by rw[aB (by omega)];omega)|(rw[hq];done)|(rw[hq];rfl)|(rw[hq,aVz];rfl)|(rw[hq,aVz];done)|(rw[hq];simp[aM];done)|(rw[hq];exact iC _ _)|(rw[aM];done)|(simp[aM];done)|exact qz
   have hq:=aNz (of_decide_eq_false c25)
   refine sk (wq [] [] (rfl) ?_)
   repeat' apply ai
   all_goals first|exact qx|exact congrArg D.i (by rw[aB (by omega)];omega)|(rw[hq];done)|(rw[hq];rfl)|(rw[hq,aVz];rfl)|(rw[hq,aVz];done)|(rw[hq];simp[aM];done)|(rw[hq];exact iC _ _)|(rw[aM];done)|(simp[aM];done)|exact qz
 rintro s rfl
 refine sq (sq (rT [1,3,4] (s1 (bk (SW.loopW (n:=k.marks.length) (fun m q=> ∃i:Nat,m=k.marks.length - i∧i≤k.marks.length∧q=[tP 1 1,tO 3 8 (tR k (i)).length,tI 4 (i:Nat),oB 1 44 [.d (.i k.id),.d (.i k.time),.d (.i k.next),.d (.sl (aE k.held)),.d (.sl (aQ k.marks)),.d (.sl (aE k.inbox))],oR 8 9 1 (aX (tR k (i)))]) ?_ ?_)))))
 · refine wq (σ':=[tP 1 1,tO 3 8 (tR k (0)).length,tI 4 (0:Nat),oB 1 44 [.d (.i k.id),.d (.i k.time),.d (.i k.next),.d (.sl (aE k.held)),.d (.sl (aQ k.marks)),.d (.sl (aE k.inbox))],oR 8 9 1 (aX (tR k (0)))]) [] [] (⟨0,rfl,aV5 _,rfl⟩) ?_
   repeat' apply ai
   all_goals first|exact qx|rfl|(rw[aHq];done)|(rw[aO];done)|(rw[aD];done)|exact qz
 rintro n s ⟨i,rfl,hi,rfl⟩
 refine sq (sq (rT [1,3,4,37] (s5 (cd rfl (fun c37=> ?_) fun c37=> ?_))))
 · have hi2:i<k.marks.length:=by simp[aO] at c37;omega
   have hg:=cA (l:=k.marks) hi2
   have hms:=aHw hok hi2
   have hml:=aFc k i
   have w1:=cL (k:=6) (n:=(k.marks.getD i .zero).frm.toNat) (by show _<10000000;omega)
   have w2:=cL (k:=6) (n:=(k.marks.getD i .zero).num.toNat) (by show _<10000000;omega)
   have w3:=cL (k:=6) (n:=(k.marks.getD i .zero).til.toNat) (by show _<10000000;omega)
   refine sk (sq (bk (sq (rT [1,3,4,5] (s3 (ai (by rw[aVy,hg];exact⟨⟨by omega,by rw[aO];omega⟩,rfl⟩) (ai (by rw[aVy,hg];exact⟨aV0 rfl,rfl⟩) (s2 (wa [tP 1 1,tO 3 8 (tR k i).length,tI 4 (i:Nat),tP 5 5,oB 1 44 [.d (.i k.id),.d (.i k.time),.d (.i k.next),.d (.sl (aE k.held)),.d (.sl (aQ k.marks)),.d (.sl (aE k.inbox))],oB 5 162 [.d (.i ((k.marks.getD i .zero)).frm),.d (.i ((k.marks.getD i .zero)).num),.d (.i ((k.marks.getD i .zero)).til)],oR 8 9 1 (aX (tR k i))] [] [] ?_ ?_)))))))))
   · repeat' apply ai
     all_goals first|exact qx|(rw[aVy,hg];rfl)|exact qz
   refine rD [1,3,4] (s3 (xp (jZ (k.marks.getD i .zero).frm (by omega)) (ai rfl ?_)))
   refine ai (by show _≤9223372036854775807;(try simp only[aVz,aV3,aV2]);omega) (ai (by show _≤9223372036854775807;(try simp only[aVz,aV3,aV2]);omega) (s2 (xp (jZ (k.marks.getD i .zero).num (by omega)) (ai rfl ?_))))
   refine ai (by show _≤9223372036854775807;(try simp only[aVz,aV3,aV2]);omega) (ai (by show _≤9223372036854775807;(try simp only[aVz,aV3,aV2]);omega) (s2 (xp (jZ (k.marks.getD i .zero).til (by omega)) (ai rfl ?_))))
   refine ai (by show _≤9223372036854775807;(try simp only[aVz,aV3,aV2]);omega) (s1 (ai (by refine⟨rfl,aM _,by simp,?_⟩;skip;show(_+1)*16≤_;omega) (s1 (ai (by kernel_rfl) (rT [1,3,4] (s3 ?_))))))
   have hq:=aHt hi2
   refine wq [] [] (⟨k.marks.length - (i+1),by omega,i+1,rfl,by omega,rfl⟩) ?_
   repeat' apply ai
   all_goals first|exact qx|exact congrArg D.i (by rw[aB (by omega)];omega)|(rw[hq];done)|(rw[hq];rfl)|(rw[hq,aVz];rfl)|(rw[hq,aVz];done)|(rw[hq];simp[aM];done)|(rw[hq];exact iC _ _)|(rw[aM];done)|(simp[aM];done)|exact qz
 have hi3:i=k.marks.length:=by simp[aO] at c37;omega
 subst hi3
 clear hi
 refine xt (sq (sq (rT [1,3,6] (s1 (bk (SW.loopW (n:=k.held.length) (fun m q=> ∃i:Nat,m=k.held.length - i∧i≤k.held.length∧q=[tP 1 1,tO 3 8 (wF k (i)).length,tI 6 (i:Nat),oB 1 44 [.d (.i k.id),.d (.i k.time),.d (.i k.next),.d (.sl (aE k.held)),.d (.sl (aQ k.marks)),.d (.sl (aE k.inbox))],oR 8 9 1 (aX (wF k (i)))]) ?_ ?_))))))
 · refine wq (σ':=[tP 1 1,tO 3 8 (wF k (0)).length,tI 6 (0:Nat),oB 1 44 [.d (.i k.id),.d (.i k.time),.d (.i k.next),.d (.sl (aE k.held)),.d (.sl (aQ k.marks)),.d (.sl (aE k.inbox))],oR 8 9 1 (aX (wF k (0)))]) [] [] (⟨0,rfl,aV5 _,rfl⟩) ?_
   repeat' apply ai
   all_goals first|exact qx|rfl|(rw[aHr];done)|(rw[aO];done)|(rw[aD];done)|exact qz
 rintro n s ⟨i,rfl,hi,rfl⟩
 refine sq (sq (rT [1,3,6,66] (s5 (cd rfl (fun c66=> ?_) fun c66=> ?_))))
 · have hi2:i<k.held.length:=by simp[aD] at c66;omega
   have hg:=aT (l:=k.held) hi2
   have hmem: (k.held.getD i .zero)∈k.held:=dH hi2
   have hnt:=hk.2.1 _ hmem
   have hwl:=rP (k.held.getD i .zero)
   have hml:=aFd k i
   refine sk (sq (bk (rT [1,3,6] (s4 (ai (by rw[aVy,hg];exact⟨⟨by omega,by rw[aD];omega⟩,rfl⟩) (ai (by rw[aVy,hg];exact⟨aV0 rfl,rfl⟩) (xp (jV (k.held.getD i .zero) hnt) (ai (by rw[aVy,hg];rfl) ?_))))))))
   refine ai (by show _≤9223372036854775807;(try simp only[aVz,aV3,aV2]);omega) (s1 (ai (by refine⟨rfl,aM _,by simp,?_⟩;skip;show(_+1)*16≤_;omega) (s1 (rT [1,3,6] (s3 ?_)))))
   have hq:=aHu hi2
   refine wq [] [] (⟨k.held.length - (i+1),by omega,i+1,rfl,by omega,rfl⟩) ?_
   repeat' apply ai
   all_goals first|exact qx|exact congrArg D.i (by rw[aB (by omega)];omega)|(rw[hq];done)|(rw[hq];rfl)|(rw[hq,aVz];rfl)|(rw[hq,aVz];done)|(rw[hq];simp[aM];done)|(rw[hq];exact iC _ _)|(rw[aM];done)|(simp[aM];done)|exact qz
 have hi3:i=k.held.length:=by simp[aD] at c66;omega
 subst hi3
 clear hi
 refine xt (sq (sq (rT [1,3,7] (s1 (bk (SW.loopW (n:=k.inbox.length) (fun m q=> ∃i:Nat,m=k.inbox.length - i∧i≤k.inbox.length∧q=[tP 1 1,tO 3 8 (wG k (i)).length,tI 7 (i:Nat),oB 1 44 [.d (.i k.id),.d (.i k.time),.d (.i k.next),.d (.sl (aE k.held)),.d (.sl (aQ k.marks)),.d (.sl (aE k.inbox))],oR 8 9 1 (aX (wG k (i)))]) ?_ ?_))))))
 · refine wq (σ':=[tP 1 1,tO 3 8 (wG k (0)).length,tI 7 (0:Nat),oB 1 44 [.d (.i k.id),.d (.i k.time),.d (.i k.next),.d (.sl (aE k.held)),.d (.sl (aQ k.marks)),.d (.sl (aE k.inbox))],oR 8 9 1 (aX (wG k (0)))]) [] [] (⟨0,rfl,aV5 _,rfl⟩) ?_
   repeat' apply ai
   all_goals first|exact qx|rfl|(rw[aHs];done)|(rw[aO];done)|(rw[aD];done)|exact qz
 rintro n s ⟨i,rfl,hi,rfl⟩
 refine sq (sq (rT [1,3,7,83] (s5 (cd rfl (fun c83=> ?_) fun c83=> ?_))))
 · have hi2:i<k.inbox.length:=by simp[aD] at c83;omega
   have hg:=aT (l:=k.inbox) hi2
   have hmem: (k.inbox.getD i .zero)∈k.inbox:=dH hi2
   have hnt:=hk.2.2 _ hmem
   have hwl:=rP (k.inbox.getD i .zero)
   have hml:=aFe k i
   refine sk (sq (bk (rT [1,3,7] (s4 (ai (by rw[aVy,hg];exact⟨⟨by omega,by rw[aD];omega⟩,rfl⟩) (ai (by rw[aVy,hg];exact⟨aV0 rfl,rfl⟩) (xp (jV (k.inbox.getD i .zero) hnt) (ai (by rw[aVy,hg];rfl) ?_))))))))
   refine ai (by show _≤9223372036854775807;(try simp only[aVz,aV3,aV2]);omega) (s1 (ai (by refine⟨rfl,aM _,by simp,?_⟩;skip;show(_+1)*16≤_;omega) (s1 (rT [1,3,7] (s3 ?_)))))
   have hq:=aHv hi2
   refine wq [] [] (⟨k.inbox.length - (i+1),by omega,i+1,rfl,by omega,rfl⟩) ?_
   repeat' apply ai
   all_goals first|exact qx|exact congrArg D.i (by rw[aB (by omega)];omega)|(rw[hq];done)|(rw[hq];rfl)|(rw[hq,aVz];rfl)|(rw[hq,aVz];done)|(rw[hq];simp[aM];done)|(rw[hq];exact iC _ _)|(rw[aM];done)|(simp[aM];done)|exact qz
 have hi3:i=k.inbox.length:=by simp[aD] at c83;omega
 subst hi3
 clear hi
 refine xt (sq (rT [2] (s2 (rt (dQ _ [] [8] rfl (eD rfl rfl rfl ?_ (congrArg D.sl ?_) trivial) rfl rfl)))))
 · exact aM _
 rw[kw hok]
theorem mN (k:aJ) (rec:List UInt8) (fc:Bool) (hok:aZ k=true) (hrec:rec.length≤900000):Sp 88 3 [tV 0 k.V,tD 1 (.s rec),tB 2 fc] [tV 0 (.tup [.agg [.d (.i ((fQ k rec fc).1).id),.d (.b ((fQ k rec fc).1).up),.d (.s ((fQ k rec fc).1).log),.d (.i ((fQ k rec fc).1).forced),.d (.sl (bC ((fQ k rec fc).1).halves))],.c (.d (.b (fQ k rec fc).2))])]:=by
 have hlg:=fP hok
 have hkb:=sT hok
 have hrs:=ci (k:=(bB k).1)
 have hsk:eJ k.log k.forced=true:=(fX hlg.1).2.1
 have hpl:=vw (k:=k) (by omega)
 refine sb Tryz.func88 rfl (sq (rT [1,2,3,6] (s3 (sq (rT [1,2,3,6,8] (s1 (xp (gV k (by omega)) (ai rfl ?_))))))))
 refine s6 (sq (rT [1,2,3,6,8,11] (s2 (xp (fu (bB k).1 rec hkb hrec) (ai rfl ?_)))))
 refine s6 (sq (sq (rT [1,2,3,6,8,26] (s2 (cd rfl (fun c26=> ?_) fun c26=> ?_)))))
 · have h1: ¬(eH (bB k).1 rec).2=true:=by rw[← np];exact sU c26
   refine sq (rT [6,7] (s3 (rt ?_)))
   have hr:fQ k rec fc=(k,false):=by rw[fQ,aI3 h1];rfl
   refine bU rfl rfl ?_
   rw[hr]
   rfl
 have h1: (eH (bB k).1 rec).2=true:=by rw[← np];exact jY c26
 refine sk (sq (rT [1,2,3,6,8,12,13] (s3 (xp (tK k.log k.forced rec (by omega) hrec) (ai rfl ?_)))))
 refine s6 (sq (sq (rT [1,2,3,6,8,12,13,36] (s2 (cd rfl (fun c36=> ?_) fun c36=> ?_)))))
 · have h2: ¬(bT k.log k.forced rec).2=true:=sU c36
   refine sq (rD [1,2,3,6,12] (s3 (xp (ay (bB k).1 hkb) (ai rfl ?_))))
   refine xp (xY k.log k.forced (jJ (bB k).1) (by omega) (by omega) (fun r hr=>by have:=hrs.2 r hr;omega)) (ai rfl ?_)
   refine s4 (ai (by kernel_rfl) (rT [2,3,6,12,13] (s2 (xp (tK (dO k).1.1 (dO k).1.2 rec hpl hrec) (ai rfl ?_)))))
   refine s5 (sq (sq (rT [2,3,6,12,52] (s2 (cd rfl (fun c52=> ?_) fun c52=> ?_)))))
   · refine sq (rT [6,7] (s3 (rt ?_)))
     first
     |exact absurd (c36.symm.trans c52) (by decide)
     |(have hr:=(show fQ k rec fc=(k,false) by rw[fQ,vz hsk h1 h2 (sU c52)];rfl)
       refine bU rfl rfl ?_
       rw[hr]
       rfl)
   refine sk (sq (sq (rT [3,6,12,54] (s1 (cd rfl (fun c54=> ?_) fun c54=> ?_)))))
   · obtain rfl:=c54
     refine rT [3,6,12] (s1 ?_)
     first
     |refine je (iL (bT (dO k).1.1 (dO k).1.2 rec).1.1 (bT (dO k).1.1 (dO k).1.2 rec).1.2 (oC hpl)) rfl rfl rfl rfl rfl rfl rfl rfl ?_
     |refine je (iL (bT k.log k.forced rec).1.1 (bT k.log k.forced rec).1.2 (oC (by omega))) rfl rfl rfl rfl rfl rfl rfl rfl ?_
     refine s1 (sq (rT [3,6] (s3 (sq (rT [6,7] (s3 (rt ?_)))))))
     have hlr:pT k rec=(lT k (bT (dO k).1.1 (dO k).1.2 rec).1,true)∨pT k rec=(lT k (bT k.log k.forced rec).1,true):=by
      first
      |exact .inl (nR hsk h1 h2 (jY c52))
      |exact .inr (sS h1 h2)
     first
     |(have hr:=nR hsk h1 h2 (jY c52)
       refine bU rfl rfl ?_
       rw[fQ,hr]
       rfl)
     |(have hr:=sS h1 h2
       refine bU rfl rfl ?_
       rw[fQ,hr]
       rfl)
   obtain rfl:=c54
   refine sk (sq (rT [3,6] (s3 (sq (rT [6,7] (s3 (rt ?_)))))))
   have hlr:pT k rec=(lT k (bT (dO k).1.1 (dO k).1.2 rec).1,true)∨pT k rec=(lT k (bT k.log k.forced rec).1,true):=by
    first
    |exact .inl (nR hsk h1 h2 (jY c52))
    |exact .inr (sS h1 h2)
   first
   |(have hr:=nR hsk h1 h2 (jY c52)
     refine bU rfl rfl ?_
     rw[fQ,hr]
     rfl)
   |(have hr:=sS h1 h2
     refine bU rfl rfl ?_
     rw[fQ,hr]
     rfl)
 have h2: (bT k.log k.forced rec).2=true:=jY c36
 refine sk (sq (sq (rT [2,3,6,12,52] (s2 (cd rfl (fun c52=> ?_) fun c52=> ?_)))))
 · refine sq (rT [6,7] (s3 (rt ?_)))
   first
   |exact absurd (c36.symm.trans c52) (by decide)
   |(have hr:=(show fQ k rec fc=(k,false) by rw[fQ,vz hsk h1 h2 (sU c52)];rfl)
     refine bU rfl rfl ?_
     rw[hr]
     rfl)
 refine sk (sq (sq (rT [3,6,12,54] (s1 (cd rfl (fun c54=> ?_) fun c54=> ?_)))))
 · obtain rfl:=c54
   refine rT [3,6,12] (s1 ?_)
   first
   |refine je (iL (bT (dO k).1.1 (dO k).1.2 rec).1.1 (bT (dO k).1.1 (dO k).1.2 rec).1.2 (oC hpl)) rfl rfl rfl rfl rfl rfl rfl rfl ?_
   |refine je (iL (bT k.log k.forced rec).1.1 (bT k.log k.forced rec).1.2 (oC (by omega))) rfl rfl rfl rfl rfl rfl rfl rfl ?_
   refine s1 (sq (rT [3,6] (s3 (sq (rT [6,7] (s3 (rt ?_)))))))
   have hlr:pT k rec=(lT k (bT (dO k).1.1 (dO k).1.2 rec).1,true)∨pT k rec=(lT k (bT k.log k.forced rec).1,true):=by
    first
    |exact .inl (nR hsk h1 h2 (jY c52))
    |exact .inr (sS h1 h2)
   first
   |(have hr:=nR hsk h1 h2 (jY c52)
     refine bU rfl rfl ?_
     rw[fQ,hr]
     rfl)
   |(have hr:=sS h1 h2
     refine bU rfl rfl ?_
     rw[fQ,hr]
     rfl)
 obtain rfl:=c54
 refine sk (sq (rT [3,6] (s3 (sq (rT [6,7] (s3 (rt ?_)))))))
 have hlr:pT k rec=(lT k (bT (dO k).1.1 (dO k).1.2 rec).1,true)∨pT k rec=(lT k (bT k.log k.forced rec).1,true):=by
  first
  |exact .inl (nR hsk h1 h2 (jY c52))
  |exact .inr (sS h1 h2)
 first
 |(have hr:=nR hsk h1 h2 (jY c52)
   refine bU rfl rfl ?_
   rw[fQ,hr]
   rfl)
 |(have hr:=sS h1 h2
   refine bU rfl rfl ?_
   rw[fQ,hr]
   rfl)
theorem ly (k:aJ) (hl:k.log.length≤140737488355328):Sp 33 1 [tV 0 k.V] [tV 0 (.tup [.agg [.d (.i ((dU k).1).id),.d (.b ((dU k).1).up),.d (.s ((dU k).1).log),.d (.i ((dU k).1).forced),.d (.sl (bC ((dU k).1).halves))],.c (.d (.b (dU k).2))])]:=by
 refine sb Tryz.func33 rfl (sq (rT [1,2] (s3 (sq (sq (rT [1,2,8] (s1 (xp (gX k hl) (ai rfl ?_)))))))))
 refine s1 (cd rfl (fun c8=> ?_) fun c8=> ?_)
 · have hno: ¬aZ k=true:=sU c8
   refine sq (rT [2,3] (s3 (rt ?_)))
   have hr:dU k=(.zero,false):=wb hno
   rw[hr]
   exact rq [] [] rfl qz
 have hok:aZ k=true:=jY c8
 have hlg:=fP hok
 have hK:=kY hok
 have h6:=fC (gU hok)
 have hkb:=sT hok
 have hsk:eJ k.log k.forced=true:=(fX hlg.1).2.1
 obtain⟨⟨_,htm,hnx,_⟩,_⟩:=(cH _).1 (gU hok)
 have hrl:=qr (n:=((bB k).1.time+1).toNat) (by omega)
 have hdl:=cL (k:=6) (n:=((bB k).1.time+1).toNat) (by show _<10000000;omega)
 have hw:wrap64 ((bB k).1.time+1)=(bB k).1.time+1:=aB (by omega)
 refine sk (sq (rT [1,2,4] (s1 (xp (gV k (by omega)) (ai rfl ?_)))))
 refine s6 (sq (sq (rT [1,2,4,22] (s4 (y3 (ai pk (cd rfl (fun c22=> ?_) fun c22=> ?_)))))))
 · have hr0:dU k=(k,false):=by
    by_cases hu:k.up=true
    · rw[hu] at c22
      exact rj hok (of_decide_eq_true (by simpa using c22))
    · exact ao hok hu
   refine sq (rT [2,3] (s1 (xp (fV k (⟨by omega,fun x hx=>by have:=hlg.2.2.2.2.2 x hx;omega⟩)) (ai rfl ?_))))
   refine s2 (rt ?_)
   have hr:=hr0
   refine bU rfl rfl ?_
   rw[hr]<;>rfl
 have hu:k.up=true:=by
  cases hq:k.up with
  |true=>rfl
  |false=>rw[hq] at c22;cases c22
 refine sk (sq (rD [2,3] (s1 (xp (fV k (⟨by omega,fun x hx=>by have:=hlg.2.2.2.2.2 x hx;omega⟩)) (ai rfl ?_)))))
 refine s3 (xp (jZ ((bB k).1.time+1) (by omega)) (ai (by rw[hw];rfl) ?_))
 refine ai (by show _≤9223372036854775807;(try simp only[aVz,aV3,aV2]);omega) (xp (mN k (oZ ((bB k).1.time+1).toNat) true hok (by omega)) (ai rfl ?_))
 refine s4 (ai (by kernel_rfl) (rt ?_))
 have hr:=fe hok hu
 refine bU rfl rfl ?_
 rw[hr]<;>rfl
theorem ow (k:aJ) (tu til:Int) (tx:List UInt8) (hl:k.log.length≤140737488355328) (htx:tx.length≤140737488355328):Sp 35 4 [tV 0 k.V,tI 1 tu,tI 2 til,tD 3 (.s tx)] [tV 0 (.tup [.agg [.d (.i ((dR k tu til tx).1).id),.d (.b ((dR k tu til tx).1).up),.d (.s ((dR k tu til tx).1).log),.d (.i ((dR k tu til tx).1).forced),.d (.sl (bC ((dR k tu til tx).1).halves))],.c (.d (.i (dR k tu til tx).2))])]:=by
 refine sb Tryz.func35 rfl (sq (rT [1,2,3,4,8] (s3 (sq (sq (rT [1,2,3,4,8,17] (s1 (xp (gX k hl) (ai rfl ?_)))))))))
 refine s1 (cd rfl (fun c17=> ?_) fun c17=> ?_)
 · have hno: ¬aZ k=true:=sU c17
   refine sq (rT [8,9] (s3 (rt ?_)))
   have hr:dR k tu til tx=(.zero,0):=yr hno
   rw[hr]
   exact rq [] [] rfl qz
 have hok:aZ k=true:=jY c17
 have hlg:=fP hok
 have hK:=kY hok
 have h6:=fC (gU hok)
 have hkb:=sT hok
 have hsk:eJ k.log k.forced=true:=(fX hlg.1).2.1
 obtain⟨⟨_,htm,hnx,_⟩,_⟩:=(cH _).1 (gU hok)
 have hnl:=rP (pA k tu til tx)
 have hrl:=wH kJ (pA k tu til tx)
 have hwo:kJ.length=3:=rfl
 refine sk (sq (rT [1,2,3,4,8,10] (s1 (xp (gV k (by omega)) (ai rfl ?_)))))
 refine s6 (sq (rT [4,8,10,12] (s8 (xp (jV (pA k tu til tx) htx) (ai rfl ?_)))))
 refine s1 (sq (sq (rT [4,8,10,12,39] (s4 (y2 (ai pk (cd rfl (fun c39=> ?_) fun c39=> ?_)))))))
 · have hr0:dR k tu til tx=(k,0):=by
    by_cases hu:k.up=true
    · rw[hu] at c39
      exact wd hok (by simpa using c39)
    · exact wc hok hu
   refine sq (rT [8,9] (s1 (xp (fV k (⟨by omega,fun x hx=>by have:=hlg.2.2.2.2.2 x hx;omega⟩)) (ai rfl ?_))))
   refine s2 (rt ?_)
   have hr:=hr0
   refine bU rfl rfl ?_
   rw[hr]<;>rfl
 have hu:k.up=true:=by
  cases hq:k.up with
  |true=>rfl
  |false=>rw[hq] at c39;cases c39
 refine sk (sq (rT [4,8,10,13,14] (s1 (xp (fV k (⟨by omega,fun x hx=>by have:=hlg.2.2.2.2.2 x hx;omega⟩)) (ai rfl ?_)))))
 refine s1 (ai (by show _≤9223372036854775807;(try simp only[aVz,aV3,aV2]);omega) (xp (mN k (fH kJ (pA k tu til tx)) true hok (by omega)) (ai rfl ?_)))
 refine s6 (sq (sq (rT [4,8,10,13,51] (s2 (cd rfl (fun c51=> ?_) fun c51=> ?_)))))
 · have hq: ¬(iR k (fH kJ (pA k tu til tx))).2=true:=sU c51
   have hr0:dR k tu til tx=_:=kz hok hq
   refine sq (rT [8,9] (s1 (xp (fV k (⟨by omega,fun x hx=>by have:=hlg.2.2.2.2.2 x hx;omega⟩)) (ai rfl ?_))))
   refine s2 (rt ?_)
   have hr:=hr0
   refine bU rfl rfl ?_
   rw[hr]<;>rfl
 have hq: (iR k (fH kJ (pA k tu til tx))).2=true:=jY c51
 refine sk (sq (rD [8,9] (s5 (ai (by kernel_rfl) (rt ?_)))))
 have hr:=aC1 hok hu hq
 refine bU rfl rfl ?_
 rw[hr]<;>rfl
theorem oz (k:aJ) (f n:Int) (hl:k.log.length≤140737488355328):Sp 37 3 [tV 0 k.V,tI 1 f,tI 2 n] [tV 0 (.tup [.agg [.d (.i ((cP k f n).1).id),.d (.b ((cP k f n).1).up),.d (.s ((cP k f n).1).log),.d (.i ((cP k f n).1).forced),.d (.sl (bC ((cP k f n).1).halves))],.agg [.d (.i ((cP k f n).2.1).frm),.d (.i ((cP k f n).2.1).num),.d (.i ((cP k f n).2.1).to),.d (.i ((cP k f n).2.1).til),.d (.s ((cP k f n).2.1).text)],.c (.d (.b (cP k f n).2.2))])]:=by
 refine sb Tryz.func37 rfl (sq (rT [1,2,3,6,7] (s4 (sq (sq (rT [1,2,3,6,7,16] (s1 (xp (gX k hl) (ai rfl ?_)))))))))
 refine s1 (cd rfl (fun c16=> ?_) fun c16=> ?_)
 · have hno: ¬aZ k=true:=sU c16
   refine sq (rT [6,7,8] (s5 (rt ?_)))
   have hr:cP k f n=(.zero,.zero,false):=yt hno
   rw[hr]
   exact rq [] [] rfl qz
 have hok:aZ k=true:=jY c16
 have hlg:=fP hok
 have hK:=kY hok
 have h6:=fC (gU hok)
 have hkb:=sT hok
 have hsk:eJ k.log k.forced=true:=(fX hlg.1).2.1
 obtain⟨⟨_,htm,hnx,_⟩,_⟩:=(cH _).1 (gU hok)
 refine sk (sq (rT [1,2,3,6,7,9] (s1 (xp (gV k (by omega)) (ai rfl ?_)))))
 refine s6 (sq (rT [1,2,3,6,7,9,11] (s4 (xp (fU (bB k).1.inbox f n (by have:=h6.1;omega)) (ai rfl ?_)))))
 refine s1 (sq (sq (rT [1,2,3,6,7,9,11,35] (s4 (y2 (ai pk (cd rfl (fun c35=> ?_) fun c35=> ?_)))))))
 · have hcn: ¬(k.up=true∧0≤aW (bB k).1.inbox f n):=by
    rintro⟨hu,hp⟩
    rw[hu,decide_eq_false (show ¬aW (bB k).1.inbox f n<0 by omega)] at c35
    cases c35
   have hr0:=aC2 hok hcn
   refine sq (rT [6,7,8] (s1 (xp (fV k (⟨by omega,fun x hx=>by have:=hlg.2.2.2.2.2 x hx;omega⟩)) (ai rfl ?_))))
   refine s4 (rt ?_)
   have hr:=hr0
   refine bU rfl rfl ?_
   rw[hr]<;>rfl
 have hcy:k.up=true∧0≤aW (bB k).1.inbox f n:=by
  have h9:=c35
  skip
  cases hu:k.up with
  |false=>rw[hu] at h9;cases h9
  |true=>
   rw[hu] at h9
   refine⟨rfl,?_⟩
   by_cases hp:aW (bB k).1.inbox f n<0
   · rw[decide_eq_true hp] at h9;cases h9
   · omega
 obtain⟨j,hj,hjl,hjb⟩:=wg hok hcy.2
 have hg:=aT (l:=(bB k).1.inbox) hjl
 have her:zK k f n=sB nD ⟨f,n,((bB k).1.inbox.getD j .zero).til⟩:=by rw[zK,hj,aVy]
 have hrl:=qq (w:=nD) (m:=⟨f,n,((bB k).1.inbox.getD j .zero).til⟩) hjb
 have hwe:nD.length=3:=rfl
 have d1:=cL (k:=6) (n:=f.toNat) (by show _<10000000;omega)
 have d2:=cL (k:=6) (n:=n.toNat) (by show _<10000000;omega)
 have d3:=cL (k:=6) (n:=((bB k).1.inbox.getD j .zero).til.toNat) (by show _<10000000;omega)
 refine sk (sq (rD [3,6,7,9,11,12,13] (s1 (xp (fV k (⟨by omega,fun x hx=>by have:=hlg.2.2.2.2.2 x hx;omega⟩)) (ai rfl ?_)))))
 refine s5 (ai (by rw[hj,aVy,hg];exact⟨⟨by omega,by rw[aD];omega⟩,rfl⟩) (s1 (ai (by rw[hj,aVy,hg];exact⟨aV0 rfl,rfl⟩) (xp (ax f n ((bB k).1.inbox.getD j .zero).til hjb) (ai (by rw[hj,aVy,hg];rfl) ?_)))))
 refine ai (by show _≤9223372036854775807;(try simp only[aVz,aV3,aV2]);omega) (xp (mN k (sB nD ⟨f,n,((bB k).1.inbox.getD j .zero).til⟩) true hok (by omega)) (ai rfl ?_))
 refine s6 (ai (by kernel_rfl) (sq (sq (rT [3,6,7,9,11,12,56] (s2 (cd rfl (fun c56=> ?_) fun c56=> ?_))))))
 · have hq: ¬(iR k (zK k f n)).2=true:=by rw[her];exact sU c56
   have hr0:=we hok hcy hq
   refine sq (rT [6,7,8] (s1 (xp (fV k (⟨by omega,fun x hx=>by have:=hlg.2.2.2.2.2 x hx;omega⟩)) (ai rfl ?_))))
   refine s4 (rt ?_)
   have hr:=hr0
   refine bU rfl rfl ?_
   rw[hr]<;>rfl
 have hq: (iR k (zK k f n)).2=true:=by rw[her];exact jY c56
 have hr0:=aC3 hok hcy hq
 rw[her,hj,aVy] at hr0
 refine sk (sq (rD [6,7,8] (s4 (ai (by rw[hj,aVy,hg];exact⟨⟨by omega,by rw[aD];omega⟩,rfl⟩) (ai (by rw[hj,aVy,hg];exact⟨aV0 rfl,rfl⟩) (s3 (ai (by kernel_rfl) (rt (bU rfl rfl ?_)))))))))
 rw[hr0,hj,aVy,hg]
 rfl
theorem lz (k:aJ) (hl:k.log.length≤140737488355328):Sp 31 1 [tV 0 k.V] [tV 0 (.tup [.agg [.d (.i ((eC k).1).id),.d (.b ((eC k).1).up),.d (.s ((eC k).1).log),.d (.i ((eC k).1).forced),.d (.sl (bC ((eC k).1).halves))],.c (.d (.b (eC k).2))])]:=by
 refine sb Tryz.func31 rfl (sq (rT [1,2] (s3 (sq (sq (rT [1,2,11] (s1 (xp (gX k hl) (ai rfl ?_)))))))))
 refine s1 (cd rfl (fun c11=> ?_) fun c11=> ?_)
 · have hno: ¬aZ k=true:=sU c11
   refine sq (rT [2,3] (s3 (rt ?_)))
   have hr:eC k=(.zero,false):=wh hno
   rw[hr]
   exact rq [] [] rfl qz
 have hok:aZ k=true:=jY c11
 have hlg:=fP hok
 have hK:=kY hok
 have h6:=fC (gU hok)
 have hkb:=sT hok
 have hsk:eJ k.log k.forced=true:=(fX hlg.1).2.1
 obtain⟨⟨_,htm,hnx,_⟩,_⟩:=(cH _).1 (gU hok)
 have hrs:=ci (k:=(bB k).1)
 refine sk (sq (rT [1,2,4] (s1 (xp (fV k (⟨by omega,fun x hx=>by have:=hlg.2.2.2.2.2 x hx;omega⟩)) (ai rfl ?_)))))
 refine s2 (sq (rT [1,2,4,5] (s1 (xp (gV k (by omega)) (ai rfl ?_)))))
 refine s6 (sq (rD [1,2,4,7,8] (s3 (xp (ay (bB k).1 hkb) (ai rfl ?_)))))
 refine xp (xY k.log k.forced (jJ (bB k).1) (by omega) (by have:=hrs.1;omega) (fun r hr=>by have:=hrs.2 r hr;omega)) (ai rfl ?_)
 refine s6 (ai (by kernel_rfl) (sq (sq (rT [2,4,7,34] (s4 (y2 (ai pk (cd rfl (fun c34=> ?_) fun c34=> ?_))))))))
 · have hr0:eC k=(k,false):=by
    by_cases hu:k.up=true
    · rw[hu] at c34
      exact yu hok (sU c34)
    · exact rm hok hu
   refine sq (rT [2,3] (s3 (rt ?_)))
   have hr:=hr0
   refine bU rfl rfl ?_
   rw[hr]<;>rfl
 have hu:k.up=true:=by
  cases hq:k.up with
  |true=>rfl
  |false=>rw[hq] at c34;cases c34
 have hp: (dO k).2=true:=by
  rw[hu] at c34
  exact jY c34
 refine sk (sq (rT [2,4] (s3 (sq (rT [2,3] (s3 (rt ?_)))))))
 have hr:=yv hok hu hp
 refine bU rfl rfl ?_
 rw[hr]<;>rfl
theorem zo (b:Int) (m:gC) (kn:List (List UInt8)) (hk:xT b kn) (hm:m.data.length=4):Sp 241 3 [tI 0 b,tV 1 m.V,tD 2 (.sl (aX kn))] [tV 0 (.tup [.c (.own 0 (fD kn (bK b m.num)).length),.c (.d (.s (lN kn m.data (bK b m.num))))]),oR 0 3 1 (bX (fD kn (bK b m.num)))]:=by
 refine sb Tryz.func241 rfl (sq (rT [0,2,4] (s3 (sq (rT [0,2,4,8] (s2 (sq (rT [0,2,4,8,9] (s3 (sq (rT [2,8,9,10] (s3 (xp (lv b m.num) (ai rfl ?_))))))))))))))
 refine s1 (sq (sq (rT [2,8,9,10,11] (s1 (bk (SW.loopW (n:=(bK b m.num).length) (fun q s=> ∃i:Nat,q=(bK b m.num).length - i∧i≤(bK b m.num).length∧s=[tD 2 (.sl (aX kn)),tO 8 12 (fD kn ((bK b m.num).take i)).length,tD 9 (.s (lN kn m.data ((bK b m.num).take i))),tD 10 (.sl (bX (bK b m.num))),tI 11 (i:Nat),oR 12 3 1 (bX (fD kn ((bK b m.num).take i)))]) ?_ ?_))))))
 · refine wq (σ':=[tD 2 (.sl (aX kn)),tO 8 12 (fD kn ((bK b m.num).take 0)).length,tD 9 (.s (lN kn m.data ((bK b m.num).take 0))),tD 10 (.sl (bX (bK b m.num))),tI 11 (0:Nat),oR 12 3 1 (bX (fD kn ((bK b m.num).take 0)))]) [] [] (⟨0,rfl,aV5 _,rfl⟩) ?_
   repeat' apply ai
   all_goals first|exact qx|rfl|exact qz
 rintro n s ⟨i,rfl,hi,rfl⟩
 refine sq (sq (rT [2,8,9,10,11,22] (s4 (cd rfl (fun c22=> ?_) fun c22=> ?_))))
 · have hi2:i< (bK b m.num).length:=by simp[bS] at c22;omega
   have hml:=uE b m.num
   have hts:=fB (z:=(0:Int)) hi2
   have hio:=eW (l:=(bK b m.num)) (i:=i) hi2
   have hjr:=nO ((bK b m.num).getD i 0) (dH hi2)
   have hkl:=hk.1
   have hj3: ((bK b m.num).getD i 0)< (kn.length:Int):=by omega
   have hv:=aM6 (l:=kn) hjr.1 hj3
   have hat:=hk.at (j:=((bK b m.num).getD i 0).toNat) (by omega)
   refine sk (sq (bk (sq (rT [2,8,9,10,11,32] (s3 (ai (by rw[aVy,hio];exact⟨⟨by omega,by rw[bS];omega⟩,rfl⟩) (ai (by rw[aVy,hio];exact⟨aV0 rfl,rfl⟩) (ai (by rw[aVy,hio];exact ixS hjr.1 hj3) (ai (by rw[aVy,hio];exact ldS hjr.1 hj3) (s1 (cd rfl (fun c32=> ?_) fun c32=> ?_)))))))))))
   · have hu:unk kn ((bK b m.num).getD i 0)=true:=by
      have h9:=c32
      rw[aVy,hio] at h9
      have h9: (toS (((aX kn).getD ((bK b m.num).getD i 0).toNat []).getD 0 (.i 0))==[])=true:=h9
      rw[hv] at h9
      unfold unk;rw[beq_iff_eq.1 h9];rfl
     have hL:=cj (ks:=(bK b m.num).take i) hu
     have hX:=aBi (x:=m.data) (ks:=(bK b m.num).take i) hu
     refine rT [2,8,9,10,11] (s3 (ai (by rw[aVy,hio];exact⟨⟨by omega,by rw[bS];omega⟩,rfl⟩) (ai (by rw[aVy,hio];exact⟨aV0 rfl,rfl⟩) (s1 (ai (by refine⟨rfl,bS _,by simp,?_⟩;have h9: (fD kn ((bK b m.num).take i)).length≤6:=Nat.le_trans (List.length_filter_le _ _) (by rw[aV4];omega);show(_+1)*8≤_;omega) (s1 (rT [2,8,9,10,11] (s3 (wq [] [] (⟨(bK b m.num).length - (i+1),by omega,i+1,rfl,by omega,rfl⟩) ?_)))))))))
     repeat' apply ai
     all_goals first|exact qx|exact congrArg D.i (by rw[aB (by omega)];omega)|(rw[hts,hL,aVz];rfl)|(rw[hts,hL,aVy,hio];exact iW _ _)|(rw[hts,hL];done)|(rw[hts,hX];done)|(rw[hts,hL,aVz];done)|(simp[bS];done)|(rw[hts,hL];simp[bS];done)|exact qz
   have hne: ¬(kn.getD ((bK b m.num).getD i 0).toNat [])=[]:=by
    have h9:=c32
    rw[aVy,hio] at h9
    have h9: (toS (((aX kn).getD ((bK b m.num).getD i 0).toNat []).getD 0 (.i 0))==[])=false:=h9
    rw[hv] at h9
    exact beq_eq_false_iff_ne.1 h9
   have hu:unk kn ((bK b m.num).getD i 0)=false:=by unfold unk;simpa using hne
   have h4: (kn.getD ((bK b m.num).getD i 0).toNat []).length=4:=by rcases hat with h9|h9;exact absurd (List.eq_nil_of_length_eq_zero h9) hne;exact h9
   have hL:=ff (ks:=(bK b m.num).take i) hu
   have hX:=aFj (x:=m.data) (ks:=(bK b m.num).take i) hu
   refine rT [2,8,9,10,11] (s4 (ai (by rw[aVy,hio];exact⟨⟨by omega,by rw[bS];omega⟩,rfl⟩) (ai (by rw[aVy,hio];exact⟨aV0 rfl,rfl⟩) (ai (by rw[aVy,hio];exact ixS hjr.1 hj3) (ai (by rw[aVy,hio];exact ldS hjr.1 hj3) (xp (lw (lN kn m.data ((bK b m.num).take i)) (kn.getD ((bK b m.num).getD i 0).toNat []) (uI hm) h4) (ai (by rw[aVy,hio];exact(congrArg (fun z=>eL 0 [Dv (.s (lN kn m.data ((bK b m.num).take i))),Dv (.s z)]) hv).symm) ?_)))))))
   refine s1 (rT [2,8,9,10,11] (s3 (wq [] [] (⟨(bK b m.num).length - (i+1),by omega,i+1,rfl,by omega,rfl⟩) ?_)))
   repeat' apply ai
   all_goals first|exact qx|exact congrArg D.i (by rw[aB (by omega)];omega)|(rw[hts,hL,aVz];rfl)|(rw[hts,hL,aVy,hio];exact iW _ _)|(rw[hts,hL];done)|(rw[hts,hX];done)|(rw[hts,hL,aVz];done)|(simp[bS];done)|(rw[hts,hL];simp[bS];done)|exact qz
 have hi3:i=(bK b m.num).length:=by simp[bS] at c22;omega
 subst hi3
 refine xt (sq (rT [6,7] (s4 (rt ?_))))
 rw[aWd]
 exact dQ _ [(0,12)] [] rfl ⟨⟨_,rfl,⟨rfl,rfl,_,_,_,rfl⟩,rfl,trivial⟩,bR rfl rfl trivial⟩ rfl rfl
theorem aQl (kn:List (List UInt8)) (ks:List Int) (x:List UInt8):mA [tV 0 (.tup [.c (.own 0 (fD kn ks).length),.c (.d (.s (lN kn x ks)))]),oR 0 3 1 (bX (fD kn ks))]:=by
 intro p hp
 simp at hp
 rcases hp with rfl|rfl
 · first|trivial|(simp[mA];done)|(intro c hc;simp at hc;rcases hc with rfl|rfl<;>trivial)|exact⟨trivial,trivial,trivial⟩
 intro r hr d hd
 obtain⟨y,_,rfl⟩:=aWc.1 hr
 simp at hd;subst hd;trivial
theorem xm (b:Int) (l:List gC) (hl:l.length≤1000000):Sp 199 2 [tI 0 b,tD 1 (.sl (cC l))] [tD 0 (.sl (aX (cB b l)))]:=by
 refine sb Tryz.func199 rfl (sq (rT [0,1] (s1 (sq (sq (rT [0,1,12] (s1 (xp (dI _ _ _) (ai rfl ?_)))))))))
 refine s1 (cd rfl (fun c12=> ?_) fun c12=> ?_)
 · have hno: ¬fG b 1 6=true:=by simpa using c12
   refine sq (rT [4] (s2 (rt (dQ _ [] [13] rfl (eD rfl rfl rfl ?_ (congrArg D.sl ?_) trivial) rfl rfl))))
   · rfl
   rw[wm hno];rfl
 have hin:fG b 1 6=true:=by simpa using c12
 have hb:1≤b∧b≤6:=by simpa[fG] using hin
 have hst:=xT.start (b:=b) (by omega)
 refine sk (sq (rT [0,1,5] (s1 (ai (by refine⟨rfl,by omega,?_⟩;show((16:Nat):Int)*_≤_;omega) (s1 (sq (rT [0,1,5,6] (s1 (sq (bk (SW.loopW (n:=sV (List.replicate b.toNat ([]:List UInt8))+1) (fun q s=> ∃(kn:List (List UInt8)) (ag:Bool),q=(if ag then sV kn+1 else 0)∧xT b kn∧(ag=true→oM b l 7 kn=cB b l)∧(ag=false→kn=cB b l)∧s=[tI 0 b,tD 1 (.sl (cC l)),tO 5 15 b.toNat,tB 6 (ag),oR 15 9 1 (aX (kn))]) ?_ ?_)))))))))))
 · refine wq (σ':=[tI 0 b,tD 1 (.sl (cC l)),tO 5 15 b.toNat,tB 6 (true),oR 15 9 1 (aX (List.replicate b.toNat []))]) [] [] (⟨_,true,rfl,hst,fun _=>(if_pos hin).symm,fun h=>(by cases h),rfl⟩) ?_
   repeat' apply ai
   all_goals first|exact qx|rfl|(simp[aX];done)|exact qz
 rintro n s ⟨kn,ag,rfl,hk,hp1,hp2,rfl⟩
 refine sq (sq (rT [0,1,5,16] (s1 (cd rfl (fun c16=> ?_) fun c16=> ?_))))
 · have hag:ag=true:=c16
   have hgo:=hp1 hag
   refine sk (bk (sq (rT [0,1,5,6] (s1 (sq (rT [0,1,5,6,7] (s1 (bk (SW.loopW (n:=l.length) (fun q s=> ∃i:Nat,q=l.length - i∧i≤l.length∧s=[tI 0 b,tD 1 (.sl (cC l)),tO 5 15 b.toNat,tB 6 (bD b (l.take i) (kn,false)).2,tI 7 (i:Nat),oR 15 9 1 (aX ((bD b (l.take i) (kn,false)).1))]) ?_ ?_)))))))))
   · refine wq (σ':=[tI 0 b,tD 1 (.sl (cC l)),tO 5 15 b.toNat,tB 6 (bD b (l.take 0) (kn,false)).2,tI 7 (0:Nat),oR 15 9 1 (aX ((bD b (l.take 0) (kn,false)).1))]) [] [] (⟨0,rfl,aV5 _,rfl⟩) ?_
     repeat' apply ai
     all_goals first|exact qx|rfl|exact qz
   rintro n s ⟨i,rfl,hi,rfl⟩
   refine sq (sq (rT [0,1,5,6,7,20] (s4 (cd rfl (fun c20=> ?_) fun c20=> ?_))))
   · have hi2:i<l.length:=by simp[bI] at c20;omega
     have hg:=lR (l:=l) hi2
     have hki:=(nS (l:=l.take i) (s:=(kn,false)) hk).1
     have hsn:=uJ (b:=b) (m:=(l.getD i .zero)) (l:=l.take i) (s:=(kn,false))
     rw[← fB (z:=gC.zero) hi2] at hsn
     have hkl:=hki.1
     refine sk (sq (bk (sq (sq (rT [0,1,5,6,7,29] (s3 (ai (by rw[aVy,hg];exact⟨⟨by omega,by rw[bI];omega⟩,rfl⟩) (ai (by rw[aVy,hg];exact⟨aV0 rfl,rfl⟩) (xp (da b (l.getD i .zero)) (ai (by rw[aVy,hg];rfl) ?_))))))))))
     refine s1 (cd rfl (fun c29=> ?_) fun c29=> ?_)
     · have hmx:oD b (l.getD i .zero)=false:=aBk c29
       have hpo:fI b (bD b (l.take i) (kn,false)).1 (l.getD i .zero)=((bD b (l.take i) (kn,false)).1,false):=by unfold fI;rw[hmx];rfl
       rw[hpo] at hsn
       refine xt (rT [0,1,5,6,7] (s3 (wq [] [] (⟨l.length - (i+1),by omega,i+1,rfl,by omega,rfl⟩) ?_)))
       repeat' apply ai
       all_goals first|exact qx|exact congrArg D.i (by rw[aB (by omega)];omega)|(rw[hsn];done)|(rw[hsn,Bool.or_false];done)|(rw[hsn,Bool.or_true];done)|(rw[hsn];rw[show(0:Int).toNat=0 from rfl,hL0];exact ee (j:=((fD (bD b (l.take i) (kn,false)).1 (bK b (l.getD i .zero).num)).getD 0 0).toNat) (by omega))|exact qz
     have hmx:oD b (l.getD i .zero)=true:=aBk c29
     have hm4: (l.getD i .zero).data.length=4:=qu hmx
     refine sk (sq (rT [0,1,5,6,7,8,9] (s3 (ai (by rw[aVy,hg];exact⟨⟨by omega,by rw[bI];omega⟩,rfl⟩) (ai (by rw[aVy,hg];exact⟨aV0 rfl,rfl⟩) (s1 (bH (robj:=[(15,.row 9 1 (aX (bD b (l.take i) (kn,false)).1))]) (rl:=[(0,37)]) (bor:=[15]) (zo b (l.getD i .zero) (bD b (l.take i) (kn,false)).1 hki hm4) rfl rfl rfl rfl (by refine⟨cJ rfl rfl (dB rfl ?_ (eD rfl rfl rfl (by rw[aM];omega) rfl trivial)),rfl⟩;rw[aVy,hg];exact aC rfl (aC rfl trivial)) rfl (.inr (aQl _ _ _)) (aH ⟨rfl,trivial⟩) (fun j hj=>by(obtain rfl:j=0:=by simpa[kI,cE,iM] using hj);rfl) ?_)))))))
     refine s5 (sq (rT [0,1,5,6,7,8,9,42] (s1 (ai (by exact bS _) (s1 (cd rfl (fun c42=> ?_) fun c42=> ?_))))))
     · have hlen: (fD (bD b (l.take i) (kn,false)).1 (bK b (l.getD i .zero).num)).length=1:=aN1 c42
       have hL0:=eW (l:=(fD (bD b (l.take i) (kn,false)).1 (bK b (l.getD i .zero).num))) (i:=0) (by omega)
       have hpo:fI b (bD b (l.take i) (kn,false)).1 (l.getD i .zero)=((bD b (l.take i) (kn,false)).1.set ((fD (bD b (l.take i) (kn,false)).1 (bK b (l.getD i .zero).num)).getD 0 0).toNat (lN (bD b (l.take i) (kn,false)).1 (l.getD i .zero).data (bK b (l.getD i .zero).num)),true):=by unfold fI;rw[hmx,hlen];rfl
       rw[hpo] at hsn
       have hlr:=nO _ (ed (dH (z:=(0:Int)) (l:=(fD (bD b (l.take i) (kn,false)).1 (bK b (l.getD i .zero).num))) (i:=0) (by omega))).1
       have hsg:=eN (l:=(bD b (l.take i) (kn,false)).1) (i:=((fD (bD b (l.take i) (kn,false)).1 (bK b (l.getD i .zero).num)).getD 0 0).toNat) (by omega)
       refine sq (rT [0,1,5,7] (s2 (ai (by exact⟨by rw[bS],by omega,by omega⟩) (ai (by rw[show(0:Int).toNat=0 from rfl,hL0];exact⟨⟨by rw[bS],by omega⟩,aWa _,rfl⟩) (s1 (ai (by rw[show(0:Int).toNat=0 from rfl,hL0];exact⟨by rw[aM];omega,hlr.1,by have h9: (fD (bD b (l.take i) (kn,false)).1 (bK b (l.getD i .zero).num)).getD 0 0<b:=hlr.2;show(fD (bD b (l.take i) (kn,false)).1 (bK b (l.getD i .zero).num)).getD 0 0< ((b.toNat:Nat):Int);omega⟩) (ai (by rw[show(0:Int).toNat=0 from rfl,hL0];refine⟨by rw[aM];omega,?_⟩;show((fD (bD b (l.take i) (kn,false)).1 (bK b (l.getD i .zero).num)).getD 0 0).toNat<_∧_∧0+_≤((aX (bD b (l.take i) (kn,false)).1).getD ((fD (bD b (l.take i) (kn,false)).1 (bK b (l.getD i .zero).num)).getD 0 0).toNat []).length;rw[hsg];exact⟨by omega,rfl,aWa _⟩) (rT [0,1,5,6,7] (s1 (rT [0,1,5,6,7] (s3 (wq [] [] (⟨l.length - (i+1),by omega,i+1,rfl,by omega,rfl⟩) ?_))))))))))))
       repeat' apply ai
       all_goals first|exact qx|exact congrArg D.i (by rw[aB (by omega)];omega)|(rw[hsn];done)|(rw[hsn,Bool.or_false];done)|(rw[hsn,Bool.or_true];done)|(rw[hsn];rw[show(0:Int).toNat=0 from rfl,hL0];exact ee (j:=((fD (bD b (l.take i) (kn,false)).1 (bK b (l.getD i .zero).num)).getD 0 0).toNat) (by omega))|exact qz
     have hlen: ¬(fD (bD b (l.take i) (kn,false)).1 (bK b (l.getD i .zero).num)).length=1:=wj c42
     have hpo:fI b (bD b (l.take i) (kn,false)).1 (l.getD i .zero)=((bD b (l.take i) (kn,false)).1,false):=by unfold fI;rw[hmx,beq_eq_false_iff_ne.2 hlen];rfl
     rw[hpo] at hsn
     refine sk (rT [0,1,5,6,7] (s3 (wq [] [] (⟨l.length - (i+1),by omega,i+1,rfl,by omega,rfl⟩) ?_)))
     repeat' apply ai
     all_goals first|exact qx|exact congrArg D.i (by rw[aB (by omega)];omega)|(rw[hsn];done)|(rw[hsn,Bool.or_false];done)|(rw[hsn,Bool.or_true];done)|(rw[hsn];rw[show(0:Int).toNat=0 from rfl,hL0];exact ee (j:=((fD (bD b (l.take i) (kn,false)).1 (bK b (l.getD i .zero).num)).getD 0 0).toNat) (by omega))|exact qz
   have hi3:i=l.length:=by simp[bI] at c20;omega
   subst hi3
   clear hi
   refine xt ?_
   rw[aWd]
   cases hrr: (bD b l (kn,false)).2 with
   |true=>
    obtain⟨g1,g2,g3⟩:=aI4 hb.2 hk hrr
    refine wk [tI 0 b,tD 1 (.sl (cC l)),tO 5 15 b.toNat,tB 6 (true),oR 15 9 1 (aX ((bD b l (kn,false)).1))] [] [] (⟨_,by rw[hag];simpa using g2,_,true,rfl,g3,fun _=>by rw[← g1];exact hgo,fun h=>(by cases h),rfl⟩) ?_ rfl rfl
    repeat' first|exact trivial|refine gQ rfl ?_|refine cJ rfl ?_ ?_|refine fN rfl rfl ?_ rfl ?_|refine bR rfl ?_ ?_|refine bQ rfl rfl rfl rfl ?_|refine aS rfl ?_ ?_|refine dB rfl ?_ ?_|exact aG|refine aC ?_ ?_|refine fF ?_|refine bJ rfl ?_ rfl ?_|refine dD rfl rfl rfl ?_
    all_goals first|with_reducible rfl|(first|with_reducible rfl|(rw[hrr];done))
   |false=>
    have ge:=aFk hrr
    refine wk [tI 0 b,tD 1 (.sl (cC l)),tO 5 15 b.toNat,tB 6 (false),oR 15 9 1 (aX ((bD b l (kn,false)).1))] [] [] (⟨_,by rw[hag];simp,_,false,rfl,(nS (l:=l) (s:=(kn,false)) hk).1,fun h=>(by cases h),fun _=>by rw[← ge];exact hgo,rfl⟩) ?_ rfl rfl
    repeat' first|exact trivial|refine gQ rfl ?_|refine cJ rfl ?_ ?_|refine fN rfl rfl ?_ rfl ?_|refine bR rfl ?_ ?_|refine bQ rfl rfl rfl rfl ?_|refine aS rfl ?_ ?_|refine dB rfl ?_ ?_|exact aG|refine aC ?_ ?_|refine fF ?_|refine bJ rfl ?_ rfl ?_|refine dD rfl rfl rfl ?_
    all_goals first|with_reducible rfl|(first|with_reducible rfl|(rw[hrr];done))
 have hag:ag=false:=c16
 have hfin:=hp2 hag
 refine xt (sq (rT [4] (s2 (rt (dQ _ [] [15] rfl (eD rfl rfl rfl ?_ (congrArg D.sl ?_) trivial) rfl rfl)))))
 · rw[aM];have:=hk.1;omega
 rw[hfin]
theorem xn (size:Int) (l:List gC) (hl:l.length≤1000000):Sp 159 2 [tI 0 size,tD 1 (.sl (cC l))] [tV 0 (.tup [.c (.d (.s (dK size l).1)),.c (.d (.b (dK size l).2))])]:=by
 refine sb Tryz.func159 rfl (sq (rT [0,1] (s2 (sq (sq (rT [0,1,12] (s1 (xp (dI _ _ _) (ai rfl ?_)))))))))
 refine s1 (cd rfl (fun c12=> ?_) fun c12=> ?_)
 · have hno: ¬fG size 1 24=true:=by simpa using c12
   refine sq (rT [4,5] (s2 (rt ?_)))
   have hr:=qw (l:=l) hno
   refine bU rfl rfl ?_
   rw[hr]<;>rfl
 have hin:fG size 1 24=true:=by simpa using c12
 have hs2:1≤size∧size≤24:=by simpa[fG] using hin
 have hko:=wl (b:=(size+3) / 4) (l:=l) (by omega)
 have hk1:=hko.1
 have hle:=fun i=>wn hko.2 (i:=i)
 refine sk (sq (rT [0,6] (s1 (xp (pB size (by omega)) (ai rfl ?_)))))
 refine s1 (xp (xm ((size+3) / 4) l hl) (ai rfl ?_))
 refine s1 (sq (rT [0,6,7] (s1 (sq (sq (rT [0,6,7,8] (s1 (bk (SW.loopW (n:=(cB ((size+3) / 4) l).length) (fun q s=> ∃i:Nat,q=(cB ((size+3) / 4) l).length - i∧i≤(cB ((size+3) / 4) l).length∧(∀j,j<i→((cB ((size+3) / 4) l).getD j []).length≠0)∧s=[tI 0 size,tD 6 (.sl (aX (cB ((size+3) / 4) l))),tD 7 (.s (sW (cB ((size+3) / 4) l) (i))),tI 8 (i:Nat)]) ?_ ?_)))))))))
 · refine wq (σ':=[tI 0 size,tD 6 (.sl (aX (cB ((size+3) / 4) l))),tD 7 (.s (sW (cB ((size+3) / 4) l) (0))),tI 8 (0:Nat)]) [] [] (⟨0,rfl,aV5 _,fun j h=>absurd h (by omega),rfl⟩) ?_
   repeat' apply ai
   all_goals first|exact qx|rfl|exact qz
 rintro n s ⟨i,rfl,hi,hk,rfl⟩
 refine sq (sq (rT [0,6,7,8,20] (s4 (cd rfl (fun c20=> ?_) fun c20=> ?_))))
 · have hi2:i< (cB ((size+3) / 4) l).length:=by simp[aM] at c20;omega
   have hg:=eN (l:=(cB ((size+3) / 4) l)) hi2
   have hsu:=zN hi2
   have hli:=hle i
   have h4:=hko.at hi2
   refine sk (sq (bk (sq (sq (rT [0,6,7,8,27] (s2 (ai (by rw[aVy,hg];exact⟨⟨by omega,by rw[aM];omega⟩,rfl⟩) (ai (by rw[aVy,hg];exact⟨aV0 rfl,rfl⟩) (s1 (cd rfl (fun c27=> ?_) fun c27=> ?_))))))))))
   · have he: (cB ((size+3) / 4) l).getD i []=[]:=by
      have h9:=c27
      rw[aVy,hg] at h9
      exact beq_iff_eq.1 h9
     refine sq (rT [4,5] (s2 (rt ?_)))
     have hr:=ld hin (fh hi2 he)
     refine bU rfl rfl ?_
     rw[hr]<;>rfl
   have hs: ((cB ((size+3) / 4) l).getD i []).length≠0:=by
    have h9:=c27
    rw[aVy,hg] at h9
    intro e
    rw[List.eq_nil_of_length_eq_zero e] at h9
    exact absurd h9 (by decide)
   refine sk (rT [0,6,7,8] (s3 (ai (by rw[aVy,hg];exact⟨⟨by omega,by rw[aM];omega⟩,rfl⟩) (ai (by rw[aVy,hg];exact⟨aV0 rfl,rfl⟩) (ai (by rw[aVy,hg];show _+((cB ((size+3) / 4) l).getD i []).length≤9223372036854775807;omega) (s1 (rT [0,6,7,8] (s3 (wq [] [] (⟨(cB ((size+3) / 4) l).length - (i+1),by omega,i+1,rfl,by omega,fun j h=>by by_cases e:j=i;exact e▸hs;exact hk j (by omega),rfl⟩) ?_)))))))))
   repeat' apply ai
   all_goals first|exact qx|exact congrArg D.i (by rw[aB (by omega)];omega)|(rw[hsu,aVy,hg];rfl)|exact qz
 have hi3:i=(cB ((size+3) / 4) l).length:=by simp[aM] at c20;omega
 subst hi3
 have hae:=zO hk
 have hal:=wo hko.2 (aWa _) hk
 rw[ef] at hal
 clear hi hk
 refine xt (sq (sq (rT [0,7,9] (s2 (bk (SW.loopW (n:=(jE (cB ((size+3) / 4) l)).length - size.toNat) (fun q s=> ∃i:Nat,q=(jE (cB ((size+3) / 4) l)).length - i∧(size.toNat≤i∧i≤(jE (cB ((size+3) / 4) l)).length)∧(∀j,size.toNat≤j→j<i→(jE (cB ((size+3) / 4) l)).getD j 0=0)∧s=[tI 0 size,tD 7 (.s (jE (cB ((size+3) / 4) l))),tI 9 (i:Nat)]) ?_ ?_))))))
 · have hss:size.toNat≤(jE (cB ((size+3) / 4) l)).length:=by omega
   refine wq [] [] (⟨size.toNat,rfl,by omega,fun j h1 h2=>absurd h1 (by omega),rfl⟩) ?_
   repeat' apply ai
   all_goals first|exact qx|exact congrArg D.i (by omega)|(rw[ef];done)|exact qz
 rintro n s ⟨i,rfl,hi,hk,rfl⟩
 refine sq (sq (rT [0,7,9,38] (s4 (cd rfl (fun c38=> ?_) fun c38=> ?_))))
 · have hi2:i< (jE (cB ((size+3) / 4) l)).length:=by simp at c38;omega
   refine sk (sq (bk (sq (rT [0,7,9,44] (s2 (ai (by omega) (s1 (cd rfl (fun c44=> ?_) fun c44=> ?_))))))))
   · have hnz: (jE (cB ((size+3) / 4) l)).getD i 0≠0:=by
      intro e
      have h9:=c44
      rw[aVy,e] at h9
      exact absurd h9 (by decide)
     refine sq (rT [4,5] (s2 (rt ?_)))
     have hr:=lf hin hae (lc hi.1 hi2 hnz)
     refine bU rfl rfl ?_
     rw[hr]<;>rfl
   have hs: (jE (cB ((size+3) / 4) l)).getD i 0=0:=by
    have h9:=c44
    rw[aVy] at h9
    have h11: (((jE (cB ((size+3) / 4) l)).getD i 0).toNat:Int)=0:=by simpa only[bne_eq_false_iff_eq] using h9
    apply UInt8.toNat_inj.1
    have h6: (0:UInt8).toNat=0:=rfl
    omega
   refine sk (rT [0,7,9] (s3 (wq [] [] (⟨(jE (cB ((size+3) / 4) l)).length - (i+1),by omega,i+1,rfl,by omega,fun j h1 h2=>by by_cases e:j=i;exact e▸hs;exact hk j h1 (by omega),rfl⟩) ?_)))
   repeat' apply ai
   all_goals first|exact qx|exact congrArg D.i (by rw[aB (by omega)];omega)|exact qz
 have hi3:i=(jE (cB ((size+3) / 4) l)).length:=by simp at c38;omega
 have hz:=qv (n:=size.toNat) (fun j h1 h2=>hk j h1 (by omega))
 refine xt (sq (rT [4,5] (s2 (ai (by simp[mu,eK,fM];omega) (s2 (rt ?_))))))
 have hr:=ck hin hae hz
 refine bU rfl rfl ?_
 rw[hr]<;>rfl
theorem xo (b:Int) (l:List gC) (hl:l.length≤1000000):Sp 128 2 [tI 0 b,tD 1 (.sl (cC l))] [tD 0 (.sl (aX (cB b l)))]:=by
 refine sb Tryz.func128 rfl (sq (rT [0,1] (s1 (sq (sq (rT [0,1,16] (s1 (xp (dW _ _ _) (ai rfl ?_)))))))))
 refine s1 (cd rfl (fun c16=> ?_) fun c16=> ?_)
 · have hno: ¬fG b 1 6=true:=by simpa using c16
   refine sq (rT [4] (s1 (rt (dQ _ [] [] rfl (bq rfl (congrArg D.sl ?_) trivial) rfl rfl))))
   rw[wm hno];rfl
 have hin:fG b 1 6=true:=by simpa using c16
 have hb:1≤b∧b≤6:=by simpa[fG] using hin
 have hst:=xT.start (b:=b) (by omega)
 refine sk (sq (rT [0,1,5] (s1 (ai (by refine⟨rfl,by omega,?_⟩;show((16:Nat):Int)*_≤_;omega) (s1 (sq (sq (rT [0,1,5,6] (s1 (bk (SW.loopW (n:=sV (List.replicate b.toNat ([]:List UInt8))+1) (fun q s=> ∃(kn:List (List UInt8)) (ag:Bool),q=(if ag then sV kn+1 else 0)∧xT b kn∧(ag=true→oM b l 7 kn=cB b l)∧(ag=false→kn=cB b l)∧s=[tI 0 b,tD 1 (.sl (cC l)),tO 5 18 b.toNat,tB 6 (ag),oR 18 9 1 (aX (kn))]) ?_ ?_)))))))))))
 · refine wq (σ':=[tI 0 b,tD 1 (.sl (cC l)),tO 5 18 b.toNat,tB 6 (true),oR 18 9 1 (aX (List.replicate b.toNat []))]) [] [] (⟨_,true,rfl,hst,fun _=>(if_pos hin).symm,fun h=>(by cases h),rfl⟩) ?_
   repeat' apply ai
   all_goals first|exact qx|rfl|(simp[aX];done)|exact qz
 rintro n s ⟨kn,ag,rfl,hk,hp1,hp2,rfl⟩
 refine sq (sq (rT [0,1,5,19] (s1 (cd rfl (fun c19=> ?_) fun c19=> ?_))))
 · have hag:ag=true:=c19
   have hgo:=hp1 hag
   refine sk (bk (sq (rT [0,1,5,6] (s1 (sq (rT [0,1,5,6,20,21,22] (s3 (bk (SW.loopW (n:=l.length) (fun q s=> ∃i:Nat,q=l.length - i∧i≤l.length∧s=[tI 0 b,tD 1 (.sl (cC l)),tO 5 18 b.toNat,tB 6 (bD b (l.take i) (kn,false)).2,tD 20 (.sl (cC l)),tI 21 (l.length:Nat),tI 22 (i:Nat),oR 18 9 1 (aX ((bD b (l.take i) (kn,false)).1))]) ?_ ?_)))))))))
   · refine wq (σ':=[tI 0 b,tD 1 (.sl (cC l)),tO 5 18 b.toNat,tB 6 (bD b (l.take 0) (kn,false)).2,tD 20 (.sl (cC l)),tI 21 (l.length:Nat),tI 22 (0:Nat),oR 18 9 1 (aX ((bD b (l.take 0) (kn,false)).1))]) [] [] (⟨0,rfl,aV5 _,rfl⟩) ?_
     repeat' apply ai
     all_goals first|exact qx|rfl|(rw[bI];done)|exact qz
   rintro n s ⟨i,rfl,hi,rfl⟩
   refine sq (rT [0,1,5,6,20,21,22,23] (s1 (sq (cd rfl (fun c23=> ?_) fun c23=> ?_))))
   · have hi2:i<l.length:=by simp at c23;omega
     have hg:=lR (l:=l) hi2
     have hki:=(nS (l:=l.take i) (s:=(kn,false)) hk).1
     have hsn:=uJ (b:=b) (m:=(l.getD i .zero)) (l:=l.take i) (s:=(kn,false))
     rw[← fB (z:=gC.zero) hi2] at hsn
     have hkl:=hki.1
     refine sk (sq (bk (sq (rT [0,1,5,6,8,20,21,22] (ai (by rw[aVy,hg];exact⟨⟨by omega,by rw[bI];omega⟩,rfl⟩) (ai (by rw[aVy,hg];exact⟨aV0 rfl,rfl⟩) (s2 (sq (sq (wa [tI 0 b,tD 1 (.sl (cC l)),tO 5 18 b.toNat,tB 6 (bD b (l.take i) (kn,false)).2,tD 20 (.sl (cC l)),tI 21 (l.length:Nat),tI 22 (i:Nat),tP 8 8,oB 8 86 [.d (.i (l.getD i .zero).num),.d (.s (l.getD i .zero).data)],oR 18 9 1 (aX ((bD b (l.take i) (kn,false)).1))] [] [] ?_ ?_))))))))))
     · repeat' apply ai
       all_goals first|exact qx|(rw[aVy,hg];rfl)|exact qz
     refine rT [0,1,5,6,8,20,21,22,35] (s2 (xp (dW _ _ _) (ai rfl ?_)))
     refine s2 (y4 (ai pk (cd rfl (fun c35=> ?_) fun c35=> ?_)))
     · have hmx:oD b (l.getD i .zero)=false:=aBl hb c35
       have hpo:fI b (bD b (l.take i) (kn,false)).1 (l.getD i .zero)=((bD b (l.take i) (kn,false)).1,false):=by unfold fI;rw[hmx];rfl
       rw[hpo] at hsn
       refine xt (rT [0,1,5,6,20,21,22] (s2 (wq [] [] (⟨l.length - (i+1),by omega,i+1,rfl,by omega,rfl⟩) ?_)))
       repeat' apply ai
       all_goals first|exact qx|exact congrArg D.i (by rw[aB (by omega)];omega)|(rw[hsn];done)|(rw[hsn,Bool.or_false];done)|(rw[hsn,Bool.or_true];done)|(rw[hsn,aWd,hlast];exact ee (by omega))|exact qz
     have hmx:oD b (l.getD i .zero)=true:=aBl hb c35
     have hm4: (l.getD i .zero).data.length=4:=qu hmx
     refine sk (sq (rT [0,1,5,6,8,9,10,11,20,21,22] (s5 (sq (sq (rT [0,1,5,6,9,10,11,20,21,22,41,42,43] (s3 (xp (lu b (l.getD i .zero).num) (ai rfl ?_)))))))))
     refine s2 (bk (SW.loopW (n:=(bK b (l.getD i .zero).num).length) (fun q s=> ∃j:Nat,q=(bK b (l.getD i .zero).num).length - j∧j≤(bK b (l.getD i .zero).num).length∧s=[tI 0 b,tD 1 (.sl (cC l)),tO 5 18 b.toNat,tB 6 (bD b (l.take i) (kn,false)).2,tD 9 (.s (lN (bD b (l.take i) (kn,false)).1 (l.getD i .zero).data ((bK b (l.getD i .zero).num).take j))),tI 10 ((fD (bD b (l.take i) (kn,false)).1 ((bK b (l.getD i .zero).num).take j)).getLastD (-1)),tI 11 ((fD (bD b (l.take i) (kn,false)).1 ((bK b (l.getD i .zero).num).take j)).length:Nat),tD 20 (.sl (cC l)),tI 21 (l.length:Nat),tI 22 (i:Nat),tD 41 (.sl (bX (bK b (l.getD i .zero).num))),tI 42 ((bK b (l.getD i .zero).num).length:Nat),tI 43 (j:Nat),oB 8 86 [.d (.i (l.getD i .zero).num),.d (.s (l.getD i .zero).data)],oR 18 9 1 (aX ((bD b (l.take i) (kn,false)).1))]) ?_ ?_))
     · refine wq (σ':=[tI 0 b,tD 1 (.sl (cC l)),tO 5 18 b.toNat,tB 6 (bD b (l.take i) (kn,false)).2,tD 9 (.s (lN (bD b (l.take i) (kn,false)).1 (l.getD i .zero).data ((bK b (l.getD i .zero).num).take 0))),tI 10 ((fD (bD b (l.take i) (kn,false)).1 ((bK b (l.getD i .zero).num).take 0)).getLastD (-1)),tI 11 ((fD (bD b (l.take i) (kn,false)).1 ((bK b (l.getD i .zero).num).take 0)).length:Nat),tD 20 (.sl (cC l)),tI 21 (l.length:Nat),tI 22 (i:Nat),tD 41 (.sl (bX (bK b (l.getD i .zero).num))),tI 42 ((bK b (l.getD i .zero).num).length:Nat),tI 43 (0:Nat),oB 8 86 [.d (.i (l.getD i .zero).num),.d (.s (l.getD i .zero).data)],oR 18 9 1 (aX ((bD b (l.take i) (kn,false)).1))]) [] [] (⟨0,rfl,aV5 _,rfl⟩) ?_
       repeat' apply ai
       all_goals first|exact qx|rfl|(rw[bS];done)|exact qz
     rintro n s ⟨j,rfl,hj,rfl⟩
     refine sq (rT [0,1,5,6,9,10,11,20,21,22,41,42,43,44] (s1 (sq (cd rfl (fun c44=> ?_) fun c44=> ?_))))
     · have hj2:j< (bK b (l.getD i .zero).num).length:=by have h9:=of_decide_eq_true c44;omega
       have hml:=uE b (l.getD i .zero).num
       have hts:=fB (z:=(0:Int)) hj2
       have hio:=eW (l:=(bK b (l.getD i .zero).num)) (i:=j) hj2
       have hjr:=nO ((bK b (l.getD i .zero).num).getD j 0) (dH hj2)
       have hj3: ((bK b (l.getD i .zero).num).getD j 0)< ((bD b (l.take i) (kn,false)).1.length:Int):=by omega
       have hsr:=eN (l:=(bD b (l.take i) (kn,false)).1) (i:=((bK b (l.getD i .zero).num).getD j 0).toNat) (by omega)
       have hat:=hki.at (j:=((bK b (l.getD i .zero).num).getD j 0).toNat) (by omega)
       have hlj: (fD (bD b (l.take i) (kn,false)).1 ((bK b (l.getD i .zero).num).take j)).length≤6:=Nat.le_trans (List.length_filter_le _ _) (by rw[aV4];omega)
       refine sk (sq (bk (sq (rT [0,1,5,6,9,10,11,13,20,21,22,41,42,43] (ai (by rw[aVy,hio];exact⟨⟨by omega,by rw[bS];omega⟩,rfl⟩) (ai (by rw[aVy,hio];exact⟨aV0 rfl,rfl⟩) (s1 (sq (wa [tI 0 b,tD 1 (.sl (cC l)),tO 5 18 b.toNat,tB 6 (bD b (l.take i) (kn,false)).2,tD 9 (.s (lN (bD b (l.take i) (kn,false)).1 (l.getD i .zero).data ((bK b (l.getD i .zero).num).take j))),tI 10 ((fD (bD b (l.take i) (kn,false)).1 ((bK b (l.getD i .zero).num).take j)).getLastD (-1)),tI 11 ((fD (bD b (l.take i) (kn,false)).1 ((bK b (l.getD i .zero).num).take j)).length:Nat),tI 13 ((bK b (l.getD i .zero).num).getD j 0),tD 20 (.sl (cC l)),tI 21 (l.length:Nat),tI 22 (i:Nat),tD 41 (.sl (bX (bK b (l.getD i .zero).num))),tI 42 ((bK b (l.getD i .zero).num).length:Nat),tI 43 (j:Nat),oB 8 86 [.d (.i (l.getD i .zero).num),.d (.s (l.getD i .zero).data)],oR 18 9 1 (aX ((bD b (l.take i) (kn,false)).1))] [] [] ?_ ?_)))))))))
       · repeat' apply ai
         all_goals first|exact qx|(rw[aVy,hio];rfl)|exact qz
       refine rT [0,1,5,6,9,10,11,13,20,21,22,41,42,43,51] (s2 (ai (by exact⟨by rw[aM];omega,hjr.1,by omega⟩) (ai (by rw[hsr];exact⟨⟨by rw[aM];omega,by omega⟩,aWa _,rfl⟩) (s1 (cd rfl (fun c51=> ?_) fun c51=> ?_)))))
       · have hu:unk (bD b (l.take i) (kn,false)).1 ((bK b (l.getD i .zero).num).getD j 0)=true:=by
          have h9:=c51
          rw[hsr] at h9
          have h9: (((bD b (l.take i) (kn,false)).1.getD ((bK b (l.getD i .zero).num).getD j 0).toNat [])==[])=true:=h9
          unfold unk;rw[beq_iff_eq.1 h9];rfl
         have hL:=cj (ks:=(bK b (l.getD i .zero).num).take j) hu
         have hX:=aBi (x:=(l.getD i .zero).data) (ks:=(bK b (l.getD i .zero).num).take j) hu
         refine sq (rT [0,1,5,6,9,10,11,20,21,22,41,42,43] (s2 (rT [0,1,5,6,9,10,11,20,21,22,41,42,43] (s3 (rT [0,1,5,6,9,10,11,20,21,22,41,42,43] (s2 (wq [] [] (⟨(bK b (l.getD i .zero).num).length - (j+1),by omega,j+1,rfl,by omega,rfl⟩) ?_)))))))
         repeat' apply ai
         all_goals first|exact qx|exact congrArg D.i (by rw[aB (by omega)];omega)|(rw[hts,hX];done)|(rw[hts,hL];done)|(rw[hts,hL,aBj];done)|(rw[hts,hL,aVz,aB (by omega)];rfl)|(rw[hts,hX,hsr];rfl)|exact qz
       have hne: ¬((bD b (l.take i) (kn,false)).1.getD ((bK b (l.getD i .zero).num).getD j 0).toNat [])=[]:=by
        have h9:=c51
        rw[hsr] at h9
        have h9: (((bD b (l.take i) (kn,false)).1.getD ((bK b (l.getD i .zero).num).getD j 0).toNat [])==[])=false:=h9
        exact beq_eq_false_iff_ne.1 h9
       have hu:unk (bD b (l.take i) (kn,false)).1 ((bK b (l.getD i .zero).num).getD j 0)=false:=by unfold unk;simpa using hne
       have h4: ((bD b (l.take i) (kn,false)).1.getD ((bK b (l.getD i .zero).num).getD j 0).toNat []).length=4:=by rcases hat with h9|h9;exact absurd (List.eq_nil_of_length_eq_zero h9) hne;exact h9
       have hL:=ff (ks:=(bK b (l.getD i .zero).num).take j) hu
       have hX:=aFj (x:=(l.getD i .zero).data) (ks:=(bK b (l.getD i .zero).num).take j) hu
       refine rT [0,1,5,6,9,10,11,20,21,22,41,42,43] (s3 (ai (by exact⟨by rw[aM];omega,hjr.1,by omega⟩) (ai (by rw[hsr];exact⟨⟨by rw[aM];omega,by omega⟩,aWa _,rfl⟩) (xp (lx (lN (bD b (l.take i) (kn,false)).1 (l.getD i .zero).data ((bK b (l.getD i .zero).num).take j)) ((bD b (l.take i) (kn,false)).1.getD ((bK b (l.getD i .zero).num).getD j 0).toNat []) (uI hm4) h4) (ai (by rw[hsr];rfl) ?_)))))
       refine s1 (rT [0,1,5,6,9,10,11,20,21,22,41,42,43] (s2 (wq [] [] (⟨(bK b (l.getD i .zero).num).length - (j+1),by omega,j+1,rfl,by omega,rfl⟩) ?_)))
       repeat' apply ai
       all_goals first|exact qx|exact congrArg D.i (by rw[aB (by omega)];omega)|(rw[hts,hX];done)|(rw[hts,hL];done)|(rw[hts,hL,aBj];done)|(rw[hts,hL,aVz,aB (by omega)];rfl)|(rw[hts,hX,hsr];rfl)|exact qz
     have hj4:j=(bK b (l.getD i .zero).num).length:=by have h9:=of_decide_eq_false c44;omega
     subst hj4
     clear hj
     refine xt (sq (rT [0,1,5,6,9,10,20,21,22,63] (s2 (cd rfl (fun c63=> ?_) fun c63=> ?_))))
     · have hlen: (fD (bD b (l.take i) (kn,false)).1 (bK b (l.getD i .zero).num)).length=1:=by have h9:=aN1 c63;rw[aWd] at h9;exact h9
       have hlast: (fD (bD b (l.take i) (kn,false)).1 (bK b (l.getD i .zero).num)).getLastD (-1)=(fD (bD b (l.take i) (kn,false)).1 (bK b (l.getD i .zero).num)).getD 0 0:=aN0 hlen
       have hpo:fI b (bD b (l.take i) (kn,false)).1 (l.getD i .zero)=((bD b (l.take i) (kn,false)).1.set ((fD (bD b (l.take i) (kn,false)).1 (bK b (l.getD i .zero).num)).getD 0 0).toNat (lN (bD b (l.take i) (kn,false)).1 (l.getD i .zero).data (bK b (l.getD i .zero).num)),true):=by unfold fI;rw[hmx,hlen];rfl
       rw[hpo] at hsn
       have hlr:=nO _ (ed (dH (z:=(0:Int)) (l:=(fD (bD b (l.take i) (kn,false)).1 (bK b (l.getD i .zero).num))) (i:=0) (by omega))).1
       have hsg:=eN (l:=(bD b (l.take i) (kn,false)).1) (i:=((fD (bD b (l.take i) (kn,false)).1 (bK b (l.getD i .zero).num)).getD 0 0).toNat) (by omega)
       refine sq (rT [0,1,5,20,21,22] (s3 (ai (by rw[aWd,hlast];exact⟨by rw[aM];omega,hlr.1,by have:=hlr.2;omega⟩) (ai (by rw[aWd,hlast,hsg];exact⟨by rw[aM];omega,by have:=hlr.2;omega,rfl,aWa _⟩) (rT [0,1,5,6,20,21,22] (s1 (rT [0,1,5,6,20,21,22] (s2 (wq [] [] (⟨l.length - (i+1),by omega,i+1,rfl,by omega,rfl⟩) ?_)))))))))
       repeat' apply ai
       all_goals first|exact qx|exact congrArg D.i (by rw[aB (by omega)];omega)|(rw[hsn];done)|(rw[hsn,Bool.or_false];done)|(rw[hsn,Bool.or_true];done)|(rw[hsn,aWd,hlast];exact ee (by omega))|exact qz
     have hlen: ¬(fD (bD b (l.take i) (kn,false)).1 (bK b (l.getD i .zero).num)).length=1:=by have h9:=wj c63;rw[aWd] at h9;exact h9
     have hpo:fI b (bD b (l.take i) (kn,false)).1 (l.getD i .zero)=((bD b (l.take i) (kn,false)).1,false):=by unfold fI;rw[hmx,beq_eq_false_iff_ne.2 hlen];rfl
     rw[hpo] at hsn
     refine sk (rT [0,1,5,6,20,21,22] (s2 (wq [] [] (⟨l.length - (i+1),by omega,i+1,rfl,by omega,rfl⟩) ?_)))
     repeat' apply ai
     all_goals first|exact qx|exact congrArg D.i (by rw[aB (by omega)];omega)|(rw[hsn];done)|(rw[hsn,Bool.or_false];done)|(rw[hsn,Bool.or_true];done)|(rw[hsn,aWd,hlast];exact ee (by omega))|exact qz
   have hi3:i=l.length:=by simp at c23;omega
   subst hi3
   clear hi
   refine xt ?_
   rw[aWd]
   cases hrr: (bD b l (kn,false)).2 with
   |true=>
    obtain⟨g1,g2,g3⟩:=aI4 hb.2 hk hrr
    refine wk [tI 0 b,tD 1 (.sl (cC l)),tO 5 18 b.toNat,tB 6 (true),oR 18 9 1 (aX ((bD b l (kn,false)).1))] [] [] (⟨_,by rw[hag];simpa using g2,_,true,rfl,g3,fun _=>by rw[← g1];exact hgo,fun h=>(by cases h),rfl⟩) ?_ rfl rfl
    repeat' first|exact trivial|refine gQ rfl ?_|refine cJ rfl ?_ ?_|refine fN rfl rfl ?_ rfl ?_|refine bR rfl ?_ ?_|refine bQ rfl rfl rfl rfl ?_|refine aS rfl ?_ ?_|refine dB rfl ?_ ?_|exact aG|refine aC ?_ ?_|refine fF ?_|refine bJ rfl ?_ rfl ?_|refine dD rfl rfl rfl ?_
    all_goals first|with_reducible rfl|(first|with_reducible rfl|(rw[hrr];done))
   |false=>
    have ge:=aFk hrr
    refine wk [tI 0 b,tD 1 (.sl (cC l)),tO 5 18 b.toNat,tB 6 (false),oR 18 9 1 (aX ((bD b l (kn,false)).1))] [] [] (⟨_,by rw[hag];simp,_,false,rfl,(nS (l:=l) (s:=(kn,false)) hk).1,fun h=>(by cases h),fun _=>by rw[← ge];exact hgo,rfl⟩) ?_ rfl rfl
    repeat' first|exact trivial|refine gQ rfl ?_|refine cJ rfl ?_ ?_|refine fN rfl rfl ?_ rfl ?_|refine bR rfl ?_ ?_|refine bQ rfl rfl rfl rfl ?_|refine aS rfl ?_ ?_|refine dB rfl ?_ ?_|exact aG|refine aC ?_ ?_|refine fF ?_|refine bJ rfl ?_ rfl ?_|refine dD rfl rfl rfl ?_
    all_goals first|with_reducible rfl|(first|with_reducible rfl|(rw[hrr];done))
 have hag:ag=false:=c19
 have hfin:=hp2 hag
 refine xt (sq (rT [4] (s2 (rt (dQ _ [] [18] rfl (eD rfl rfl rfl ?_ (congrArg D.sl ?_) trivial) rfl rfl)))))
 · rw[aM];have:=hk.1;omega
 rw[hfin]
theorem xq (size:Int) (l:List gC) (hl:l.length≤1000000):Sp 58 2 [tI 0 size,tD 1 (.sl (cC l))] [tV 0 (.tup [.c (.d (.s (dK size l).1)),.c (.d (.b (dK size l).2))])]:=by
 refine sb Tryz.func58 rfl (sq (rT [0,1] (s2 (sq (sq (rT [0,1,12] (s1 (xp (dW _ _ _) (ai rfl ?_)))))))))
 refine s1 (cd rfl (fun c12=> ?_) fun c12=> ?_)
 · have hno: ¬fG size 1 24=true:=by simpa using c12
   refine sq (rT [4,5] (s2 (rt ?_)))
   have hr:=qw (l:=l) hno
   refine bU rfl rfl ?_
   rw[hr]<;>rfl
 have hin:fG size 1 24=true:=by simpa using c12
 have hs2:1≤size∧size≤24:=by simpa[fG] using hin
 have hko:=wl (b:=(size+3) / 4) (l:=l) (by omega)
 have hk1:=hko.1
 have hle:=fun i=>wn hko.2 (i:=i)
 have hbk:Int.tdiv (wrap64 (wrap64 (size+4) - 1)) 4=(size+3) / 4:=by rw[aB (n:=size+4) (by omega),aB (by omega),Int.tdiv_eq_ediv_of_nonneg (by omega),show size+4 - 1=size+3 by omega]
 have hbk2:wrap64 (Int.tdiv (wrap64 (wrap64 (size+4) - 1)) 4)=(size+3) / 4:=by rw[hbk];exact aB (by omega)
 refine sk (sq (rT [0,1,6] (s1 (sq (sq (rT [0,6,18,19,20] (s3 (ai (by decide) (s1 (xp (xo ((size+3) / 4) l hl) (ai (by first|(rw[hbk2];rfl)|(rw[hbk];rfl)) ?_)))))))))))
 refine s2 (bk (SW.loopW (n:=(cB ((size+3) / 4) l).length) (fun q s=> ∃i:Nat,q=(cB ((size+3) / 4) l).length - i∧i≤(cB ((size+3) / 4) l).length∧(∀j,j<i→((cB ((size+3) / 4) l).getD j []).length≠0)∧s=[tI 0 size,tD 6 (.s (sW (cB ((size+3) / 4) l) (i))),tD 18 (.sl (aX (cB ((size+3) / 4) l))),tI 19 ((cB ((size+3) / 4) l).length:Nat),tI 20 (i:Nat)]) ?_ ?_))
 · refine wq (σ':=[tI 0 size,tD 6 (.s (sW (cB ((size+3) / 4) l) (0))),tD 18 (.sl (aX (cB ((size+3) / 4) l))),tI 19 ((cB ((size+3) / 4) l).length:Nat),tI 20 (0:Nat)]) [] [] (⟨0,rfl,aV5 _,fun j h=>absurd h (by omega),rfl⟩) ?_
   repeat' apply ai
   all_goals first|exact qx|rfl|(rw[aM];done)|exact qz
 rintro n s ⟨i,rfl,hi,hk,rfl⟩
 refine sq (rT [0,6,18,19,20,21] (s1 (sq (cd rfl (fun c21=> ?_) fun c21=> ?_))))
 · have hi2:i< (cB ((size+3) / 4) l).length:=by have h9:=of_decide_eq_true c21;omega
   have hg:=eN (l:=(cB ((size+3) / 4) l)) hi2
   have hsu:=zN hi2
   have hli:=hle i
   have h4:=hko.at hi2
   refine sk (sq (bk (sq (rT [0,6,8,18,19,20] (ai (by rw[aVy,hg];exact⟨⟨by omega,by rw[aM];omega⟩,rfl⟩) (ai (by rw[aVy,hg];exact⟨aV0 rfl,rfl⟩) (s1 (sq (sq (wa [tI 0 size,tD 6 (.s (sW (cB ((size+3) / 4) l) (i))),tD 8 (.s ((cB ((size+3) / 4) l).getD i [])),tD 18 (.sl (aX (cB ((size+3) / 4) l))),tI 19 ((cB ((size+3) / 4) l).length:Nat),tI 20 (i:Nat)] [] [] ?_ ?_))))))))))
   · repeat' apply ai
     all_goals first|exact qx|(rw[aVy,hg];rfl)|exact qz
   refine rT [0,6,8,18,19,20,25] (s2 (cd rfl (fun c25=> ?_) fun c25=> ?_))
   · have he: (cB ((size+3) / 4) l).getD i []=[]:=beq_iff_eq.1 c25
     refine sq (rT [4,5] (s2 (rt ?_)))
     have hr:=ld hin (fh hi2 he)
     refine bU rfl rfl ?_
     rw[hr]<;>rfl
   have hs: ((cB ((size+3) / 4) l).getD i []).length≠0:=by
    have h9:=c25
    intro e
    rw[List.eq_nil_of_length_eq_zero e] at h9
    exact absurd h9 (by decide)
   refine sk (rT [0,6,18,19,20] (s2 (ai (by show _+((cB ((size+3) / 4) l).getD i []).length≤9223372036854775807;omega) (s1 (rT [0,6,18,19,20] (s2 (wq [] [] (⟨(cB ((size+3) / 4) l).length - (i+1),by omega,i+1,rfl,by omega,fun j h=>by by_cases e:j=i;exact e▸hs;exact hk j (by omega),rfl⟩) ?_)))))))
   repeat' apply ai
   all_goals first|exact qx|exact congrArg D.i (by rw[aB (by omega)];omega)|(rw[hsu];done)|exact qz
 have hi3:i=(cB ((size+3) / 4) l).length:=by have h9:=of_decide_eq_false c21;omega
 subst hi3
 have hae:=zO hk
 have hal:=wo hko.2 (aWa _) hk
 rw[ef] at hal
 clear hi hk
 refine xt (sq (sq (rT [0,6,9] (s2 (bk (SW.loopW (n:=(jE (cB ((size+3) / 4) l)).length - size.toNat) (fun q s=> ∃i:Nat,q=(jE (cB ((size+3) / 4) l)).length - i∧(size.toNat≤i∧i≤(jE (cB ((size+3) / 4) l)).length)∧(∀j,size.toNat≤j→j<i→(jE (cB ((size+3) / 4) l)).getD j 0=0)∧s=[tI 0 size,tD 6 (.s (jE (cB ((size+3) / 4) l))),tI 9 (i:Nat)]) ?_ ?_))))))
 · have hss:size.toNat≤(jE (cB ((size+3) / 4) l)).length:=by omega
   refine wq [] [] (⟨size.toNat,rfl,by omega,fun j h1 h2=>absurd h1 (by omega),rfl⟩) ?_
   repeat' apply ai
   all_goals first|exact qx|exact congrArg D.i (by omega)|(rw[ef];done)|exact qz
 rintro n s ⟨i,rfl,hi,hk,rfl⟩
 refine sq (sq (rT [0,6,9,34] (s4 (cd rfl (fun c34=> ?_) fun c34=> ?_))))
 · have hi2:i< (jE (cB ((size+3) / 4) l)).length:=by have h9:=of_decide_eq_true c34;omega
   refine sk (sq (bk (sq (rT [0,6,9,40] (s2 (ai (by omega) (s1 (cd rfl (fun c40=> ?_) fun c40=> ?_))))))))
   · have hnz: (jE (cB ((size+3) / 4) l)).getD i 0≠0:=by
      intro e
      have h9:=c40
      rw[aVy,e] at h9
      exact absurd h9 (by decide)
     refine sq (rT [4,5] (s2 (rt ?_)))
     have hr:=lf hin hae (lc hi.1 hi2 hnz)
     refine bU rfl rfl ?_
     rw[hr]<;>rfl
   have hs: (jE (cB ((size+3) / 4) l)).getD i 0=0:=by
    have h9:=c40
    rw[aVy] at h9
    have h11: (((jE (cB ((size+3) / 4) l)).getD i 0).toNat:Int)=0:=by simpa only[bne_eq_false_iff_eq] using h9
    apply UInt8.toNat_inj.1
    have h6: (0:UInt8).toNat=0:=rfl
    omega
   refine sk (rT [0,6,9] (s3 (wq [] [] (⟨(jE (cB ((size+3) / 4) l)).length - (i+1),by omega,i+1,rfl,by omega,fun j h1 h2=>by by_cases e:j=i;exact e▸hs;exact hk j h1 (by omega),rfl⟩) ?_)))
   repeat' apply ai
   all_goals first|exact qx|exact congrArg D.i (by rw[aB (by omega)];omega)|exact qz
 have hi3:i=(jE (cB ((size+3) / 4) l)).length:=by have h9:=of_decide_eq_false c34;omega
 have hz:=qv (n:=size.toNat) (fun j h1 h2=>hk j h1 (by omega))
 refine xt (sq (rT [4,5] (s2 (ai (by simp[mu,eK,fM];omega) (s2 (rt ?_))))))
 have hr:=ck hin hae hz
 refine bU rfl rfl ?_
 rw[hr]<;>rfl
theorem xr (f:cI):Sp 60 1 [tV 0 f.V] [tB 0 (dJ f)]:=by
 refine sb Tryz.func60 rfl (sq (rT [1] (s2 (sq (sq (rT [1,36] (s2 (xp (eP _) (ai rfl ?_)))))))))
 refine s2 (y2 (xc (fun h=>(eP _)) (ai rfl (ai rk ?_))))
 refine y1 (ai pk (s1 (y2 (xc (fun h=>(eP _)) (ai rfl (ai rk ?_))))))
 refine y1 (ai pk (s1 (y2 (xc (fun h=>(eP _)) (ai rfl (ai rk ?_))))))
 refine y1 (ai pk (s1 (y2 (xc (fun h=>(dW _ _ _)) (ai rfl (ai rk ?_))))))
 refine y1 (ai pk (s1 (y2 (xc (fun h=>(dW _ _ _)) (ai rfl (ai rk ?_))))))
 refine y1 (ai pk (cd rfl (fun c36=> ?_) fun c36=> ?_))
 · refine sq (rT [2] (s1 (rt (bL rfl (congrArg D.b (Bool.eq_iff_iff.2 ?_))))))
   simp only[dJ,gb,aV1,Bool.or_eq_false_iff,Bool.not_eq_false,Bool.or_eq_true,Bool.not_eq_true,beq_iff_eq,decide_eq_true_eq,bne_iff_ne,Bool.not_eq_true,List.length_eq_zero_iff,beq_eq_false_iff_ne,bne_eq_false_iff_eq] at*
   grind[fG]
 refine sk (sq (sq (rT [1,38] (s2 (bk (sq (rT [1,38,39] (s2 (cd rfl (fun c39=> ?_) fun c39=> ?_)))))))))
 · refine sq (rD [2] (s2 (xp (dW _ _ _) (ai rfl ?_))))
   refine s1 (y2 (xc (fun h=>(dW _ _ _)) (ai rfl (ai rk ?_))))
   refine ai pk (s1 (y4 (ai pk (s1 (y4 (y2 (xc (fun h=>(pE _ _)) (ai rfl (ai rk ?_)))))))))
   refine y1 (ai pk (s1 (ai (by kernel_rfl) (rt (bL rfl (congrArg D.b (Bool.eq_iff_iff.2 ?_)))))))
   simp only[dJ,gb,aV1,Bool.or_eq_false_iff,Bool.not_eq_false,Bool.or_eq_true,Bool.not_eq_true,beq_iff_eq,decide_eq_true_eq,bne_iff_ne,Bool.not_eq_true,List.length_eq_zero_iff,beq_eq_false_iff_ne,bne_eq_false_iff_eq] at*
   grind[fG]
 refine sq (sq (rT [1,38,65] (s2 (cd rfl (fun c65=> ?_) fun c65=> ?_))))
 · refine sk (cd rfl (fun c65=> ?_) fun c65=> ?_)
   · refine sq (rD [2] (s4 (y3 (ai pk (s1 (y3 (ai pk (s1 (y4 (y2 (xc (fun h=>(pE _ _)) (ai rfl (ai rk ?_)))))))))))))
     refine y1 (ai pk (s1 (ai (by kernel_rfl) (rt (bL rfl (congrArg D.b (Bool.eq_iff_iff.2 ?_)))))))
     simp only[dJ,gb,aV1,Bool.or_eq_false_iff,Bool.not_eq_false,Bool.or_eq_true,Bool.not_eq_true,beq_iff_eq,decide_eq_true_eq,bne_iff_ne,Bool.not_eq_true,List.length_eq_zero_iff,beq_eq_false_iff_ne,bne_eq_false_iff_eq] at*
     grind[fG]
   refine sk (sq (rT [2] (s1 (rt (bL rfl (congrArg D.b (Bool.eq_iff_iff.2 ?_)))))))
   simp only[dJ,gb,aV1,Bool.or_eq_false_iff,Bool.not_eq_false,Bool.or_eq_true,Bool.not_eq_true,beq_iff_eq,decide_eq_true_eq,bne_iff_ne,Bool.not_eq_true,List.length_eq_zero_iff,beq_eq_false_iff_ne,bne_eq_false_iff_eq] at*
   grind[fG]
 refine rT [1,65] (s2 (cd rfl (fun c65=> ?_) fun c65=> ?_))
 · refine sq (rD [2] (s4 (y3 (ai pk (s1 (y3 (ai pk (s1 (y4 (y2 (xc (fun h=>(pE _ _)) (ai rfl (ai rk ?_)))))))))))))
   refine y1 (ai pk (s1 (ai (by kernel_rfl) (rt (bL rfl (congrArg D.b (Bool.eq_iff_iff.2 ?_)))))))
   simp only[dJ,gb,aV1,Bool.or_eq_false_iff,Bool.not_eq_false,Bool.or_eq_true,Bool.not_eq_true,beq_iff_eq,decide_eq_true_eq,bne_iff_ne,Bool.not_eq_true,List.length_eq_zero_iff,beq_eq_false_iff_ne,bne_eq_false_iff_eq] at*
   grind[fG]
 refine sk (sq (rT [2] (s1 (rt (bL rfl (congrArg D.b (Bool.eq_iff_iff.2 ?_)))))))
 simp only[dJ,gb,aV1,Bool.or_eq_false_iff,Bool.not_eq_false,Bool.or_eq_true,Bool.not_eq_true,beq_iff_eq,decide_eq_true_eq,bne_iff_ne,Bool.not_eq_true,List.length_eq_zero_iff,beq_eq_false_iff_ne,bne_eq_false_iff_eq] at*
 grind[fG]
theorem db (f:cI):Sp 98 1 [tV 0 f.V] [tB 0 (dJ f)]:=by
 refine sb Tryz.func98 rfl (sq (rT [1] (s2 (sq (sq (rT [1,42] (s2 (xp (dI _ _ _) (ai rfl ?_)))))))))
 refine s2 (y2 (xc (fun h=>(dP _)) (ai rfl (ai rk ?_))))
 refine y1 (ai pk (s1 (y2 (xc (fun h=>(dP _)) (ai rfl (ai rk ?_))))))
 refine y1 (ai pk (s1 (y2 (xc (fun h=>(dP _)) (ai rfl (ai rk ?_))))))
 refine y1 (ai pk (s1 (y2 (xc (fun h=>(dP _)) (ai rfl (ai rk ?_))))))
 refine y1 (ai pk (s1 (y2 (xc (fun h=>(dI _ _ _)) (ai rfl (ai rk ?_))))))
 refine y1 (ai pk (s1 (y2 (xc (fun h=>(dI _ _ _)) (ai rfl (ai rk ?_))))))
 refine y1 (ai pk (cd rfl (fun c42=> ?_) fun c42=> ?_))
 · refine sq (rT [2] (s1 (rt (bL rfl (congrArg D.b (Bool.eq_iff_iff.2 ?_))))))
   simp only[dJ,gb,aV1,Bool.or_eq_false_iff,Bool.not_eq_false,Bool.or_eq_true,Bool.not_eq_true,beq_iff_eq,decide_eq_true_eq,bne_iff_ne,Bool.not_eq_true,List.length_eq_zero_iff,beq_eq_false_iff_ne,bne_eq_false_iff_eq] at*
   grind[fG]
 refine sk (sq (sq (rT [1,45] (s3 (cd rfl (fun c45=> ?_) fun c45=> ?_)))))
 · refine sq (rD [2] (s4 (xp (tJ _ _) (ai rfl ?_))))
   refine s4 (y3 (ai pk (s1 (y3 (ai pk (s1 (y3 (ai pk (s1 (ai (by kernel_rfl) (rt (bL rfl (congrArg D.b (Bool.eq_iff_iff.2 ?_))))))))))))))
   simp only[dJ,gb,aV1,Bool.or_eq_false_iff,Bool.not_eq_false,Bool.or_eq_true,Bool.not_eq_true,beq_iff_eq,decide_eq_true_eq,bne_iff_ne,Bool.not_eq_true,List.length_eq_zero_iff,beq_eq_false_iff_ne,bne_eq_false_iff_eq] at*
   grind[fG]
 refine sk (sq (rD [2] (s4 (xp (tJ _ _) (ai rfl ?_)))))
 refine s4 (y2 (xc (fun h=>(dI _ _ _)) (ai rfl (ai rk ?_))))
 refine ai pk (s1 (y2 (xc (fun h=>(dI _ _ _)) (ai rfl (ai rk ?_)))))
 refine ai pk (s1 (y4 (ai pk (s1 (ai (by kernel_rfl) (rt (bL rfl (congrArg D.b (Bool.eq_iff_iff.2 ?_)))))))))
 simp only[dJ,gb,aV1,Bool.or_eq_false_iff,Bool.not_eq_false,Bool.or_eq_true,Bool.not_eq_true,beq_iff_eq,decide_eq_true_eq,bne_iff_ne,Bool.not_eq_true,List.length_eq_zero_iff,beq_eq_false_iff_ne,bne_eq_false_iff_eq] at*
 grind[fG]
theorem az (l:List UInt8) (hl:l.length≤140737488355328):Sp 282 1 [tD 0 (.sl (aA l))] [tI 0 (eh l l.length:Nat)]:=by
 refine sb Tryz.func282 rfl (sq (rT [0] (s1 (sq (rT [0,3] (s1 (sq (sq (rT [0,3,4] (s1 (bk (SW.loopW (n:=l.length) (fun n s=> ∃i:Nat,n=l.length - i∧i≤l.length∧s=[tD 0 (.sl (aA l)),tI 3 (eh l i:Nat),tI 4 (i:Nat)]) ?_ ?_))))))))))))
 · refine wq (σ':=[tD 0 (.sl (aA l)),tI 3 (0:Nat),tI 4 (0:Nat)]) [] [] (⟨0,rfl,aV5 _,rfl⟩) ?_
   repeat' apply ai
   all_goals first|exact qx|(simp[aP];done)|exact qz
 rintro n s ⟨i,rfl,hi,rfl⟩
 refine sq (sq (rT [0,3,4,8] (s4 (cd rfl (fun c8=> ?_) fun c8=> ?_))))
 · refine sk (sq (bk (rT [0,3,4] (s2 (ai (by decide) (s3 (ai (by have hb:=iB (l:=l) (i:=i) (by simpa[aP] using c8);refine⟨⟨by omega,by simpa[aP] using c8⟩,?_⟩;simp only[aVy];rw[hb];rfl) (ai (by have hb:=iB (l:=l) (i:=i) (by simpa[aP] using c8);simp only[aVy];rw[hb];exact⟨aWa _,rfl⟩) (s3 (ai (by decide) (s1 (rT [0,3,4] (s3 ?_)))))))))))))
   have hi2:i<l.length:=by simpa[aP] using c8
   have hb:=iB (l:=l) (i:=i) hi2
   refine wq [] [] (⟨l.length - (i+1),by omega,i+1,rfl,by omega,rfl⟩) ?_
   repeat' apply ai
   all_goals first|exact qx|(rw[aVy,hb];exact congrArg D.i (ue l i))|(rw[hb];exact congrArg D.i (ue l i))|(exact congrArg D.i (aB (by omega)))|exact qz
 refine xt (sq (rT [2] (s2 (rt (bL rfl ?_)))))
 have e:i=l.length:=by simp[aP] at c8;omega
 subst e;rfl
theorem vS (l:List UInt8): ∀r∈aA l,r.length=1:=by
 intro r hr
 obtain⟨b,_,rfl⟩:=aWc.1 hr
 rfl
theorem sJ (l:List UInt8) (n:Int) (hl:l.length≤1073741824) (hn:0≤n∧n<65536):Sp 281 2 [tO 0 0 l.length,tI 1 n,oR 0 5 1 (aA l)] [tO 0 0 (l++two n).length,oR 0 5 1 (aA (l++two n))]:=by
 refine sb Tryz.func281 rfl (sq (rT [0,1] (s1 (sq (rT [4] (s8 (ai (by refine⟨rfl,by simp[aP],by simp,?_⟩;show(_+2)*1≤_;omega) (s1 (rt (rq [] [] rfl ?_))))))))))
 repeat' apply ai
 all_goals try exact qx
 all_goals first|(simp[aP,two];done)|(rw[aM1 hn,gE])
theorem rR (f:cI):Sp 277 1 [tV 0 f.V] [tO 0 0 (pP f).length,oR 0 5 1 (aA (pP f))]:=by
 refine sb Tryz.func277 rfl (sq (rT [1] (s2 (sq (rT [1,3] (s2 (sq (sq (rT [1,3,7] (s1 (xp (db _) (ai rfl ?_))))))))))))
 refine s1 (cd rfl (fun c7=> ?_) fun c7=> ?_)
 · refine sq (rT [2] (s2 (rt (rq [(0,4)] [] rfl ?_))))
   repeat' apply ai
   all_goals try exact qx
   all_goals(simp at c7;simp[pP,c7,aA])
 have hok:dJ f=true:=by simpa using c7
 obtain⟨k1,k2,k3,k4,k5,k6,k7,k8⟩:=lO hok
 have hlen:=jk hok
 have hsum:=aCb (eS f) (eS f).length
 refine sk (sq (rT [1,3] (s9 (s9 (s4 (sq (wa [tP 1 1,tO 3 4 (dm f).length,oB 1 63 [.d (.i f.kind),.d (.i f.src),.d (.i f.dst),.d (.i f.frm),.d (.i f.num),.d (.i f.to),.d (.i f.til),.d (.i f.size),.d (.i f.mix),.d (.s f.data)],oR 4 5 1 (aA (dm f))] [] [] ?_ ?_)))))))
 · repeat' apply ai
   all_goals first|exact qx|exact aCc hok|rfl|exact qz
 refine rT [1,3] (s3 (bH (robj:=[(4,_)]) (rl:=[(0,4)]) (bor:=[]) (sJ (dm f) f.til (by simp[dm]) (by omega)) rfl rfl rfl rfl ⟨fN rfl rfl rfl rfl (cJ rfl rfl (bR rfl rfl trivial)),rfl⟩ rfl (.inl rfl) (fun p hp=>by simp at hp;subst hp;rfl) (fun _ hj=>nomatch hj) (s1 (sq (sq (wa [tP 1 1,tO 3 4 (kO f).length,oB 1 63 [.d (.i f.kind),.d (.i f.src),.d (.i f.dst),.d (.i f.frm),.d (.i f.num),.d (.i f.to),.d (.i f.til),.d (.i f.size),.d (.i f.mix),.d (.s f.data)],oR 4 5 1 (aA (kO f))] [] [] qz (rT [1,3,36] (s3 (cd rfl (fun c36=> ?_) fun c36=> ?_)))))))))
 · have hk:f.kind=1:=by simpa using c36
   obtain⟨m1,m2,m3⟩:=k8 hk
   refine sq (rT [1,3] (s5 (ai (by refine⟨rfl,aP _,by simp,?_⟩;show(_+1)*1≤_;simp[kO,two]) (s1 (sq (wa [tP 1 1,tO 3 4 (kO f++[b8 f.size]).length,oB 1 63 [.d (.i f.kind),.d (.i f.src),.d (.i f.dst),.d (.i f.frm),.d (.i f.num),.d (.i f.to),.d (.i f.til),.d (.i f.size),.d (.i f.mix),.d (.s f.data)],oR 4 5 1 (aA (kO f++[b8 f.size]))] [] [] ?_ ?_))))))
   · repeat' apply ai
     all_goals first|exact qx|rfl|(simp[aP];done)|(rw[← gE,gn (by omega)];rfl)|exact qz
   refine rT [1,3] (s3 (bH (robj:=[(4,_)]) (rl:=[(0,4)]) (bor:=[]) (sJ (kO f++[b8 f.size]) f.mix (by simp[kO,two]) (by omega)) rfl rfl rfl rfl ⟨fN rfl rfl rfl rfl (cJ rfl rfl (bR rfl rfl trivial)),rfl⟩ rfl (.inl rfl) (fun p hp=>by simp at hp;subst hp;rfl) (fun _ hj=>nomatch hj) (s1 (wa [tP 1 1,tO 3 4 (kO f++[b8 f.size]++two f.mix).length,oB 1 63 [.d (.i f.kind),.d (.i f.src),.d (.i f.dst),.d (.i f.frm),.d (.i f.num),.d (.i f.to),.d (.i f.til),.d (.i f.size),.d (.i f.mix),.d (.s f.data)],oR 4 5 1 (aA (kO f++[b8 f.size]++two f.mix))] [] [] qz (rT [3] (s3 (ai (by rw[m3];decide) (ai (by refine⟨aP _,aP _,vS _,?_⟩;show(_+_)*1≤_;simp[aP,m3,kO,two]) (s1 (sq (wa [tO 3 4 (eS f).length,oR 4 5 1 (aA (eS f))] [] [] ?_ ?_)))))))))))
   · repeat' apply ai
     all_goals first|exact qx|(rw[bs hk];done)|(rw[gE];simp[eS,hk];done)|(simp[eS,hk,aP];omega)|exact qz
   refine rT [2] (s2 (bH (robj:=[(4,.row 5 1 (aA (eS f)))]) (rl:=[]) (bor:=[4]) (az (eS f) (by omega)) rfl rfl rfl rfl ⟨eD rfl rfl rfl ?_ rfl trivial,rfl⟩ rfl (.inr (uh _)) (fun p hp=>by simp at hp;subst hp;rfl) (fun _ hj=>nomatch hj) ?_))
   · exact aP _
   refine bH (robj:=[(4,_)]) (rl:=[(0,4)]) (bor:=[]) (sJ (eS f) (eh (eS f) (eS f).length) (by omega) (by omega)) rfl rfl rfl rfl ⟨fN rfl rfl rfl rfl (cJ rfl rfl (bR rfl rfl trivial)),rfl⟩ rfl (.inl rfl) (fun p hp=>by simp at hp;subst hp;rfl) (fun _ hj=>nomatch hj) (s1 (rt (rq [(0,4)] [] rfl ?_)))
   repeat' apply ai
   all_goals try exact qx
   all_goals first|(rw[qF,if_pos hok];done)|(rw[qF,if_pos hok])
 have hk: ¬f.kind=1:=by simpa using c36
 refine sk (sq (wa [tO 3 4 (eS f).length,oR 4 5 1 (aA (eS f))] [] [] ?_ ?_))
 · repeat' apply ai
   all_goals first|exact qx|(rw[bs hk];done)|(rw[gE];simp[eS,hk];done)|(simp[eS,hk,aP];omega)|exact qz
 refine rT [2] (s2 (bH (robj:=[(4,.row 5 1 (aA (eS f)))]) (rl:=[]) (bor:=[4]) (az (eS f) (by omega)) rfl rfl rfl rfl ⟨eD rfl rfl rfl ?_ rfl trivial,rfl⟩ rfl (.inr (uh _)) (fun p hp=>by simp at hp;subst hp;rfl) (fun _ hj=>nomatch hj) ?_))
 · exact aP _
 refine bH (robj:=[(4,_)]) (rl:=[(0,4)]) (bor:=[]) (sJ (eS f) (eh (eS f) (eS f).length) (by omega) (by omega)) rfl rfl rfl rfl ⟨fN rfl rfl rfl rfl (cJ rfl rfl (bR rfl rfl trivial)),rfl⟩ rfl (.inl rfl) (fun p hp=>by simp at hp;subst hp;rfl) (fun _ hj=>nomatch hj) (s1 (rt (rq [(0,4)] [] rfl ?_)))
 repeat' apply ai
 all_goals try exact qx
 all_goals first|(rw[qF,if_pos hok];done)|(rw[qF,if_pos hok])
theorem ik (l:List UInt8):Sp 267 1 [tD 0 (.sl (aA l))] [tV 0 (.tup [.agg [.d (.i (gN l).kind),.d (.i (gN l).src),.d (.i (gN l).dst),.d (.i (gN l).frm),.d (.i (gN l).num),.d (.i (gN l).to),.d (.i (gN l).til),.d (.i (gN l).size),.d (.i (gN l).mix),.d (.s (gN l).data)],.c (.d (.b (mB l)))])]:=by
 refine sb Tryz.func267 rfl (sq (rT [0,2] (s2 (sq (sq (rT [0,2,12] (s4 (y2 (y1 (ai pk (cd rfl (fun c12=> ?_) fun c12=> ?_)))))))))))
 · have hL:l.length≠10∧l.length≠17:=by simp[aP] at c12;omega
   refine sq (rT [2,3] (s3 (rt (bU rfl rfl ?_))))
   have hno:mB l=false:=by simp[mB,hL.1,hL.2]
   simp only[gN,hno,Bool.false_eq_true,if_false,dn]
   rfl
 have hL:l.length=10∨l.length=17:=by
  by_cases h9:l.length=10
  · exact .inl h9
  · right;simp[aP] at c12;omega
 refine sk (sq (rD [0,2,4] (s1 (ai (ixB (by omega) (by omega)) (ai (ldB (by omega) (by omega)) (s1 (s1 (ai (ixB (by omega) (by omega)) (ai (ldB (by omega) (by omega)) (s1 (s1 (ai (ixB (by omega) (by omega)) (ai (ldB (by omega) (by omega)) (s1 (s1 (ai (ixB (by omega) (by omega)) (ai (ldB (by omega) (by omega)) (s1 (s1 (ai (ixB (by omega) (by omega)) (ai (ldB (by omega) (by omega)) (s1 (s1 (ai (ixB (by omega) (by omega)) (ai (ldB (by omega) (by omega)) (s1 (s1 (ai (ixB (by omega) (by omega)) (ai (ldB (by omega) (by omega)) (s1 (s2 (ai (ixB (by omega) (by omega)) (ai (ldB (by omega) (by omega)) (s4 (s1 (ai (by kernel_rfl) (sq (sq (rT [0,2,4,51] (s3 (cd rfl (fun c51=> ?_) fun c51=> ?_)))))))))))))))))))))))))))))))))))))))))
 · have h17:l.length=17:=by simp[aP] at c51;omega
   refine sq (rT [0,2,4] (s1 (ai (ixB (by omega) (by omega)) (ai (ldB (by omega) (by omega)) (s1 (s2 (sq (rD [0,2,4] (s1 (ai (ixB (by omega) (by omega)) (ai (ldB (by omega) (by omega)) (s1 (s2 (ai (ixB (by omega) (by omega)) (ai (ldB (by omega) (by omega)) (s4 (ai (by kernel_rfl) (rT [0,2,4] (s1 (ai (by refine⟨by simp[mu,eK,fM,aP,h17],vS l⟩) (ai (by rw[wT];exact wU l 11 15) (s1 (s1 (sq (sq (wa [tD 0 (.sl (aA l)),tP 2 2,tP 4 4,oB 2 63 [.d (.i 0),.d (.i 0),.d (.i 0),.d (.i 0),.d (.i 0),.d (.i 0),.d (.i 0),.d (.i 0),.d (.i 0),.d (.s [])],oB 4 63 [.d (.i (cS l).kind),.d (.i (cS l).src),.d (.i (cS l).dst),.d (.i (cS l).frm),.d (.i (cS l).num),.d (.i (cS l).to),.d (.i (cS l).til),.d (.i (cS l).size),.d (.i (cS l).mix),.d (.s (cS l).data)]] [] [] ?_ ?_))))))))))))))))))))))))))
   · repeat' apply ai
     all_goals first|exact qx|(rw[aCe (by decide) (by omega),aCe (by decide) (by omega)];(first|simp only[cS,if_neg h17]|simp only[cS,if_pos h17]);exact congrArg D.i (aAs (iO _ _) (iO _ _)).1)|(rw[aCe (by decide) (by omega)];(first|simp only[cS,if_neg h17]|simp only[cS,if_pos h17]);first|done|rfl)|((first|simp only[cS,if_neg h17]|simp only[cS,if_pos h17]);done)|((first|simp only[cS,if_neg h17]|simp only[cS,if_pos h17]);exact congrArg D.s (wT _ _ _))|exact qz
   refine rD [2,4,77] (s1 (ui [(0,73)] (rR (cS l)) rfl rfl rfl rfl rfl rfl rfl (fun j hj=>by(obtain rfl:j=0:=by simpa[kI,cE,iM] using hj);rfl) (ai (by exact⟨aP _,(congrArg aA (bZ _)).symm⟩) (s1 (ai (by exact(congrArg aA (bZ _)).symm) (s1 (ai (by kernel_rfl) (cd rfl (fun c77=> ?_) fun c77=> ?_))))))))
   · refine sq (rT [2,3] (s3 (rt (bU rfl rfl ?_))))
     have hno:mB l=false:=by(simp[bZ] at c77;simp[mB,c77])
     simp only[gN,hno,Bool.false_eq_true,if_false,dn]
     rfl
   refine sk (sq (rT [2,3] (s3 (rt (bU rfl rfl ?_)))))
   have hyes:mB l=true:=by(simp[bZ] at c77;rcases hL with h|h<;>simp[mB,h,c77])
   simp only[gN,hyes,if_true]
   rfl
 have h17: ¬l.length=17:=by simp[aP] at c51;omega
 refine sk (sq (sq (wa [tD 0 (.sl (aA l)),tP 2 2,tP 4 4,oB 2 63 [.d (.i 0),.d (.i 0),.d (.i 0),.d (.i 0),.d (.i 0),.d (.i 0),.d (.i 0),.d (.i 0),.d (.i 0),.d (.s [])],oB 4 63 [.d (.i (cS l).kind),.d (.i (cS l).src),.d (.i (cS l).dst),.d (.i (cS l).frm),.d (.i (cS l).num),.d (.i (cS l).to),.d (.i (cS l).til),.d (.i (cS l).size),.d (.i (cS l).mix),.d (.s (cS l).data)]] [] [] ?_ ?_)))
 · repeat' apply ai
   all_goals first|exact qx|(rw[aCe (by decide) (by omega),aCe (by decide) (by omega)];(first|simp only[cS,if_neg h17]|simp only[cS,if_pos h17]);exact congrArg D.i (aAs (iO _ _) (iO _ _)).1)|(rw[aCe (by decide) (by omega)];(first|simp only[cS,if_neg h17]|simp only[cS,if_pos h17]);first|done|rfl)|((first|simp only[cS,if_neg h17]|simp only[cS,if_pos h17]);done)|((first|simp only[cS,if_neg h17]|simp only[cS,if_pos h17]);exact congrArg D.s (wT _ _ _))|exact qz
 refine rD [2,4,77] (s1 (ui [(0,73)] (rR (cS l)) rfl rfl rfl rfl rfl rfl rfl (fun j hj=>by(obtain rfl:j=0:=by simpa[kI,cE,iM] using hj);rfl) (ai (by exact⟨aP _,(congrArg aA (bZ _)).symm⟩) (s1 (ai (by exact(congrArg aA (bZ _)).symm) (s1 (ai (by kernel_rfl) (cd rfl (fun c77=> ?_) fun c77=> ?_))))))))
 · refine sq (rT [2,3] (s3 (rt (bU rfl rfl ?_))))
   have hno:mB l=false:=by(simp[bZ] at c77;simp[mB,c77])
   simp only[gN,hno,Bool.false_eq_true,if_false,dn]
   rfl
 refine sk (sq (rT [2,3] (s3 (rt (bU rfl rfl ?_)))))
 have hyes:mB l=true:=by(simp[bZ] at c77;rcases hL with h|h<;>simp[mB,h,c77])
 simp only[gN,hyes,if_true]
 rfl
theorem cN (l:List UInt8) (p n:Int) (hp:0≤p∧p≤1000000) (hl:l.length≤2000):Sp 116 2 [tP 0 0,tI 1 n,oB 0 177 [.d (.sl (aA l)),.d (.i (p))]] [tI 0 (bN l p n),oB 0 177 [.d (.sl (aA l)),.d (.i (p+1))]]:=by
 refine sb Tryz.func116 rfl (sq (rT [0,1] (s1 (sq (rT [0,1] (s9 (sq (sq (wa [tP 0 0,tI 1 n,oB 0 177 [.d (.sl (aA l)),.d (.i (p+1))]] [] [] ?_ ?_)))))))))
 · repeat' apply ai
   all_goals first|exact qx|exact congrArg D.i (aB (by omega))|exact qz
 refine rT [0,1,24] (s3 (y4 (y2 (ai pk (cd rfl (fun c24=> ?_) fun c24=> ?_)))))
 · refine sq (rT [4] (s1 (rt (rq [] [] rfl ?_))))
   repeat' apply ai
   all_goals try exact qx
   all_goals first|with_reducible rfl|skip
   refine congrArg D.i ?_
   unfold bN
   refine(if_pos ?_).symm
   by_cases h9:n<1
   · exact .inl h9
   right;simp[h9,aP,gb] at c24;simp[c24]
 have hn:1≤n∧1≤((aA l).length:Int):=by
  by_cases h9:n<1
  · simp[h9] at c24
  · refine⟨by omega,?_⟩;simp[h9,aP,gb] at c24 ⊢; have:=List.length_pos_iff.2 c24;omega
 have hlr:=aP l
 refine sk (sq (rT [0,1,5] (s6 (sq (sq (wa [tP 0 0,tI 1 n,tI 5 p,oB 0 177 [.d (.sl (aA l)),.d (.i (p+1))]] [] [] ?_ ?_))))))
 · repeat' apply ai
   all_goals first|exact qx|((refine congrArg D.i ?_;rw[aB (by omega)];omega))|exact qz
 refine rT [0,1,5,36] (s7 (cd rfl (fun c36=> ?_) fun c36=> ?_))
 · have hi:p< ((aA l).length:Int):=by simpa using c36
   refine sq (rT [4] (s5 (ai (ixB (by omega) (by omega)) (ai (ldB (by omega) (by omega)) (s2 (ai (by omega) (s1 (rt (rq [] [] rfl ?_)))))))))
   repeat' apply ai
   all_goals try exact qx
   all_goals first|with_reducible rfl|skip
   refine congrArg D.i ?_
   rw[aCe hp.1 (by omega)]
   unfold bN
   rw[if_neg (by omega),if_pos (by omega)]
 have hi: ¬p< ((aA l).length:Int):=by simpa using c36
 refine sk (sq ?_)
 have r1:=nI (x:=p) (n:=((aA l).length:Int)) hp.1 (by omega)
 have r2:=nI (x:=wrap64 (wrap64 (p*7)+3)) (n:=((aA l).length:Int)) (by rw[aB (n:=p*7) (by omega),aB (by omega)];omega) (by omega)
 have r3:=pJ (x:=p) (n:=((aA l).length:Int)) hp.1 (by omega)
 refine rD [1,6] (s9 (s1 (ai (by omega) (ai (ixB (by omega) (by omega)) (ai (ldB (by omega) (by omega)) (s9 (s5 (ai (by omega) (ai (ixB (by omega) (by omega)) (ai (ldB (by omega) (by omega)) (s9 (s3 (ai (by omega) (s3 (ai (by kernel_rfl) (sq (rT [1,6] (s2 (ai (by decide) (s2 (sq (rT [4] (s2 (ai (by omega) (s1 (rt (rq [] [] rfl ?_)))))))))))))))))))))))))))
 repeat' apply ai
 all_goals try exact qx
 all_goals first|with_reducible rfl|skip
 refine congrArg D.i ?_
 rw[aCe r1.1 (by omega),aCe r2.1 (by omega)]
 unfold bN
 rw[if_neg (by omega),if_neg (by omega),hlr]
theorem zp (l:List UInt8) (hl:l.length≤140737488355328):Sp 104 1 [tD 0 (.sl (aA l))] [tP 0 0,oB 0 177 [.d (.sl (aA (l.take 2000))),.d (.i (0))]]:=by
 refine sb Tryz.func104 rfl (sq (rT [0] (s1 (sq (sq (rT [0,5] (s3 (cd rfl (fun c5=> ?_) fun c5=> ?_))))))))
 · refine rT [0] (s1 (ai (by refine⟨by simp[mu,eK,fM,aP] at *; omega,vS l⟩) (s1 (sq (rT [2] (s4 (rt (rq [(0,10)] [] rfl ?_))))))))
   repeat' apply ai
   all_goals try exact qx
   all_goals first|with_reducible rfl|skip
   first|exact congrArg D.sl (wU l 0 2000)|(refine congrArg D.sl (congrArg aA ?_);symm;apply List.take_of_length_le;simp[aP] at c5;omega)
 refine sk (sq (rT [2] (s4 (rt (rq [(0,10)] [] rfl ?_)))))
 repeat' apply ai
 all_goals try exact qx
 all_goals first|with_reducible rfl|skip
 first|exact congrArg D.sl (wU l 0 2000)|(refine congrArg D.sl (congrArg aA ?_);symm;apply List.take_of_length_le;simp[aP] at c5;omega)
theorem aLq (l:List UInt8) (p:Int) (rs:List (List UInt8)) (hr:1≤rs.length) (hp:0≤p∧p≤1000000) (hl:l.length≤2000):xd 168 2 [tP 0 0,tD 1 (.sl (aX rs)),oB 0 177 [.d (.sl (aA l)),.d (.i (p))]] (fun s=> ∃x:List UInt8,x∈rs∧s=[tD 0 (.s x),oB 0 177 [.d (.sl (aA l)),.d (.i (p+1))]]):=by
 have hv:=cF l (p:=p) (n:=((aX rs).length:Int)) hp (by rw[aM];omega)
 have hsl:=aM rs
 refine yf Tryz.func168 rfl (sq (rT [0,1] (s1 (sq (rT [4] (s4 (bH (robj:=[(0,.box 177 [.d (.sl (aA (l))),.d (.i (p))])]) (rl:=[(0,0)]) (bor:=[]) (cN (l) (p) _ (by omega) hl) rfl rfl rfl rfl ⟨bQ rfl rfl rfl rfl (cJ rfl rfl (aS rfl (aC rfl (aC rfl aG)) trivial)),rfl⟩ rfl (.inl rfl) (aH ⟨rfl,trivial⟩) (fun _ hj=>nomatch hj) (ai (ixS (by omega) (by omega)) (ai (ldS (by omega) (by omega)) (s1 (rt (cW _ ⟨rs.getD (bN l p ((aX rs).length:Int)).toNat [],?_,rfl⟩ (dQ _ [] [] rfl ?_ rfl rfl)))))))))))))
 · rw[aV6,aV8 (by omega)];exact List.getElem_mem _
 refine qs ?_
 repeat' first|exact qx|apply ai
 all_goals first|with_reducible rfl|exact congrArg D.s (aM6 (by omega) (by omega))
theorem oV (a:List UInt8) (n:Int) (ha:a.length=1) (hn:0≤n∧n≤100000):xd 203 2 [tD 0 (.s a),tI 1 n] (fun s=> ∃x:List UInt8,x.length≤n.toNat∧s=[tD 0 (.s x)]):=by
 refine yf Tryz.func203 rfl (sq (rT [0,1] (s1 (sq (rT [0,1,5] (s1 (sq (bk (SW.loopW (n:=n.toNat) (fun m s=> ∃(x b:List UInt8) (k:Nat),m=k∧(x.length+b.length*k≤n.toNat∧b.length≤2*n.toNat+1∧k≤n.toNat)∧s=[tD 0 (.s b),tI 1 (k),tD 5 (.s x)]) ?_ ?_)))))))))
 · refine wq [] [] (⟨[],a,n.toNat,rfl,⟨by first|(simp[ha];done)|(simp[ha];omega),by omega,by omega⟩,rfl⟩) ?_
   repeat' apply ai
   all_goals first|exact qx|(refine congrArg D.i ?_;omega)|(simp;done)|exact qz
 rintro n s ⟨x,b,k,hmk,hk,rfl⟩
 refine sq (sq (rT [0,1,5,7] (s2 (cd rfl (fun c7=> ?_) fun c7=> ?_))))
 · have hk1:0<k:=by simpa using c7
   have h11:b.length≤b.length*k:=Nat.le_mul_of_pos_right _ hk1
   refine sk (bk (sq (sq (rT [0,1,5,10] (s1 (ai (by decide) (s1 (cd rfl (fun c10=> ?_) fun c10=> ?_))))))))
   · refine rT [0,1,5] (s2 (ai (by show _≤9223372036854775807;omega) (s1 (sq (rT [0,1,5] (s2 (ai (by show _≤9223372036854775807;omega) (s1 (rT [0,1,5] (s1 (ai (by decide) (s1 ?_))))))))))))
     have hm:aWe (k:Int) 2=((k % 2:Nat):Int):=by rw[Int.tmod_eq_emod_of_nonneg (by omega)];omega
     have hd:Int.tdiv (k:Int) 2=((k / 2:Nat):Int):=by rw[Int.tdiv_eq_ediv_of_nonneg (by omega)];omega
     obtain⟨j,hj⟩: ∃j,k=2*j∨k=2*j+1:=⟨k / 2,by omega⟩
     have h8:b.length*k=2*(b.length*j)∨b.length*k=2*(b.length*j)+b.length:=by
      rcases hj with h|h
      · left;rw[h,Nat.mul_left_comm]
      · right;rw[h,Nat.mul_add,Nat.mul_left_comm,Nat.mul_one]
     have h9: (b++b).length*(k / 2)=2*(b.length*j):=by
      rw[aVz,show k / 2=j by omega,aWh];omega
     have h10:b.length≤b.length*k:=Nat.le_mul_of_pos_right _ (by omega)
     first
     |(refine wq [] [] (⟨k / 2,by omega,x++b,b++b,k / 2,rfl,⟨by rw[h9,aVz];have:k % 2=1:=(by simp[hm] at c10;omega);have:=congrArg (b.length* ·) (show k=2*j+1 by omega);simp only[Nat.mul_add,Nat.mul_one,Nat.mul_left_comm b.length 2 j] at this;omega,by rw[aVz];omega,by omega⟩,rfl⟩) ?_
       repeat' apply ai
       all_goals first|exact qx|(refine congrArg D.i ?_;rw[hd,aB (by omega)])|exact qz)
     |(refine wq [] [] (⟨k / 2,by omega,x,b++b,k / 2,rfl,⟨by rw[h9];omega,by rw[aVz];omega,by omega⟩,rfl⟩) ?_
       repeat' apply ai
       all_goals first|exact qx|(refine congrArg D.i ?_;rw[hd,aB (by omega)])|exact qz)
   refine sk (sq (rT [0,1,5] (s2 (ai (by show _≤9223372036854775807;omega) (s1 (rT [0,1,5] (s1 (ai (by decide) (s1 ?_)))))))))
   have hm:aWe (k:Int) 2=((k % 2:Nat):Int):=by rw[Int.tmod_eq_emod_of_nonneg (by omega)];omega
   have hd:Int.tdiv (k:Int) 2=((k / 2:Nat):Int):=by rw[Int.tdiv_eq_ediv_of_nonneg (by omega)];omega
   obtain⟨j,hj⟩: ∃j,k=2*j∨k=2*j+1:=⟨k / 2,by omega⟩
   have h8:b.length*k=2*(b.length*j)∨b.length*k=2*(b.length*j)+b.length:=by
    rcases hj with h|h
    · left;rw[h,Nat.mul_left_comm]
    · right;rw[h,Nat.mul_add,Nat.mul_left_comm,Nat.mul_one]
   have h9: (b++b).length*(k / 2)=2*(b.length*j):=by
    rw[aVz,show k / 2=j by omega,aWh];omega
   have h10:b.length≤b.length*k:=Nat.le_mul_of_pos_right _ (by omega)
   first
   |(refine wq [] [] (⟨k / 2,by omega,x++b,b++b,k / 2,rfl,⟨by rw[h9,aVz];have:k % 2=1:=(by simp[hm] at c10;omega);have:=congrArg (b.length* ·) (show k=2*j+1 by omega);simp only[Nat.mul_add,Nat.mul_one,Nat.mul_left_comm b.length 2 j] at this;omega,by rw[aVz];omega,by omega⟩,rfl⟩) ?_
     repeat' apply ai
     all_goals first|exact qx|(refine congrArg D.i ?_;rw[hd,aB (by omega)])|exact qz)
   |(refine wq [] [] (⟨k / 2,by omega,x,b++b,k / 2,rfl,⟨by rw[h9];omega,by rw[aVz];omega,by omega⟩,rfl⟩) ?_
     repeat' apply ai
     all_goals first|exact qx|(refine congrArg D.i ?_;rw[hd,aB (by omega)])|exact qz)
 refine xt (sq (rT [4] (s2 (rt ?_))))
 exact cW _ ⟨x,by omega,rfl⟩ (bL rfl rfl)
end Go.Proofs.YtmabaopgkimfmaaGreatDoor
namespace Go.Ab
open Int renaming toNat_natCast→aVy,tmod→aWe
open List renaming length_append→aVz,length_nil→aV2,length_cons→aV3,length_take→aV4,getD_eq_getElem?_getD→aV6,length_drop→aV7,getElem?_eq_getElem→aV8,getElem?_eq_some_iff→aV9,range→aWb,mem_map→aWc,take_length→aWd,all_eq_true→aWf,mem_singleton→aWg
open Nat renaming le_of_ble_eq_true→aV0,zero_le→aV5,le_refl→aWa,add_mul→aWh
open Bool renaming and_eq_true→aV1
open Go Go.RowKit
set_option linter.unusedVariables false
structure eX where
 tm:Int
 ks:List aJ
 ls:List Bool
 a:Nat
 b:Nat
 c:Nat
 d:Nat
def eX.ok (W:eX):Prop:=ye W.ks W.ls W.a W.b W.c
structure eX.of (W W0:eX) (m:Nat):Prop where
 ok:W.ok
 few:W.d≤W0.d+m
theorem eX.of.refl {W:eX} (h:W.ok):W.of W 0:=⟨h,aWa _⟩
theorem eX.of.trans {W1 W2 W0:eX} {m n:Nat} (h:W1.of W0 m) (k:W2.of W1 n):W2.of W0 (m+n):=⟨k.ok,by have:=h.few;have:=k.few;omega⟩
theorem eX.of.le {W W0:eX} {m n:Nat} (h:W.of W0 m) (hn:m≤n):W.of W0 n:=⟨h.ok,by have:=h.few;omega⟩
def gB (n:Int):aJ:=if eA n then⟨n,true,[],0,[]⟩ else .zero
def qW (n:Nat):List aJ:=(aWb n).map fun i:Nat=>gB (i:Int)
theorem lI (n:Nat): (qW n).length=n:=by simp[qW]
theorem aDg (n:Nat):qW (n+1)=qW n++[gB (n:Int)]:=by simp[qW,List.range_succ]
theorem rv (l:List aJ) (k:aJ):aF l++[k.row]=aF (l++[k]):=by simp[aF]
theorem qX (n:Nat):aF (qW n)++[(gB (n:Int)).row]=aF (qW (n+1)):=by rw[aDg,rv]
def yes (n:Nat):List Bool:=List.replicate n true
theorem rS (n:Nat): (yes n).length=n:=by simp[yes]
theorem uO (n:Nat):aL (yes n)++[[.b true]]=aL (yes (n+1)):=by
 rw[yes,yes,List.replicate_succ']
 simp[aL]
theorem wL (n:Int):iq (gB n):=by
 unfold gB
 split
 · exact⟨aV5 _,aV5 _,fun x h=>by cases h⟩
 · exact qR
def eT:eX:=⟨0,qW 4,yes 3,0,0,0,0⟩
theorem aFt:eT.ok:=⟨lI 4,fun k hk=>by
 obtain⟨i,_,rfl⟩:=aWc.1 hk
 exact wL _,rS 3,aV5 _,aV5 _,aV5 _⟩
set_option linter.unusedSimpArgs false
abbrev R1 (x:Int):Prop:= -1≤x∧x≤1001
def ND (n:bA):Prop:=(R1 n.frm∧R1 n.num∧R1 n.to∧R1 n.til)∧n.text.length≤60
theorem pa {n:Int} (h:R1 n): (nl n).length≤8:=by
 have q1:=cL (k:=6) (n:=(-n).toNat) (by simp;omega)
 have q2:=cL (k:=6) (n:=n.toNat) (by simp;omega)
 unfold nl
 split
 · rw[aV3];omega
 · omega
theorem dY {l:List Int} {j:Nat} (h: ∀v∈l,R1 v) (hj:j<l.length):R1 (sd (((bX l).getD j []).getD 0 (.i 0))):=by
 rw[eW hj]
 exact h _ (dH (z:=0) hj)
end Go.Ab
namespace Go.Proofs.YtmabaopgkimfmaaGreatDoor
open Int renaming toNat_natCast→aVy,tmod→aWe
open List renaming length_append→aVz,length_nil→aV2,length_cons→aV3,length_take→aV4,getD_eq_getElem?_getD→aV6,length_drop→aV7,getElem?_eq_getElem→aV8,getElem?_eq_some_iff→aV9,range→aWb,mem_map→aWc,take_length→aWd,all_eq_true→aWf,mem_singleton→aWg
open Nat renaming le_of_ble_eq_true→aV0,zero_le→aV5,le_refl→aWa,add_mul→aWh
open Bool renaming and_eq_true→aV1
open Go Go.Ab Go.RowKit
set_option linter.unusedVariables false
set_option linter.unusedSimpArgs false
set_option maxRecDepth 9000
theorem xu (l:List UInt8) (p:Int) (hp:0≤p∧p≤900000) (hl:l.length≤2000):xd 169 1 [tP 0 0,oB 0 177 [.d (.sl (aA l)),.d (.i (p))]] (fun s=> ∃(x:List UInt8) (q:Int),(p≤q∧q≤p+40∧x.length≤60)∧s=[tD 0 (.s x),oB 0 177 [.d (.sl (aA l)),.d (.i (q))]]):=by
 have hl2:=hl
 refine yf Tryz.func169 rfl (sq (rT [0] (s1 (sq (sq (rT [0,6] (s1 (bH (robj:=[(0,.box 177 [.d (.sl (aA (l))),.d (.i (p))])]) (rl:=[(0,0)]) (bor:=[]) (cN (l) (p) _ (by omega) hl2) rfl rfl rfl rfl ⟨bQ rfl rfl rfl rfl (cJ rfl rfl (aS rfl (aC rfl (aC rfl aG)) trivial)),rfl⟩ rfl (.inl rfl) (aH ⟨rfl,trivial⟩) (fun _ hj=>nomatch hj) (bk (sq (rT [0,6,7] (s2 (cd rfl (fun c7=> ?_) fun c7=> ?_)))))))))))))
 · refine sq (rE [2] (s1 (cY (robj:=[]) (rl:=[]) (bor:=[]) (news:=[]) (oV [120] 24 rfl (by omega)) rfl rfl rfl rfl ⟨cJ rfl rfl (cJ rfl rfl (trivial)),rfl⟩ (by rintro _ ⟨x1,hx1,rfl⟩;exact⟨rfl,.inl rfl,fun j hj=>nomatch hj⟩) (fun p hp=>nomatch hp) (fun j hj=>nomatch hj) ?_)))
   rintro _ ⟨x1,hx1,rfl⟩
   refine cY (robj:=[]) (rl:=[]) (bor:=[]) (news:=[]) (oV [121] 25 rfl (by omega)) rfl rfl rfl rfl ⟨cJ rfl rfl (cJ rfl rfl (trivial)),rfl⟩ (by rintro _ ⟨x2,hx2,rfl⟩;exact⟨rfl,.inl rfl,fun j hj=>nomatch hj⟩) (fun p hp=>nomatch hp) (fun j hj=>nomatch hj) ?_
   rintro _ ⟨x2,hx2,rfl⟩
   refine ai (by exact⟨by simp,aV0 rfl⟩) (yQ 12 12 rfl rfl rfl rfl (cY (robj:=[(0,.box 177 [.d (.sl (aA (l))),.d (.i (p+1))])]) (rl:=[(0,0)]) (bor:=[]) (news:=[]) (aLq (l) (p+1) (([[],x1,x2,[0,1],[97,10]]:List (List UInt8))) (by simp) (by omega) hl2) rfl rfl rfl rfl ⟨bQ rfl rfl rfl rfl (cJ rfl rfl (aS rfl (aC rfl (aC rfl aG)) trivial)),rfl⟩ (by rintro _ ⟨x,hx,rfl⟩;exact⟨rfl,.inl rfl,fun j hj=>nomatch hj⟩) (aH ⟨rfl,trivial⟩) (fun j hj=>nomatch hj) ?_))
   rintro _ ⟨x,hx,rfl⟩
   refine s1 (rt (cW _ ⟨x,p+1+1,⟨by omega,by omega,?_⟩,rfl⟩ (dQ _ [] [] rfl ?_ rfl rfl)))
   · simp at hx;rcases hx with rfl|rfl|rfl|rfl|rfl<;>first|omega|(simp;done)
   refine qs ?_
   repeat' first|exact qx|apply ai
   all_goals rfl
 refine sq (rT [0,14] (s2 (cd rfl (fun c14=> ?_) fun c14=> ?_)))
 · refine sq (rT [0,3] (s2 (sq (sq (rT [0,3,4] (s1 (bH (robj:=[(0,.box 177 [.d (.sl (aA (l))),.d (.i (p+1))])]) (rl:=[(0,0)]) (bor:=[]) (cN (l) (p+1) _ (by omega) hl2) rfl rfl rfl rfl ⟨bQ rfl rfl rfl rfl (cJ rfl rfl (aS rfl (aC rfl (aC rfl aG)) trivial)),rfl⟩ rfl (.inl rfl) (aH ⟨rfl,trivial⟩) (fun _ hj=>nomatch hj) (s2 (bk ?_)))))))))
   have hv:=cF l (p:=p+1) (n:=20) (by omega) (by omega)
   refine SW.loopW (n:=(wrap64 (1+bN l (p+1) 20)).toNat) (fun m s=> ∃(k q:Int) (b:List UInt8),m=k.toNat∧(0≤k∧k≤20∧p≤q∧q+k≤p+30∧b.length+k≤20)∧s=[tP 0 0,tO 3 16 (b).length,tI 4 (k),oB 0 177 [.d (.sl (aA l)),.d (.i (q))],oR 16 5 1 (aA (b))]) ?_ ?_
   · refine wq (σ':=[tP 0 0,tO 3 16 ([]).length,tI 4 ((wrap64 (1+bN l (p+1) 20))),oB 0 177 [.d (.sl (aA l)),.d (.i (p+1+1))],oR 16 5 1 (aA ([]))]) [] [] (⟨_,p+1+1,[],rfl,⟨by rw[aB (by omega)];omega,by rw[aB (by omega)];omega,by omega,by rw[aB (by omega)];omega,by rw[aB (by omega)];simp;omega⟩,rfl⟩) ?_
     repeat' apply ai
     all_goals first|exact qx|rfl|(simp[aA];done)|exact qz
   rintro n s ⟨k,q,b,rfl,hk,rfl⟩
   refine sq (sq (rT [0,3,4,21] (s2 (cd rfl (fun c21=> ?_) fun c21=> ?_))))
   · have hk1:0<k:=by simpa using c21
     refine sk (sq (bk (rT [0,3,4] (s2 (bH (robj:=[(0,.box 177 [.d (.sl (aA (l))),.d (.i (q))])]) (rl:=[(0,0)]) (bor:=[]) (cN (l) (q) _ (by omega) hl2) rfl rfl rfl rfl ⟨bQ rfl rfl rfl rfl (cJ rfl rfl (aS rfl (aC rfl (aC rfl aG)) trivial)),rfl⟩ rfl (.inl rfl) (aH ⟨rfl,trivial⟩) (fun _ hj=>nomatch hj) (s2 (ai (by refine⟨rfl,aP _,by simp,?_⟩;show(_+1)*1≤_;omega) (s1 (rT [0,3,4] (s3 (wq [] [] (⟨(k - 1).toNat,by omega,k - 1,q+1,b++[u8 (bN l q 256)],rfl,⟨by omega,by omega,by omega,by omega,by rw[aVz];simp;omega⟩,rfl⟩) ?_)))))))))))
     repeat' apply ai
     all_goals first|exact qx|exact aAt _ _|(simp[aP];done)|exact congrArg D.i (aB (by omega))|exact qz
   refine xt (sq (rT [2] (s1 (ai (by exact⟨aP _,(congrArg aA (bZ _)).symm⟩) (s1 (rt (cW _ ⟨b,q,⟨by omega,by omega,by omega⟩,rfl⟩ (dQ _ [] [] rfl ?_ rfl rfl))))))))
   refine qs ?_
   repeat' first|exact qx|apply ai
   all_goals first|with_reducible rfl|exact congrArg D.s (bZ b)
 refine sk (sq (rE [2] (s1 (ai (by exact⟨by simp,by decide⟩) (yQ 33 33 rfl rfl rfl rfl (cY (robj:=[(0,.box 177 [.d (.sl (aA (l))),.d (.i (p+1))])]) (rl:=[(0,0)]) (bor:=[]) (news:=[]) (aLq (l) (p+1) (([[97],[97,98,99,100],[104,101,108,108,111],[49,50,51,52,53,54,55,56],[97,32,108,111,110,103,101,114,32,109,101,115,115,97,103,101],[106,117,115,116,32,116,119,101,110,116,121,45,102,111,117,114,32,98,121,116,101,115,32,33],[109,105,120,101,100,32,98,108,111,99,107,115],[102,111,117,114,32,119,111,114,100,115,32,111,102,32,97,32,116,101,120,116]]:List (List UInt8))) (by simp) (by omega) hl2) rfl rfl rfl rfl ⟨bQ rfl rfl rfl rfl (cJ rfl rfl (aS rfl (aC rfl (aC rfl aG)) trivial)),rfl⟩ (by rintro _ ⟨x,hx,rfl⟩;exact⟨rfl,.inl rfl,fun j hj=>nomatch hj⟩) (aH ⟨rfl,trivial⟩) (fun j hj=>nomatch hj) ?_))))))
 rintro _ ⟨x,hx,rfl⟩
 refine s1 (rt (cW _ ⟨x,p+1+1,⟨by omega,by omega,?_⟩,rfl⟩ (dQ _ [] [] rfl ?_ rfl rfl)))
 · have hall: ∀y∈([[97],[97,98,99,100],[104,101,108,108,111],[49,50,51,52,53,54,55,56],[97,32,108,111,110,103,101,114,32,109,101,115,115,97,103,101],[106,117,115,116,32,116,119,101,110,116,121,45,102,111,117,114,32,98,121,116,101,115,32,33],[109,105,120,101,100,32,98,108,111,99,107,115],[102,111,117,114,32,119,111,114,100,115,32,111,102,32,97,32,116,101,120,116]]:List (List UInt8)),y.length≤60:=by decide
   exact hall x hx
 refine qs ?_
 repeat' first|exact qx|apply ai
 all_goals rfl
theorem xv (l:List UInt8) (p:Int) (hp:0≤p∧p≤800000) (hl:l.length≤2000):xd 106 1 [tP 0 0,oB 0 177 [.d (.sl (aA l)),.d (.i (p))]] (fun s=> ∃(n:bA) (q:Int),ND n∧(p≤q∧q≤p+60)∧s=[tV 0 (.e (.agg [.d (.i n.frm),.d (.i n.num),.d (.i n.to),.d (.i n.til),.d (.s n.text)])),oB 0 177 [.d (.sl (aA l)),.d (.i (q))]]):=by
 have pv0:=cF l (p:=p) (n:=4) (by omega) (by omega)
 have pv1:=cF l (p:=p+1) (n:=5) (by omega) (by omega)
 have pv2:=cF l (p:=p+1+1) (n:=4) (by omega) (by omega)
 have pv3:=cF l (p:=p+1+1+1) (n:=30) (by omega) (by omega)
 have hl2:=hl
 have hall: ∀y∈([[97],[104,101,108,108,111],[97,32,108,111,110,103,101,114,32,109,101,115,115,97,103,101],[32,120,32],[106,117,115,116,32,116,119,101,110,116,121,45,102,111,117,114,32,98,121,116,101,115,32,33]]:List (List UInt8)),y.length≤60:=by decide
 refine yf Tryz.func106 rfl (sq (rT [0,2] (s1 (sq (rE [0,2,3] (s1 (gW (bH (robj:=[(0,.box 177 [.d (.sl (aA (l))),.d (.i (p))])]) (rl:=[(0,0)]) (bor:=[]) (cN (l) (p) _ (by omega) hl2) rfl rfl rfl rfl ⟨bQ rfl rfl rfl rfl (cJ rfl rfl (aS rfl (aC rfl (aC rfl aG)) trivial)),rfl⟩ rfl (.inl rfl) (aH ⟨rfl,trivial⟩) (fun _ hj=>nomatch hj) (s1 (gW (bH (robj:=[(0,.box 177 [.d (.sl (aA (l))),.d (.i (p+1))])]) (rl:=[(0,0)]) (bor:=[]) (cN (l) (p+1) _ (by omega) hl2) rfl rfl rfl rfl ⟨bQ rfl rfl rfl rfl (cJ rfl rfl (aS rfl (aC rfl (aC rfl aG)) trivial)),rfl⟩ rfl (.inl rfl) (aH ⟨rfl,trivial⟩) (fun _ hj=>nomatch hj) (s2 (gW (bH (robj:=[(0,.box 177 [.d (.sl (aA (l))),.d (.i (p+1+1))])]) (rl:=[(0,0)]) (bor:=[]) (cN (l) (p+1+1) _ (by omega) hl2) rfl rfl rfl rfl ⟨bQ rfl rfl rfl rfl (cJ rfl rfl (aS rfl (aC rfl (aC rfl aG)) trivial)),rfl⟩ rfl (.inl rfl) (aH ⟨rfl,trivial⟩) (fun _ hj=>nomatch hj) ?_))))))))))))))
 refine s1 (gW (bH (robj:=[(0,.box 177 [.d (.sl (aA (l))),.d (.i (p+1+1+1))])]) (rl:=[(0,0)]) (bor:=[]) (cN (l) (p+1+1+1) _ (by omega) hl2) rfl rfl rfl rfl ⟨bQ rfl rfl rfl rfl (cJ rfl rfl (aS rfl (aC rfl (aC rfl aG)) trivial)),rfl⟩ rfl (.inl rfl) (aH ⟨rfl,trivial⟩) (fun _ hj=>nomatch hj) (s2 (ai (by exact⟨by simp,by decide⟩) (yQ 15 15 rfl rfl rfl rfl (cY (robj:=[(0,.box 177 [.d (.sl (aA (l))),.d (.i (p+1+1+1+1))])]) (rl:=[(0,0)]) (bor:=[]) (news:=[]) (aLq (l) (p+1+1+1+1) (([[97],[104,101,108,108,111],[97,32,108,111,110,103,101,114,32,109,101,115,115,97,103,101],[32,120,32],[106,117,115,116,32,116,119,101,110,116,121,45,102,111,117,114,32,98,121,116,101,115,32,33]]:List (List UInt8))) (by simp) (by omega) hl2) rfl rfl rfl rfl ⟨bQ rfl rfl rfl rfl (cJ rfl rfl (aS rfl (aC rfl (aC rfl aG)) trivial)),rfl⟩ (by rintro _ ⟨x,hx,rfl⟩;exact⟨rfl,.inl rfl,fun j hj=>nomatch hj⟩) (aH ⟨rfl,trivial⟩) (fun j hj=>nomatch hj) ?_))))))
 rintro _ ⟨x,hx,rfl⟩
 refine s3 (sq (sq (rT [0,2,3,19] (s1 (bH (robj:=[(0,.box 177 [.d (.sl (aA (l))),.d (.i (p+1+1+1+1+1))])]) (rl:=[(0,0)]) (bor:=[]) (cN (l) (p+1+1+1+1+1) _ (by omega) hl2) rfl rfl rfl rfl ⟨bQ rfl rfl rfl rfl (cJ rfl rfl (aS rfl (aC rfl (aC rfl aG)) trivial)),rfl⟩ rfl (.inl rfl) (aH ⟨rfl,trivial⟩) (fun _ hj=>nomatch hj) (bk (sq (rT [0,2,3,19,20] (s2 (cd rfl (fun c20=> ?_) fun c20=> ?_))))))))))
 · have hv:=cF l (p:=p+1+1+1+1+1+1) (n:=2) (by omega) (by omega)
   refine rT [2,3] (ai (by exact⟨by simp,by decide⟩) (s1 (bH (robj:=[(0,.box 177 [.d (.sl (aA (l))),.d (.i (p+1+1+1+1+1+1))])]) (rl:=[(0,0)]) (bor:=[]) (cN (l) (p+1+1+1+1+1+1) _ (by omega) hl2) rfl rfl rfl rfl ⟨bQ rfl rfl rfl rfl (cJ rfl rfl (aS rfl (aC rfl (aC rfl aG)) trivial)),rfl⟩ rfl (.inl rfl) (aH ⟨rfl,trivial⟩) (fun _ hj=>nomatch hj) (ai ⟨rfl,hv.1,hv.2⟩ (ai (yl (l:=[-1,4]) (by simp;omega) rfl) (s2 (sq (rT [2] (s2 (rt ?_))))))))))
   first
    |(refine cW _ ⟨⟨?za1,?zb1,?zc1,?zd1,x⟩,p+1+1+1+1+1+1+1,?zn1,⟨by omega,by omega⟩,rfl⟩ (dQ _ [] [] rfl ?_ rfl rfl)
      repeat' first|exact trivial|refine gQ rfl ?_|refine cJ rfl ?_ ?_|refine fN rfl rfl ?_ rfl ?_|refine bR rfl ?_ ?_|refine bQ rfl rfl rfl rfl ?_|refine aS rfl ?_ ?_|refine dB rfl ?_ ?_|exact aG|refine aC ?_ ?_|refine fF ?_|refine bJ rfl ?_ rfl ?_|refine dD rfl rfl rfl ?_
      try any_goals with_reducible rfl
      try any_goals rfl
      refine⟨⟨?_,?_,?_,?_⟩,?_⟩
      all_goals(try dsimp only)
      all_goals first|exact hall x hx|omega|(refine⟨?_,?_⟩<;>rw[aB (by omega)]<;>omega)|exact dY (l:=[-1,4]) (j:=(bN l (p+1+1+1+1+1+1) 2).toNat) (by decide) (by simp;omega)|exact dY (l:=[0,99,100]) (j:=(bN l (p+1+1+1+1+1+1) 3).toNat) (by decide) (by simp;omega)|exact dY (l:=[0,999,1000]) (j:=(bN l (p+1+1+1+1+1+1) 3).toNat) (by decide) (by simp;omega)
      done)
    |(refine cW _ ⟨⟨?za1,?zb1,?zc1,?zd1,x⟩,p+1+1+1+1+1+1,?zn1,⟨by omega,by omega⟩,rfl⟩ (dQ _ [] [] rfl ?_ rfl rfl)
      repeat' first|exact trivial|refine gQ rfl ?_|refine cJ rfl ?_ ?_|refine fN rfl rfl ?_ rfl ?_|refine bR rfl ?_ ?_|refine bQ rfl rfl rfl rfl ?_|refine aS rfl ?_ ?_|refine dB rfl ?_ ?_|exact aG|refine aC ?_ ?_|refine fF ?_|refine bJ rfl ?_ rfl ?_|refine dD rfl rfl rfl ?_
      try any_goals with_reducible rfl
      try any_goals rfl
      refine⟨⟨?_,?_,?_,?_⟩,?_⟩
      all_goals(try dsimp only)
      all_goals first|exact hall x hx|omega|(refine⟨?_,?_⟩<;>rw[aB (by omega)]<;>omega)|exact dY (l:=[-1,4]) (j:=(bN l (p+1+1+1+1+1+1) 2).toNat) (by decide) (by simp;omega)|exact dY (l:=[0,99,100]) (j:=(bN l (p+1+1+1+1+1+1) 3).toNat) (by decide) (by simp;omega)|exact dY (l:=[0,999,1000]) (j:=(bN l (p+1+1+1+1+1+1) 3).toNat) (by decide) (by simp;omega)
      done)
    |(refine cW _ ⟨⟨?za1,?zb1,?zc1,?zd1,y⟩,q,?zn1,⟨by omega,by omega⟩,rfl⟩ (dQ _ [] [] rfl ?_ rfl rfl)
      repeat' first|exact trivial|refine gQ rfl ?_|refine cJ rfl ?_ ?_|refine fN rfl rfl ?_ rfl ?_|refine bR rfl ?_ ?_|refine bQ rfl rfl rfl rfl ?_|refine aS rfl ?_ ?_|refine dB rfl ?_ ?_|exact aG|refine aC ?_ ?_|refine fF ?_|refine bJ rfl ?_ rfl ?_|refine dD rfl rfl rfl ?_
      try any_goals with_reducible rfl
      try any_goals rfl
      refine⟨⟨?_,?_,?_,?_⟩,?_⟩
      all_goals(try dsimp only)
      all_goals first|exact hq.2.2|omega|(refine⟨?_,?_⟩<;>rw[aB (by omega)]<;>omega)|exact dY (l:=[-1,4]) (j:=(bN l (p+1+1+1+1+1+1) 2).toNat) (by decide) (by simp;omega)|exact dY (l:=[0,99,100]) (j:=(bN l (p+1+1+1+1+1+1) 3).toNat) (by decide) (by simp;omega)|exact dY (l:=[0,999,1000]) (j:=(bN l (p+1+1+1+1+1+1) 3).toNat) (by decide) (by simp;omega)
      done)
 refine sq (rT [0,2,3,19,28] (s2 (cd rfl (fun c28=> ?_) fun c28=> ?_)))
 · have hv:=cF l (p:=p+1+1+1+1+1+1) (n:=3) (by omega) (by omega)
   refine rT [2,3] (ai (by exact⟨by simp,by decide⟩) (s1 (bH (robj:=[(0,.box 177 [.d (.sl (aA (l))),.d (.i (p+1+1+1+1+1+1))])]) (rl:=[(0,0)]) (bor:=[]) (cN (l) (p+1+1+1+1+1+1) _ (by omega) hl2) rfl rfl rfl rfl ⟨bQ rfl rfl rfl rfl (cJ rfl rfl (aS rfl (aC rfl (aC rfl aG)) trivial)),rfl⟩ rfl (.inl rfl) (aH ⟨rfl,trivial⟩) (fun _ hj=>nomatch hj) (ai ⟨rfl,hv.1,hv.2⟩ (ai (yl (l:=[0,99,100]) (by simp;omega) rfl) (s2 (sq (rT [2] (s2 (rt ?_))))))))))
   first
    |(refine cW _ ⟨⟨?za2,?zb2,?zc2,?zd2,x⟩,p+1+1+1+1+1+1+1,?zn2,⟨by omega,by omega⟩,rfl⟩ (dQ _ [] [] rfl ?_ rfl rfl)
      repeat' first|exact trivial|refine gQ rfl ?_|refine cJ rfl ?_ ?_|refine fN rfl rfl ?_ rfl ?_|refine bR rfl ?_ ?_|refine bQ rfl rfl rfl rfl ?_|refine aS rfl ?_ ?_|refine dB rfl ?_ ?_|exact aG|refine aC ?_ ?_|refine fF ?_|refine bJ rfl ?_ rfl ?_|refine dD rfl rfl rfl ?_
      try any_goals with_reducible rfl
      try any_goals rfl
      refine⟨⟨?_,?_,?_,?_⟩,?_⟩
      all_goals(try dsimp only)
      all_goals first|exact hall x hx|omega|(refine⟨?_,?_⟩<;>rw[aB (by omega)]<;>omega)|exact dY (l:=[-1,4]) (j:=(bN l (p+1+1+1+1+1+1) 2).toNat) (by decide) (by simp;omega)|exact dY (l:=[0,99,100]) (j:=(bN l (p+1+1+1+1+1+1) 3).toNat) (by decide) (by simp;omega)|exact dY (l:=[0,999,1000]) (j:=(bN l (p+1+1+1+1+1+1) 3).toNat) (by decide) (by simp;omega)
      done)
    |(refine cW _ ⟨⟨?za2,?zb2,?zc2,?zd2,x⟩,p+1+1+1+1+1+1,?zn2,⟨by omega,by omega⟩,rfl⟩ (dQ _ [] [] rfl ?_ rfl rfl)
      repeat' first|exact trivial|refine gQ rfl ?_|refine cJ rfl ?_ ?_|refine fN rfl rfl ?_ rfl ?_|refine bR rfl ?_ ?_|refine bQ rfl rfl rfl rfl ?_|refine aS rfl ?_ ?_|refine dB rfl ?_ ?_|exact aG|refine aC ?_ ?_|refine fF ?_|refine bJ rfl ?_ rfl ?_|refine dD rfl rfl rfl ?_
      try any_goals with_reducible rfl
      try any_goals rfl
      refine⟨⟨?_,?_,?_,?_⟩,?_⟩
      all_goals(try dsimp only)
      all_goals first|exact hall x hx|omega|(refine⟨?_,?_⟩<;>rw[aB (by omega)]<;>omega)|exact dY (l:=[-1,4]) (j:=(bN l (p+1+1+1+1+1+1) 2).toNat) (by decide) (by simp;omega)|exact dY (l:=[0,99,100]) (j:=(bN l (p+1+1+1+1+1+1) 3).toNat) (by decide) (by simp;omega)|exact dY (l:=[0,999,1000]) (j:=(bN l (p+1+1+1+1+1+1) 3).toNat) (by decide) (by simp;omega)
      done)
    |(refine cW _ ⟨⟨?za2,?zb2,?zc2,?zd2,y⟩,q,?zn2,⟨by omega,by omega⟩,rfl⟩ (dQ _ [] [] rfl ?_ rfl rfl)
      repeat' first|exact trivial|refine gQ rfl ?_|refine cJ rfl ?_ ?_|refine fN rfl rfl ?_ rfl ?_|refine bR rfl ?_ ?_|refine bQ rfl rfl rfl rfl ?_|refine aS rfl ?_ ?_|refine dB rfl ?_ ?_|exact aG|refine aC ?_ ?_|refine fF ?_|refine bJ rfl ?_ rfl ?_|refine dD rfl rfl rfl ?_
      try any_goals with_reducible rfl
      try any_goals rfl
      refine⟨⟨?_,?_,?_,?_⟩,?_⟩
      all_goals(try dsimp only)
      all_goals first|exact hq.2.2|omega|(refine⟨?_,?_⟩<;>rw[aB (by omega)]<;>omega)|exact dY (l:=[-1,4]) (j:=(bN l (p+1+1+1+1+1+1) 2).toNat) (by decide) (by simp;omega)|exact dY (l:=[0,99,100]) (j:=(bN l (p+1+1+1+1+1+1) 3).toNat) (by decide) (by simp;omega)|exact dY (l:=[0,999,1000]) (j:=(bN l (p+1+1+1+1+1+1) 3).toNat) (by decide) (by simp;omega)
      done)
 refine sq (rT [0,2,3,19,36] (s2 (cd rfl (fun c36=> ?_) fun c36=> ?_)))
 · have hv:=cF l (p:=p+1+1+1+1+1+1) (n:=3) (by omega) (by omega)
   refine rT [2,3] (ai (by exact⟨by simp,by decide⟩) (s1 (bH (robj:=[(0,.box 177 [.d (.sl (aA (l))),.d (.i (p+1+1+1+1+1+1))])]) (rl:=[(0,0)]) (bor:=[]) (cN (l) (p+1+1+1+1+1+1) _ (by omega) hl2) rfl rfl rfl rfl ⟨bQ rfl rfl rfl rfl (cJ rfl rfl (aS rfl (aC rfl (aC rfl aG)) trivial)),rfl⟩ rfl (.inl rfl) (aH ⟨rfl,trivial⟩) (fun _ hj=>nomatch hj) (ai ⟨rfl,hv.1,hv.2⟩ (ai (yl (l:=[0,999,1000]) (by simp;omega) rfl) (s2 (sq (rT [2] (s2 (rt ?_))))))))))
   first
    |(refine cW _ ⟨⟨?za3,?zb3,?zc3,?zd3,x⟩,p+1+1+1+1+1+1+1,?zn3,⟨by omega,by omega⟩,rfl⟩ (dQ _ [] [] rfl ?_ rfl rfl)
      repeat' first|exact trivial|refine gQ rfl ?_|refine cJ rfl ?_ ?_|refine fN rfl rfl ?_ rfl ?_|refine bR rfl ?_ ?_|refine bQ rfl rfl rfl rfl ?_|refine aS rfl ?_ ?_|refine dB rfl ?_ ?_|exact aG|refine aC ?_ ?_|refine fF ?_|refine bJ rfl ?_ rfl ?_|refine dD rfl rfl rfl ?_
      try any_goals with_reducible rfl
      try any_goals rfl
      refine⟨⟨?_,?_,?_,?_⟩,?_⟩
      all_goals(try dsimp only)
      all_goals first|exact hall x hx|omega|(refine⟨?_,?_⟩<;>rw[aB (by omega)]<;>omega)|exact dY (l:=[-1,4]) (j:=(bN l (p+1+1+1+1+1+1) 2).toNat) (by decide) (by simp;omega)|exact dY (l:=[0,99,100]) (j:=(bN l (p+1+1+1+1+1+1) 3).toNat) (by decide) (by simp;omega)|exact dY (l:=[0,999,1000]) (j:=(bN l (p+1+1+1+1+1+1) 3).toNat) (by decide) (by simp;omega)
      done)
    |(refine cW _ ⟨⟨?za3,?zb3,?zc3,?zd3,x⟩,p+1+1+1+1+1+1,?zn3,⟨by omega,by omega⟩,rfl⟩ (dQ _ [] [] rfl ?_ rfl rfl)
      repeat' first|exact trivial|refine gQ rfl ?_|refine cJ rfl ?_ ?_|refine fN rfl rfl ?_ rfl ?_|refine bR rfl ?_ ?_|refine bQ rfl rfl rfl rfl ?_|refine aS rfl ?_ ?_|refine dB rfl ?_ ?_|exact aG|refine aC ?_ ?_|refine fF ?_|refine bJ rfl ?_ rfl ?_|refine dD rfl rfl rfl ?_
      try any_goals with_reducible rfl
      try any_goals rfl
      refine⟨⟨?_,?_,?_,?_⟩,?_⟩
      all_goals(try dsimp only)
      all_goals first|exact hall x hx|omega|(refine⟨?_,?_⟩<;>rw[aB (by omega)]<;>omega)|exact dY (l:=[-1,4]) (j:=(bN l (p+1+1+1+1+1+1) 2).toNat) (by decide) (by simp;omega)|exact dY (l:=[0,99,100]) (j:=(bN l (p+1+1+1+1+1+1) 3).toNat) (by decide) (by simp;omega)|exact dY (l:=[0,999,1000]) (j:=(bN l (p+1+1+1+1+1+1) 3).toNat) (by decide) (by simp;omega)
      done)
    |(refine cW _ ⟨⟨?za3,?zb3,?zc3,?zd3,y⟩,q,?zn3,⟨by omega,by omega⟩,rfl⟩ (dQ _ [] [] rfl ?_ rfl rfl)
      repeat' first|exact trivial|refine gQ rfl ?_|refine cJ rfl ?_ ?_|refine fN rfl rfl ?_ rfl ?_|refine bR rfl ?_ ?_|refine bQ rfl rfl rfl rfl ?_|refine aS rfl ?_ ?_|refine dB rfl ?_ ?_|exact aG|refine aC ?_ ?_|refine fF ?_|refine bJ rfl ?_ rfl ?_|refine dD rfl rfl rfl ?_
      try any_goals with_reducible rfl
      try any_goals rfl
      refine⟨⟨?_,?_,?_,?_⟩,?_⟩
      all_goals(try dsimp only)
      all_goals first|exact hq.2.2|omega|(refine⟨?_,?_⟩<;>rw[aB (by omega)]<;>omega)|exact dY (l:=[-1,4]) (j:=(bN l (p+1+1+1+1+1+1) 2).toNat) (by decide) (by simp;omega)|exact dY (l:=[0,99,100]) (j:=(bN l (p+1+1+1+1+1+1) 3).toNat) (by decide) (by simp;omega)|exact dY (l:=[0,999,1000]) (j:=(bN l (p+1+1+1+1+1+1) 3).toNat) (by decide) (by simp;omega)
      done)
 refine sq (rT [0,2,3,19,44] (s2 (cd rfl (fun c44=> ?_) fun c44=> ?_)))
 · refine rE [2,3] (s1 (cY (robj:=[(0,.box 177 [.d (.sl (aA (l))),.d (.i (p+1+1+1+1+1+1))])]) (rl:=[(0,0)]) (bor:=[]) (news:=[]) (xu l (p+1+1+1+1+1+1) (by omega) hl) rfl rfl rfl rfl ⟨bQ rfl rfl rfl rfl (aS rfl (aC rfl (aC rfl aG)) trivial),rfl⟩ (by rintro _ ⟨y,q,hq,rfl⟩;exact⟨rfl,.inl rfl,fun j hj=>nomatch hj⟩) (aH ⟨rfl,trivial⟩) (fun j hj=>nomatch hj) ?_))
   rintro _ ⟨y,q,hq,rfl⟩
   refine s2 (sq (rT [2] (s2 (rt ?_))))
   first
    |(refine cW _ ⟨⟨?za4,?zb4,?zc4,?zd4,x⟩,p+1+1+1+1+1+1+1,?zn4,⟨by omega,by omega⟩,rfl⟩ (dQ _ [] [] rfl ?_ rfl rfl)
      repeat' first|exact trivial|refine gQ rfl ?_|refine cJ rfl ?_ ?_|refine fN rfl rfl ?_ rfl ?_|refine bR rfl ?_ ?_|refine bQ rfl rfl rfl rfl ?_|refine aS rfl ?_ ?_|refine dB rfl ?_ ?_|exact aG|refine aC ?_ ?_|refine fF ?_|refine bJ rfl ?_ rfl ?_|refine dD rfl rfl rfl ?_
      try any_goals with_reducible rfl
      try any_goals rfl
      refine⟨⟨?_,?_,?_,?_⟩,?_⟩
      all_goals(try dsimp only)
      all_goals first|exact hall x hx|omega|(refine⟨?_,?_⟩<;>rw[aB (by omega)]<;>omega)|exact dY (l:=[-1,4]) (j:=(bN l (p+1+1+1+1+1+1) 2).toNat) (by decide) (by simp;omega)|exact dY (l:=[0,99,100]) (j:=(bN l (p+1+1+1+1+1+1) 3).toNat) (by decide) (by simp;omega)|exact dY (l:=[0,999,1000]) (j:=(bN l (p+1+1+1+1+1+1) 3).toNat) (by decide) (by simp;omega)
      done)
    |(refine cW _ ⟨⟨?za4,?zb4,?zc4,?zd4,x⟩,p+1+1+1+1+1+1,?zn4,⟨by omega,by omega⟩,rfl⟩ (dQ _ [] [] rfl ?_ rfl rfl)
      repeat' first|exact trivial|refine gQ rfl ?_|refine cJ rfl ?_ ?_|refine fN rfl rfl ?_ rfl ?_|refine bR rfl ?_ ?_|refine bQ rfl rfl rfl rfl ?_|refine aS rfl ?_ ?_|refine dB rfl ?_ ?_|exact aG|refine aC ?_ ?_|refine fF ?_|refine bJ rfl ?_ rfl ?_|refine dD rfl rfl rfl ?_
      try any_goals with_reducible rfl
      try any_goals rfl
      refine⟨⟨?_,?_,?_,?_⟩,?_⟩
      all_goals(try dsimp only)
      all_goals first|exact hall x hx|omega|(refine⟨?_,?_⟩<;>rw[aB (by omega)]<;>omega)|exact dY (l:=[-1,4]) (j:=(bN l (p+1+1+1+1+1+1) 2).toNat) (by decide) (by simp;omega)|exact dY (l:=[0,99,100]) (j:=(bN l (p+1+1+1+1+1+1) 3).toNat) (by decide) (by simp;omega)|exact dY (l:=[0,999,1000]) (j:=(bN l (p+1+1+1+1+1+1) 3).toNat) (by decide) (by simp;omega)
      done)
    |(refine cW _ ⟨⟨?za4,?zb4,?zc4,?zd4,y⟩,q,?zn4,⟨by omega,by omega⟩,rfl⟩ (dQ _ [] [] rfl ?_ rfl rfl)
      repeat' first|exact trivial|refine gQ rfl ?_|refine cJ rfl ?_ ?_|refine fN rfl rfl ?_ rfl ?_|refine bR rfl ?_ ?_|refine bQ rfl rfl rfl rfl ?_|refine aS rfl ?_ ?_|refine dB rfl ?_ ?_|exact aG|refine aC ?_ ?_|refine fF ?_|refine bJ rfl ?_ rfl ?_|refine dD rfl rfl rfl ?_
      try any_goals with_reducible rfl
      try any_goals rfl
      refine⟨⟨?_,?_,?_,?_⟩,?_⟩
      all_goals(try dsimp only)
      all_goals first|exact hq.2.2|omega|(refine⟨?_,?_⟩<;>rw[aB (by omega)]<;>omega)|exact dY (l:=[-1,4]) (j:=(bN l (p+1+1+1+1+1+1) 2).toNat) (by decide) (by simp;omega)|exact dY (l:=[0,99,100]) (j:=(bN l (p+1+1+1+1+1+1) 3).toNat) (by decide) (by simp;omega)|exact dY (l:=[0,999,1000]) (j:=(bN l (p+1+1+1+1+1+1) 3).toNat) (by decide) (by simp;omega)
      done)
 refine sq (rT [0,2,3,49] (s2 (cd rfl (fun c49=> ?_) fun c49=> ?_)))
 · have hv:=cF l (p:=p+1+1+1+1+1+1) (n:=2) (by omega) (by omega)
   refine rT [2,3] (ai (by exact⟨by simp,by decide⟩) (s1 (bH (robj:=[(0,.box 177 [.d (.sl (aA (l))),.d (.i (p+1+1+1+1+1+1))])]) (rl:=[(0,0)]) (bor:=[]) (cN (l) (p+1+1+1+1+1+1) _ (by omega) hl2) rfl rfl rfl rfl ⟨bQ rfl rfl rfl rfl (cJ rfl rfl (aS rfl (aC rfl (aC rfl aG)) trivial)),rfl⟩ rfl (.inl rfl) (aH ⟨rfl,trivial⟩) (fun _ hj=>nomatch hj) (ai ⟨rfl,hv.1,hv.2⟩ (ai (yl (l:=[-1,4]) (by simp;omega) rfl) (s2 (sq (rT [2] (s2 (rt ?_))))))))))
   first
    |(refine cW _ ⟨⟨?za5,?zb5,?zc5,?zd5,x⟩,p+1+1+1+1+1+1+1,?zn5,⟨by omega,by omega⟩,rfl⟩ (dQ _ [] [] rfl ?_ rfl rfl)
      repeat' first|exact trivial|refine gQ rfl ?_|refine cJ rfl ?_ ?_|refine fN rfl rfl ?_ rfl ?_|refine bR rfl ?_ ?_|refine bQ rfl rfl rfl rfl ?_|refine aS rfl ?_ ?_|refine dB rfl ?_ ?_|exact aG|refine aC ?_ ?_|refine fF ?_|refine bJ rfl ?_ rfl ?_|refine dD rfl rfl rfl ?_
      try any_goals with_reducible rfl
      try any_goals rfl
      refine⟨⟨?_,?_,?_,?_⟩,?_⟩
      all_goals(try dsimp only)
      all_goals first|exact hall x hx|omega|(refine⟨?_,?_⟩<;>rw[aB (by omega)]<;>omega)|exact dY (l:=[-1,4]) (j:=(bN l (p+1+1+1+1+1+1) 2).toNat) (by decide) (by simp;omega)|exact dY (l:=[0,99,100]) (j:=(bN l (p+1+1+1+1+1+1) 3).toNat) (by decide) (by simp;omega)|exact dY (l:=[0,999,1000]) (j:=(bN l (p+1+1+1+1+1+1) 3).toNat) (by decide) (by simp;omega)
      done)
    |(refine cW _ ⟨⟨?za5,?zb5,?zc5,?zd5,x⟩,p+1+1+1+1+1+1,?zn5,⟨by omega,by omega⟩,rfl⟩ (dQ _ [] [] rfl ?_ rfl rfl)
      repeat' first|exact trivial|refine gQ rfl ?_|refine cJ rfl ?_ ?_|refine fN rfl rfl ?_ rfl ?_|refine bR rfl ?_ ?_|refine bQ rfl rfl rfl rfl ?_|refine aS rfl ?_ ?_|refine dB rfl ?_ ?_|exact aG|refine aC ?_ ?_|refine fF ?_|refine bJ rfl ?_ rfl ?_|refine dD rfl rfl rfl ?_
      try any_goals with_reducible rfl
      try any_goals rfl
      refine⟨⟨?_,?_,?_,?_⟩,?_⟩
      all_goals(try dsimp only)
      all_goals first|exact hall x hx|omega|(refine⟨?_,?_⟩<;>rw[aB (by omega)]<;>omega)|exact dY (l:=[-1,4]) (j:=(bN l (p+1+1+1+1+1+1) 2).toNat) (by decide) (by simp;omega)|exact dY (l:=[0,99,100]) (j:=(bN l (p+1+1+1+1+1+1) 3).toNat) (by decide) (by simp;omega)|exact dY (l:=[0,999,1000]) (j:=(bN l (p+1+1+1+1+1+1) 3).toNat) (by decide) (by simp;omega)
      done)
    |(refine cW _ ⟨⟨?za5,?zb5,?zc5,?zd5,y⟩,q,?zn5,⟨by omega,by omega⟩,rfl⟩ (dQ _ [] [] rfl ?_ rfl rfl)
      repeat' first|exact trivial|refine gQ rfl ?_|refine cJ rfl ?_ ?_|refine fN rfl rfl ?_ rfl ?_|refine bR rfl ?_ ?_|refine bQ rfl rfl rfl rfl ?_|refine aS rfl ?_ ?_|refine dB rfl ?_ ?_|exact aG|refine aC ?_ ?_|refine fF ?_|refine bJ rfl ?_ rfl ?_|refine dD rfl rfl rfl ?_
      try any_goals with_reducible rfl
      try any_goals rfl
      refine⟨⟨?_,?_,?_,?_⟩,?_⟩
      all_goals(try dsimp only)
      all_goals first|exact hq.2.2|omega|(refine⟨?_,?_⟩<;>rw[aB (by omega)]<;>omega)|exact dY (l:=[-1,4]) (j:=(bN l (p+1+1+1+1+1+1) 2).toNat) (by decide) (by simp;omega)|exact dY (l:=[0,99,100]) (j:=(bN l (p+1+1+1+1+1+1) 3).toNat) (by decide) (by simp;omega)|exact dY (l:=[0,999,1000]) (j:=(bN l (p+1+1+1+1+1+1) 3).toNat) (by decide) (by simp;omega)
      done)
 refine sk (sq (rT [2] (s2 (rt ?_))))
 first
  |(refine cW _ ⟨⟨?za6,?zb6,?zc6,?zd6,x⟩,p+1+1+1+1+1+1+1,?zn6,⟨by omega,by omega⟩,rfl⟩ (dQ _ [] [] rfl ?_ rfl rfl)
    repeat' first|exact trivial|refine gQ rfl ?_|refine cJ rfl ?_ ?_|refine fN rfl rfl ?_ rfl ?_|refine bR rfl ?_ ?_|refine bQ rfl rfl rfl rfl ?_|refine aS rfl ?_ ?_|refine dB rfl ?_ ?_|exact aG|refine aC ?_ ?_|refine fF ?_|refine bJ rfl ?_ rfl ?_|refine dD rfl rfl rfl ?_
    try any_goals with_reducible rfl
    try any_goals rfl
    refine⟨⟨?_,?_,?_,?_⟩,?_⟩
    all_goals(try dsimp only)
    all_goals first|exact hall x hx|omega|(refine⟨?_,?_⟩<;>rw[aB (by omega)]<;>omega)|exact dY (l:=[-1,4]) (j:=(bN l (p+1+1+1+1+1+1) 2).toNat) (by decide) (by simp;omega)|exact dY (l:=[0,99,100]) (j:=(bN l (p+1+1+1+1+1+1) 3).toNat) (by decide) (by simp;omega)|exact dY (l:=[0,999,1000]) (j:=(bN l (p+1+1+1+1+1+1) 3).toNat) (by decide) (by simp;omega)
    done)
  |(refine cW _ ⟨⟨?za6,?zb6,?zc6,?zd6,x⟩,p+1+1+1+1+1+1,?zn6,⟨by omega,by omega⟩,rfl⟩ (dQ _ [] [] rfl ?_ rfl rfl)
    repeat' first|exact trivial|refine gQ rfl ?_|refine cJ rfl ?_ ?_|refine fN rfl rfl ?_ rfl ?_|refine bR rfl ?_ ?_|refine bQ rfl rfl rfl rfl ?_|refine aS rfl ?_ ?_|refine dB rfl ?_ ?_|exact aG|refine aC ?_ ?_|refine fF ?_|refine bJ rfl ?_ rfl ?_|refine dD rfl rfl rfl ?_
    try any_goals with_reducible rfl
    try any_goals rfl
    refine⟨⟨?_,?_,?_,?_⟩,?_⟩
    all_goals(try dsimp only)
    all_goals first|exact hall x hx|omega|(refine⟨?_,?_⟩<;>rw[aB (by omega)]<;>omega)|exact dY (l:=[-1,4]) (j:=(bN l (p+1+1+1+1+1+1) 2).toNat) (by decide) (by simp;omega)|exact dY (l:=[0,99,100]) (j:=(bN l (p+1+1+1+1+1+1) 3).toNat) (by decide) (by simp;omega)|exact dY (l:=[0,999,1000]) (j:=(bN l (p+1+1+1+1+1+1) 3).toNat) (by decide) (by simp;omega)
    done)
  |(refine cW _ ⟨⟨?za6,?zb6,?zc6,?zd6,y⟩,q,?zn6,⟨by omega,by omega⟩,rfl⟩ (dQ _ [] [] rfl ?_ rfl rfl)
    repeat' first|exact trivial|refine gQ rfl ?_|refine cJ rfl ?_ ?_|refine fN rfl rfl ?_ rfl ?_|refine bR rfl ?_ ?_|refine bQ rfl rfl rfl rfl ?_|refine aS rfl ?_ ?_|refine dB rfl ?_ ?_|exact aG|refine aC ?_ ?_|refine fF ?_|refine bJ rfl ?_ rfl ?_|refine dD rfl rfl rfl ?_
    try any_goals with_reducible rfl
    try any_goals rfl
    refine⟨⟨?_,?_,?_,?_⟩,?_⟩
    all_goals(try dsimp only)
    all_goals first|exact hq.2.2|omega|(refine⟨?_,?_⟩<;>rw[aB (by omega)]<;>omega)|exact dY (l:=[-1,4]) (j:=(bN l (p+1+1+1+1+1+1) 2).toNat) (by decide) (by simp;omega)|exact dY (l:=[0,99,100]) (j:=(bN l (p+1+1+1+1+1+1) 3).toNat) (by decide) (by simp;omega)|exact dY (l:=[0,999,1000]) (j:=(bN l (p+1+1+1+1+1+1) 3).toNat) (by decide) (by simp;omega)
    done)
end Go.Proofs.YtmabaopgkimfmaaGreatDoor
