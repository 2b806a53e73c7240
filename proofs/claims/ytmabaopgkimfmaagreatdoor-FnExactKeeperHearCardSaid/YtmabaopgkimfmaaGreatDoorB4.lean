/- Plain functions, and contracts of the functions that the law reaches. -/
import Derived.Shelf.Vars
import Derived.Stop.LaidErr
import Derived.MakeChecks
import Derived.Test.YtmabaopgkimfmaaGreatDoorB3
set_option maxHeartbeats 12800000
namespace Go.Proofs.YtmabaopgkimfmaaGreatDoor
open Int renaming toNat_natCast→aVr
open Nat renaming le_of_ble_eq_true→aVs,zero_le→aVv,le_refl→aVz
open List renaming length_append→aVt,length_cons→aVw,length_nil→aVx,getD_eq_getElem?_getD→aVy,length_take→aV0,getElem?_eq_getElem→aV1,getElem?_eq_some_iff→aV2,take_length→aV3,length_drop→aV4,mem_map→aV5,mem_cons→aV6,range→aV7,all_eq_true→aV8,length_set→aV9,mem_singleton→aWa,replicate→aWb
open Bool renaming and_eq_true→aVu,or_eq_true→aWc
open Go Go.Ab Go.RowKit
set_option linter.unusedVariables false
set_option linter.unusedSimpArgs false
set_option maxRecDepth 9000
theorem aFr (l:List cU) (hg:l.length*24≤140737488355328):Sp 186 1 [tD 0 (.sl (aR l))] [tO 0 0 l.length,oR 0 86 2 (aR l)]:=by
 refine sb Tryz.func186 rfl (sq (rT [0] (s1 (sq (rT [0,3] (s2 (ai (by refine⟨rfl,by omega,?_⟩;rw[aK];show((24:Nat):Int)*_≤_;omega) (s1 (sq (sq (rT [0,3,4] (s1 (bk (SW.loopW (n:=l.length) (fun m q=> ∃i:Nat,m=l.length - i∧i≤l.length∧q=[tD 0 (.sl (aR l)),tO 3 7 l.length,tI 4 (i:Nat),oR 7 86 2 (aR ((l.take i)++aWb (l.length - i) .zero))]) ?_ ?_))))))))))))))
 · refine wq (σ':=[tD 0 (.sl (aR l)),tO 3 7 l.length,tI 4 (0:Nat),oR 7 86 2 (aR ((l.take 0)++aWb (l.length - 0) .zero))]) [] [] (⟨0,rfl,aVv _,rfl⟩) ?_
   repeat' apply ai
   all_goals first|exact qx|rfl|(rw[aK];rfl)|(simp[aR,aK,cU.row,cU.zero];done)|exact qz
 rintro n s ⟨i,rfl,hi,rfl⟩
 refine sq (sq (rT [0,3,4,11] (s4 (cd rfl (fun c11=> ?_) fun c11=> ?_))))
 · have hi2:i<l.length:=by simpa[aK] using c11
   have hgg:=eP (l:=l) hi2
   refine sk (sq (bk (rT [0,3,4] (s4 (ai (by rw[aVr,hgg];exact⟨⟨by omega,by rw[aK];omega⟩,rfl⟩) (ai (by rw[aVr,hgg];exact⟨aVs rfl,rfl⟩) (xp (ct (l.getD i .zero)) (ai (by rw[aVr,hgg];rfl) ?_))))))))
   refine ai (by refine⟨?_,by omega,by omega⟩;simp[aK];omega) (ai (by rw[aVr,gt hi2];exact⟨by simp[aK];omega,by omega,rfl,aVz _⟩) (rT [0,3,4] (s3 (wq [] [] (⟨l.length - (i+1),by omega,i+1,rfl,by omega,rfl⟩) ?_))))
   repeat' apply ai
   all_goals first|exact qx|exact aA D.i (by rw[aF (by omega)];omega)|(rw[aVr];exact ka hi2)|exact qz
 have hi3:i=l.length:=by simp[aK] at c11;omega
 subst hi3
 refine xt (sq (rT [2] (s2 (rt (rq [(0,7)] [] rfl ?_)))))
 repeat' apply ai
 all_goals try exact qx
 all_goals first|rfl|(simp;done)
theorem aLa (h:bB) (hg:h.got.length*24≤140737488355328):Sp 135 1 [tV 0 h.V] [tV 0 (.e (.agg [.d (.i h.frm),.d (.i h.num),.d (.i h.to),.d (.i h.til),.d (.i h.size),.own 0 h.got.length])),oR 0 86 2 (aR h.got)]:=by
 exact sb Tryz.func135 rfl (sq (rT [1,2] (s2 (sq (rT [1,2,3] (s1 (sq (rT [1,2,3] (s4 (sq (rT [1,2,3] (s4 (sq (rT [1,2,3] (s4 (sq (rT [1,2,3] (s4 (sq (rT [1,2,3] (s4 (sq (rT [2,3] (s2 (eX (robj:=[]) (rl:=[(0,60)]) (bor:=[]) (aFr h.got hg) rfl rfl rfl rfl ⟨iG rfl rfl trivial,rfl⟩ rfl (.inl rfl) (fun p hp=>nomatch hp) (fun j hj=>by(obtain rfl:j=0:=by simpa[fI,bJ,gB] using hj);rfl) (s2 (sq (rT [2] (s2 (rt (rq [(0,60)] [] rfl qz)))))))))))))))))))))))))))))))
theorem aH5 (l:List bB) (hg:l.length*64≤140737488355328) (hx: ∀h∈l,h.got.length*24≤140737488355328):SpE 66 1 [tD 0 (.sl (aP l))] (fun s=> ∃vs:List Value,vs.length=l.length∧s=[tO 0 0 l.length,oR 0 138 6 (cI l vs),(.o 1,.zone (kL 86 2 (gI l vs)))]):=by
 refine sbE Tryz.func66 rfl (sq (rT [0] (s1 (sq (rT [0,3] (s2 (ai (by refine⟨rfl,by omega,?_⟩;rw[aE];show((64:Nat):Int)*_≤_;omega) (s1 (sq (sq (rT [0,3,4] (s1 (bk (SW.newFam 90 86 2 rfl (SW.loopW (n:=l.length) (fun m q=> ∃vs:List Value,(m=l.length - vs.length∧vs.length≤l.length)∧q=[tD 0 (.sl (aP l)),tO 3 7 l.length,tI 4 (vs.length:Nat),oR 7 138 6 (cI (pQ l vs.length) vs),(.o 90,.zone (kL 86 2 (gI l vs)))]) ?_ ?_)))))))))))))))
 · refine wq (σ':=[tD 0 (.sl (aP l)),tO 3 7 l.length,tI 4 (([]:List Value).length:Nat),oR 7 138 6 (cI (pQ l ([]:List Value).length) ([]:List Value)),(.o 90,.zone (kL 86 2 (gI l ([]:List Value))))]) [] [] (⟨[],⟨rfl,aVv _⟩,rfl⟩) ?_
   repeat' apply ai
   all_goals first|exact qx|rfl|(rw[aE];rfl)|(rw[aFj];done)|(rw[aBu,aE];rfl)|(refine Eq.trans ?_ (aBu l).symm;simp[aE,bB.row,bB.zero,aR];done)|exact qz
 rintro n s ⟨vs,⟨rfl,hi⟩,rfl⟩
 refine sq (sq (rT [0,3,4,11] (s4 (cd rfl (fun c11=> ?_) fun c11=> ?_))))
 · have hi2:vs.length<l.length:=by simpa[aE] using c11
   have hgg:=dG (l:=l) hi2
   have hmem:l.getD vs.length .zero∈l:=cM hi2
   refine sk (sq (bk (rE [0,3,4] (s4 (ai (by rw[aVr,hgg];exact⟨⟨by omega,by rw[aE];omega⟩,rfl⟩) (ai (by rw[aVr,hgg];exact⟨aVs rfl,rfl⟩) (aHw (robj:=[]) (rl:=[(0,91)]) (bor:=[]) 90 91 20 (aLa (l.getD vs.length .zero) (hx _ hmem)) ⟨_,rfl,rfl,rfl⟩ rfl ⟨dS rfl (by rw[aVr,hgg];exact aN rfl (aN rfl (aN rfl (aN rfl (aN rfl (aN rfl bG)))))) trivial,rfl⟩ rfl (.inl rfl) (fun p hp=>nomatch hp) (fun j hj=>by(obtain rfl:j=0:=by simpa[fI,bJ,gB] using hj);rfl) rfl rfl rfl rfl (aQi (aK _).symm) ?_)))))))
   intro v
   have hvl: (vs++[v]).length=vs.length+1:=by simp
   refine ai (by refine⟨?_,by omega,by omega⟩;rw[eH,uI (by omega)]) (ai (by rw[aVr,aFn hi2];exact⟨by rw[eH,uI (by omega)],by omega,rfl,aVz _⟩) (rT [0,3,4] (s3 (wq [] [] (⟨l.length - (vs++[v]).length,by rw[hvl];omega,vs++[v],⟨rfl,by rw[hvl];omega⟩,rfl⟩) ?_))))
   repeat' apply ai
   all_goals first|exact qx|exact aA D.i (by rw[aF (by omega),hvl];omega)|(rw[aVr];exact aK8 hi2)|(rw[← nr _ _ _ hi2];done)|rfl|exact qz
 have hi3:vs.length=l.length:=by simp[aE] at c11;omega
 refine xt (sq (rT [2] (s2 (rt (aq [tO 0 0 l.length,oR 0 138 6 (cI l vs),(.o 1,.zone (kL 86 2 (gI l vs)))] ⟨vs,hi3,rfl⟩ (dO _ [(0,7),(1,90)] [] rfl (lD rfl rfl rfl rfl (cJ rfl (by rw[hi3,aK5]) (gH rfl rfl trivial))) rfl rfl))))))
theorem aFs (k:aT) (hk:KRB k):SpE 17 1 [tV 0 k.V] (fun s=> ∃vs:List Value,vs.length=k.halves.length∧s=[tV 0 (.e (.agg [.d (.i k.id),.d (.b k.up),.d (.s k.log),.d (.i k.forced),.own 0 k.halves.length])),oR 0 138 6 (cI k.halves vs),(.o 1,.zone (kL 86 2 (gI k.halves vs)))]):=by
 refine sbE Tryz.func17 rfl (sq (rT [1,2] (s2 (sq (rT [1,2,3] (s1 (sq (rT [1,2,3] (s4 (sq (rT [1,2,3] (s4 (sq (rT [1,2,3] (s2 (xp (cu k.log k.forced) (ai rfl ?_)))))))))))))))))
 refine s2 (sq (rE [2,3] (s2 (qF (robj:=[]) (rl:=[(0,60),(1,90)]) (bor:=[]) (news:=[0,1]) (aH5 k.halves hk.2.1 hk.2.2) rfl rfl rfl rfl ⟨iG rfl rfl trivial,rfl⟩ (by rintro _ ⟨vs,hvs,rfl⟩;exact⟨rfl,.inl rfl,fun j hj=>hj⟩) (fun p hp=>nomatch hp) (fun j hj=>by simp at hj;rcases hj with rfl|rfl<;>rfl) ?_))))
 rintro _ ⟨vs,hvs,rfl⟩
 exact s2 (sq (rT [2] (s2 (rt (aq _ ⟨vs,hvs,rfl⟩ (dO _ [(0,60),(1,90)] [] rfl (dS rfl (aN rfl (aN rfl (aN rfl (aN rfl (dP rfl rfl rfl bG))))) (cJ rfl rfl (gH rfl rfl trivial))) rfl rfl))))))
theorem aH6 (m:cU) (n:Int) (hm:m.data.length≤140737488355328) (hn:0≤n∧n≤1048576):SpE 221 2 [tV 0 m.V,tI 1 n] (fun s=> ∃r:Int,(-1≤r∧(0≤r→r+0≤n))∧s=[tI 0 r]):=by
 have hw0:wrap64 (n - (m.data.length:Int))=n - m.data.length:=aF (by omega)
 refine sbE Tryz.func221 rfl (sq (rT [1,2] (s2 (sq (rT [1] (s6 (sq (sq (rT [1,11] (s2 (cd rfl (fun c11=> ?_) fun c11=> ?_)))))))))))
 · refine sq (rT [4] (s1 (rt (sN _ ⟨_,?_,rfl⟩ (aU rfl rfl)))))
   exact⟨by omega,fun h=>by omega⟩
 have hc: ¬wrap64 (n - (m.data.length:Int))<0:=by simpa using c11
 rw[hw0] at hc
 refine sk (sq (rT [4] (s2 (rt (sN _ ⟨_,?_,rfl⟩ (aU rfl rfl))))))
 rw[hw0]
 exact⟨by omega,fun h=>by omega⟩
theorem aFt (l:List cU) (n:Int) (hg:l.length*24≤140737488355328) (hx: ∀m∈l,m.data.length≤140737488355328) (hn:0≤n∧n≤1048576):SpE 182 2 [tD 0 (.sl (aR l)),tI 1 n] (fun s=> ∃r:Int,(-1≤r∧(0≤r→r+(l.length:Nat)≤n))∧s=[tI 0 r]):=by
 have hw0:wrap64 (n - ((aR l).length:Int))=n - l.length:=by rw[aK];exact aF (by omega)
 refine sbE Tryz.func182 rfl (sq (rT [0,1] (s1 (sq (rT [0,1] (s5 (sq (sq (rT [0,1,11] (s2 (cd rfl (fun c11=> ?_) fun c11=> ?_)))))))))))
 · refine sq (rT [4] (s1 (rt (sN _ ⟨_,?_,rfl⟩ (aU rfl rfl)))))
   exact⟨by omega,fun h=>by omega⟩
 have hc: ¬wrap64 (n - ((aR l).length:Int))<0:=by simpa using c11
 rw[hw0] at hc
 refine sk (sq (sq (rT [0,1,5] (s1 (bk (SW.loopW (n:=l.length) (fun m q=> ∃(i:Nat) (x:Int),(m=l.length - i∧i≤l.length∧0≤x∧x+(l.length:Nat)+(0:Int)≤n)∧q=[tD 0 (.sl (aR l)),tI 1 x,tI 5 (i:Nat)]) ?_ ?_))))))
 · exact wq (σ':=[tD 0 (.sl (aR l)),tI 1 (wrap64 (n - ((aR l).length:Int))),tI 5 (0:Nat)]) [] [] (⟨0,_,⟨rfl,aVv _,by rw[hw0];omega,by rw[hw0];simp[ii]⟩,rfl⟩) qz
 rintro n s ⟨i,x,⟨rfl,hi,hx0,hxn⟩,rfl⟩
 refine sq (sq (rT [0,1,5,15] (s4 (cd rfl (fun c15=> ?_) fun c15=> ?_))))
 · have hi2:i<l.length:=by simpa[aK] using c15
   have hgg:=eP (l:=l) hi2
   have hmem:l.getD i .zero∈l:=cM hi2
   refine sk (sq (bk (sq (rE [0,1,5] (s2 (ai (by rw[aVr,hgg];exact⟨⟨by omega,by rw[aK];omega⟩,rfl⟩) (ai (by rw[aVr,hgg];exact⟨aVs rfl,rfl⟩) (s1 (qF (rl:=[]) (bor:=[]) (news:=[]) (robj:=[]) (aH6 (l.getD i .zero) x (hx _ hmem) ⟨by omega,by omega⟩) rfl rfl rfl rfl (by refine⟨dS rfl ?_ (iG rfl rfl trivial),rfl⟩;rw[aVr,hgg];exact aN rfl (aN rfl trivial)) (fun σ hσ=>by obtain⟨r,_,rfl⟩:=hσ;exact⟨rfl,.inl rfl,fun j hj=>by simp[fI,bJ] at hj⟩) (fun p hp=>nomatch hp) (fun j hj=>nomatch hj) ?_)))))))))
   rintro σ ⟨r,hr,rfl⟩
   refine s1 (sq (rT [0,1,5,25] (s2 (cd rfl (fun c25=> ?_) fun c25=> ?_))))
   · refine sq (rT [4] (s1 (rt (sN _ ⟨_,?_,rfl⟩ (aU rfl rfl)))))
     exact⟨by omega,fun h=>by omega⟩
   have hc2: ¬r<0:=by simpa using c25
   have hr2:=hr.2 (by omega)
   refine sk (rT [0,1,5] (s3 (wq [] [] (⟨l.length - (i+1),by omega,i+1,r,⟨rfl,by omega,by omega,by omega⟩,rfl⟩) ?_)))
   repeat' apply ai
   all_goals first|exact qx|exact aA D.i (aF (by omega))|exact qz
 have hi3:i=l.length:=by simp[aK] at c15;omega
 refine xt (sq (rT [4] (s2 (rt (sN _ ⟨_,?_,rfl⟩ (aU rfl rfl))))))
 exact⟨by omega,fun h=>by omega⟩
theorem aLb (h:bB) (n:Int) (hg:h.got.length*24≤140737488355328∧ ∀m∈h.got,m.data.length≤140737488355328) (hn:0≤n∧n≤1048576):SpE 129 2 [tV 0 h.V,tI 1 n] (fun s=> ∃r:Int,(-1≤r∧(0≤r→r+(h.got.length:Nat)≤n))∧s=[tI 0 r]):=by
 refine sbE Tryz.func129 rfl (sq (rT [1,2] (s2 (sq (rE [1] (s3 (qF (rl:=[]) (bor:=[]) (news:=[]) (robj:=[]) (aFt h.got n hg.1 hg.2 hn) rfl rfl rfl rfl (pK rfl) (fun σ hσ=>by obtain⟨r,_,rfl⟩:=hσ;exact⟨rfl,.inl rfl,fun j hj=>by simp[fI,bJ] at hj⟩) (fun p hp=>nomatch hp) (fun j hj=>nomatch hj) ?_)))))))
 rintro σ ⟨r,hr,rfl⟩
 refine s1 (sq (sq (rT [1,10] (s2 (cd rfl (fun c10=> ?_) fun c10=> ?_)))))
 · refine sq (rT [4] (s1 (rt (sN _ ⟨_,?_,rfl⟩ (aU rfl rfl)))))
   exact⟨by omega,fun h=>by omega⟩
 have hc: ¬r<0:=by simpa using c10
 refine sk (sq (rT [4] (s2 (rt (sN _ ⟨_,?_,rfl⟩ (aU rfl rfl))))))
 exact hr
theorem aH7 (l:List bB) (n:Int) (hg:l.length*64≤140737488355328) (hx: ∀h∈l,h.got.length*24≤140737488355328∧ ∀m∈h.got,m.data.length≤140737488355328) (hn:0≤n∧n≤1048576):SpE 62 2 [tD 0 (.sl (aP l)),tI 1 n] (fun s=> ∃r:Int,(-1≤r∧(0≤r→r+((l.length+ii l:Nat):Int)≤n))∧s=[tI 0 r]):=by
 have hw0:wrap64 (n - ((aP l).length:Int))=n - l.length:=by rw[aE];exact aF (by omega)
 refine sbE Tryz.func62 rfl (sq (rT [0,1] (s1 (sq (rT [0,1] (s5 (sq (sq (rT [0,1,11] (s2 (cd rfl (fun c11=> ?_) fun c11=> ?_)))))))))))
 · refine sq (rT [4] (s1 (rt (sN _ ⟨_,?_,rfl⟩ (aU rfl rfl)))))
   exact⟨by omega,fun h=>by omega⟩
 have hc: ¬wrap64 (n - ((aP l).length:Int))<0:=by simpa using c11
 rw[hw0] at hc
 refine sk (sq (sq (rT [0,1,5] (s1 (bk (SW.loopW (n:=l.length) (fun m q=> ∃(i:Nat) (x:Int),(m=l.length - i∧i≤l.length∧0≤x∧x+(l.length:Nat)+((ii (l.take i):Nat):Int)≤n)∧q=[tD 0 (.sl (aP l)),tI 1 x,tI 5 (i:Nat)]) ?_ ?_))))))
 · exact wq (σ':=[tD 0 (.sl (aP l)),tI 1 (wrap64 (n - ((aP l).length:Int))),tI 5 (0:Nat)]) [] [] (⟨0,_,⟨rfl,aVv _,by rw[hw0];omega,by rw[hw0];simp[ii]⟩,rfl⟩) qz
 rintro n s ⟨i,x,⟨rfl,hi,hx0,hxn⟩,rfl⟩
 refine sq (sq (rT [0,1,5,15] (s4 (cd rfl (fun c15=> ?_) fun c15=> ?_))))
 · have hi2:i<l.length:=by simpa[aE] using c15
   have hgg:=dG (l:=l) hi2
   have hmem:l.getD i .zero∈l:=cM hi2
   refine sk (sq (bk (sq (rE [0,1,5] (s2 (ai (by rw[aVr,hgg];exact⟨⟨by omega,by rw[aE];omega⟩,rfl⟩) (ai (by rw[aVr,hgg];exact⟨aVs rfl,rfl⟩) (s1 (qF (rl:=[]) (bor:=[]) (news:=[]) (robj:=[]) (aLb (l.getD i .zero) x (hx _ hmem) ⟨by omega,by omega⟩) rfl rfl rfl rfl (by refine⟨dS rfl ?_ (iG rfl rfl trivial),rfl⟩;rw[aVr,hgg];exact aN rfl (aN rfl (aN rfl (aN rfl (aN rfl (aN rfl trivial)))))) (fun σ hσ=>by obtain⟨r,_,rfl⟩:=hσ;exact⟨rfl,.inl rfl,fun j hj=>by simp[fI,bJ] at hj⟩) (fun p hp=>nomatch hp) (fun j hj=>nomatch hj) ?_)))))))))
   rintro σ ⟨r,hr,rfl⟩
   refine s1 (sq (rT [0,1,5,25] (s2 (cd rfl (fun c25=> ?_) fun c25=> ?_))))
   · refine sq (rT [4] (s1 (rt (sN _ ⟨_,?_,rfl⟩ (aU rfl rfl)))))
     exact⟨by omega,fun h=>by omega⟩
   have hc2: ¬r<0:=by simpa using c25
   have hr2:=hr.2 (by omega)
   refine sk (rT [0,1,5] (s3 ?_))
   have hwt:=aBv l i hi2
   refine wq [] [] (⟨l.length - (i+1),by omega,i+1,r,⟨rfl,by omega,by omega,by rw[hwt];push_cast;omega⟩,rfl⟩) ?_
   repeat' apply ai
   all_goals first|exact qx|exact aA D.i (aF (by omega))|exact qz
 have hi3:i=l.length:=by simp[aE] at c15;omega
 refine xt (sq (rT [4] (s2 (rt (sN _ ⟨_,?_,rfl⟩ (aU rfl rfl))))))
 rw[hi3,aV3] at hxn
 exact⟨by omega,fun h=>by push_cast;omega⟩
theorem aH8 (l:List UInt8) (f n:Int) (hm:l.length≤140737488355328) (hn:0≤n∧n≤1048576):SpE 61 2 [tV 0 (.e (.agg [.d (.s l),.d (.i f)])),tI 1 n] (fun s=> ∃r:Int,(-1≤r∧(0≤r→r+0≤n))∧s=[tI 0 r]):=by
 have hw0:wrap64 (n - (l.length:Int))=n - l.length:=aF (by omega)
 refine sbE Tryz.func61 rfl (sq (rT [1,2] (s2 (sq (rT [1] (s6 (sq (sq (rT [1,11] (s2 (cd rfl (fun c11=> ?_) fun c11=> ?_)))))))))))
 · refine sq (rT [4] (s1 (rt (sN _ ⟨_,?_,rfl⟩ (aU rfl rfl)))))
   exact⟨by omega,fun h=>by omega⟩
 have hc: ¬wrap64 (n - (l.length:Int))<0:=by simpa using c11
 rw[hw0] at hc
 refine sk (sq (rT [4] (s2 (rt (sN _ ⟨_,?_,rfl⟩ (aU rfl rfl))))))
 rw[hw0]
 exact⟨by omega,fun h=>by omega⟩
theorem aFu (k:aT) (n:Int) (hk:KRW k) (hn:0≤n∧n≤1048576):SpE 15 2 [tV 0 k.V,tI 1 n] (fun s=> ∃r:Int,(-1≤r∧(0≤r→r+((k.halves.length+ii k.halves:Nat):Int)≤n))∧s=[tI 0 r]):=by
 refine sbE Tryz.func15 rfl (sq (rT [1,2] (s2 (sq (rE [1,2] (s3 (qF (rl:=[]) (bor:=[]) (news:=[]) (robj:=[]) (aH8 k.log k.forced n hk.1 hn) rfl rfl rfl rfl (pK rfl) (fun σ hσ=>by obtain⟨r,_,rfl⟩:=hσ;exact⟨rfl,.inl rfl,fun j hj=>by simp[fI,bJ] at hj⟩) (fun p hp=>nomatch hp) (fun j hj=>nomatch hj) ?_)))))))
 rintro σ ⟨x,hx,rfl⟩
 refine s1 (sq (sq (rT [1,2,10] (s2 (cd rfl (fun c10=> ?_) fun c10=> ?_)))))
 · refine sq (rT [4] (s1 (rt (sN _ ⟨_,?_,rfl⟩ (aU rfl rfl)))))
   exact⟨by omega,fun h=>by omega⟩
 have hc: ¬x<0:=by simpa using c10
 have hx2:=hx.2 (by omega)
 refine sk (sq (rE [1] (s3 (qF (rl:=[]) (bor:=[]) (news:=[]) (robj:=[]) (aH7 k.halves x hk.2.1 hk.2.2 ⟨by omega,by omega⟩) rfl rfl rfl rfl (pK rfl) (fun σ hσ=>by obtain⟨r,_,rfl⟩:=hσ;exact⟨rfl,.inl rfl,fun j hj=>by simp[fI,bJ] at hj⟩) (fun p hp=>nomatch hp) (fun j hj=>nomatch hj) ?_))))
 rintro σ ⟨r,hr,rfl⟩
 refine s1 (sq (sq (rT [1,16] (s2 (cd rfl (fun c16=> ?_) fun c16=> ?_)))))
 · refine sq (rT [4] (s1 (rt (sN _ ⟨_,?_,rfl⟩ (aU rfl rfl)))))
   exact⟨by omega,fun h=>by omega⟩
 have hc2: ¬r<0:=by simpa using c16
 refine sk (sq (rT [4] (s2 (rt (sN _ ⟨_,?_,rfl⟩ (aU rfl rfl))))))
 exact⟨hr.1,fun h=>by have:=hr.2 h;omega⟩
theorem wI (k:Int) (hk:1≤k∧k≤10000000):Sp 103 1 [tI 0 k] [tD 0 (.s (qG k))]:=by
 refine sb Tryz.func103 rfl (sq (rT [0] (s1 (sq (sq (rT [0,5] (s2 (cd rfl (fun c5=> ?_) fun c5=> ?_))))))))
 · simp at c5
   omega
 refine sk (sq (rT [0,3] (s1 (sq (bk (SW.loopW (n:=k.toNat) (fun m s=> ∃(j f:Nat) (o:List UInt8),m=j∧(j≤f∧aEa f j o=aEa k.toNat k.toNat []∧j≤10000000∧o.length+j≤10000000)∧s=[tI 0 (j:Nat),tD 3 (.s o)]) ?_ ?_))))))
 · refine wq (σ':=[tI 0 (k.toNat:Nat),tD 3 (.s [])]) [] [] (⟨k.toNat,k.toNat,[],rfl,⟨aVz _,rfl,by omega,by simp;omega⟩,rfl⟩) ?_
   repeat' apply ai
   all_goals first|exact qx|(refine aA D.i ?_;omega)|exact rfl|exact qz
 rintro n s ⟨j,f,o,hm,hj,rfl⟩
 refine sq (sq (rT [0,3,7] (s2 (cd rfl (fun c7=> ?_) fun c7=> ?_))))
 · have hj1:0<j:=by simpa using c7
   obtain⟨g,hg1,hg2⟩:=aJv (acc:=o) hj1 hj.1
   refine sk (bk (sq (rT [0,3] (s1 (ai (by decide) (s3 (ai (by exact⟨rfl,aA (fun r=>[r]) (aCk _)⟩) (s1 (ai (by show _≤9223372036854775807;simp[mA];omega) (s1 (rT [0,3] (s1 (ai (by decide) (s1 (wq (σ':=[tI 0 ((j / 10:Nat):Nat),tD 3 (.s (u8 (wrap64 (48+Int.tmod (j:Int) 10))::o))]) [] [] (⟨j / 10,by omega,j / 10,g,_,rfl,⟨hg2,hg1.symm.trans hj.2.1,by omega,by rw[aVw];omega⟩,rfl⟩) ?_)))))))))))))))
   repeat' apply ai
   all_goals first|exact qx|(refine aA D.i ?_;rw[Int.tdiv_eq_ediv_of_nonneg (by omega),aF (by omega)];omega)|(refine aA D.s ?_;exact rfl)|exact qz
 have hj1:j=0:=by simp at c7;omega
 refine xt (sq (rT [2] (s1 (ai (by show _≤9223372036854775807;simp;omega) (s1 (rt (aU rfl (aA D.s ?_))))))))
 subst hj1
 rw[qG,← hj.2.1,aJu]
theorem cy (l:List cU) (k:Int) (i:Nat): (aR (iX l k i)).length=l.length:=by rw[aK,sI]
theorem aLc {l:List cU} {k:Int} {i:Nat} (h:i<l.length): (aR (iX l k i)).getD i []=(l.getD i .zero).row:=by
 rw[eP (by rw[sI];exact h),qh l k i h]
theorem aH9 {l:List cU} {i:Nat} {x:cU} (h:i<l.length): (aR (l.set i x)).getD i []=x.row:=by
 rw[eP (by rw[aV9];exact h),aVy,List.getElem?_set_self h];rfl
theorem jV {M:List bB} {vs:List Value} {i:Nat} {v:Value} (hv:vs[i]? =some v) (hi:i<M.length) {c:Nat} {d:D} (H H':bB) (e:cT (H.rowX v) c [d]=H'.rowX v): (cI (M.set i H) vs).set i (cT ((cI (M.set i H) vs).getD i []) c [d])=cI (M.set i H') vs:=by
 rw[ig (M.set i H) vs i v hv (by rw[aV9];exact hi),aVy,List.getElem?_set_self hi]
 show(cI (M.set i H) vs).set i (cT (H.rowX v) c [d])=_
 rw[e,ah _ _ _ _ _ hv (by rw[aV9];exact hi),List.set_set]
theorem ak {M:List bB} {vs:List Value} {i:Nat} {v:Value} (hv:vs[i]? =some v) (hi:i<M.length) (H:bB): (cI (M.set i H) vs).getD i []=H.rowX v:=by
 rw[ig (M.set i H) vs i v hv (by rw[aV9];exact hi),aVy,List.getElem?_set_self hi];rfl
theorem zm (l:List cU) (k:Int) (hk:1≤k) (hc:k+2*(l.length:Int)≤9000000):Sp 137 2 [tO 0 0 (l.length),tI 1 k,oR 0 86 2 (aR l)] [tI 0 (k+2*(l.length:Nat)),oR 0 86 2 (aR (iN l k))]:=by
 refine sb Tryz.func137 rfl (sq (rT [0,1] (s1 (sq (sq (rT [0,1,5] (s1 (bk (SW.loopW (n:=l.length) (fun n s=> ∃(i:Nat),n=l.length - i∧i≤l.length∧s=[tO 0 0 (l.length),tI 1 (k+2*(i:Nat)),tI 5 (i:Nat),oR 0 86 2 (aR (iX l k i))]) ?_ ?_)))))))))
 · refine wq (σ':=[tO 0 0 (l.length),tI 1 (k+2*(0:Nat)),tI 5 (0:Nat),oR 0 86 2 (aR (iX l k 0))]) [] [] (⟨0,rfl,aVv _,rfl⟩) ?_
   repeat' apply ai
   all_goals first|exact qx|rfl|(refine aA D.i ?_;omega)|(rw[aFm];done)|exact qz
 rintro n s ⟨i,rfl,hi,rfl⟩
 refine sq (sq (rT [0,1,5,9] (s2 (ai (by exact cy _ _ _) (s1 (cd rfl (fun c9=> ?_) fun c9=> ?_))))))
 · have hi2:i<l.length:=by simpa using c9
   have hg1:=aLc (k:=k) hi2
   have hlm:=cy l k i
   have hg2:=aH9 (l:=iX l k i) (x:=⟨k+2*i,(l.getD i .zero).data⟩) (by rw[sI];exact hi2)
   have hlm2: (aR ((iX l k i).set i ⟨k+2*i,(l.getD i .zero).data⟩)).length=l.length:=by rw[aK,aV9,sI]
   have hs2: ((iX l k i).set i ⟨k+2*i,(l.getD i .zero).data⟩).set i ⟨k+2*i,qG (k+2*i+1)⟩=iX l k (i+1):=by rw[List.set_set];exact yb l k i hi2
   have hlm3:=cy l k (i+1)
   refine sk (sq (bk (sq (rT [0,1,5] (s3 (ai (by exact⟨hlm,by omega,by omega⟩) (ai (by exact hlm) (ai (by rw[aVr,hg1];exact⟨hlm,by omega,rfl,aVs rfl⟩) (sq (wa [tO 0 0 (l.length),tI 1 (k+2*i),tI 5 (i:Nat),oR 0 86 2 (aR (((iX l k i).set i ⟨k+2*i,(l.getD i .zero).data⟩)))] [] [] ?_ ?_))))))))))
   · repeat' apply ai
     all_goals first|exact qx|exact aA D.i (aF (by omega))|(refine aA D.i ?_;rw[aF (by omega)];omega)|(rw[aVr,hg1];exact lA _ _ ⟨k+2*i,(l.getD i .zero).data⟩)|(rw[aVr,hg2];exact(lA _ _ ⟨k+2*i,qG (k+2*i+1)⟩).trans (aA aR hs2))|omega|exact qz
   refine rT [0,1,5] (s3 (sq (wa [tO 0 0 (l.length),tI 1 (k+2*i+1),tI 5 (i:Nat),oR 0 86 2 (aR (((iX l k i).set i ⟨k+2*i,(l.getD i .zero).data⟩)))] [] [] ?_ ?_)))
   · repeat' apply ai
     all_goals first|exact qx|exact aA D.i (aF (by omega))|(refine aA D.i ?_;rw[aF (by omega)];omega)|(rw[aVr,hg1];exact lA _ _ ⟨k+2*i,(l.getD i .zero).data⟩)|(rw[aVr,hg2];exact(lA _ _ ⟨k+2*i,qG (k+2*i+1)⟩).trans (aA aR hs2))|omega|exact qz
   refine rT [0,1,5] (s3 (xp (wI _ (by omega)) (ai rfl ?_)))
   refine ai (by exact⟨hlm2,by omega,by omega⟩) (ai (by exact hlm2) (ai (by rw[aVr,hg2];exact⟨hlm2,by omega,rfl,aVs rfl⟩) (wa [tO 0 0 (l.length),tI 1 (k+2*i+1),tI 5 (i:Nat),oR 0 86 2 (aR ((iX l k (i+1))))] [] [] ?_ ?_)))
   · repeat' apply ai
     all_goals first|exact qx|exact aA D.i (aF (by omega))|(refine aA D.i ?_;rw[aF (by omega)];omega)|(rw[aVr,hg1];exact lA _ _ ⟨k+2*i,(l.getD i .zero).data⟩)|(rw[aVr,hg2];exact(lA _ _ ⟨k+2*i,qG (k+2*i+1)⟩).trans (aA aR hs2))|omega|exact qz
   refine rT [0,1,5] (s3 (wa [tO 0 0 (l.length),tI 1 (k+2*i+2),tI 5 (i:Nat),oR 0 86 2 (aR ((iX l k (i+1))))] [] [] ?_ ?_))
   · repeat' apply ai
     all_goals first|exact qx|exact aA D.i (aF (by omega))|(refine aA D.i ?_;rw[aF (by omega)];omega)|(rw[aVr,hg1];exact lA _ _ ⟨k+2*i,(l.getD i .zero).data⟩)|(rw[aVr,hg2];exact(lA _ _ ⟨k+2*i,qG (k+2*i+1)⟩).trans (aA aR hs2))|omega|exact qz
   refine rT [0,1,5] (s3 (wq [] [] (⟨l.length - (i+1),by omega,i+1,rfl,by omega,rfl⟩) ?_))
   repeat' apply ai
   all_goals first|exact qx|exact aA D.i (aF (by omega))|(refine aA D.i ?_;(try rw[aF (by omega)]);omega)|exact qz
 refine xt (sq (rT [4] (s2 (rt ?_))))
 have e:i=l.length:=by simp at c9;omega
 subst e
 refine rq [] [] rfl ?_
 repeat' apply ai
 all_goals try exact qx
 all_goals first|with_reducible rfl|(rw[aH2];done)|(simp;done)
theorem aDd (l:List bB) (vs:List Value) (k:Int) (hvs:vs.length=l.length) (hk:1≤k) (hc:k+aL l≤9000000):Sp 70 2 [tO 0 0 (l.length),tI 1 k,oR 0 138 6 (cI l vs),(.o 1,.zone (kL 86 2 (gI l vs)))] [tI 0 (k+aL l),oR 0 138 6 (cI (cW l k) vs),(.o 1,.zone (kL 86 2 (gI (cW l k) vs)))]:=by
 have hlen5:=aI1 (l:=l)
 refine sb Tryz.func70 rfl (sq (rT [0,1] (s1 (sq (sq (rT [0,1,5] (s1 (bk (SW.loopW (n:=l.length) (fun n s=> ∃(i:Nat),n=l.length - i∧i≤l.length∧s=[tO 0 0 (l.length),tI 1 (k+aL (l.take i)),tI 5 (i:Nat),oR 0 138 6 (cI (fH l k i) vs),(.o 1,.zone (kL 86 2 (gI (fH l k i) vs)))]) ?_ ?_)))))))))
 · refine wq (σ':=[tO 0 0 (l.length),tI 1 (k+aL (l.take 0)),tI 5 (0:Nat),oR 0 138 6 (cI (fH l k 0) vs),(.o 1,.zone (kL 86 2 (gI (fH l k 0) vs)))]) [] [] (⟨0,rfl,aVv _,rfl⟩) ?_
   repeat' apply ai
   all_goals first|exact qx|rfl|(refine aA D.i ?_;simp[aL];done)|(rw[aH1];done)|exact qz
 rintro n s ⟨i,rfl,hi,rfl⟩
 refine sq (sq (rT [0,1,5,9] (s2 (ai (by rw[eH,lj]) (s1 (cd rfl (fun c9=> ?_) fun c9=> ?_))))))
 · have hi2:i<l.length:=by simpa using c9
   have hcn:=ll hi2
   have hnn:=iJ (l.take i)
   have hct:=rB l i hi2
   have hMl:=lj l k i
   have hMg:=ya l k i hi2
   have hMi:i< (fH l k i).length:=by rw[hMl];exact hi2
   obtain⟨v,hv,_⟩:=xx l vs i hvs hi2
   have hln: ∀x:bB,(cI ((fH l k i).set i x) vs).length=l.length:=fun x=>by rw[eH,aV9,hMl]
   have hs0: (fH l k i)=(fH l k i).set i (l.getD i .zero):=by rw[← hMg,sH]
   have hfa:gI (fH l k i) vs=_:=aQh (fH l k i) vs i v hv hMi
   rw[hMg] at hfa
   have hfs:=xz (fH l k i) vs i v (lZ (l.getD i .zero) (k+aL (l.take i))) hv hMi
   rw[nt l k i hi2] at hfs
   have hrow:cI ((fH l k i).set i ⟨(k+aL (l.take i)),(k+aL (l.take i))+1,(k+aL (l.take i))+2,(k+aL (l.take i))+3,(k+aL (l.take i))+4,(l.getD i .zero).got⟩) vs=cI (fH l k (i+1)) vs:=by rw[← nt l k i hi2,← ah (fH l k i) vs i v _ hv hMi,← ah (fH l k i) vs i v _ hv hMi];rfl
   refine sk (sq (bk (sq (wa [tO 0 0 (l.length),tI 1 ((k+aL (l.take i))),tI 5 (i:Nat),oR 0 138 6 (cI ((fH l k i).set i (l.getD i .zero)) vs),(.o 1,.zone (kL 86 2 (gI ((fH l k i)) vs)))] [] [] ?_ ?_))))
   · repeat' apply ai
     all_goals first|exact qx|exact aA D.i (aF (by omega))|(refine aA D.i ?_;rw[aF (by omega)];omega)|exact aA (cI · vs) hs0|(rw[aVr];exact jV hv hMi (l.getD i .zero) (l.getD i .zero) rfl)|omega|exact qz
   refine rT [0,1,5] (s3 (ai (by exact⟨hln _,by omega,by omega⟩) (ai (by exact hln _) (ai (by rw[aVr,ak hv hMi];exact⟨hln _,by omega,rfl,aVs rfl⟩) (sq (wa [tO 0 0 (l.length),tI 1 ((k+aL (l.take i))),tI 5 (i:Nat),oR 0 138 6 (cI ((fH l k i).set i ⟨(k+aL (l.take i)),(l.getD i .zero).num,(l.getD i .zero).to,(l.getD i .zero).til,(l.getD i .zero).size,(l.getD i .zero).got⟩) vs),(.o 1,.zone (kL 86 2 (gI ((fH l k i)) vs)))] [] [] ?_ ?_))))))
   · repeat' apply ai
     all_goals first|exact qx|exact aA D.i (aF (by omega))|(refine aA D.i ?_;rw[aF (by omega)];omega)|exact aA (cI · vs) hs0|(rw[aVr];exact jV hv hMi (l.getD i .zero) ⟨(k+aL (l.take i)),(l.getD i .zero).num,(l.getD i .zero).to,(l.getD i .zero).til,(l.getD i .zero).size,(l.getD i .zero).got⟩ rfl)|omega|exact qz
   refine rT [0,1,5] (s3 (sq (wa [tO 0 0 (l.length),tI 1 ((k+aL (l.take i))+1),tI 5 (i:Nat),oR 0 138 6 (cI ((fH l k i).set i ⟨(k+aL (l.take i)),(l.getD i .zero).num,(l.getD i .zero).to,(l.getD i .zero).til,(l.getD i .zero).size,(l.getD i .zero).got⟩) vs),(.o 1,.zone (kL 86 2 (gI ((fH l k i)) vs)))] [] [] ?_ ?_)))
   · repeat' apply ai
     all_goals first|exact qx|exact aA D.i (aF (by omega))|(refine aA D.i ?_;rw[aF (by omega)];omega)|exact aA (cI · vs) hs0|(rw[aVr];exact jV hv hMi (l.getD i .zero) ⟨(k+aL (l.take i)),(l.getD i .zero).num,(l.getD i .zero).to,(l.getD i .zero).til,(l.getD i .zero).size,(l.getD i .zero).got⟩ rfl)|omega|exact qz
   refine rT [0,1,5] (s3 (ai (by exact⟨hln _,by omega,by omega⟩) (ai (by exact hln _) (ai (by rw[aVr,ak hv hMi];exact⟨hln _,by omega,rfl,aVs rfl⟩) (sq (wa [tO 0 0 (l.length),tI 1 ((k+aL (l.take i))+1),tI 5 (i:Nat),oR 0 138 6 (cI ((fH l k i).set i ⟨(k+aL (l.take i)),(k+aL (l.take i))+1,(l.getD i .zero).to,(l.getD i .zero).til,(l.getD i .zero).size,(l.getD i .zero).got⟩) vs),(.o 1,.zone (kL 86 2 (gI ((fH l k i)) vs)))] [] [] ?_ ?_))))))
   · repeat' apply ai
     all_goals first|exact qx|exact aA D.i (aF (by omega))|(refine aA D.i ?_;rw[aF (by omega)];omega)|exact aA (cI · vs) hs0|(rw[aVr];exact jV hv hMi ⟨(k+aL (l.take i)),(l.getD i .zero).num,(l.getD i .zero).to,(l.getD i .zero).til,(l.getD i .zero).size,(l.getD i .zero).got⟩ ⟨(k+aL (l.take i)),(k+aL (l.take i))+1,(l.getD i .zero).to,(l.getD i .zero).til,(l.getD i .zero).size,(l.getD i .zero).got⟩ rfl)|omega|exact qz
   refine rT [0,1,5] (s3 (sq (wa [tO 0 0 (l.length),tI 1 ((k+aL (l.take i))+2),tI 5 (i:Nat),oR 0 138 6 (cI ((fH l k i).set i ⟨(k+aL (l.take i)),(k+aL (l.take i))+1,(l.getD i .zero).to,(l.getD i .zero).til,(l.getD i .zero).size,(l.getD i .zero).got⟩) vs),(.o 1,.zone (kL 86 2 (gI ((fH l k i)) vs)))] [] [] ?_ ?_)))
   · repeat' apply ai
     all_goals first|exact qx|exact aA D.i (aF (by omega))|(refine aA D.i ?_;rw[aF (by omega)];omega)|exact aA (cI · vs) hs0|(rw[aVr];exact jV hv hMi ⟨(k+aL (l.take i)),(l.getD i .zero).num,(l.getD i .zero).to,(l.getD i .zero).til,(l.getD i .zero).size,(l.getD i .zero).got⟩ ⟨(k+aL (l.take i)),(k+aL (l.take i))+1,(l.getD i .zero).to,(l.getD i .zero).til,(l.getD i .zero).size,(l.getD i .zero).got⟩ rfl)|omega|exact qz
   refine rT [0,1,5] (s3 (ai (by exact⟨hln _,by omega,by omega⟩) (ai (by exact hln _) (ai (by rw[aVr,ak hv hMi];exact⟨hln _,by omega,rfl,aVs rfl⟩) (sq (wa [tO 0 0 (l.length),tI 1 ((k+aL (l.take i))+2),tI 5 (i:Nat),oR 0 138 6 (cI ((fH l k i).set i ⟨(k+aL (l.take i)),(k+aL (l.take i))+1,(k+aL (l.take i))+2,(l.getD i .zero).til,(l.getD i .zero).size,(l.getD i .zero).got⟩) vs),(.o 1,.zone (kL 86 2 (gI ((fH l k i)) vs)))] [] [] ?_ ?_))))))
   · repeat' apply ai
     all_goals first|exact qx|exact aA D.i (aF (by omega))|(refine aA D.i ?_;rw[aF (by omega)];omega)|exact aA (cI · vs) hs0|(rw[aVr];exact jV hv hMi ⟨(k+aL (l.take i)),(k+aL (l.take i))+1,(l.getD i .zero).to,(l.getD i .zero).til,(l.getD i .zero).size,(l.getD i .zero).got⟩ ⟨(k+aL (l.take i)),(k+aL (l.take i))+1,(k+aL (l.take i))+2,(l.getD i .zero).til,(l.getD i .zero).size,(l.getD i .zero).got⟩ rfl)|omega|exact qz
   refine rT [0,1,5] (s3 (sq (wa [tO 0 0 (l.length),tI 1 ((k+aL (l.take i))+3),tI 5 (i:Nat),oR 0 138 6 (cI ((fH l k i).set i ⟨(k+aL (l.take i)),(k+aL (l.take i))+1,(k+aL (l.take i))+2,(l.getD i .zero).til,(l.getD i .zero).size,(l.getD i .zero).got⟩) vs),(.o 1,.zone (kL 86 2 (gI ((fH l k i)) vs)))] [] [] ?_ ?_)))
   · repeat' apply ai
     all_goals first|exact qx|exact aA D.i (aF (by omega))|(refine aA D.i ?_;rw[aF (by omega)];omega)|exact aA (cI · vs) hs0|(rw[aVr];exact jV hv hMi ⟨(k+aL (l.take i)),(k+aL (l.take i))+1,(l.getD i .zero).to,(l.getD i .zero).til,(l.getD i .zero).size,(l.getD i .zero).got⟩ ⟨(k+aL (l.take i)),(k+aL (l.take i))+1,(k+aL (l.take i))+2,(l.getD i .zero).til,(l.getD i .zero).size,(l.getD i .zero).got⟩ rfl)|omega|exact qz
   refine rT [0,1,5] (s3 (ai (by exact⟨hln _,by omega,by omega⟩) (ai (by exact hln _) (ai (by rw[aVr,ak hv hMi];exact⟨hln _,by omega,rfl,aVs rfl⟩) (sq (wa [tO 0 0 (l.length),tI 1 ((k+aL (l.take i))+3),tI 5 (i:Nat),oR 0 138 6 (cI ((fH l k i).set i ⟨(k+aL (l.take i)),(k+aL (l.take i))+1,(k+aL (l.take i))+2,(k+aL (l.take i))+3,(l.getD i .zero).size,(l.getD i .zero).got⟩) vs),(.o 1,.zone (kL 86 2 (gI ((fH l k i)) vs)))] [] [] ?_ ?_))))))
   · repeat' apply ai
     all_goals first|exact qx|exact aA D.i (aF (by omega))|(refine aA D.i ?_;rw[aF (by omega)];omega)|exact aA (cI · vs) hs0|(rw[aVr];exact jV hv hMi ⟨(k+aL (l.take i)),(k+aL (l.take i))+1,(k+aL (l.take i))+2,(l.getD i .zero).til,(l.getD i .zero).size,(l.getD i .zero).got⟩ ⟨(k+aL (l.take i)),(k+aL (l.take i))+1,(k+aL (l.take i))+2,(k+aL (l.take i))+3,(l.getD i .zero).size,(l.getD i .zero).got⟩ rfl)|omega|exact qz
   refine rT [0,1,5] (s3 (sq (wa [tO 0 0 (l.length),tI 1 ((k+aL (l.take i))+4),tI 5 (i:Nat),oR 0 138 6 (cI ((fH l k i).set i ⟨(k+aL (l.take i)),(k+aL (l.take i))+1,(k+aL (l.take i))+2,(k+aL (l.take i))+3,(l.getD i .zero).size,(l.getD i .zero).got⟩) vs),(.o 1,.zone (kL 86 2 (gI ((fH l k i)) vs)))] [] [] ?_ ?_)))
   · repeat' apply ai
     all_goals first|exact qx|exact aA D.i (aF (by omega))|(refine aA D.i ?_;rw[aF (by omega)];omega)|exact aA (cI · vs) hs0|(rw[aVr];exact jV hv hMi ⟨(k+aL (l.take i)),(k+aL (l.take i))+1,(k+aL (l.take i))+2,(l.getD i .zero).til,(l.getD i .zero).size,(l.getD i .zero).got⟩ ⟨(k+aL (l.take i)),(k+aL (l.take i))+1,(k+aL (l.take i))+2,(k+aL (l.take i))+3,(l.getD i .zero).size,(l.getD i .zero).got⟩ rfl)|omega|exact qz
   refine rT [0,1,5] (s3 (ai (by exact⟨hln _,by omega,by omega⟩) (ai (by exact hln _) (ai (by rw[aVr,ak hv hMi];exact⟨hln _,by omega,rfl,aVs rfl⟩) (sq (wa [tO 0 0 (l.length),tI 1 ((k+aL (l.take i))+4),tI 5 (i:Nat),oR 0 138 6 (cI ((fH l k i).set i ⟨(k+aL (l.take i)),(k+aL (l.take i))+1,(k+aL (l.take i))+2,(k+aL (l.take i))+3,(k+aL (l.take i))+4,(l.getD i .zero).got⟩) vs),(.o 1,.zone (kL 86 2 (gI ((fH l k i)) vs)))] [] [] ?_ ?_))))))
   · repeat' apply ai
     all_goals first|exact qx|exact aA D.i (aF (by omega))|(refine aA D.i ?_;rw[aF (by omega)];omega)|exact aA (cI · vs) hs0|(rw[aVr];exact jV hv hMi ⟨(k+aL (l.take i)),(k+aL (l.take i))+1,(k+aL (l.take i))+2,(k+aL (l.take i))+3,(l.getD i .zero).size,(l.getD i .zero).got⟩ ⟨(k+aL (l.take i)),(k+aL (l.take i))+1,(k+aL (l.take i))+2,(k+aL (l.take i))+3,(k+aL (l.take i))+4,(l.getD i .zero).got⟩ rfl)|omega|exact qz
   refine rT [0,1,5] (s3 (wa [tO 0 0 (l.length),tI 1 ((k+aL (l.take i))+5),tI 5 (i:Nat),oR 0 138 6 (cI ((fH l k i).set i ⟨(k+aL (l.take i)),(k+aL (l.take i))+1,(k+aL (l.take i))+2,(k+aL (l.take i))+3,(k+aL (l.take i))+4,(l.getD i .zero).got⟩) vs),(.o 1,.zone (kL 86 2 (gI ((fH l k i)) vs)))] [] [] ?_ ?_))
   · repeat' apply ai
     all_goals first|exact qx|exact aA D.i (aF (by omega))|(refine aA D.i ?_;rw[aF (by omega)];omega)|exact aA (cI · vs) hs0|(rw[aVr];exact jV hv hMi ⟨(k+aL (l.take i)),(k+aL (l.take i))+1,(k+aL (l.take i))+2,(k+aL (l.take i))+3,(l.getD i .zero).size,(l.getD i .zero).got⟩ ⟨(k+aL (l.take i)),(k+aL (l.take i))+1,(k+aL (l.take i))+2,(k+aL (l.take i))+3,(k+aL (l.take i))+4,(l.getD i .zero).got⟩ rfl)|omega|exact qz
   refine SW.regTX [0,1,5] (sx kX rfl trivial (sx kX rfl trivial (sx kX rfl (by exact⟨hln _,by omega,by omega⟩) (sx kX rfl (by exact hln _) (aT4 kX rfl rfl rfl rfl rfl rfl ⟨hln _,by omega,by rw[aVr,ak hv hMi];exact aVs rfl⟩ (by rw[aVr,ak hv hMi];rfl) (sx kX rfl trivial (aT1 (robj:=[]) (rl:=[(0,60)]) (bor:=[]) 1 60 0 (zm (l.getD i .zero).got ((k+aL (l.take i))+5) (by omega) (by omega)) rfl rfl rfl (.fam (.same .nil)) rfl ⟨lD rfl rfl (aK _) rfl (iG rfl rfl (cJ rfl rfl trivial)),rfl⟩ rfl (.inl rfl) rfl rfl rfl (by rw[aK,aK,iT]) (by simp[rF,fI,bJ,gB]) (by simp[iB,wN,rZ,lC,bJ,gB,bp,iO]) rfl hfa hfs.symm rfl (fun p hp=>nomatch hp) (fun _ hj=>nomatch hj) (sx kX rfl trivial ?_))))))))
   refine wa [tO 0 0 (l.length),tI 1 (k+aL (l.take (i+1))),tI 5 (i:Nat),oR 0 138 6 (cI (fH l k (i+1)) vs),(.o 1,.zone (kL 86 2 (gI (fH l k (i+1)) vs)))] [] [] ?_ ?_
   · repeat' apply ai
     all_goals first|exact qx|(refine aA D.i ?_;rw[hct];simp only[nW];omega)|exact hrow|exact qz
   refine rT [0,1,5] (s3 (wq [] [] (⟨l.length - (i+1),by omega,i+1,rfl,by omega,rfl⟩) ?_))
   repeat' apply ai
   all_goals first|exact qx|exact aA D.i (by rw[aF (by omega)];omega)|exact qz
 refine xt (sq (rT [4] (s2 (rt ?_))))
 have e:i=l.length:=by simp at c9;omega
 subst e
 refine rq [] [] rfl ?_
 repeat' apply ai
 all_goals try exact qx
 all_goals first|with_reducible rfl|(rw[aK7];done)|(rw[aV3];done)
theorem fq (id fo:Int) (up:Bool) (lg:List UInt8) (l:List bB) (vs:List Value) (k:Int) (hvs:vs.length=l.length) (hk:1≤k) (hc:k+aL l≤9000000):Sp 20 2 [tV 0 (.e (.agg [.d (.i id),.d (.b up),.d (.s lg),.d (.i fo),.own 0 l.length])),tI 1 k,oR 0 138 6 (cI l vs),(.o 1,.zone (kL 86 2 (gI l vs)))] [tI 0 (k+aL l),oR 0 138 6 (cI (cW l k) vs),(.o 1,.zone (kL 86 2 (gI (cW l k) vs)))]:=by
 exact sb Tryz.func20 rfl (sq (rT [1,2] (s2 (sq (rT [1] (s3 (eX (robj:=[(0,.row 138 6 (cI l vs)),(1,.zone (kL 86 2 (gI l vs)))]) (rl:=[]) (bor:=[]) (aDd l vs k hvs hk hc) rfl rfl rfl rfl ⟨lD rfl rfl rfl rfl (iG rfl rfl (cJ rfl rfl (gH rfl rfl trivial))),rfl⟩ rfl (.inl rfl) (cH ⟨rfl,rfl,trivial⟩) (fun _ hj=>nomatch hj) (s1 (sq (rT [4] (s2 (rt (dO _ [] [] rfl (iG rfl rfl (cJ rfl rfl (gH rfl rfl trivial))) rfl rfl)))))))))))))
theorem zn (l:List cU) (k:Int) (hk:1≤k) (hc:k+2*(l.length:Int)≤9000000):Sp 138 2 [tD 0 (.sl (aR (iN l k))),tI 1 k] [tI 0 (k+2*(l.length:Nat))]:=by
 refine sb Tryz.func138 rfl (sq (rT [0,1] (s1 (sq (sq (rT [0,1,5] (s1 (bk (SW.loopW (n:=l.length) (fun n s=> ∃(i:Nat),n=l.length - i∧i≤l.length∧s=[tD 0 (.sl (aR (iN l k))),tI 1 (k+2*(i:Nat)),tI 5 (i:Nat)]) ?_ ?_)))))))))
 · refine wq (σ':=[tD 0 (.sl (aR (iN l k))),tI 1 (k+2*(0:Nat)),tI 5 (0:Nat)]) [] [] (⟨0,rfl,aVv _,rfl⟩) ?_
   repeat' apply ai
   all_goals first|exact qx|rfl|(refine aA D.i ?_;omega)|exact qz
 rintro n s ⟨i,rfl,hi,rfl⟩
 refine sq (sq (rT [0,1,5,9] (s4 (cd rfl (fun c9=> ?_) fun c9=> ?_))))
 · have hi2:i<l.length:=by simpa[aK,iT] using c9
   have hgg: (aR (iN l k)).getD i []=cU.row ⟨k+2*i,qG (k+2*i+1)⟩:=by rw[eP (by rw[iT];exact hi2),li l k i hi2]
   refine sk (sq (bk (sq (sq (rT [0,1,5,18] (s2 (ai (by rw[aVr,hgg];exact⟨⟨by omega,by rw[aK,iT];omega⟩,rfl⟩) (s1 (ai (by rw[aVr,hgg];exact⟨aVs rfl,rfl⟩) (s2 (cd rfl (fun c18=> ?_) fun c18=> ?_)))))))))))
   · rw[aVr,hgg] at c18
     simp[xK,yk,cU.row,bB.row,lZ] at c18
   refine sk (sq (rT [0,1,5] (s3 (sq (sq (wa [tD 0 (.sl (aR (iN l k))),tI 1 (k+2*i+1),tI 5 (i:Nat)] [] [] ?_ ?_))))))
   · repeat' apply ai
     all_goals first|exact qx|exact aA D.i (aF (by omega))|(refine aA D.i ?_;(try rw[aF (by omega)]);omega)|exact qz
   refine rD [0,1,5,28] (s2 (ai (by rw[aVr,hgg];exact⟨⟨by omega,by rw[aK,iT];omega⟩,rfl⟩) (s1 (ai (by rw[aVr,hgg];exact⟨aVs rfl,rfl⟩) (s1 (xp (wI _ (by omega)) (ai rfl ?_)))))))
   refine s1 (ai (by kernel_rfl) (cd rfl (fun c28=> ?_) fun c28=> ?_))
   · rw[aVr,hgg] at c28
     simp[xK,yk,cU.row,bB.row,lZ] at c28
   refine sk (rT [0,1,5] (s3 (wa [tD 0 (.sl (aR (iN l k))),tI 1 (k+2*i+2),tI 5 (i:Nat)] [] [] ?_ ?_)))
   · repeat' apply ai
     all_goals first|exact qx|exact aA D.i (aF (by omega))|(refine aA D.i ?_;(try rw[aF (by omega)]);omega)|exact qz
   refine rT [0,1,5] (s3 (wq [] [] (⟨l.length - (i+1),by omega,i+1,rfl,by omega,rfl⟩) ?_))
   repeat' apply ai
   all_goals first|exact qx|exact aA D.i (aF (by omega))|(refine aA D.i ?_;(try rw[aF (by omega)]);omega)|exact qz
 have hi3:i=l.length:=by simp[aK,iT] at c9;omega
 refine xt (sq (rT [4] (s2 (rt (aU rfl (aA D.i ?_))))))
 rw[hi3]
theorem aDe (l:List bB) (k:Int) (hk:1≤k) (hc:k+aL l≤9000000):Sp 71 2 [tD 0 (.sl (aP (cW l k))),tI 1 k] [tI 0 (k+aL l)]:=by
 have hlen5:=aI1 (l:=l)
 refine sb Tryz.func71 rfl (sq (rT [0,1] (s1 (sq (sq (rT [0,1,5] (s1 (bk (SW.loopW (n:=l.length) (fun n s=> ∃(i:Nat),n=l.length - i∧i≤l.length∧s=[tD 0 (.sl (aP (cW l k))),tI 1 (k+aL (l.take i)),tI 5 (i:Nat)]) ?_ ?_)))))))))
 · refine wq (σ':=[tD 0 (.sl (aP (cW l k))),tI 1 (k+aL (l.take 0)),tI 5 (0:Nat)]) [] [] (⟨0,rfl,aVv _,rfl⟩) ?_
   repeat' apply ai
   all_goals first|exact qx|rfl|(refine aA D.i ?_;simp[aL];done)|exact qz
 rintro n s ⟨i,rfl,hi,rfl⟩
 refine sq (sq (rT [0,1,5,9] (s4 (cd rfl (fun c9=> ?_) fun c9=> ?_))))
 · have hi2:i<l.length:=by simpa[aE,dR] using c9
   have hcn:=ll hi2
   have hnn:=iJ (l.take i)
   have hct:=rB l i hi2
   have hgg: (aP (cW l k)).getD i []=(lZ (l.getD i .zero) (k+aL (l.take i))).row:=by rw[dG (by rw[dR];exact hi2),be l k i hi2]
   refine sk (sq (bk (sq (sq (rT [0,1,5,18] (s2 (ai (by rw[aVr,hgg];exact⟨⟨by omega,by rw[aE,dR];omega⟩,rfl⟩) (s1 (ai (by rw[aVr,hgg];exact⟨aVs rfl,rfl⟩) (s2 (cd rfl (fun c18=> ?_) fun c18=> ?_)))))))))))
   · rw[aVr,hgg] at c18
     simp[xK,yk,cU.row,bB.row,lZ] at c18
   refine sk (sq (rT [0,1,5] (s3 (sq (sq (wa [tD 0 (.sl (aP (cW l k))),tI 1 ((k+aL (l.take i))+1),tI 5 (i:Nat)] [] [] ?_ ?_))))))
   · repeat' apply ai
     all_goals first|exact qx|exact aA D.i (aF (by omega))|(refine aA D.i ?_;(try rw[aF (by omega)]);omega)|exact qz
   refine rT [0,1,5,27] (s2 (ai (by rw[aVr,hgg];exact⟨⟨by omega,by rw[aE,dR];omega⟩,rfl⟩) (s1 (ai (by rw[aVr,hgg];exact⟨aVs rfl,rfl⟩) (s2 (cd rfl (fun c27=> ?_) fun c27=> ?_))))))
   · rw[aVr,hgg] at c27
     simp[xK,yk,cU.row,bB.row,lZ] at c27
   refine sk (sq (rT [0,1,5] (s3 (sq (sq (wa [tD 0 (.sl (aP (cW l k))),tI 1 ((k+aL (l.take i))+2),tI 5 (i:Nat)] [] [] ?_ ?_))))))
   · repeat' apply ai
     all_goals first|exact qx|exact aA D.i (aF (by omega))|(refine aA D.i ?_;(try rw[aF (by omega)]);omega)|exact qz
   refine rT [0,1,5,36] (s2 (ai (by rw[aVr,hgg];exact⟨⟨by omega,by rw[aE,dR];omega⟩,rfl⟩) (s1 (ai (by rw[aVr,hgg];exact⟨aVs rfl,rfl⟩) (s2 (cd rfl (fun c36=> ?_) fun c36=> ?_))))))
   · rw[aVr,hgg] at c36
     simp[xK,yk,cU.row,bB.row,lZ] at c36
   refine sk (sq (rT [0,1,5] (s3 (sq (sq (wa [tD 0 (.sl (aP (cW l k))),tI 1 ((k+aL (l.take i))+3),tI 5 (i:Nat)] [] [] ?_ ?_))))))
   · repeat' apply ai
     all_goals first|exact qx|exact aA D.i (aF (by omega))|(refine aA D.i ?_;(try rw[aF (by omega)]);omega)|exact qz
   refine rT [0,1,5,45] (s2 (ai (by rw[aVr,hgg];exact⟨⟨by omega,by rw[aE,dR];omega⟩,rfl⟩) (s1 (ai (by rw[aVr,hgg];exact⟨aVs rfl,rfl⟩) (s2 (cd rfl (fun c45=> ?_) fun c45=> ?_))))))
   · rw[aVr,hgg] at c45
     simp[xK,yk,cU.row,bB.row,lZ] at c45
   refine sk (sq (rT [0,1,5] (s3 (sq (sq (wa [tD 0 (.sl (aP (cW l k))),tI 1 ((k+aL (l.take i))+4),tI 5 (i:Nat)] [] [] ?_ ?_))))))
   · repeat' apply ai
     all_goals first|exact qx|exact aA D.i (aF (by omega))|(refine aA D.i ?_;(try rw[aF (by omega)]);omega)|exact qz
   refine rT [0,1,5,54] (s2 (ai (by rw[aVr,hgg];exact⟨⟨by omega,by rw[aE,dR];omega⟩,rfl⟩) (s1 (ai (by rw[aVr,hgg];exact⟨aVs rfl,rfl⟩) (s2 (cd rfl (fun c54=> ?_) fun c54=> ?_))))))
   · rw[aVr,hgg] at c54
     simp[xK,yk,cU.row,bB.row,lZ] at c54
   refine sk (sq (rT [0,1,5] (s3 (sq (wa [tD 0 (.sl (aP (cW l k))),tI 1 ((k+aL (l.take i))+5),tI 5 (i:Nat)] [] [] ?_ ?_)))))
   · repeat' apply ai
     all_goals first|exact qx|exact aA D.i (aF (by omega))|(refine aA D.i ?_;(try rw[aF (by omega)]);omega)|exact qz
   refine rT [0,1,5] (s2 (ai (by rw[aVr,hgg];exact⟨⟨by omega,by rw[aE,dR];omega⟩,rfl⟩) (s1 (ai (by rw[aVr,hgg];exact⟨aVs rfl,rfl⟩) (s1 (xp (zn (l.getD i .zero).got ((k+aL (l.take i))+5) (by omega) (by omega)) (ai (by rw[aVr,hgg];rfl) ?_)))))))
   refine s1 (sq (rT [0,1,5,65] (s2 (cd rfl (fun c65=> ?_) fun c65=> ?_))))
   · have h9: (k+aL (l.take i))+5+2*((l.getD i .zero).got.length:Nat)<0:=by simpa using c65
     omega
   refine sk (rT [0,1,5] (s3 (wq [] [] (⟨l.length - (i+1),by omega,i+1,rfl,by omega,rfl⟩) ?_)))
   repeat' apply ai
   all_goals first|exact qx|(refine aA D.i ?_;rw[hct];simp only[nW];omega)|exact aA D.i (by rw[aF (by omega)];omega)|exact qz
 have hi3:i=l.length:=by simp[aE,dR] at c9;omega
 refine xt (sq (rT [4] (s2 (rt (aU rfl (aA D.i ?_))))))
 rw[hi3,aV3]
theorem fu (id fo:Int) (up:Bool) (lg:List UInt8) (l:List bB) (k:Int) (hk:1≤k) (hc:k+aL l≤9000000):Sp 21 2 [tV 0 (.e (.agg [.d (.i id),.d (.b up),.d (.s lg),.d (.i fo),.d (.sl (aP (cW l k)))])),tI 1 k] [tI 0 (k+aL l)]:=by
 refine sb Tryz.func21 rfl (sq (rT [1,2] (s2 (sq (rT [1] (s3 (xp (aDe l k hk hc) (ai rfl ?_))))))))
 refine s1 (sq (sq (rT [1,10] (s2 (cd rfl (fun c10=> ?_) fun c10=> ?_)))))
 · have h9:k+aL l<0:=by simpa using c10
   have:=iJ l
   omega
 refine sk (sq (rT [4] (s2 (rt (aU rfl rfl)))))
theorem cz (l:List bA) (hl:l.length≤1000000):Sp 211 1 [tD 0 (.sl (aH l))] [tO 0 0 l.length,oR 0 52 5 (aH l)]:=by
 refine sb Tryz.func211 rfl (sq (rT [0] (s1 (sq (sq (rT [0,6] (s3 (cd rfl (fun c6=> ?_) fun c6=> ?_))))))))
 · refine sq (rT [2] (s1 (SW.nilOwn 2 0 52 5 rfl rfl (rt (rq [] [] rfl ?_)))))
   repeat' apply ai
   all_goals try exact qx
   all_goals(simp[aG] at c6;simp[c6,aH])
 refine sk (sq (rT [0,3] (s2 (ai (by refine⟨rfl,by omega,?_⟩;rw[aG];show((48:Nat):Int)*_≤_;omega) (s1 (sq (rT [3] (s2 (ai (by refine⟨trivial,by simp,eY l⟩) (sq (rT [2] (s2 (rt (rq [(0,9)] [] rfl ?_))))))))))))))
 repeat' apply ai
 all_goals try exact qx
 all_goals first|(simp[aG];done)|(simp;done)
theorem ye (l:List bU) (hl:l.length≤1000000):Sp 212 1 [tD 0 (.sl (aM l))] [tO 0 0 l.length,oR 0 162 3 (aM l)]:=by
 refine sb Tryz.func212 rfl (sq (rT [0] (s1 (sq (sq (rT [0,6] (s3 (cd rfl (fun c6=> ?_) fun c6=> ?_))))))))
 · refine sq (rT [2] (s1 (SW.nilOwn 2 0 162 3 rfl rfl (rt (rq [] [] rfl ?_)))))
   repeat' apply ai
   all_goals try exact qx
   all_goals(simp[aI] at c6;simp[c6,aM])
 refine sk (sq (rT [0,3] (s2 (ai (by refine⟨rfl,by omega,?_⟩;rw[aI];show((24:Nat):Int)*_≤_;omega) (s1 (sq (rT [3] (s2 (ai (by refine⟨trivial,by simp,jJ l⟩) (sq (rT [2] (s2 (rt (rq [(0,9)] [] rfl ?_))))))))))))))
 repeat' apply ai
 all_goals try exact qx
 all_goals first|(simp[aI];done)|(simp;done)
theorem yD (k:aX) (hb:k.held.length≤1000000∧k.marks.length≤1000000∧k.inbox.length≤1000000):Sp 171 1 [tV 0 k.V] [tV 0 (.e (.agg [.d (.i (k).id),.d (.i (k).time),.d (.i (k).next),.own 900 (k).held.length,.own 901 (k).marks.length,.own 902 (k).inbox.length])),oR 900 52 5 (aH (k).held),oR 901 162 3 (aM (k).marks),oR 902 52 5 (aH (k).inbox)]:=by
 refine sb Tryz.func171 rfl (sq (rT [1,2] (s2 (sq (rT [1,2,3] (s3 (sq (rT [1,2,3] (s2 (eX (robj:=[]) (rl:=[(0,900)]) (bor:=[]) (cz k.held hb.1) rfl rfl rfl rfl ⟨iG rfl rfl trivial,rfl⟩ rfl (.inl rfl) (fun p hp=>nomatch hp) (fun j hj=>by(obtain rfl:j=0:=by simpa[fI,bJ,gB] using hj);rfl) (s2 (sq (rT [1,2,3] (s2 (eX (robj:=[]) (rl:=[(0,901)]) (bor:=[]) (ye k.marks hb.2.1) rfl rfl rfl rfl ⟨iG rfl rfl trivial,rfl⟩ rfl (.inl rfl) (fun p hp=>nomatch hp) (fun j hj=>by(obtain rfl:j=0:=by simpa[fI,bJ,gB] using hj);rfl) (s2 (sq (rT [2,3] (s2 (eX (robj:=[]) (rl:=[(0,902)]) (bor:=[]) (cz k.inbox hb.2.2) rfl rfl rfl rfl ⟨iG rfl rfl trivial,rfl⟩ rfl (.inl rfl) (fun p hp=>nomatch hp) (fun j hj=>by(obtain rfl:j=0:=by simpa[fI,bJ,gB] using hj);rfl) ?_))))))))))))))))))))
 refine s2 (sq (rT [2] (s2 (rt (rq [] [] rfl ?_)))))
 repeat' apply ai
 all_goals first|exact qx|exact aG _|exact aI _|exact(aG _).symm|exact(aI _).symm|rfl|(simp[aG,aI];done)|exact qz
theorem yf (k:aX) (rec:List UInt8) (hk:KB k) (hr:rec.length≤900000):Sp 113 2 [tV 0 k.V,tD 1 (.s rec)] [tV 0 (.tup [.agg [.d (.i ((bX k rec).1).id),.d (.i ((bX k rec).1).time),.d (.i ((bX k rec).1).next),.own 900 ((bX k rec).1).held.length,.own 901 ((bX k rec).1).marks.length,.own 902 ((bX k rec).1).inbox.length],.c (.d (.b (bX k rec).2))]),oR 900 52 5 (aH ((bX k rec).1).held),oR 901 162 3 (aM ((bX k rec).1).marks),oR 902 52 5 (aH ((bX k rec).1).inbox)]:=by
 refine sb Tryz.func113 rfl (sq (rT [1,2,4] (s3 (sq (sq (rT [1,2,4,10] (s1 (xp (oN k hk.2.1 hk.2.2) (ai rfl ?_)))))))))
 refine s1 (cd rfl (fun c10=> ?_) fun c10=> ?_)
 · refine sq (rT [4,5] (s3 (SW.nilBox 4 900 3 52 5 rfl rfl rfl (SW.nilBox 4 901 4 162 3 rfl rfl rfl (SW.nilBox 4 902 5 52 5 rfl rfl rfl (rt ?_))))))
   have hr:bX k rec=(.zero,false):=aB (by simpa using c10)
   rw[hr]
   refine rq [] [] rfl ?_
   repeat' apply ai
   all_goals first|exact qx|exact aG _|exact aI _|exact(aG _).symm|exact(aI _).symm|rfl|(simp[aG,aI];done)|exact qz
 have hok:cP k=true:=by simpa using c10
 refine sk (sq (rT [2,4,6,7] (s1 (xp (oW k (by have:=hk.1;omega)) (ai rfl ?_)))))
 refine s1 (xp (kw k rec hk.1 hr) (ai rfl ?_))
 refine s6 (sq (sq (rT [2,4,6,25] (s3 (y1 (xc (fun h=>oN (dL k rec).1 (uM (eR hok) (by omega)).2.1 (uM (eR hok) (by omega)).2.2) (ai rfl (ai rk ?_))))))))
 refine y1 (ai pk (cd rfl (fun c25=> ?_) fun c25=> ?_))
 · refine sq (rT [4,5] (s1 (eX (robj:=[]) (rl:=[]) (bor:=[]) (yD k (by have:=hk.1;omega)) rfl rfl rfl rfl ⟨dS rfl (aN rfl (aN rfl (aN rfl (aN rfl (aN rfl (aN rfl bG)))))) trivial,rfl⟩ rfl (.inl rfl) (fun p hp=>nomatch hp) (aKv rfl rfl rfl) (s2 (rt ?_)))))
   have hr:bX k rec=(k,false):=(aC hok).trans (aB (by intro h;rw[aVu] at h;rw[h.1,h.2] at c25;cases c25))
   rw[hr]
   refine rq [] [] rfl ?_
   repeat' apply ai
   all_goals first|exact qx|exact aG _|exact aI _|exact(aG _).symm|exact(aI _).symm|rfl|(simp[aG,aI];done)|exact qz
 refine sk (sq (rT [4,5] (s1 (eX (robj:=[]) (rl:=[]) (bor:=[]) (yD (dL k rec).1 (by have:=(uM (eR hok) (show rec.length≤1000000 by omega)).1;omega)) rfl rfl rfl rfl ⟨dS rfl (aN rfl (aN rfl (aN rfl (aN rfl (aN rfl (aN rfl bG)))))) trivial,rfl⟩ rfl (.inl rfl) (fun p hp=>nomatch hp) (aKv rfl rfl rfl) (s2 (rt ?_))))))
 have hr:bX k rec=((dL k rec).1,true):=(aC hok).trans (aC (by simpa using c25))
 rw[hr]
 refine rq [] [] rfl ?_
 repeat' apply ai
 all_goals first|exact qx|exact aG _|exact aI _|exact(aG _).symm|exact(aI _).symm|rfl|(simp[aG,aI];done)|exact qz
theorem ln (id:Int):Sp 112 1 [tI 0 id] [tV 0 (.e (.agg [.d (.i (bY id).id),.d (.i (bY id).time),.d (.i (bY id).next),.nil,.nil,.nil]))]:=by
 refine sb Tryz.func112 rfl (sq (rT [0,2] (s1 (sq (sq (rT [0,2,5] (s1 (xp (eB _) (ai rfl ?_)))))))))
 refine s1 (cd rfl (fun c5=> ?_) fun c5=> ?_)
 · have hr:bY id= .zero:=aB (by simpa using c5)
   refine sq (rT [2] (s2 (rt ?_)))
   rw[hr]
   refine rq [] [] rfl ?_
   repeat' apply ai
   all_goals first|exact qx|exact aG _|exact aI _|exact(aG _).symm|exact(aI _).symm|rfl|(simp[aG,aI];done)|exact qz
 have hr:bY id=⟨id,0,1,[],[],[]⟩:=aC (by simpa using c5)
 refine sk (sq (rT [2] (s3 (rt ?_))))
 rw[hr]
 refine rq [] [] rfl ?_
 repeat' apply ai
 all_goals first|exact qx|exact aG _|exact aI _|exact(aG _).symm|exact(aI _).symm|rfl|(simp[aG,aI];done)|exact qz
theorem yg (id:Int) (l:List (List UInt8)) (hl:l.length≤900000) (hx: ∀x∈l,x.length≤900000):Sp 50 2 [tI 0 id,tD 1 (.sl (aY l))] [tV 0 (.tup [.agg [.d (.i ((cQ id l).1).id),.d (.i ((cQ id l).1).time),.d (.i ((cQ id l).1).next),.own 900 ((cQ id l).1).held.length,.own 901 ((cQ id l).1).marks.length,.own 902 ((cQ id l).1).inbox.length],.c (.d (.b (cQ id l).2))]),oR 900 52 5 (aH ((cQ id l).1).held),oR 901 162 3 (aM ((cQ id l).1).marks),oR 902 52 5 (aH ((cQ id l).1).inbox)]:=by
 refine sb Tryz.func50 rfl (sq (rT [0,1,4] (s2 (sq (sq (rT [0,1,4,13] (s1 (xp (eB _) (ai rfl ?_)))))))))
 refine s1 (cd rfl (fun c13=> ?_) fun c13=> ?_)
 · refine sq (rT [4,5] (s3 (SW.nilBox 4 900 3 52 5 rfl rfl rfl (SW.nilBox 4 901 4 162 3 rfl rfl rfl (SW.nilBox 4 902 5 52 5 rfl rfl rfl (rt ?_))))))
   have hr:cQ id l=(.zero,false):=aB (by simpa using c13)
   rw[hr]
   refine rq [] [] rfl ?_
   repeat' apply ai
   all_goals first|exact qx|exact aG _|exact aI _|exact(aG _).symm|exact(aI _).symm|rfl|(simp[aG,aI];done)|exact qz
 have hnode:dY id=true:=by simpa using c13
 refine sk (sq (rT [1,4,6] (s1 (xp (ln id) (ai rfl ?_)))))
 refine s2 (sq (sq (rT [4,6,17,18,19] (s3 (bk (SW.nilBox 6 900 3 52 5 rfl rfl rfl (SW.nilBox 6 901 4 162 3 rfl rfl rfl (SW.nilBox 6 902 5 52 5 rfl rfl rfl (SW.loopW (n:=l.length) (fun m s=> ∃(i:Nat) (q:aX),m=l.length - i∧i≤l.length∧K6 q∧fR (bY id) l=fR q (l.drop i)∧s=[tP 4 4,tP 6 6,tD 17 (.sl (aY l)),tI 18 (l.length:Nat),tI 19 (i:Nat),oB 4 44 [.d (.i 0),.d (.i 0),.d (.i 0),.nil,.nil,.nil],oB 6 44 [.d (.i (q).id),.d (.i (q).time),.d (.i (q).next),.own 900 (q).held.length,.own 901 (q).marks.length,.own 902 (q).inbox.length],oR 900 52 5 (aH (q).held),oR 901 162 3 (aM (q).marks),oR 902 52 5 (aH (q).inbox)]) ?_ ?_)))))))))
 · refine wq (σ':=[tP 4 4,tP 6 6,tD 17 (.sl (aY l)),tI 18 (l.length:Nat),tI 19 (0:Nat),oB 4 44 [.d (.i 0),.d (.i 0),.d (.i 0),.nil,.nil,.nil],oB 6 44 [.d (.i ((bY id)).id),.d (.i ((bY id)).time),.d (.i ((bY id)).next),.own 900 ((bY id)).held.length,.own 901 ((bY id)).marks.length,.own 902 ((bY id)).inbox.length],oR 900 52 5 (aH ((bY id)).held),oR 901 162 3 (aM ((bY id)).marks),oR 902 52 5 (aH ((bY id)).inbox)]) [] [] (⟨0,bY id,rfl,aVv _,zI id,rfl,rfl⟩) ?_
   repeat' apply ai
   all_goals first|exact qx|rfl|(rw[aJ];done)|(rw[(ksD id).1];rfl)|(rw[(ksD id).2.1];rfl)|(rw[(ksD id).2.2];rfl)|exact qz
 rintro n s ⟨i,q,rfl,hi,hq,hgo,rfl⟩
 refine sq (rT [4,6,17,18,19,20] (s1 (sq (cd rfl (fun c20=> ?_) fun c20=> ?_))))
 · have hi2:i<l.length:=by simpa using c20
   have hg:=eN (l:=l) hi2
   have hmem:l.getD i []∈l:=cM hi2
   refine sk (sq (bk (sq (rT [4,6,8,17,18,19] (ai (by rw[aVr,hg];exact⟨⟨by omega,by rw[aJ];omega⟩,rfl⟩) (ai (by rw[aVr,hg];exact⟨aVs rfl,rfl⟩) (s1 (sq (wa [tP 4 4,tP 6 6,tD 8 (.s (l.getD i [])),tD 17 (.sl (aY l)),tI 18 (l.length:Nat),tI 19 (i:Nat),oB 4 44 [.d (.i 0),.d (.i 0),.d (.i 0),.nil,.nil,.nil],oB 6 44 [.d (.i (q).id),.d (.i (q).time),.d (.i (q).next),.own 900 (q).held.length,.own 901 (q).marks.length,.own 902 (q).inbox.length],oR 900 52 5 (aH (q).held),oR 901 162 3 (aM (q).marks),oR 902 52 5 (aH (q).inbox)] [] [] ?_ ?_)))))))))
   · repeat' apply ai
     all_goals first|exact qx|(rw[aVr,hg];rfl)|exact qz
   refine rT [4,6,9,10,17,18,19] (s2 (eX (robj:=[(900,.row 52 5 (aH (q).held)),(901,.row 162 3 (aM (q).marks)),(902,.row 52 5 (aH (q).inbox))]) (rl:=[(900,910),(901,911),(902,912)]) (bor:=[900,901,902]) (yf q (l.getD i []) hq.seven.big (hx _ hmem)) rfl rfl rfl rfl ⟨dS rfl (aN rfl (aN rfl (aN rfl (nI rfl rfl (aG _) rfl (nI rfl rfl (aI _) rfl (nI rfl rfl (aG _) rfl bG)))))) (iG rfl rfl trivial),rfl⟩ rfl (.inr (aNg _)) (cH ⟨rfl,rfl,rfl,trivial⟩) (aKv rfl rfl rfl) (s6 (sq (sq (rT [4,6,9,17,18,19,30] (s2 (cd rfl (fun c30=> ?_) fun c30=> ?_))))))))
   · have hno: (bX q (l.getD i [])).2=false:=by simpa using c30
     rw[List.drop_eq_getElem_cons hi2,fR,show l[i]=l.getD i [] by rw[aVy,aV1 hi2];rfl,hno] at hgo
     refine sq (rT [4,5] (s3 (SW.nilBox 4 920 3 52 5 rfl rfl rfl (SW.nilBox 4 921 4 162 3 rfl rfl rfl (SW.nilBox 4 922 5 52 5 rfl rfl rfl (rt ?_))))))
     have hr:cQ id l=(.zero,false):=(aC hnode).trans (hgo.trans (aB (by simp)))
     rw[hr]
     refine rq [(900,920),(901,921),(902,922)] [] rfl ?_
     repeat' apply ai
     all_goals first|exact qx|exact aG _|exact aI _|exact(aG _).symm|exact(aI _).symm|rfl|(simp[aG,aI];done)|exact qz
   have hno: (bX q (l.getD i [])).2=true:=by simpa using c30
   rw[List.drop_eq_getElem_cons hi2,fR,show l[i]=l.getD i [] by rw[aVy,aV1 hi2];rfl,aC hno] at hgo
   refine sk (rT [4,6,17,18,19] (s2 (rT [4,6,17,18,19] (s2 (wq [(900,910),(901,911),(902,912)] [] (⟨l.length - (i+1),by omega,i+1,(bX q (l.getD i [])).1,rfl,by omega,mv,hgo,rfl⟩) ?_)))))
   repeat' apply ai
   all_goals first|exact qx|exact aG _|exact aI _|exact(aG _).symm|exact(aI _).symm|exact aA D.i (aF (by omega))|rfl|(simp[aG,aI];done)|exact qz
 have hi3:i=l.length:=by simp at c20;omega
 subst hi3
 refine xt (sq (rT [4,5] (s3 (rt ?_))))
 have hr:cQ id l=(q,true):=(aC hnode).trans (hgo.trans (by rw[List.drop_length];rfl))
 rw[hr]
 refine rq [] [] rfl ?_
 repeat' apply ai
 all_goals first|exact qx|exact aG _|exact aI _|exact(aG _).symm|exact(aI _).symm|rfl|(simp[aG,aI];done)|exact qz
theorem rh (id:Int) (s:List UInt8) (hl:s.length≤900000):Sp 77 2 [tI 0 id,tD 1 (.s s)] [tV 0 (.tup [.agg [.d (.i ((cQ id (bF s).1).1).id),.d (.i ((cQ id (bF s).1).1).time),.d (.i ((cQ id (bF s).1).1).next),.own 900 ((cQ id (bF s).1).1).held.length,.own 901 ((cQ id (bF s).1).1).marks.length,.own 902 ((cQ id (bF s).1).1).inbox.length],.c (.d (.b (cQ id (bF s).1).2))]),oR 900 52 5 (aH ((cQ id (bF s).1).1).held),oR 901 162 3 (aM ((cQ id (bF s).1).1).marks),oR 902 52 5 (aH ((cQ id (bF s).1).1).inbox)]:=by
 refine sb Tryz.func77 rfl (sq (rT [0,1,4] (s2 (sq (rT [0,4,6] (s1 (xp (mQ s (by omega)) (ai rfl ?_))))))))
 refine s5 (sq (rT [4,5] (s2 (eX (robj:=[]) (rl:=[]) (bor:=[]) (yg id (bF s).1 (kI s hl).1 (kI s hl).2) rfl rfl rfl rfl ⟨iG rfl rfl (iG rfl rfl trivial),rfl⟩ rfl (.inl rfl) (fun p hp=>nomatch hp) (aKv rfl rfl rfl) (s4 (rt (rq [] [] rfl ?_)))))))
 repeat' apply ai
 all_goals first|exact qx|exact aG _|exact aI _|exact(aG _).symm|exact(aI _).symm|rfl|(simp[aG,aI];done)|exact qz
theorem lp (k:aT) (hl:k.log.length≤140737488355328):Sp 27 1 [tV 0 k.V] [tV 0 (.e (.agg [.d (.i ((bV k)).id),.d (.i ((bV k)).time),.d (.i ((bV k)).next),.own 900 ((bV k)).held.length,.own 901 ((bV k)).marks.length,.own 902 ((bV k)).inbox.length])),oR 900 52 5 (aH ((bV k)).held),oR 901 162 3 (aM ((bV k)).marks),oR 902 52 5 (aH ((bV k)).inbox)]:=by
 refine sb Tryz.func27 rfl (sq (rT [1,2] (s2 (sq (sq (rT [1,2,7] (s1 (xp (tG k hl) (ai rfl ?_)))))))))
 refine s1 (cd rfl (fun c7=> ?_) fun c7=> ?_)
 · have hno: ¬bL k=true:=by simpa using c7
   have hk:bV k= .zero:=aB hno
   refine sq (rT [2] (s2 (SW.nilBox 2 900 3 52 5 rfl rfl rfl (SW.nilBox 2 901 4 162 3 rfl rfl rfl (SW.nilBox 2 902 5 52 5 rfl rfl rfl (rt ?_))))))
   rw[hk]
   refine rq [] [] rfl ?_
   repeat' apply ai
   all_goals first|exact qx|exact aG _|exact aI _|exact(aG _).symm|exact(aI _).symm|rfl|(simp[aG,aI];done)|exact qz
 have hok:bL k=true:=by simpa using c7
 have hk:=oL hok
 have hlg:=(fW hok).2.1
 refine sk (sq (rT [2,3] (s5 (eX (robj:=[]) (rl:=[]) (bor:=[]) (rh k.id k.log (by omega)) rfl rfl rfl rfl ⟨iG rfl rfl (iG rfl rfl trivial),rfl⟩ rfl (.inl rfl) (fun p hp=>nomatch hp) (aKv rfl rfl rfl) (s6 (sq (rT [2] (s2 (rt ?_)))))))))
 rw[hk]
 refine rq [] [] rfl ?_
 repeat' apply ai
 all_goals first|exact qx|exact aG _|exact aI _|exact(aG _).symm|exact(aI _).symm|rfl|(simp[aG,aI];done)|exact qz
end Go.Proofs.YtmabaopgkimfmaaGreatDoor
namespace Go.Ab
open Int renaming toNat_natCast→aVr
open Nat renaming le_of_ble_eq_true→aVs,zero_le→aVv,le_refl→aVz
open List renaming length_append→aVt,length_cons→aVw,length_nil→aVx,getD_eq_getElem?_getD→aVy,length_take→aV0,getElem?_eq_getElem→aV1,getElem?_eq_some_iff→aV2,take_length→aV3,length_drop→aV4,mem_map→aV5,mem_cons→aV6,range→aV7,all_eq_true→aV8,length_set→aV9,mem_singleton→aWa,replicate→aWb
open Bool renaming and_eq_true→aVu,or_eq_true→aWc
open Go Go.RowKit
set_option linter.unusedVariables false
set_option linter.unusedSimpArgs false
section
variable {α:Type} (f:Int→α) (n:Int)
def jZ:List α→Int→List α
 | [],_=>[]
 |_::r,k=>f k::jZ r (k+n)
theorem eQ: ∀(l:List α) (k:Int),(jZ f n l k).length=l.length
 | [],_=>rfl
 |_::r,k=>by simp[jZ,eQ r]
theorem aFv (i:Nat):n*((i+1:Nat):Int)=n+n*i:=by
 rw[show((i+1:Nat):Int)=(i:Int)+1 by omega,Int.mul_add,Int.mul_one,Int.add_comm]
theorem yh (z:α): ∀(l:List α) (k:Int) (i:Nat),i<l.length→(jZ f n l k).getD i z=f (k+n*i)
 | [],_,_,h=>absurd h (Nat.not_lt_zero _)
 |_::r,k,0,_=>by simp[jZ]
 |_::r,k,i+1,h=>by
  have:=yh z r (k+n) i (by simpa using h)
  rw[aFv,← Int.add_assoc]
  simpa only[jZ,List.getD_cons_succ] using this
def kJ (l:List α) (k:Int) (i:Nat):List α:=jZ f n (l.take i) k++l.drop i
theorem aLd (l:List α) (k:Int):kJ f n l k 0=l:=by simp[kJ,jZ]
theorem aNq (l:List α) (k:Int):kJ f n l k l.length=jZ f n l k:=by simp[kJ]
theorem qj (l:List α) (k:Int) (i:Nat): (kJ f n l k i).length=l.length:=by simp[kJ,eQ];omega
theorem aBw (z:α): ∀(l:List α) (k:Int) (i:Nat),i<l.length→(kJ f n l k i).getD i z=l.getD i z
 | [],_,_,h=>absurd h (Nat.not_lt_zero _)
 |h::r,k,0,_=>by simp[kJ,jZ]
 |h::r,k,i+1,q=>by
  have:=aBw z r (k+n) i (by simpa using q)
  simp only[kJ,List.take_succ_cons,List.drop_succ_cons,jZ,List.cons_append,List.getD_cons_succ] at this ⊢
  exact this
theorem aFw: ∀(l:List α) (k:Int) (i:Nat),i<l.length→(kJ f n l k i).set i (f (k+n*i))=kJ f n l k (i+1)
 | [],_,_,h=>absurd h (Nat.not_lt_zero _)
 |h::r,k,0,_=>by simp[kJ,jZ]
 |h::r,k,i+1,q=>by
  have:=aFw r (k+n) i (by simpa using q)
  simp only[kJ,List.take_succ_cons,List.drop_succ_cons,jZ,List.cons_append,List.set_cons_succ] at this ⊢
  rw[← this,aFv,Int.add_assoc]
end
theorem aI2 {α:Type} {row:α→List D} {M:List α} {i:Nat} (hi:i<M.length) (x:α): ((M.set i x).map row).getD i []=row x:=by
 rw[aVy,List.getElem?_map,List.getElem?_set_self hi];rfl
theorem fF {α:Type} {row:α→List D} {M:List α} {i:Nat} (hi:i<M.length) {c:Nat} {d:D} (x x':α) (e:cT (row x) c [d]=row x'): ((M.set i x).map row).set i (cT (((M.set i x).map row).getD i []) c [d])=(M.set i x').map row:=by
 rw[aI2 hi,e,← List.map_set,List.set_set]
theorem aNr {α:Type} {row:α→List D} {M:List α} {i n:Nat} (h:M.length=n) (x:α): ((M.set i x).map row).length=n:=by
 rw[List.length_map,aV9];exact h
def cX (k:Int):bH:=⟨k,k+1,k+2,k+3,k+4,k+5,k+6,k+7,k+8,qG (k+9)⟩
end Go.Ab
namespace Go.Proofs.YtmabaopgkimfmaaGreatDoor
open Int renaming toNat_natCast→aVr
open Nat renaming le_of_ble_eq_true→aVs,zero_le→aVv,le_refl→aVz
open List renaming length_append→aVt,length_cons→aVw,length_nil→aVx,getD_eq_getElem?_getD→aVy,length_take→aV0,getElem?_eq_getElem→aV1,getElem?_eq_some_iff→aV2,take_length→aV3,length_drop→aV4,mem_map→aV5,mem_cons→aV6,range→aV7,all_eq_true→aV8,length_set→aV9,mem_singleton→aWa,replicate→aWb
open Bool renaming and_eq_true→aVu,or_eq_true→aWc
open Go Go.Ab Go.RowKit
set_option linter.unusedVariables false
set_option linter.unusedSimpArgs false
set_option maxRecDepth 9000
theorem aNs (k:aX):gU [tV 0 (.e (.agg [.d (.i (k).id),.d (.i (k).time),.d (.i (k).next),.own 900 (k).held.length,.own 901 (k).marks.length,.own 902 (k).inbox.length])),oR 900 52 5 (aH (k).held),oR 901 162 3 (aM (k).marks),oR 902 52 5 (aH (k).inbox)]:=by
 intro p hp
 simp only[aV6,List.mem_nil_iff,or_false] at hp
 rcases hp with rfl|rfl|rfl|rfl
 · simp[pY,dj,dh,yP,sA]
 · exact lf _ _ _
 · exact aFe _ _ _
 exact lf _ _ _
theorem nu (kd:Int) (f:bH):Sp 161 2 [tI 0 kd,tV 1 f.V] [tO 0 0 1,oR 0 63 10 (aZ [yA kd f])]:=by
 exact sb Tryz.func161 rfl (sq (rT [0,3] (s2 (sq (rT [4] (s9 (s5 (ai (by exact⟨(by intro r hr;rw[aWa.1 hr];rfl),aVs rfl⟩) (s1 (rt (rq [(0,19)] [] rfl qz)))))))))))
theorem aQj (l:List cU) (m:cU) (hl:l.length≤100):Sp 163 2 [tD 0 (.sl (aR l)),tV 1 m.V] [tO 0 0 (hF l m).length,oR 0 86 2 (aR (hF l m))]:=by
 refine sb Tryz.func163 rfl (sq (rT [0,3] (s2 (sq (rT [0,3,5] (s1 (sq (sq (rT [3,5,8,9,10] (s3 (bk (SW.nilOwn 5 100 86 2 rfl rfl (SW.loopW (n:=l.length) (fun n q=> ∃i:Nat,n=l.length - i∧i≤l.length∧q=[tP 3 3,tO 5 100 (dQ (l.take (i)) m.num).length,tD 8 (.sl (aR l)),tI 9 (l.length:Nat),tI 10 (i:Nat),oB 3 86 [.d (.i m.num),.d (.s m.data)],oR 100 86 2 (aR (dQ (l.take (i)) m.num))]) ?_ ?_)))))))))))))
 · refine wq (σ':=[tP 3 3,tO 5 100 (dQ (l.take (0)) m.num).length,tD 8 (.sl (aR l)),tI 9 (l.length:Nat),tI 10 (0:Nat),oB 3 86 [.d (.i m.num),.d (.s m.data)],oR 100 86 2 (aR (dQ (l.take (0)) m.num))]) [] [] (⟨0,rfl,aVv _,rfl⟩) ?_
   repeat' apply ai
   all_goals first|exact qx|rfl|(rw[aK];done)|exact qz
 rintro n s ⟨i,rfl,hi,rfl⟩
 refine sq (rT [3,5,8,9,10,11] (s1 (sq (cd rfl (fun c11=> ?_) fun c11=> ?_))))
 · have hi2:i<l.length:=by simpa using c11
   have hg:=eP (l:=l) hi2
   have hts:=dH (z:=cU.zero) hi2
   have hle:=vI (l.take i) m.num
   rw[aV0] at hle
   refine sk (sq (bk (sq (rT [3,5,7,8,9,10] (ai (by rw[aVr,hg];exact⟨⟨by omega,by rw[aK];omega⟩,rfl⟩) (ai (by rw[aVr,hg];exact⟨aVs rfl,rfl⟩) (s2 (sq (wa [tP 3 3,tP 7 7,tO 5 100 (dQ (l.take (i)) m.num).length,tD 8 (.sl (aR l)),tI 9 (l.length:Nat),tI 10 (i:Nat),oB 3 86 [.d (.i m.num),.d (.s m.data)],oB 7 86 [.d (.i (l.getD i .zero).num),.d (.s (l.getD i .zero).data)],oR 100 86 2 (aR (dQ (l.take (i)) m.num))] [] [] ?_ ?_)))))))))
   · repeat' apply ai
     all_goals first|exact qx|(rw[aVr,hg];rfl)|exact qz
   refine rT [3,5,7,8,9,10,18] (s5 (cd rfl (fun c18=> ?_) fun c18=> ?_))
   · have hlg:=py (l:=l.take i) (m:=l.getD i .zero) (n:=m.num) (by exact c18)
     refine rT [3,5,8,9,10] (s3 (ai (by exact⟨rfl,aK _,by intro r hr;rw[aWa.1 hr];rfl,by show(_+1)*24≤_;omega⟩) (s1 (rT [3,5,8,9,10] (s2 (wq [] [] (⟨l.length - (i+1),by omega,i+1,rfl,by omega,rfl⟩) ?_))))))
     repeat' apply ai
     all_goals first|exact qx|exact aA D.i (by rw[aF (by omega)];omega)|(rw[hts,hlg];done)|(rw[hts,hlg,aVt];rfl)|(rw[hts,hlg];simp[aK];done)|(rw[hts,hlg];exact nO _ _)|exact qz
   have hlg:=vu (l:=l.take i) (m:=l.getD i .zero) (n:=m.num) (by exact c18)
   refine sk (rT [3,5,8,9,10] (s2 (wq [] [] (⟨l.length - (i+1),by omega,i+1,rfl,by omega,rfl⟩) ?_)))
   repeat' apply ai
   all_goals first|exact qx|exact aA D.i (by rw[aF (by omega)];omega)|(rw[hts,hlg];done)|(rw[hts,hlg,aVt];rfl)|(rw[hts,hlg];simp[aK];done)|(rw[hts,hlg];exact nO _ _)|exact qz
 have hi3:i=l.length:=by simp at c11;omega
 subst hi3
 clear hi
 have hle:=vI l m.num
 refine xt (SW.midW (fun q=>q=[tP 3 3,tO 5 60 (jG (dQ l m.num)).length,oB 3 86 [.d (.i m.num),.d (.s m.data)],oR 60 86 2 (aR (jG (dQ l m.num)))]) ?_ ?_)
 · refine sq (rT [3,5,26] (s1 (ai (by exact aK _) (s1 (cd rfl (fun c26=> ?_) fun c26=> ?_)))))
   · have h14:14≤(dQ l m.num).length:=by rw[aV3] at c26;simp[aK] at c26;omega
     have hcg:jG (dQ l m.num)=(dQ l m.num).drop 1:=by unfold jG;rw[aC h14]
     refine SW.regTX [3,5] (sx kX rfl trivial (aFp kX 101 1 rfl rfl rfl rfl rfl rfl rfl rfl (aK _) (by rw[aV3];omega) rfl (sx kX rfl trivial ?_)))
     first
     |(refine wq [(60,101)] [] (rfl) ?_
       repeat' apply ai
       all_goals first|exact qx|(rw[hcg,aV3];done)|(rw[hcg,aV3,aV4];done)|(rw[hcg,aV3];simp[aR,List.map_drop];done)|exact qz)
     |(refine wq [(60,100)] [] (rfl) ?_
       repeat' apply ai
       all_goals first|exact qx|(rw[hcg,aV3];done)|(rw[hcg,aV3,aV4];done)|(rw[hcg,aV3];simp[aR,List.map_drop];done)|exact qz)
   have h14: ¬14≤(dQ l m.num).length:=by rw[aV3] at c26;simp[aK] at c26;omega
   have hcg:jG (dQ l m.num)=dQ l m.num:=by unfold jG;rw[aB h14]
   refine sk ?_
   first
   |(refine wq [(60,101)] [] (rfl) ?_
     repeat' apply ai
     all_goals first|exact qx|(rw[hcg,aV3];done)|(rw[hcg,aV3,aV4];done)|(rw[hcg,aV3];simp[aR,List.map_drop];done)|exact qz)
   |(refine wq [(60,100)] [] (rfl) ?_
     repeat' apply ai
     all_goals first|exact qx|(rw[hcg,aV3];done)|(rw[hcg,aV3,aV4];done)|(rw[hcg,aV3];simp[aR,List.map_drop];done)|exact qz)
 rintro s rfl
 refine sq (rT [4] (s3 (ai (by have h9: (jG (dQ l m.num)).length≤100:=(by unfold jG;split<;>(try rw[aV4])<;>omega);exact⟨rfl,aK _,by intro r hr;rw[aWa.1 hr];rfl,by show(_+1)*24≤_;omega⟩) (s1 (rt (rq [(0,60)] [] rfl ?_))))))
 repeat' apply ai
 all_goals try exact qx
 all_goals first|with_reducible rfl|(unfold hF;rw[aVt];rfl)|(unfold hF;simp[aK,dQ];done)|exact nO _ ⟨m.num,m.data⟩
end Go.Proofs.YtmabaopgkimfmaaGreatDoor
namespace Go.Ab
open Int renaming toNat_natCast→aVr
open Nat renaming le_of_ble_eq_true→aVs,zero_le→aVv,le_refl→aVz
open List renaming length_append→aVt,length_cons→aVw,length_nil→aVx,getD_eq_getElem?_getD→aVy,length_take→aV0,getElem?_eq_getElem→aV1,getElem?_eq_some_iff→aV2,take_length→aV3,length_drop→aV4,mem_map→aV5,mem_cons→aV6,range→aV7,all_eq_true→aV8,length_set→aV9,mem_singleton→aWa,replicate→aWb
open Bool renaming and_eq_true→aVu,or_eq_true→aWc
open Go Go.RowKit
set_option linter.unusedVariables false
set_option linter.unusedSimpArgs false
section
variable {τ σ':St} {rl:List (Nat×Nat)} {bor:List Nat}
theorem kO {o n j m:Nat} {e:TypeId} {es:Nat} {rows:List (List D)} {xs ys:List E} (ho:o=iO rl j) (e1:n=m) (hj:aQ σ' (.o j)=some (.row e es rows)) (h:mEs τ σ' rl bor xs ys):mEs τ σ' rl bor (.c (.own o n)::xs) (.c (.own j m)::ys):=⟨⟨ho,e1,e,es,rows,hj⟩,h⟩
end
theorem yi {l:List (List D)} {i:Nat} (h:i<l.length) (x:List D): (l.set i x).getD i []=x:=by
 rw[aVy,List.getElem?_set_self h];rfl
theorem aDf {l:List bB} {i:Nat} (hi:i<l.length) (g:List cU): (aP l).set i (cT ((aP l).getD i []) 5 [.sl (aR g)])=aP (l.set i {l.getD i .zero with got:=g}):=by
 rw[dG hi]
 show(aP l).set i (bB.row {l.getD i .zero with got:=g})=_
 exact zl l i _
theorem aNt {l:List bB} {f:bH} (h:3≤l.length): (aP l++[(mO f).row]).drop 1=aP (dI l++[mO f]):=by
 unfold dI
 rw[aC h]
 cases l with
 |nil=>simp at h
 |cons a r=>simp[aP]
theorem aNu {l:List bB} {f:bH} (h: ¬3≤l.length):aP l++[(mO f).row]=aP (dI l++[mO f]):=by
 unfold dI
 rw[aB h,oJ]
theorem aNv {l:List bB} (h:l.length≤3) (h3:3≤l.length): (dI l).length=2:=by
 unfold dI
 rw[aC h3,aV4];omega
theorem aNw {l:List bB} (h3: ¬3≤l.length): (dI l).length=l.length:=by
 unfold dI
 rw[aB h3]
theorem aNx {k:aX} {n:bA} (h:fN n=[]): (bX k (cY dF n)).2=false:=by
 have h1:dL k (cY dF n)=(k,false):=by
  have e:cY dF n=dF++[32]:=by unfold cY;rw[h,List.append_nil]
  rw[e]
  have h0:fG (dF++[32])=true:=by decide
  have h2:aO (dF++[32])=[]:=by decide
  have h3:bC (dF++[32])=dF:=by decide
  refine rP h0 (by rw[h3];decide) (by rw[h3];decide) ?_
  rw[h2]
  decide
 unfold bX
 rw[h1]
 split
 · rfl
 · rfl
theorem aIa {k:aT} {f:bH} {l:List bB} {i:Nat} (h: (cF f.size (l.getD i .zero).got).2=true):
 kT k f l i=if(gS (cC k (eG l i)) (cY dF (cN f (cF f.size (l.getD i .zero).got).1))).2 then(jT (gS (cC k (eG l i)) (cY dF (cN f (cF f.size (l.getD i .zero).got).1))).1,[yA 2 f]) else(cC k (eG l i),[]):=by
 by_cases he:fN (cN f (cF f.size (l.getD i .zero).got).1)=[]
 · rw[ed h he,ro (by rw[aNx he];decide)]
   rfl
 · generalize hr:cY dF (cN f (cF f.size (l.getD i .zero).got).1)=rec
   by_cases hw: (gS (cC k (eG l i)) rec).2=true
   · rw[aC hw]
     have hq:eI (cC k (eG l i)) rec true=(jT (gS (cC k (eG l i)) rec).1,true):=by
      unfold eI;rw[aC hw];rfl
     rw[ku h he (by rw[hr,hq]),hr,hq]
   · rw[aB hw]
     have hq:eI (cC k (eG l i)) rec true=(cC k (eG l i),false):=by
      unfold eI;rw[aB hw]
     rw[zY h he (by rw[hr,hq];simp),hr,hq]
theorem aNy {f:bH} (hf:dV f=true) (hk:f.kind=1):oC ((f.size+3) / 4) f.mix=true:=by
 obtain⟨_,_,h3,h4,_⟩:=vK hf hk
 simp only[oC,gT,aVu,aD]
 omega
theorem da {k:aT} {f:bH} (hl:k.log.length≤2400): (eI k (qU f) false).1=(gS k (qU f)).1∧(gS k (qU f)).1.halves=k.halves:=by
 refine⟨?_,(kj (k:=k) (rec:=qU f) (by omega)).2⟩
 unfold eI
 split
 · rfl
 · rename_i h
   unfold gS at h ⊢
   split at h
   · rename_i h1
     rw[aC h1]
     split at h
     · exact absurd rfl h
     · rename_i h2
       rw[aB h2]
       split at h
       · rename_i h3
         rw[aC h3]
         split at h
         · exact absurd rfl h
         · rename_i h4
           rw[aB h4]
       · rename_i h3
         rw[aB h3]
   · rename_i h1
     rw[aB h1]
end Go.Ab
namespace Go.Proofs.YtmabaopgkimfmaaGreatDoor
open Int renaming toNat_natCast→aVr
open Nat renaming le_of_ble_eq_true→aVs,zero_le→aVv,le_refl→aVz
open List renaming length_append→aVt,length_cons→aVw,length_nil→aVx,getD_eq_getElem?_getD→aVy,length_take→aV0,getElem?_eq_getElem→aV1,getElem?_eq_some_iff→aV2,take_length→aV3,length_drop→aV4,mem_map→aV5,mem_cons→aV6,range→aV7,all_eq_true→aV8,length_set→aV9,mem_singleton→aWa,replicate→aWb
open Bool renaming and_eq_true→aVu,or_eq_true→aWc
open Go Go.Ab Go.RowKit
set_option linter.unusedVariables false
set_option linter.unusedSimpArgs false
set_option maxRecDepth 9000
theorem aQk (l:List cU) (m:cU) (hl:l.length≤100):Ab.Spec Tryz.prog 163 2 [(.t 0,.v (Dv (.sl (aR l)))),(.t 1,.v m.V)] [(.t 0,.v (Dv (.sl (aR (hF l m)))))]:=
 Spec.told (rl:=[]) (bor:=[0]) (aQj l m hl) (dD rfl rfl rfl (aK _) rfl trivial) rfl rfl
theorem aDg (k:aT) (hok:bL k=true):Sp 27 1 [(.t 0,.v k.V)] [tV 0 (.e (.agg [.d (.i ((bM k).1).id),.d (.i ((bM k).1).time),.d (.i ((bM k).1).next),.own 900 ((bM k).1).held.length,.own 901 ((bM k).1).marks.length,.own 902 ((bM k).1).inbox.length])),oR 900 52 5 (aH ((bM k).1).held),oR 901 162 3 (aM ((bM k).1).marks),oR 902 52 5 (aH ((bM k).1).inbox)]:=by
 have h:=lp k (by have:=(fW hok).2.1;omega)
 rw[oL hok] at h
 exact h
theorem aDh (k:aT) (f:bH) (hok:bL k=true) (hu:k.up=true) (hf:dV f=true) (hkd:f.kind=1):Sp 100 2 [tV 0 (.e (.agg [.d (.i (k).id),.d (.b (k).up),.d (.s (k).log),.d (.i (k).forced),.own 0 k.halves.length])),(.t 1,.v f.V),oR 0 138 6 (aP k.halves)] [tV 0 (.tup [.agg [.d (.i ((cA k f).1).id),.d (.b ((cA k f).1).up),.d (.s ((cA k f).1).log),.d (.i ((cA k f).1).forced),.d (.sl (aP ((cA k f).1).halves))],.c (.own 5 (cA k f).2.length)]),oR 5 63 10 (aZ (cA k f).2)]:=by
 have hlg:=fW hok
 have hkb:=vH hok
 have hfh:=vK hf hkd
 have hl1:=aNy hf hkd
 have hH:=ru (uE hok) hlg.2.2.2.1 hf hkd
 have h6:=eR (qQ hok)
 have hb:k.halves.length≤3:=hlg.2.2.2.1
 obtain⟨HP0,hHP⟩: ∃x,cZ k.halves f=x:=⟨_,rfl⟩
 obtain⟨HH0,hHH⟩: ∃x,bK k.halves f=x:=⟨_,rfl⟩
 have hlt:HP0.2<HP0.1.length∧HP0.1.length≤3:=by rw[← hHP];exact gx hb
 have hg14:HH0.got.length≤14:=by rw[← hHH];exact kr hlg.2.2.2.2.2
 have hHd:HP0.1.getD HP0.2 .zero=HH0:=by rw[← hHP,← hHH];rfl
 have hgH: (aP HP0.1).getD ((HP0.2:Nat):Int).toNat []=HH0.row:=by rw[aVr,dG hlt.1,hHd]
 have hii: ((HP0.2:Nat):Int).toNat<HP0.1.length:=by rw[aVr];exact hlt.1
 have hsl: ((HP0.2:Nat):Int).toNat< (aP HP0.1).length:=by rw[aVr,aE];exact hlt.1
 refine sb Tryz.func100 rfl (sq (rT [2,3,4] (s4 (sq (rT [2,3,4,6] (s1 (eX (robj:=[(0,.row 138 6 (aP k.halves))]) (rl:=[]) (bor:=[0]) (aDg k hok) rfl rfl rfl rfl ⟨dS rfl (aN rfl (aN rfl (aN rfl (aN rfl (nI rfl rfl (aE _) rfl bG))))) trivial,rfl⟩ rfl (.inr (aNs _)) (cH ⟨rfl,trivial⟩) (aKv rfl rfl rfl) (s2 (sq (bk (sq (rT [2,3,4,6,15] (s6 (cd rfl (fun c15=> ?_) fun c15=> ?_))))))))))))))
 · have hlate:f.til≤(bM k).1.time:=by simpa using c15
   refine sq (rD [4,5] (s2 (eX (robj:=[]) (rl:=[(0,700)]) (bor:=[]) (nu 3 f) rfl rfl rfl rfl ⟨iG rfl rfl (dS rfl (aN rfl (aN rfl (aN rfl (aN rfl (aN rfl (aN rfl (aN rfl (aN rfl (aN rfl (aN rfl bG)))))))))) trivial),rfl⟩ rfl (.inl rfl) (fun p hp=>nomatch hp) (fun j hj=>by(obtain rfl:j=0:=by simpa[fI,bJ,gB] using hj);rfl) (s2 (ai (by kernel_rfl) (rt ?_))))))
   have hr:cA k f=(k,[yA 3 f]):=by rw[cA,aC hlate]
   rw[hr]
   refine dO _ [(5,700)] [0] rfl (iR rfl (gA (aN rfl (aN rfl (aN rfl (aN rfl (nI rfl rfl (by first|exact aE _|(rw[aV9];exact aE _)) (rfl) bG))))) (kO rfl rfl rfl fA)) (cJ rfl rfl trivial)) rfl rfl
 have hlate: ¬f.til≤(bM k).1.time:=by simpa using c15
 refine sq (rT [2,3,4,24] (s6 (wH (bor:=[900]) (robj:=[(900,.row 52 5 (aH (bM k).1.held))]) (jK (bM k).1.held f.frm f.num (by have:=h6.1.1;omega)) rfl rfl rfl rfl rfl ⟨dD rfl rfl rfl (aG _) rfl (iG rfl rfl (iG rfl rfl trivial)),rfl⟩ rfl rfl rfl (cH ⟨rfl,trivial⟩) (s2 (y4 (y2 (lm (bor:=[901]) (robj:=[(901,.row 162 3 (aM (bM k).1.marks))]) (fun h=>oM (bM k).1.marks f.frm f.num (by have:=h6.1.2.1;omega)) rfl rfl rfl rfl rfl ⟨dD rfl rfl rfl (aI _) rfl (iG rfl rfl (iG rfl rfl trivial)),rfl⟩ rfl rfl rfl (cH ⟨rfl,trivial⟩) rk (y1 (ai pk (s1 (cd rfl (fun c24=> ?_) fun c24=> ?_)))))))))))
 · have hhave:0≤aW (bM k).1.held f.frm f.num∨0≤fM (bM k).1.marks f.frm f.num:=by simpa[gb] using c24
   refine sq (wa [tP 2 2,tP 3 3,tP 4 4,oB 2 31 [.d (.i k.id),.d (.b k.up),.d (.s k.log),.d (.i k.forced),.d (.sl (aP k.halves))],oB 3 63 [.d (.i f.kind),.d (.i f.src),.d (.i f.dst),.d (.i f.frm),.d (.i f.num),.d (.i f.to),.d (.i f.til),.d (.i f.size),.d (.i f.mix),.d (.s f.data)],oB 4 31 [.d (.i 0),.d (.b false),.d (.s []),.d (.i 0),.nil]] [] [0] ?_ ?_)
   · repeat' apply ai
     all_goals first|exact qx|rfl|exact aE _|exact qz
   refine rD [4,5] (s1 (xp (fk k (by omega)) (ai rfl ?_)))
   refine s1 (eX (robj:=[]) (rl:=[(0,700)]) (bor:=[]) (nu 2 f) rfl rfl rfl rfl ⟨iG rfl rfl (dS rfl (aN rfl (aN rfl (aN rfl (aN rfl (aN rfl (aN rfl (aN rfl (aN rfl (aN rfl (aN rfl bG)))))))))) trivial),rfl⟩ rfl (.inl rfl) (fun p hp=>nomatch hp) (fun j hj=>by(obtain rfl:j=0:=by simpa[fI,bJ,gB] using hj);rfl) (s2 (ai (by kernel_rfl) (rt ?_))))
   have hr:cA k f=(jT k,[yA 2 f]):=by rw[cA,aB hlate,aC hhave]
   rw[hr]
   refine dO _ [(5,700)] [] rfl (iR rfl (gA (aN rfl (aN rfl (aN rfl (aN rfl (aN rfl bG))))) (kO rfl rfl rfl fA)) (cJ rfl rfl trivial)) rfl rfl
 have hhave: ¬(0≤aW (bM k).1.held f.frm f.num∨0≤fM (bM k).1.marks f.frm f.num):=by simpa[gb] using c24
 refine sq (rT [2,3,4,47] (s6 (cd rfl (fun c47=> ?_) fun c47=> ?_)))
 · have hskip:f.frm=k.id∨ ¬oC ((f.size+3) / 4) f.mix=true:= .inl (by simpa using c47)
   refine sq (rT [4,5] (s3 (SW.nilOwn 5 700 63 10 rfl rfl (rt ?_))))
   have hr:cA k f=(k,[]):=by rw[cA,aB hlate,aB hhave,aC hskip]
   rw[hr]
   refine dO _ [(5,700)] [0] rfl (iR rfl (gA (aN rfl (aN rfl (aN rfl (aN rfl (nI rfl rfl (by first|exact aE _|(rw[aV9];exact aE _)) (rfl) bG))))) (kO rfl rfl rfl fA)) (cJ rfl rfl trivial)) rfl rfl
 have hskip: ¬(f.frm=k.id∨ ¬oC ((f.size+3) / 4) f.mix=true):=by rw[hl1];simpa using c47
 refine sk (sq (wa [tP 2 2,tP 3 3,tP 4 4,oB 2 31 [.d (.i (k).id),.d (.b (k).up),.d (.s (k).log),.d (.i (k).forced),.own 0 k.halves.length],oB 3 63 [.d (.i f.kind),.d (.i f.src),.d (.i f.dst),.d (.i f.frm),.d (.i f.num),.d (.i f.to),.d (.i f.til),.d (.i f.size),.d (.i f.mix),.d (.s f.data)],oB 4 31 [.d (.i 0),.d (.b false),.d (.s []),.d (.i 0),.nil],oR 0 138 6 (aP k.halves)] [] [] ?_ ?_))
 · repeat' apply ai
   all_goals first|exact qx|rfl|exact aE _|exact qz
 refine rT [2,3,4,7] (s6 (wH (bor:=[0]) (robj:=[(0,.row 138 6 (aP k.halves))]) (fj k.halves f.frm f.num (by omega)) rfl rfl rfl rfl rfl ⟨dD rfl rfl rfl (aE _) rfl (iG rfl rfl (iG rfl rfl trivial)),rfl⟩ rfl rfl rfl (cH ⟨rfl,trivial⟩) (s1 (SW.midW (fun q=>q=[tP 2 2,tP 3 3,tP 4 4,tI 7 (HP0.2:Nat),oB 2 31 [.d (.i (k).id),.d (.b (k).up),.d (.s (k).log),.d (.i (k).forced),.own 50 HP0.1.length],oB 3 63 [.d (.i f.kind),.d (.i f.src),.d (.i f.dst),.d (.i f.frm),.d (.i f.num),.d (.i f.to),.d (.i f.til),.d (.i f.size),.d (.i f.mix),.d (.s f.data)],oB 4 31 [.d (.i 0),.d (.b false),.d (.s []),.d (.i 0),.nil],oR 50 138 6 (aP HP0.1)]) ?_ ?_))))
 · refine sq (rT [2,3,4,7,62] (s2 (cd rfl (fun c62=> ?_) fun c62=> ?_)))
   · have hneg:fD k.halves f.frm f.num<0:=by simpa using c62
     have hput:HP0=_:=hHP.symm.trans (wD hneg)
     have hc2:=zV k.halves hb
     refine sq (rT [2,3,4] (s9 (s5 (ai (by exact⟨rfl,aE _,by intro r hr;rw[aWa.1 hr];rfl,by show(_+1)*64≤_;omega⟩) (s2 (SW.midW (fun q=>q=[tP 2 2,tP 3 3,tP 4 4,oB 2 31 [.d (.i (k).id),.d (.b (k).up),.d (.s (k).log),.d (.i (k).forced),.own 50 HP0.1.length],oB 3 63 [.d (.i f.kind),.d (.i f.src),.d (.i f.dst),.d (.i f.frm),.d (.i f.num),.d (.i f.to),.d (.i f.til),.d (.i f.size),.d (.i f.mix),.d (.s f.data)],oB 4 31 [.d (.i 0),.d (.b false),.d (.s []),.d (.i 0),.nil],oR 50 138 6 (aP HP0.1)]) ?_ ?_))))))
     · refine sq (rT [2,3,4,82] (s2 (ai (by first|rfl|(simp[aE];done)) (s1 (cd rfl (fun c82=> ?_) fun c82=> ?_)))))
       · have h3:3≤k.halves.length:=by simp[aE] at c82;omega
         have hcl:=aNv hb h3
         have hpr:=aNt (f:=f) h3
         refine SW.regTX [2,3,4] (sx kX rfl (by first|trivial|rfl) (sx kX rfl vc (aFp kX 50 1 rfl rfl rfl rfl rfl rfl rfl rfl (by simp[aE]) (by simp) rfl (sx kX rfl (by first|trivial|rfl) (sx kX rfl ⟨by kernel_rfl,aVs (by kernel_rfl)⟩ ?_)))))
         first
         |(refine wq [] [] (rfl) ?_
           repeat' apply ai
           all_goals first|exact qx|(rw[hput];exact hpr)|(rw[hput];exact hpr.symm)|(rw[hput];simp[aE,hcl];done)|(rw[hput];simp[aE,hcl];omega)|exact qz)
         |(refine wq [(50,0)] [] (rfl) ?_
           repeat' apply ai
           all_goals first|exact qx|(rw[hput];exact hpr)|(rw[hput];exact hpr.symm)|(rw[hput];simp[aE,hcl];done)|(rw[hput];simp[aE,hcl];omega)|exact qz)
       have h3: ¬3≤k.halves.length:=by simp[aE] at c82;omega
       have hcl:=aNw h3
       have hpr:=aNu (f:=f) h3
       refine sk ?_
       first
       |(refine wq [] [] (rfl) ?_
         repeat' apply ai
         all_goals first|exact qx|(rw[hput];exact hpr)|(rw[hput];exact hpr.symm)|(rw[hput];simp[aE,hcl];done)|(rw[hput];simp[aE,hcl];omega)|exact qz)
       |(refine wq [(50,0)] [] (rfl) ?_
         repeat' apply ai
         all_goals first|exact qx|(rw[hput];exact hpr)|(rw[hput];exact hpr.symm)|(rw[hput];simp[aE,hcl];done)|(rw[hput];simp[aE,hcl];omega)|exact qz)
     rintro s rfl
     refine rT [2,3,4,7] (s2 (ai (by first|exact aE _|(simp[aE];done)) (s2 ?_)))
     first
     |(refine wq [] [] (rfl) ?_
       repeat' apply ai
       all_goals first|exact qx|(rw[hput];done)|(rw[hput];rfl)|(rw[hput];show D.i _=D.i (((dI k.halves).length:Nat):Int);refine aA D.i ?_;simp only[aVt,aVw,aVx];rw[aF (by omega)];omega)|(rw[hput];show D.i _=D.i (((fD k.halves f.frm f.num).toNat:Nat):Int);exact aA D.i (Int.toNat_of_nonneg (by omega)).symm)|exact qz)
     |(refine wq [(50,0)] [] (rfl) ?_
       repeat' apply ai
       all_goals first|exact qx|(rw[hput];done)|(rw[hput];rfl)|(rw[hput];show D.i _=D.i (((dI k.halves).length:Nat):Int);refine aA D.i ?_;simp only[aVt,aVw,aVx];rw[aF (by omega)];omega)|(rw[hput];show D.i _=D.i (((fD k.halves f.frm f.num).toNat:Nat):Int);exact aA D.i (Int.toNat_of_nonneg (by omega)).symm)|exact qz)
   have hneg: ¬fD k.halves f.frm f.num<0:=by simpa using c62
   have hput:HP0=_:=hHP.symm.trans (zU hneg)
   refine sk ?_
   first
   |(refine wq [] [] (rfl) ?_
     repeat' apply ai
     all_goals first|exact qx|(rw[hput];done)|(rw[hput];rfl)|(rw[hput];show D.i _=D.i (((dI k.halves).length:Nat):Int);refine aA D.i ?_;simp only[aVt,aVw,aVx];rw[aF (by omega)];omega)|(rw[hput];show D.i _=D.i (((fD k.halves f.frm f.num).toNat:Nat):Int);exact aA D.i (Int.toNat_of_nonneg (by omega)).symm)|exact qz)
   |(refine wq [(50,0)] [] (rfl) ?_
     repeat' apply ai
     all_goals first|exact qx|(rw[hput];done)|(rw[hput];rfl)|(rw[hput];show D.i _=D.i (((dI k.halves).length:Nat):Int);refine aA D.i ?_;simp only[aVt,aVw,aVx];rw[aF (by omega)];omega)|(rw[hput];show D.i _=D.i (((fD k.halves f.frm f.num).toNat:Nat):Int);exact aA D.i (Int.toNat_of_nonneg (by omega)).symm)|exact qz)
 rintro s rfl
 refine sq (rT [2,3,4,7,8] (s3 (ai (by exact⟨aE _,by omega,by omega⟩) (s1 (sq (sq (rD [2,3,4,7,8,119] (s1 (ai (by first|exact aE _|(rw[aV9];exact aE _)) (ai (by first|exact aE _|(rw[aV9];exact aE _)) (ai (by rw[hgH];exact⟨⟨aE _,hii⟩,aVs rfl,rfl⟩) (s4 (y1 (ai (fun h=>(by first|exact aE _|(rw[aV9];exact aE _))) (ai rk (ai (fun h=>(by first|exact aE _|(rw[aV9];exact aE _))) (ai rk (ai (fun h=>(by rw[hgH];exact⟨⟨aE _,hii⟩,aVs rfl,rfl⟩)) (ai rk (y3 (ai pk (s1 (y1 (ai (fun h=>(by first|exact aE _|(rw[aV9];exact aE _))) (ai rk (ai (fun h=>(by first|exact aE _|(rw[aV9];exact aE _))) (ai rk (ai (fun h=>(by rw[hgH];exact⟨⟨aE _,hii⟩,aVs rfl,rfl⟩)) (ai rk (y3 (ai pk (ai (by kernel_rfl) (cd rfl (fun c119=> ?_) fun c119=> ?_)))))))))))))))))))))))))))))))))
 · have hno: ¬kD HH0 f=true:=by
    intro h
    simp only[kD,aVu,beq_iff_eq] at h
    rw[hgH] at c119
    simp[gb,xK,bB.row,h.1.1,h.1.2,h.2] at c119
   have hadd:bT k.halves f=(HP0.1,-1):=by rw[← hHP];exact zW (by rw[hHH];exact hno)
   have hr:cA k f=(cC k HP0.1,[]):=by rw[cA,aB hlate,aB hhave,aB hskip,aC (by rw[hadd];show(-1:Int)<0;decide),hadd]
   refine sq (rT [4,5] (s3 (SW.nilOwn 5 700 63 10 rfl rfl (rt ?_))))
   rw[hr]
   refine dO _ [(5,700)] [50] rfl (iR rfl (gA (aN rfl (aN rfl (aN rfl (aN rfl (nI rfl rfl (by first|exact aE _|(rw[aV9];exact aE _)) (rfl) bG))))) (kO rfl rfl rfl fA)) (cJ rfl rfl trivial)) rfl rfl
 have hyes:kD HH0 f=true:=by rw[hgH] at c119;simp[gb,xK,bB.row] at c119;simp[kD,c119]
 have hadd:bT k.halves f=((HP0.1.set HP0.2 (fE HH0 f)),((HP0.2:Nat):Int)):=by rw[← hHP,← hHH];exact wE (by rw[hHH];exact hyes)
 have hsz:HH0.size=f.size:=by simp only[kD,aVu,beq_iff_eq] at hyes;exact hyes.2
 have hgL: (HP0.1.set HP0.2 (fE HH0 f)).getD HP0.2 .zero=fE HH0 f:=by rw[aVy,List.getElem?_set_self hlt.1];rfl
 have hr1:cA k f=kT k f (HP0.1.set HP0.2 (fE HH0 f)) HP0.2:=by rw[cA,aB hlate,aB hhave,aB hskip,aB (by rw[hadd];show ¬((HP0.2:Nat):Int)<0;omega),hadd];rfl
 have hro: (aP HP0.1).set ((HP0.2:Nat):Int).toNat (cT ((aP HP0.1).getD ((HP0.2:Nat):Int).toNat []) 5 [.sl (aR (hF HH0.got ⟨f.mix,f.data⟩))])=aP (HP0.1.set HP0.2 (fE HH0 f)):=by rw[aVr,aDf hlt.1,hHd];rfl
 have hH2:HOk (HP0.1.set HP0.2 (fE HH0 f))∧((HP0.1.set HP0.2 (fE HH0 f))).length≤3:=by rw[hadd] at hH;exact hH
 refine sk (sq (rD [2,3,4,7,8] (s2 (ai (by first|exact aE _|(rw[aV9];exact aE _)) (ai (by first|exact aE _|(rw[aV9];exact aE _)) (ai (by rw[hgH];exact⟨⟨aE _,hii⟩,aVs rfl,rfl⟩) (s5 (xp (aQk HH0.got ⟨f.mix,f.data⟩ (by omega)) (ai (by rw[hgH];rfl) ?_)))))))))
 refine ai (by first|exact aE _|(rw[aV9];exact aE _)) (ai (by first|exact aE _|(rw[aV9];exact aE _)) (ai (by rw[hgH];exact⟨aE _,hii,rfl,aVs rfl⟩) (ai (by kernel_rfl) (sq (rD [2,3,4,7,9,10] (s1 (ai (by first|exact aE _|(rw[aV9];exact aE _)) (ai (by first|exact aE _|(rw[aV9];exact aE _)) (ai (by rw[yi hsl,hgH];exact⟨⟨by rw[aV9];exact aE _,hii⟩,aVs rfl,rfl⟩) (s1 (ai (by first|exact aE _|(rw[aV9];exact aE _)) (ai (by first|exact aE _|(rw[aV9];exact aE _)) (ai (by rw[yi hsl,hgH];exact⟨⟨by rw[aV9];exact aE _,hii⟩,aVs rfl,rfl⟩) (xp (wy f.size (hF HH0.got ⟨f.mix,f.data⟩) (by unfold hF;rw[aVt];have h9: (jG (dQ HH0.got f.mix)).length≤14:=(by have h8:=vI HH0.got f.mix;unfold jG;split<;>(try rw[aV4])<;>omega);show(jG (dQ HH0.got f.mix)).length+1≤_;omega)) (ai (by rw[yi hsl,hgH,← hsz];rfl) ?_)))))))))))))))
 refine s5 (ai (by kernel_rfl) (sq (sq (rT [2,3,4,7,9,147] (s2 (cd rfl (fun c147=> ?_) fun c147=> ?_))))))
 · have hno2: ¬(cF f.size (hF HH0.got ⟨f.mix,f.data⟩)).2=true:=pP c147
   have hr:cA k f=(cC k (HP0.1.set HP0.2 (fE HH0 f)),[]):=hr1.trans (kt (by rw[hgL];exact hno2))
   refine sq (rT [4,5] (s3 (SW.nilOwn 5 700 63 10 rfl rfl (rt ?_))))
   rw[hr]
   refine dO _ [(5,700)] [50] rfl (iR rfl (gA (aN rfl (aN rfl (aN rfl (aN rfl (nI rfl rfl (by first|exact aE _|(rw[aV9];exact aE _)) (aA D.sl hro.symm) bG))))) (kO rfl rfl rfl fA)) (cJ rfl rfl trivial)) rfl rfl
 have hy2: (cF f.size (hF HH0.got ⟨f.mix,f.data⟩)).2=true:=iS c147
 have hr2:=hr1.trans (aIa (by rw[hgL];exact hy2))
 rw[hgL] at hr2
 have hok2:bL (cC k (eG (HP0.1.set HP0.2 (fE HH0 f)) HP0.2))=true:=zX hok hu (by have h9:=sR (HP0.1.set HP0.2 (fE HH0 f)) HP0.2;have h8:=hH2.2;show(eG (HP0.1.set HP0.2 (fE HH0 f)) HP0.2).length≤3;omega) (rr hH2.1 HP0.2)
 have hw7:wrap64 (((HP0.2:Nat):Int)+1)=((HP0.2+1:Nat):Int):=by rw[aF (by omega)];omega
 have hl2:HP0.2< (HP0.1.set HP0.2 (fE HH0 f)).length:=by rw[aV9];exact hlt.1
 refine sk (SW.midW (fun q=>q=[tP 2 2,tP 3 3,tP 4 4,tD 9 (.s (cF f.size (hF HH0.got ⟨f.mix,f.data⟩)).1),oB 2 31 [.d (.i k.id),.d (.b k.up),.d (.s k.log),.d (.i k.forced),.d (.sl (aP (eG (HP0.1.set HP0.2 (fE HH0 f)) HP0.2)))],oB 3 63 [.d (.i f.kind),.d (.i f.src),.d (.i f.dst),.d (.i f.frm),.d (.i f.num),.d (.i f.to),.d (.i f.til),.d (.i f.size),.d (.i f.mix),.d (.s f.data)],oB 4 31 [.d (.i 0),.d (.b false),.d (.s []),.d (.i 0),.nil]]) ?_ ?_)
 · refine wa [tP 2 2,tP 3 3,tP 4 4,tI 7 (HP0.2:Nat),tD 9 (.s (cF f.size (hF HH0.got ⟨f.mix,f.data⟩)).1),oB 2 31 [.d (.i k.id),.d (.b k.up),.d (.s k.log),.d (.i k.forced),.d (.sl (aP (HP0.1.set HP0.2 (fE HH0 f))))],oB 3 63 [.d (.i f.kind),.d (.i f.src),.d (.i f.dst),.d (.i f.frm),.d (.i f.num),.d (.i f.to),.d (.i f.til),.d (.i f.size),.d (.i f.mix),.d (.s f.data)],oB 4 31 [.d (.i 0),.d (.b false),.d (.s []),.d (.i 0),.nil]] [] [50] ?_ ?_
   · repeat' apply ai
     all_goals first|exact qx|rfl|exact aE _|(rw[aV9];exact aE _)|exact aA D.sl hro.symm|exact qz
   have hl3:=hH2.2
   clear hlg hkb hfh hl1 hH h6 hb hHP hHH hlt hg14 hHd hgH hii hsl hlate hhave hskip hyes hadd hsz hgL hr1 hro hy2 hr2 hok2 hH2 c15 c24 c47 c119 c147
   generalize (HP0.1.set HP0.2 (fE HH0 f))=LL at*
   generalize HP0.2=i0 at*
   refine rD [2,3,4,9] (ai (by simp) (s3 (ai (by exact⟨by rw[aE];exact⟨by first|(simp;done)|(simp;omega),by first|(simp;done)|(simp;omega),by first|(simp;done)|(simp;omega)⟩,mD _⟩) (ai (by exact⟨by first|trivial|rfl|(simp;done),by first|rfl|(simp[aE];done),by first|exact tZ _ _ _|(simp;done),by(try simp only[aVt,aVw,aVx,aV0,aV4,aE,hG,hO,hP,hU]);show _*64≤_;omega⟩) (s4 (ai (by rw[hw7];exact⟨by rw[aE];exact⟨by first|(simp;done)|(simp;omega),by first|(simp;done)|(simp;omega),by first|(simp;done)|(simp;omega)⟩,mD _⟩) (ai (by exact⟨by first|trivial|rfl|(simp;done),by first|rfl|(simp[aE];done),by first|exact tZ _ _ _|(simp;done),by(try simp only[hw7]);(try simp only[aVt,aVw,aVx,aV0,aV4,aE,hG,hO,hP,hU]);show _*64≤_;omega⟩) (s2 (ai (by kernel_rfl) (wq [] [149] (rfl) ?_))))))))))
   repeat' apply ai
   all_goals try exact qx
   all_goals first|with_reducible rfl|rfl|(simp[aE];done)|(rw[hw7,sQ,wR];simp[aP,eG,List.map_take,List.map_drop];done)
 rintro s rfl
 refine sq (rD [2,3,4,11,12] (s9 (s2 (xp (nS (cN f (cF f.size (hF HH0.got ⟨f.mix,f.data⟩)).1) (by have:=pz f.size (hF HH0.got ⟨f.mix,f.data⟩);show(cF f.size (hF HH0.got ⟨f.mix,f.data⟩)).1.length≤_;omega)) (ai rfl ?_)))))
 refine ai (by have:=pG (cN f (cF f.size (hF HH0.got ⟨f.mix,f.data⟩)).1);show _≤9223372036854775807;(try simp only[aVt,aVw,aVx]);omega) (xp (aFd (cC k (eG (HP0.1.set HP0.2 (fE HH0 f)) HP0.2)) (cY dF (cN f (cF f.size (hF HH0.got ⟨f.mix,f.data⟩)).1)) hok2 (by have h9:=wC dF (cN f (cF f.size (hF HH0.got ⟨f.mix,f.data⟩)).1);have h8:dF.length=4:=rfl;omega)) (ai rfl ?_))
 refine s6 (ai (by kernel_rfl) (sq (sq (rT [2,3,4,11,180] (s2 (cd rfl (fun c180=> ?_) fun c180=> ?_))))))
 · have hw: ¬(gS (cC k (eG (HP0.1.set HP0.2 (fE HH0 f)) HP0.2)) (cY dF (cN f (cF f.size (hF HH0.got ⟨f.mix,f.data⟩)).1))).2=true:=pP c180
   have hr:cA k f=((cC k (eG (HP0.1.set HP0.2 (fE HH0 f)) HP0.2)),[]):=hr2.trans (aB hw)
   refine sq (rT [4,5] (s3 (SW.nilOwn 5 700 63 10 rfl rfl (rt ?_))))
   rw[hr]
   refine dO _ [(5,700)] [] rfl (iR rfl (gA (aN rfl (aN rfl (aN rfl (aN rfl (aN rfl bG))))) (kO rfl rfl rfl fA)) (cJ rfl rfl trivial)) rfl rfl
 have hw: (gS (cC k (eG (HP0.1.set HP0.2 (fE HH0 f)) HP0.2)) (cY dF (cN f (cF f.size (hF HH0.got ⟨f.mix,f.data⟩)).1))).2=true:=iS c180
 have hr:cA k f=(jT (gS (cC k (eG (HP0.1.set HP0.2 (fE HH0 f)) HP0.2)) (cY dF (cN f (cF f.size (hF HH0.got ⟨f.mix,f.data⟩)).1))).1,[yA 2 f]):=hr2.trans (aC hw)
 refine sk (sq (rD [4,5] (s1 (xp (fk (gS (cC k (eG (HP0.1.set HP0.2 (fE HH0 f)) HP0.2)) (cY dF (cN f (cF f.size (hF HH0.got ⟨f.mix,f.data⟩)).1))).1 (by have h9:=(kj (k:=(cC k (eG (HP0.1.set HP0.2 (fE HH0 f)) HP0.2))) (rec:=(cY dF (cN f (cF f.size (hF HH0.got ⟨f.mix,f.data⟩)).1))) (by show k.log.length≤_;omega)).1;exact h9)) (ai rfl ?_)))))
 refine s1 (eX (robj:=[]) (rl:=[(0,700)]) (bor:=[]) (nu 2 f) rfl rfl rfl rfl ⟨iG rfl rfl (dS rfl (aN rfl (aN rfl (aN rfl (aN rfl (aN rfl (aN rfl (aN rfl (aN rfl (aN rfl (aN rfl bG)))))))))) trivial),rfl⟩ rfl (.inl rfl) (fun p hp=>nomatch hp) (fun j hj=>by(obtain rfl:j=0:=by simpa[fI,bJ,gB] using hj);rfl) (s2 (ai (by kernel_rfl) (rt ?_))))
 rw[hr]
 refine dO _ [(5,700)] [] rfl (iR rfl (gA (aN rfl (aN rfl (aN rfl (aN rfl (aN rfl bG))))) (kO rfl rfl rfl fA)) (cJ rfl rfl trivial)) rfl rfl
end Go.Proofs.YtmabaopgkimfmaaGreatDoor
namespace Go.Ab
open Int renaming toNat_natCast→aVr
open Nat renaming le_of_ble_eq_true→aVs,zero_le→aVv,le_refl→aVz
open List renaming length_append→aVt,length_cons→aVw,length_nil→aVx,getD_eq_getElem?_getD→aVy,length_take→aV0,getElem?_eq_getElem→aV1,getElem?_eq_some_iff→aV2,take_length→aV3,length_drop→aV4,mem_map→aV5,mem_cons→aV6,range→aV7,all_eq_true→aV8,length_set→aV9,mem_singleton→aWa,replicate→aWb
open Bool renaming and_eq_true→aVu,or_eq_true→aWc
open Go Go.RowKit
set_option linter.unusedVariables false
set_option linter.unusedSimpArgs false
theorem aQl {σ σ':St} {ι ι':Nat→Value} {w:World} {S S':Nat→Prop} {e es:Nat} {rows rows2:List (List D)} {l:List (Value×List (List D))} {p:Value} (h:OR σ ι w S p (.row e es rows)) (hL:uU l rows rows2) (hS: ∀b,S b→S' b) (hf: ∀v g,(v,g)∈l→DR w S' (.sl g) v):OR σ' ι' w S' p (.row e es rows2):=by
 have hd: ∀d d2 u,aL0 l d d2→DR w S d u→DR w S' d2 u:=fun d d2 u hl hdr=>by
  rcases hl with rfl|⟨v,g,hm,rfl,rfl⟩
  · exact DR.mono hS (fun _ _=>rfl) hdr
  · cases hdr with
    |x _ hv=>exact hf _ g hm
 rcases h with⟨rfl,rfl⟩|⟨g,off,cap,cur,fz,rfl,hh,hfz,hc1,hc2,hc3,hrows⟩
 · have h0:rows2=[]:=List.eq_nil_of_length_eq_zero hL.1
   subst h0
   exact .inl ⟨rfl,rfl⟩
 · refine .inr ⟨g,off,cap,cur,fz,by rw[hL.1],hh,hfz,by rw[hL.1];exact hc1,by first|exact hc2|(rw[hL.1];exact hc2),by first|exact hc3|(rw[hL.1];exact hc3),fun i r2 hi=> ?_⟩
   have h1:=(aV2.1 hi).1
   rw[hL.1] at h1
   have hr:rows[i]? =some rows[i]:=aV1 h1
   obtain⟨hlen,hc⟩:=hL.2 i _ r2 hr hi
   obtain⟨q1,q2⟩:=hrows i _ hr
   refine⟨hlen.trans q1,fun k d2 hk=> ?_⟩
   have h3:=(aV2.1 hk).1
   rw[hlen] at h3
   have h2:rows[i][k]? =some rows[i][k]:=aV1 h3
   obtain⟨u,hu,hdr⟩:=q2 k _ h2
   exact⟨u,hu,hd _ _ u (hc k _ d2 h2 hk) hdr⟩
theorem RW.frzFam {P:Program} {cx:Cx P} {σ:St} {ι:Nat→Value} {S:Nat→Prop} {a:Act} {w:World} (hw:RW cx σ ι S a w) {o z es es2:Nat} {e e2:TypeId} {rows rows2:List (List D)} {l:List (Value×List (List D))} (ho:aQ σ (.o o)=some (.row e es rows)) (hz:aQ σ (.o z)=some (.zone (kL e2 es2 l))) (hL:uU l rows rows2):
 RW cx (jN (jN σ (.o z) .dead) (.o o) (.row e es rows2)) ι (fun b=>S b∨sJ (ι z) b) a w:=by
 have hne:z≠o:=fun e=>by rw[e,ho] at hz;cases hz
 have hmo: ∀b,sJ (ι z) b→jL σ ι z b:=fun b hb=>⟨⟨_,hz,trivial⟩,hb⟩
 have hR:aB3 e2 es2 l w S (ι z):=hw.vr.objs z _ hz
 have hf: ∀v g,(v,g)∈l→DR w (fun b=>S b∨sJ (ι z) b) (.sl g) v:=fun v g hm=>
  df (hR.2.1 _ hm) (fun b hb=> .inl hb) (fun b hb2=> .inr ((sL hR).2 ⟨_,hm,(uT (hR.2.1 _ hm)).1 hb2⟩))
 have hlo: ∀q,aQ (jN (jN σ (.o z) .dead) (.o o) (.row e es rows2)) (.o q)=if q=o then some (.row e es rows2) else if q=z then some .dead else aQ σ (.o q):=fun q=>by
  rw[eD,eD]
  by_cases h:q=o
  · subst h;simp
  · rw[aB (by simpa using fun e=>h e.symm),aB h]
    by_cases h2:q=z
    · subst h2;simp
    · rw[aB (by simpa using fun e=>h2 e.symm),aB h2]
 have hmut: ∀q b,jL (jN (jN σ (.o z) .dead) (.o o) (.row e es rows2)) ι q b→q≠z∧jL σ ι q b:=fun q b ⟨⟨k,hk,hl⟩,hb⟩=>by
  rw[hlo] at hk
  by_cases h:q=o
  · subst h
    exact⟨fun e=>hne e.symm,⟨_,ho,trivial⟩,hb⟩
  · rw[aB h] at hk
    by_cases h2:q=z
    · rw[aC h2] at hk;cases hk;exact hl.elim
    · rw[aB h2] at hk;exact⟨h2,⟨k,hk,hl⟩,hb⟩
 have st:oA σ ι S w (jN (jN σ (.o z) .dead) (.o o) (.row e es rows2)) ι (fun b=>S b∨sJ (ι z) b) w:=by
  refine⟨fun b h=> .inl h,fun _ _=>rfl,fun q k hk=> ?_⟩
  by_cases h:q=o
  · subst h
    rw[ho] at hk;cases hk
    exact⟨.row e es rows2,by rw[hlo,aC rfl],rfl,by rw[hL.1];exact aVz _,fun _=>rfl⟩
  · by_cases h2:q=z
    · exact⟨.dead,by rw[hlo,aB h,aC h2],by cases k<;>simp[lB]⟩
    · exact⟨k,by rw[hlo,aB h,aB h2];exact hk,lB.refl' _ _⟩
 refine⟨⟨fun t k hkt=> ?_,fun q k hk=> ?_,fun q b hm hS=> ?_,fun o1 o2 b h1 h2=> ?_,fun b hb=> ?_⟩,hw.size,hw.defers,hw.fr,fun q b hm=>hw.own q b (hmut q b hm).2,fun b hb=> ?_,fun q k hk'=> ?_⟩
 · rw[bZ _ _ (by simp),bZ _ _ (by simp)] at hkt
   exact pR.step st (hw.vr.slots t k hkt)
 · rw[hlo] at hk
   by_cases h:q=o
   · rw[aC h] at hk;cases hk
     subst h
     exact aQl (hw.vr.objs q _ ho) hL (fun b h=> .inl h) hf
   · rw[aB h] at hk
     by_cases h2:q=z
     · rw[aC h2] at hk;cases hk;trivial
     · rw[aB h2] at hk
       exact OR.step st (fun _ _=>rfl) (hw.vr.objs q k hk)
 · obtain⟨hne,hm⟩:=hmut q b hm
   rcases hS with hS|hS
   · exact hw.vr.mutS q b hm hS
   · exact hne (hw.vr.inj q z b hm (hmo b hS))
 · exact hw.vr.inj o1 o2 b (hmut o1 b h1).2 (hmut o2 b h2).2
 · rcases hb with hb|hb
   · exact hw.vr.sz b hb
   · exact OR.lt (hw.vr.objs z _ hz) trivial hb
 · rcases hb with hb|hb
   · exact hw.rd b hb
   · exact .inr (hw.own z b (hmo b hb))
 · obtain⟨k2,q1,q2⟩:=hw.io q k hk'
   by_cases h:q=o
   · subst h
     rw[ho] at q1;cases q1
     refine⟨.row e es rows2,by rw[hlo,aC rfl],?_⟩
     exact lB.trans q2 (⟨rfl,by rw[hL.1];exact aVz _,fun _=>rfl⟩:lB (ι q) (ι q) (.row e es rows) (.row e es rows2))
   · by_cases h2:q=z
     · exact⟨.dead,by rw[hlo,aB h,aC h2],by cases k<;>trivial⟩
     · exact⟨k2,by rw[hlo,aB h,aB h2];exact q1,q2⟩
theorem SW.frzFam {P:Program} {io:List Nat} {Q:Ex→St→Prop} {σ:St} {c:Code} (o z:Nat) {es es2:Nat} {e e2:TypeId} {rows:List (List D)} (rows2:List (List D)) {l:List (Value×List (List D))} (ho:aQ σ (.o o)=some (.row e es rows)) (hz:aQ σ (.o z)=some (.zone (kL e2 es2 l))) (hL:uU l rows rows2)
 (h:iz σ (.o z) .dead fun σ'=>iz σ' (.o o) (.row e es rows2) (SW P io c Q)):SW P io c Q σ:=fun cx ι S a w hio hw hf=>by
 rw[lQ,lQ] at h
 exact h cx _ _ a w hio (hw.frzFam ho hz hL) hf
theorem SpecE.told {P:Program} {f:FuncId} {n:Nat} {σin σ':St} {Qo:St→Prop} (h:SpecE P f n σin Qo) (hq: ∀σout,Qo σout→ ∃rl bor,mL σout σ' rl bor σ'∧ap σ' rl bor=true) (h0:bJ σin=[]):Spec P f n σin σ':=by
 have hno: ∀o k,aQ σin (.o o)=some k→False:=fun o k hk=>by have:=eJ hk;rw[h0] at this;cases this
 refine⟨h.1,fun ι ν S w args hg h1 h2 h3=>lE (fun ex w'=> ?_) (h.2 ι ν S w args hg h1 h2 h3)⟩
 rintro⟨v,ι',S',σout,hQ,rfl,hp⟩
 obtain⟨rl,bor,hm,hm2⟩:=hq σout hQ
 have hM:jX σout σ' rl bor:=⟨hm,hm2⟩
 refine⟨v,fun j=>ι' (iO rl j),pJ σout ι' bor S',rfl,hp.fr,pW hM (fun _ _ h=>h) hp.vr,fun b hb=> ?_,fun o b hmu=> ?_,fun o k k' hk hk'=>(hno o k hk).elim⟩
 · rcases hb with hb|⟨o,_,hb⟩
   · exact hp.rd b hb
   · exact .inr (hp.own o b hb)
 · obtain⟨⟨k',hk',hl'⟩,hb⟩:=hmu
   obtain⟨k,hk,hmk⟩:=hM.ids o k' hk'
   exact hp.own (iO rl o) b ⟨⟨k,hk,(aB6 hmk).1⟩,hb⟩
end Go.Ab
namespace Go.Proofs.YtmabaopgkimfmaaGreatDoor
open Int renaming toNat_natCast→aVr
open Nat renaming le_of_ble_eq_true→aVs,zero_le→aVv,le_refl→aVz
open List renaming length_append→aVt,length_cons→aVw,length_nil→aVx,getD_eq_getElem?_getD→aVy,length_take→aV0,getElem?_eq_getElem→aV1,getElem?_eq_some_iff→aV2,take_length→aV3,length_drop→aV4,mem_map→aV5,mem_cons→aV6,range→aV7,all_eq_true→aV8,length_set→aV9,mem_singleton→aWa,replicate→aWb
open Bool renaming and_eq_true→aVu,or_eq_true→aWc
open Go Go.Ab Go.RowKit
set_option linter.unusedVariables false
set_option linter.unusedSimpArgs false
set_option maxRecDepth 9000
theorem aQm (k:aT) (rec:List UInt8) (hok:bL k=true) (hrec:rec.length≤900000) (R:List (List D)) (Z:qk) (n:Nat):Sp 101 2 [tV 0 (.e (.agg [.d (.i (k).id),.d (.b (k).up),.d (.s (k).log),.d (.i (k).forced),.own 0 n])),tD 1 (.s rec),oR 0 138 6 R,(.o 1,.zone Z)] [tV 0 (.tup [.agg [.d (.i ((gS k rec).1).id),.d (.b ((gS k rec).1).up),.d (.s ((gS k rec).1).log),.d (.i ((gS k rec).1).forced),.own 0 n],.c (.d (.b (gS k rec).2))]),oR 0 138 6 R,(.o 1,.zone Z)]:=by
 have hlg:=fW hok
 have hkb:=vH hok
 have hrs:=qS (k:=(bM k).1)
 have hsk:dN k.log k.forced=true:=(fV hlg.1).2.1
 refine sb Tryz.func101 rfl (sq (rT [1,2,4] (s3 (sq (rT [1,2,4,6] (s5 (xp (nB k.id k.log (by omega)) (ai rfl ?_))))))))
 refine s6 (sq (sq (rT [1,2,4,6,9] (s2 (xp (wY (bM k).1 rec hkb hrec) (ai rfl ?_))))))
 refine s6 (sq (rT [1,2,4,6,30] (s2 (cd rfl (fun c30=> ?_) fun c30=> ?_))))
 · have h1: ¬(bX (bM k).1 rec).2=true:=pP c30
   refine sq (rT [4,5] (s3 (rt ?_)))
   have hr:=ro h1
   rw[hr]
   exact dO _ [] [] rfl (iR rfl (gA (aN rfl (aN rfl (aN rfl (aN rfl (dP rfl rfl rfl bG))))) (jq rfl fA)) (cJ rfl rfl (gH rfl rfl trivial))) rfl rfl
 have h1: (bX (bM k).1 rec).2=true:=iS c30
 refine sk (sq (rT [1,2,4,6,10,11] (s3 (xp (pA k.log k.forced rec (by omega) hrec) (ai rfl ?_)))))
 refine s6 (sq (sq (rT [1,2,4,6,10,11,40] (s2 (cd rfl (fun c40=> ?_) fun c40=> ?_)))))
 · have h2: ¬(bR k.log k.forced rec).2=true:=pP c40
   refine sq (rD [1,2,4,10,12,13] (s3 (xp (bc (bM k).1 hkb) (ai rfl ?_))))
   refine xp (yB k.log k.forced (eA (bM k).1) (by omega) (by omega) (fun r hr=>by have:=hrs.2 r hr;omega)) (ai rfl ?_)
   refine s6 (ai (by kernel_rfl) (sq (sq (rT [1,2,4,10,12,50] (s2 (cd rfl (fun c50=> ?_) fun c50=> ?_))))))
   · have h3: ¬(cV k).2=true:=pP c50
     refine sq (rT [4,5] (s3 (rt ?_)))
     have hr:=ci h1 h2 h3
     rw[hr]
     exact dO _ [] [] rfl (iR rfl (gA (aN rfl (aN rfl (aN rfl (aN rfl (dP rfl rfl rfl bG))))) (jq rfl fA)) (cJ rfl rfl (gH rfl rfl trivial))) rfl rfl
   have h3: (cV k).2=true:=iS c50
   refine sk (rT [2,4,10,11] (s2 (xp (pA (cV k).1.1 (cV k).1.2 rec (zR (by omega)) hrec) (ai rfl ?_))))
   refine s5 (sq (sq (rT [2,4,10,59] (s2 (cd rfl (fun c59=> ?_) fun c59=> ?_)))))
   · refine sq (rT [4,5] (s3 (rt ?_)))
     first
     |exact absurd (c40.symm.trans c59) (by decide)
     |(have hr:=xX h1 h2 h3 (pP c59)
       rw[hr]
       exact dO _ [] [] rfl (iR rfl (gA (aN rfl (aN rfl (aN rfl (aN rfl (dP rfl rfl rfl bG))))) (jq rfl fA)) (cJ rfl rfl (gH rfl rfl trivial))) rfl rfl)
   refine sk (sq (rT [2,4] (s3 (sq (rT [4,5] (s3 (rt ?_)))))))
   first
   |(have hr:=xY h1 h2 h3 (iS c59)
     rw[hr]
     exact dO _ [] [] rfl (iR rfl (gA (aN rfl (aN rfl (aN rfl (aN rfl (dP rfl rfl rfl bG))))) (jq rfl fA)) (cJ rfl rfl (gH rfl rfl trivial))) rfl rfl)
   |(have hr:=lX h1 h2
     rw[hr]
     exact dO _ [] [] rfl (iR rfl (gA (aN rfl (aN rfl (aN rfl (aN rfl (dP rfl rfl rfl bG))))) (jq rfl fA)) (cJ rfl rfl (gH rfl rfl trivial))) rfl rfl)
 have h2: (bR k.log k.forced rec).2=true:=iS c40
 refine sk (sq (sq (rT [2,4,10,59] (s2 (cd rfl (fun c59=> ?_) fun c59=> ?_)))))
 · refine sq (rT [4,5] (s3 (rt ?_)))
   first
   |exact absurd (c40.symm.trans c59) (by decide)
   |(have hr:=xX h1 h2 h3 (pP c59)
     rw[hr]
     exact dO _ [] [] rfl (iR rfl (gA (aN rfl (aN rfl (aN rfl (aN rfl (dP rfl rfl rfl bG))))) (jq rfl fA)) (cJ rfl rfl (gH rfl rfl trivial))) rfl rfl)
 refine sk (sq (rT [2,4] (s3 (sq (rT [4,5] (s3 (rt ?_)))))))
 first
 |(have hr:=xY h1 h2 h3 (iS c59)
   rw[hr]
   exact dO _ [] [] rfl (iR rfl (gA (aN rfl (aN rfl (aN rfl (aN rfl (dP rfl rfl rfl bG))))) (jq rfl fA)) (cJ rfl rfl (gH rfl rfl trivial))) rfl rfl)
 |(have hr:=lX h1 h2
   rw[hr]
   exact dO _ [] [] rfl (iR rfl (gA (aN rfl (aN rfl (aN rfl (aN rfl (dP rfl rfl rfl bG))))) (jq rfl fA)) (cJ rfl rfl (gH rfl rfl trivial))) rfl rfl)
theorem fv (k:aT) (f:bH) (hl:k.log.length≤140737488355328):SpE 43 2 [tV 0 k.V,tV 1 f.V] (fun s=> ∃vs:List Value,vs.length=(aS k f).1.halves.length∧s=[tV 0 (.tup [.agg [.d (.i ((aS k f).1).id),.d (.b ((aS k f).1).up),.d (.s ((aS k f).1).log),.d (.i ((aS k f).1).forced),.own 0 (aS k f).1.halves.length],.c (.own 5 (aS k f).2.length)]),oR 0 138 6 (cI (aS k f).1.halves vs),(.o 1,.zone (kL 86 2 (gI (aS k f).1.halves vs))),oR 5 63 10 (aZ (aS k f).2)]):=by
 refine sbE Tryz.func43 rfl (sq (rT [2,3,4] (s4 (sq (sq (rT [2,3,4,13] (s1 (xp (tG k hl) (ai rfl ?_)))))))))
 refine s1 (cd rfl (fun c13=> ?_) fun c13=> ?_)
 · have hno: ¬bL k=true:=pP c13
   have hr:aS k f=(.zero,[]):=vv hno
   refine sq (rT [4,5] (s3 (SW.nilBox 4 8 4 138 6 rfl rfl rfl (SW.newFam 90 86 2 rfl (SW.nilOwn 5 705 63 10 rfl rfl (rt ?_))))))
   rw[hr]
   refine aq _ ⟨[],rfl,rfl⟩ (dO _ [(0,8),(1,90),(5,705)] [] rfl (iR rfl (gA (aN rfl (aN rfl (aN rfl (aN rfl (dP rfl rfl rfl bG))))) (kO rfl rfl rfl fA)) (cJ rfl rfl (gH rfl rfl (cJ rfl rfl trivial)))) rfl rfl)
 have hok:bL k=true:=iS c13
 have hlg:=fW hok
 have hK:=oL hok
 have h6:=eR (qQ hok)
 have hkb:=vH hok
 have hsk:dN k.log k.forced=true:=(fV hlg.1).2.1
 obtain⟨⟨_,htm,hnx,_⟩,_⟩:=(cG _).1 (qQ hok)
 have hgN:0≤(aW (bM k).1.held f.frm f.num)→(aH (bM k).1.held).getD (aW (bM k).1.held f.frm f.num).toNat []=((bM k).1.held.getD (aW (bM k).1.held f.frm f.num).toNat .zero).row:=fun h9=>aV (by have:=(eT (bM k).1.held f.frm f.num).2;omega)
 refine sk (sq (rE [2,3,4,6] (s1 (qF (robj:=[]) (rl:=[(0,8),(1,90)]) (bor:=[]) (news:=[0,1]) (fp k (⟨by omega,fun x hx=>by have:=hlg.2.2.2.2.2 x hx;omega⟩)) rfl rfl rfl rfl ⟨dS rfl (aN rfl (aN rfl (aN rfl (aN rfl (aN rfl bG))))) trivial,rfl⟩ (by rintro _ ⟨vs,hvs,rfl⟩;exact⟨rfl,.inl rfl,fun j hj=>hj⟩) (fun p hp=>nomatch hp) (fun j hj=>by simp at hj;rcases hj with rfl|rfl<;>rfl) ?_))))
 rintro _ ⟨vs,hvs,rfl⟩
 refine s2 (sq (sq (rT [2,3,4,6,31] (s4 (y1 (xc (fun h=>(wz f)) (ai rfl (ai rk ?_))))))))
 refine y1 (ai pk (s1 (y4 (y1 (ai pk (cd rfl (fun c31=> ?_) fun c31=> ?_))))))
 · have hnot: ¬(k.up&&dV f&&f.dst==k.id)=true:=by
    intro h
    simp only[aVu,beq_iff_eq] at h
    simp[gb,h.1.1,h.1.2,h.2] at c31
   have hr:aS k f=(k,[]):=vw hok hnot
   refine sq (rT [4,5] (s3 (SW.nilOwn 5 705 63 10 rfl rfl (rt ?_))))
   rw[hr]
   refine aq _ ⟨vs,hvs,rfl⟩ (dO _ [(0,8),(1,90),(5,705)] [] rfl (iR rfl (gA (aN rfl (aN rfl (aN rfl (aN rfl (dP rfl rfl rfl bG))))) (kO rfl rfl rfl fA)) (cJ rfl rfl (gH rfl rfl (cJ rfl rfl trivial)))) rfl rfl)
 have hgo: (k.up&&dV f&&f.dst==k.id)=true:=by
  simp[gb] at c31
  simp[c31]
 have hu:k.up=true:=by simp at hgo;exact hgo.1.1
 have hf:dV f=true:=by simp at hgo;exact hgo.1.2
 refine sk (sq (sq (rT [2,3,4,6,34] (s2 (bk (sq (rT [2,3,4,6,34,35] (s2 (cd rfl (fun c35=> ?_) fun c35=> ?_)))))))))
 · have hkd:f.kind=1:=by simpa using c35
   have hhh:=qa hok hu hf hkd
   have hr:aS k f=cA k f:=gy hok hgo hkd
   refine sq (SW.frzFam 8 90 (aP k.halves) rfl rfl (nV _ _ _ (fun _ h=>h)) (rT [4,7,8] (s2 (eX (robj:=[(8,.row 138 6 (aP k.halves))]) (rl:=[(0,8),(5,705)]) (bor:=[]) (aDh k f hok hu hf hkd) rfl rfl rfl rfl ⟨dS rfl (aN rfl (aN rfl (aN rfl (aN rfl (dP rfl rfl rfl bG))))) (dS rfl (aN rfl (aN rfl (aN rfl (aN rfl (aN rfl (aN rfl (aN rfl (aN rfl (aN rfl (aN rfl bG)))))))))) (cJ rfl rfl trivial)),rfl⟩ rfl (.inl rfl) (cH ⟨rfl,trivial⟩) (fun j hj=>by(obtain rfl:j=5:=by simp[fI,bJ,gB] at hj;omega);rfl) (s6 (sq (rE [4,5] (s1 (qF (robj:=[]) (rl:=[(0,81),(1,91)]) (bor:=[]) (news:=[0,1]) (fp (cA k f).1 ⟨by have:=hhh.2;omega,fun x hx=>by have:=aIx hhh.1 x hx;omega⟩) rfl rfl rfl rfl ⟨dS rfl (aN rfl (aN rfl (aN rfl (aN rfl (aN rfl bG))))) trivial,rfl⟩ (by rintro _ ⟨vs,hvs,rfl⟩;exact⟨rfl,.inl rfl,fun j hj=>hj⟩) (fun p hp=>nomatch hp) (fun j hj=>by simp at hj;rcases hj with rfl|rfl<;>rfl) ?_)))))))))
   rintro _ ⟨ws,hws,rfl⟩
   refine s3 (rt ?_)
   rw[hr]
   refine aq _ ⟨ws,hws,rfl⟩ (dO _ [(0,81),(1,91),(5,705)] [] rfl (iR rfl (gA (aN rfl (aN rfl (aN rfl (aN rfl (dP rfl rfl rfl bG))))) (kO rfl rfl rfl fA)) (cJ rfl rfl (gH rfl rfl (cJ rfl rfl trivial)))) rfl rfl)
 have hkd: ¬f.kind=1:=by simpa using c35
 have hfs:=jf hf
 refine sq (rT [2,3,4,6,46] (s2 (cd rfl (fun c46=> ?_) fun c46=> ?_)))
 · have hk2:f.kind=2:=by simpa using c46
   refine sq (rT [3,4,6,9] (s1 (xp (nn k hl) (ai rfl ?_))))
   refine s2 (sq (rT [3,4,6,9,10] (s5 (xp (jK (bM k).1.held f.frm f.num (by have:=h6.1.1;omega)) (ai (by rw[hK];rfl) ?_)))))
   refine s1 (sq (rD [3,4,6,78] (s3 (y2 (ai (fun h=>(by have h8:=h;simp[gb] at h8;have h9:=(eT (bM k).1.held f.frm f.num).2;rw[hK];exact⟨⟨by omega,by rw[aG];omega⟩,by rw[hgN (by omega)];rfl⟩)) (ai rk (y1 (ai (fun h=>(by have h8:=h;simp[gb] at h8;rw[hK,hgN (by omega)];exact⟨aVs rfl,rfl⟩)) (ai rk (y3 (ai pk (s1 (y2 (ai (fun h=>(by have h8:=h;simp[gb] at h8;have h9:=(eT (bM k).1.held f.frm f.num).2;rw[hK];exact⟨⟨by omega,by rw[aG];omega⟩,by rw[hgN (by omega)];rfl⟩)) (ai rk (y1 (ai (fun h=>(by have h8:=h;simp[gb] at h8;rw[hK,hgN (by omega)];exact⟨aVs rfl,rfl⟩)) (ai rk (y3 (ai pk (ai (by kernel_rfl) (cd rfl (fun c78=> ?_) fun c78=> ?_))))))))))))))))))))))
   · have hyes:tL k f=true:=by
      simp only[hK] at c78
      simp only[aVu,aD] at c78
      have h0:0≤(aW (bM k).1.held f.frm f.num):=c78.1.1
      rw[hgN h0] at c78
      simp[xK,bA.row] at c78
      simp[tL,hk2,h0,c78]
     have hr:aS k f=((eI k (qU f) false).1,[]):=vz hok hgo hkd hyes
     have q1:=bP (k:=6) (n:=f.frm.toNat) (by simp;omega)
     have q2:=bP (k:=6) (n:=f.num.toNat) (by simp;omega)
     have q3:=bP (k:=6) (n:=f.til.toNat) (by simp;omega)
     have hll: (qU f).length≤100:=by simp[qU,jE,kV];omega
     refine rD [4,6] (s7 (xp (yC kV f.frm f.num f.til (by have:=hfs;omega) (by decide)) (ai rfl ?_)))
     refine eX (robj:=[(8,.row 138 6 (cI k.halves vs)),(90,.zone (kL 86 2 (gI k.halves vs)))]) (rl:=[(0,8),(1,90)]) (bor:=[]) (aQm k (qU f) hok (by omega) (cI k.halves vs) (kL 86 2 (gI k.halves vs)) k.halves.length) rfl rfl rfl rfl ⟨dS rfl (aN rfl (aN rfl (aN rfl (aN rfl (dP rfl rfl rfl bG))))) (iG rfl rfl (cJ rfl rfl (gH rfl rfl trivial))),rfl⟩ rfl (.inl rfl) (cH ⟨rfl,rfl,trivial⟩) (fun _ hj=>nomatch hj) (s4 (ai (by kernel_rfl) (sq (rT [4,5] (s3 (SW.nilOwn 5 705 63 10 rfl rfl (rt ?_)))))))
     first
     |(rw[hr]
       refine aq _ ⟨vs,hvs,rfl⟩ (dO _ [(0,8),(1,90),(5,705)] [] rfl (iR rfl (gA (aN rfl (aN rfl (aN rfl (aN rfl (dP rfl rfl rfl bG))))) (kO rfl rfl rfl fA)) (cJ rfl rfl (gH rfl rfl (cJ rfl rfl trivial)))) rfl rfl))
     |(have he:=da (k:=k) (f:=f) hlg.2.1
       rw[hr]
       rw[he.1]
       refine aq _ ⟨vs,by rw[he.2];exact hvs,rfl⟩ ?_
       rw[he.2]
       refine dO _ [(0,8),(1,90),(5,705)] [] rfl (iR rfl (gA (aN rfl (aN rfl (aN rfl (aN rfl (dP rfl rfl rfl bG))))) (kO rfl rfl rfl fA)) (cJ rfl rfl (gH rfl rfl (cJ rfl rfl trivial)))) rfl rfl)
   have hno: ¬tL k f=true:=by
    intro h
    simp only[tL,aVu,beq_iff_eq,aD] at h
    simp only[hK] at c78
    rw[hgN h.1.1.2] at c78
    generalize (bM k).1.held.getD (aW (bM k).1.held f.frm f.num).toNat bA.zero=X at h c78
    simp[xK,bA.row,h.1.1.2,h.1.2,h.2] at c78
   have hr:aS k f=(k,[]):=ee hok hgo hkd hno
   refine sk (sq (rT [4,5] (s3 (SW.nilOwn 5 705 63 10 rfl rfl (rt ?_)))))
   first
   |(rw[hr]
     refine aq _ ⟨vs,hvs,rfl⟩ (dO _ [(0,8),(1,90),(5,705)] [] rfl (iR rfl (gA (aN rfl (aN rfl (aN rfl (aN rfl (dP rfl rfl rfl bG))))) (kO rfl rfl rfl fA)) (cJ rfl rfl (gH rfl rfl (cJ rfl rfl trivial)))) rfl rfl))
   |(have he:=da (k:=k) (f:=f) hlg.2.1
     rw[hr]
     rw[he.1]
     refine aq _ ⟨vs,by rw[he.2];exact hvs,rfl⟩ ?_
     rw[he.2]
     refine dO _ [(0,8),(1,90),(5,705)] [] rfl (iR rfl (gA (aN rfl (aN rfl (aN rfl (aN rfl (dP rfl rfl rfl bG))))) (kO rfl rfl rfl fA)) (cJ rfl rfl (gH rfl rfl (cJ rfl rfl trivial)))) rfl rfl)
 have hk2: ¬f.kind=2:=by simpa using c46
 have hno: ¬tL k f=true:=by intro h;simp only[tL,aVu,beq_iff_eq] at h;exact hk2 h.1.1.1
 have hr:aS k f=(k,[]):=ee hok hgo hkd hno
 refine sk (sq (rT [4,5] (s3 (SW.nilOwn 5 705 63 10 rfl rfl (rt ?_)))))
 first
 |(rw[hr]
   refine aq _ ⟨vs,hvs,rfl⟩ (dO _ [(0,8),(1,90),(5,705)] [] rfl (iR rfl (gA (aN rfl (aN rfl (aN rfl (aN rfl (dP rfl rfl rfl bG))))) (kO rfl rfl rfl fA)) (cJ rfl rfl (gH rfl rfl (cJ rfl rfl trivial)))) rfl rfl))
 |(have he:=da (k:=k) (f:=f) hlg.2.1
   rw[hr]
   rw[he.1]
   refine aq _ ⟨vs,by rw[he.2];exact hvs,rfl⟩ ?_
   rw[he.2]
   refine dO _ [(0,8),(1,90),(5,705)] [] rfl (iR rfl (gA (aN rfl (aN rfl (aN rfl (aN rfl (dP rfl rfl rfl bG))))) (kO rfl rfl rfl fA)) (cJ rfl rfl (gH rfl rfl (cJ rfl rfl trivial)))) rfl rfl)
theorem zo {n B:Nat} {r:List D} (h:rH tab B (n+2) 222 r): ∃m:cU,r=m.row∧m.data.length≤B:=by
 obtain⟨hl,hf⟩:=h
 match r,hl with
 | [a0,a1],_=>
 obtain⟨x0,e0,w0⟩:=hf (0,3) (by decide)
 obtain⟨x1,e1,w1⟩:=hf (1,9) (by decide)
 cases e0
 cases e1
 exact⟨⟨x0,x1⟩,rfl,w1⟩
theorem yj {n B:Nat} {r:List D} (h:rH tab B (n+4) 154 r): ∃x:bB,r=x.row∧(x.got.length*24≤B∧ ∀m∈x.got,m.data.length≤B):=by
 obtain⟨hl,hf⟩:=h
 match r,hl with
 | [a0,a1,a2,a3,a4,a5],_=>
 obtain⟨x0,e0,w0⟩:=hf (0,3) (by decide)
 obtain⟨x1,e1,w1⟩:=hf (1,3) (by decide)
 obtain⟨x2,e2,w2⟩:=hf (2,3) (by decide)
 obtain⟨x3,e3,w3⟩:=hf (3,3) (by decide)
 obtain⟨x4,e4,w4⟩:=hf (4,3) (by decide)
 obtain⟨rows,e5,w5,hr⟩:=hf (5,152) (by decide)
 cases e0
 cases e1
 cases e2
 cases e3
 cases e4
 cases e5
 obtain⟨l,rfl,hm⟩:=gp (f:=cU.row) fun r hr'=>zo (hr r hr')
 refine⟨⟨x0,x1,x2,x3,x4,l⟩,rfl,?_,hm⟩
 have w5: (l.map cU.row).length*24≤B:=w5
 simpa using w5
theorem zp {n B:Nat} {ds:List D} (h:rH tab B (n+6) 26 ds): ∃k:aT,ds=k.row∧aT2 B k:=by
 obtain⟨hl,hf⟩:=h
 match ds,hl with
 | [a0,a1,a2,a3,a4],_=>
 obtain⟨x0,e0,w0⟩:=hf (0,3) (by decide)
 obtain⟨x1,e1⟩:=hf (1,4) (by decide)
 obtain⟨_,hs⟩:=hf (2,23) (by decide)
 obtain⟨x2,e2,w2⟩:=hs (0,9) (by decide)
 obtain⟨x3,e3,w3⟩:=hs (1,3) (by decide)
 obtain⟨rows,e4,w4,hr⟩:=hf (4,24) (by decide)
 cases e0
 cases e1
 cases e2
 cases e3
 cases e4
 obtain⟨l,rfl,hg⟩:=gp (f:=bB.row) fun r hr'=>yj (hr r hr')
 refine⟨⟨x0,x1,x2,x3,l⟩,rfl,w2,?_,hg⟩
 have w4: (l.map bB.row).length*64≤B:=w4
 simpa using w4
end Go.Proofs.YtmabaopgkimfmaaGreatDoor
namespace Go.Ab
open Int renaming toNat_natCast→aVr
open Nat renaming le_of_ble_eq_true→aVs,zero_le→aVv,le_refl→aVz
open List renaming length_append→aVt,length_cons→aVw,length_nil→aVx,getD_eq_getElem?_getD→aVy,length_take→aV0,getElem?_eq_getElem→aV1,getElem?_eq_some_iff→aV2,take_length→aV3,length_drop→aV4,mem_map→aV5,mem_cons→aV6,range→aV7,all_eq_true→aV8,length_set→aV9,mem_singleton→aWa,replicate→aWb
open Bool renaming and_eq_true→aVu,or_eq_true→aWc
open Go Go.RowKit
set_option linter.unusedVariables false
set_option linter.unusedSimpArgs false
theorem aI3 {c:Nat}: ∀{l:List bB},(∀x∈l,x.got.length≤c)→ii l≤c*l.length
 | [],_=>by simp[ii]
 |x::r,h=>by
  have h1:=h x (List.mem_cons_self ..)
  have h2:=aI3 (l:=r) fun y hy=>h y (List.mem_cons_of_mem _ hy)
  simp only[ii,aVw,Nat.mul_add]
  omega
theorem aNz {k:aT} (hok:bL k=true):KRB k∧aL k.halves≤1000:=by
 have hlg:=fW hok
 have h1:k.halves.length≤3:=hlg.2.2.2.1
 have h2: ∀x∈k.halves,x.got.length≤14:=hlg.2.2.2.2.2
 have h3:=aI3 h2
 refine⟨⟨by have:=hlg.2.1;omega,by omega,fun x hx=>by have:=h2 x hx;omega⟩,?_⟩
 rw[uJ]
 omega
theorem aN0 (k:aT) (f:bH):KRB (aS k f).1∧aL (aS k f).1.halves≤1000∧(aS k f).2.length≤1:=by
 by_cases hok:bL k=true
 · have h:=aNn (f:=f) hok
   have h1:=aNz h.1.1
   exact⟨h1.1,h1.2,h.2.2⟩
 · rw[vv hok]
   exact⟨⟨aVv _,aVv _,fun x hx=>(nomatch hx)⟩,by simp[aL,aT.zero],aVv _⟩
end Go.Ab
namespace Go.Proofs.YtmabaopgkimfmaaGreatDoor
open Int renaming toNat_natCast→aVr
open Nat renaming le_of_ble_eq_true→aVs,zero_le→aVv,le_refl→aVz
open List renaming length_append→aVt,length_cons→aVw,length_nil→aVx,getD_eq_getElem?_getD→aVy,length_take→aV0,getElem?_eq_getElem→aV1,getElem?_eq_some_iff→aV2,take_length→aV3,length_drop→aV4,mem_map→aV5,mem_cons→aV6,range→aV7,all_eq_true→aV8,length_set→aV9,mem_singleton→aWa,replicate→aWb
open Bool renaming and_eq_true→aVu,or_eq_true→aWc
open Go Go.Ab Go.RowKit
set_option linter.unusedVariables false
set_option linter.unusedSimpArgs false
set_option maxRecDepth 9000
theorem zq (l:List bH) (k:Int) (hk:1≤k) (hc:k+10*(l.length:Int)≤9000000):Sp 45 2 [tO 0 0 (l.length),tI 1 k,oR 0 63 10 (aZ l)] [tI 0 (k+10*(l.length:Nat)),oR 0 63 10 (aZ (jZ cX 10 l k))]:=by
 refine sb Tryz.func45 rfl (sq (rT [0,1] (s1 (sq (sq (rT [0,1,5] (s1 (bk (SW.loopW (n:=l.length) (fun n s=> ∃(i:Nat),n=l.length - i∧i≤l.length∧s=[tO 0 0 (l.length),tI 1 (k+10*(i:Nat)),tI 5 (i:Nat),oR 0 63 10 (aZ (kJ cX 10 l k i))]) ?_ ?_)))))))))
 · refine wq (σ':=[tO 0 0 (l.length),tI 1 (k+10*(0:Nat)),tI 5 (0:Nat),oR 0 63 10 (aZ (kJ cX 10 l k 0))]) [] [] (⟨0,rfl,aVv _,rfl⟩) ?_
   repeat' apply ai
   all_goals first|exact qx|rfl|(refine aA D.i ?_;omega)|(rw[aLd];done)|exact qz
 rintro n s ⟨i,rfl,hi,rfl⟩
 refine sq (sq (rT [0,1,5,9] (s2 (ai (by rw[cE,qj]) (s1 (cd rfl (fun c9=> ?_) fun c9=> ?_))))))
 · have hi2:i<l.length:=by simpa using c9
   have hMl:=qj cX 10 l k i
   have hMi:i< (kJ cX 10 l k i).length:=by rw[hMl];exact hi2
   have hs0: (kJ cX 10 l k i)=(kJ cX 10 l k i).set i (l.getD i .zero):=by rw[← aBw cX 10 .zero l k i hi2,sH]
   have hset: (kJ cX 10 l k i).set i (cX (k+10*(i:Int)))=kJ cX 10 l k (i+1):=aFw cX 10 l k i hi2
   have hat: ∀x:bH,(aZ ((kJ cX 10 l k i).set i x)).getD i []=x.row:=fun x=>aI2 hMi x
   have hln: ∀x:bH,(aZ ((kJ cX 10 l k i).set i x)).length=l.length:=fun x=>aNr hMl x
   refine sk (sq (bk (sq (wa [tO 0 0 (l.length),tI 1 ((k+10*(i:Int))),tI 5 (i:Nat),oR 0 63 10 (aZ ((kJ cX 10 l k i).set i ⟨(l.getD i .zero).kind,(l.getD i .zero).src,(l.getD i .zero).dst,(l.getD i .zero).frm,(l.getD i .zero).num,(l.getD i .zero).to,(l.getD i .zero).til,(l.getD i .zero).size,(l.getD i .zero).mix,(l.getD i .zero).data⟩))] [] [] ?_ ?_))))
   · repeat' apply ai
     all_goals first|exact qx|exact aA D.i (aF (by omega))|(refine aA D.i ?_;rw[aF (by omega)];omega)|exact aA aZ hs0|omega|exact qz
   refine rT [0,1,5] (s3 (ai (by exact⟨hln _,by omega,by omega⟩) (ai (by exact hln _) (ai (by rw[aVr,hat];exact⟨hln _,by omega,rfl,aVs rfl⟩) (sq (wa [tO 0 0 (l.length),tI 1 ((k+10*(i:Int))),tI 5 (i:Nat),oR 0 63 10 (aZ ((kJ cX 10 l k i).set i ⟨(k+10*(i:Int)),(l.getD i .zero).src,(l.getD i .zero).dst,(l.getD i .zero).frm,(l.getD i .zero).num,(l.getD i .zero).to,(l.getD i .zero).til,(l.getD i .zero).size,(l.getD i .zero).mix,(l.getD i .zero).data⟩))] [] [] ?_ ?_))))))
   · repeat' apply ai
     all_goals first|exact qx|exact aA D.i (aF (by omega))|(refine aA D.i ?_;rw[aF (by omega)];omega)|exact aA aZ hs0|(rw[aVr];exact fF hMi (⟨(l.getD i .zero).kind,(l.getD i .zero).src,(l.getD i .zero).dst,(l.getD i .zero).frm,(l.getD i .zero).num,(l.getD i .zero).to,(l.getD i .zero).til,(l.getD i .zero).size,(l.getD i .zero).mix,(l.getD i .zero).data⟩:bH) ⟨(k+10*(i:Int)),(l.getD i .zero).src,(l.getD i .zero).dst,(l.getD i .zero).frm,(l.getD i .zero).num,(l.getD i .zero).to,(l.getD i .zero).til,(l.getD i .zero).size,(l.getD i .zero).mix,(l.getD i .zero).data⟩ rfl)|omega|exact qz
   refine rT [0,1,5] (s3 (sq (wa [tO 0 0 (l.length),tI 1 ((k+10*(i:Int))+1),tI 5 (i:Nat),oR 0 63 10 (aZ ((kJ cX 10 l k i).set i ⟨(k+10*(i:Int)),(l.getD i .zero).src,(l.getD i .zero).dst,(l.getD i .zero).frm,(l.getD i .zero).num,(l.getD i .zero).to,(l.getD i .zero).til,(l.getD i .zero).size,(l.getD i .zero).mix,(l.getD i .zero).data⟩))] [] [] ?_ ?_)))
   · repeat' apply ai
     all_goals first|exact qx|exact aA D.i (aF (by omega))|(refine aA D.i ?_;rw[aF (by omega)];omega)|exact aA aZ hs0|(rw[aVr];exact fF hMi (⟨(l.getD i .zero).kind,(l.getD i .zero).src,(l.getD i .zero).dst,(l.getD i .zero).frm,(l.getD i .zero).num,(l.getD i .zero).to,(l.getD i .zero).til,(l.getD i .zero).size,(l.getD i .zero).mix,(l.getD i .zero).data⟩:bH) ⟨(k+10*(i:Int)),(l.getD i .zero).src,(l.getD i .zero).dst,(l.getD i .zero).frm,(l.getD i .zero).num,(l.getD i .zero).to,(l.getD i .zero).til,(l.getD i .zero).size,(l.getD i .zero).mix,(l.getD i .zero).data⟩ rfl)|omega|exact qz
   refine rT [0,1,5] (s3 (ai (by exact⟨hln _,by omega,by omega⟩) (ai (by exact hln _) (ai (by rw[aVr,hat];exact⟨hln _,by omega,rfl,aVs rfl⟩) (sq (wa [tO 0 0 (l.length),tI 1 ((k+10*(i:Int))+1),tI 5 (i:Nat),oR 0 63 10 (aZ ((kJ cX 10 l k i).set i ⟨(k+10*(i:Int)),(k+10*(i:Int))+1,(l.getD i .zero).dst,(l.getD i .zero).frm,(l.getD i .zero).num,(l.getD i .zero).to,(l.getD i .zero).til,(l.getD i .zero).size,(l.getD i .zero).mix,(l.getD i .zero).data⟩))] [] [] ?_ ?_))))))
   · repeat' apply ai
     all_goals first|exact qx|exact aA D.i (aF (by omega))|(refine aA D.i ?_;rw[aF (by omega)];omega)|exact aA aZ hs0|(rw[aVr];exact fF hMi (⟨(k+10*(i:Int)),(l.getD i .zero).src,(l.getD i .zero).dst,(l.getD i .zero).frm,(l.getD i .zero).num,(l.getD i .zero).to,(l.getD i .zero).til,(l.getD i .zero).size,(l.getD i .zero).mix,(l.getD i .zero).data⟩:bH) ⟨(k+10*(i:Int)),(k+10*(i:Int))+1,(l.getD i .zero).dst,(l.getD i .zero).frm,(l.getD i .zero).num,(l.getD i .zero).to,(l.getD i .zero).til,(l.getD i .zero).size,(l.getD i .zero).mix,(l.getD i .zero).data⟩ rfl)|omega|exact qz
   refine rT [0,1,5] (s3 (sq (wa [tO 0 0 (l.length),tI 1 ((k+10*(i:Int))+2),tI 5 (i:Nat),oR 0 63 10 (aZ ((kJ cX 10 l k i).set i ⟨(k+10*(i:Int)),(k+10*(i:Int))+1,(l.getD i .zero).dst,(l.getD i .zero).frm,(l.getD i .zero).num,(l.getD i .zero).to,(l.getD i .zero).til,(l.getD i .zero).size,(l.getD i .zero).mix,(l.getD i .zero).data⟩))] [] [] ?_ ?_)))
   · repeat' apply ai
     all_goals first|exact qx|exact aA D.i (aF (by omega))|(refine aA D.i ?_;rw[aF (by omega)];omega)|exact aA aZ hs0|(rw[aVr];exact fF hMi (⟨(k+10*(i:Int)),(l.getD i .zero).src,(l.getD i .zero).dst,(l.getD i .zero).frm,(l.getD i .zero).num,(l.getD i .zero).to,(l.getD i .zero).til,(l.getD i .zero).size,(l.getD i .zero).mix,(l.getD i .zero).data⟩:bH) ⟨(k+10*(i:Int)),(k+10*(i:Int))+1,(l.getD i .zero).dst,(l.getD i .zero).frm,(l.getD i .zero).num,(l.getD i .zero).to,(l.getD i .zero).til,(l.getD i .zero).size,(l.getD i .zero).mix,(l.getD i .zero).data⟩ rfl)|omega|exact qz
   refine rT [0,1,5] (s3 (ai (by exact⟨hln _,by omega,by omega⟩) (ai (by exact hln _) (ai (by rw[aVr,hat];exact⟨hln _,by omega,rfl,aVs rfl⟩) (sq (wa [tO 0 0 (l.length),tI 1 ((k+10*(i:Int))+2),tI 5 (i:Nat),oR 0 63 10 (aZ ((kJ cX 10 l k i).set i ⟨(k+10*(i:Int)),(k+10*(i:Int))+1,(k+10*(i:Int))+2,(l.getD i .zero).frm,(l.getD i .zero).num,(l.getD i .zero).to,(l.getD i .zero).til,(l.getD i .zero).size,(l.getD i .zero).mix,(l.getD i .zero).data⟩))] [] [] ?_ ?_))))))
   · repeat' apply ai
     all_goals first|exact qx|exact aA D.i (aF (by omega))|(refine aA D.i ?_;rw[aF (by omega)];omega)|exact aA aZ hs0|(rw[aVr];exact fF hMi (⟨(k+10*(i:Int)),(k+10*(i:Int))+1,(l.getD i .zero).dst,(l.getD i .zero).frm,(l.getD i .zero).num,(l.getD i .zero).to,(l.getD i .zero).til,(l.getD i .zero).size,(l.getD i .zero).mix,(l.getD i .zero).data⟩:bH) ⟨(k+10*(i:Int)),(k+10*(i:Int))+1,(k+10*(i:Int))+2,(l.getD i .zero).frm,(l.getD i .zero).num,(l.getD i .zero).to,(l.getD i .zero).til,(l.getD i .zero).size,(l.getD i .zero).mix,(l.getD i .zero).data⟩ rfl)|omega|exact qz
   refine rT [0,1,5] (s3 (sq (wa [tO 0 0 (l.length),tI 1 ((k+10*(i:Int))+3),tI 5 (i:Nat),oR 0 63 10 (aZ ((kJ cX 10 l k i).set i ⟨(k+10*(i:Int)),(k+10*(i:Int))+1,(k+10*(i:Int))+2,(l.getD i .zero).frm,(l.getD i .zero).num,(l.getD i .zero).to,(l.getD i .zero).til,(l.getD i .zero).size,(l.getD i .zero).mix,(l.getD i .zero).data⟩))] [] [] ?_ ?_)))
   · repeat' apply ai
     all_goals first|exact qx|exact aA D.i (aF (by omega))|(refine aA D.i ?_;rw[aF (by omega)];omega)|exact aA aZ hs0|(rw[aVr];exact fF hMi (⟨(k+10*(i:Int)),(k+10*(i:Int))+1,(l.getD i .zero).dst,(l.getD i .zero).frm,(l.getD i .zero).num,(l.getD i .zero).to,(l.getD i .zero).til,(l.getD i .zero).size,(l.getD i .zero).mix,(l.getD i .zero).data⟩:bH) ⟨(k+10*(i:Int)),(k+10*(i:Int))+1,(k+10*(i:Int))+2,(l.getD i .zero).frm,(l.getD i .zero).num,(l.getD i .zero).to,(l.getD i .zero).til,(l.getD i .zero).size,(l.getD i .zero).mix,(l.getD i .zero).data⟩ rfl)|omega|exact qz
   refine rT [0,1,5] (s3 (ai (by exact⟨hln _,by omega,by omega⟩) (ai (by exact hln _) (ai (by rw[aVr,hat];exact⟨hln _,by omega,rfl,aVs rfl⟩) (sq (wa [tO 0 0 (l.length),tI 1 ((k+10*(i:Int))+3),tI 5 (i:Nat),oR 0 63 10 (aZ ((kJ cX 10 l k i).set i ⟨(k+10*(i:Int)),(k+10*(i:Int))+1,(k+10*(i:Int))+2,(k+10*(i:Int))+3,(l.getD i .zero).num,(l.getD i .zero).to,(l.getD i .zero).til,(l.getD i .zero).size,(l.getD i .zero).mix,(l.getD i .zero).data⟩))] [] [] ?_ ?_))))))
   · repeat' apply ai
     all_goals first|exact qx|exact aA D.i (aF (by omega))|(refine aA D.i ?_;rw[aF (by omega)];omega)|exact aA aZ hs0|(rw[aVr];exact fF hMi (⟨(k+10*(i:Int)),(k+10*(i:Int))+1,(k+10*(i:Int))+2,(l.getD i .zero).frm,(l.getD i .zero).num,(l.getD i .zero).to,(l.getD i .zero).til,(l.getD i .zero).size,(l.getD i .zero).mix,(l.getD i .zero).data⟩:bH) ⟨(k+10*(i:Int)),(k+10*(i:Int))+1,(k+10*(i:Int))+2,(k+10*(i:Int))+3,(l.getD i .zero).num,(l.getD i .zero).to,(l.getD i .zero).til,(l.getD i .zero).size,(l.getD i .zero).mix,(l.getD i .zero).data⟩ rfl)|omega|exact qz
   refine rT [0,1,5] (s3 (sq (wa [tO 0 0 (l.length),tI 1 ((k+10*(i:Int))+4),tI 5 (i:Nat),oR 0 63 10 (aZ ((kJ cX 10 l k i).set i ⟨(k+10*(i:Int)),(k+10*(i:Int))+1,(k+10*(i:Int))+2,(k+10*(i:Int))+3,(l.getD i .zero).num,(l.getD i .zero).to,(l.getD i .zero).til,(l.getD i .zero).size,(l.getD i .zero).mix,(l.getD i .zero).data⟩))] [] [] ?_ ?_)))
   · repeat' apply ai
     all_goals first|exact qx|exact aA D.i (aF (by omega))|(refine aA D.i ?_;rw[aF (by omega)];omega)|exact aA aZ hs0|(rw[aVr];exact fF hMi (⟨(k+10*(i:Int)),(k+10*(i:Int))+1,(k+10*(i:Int))+2,(l.getD i .zero).frm,(l.getD i .zero).num,(l.getD i .zero).to,(l.getD i .zero).til,(l.getD i .zero).size,(l.getD i .zero).mix,(l.getD i .zero).data⟩:bH) ⟨(k+10*(i:Int)),(k+10*(i:Int))+1,(k+10*(i:Int))+2,(k+10*(i:Int))+3,(l.getD i .zero).num,(l.getD i .zero).to,(l.getD i .zero).til,(l.getD i .zero).size,(l.getD i .zero).mix,(l.getD i .zero).data⟩ rfl)|omega|exact qz
   refine rT [0,1,5] (s3 (ai (by exact⟨hln _,by omega,by omega⟩) (ai (by exact hln _) (ai (by rw[aVr,hat];exact⟨hln _,by omega,rfl,aVs rfl⟩) (sq (wa [tO 0 0 (l.length),tI 1 ((k+10*(i:Int))+4),tI 5 (i:Nat),oR 0 63 10 (aZ ((kJ cX 10 l k i).set i ⟨(k+10*(i:Int)),(k+10*(i:Int))+1,(k+10*(i:Int))+2,(k+10*(i:Int))+3,(k+10*(i:Int))+4,(l.getD i .zero).to,(l.getD i .zero).til,(l.getD i .zero).size,(l.getD i .zero).mix,(l.getD i .zero).data⟩))] [] [] ?_ ?_))))))
   · repeat' apply ai
     all_goals first|exact qx|exact aA D.i (aF (by omega))|(refine aA D.i ?_;rw[aF (by omega)];omega)|exact aA aZ hs0|(rw[aVr];exact fF hMi (⟨(k+10*(i:Int)),(k+10*(i:Int))+1,(k+10*(i:Int))+2,(k+10*(i:Int))+3,(l.getD i .zero).num,(l.getD i .zero).to,(l.getD i .zero).til,(l.getD i .zero).size,(l.getD i .zero).mix,(l.getD i .zero).data⟩:bH) ⟨(k+10*(i:Int)),(k+10*(i:Int))+1,(k+10*(i:Int))+2,(k+10*(i:Int))+3,(k+10*(i:Int))+4,(l.getD i .zero).to,(l.getD i .zero).til,(l.getD i .zero).size,(l.getD i .zero).mix,(l.getD i .zero).data⟩ rfl)|omega|exact qz
   refine rT [0,1,5] (s3 (sq (wa [tO 0 0 (l.length),tI 1 ((k+10*(i:Int))+5),tI 5 (i:Nat),oR 0 63 10 (aZ ((kJ cX 10 l k i).set i ⟨(k+10*(i:Int)),(k+10*(i:Int))+1,(k+10*(i:Int))+2,(k+10*(i:Int))+3,(k+10*(i:Int))+4,(l.getD i .zero).to,(l.getD i .zero).til,(l.getD i .zero).size,(l.getD i .zero).mix,(l.getD i .zero).data⟩))] [] [] ?_ ?_)))
   · repeat' apply ai
     all_goals first|exact qx|exact aA D.i (aF (by omega))|(refine aA D.i ?_;rw[aF (by omega)];omega)|exact aA aZ hs0|(rw[aVr];exact fF hMi (⟨(k+10*(i:Int)),(k+10*(i:Int))+1,(k+10*(i:Int))+2,(k+10*(i:Int))+3,(l.getD i .zero).num,(l.getD i .zero).to,(l.getD i .zero).til,(l.getD i .zero).size,(l.getD i .zero).mix,(l.getD i .zero).data⟩:bH) ⟨(k+10*(i:Int)),(k+10*(i:Int))+1,(k+10*(i:Int))+2,(k+10*(i:Int))+3,(k+10*(i:Int))+4,(l.getD i .zero).to,(l.getD i .zero).til,(l.getD i .zero).size,(l.getD i .zero).mix,(l.getD i .zero).data⟩ rfl)|omega|exact qz
   refine rT [0,1,5] (s3 (ai (by exact⟨hln _,by omega,by omega⟩) (ai (by exact hln _) (ai (by rw[aVr,hat];exact⟨hln _,by omega,rfl,aVs rfl⟩) (sq (wa [tO 0 0 (l.length),tI 1 ((k+10*(i:Int))+5),tI 5 (i:Nat),oR 0 63 10 (aZ ((kJ cX 10 l k i).set i ⟨(k+10*(i:Int)),(k+10*(i:Int))+1,(k+10*(i:Int))+2,(k+10*(i:Int))+3,(k+10*(i:Int))+4,(k+10*(i:Int))+5,(l.getD i .zero).til,(l.getD i .zero).size,(l.getD i .zero).mix,(l.getD i .zero).data⟩))] [] [] ?_ ?_))))))
   · repeat' apply ai
     all_goals first|exact qx|exact aA D.i (aF (by omega))|(refine aA D.i ?_;rw[aF (by omega)];omega)|exact aA aZ hs0|(rw[aVr];exact fF hMi (⟨(k+10*(i:Int)),(k+10*(i:Int))+1,(k+10*(i:Int))+2,(k+10*(i:Int))+3,(k+10*(i:Int))+4,(l.getD i .zero).to,(l.getD i .zero).til,(l.getD i .zero).size,(l.getD i .zero).mix,(l.getD i .zero).data⟩:bH) ⟨(k+10*(i:Int)),(k+10*(i:Int))+1,(k+10*(i:Int))+2,(k+10*(i:Int))+3,(k+10*(i:Int))+4,(k+10*(i:Int))+5,(l.getD i .zero).til,(l.getD i .zero).size,(l.getD i .zero).mix,(l.getD i .zero).data⟩ rfl)|omega|exact qz
   refine rT [0,1,5] (s3 (sq (wa [tO 0 0 (l.length),tI 1 ((k+10*(i:Int))+6),tI 5 (i:Nat),oR 0 63 10 (aZ ((kJ cX 10 l k i).set i ⟨(k+10*(i:Int)),(k+10*(i:Int))+1,(k+10*(i:Int))+2,(k+10*(i:Int))+3,(k+10*(i:Int))+4,(k+10*(i:Int))+5,(l.getD i .zero).til,(l.getD i .zero).size,(l.getD i .zero).mix,(l.getD i .zero).data⟩))] [] [] ?_ ?_)))
   · repeat' apply ai
     all_goals first|exact qx|exact aA D.i (aF (by omega))|(refine aA D.i ?_;rw[aF (by omega)];omega)|exact aA aZ hs0|(rw[aVr];exact fF hMi (⟨(k+10*(i:Int)),(k+10*(i:Int))+1,(k+10*(i:Int))+2,(k+10*(i:Int))+3,(k+10*(i:Int))+4,(l.getD i .zero).to,(l.getD i .zero).til,(l.getD i .zero).size,(l.getD i .zero).mix,(l.getD i .zero).data⟩:bH) ⟨(k+10*(i:Int)),(k+10*(i:Int))+1,(k+10*(i:Int))+2,(k+10*(i:Int))+3,(k+10*(i:Int))+4,(k+10*(i:Int))+5,(l.getD i .zero).til,(l.getD i .zero).size,(l.getD i .zero).mix,(l.getD i .zero).data⟩ rfl)|omega|exact qz
   refine rT [0,1,5] (s3 (ai (by exact⟨hln _,by omega,by omega⟩) (ai (by exact hln _) (ai (by rw[aVr,hat];exact⟨hln _,by omega,rfl,aVs rfl⟩) (sq (wa [tO 0 0 (l.length),tI 1 ((k+10*(i:Int))+6),tI 5 (i:Nat),oR 0 63 10 (aZ ((kJ cX 10 l k i).set i ⟨(k+10*(i:Int)),(k+10*(i:Int))+1,(k+10*(i:Int))+2,(k+10*(i:Int))+3,(k+10*(i:Int))+4,(k+10*(i:Int))+5,(k+10*(i:Int))+6,(l.getD i .zero).size,(l.getD i .zero).mix,(l.getD i .zero).data⟩))] [] [] ?_ ?_))))))
   · repeat' apply ai
     all_goals first|exact qx|exact aA D.i (aF (by omega))|(refine aA D.i ?_;rw[aF (by omega)];omega)|exact aA aZ hs0|(rw[aVr];exact fF hMi (⟨(k+10*(i:Int)),(k+10*(i:Int))+1,(k+10*(i:Int))+2,(k+10*(i:Int))+3,(k+10*(i:Int))+4,(k+10*(i:Int))+5,(l.getD i .zero).til,(l.getD i .zero).size,(l.getD i .zero).mix,(l.getD i .zero).data⟩:bH) ⟨(k+10*(i:Int)),(k+10*(i:Int))+1,(k+10*(i:Int))+2,(k+10*(i:Int))+3,(k+10*(i:Int))+4,(k+10*(i:Int))+5,(k+10*(i:Int))+6,(l.getD i .zero).size,(l.getD i .zero).mix,(l.getD i .zero).data⟩ rfl)|omega|exact qz
   refine rT [0,1,5] (s3 (sq (wa [tO 0 0 (l.length),tI 1 ((k+10*(i:Int))+7),tI 5 (i:Nat),oR 0 63 10 (aZ ((kJ cX 10 l k i).set i ⟨(k+10*(i:Int)),(k+10*(i:Int))+1,(k+10*(i:Int))+2,(k+10*(i:Int))+3,(k+10*(i:Int))+4,(k+10*(i:Int))+5,(k+10*(i:Int))+6,(l.getD i .zero).size,(l.getD i .zero).mix,(l.getD i .zero).data⟩))] [] [] ?_ ?_)))
   · repeat' apply ai
     all_goals first|exact qx|exact aA D.i (aF (by omega))|(refine aA D.i ?_;rw[aF (by omega)];omega)|exact aA aZ hs0|(rw[aVr];exact fF hMi (⟨(k+10*(i:Int)),(k+10*(i:Int))+1,(k+10*(i:Int))+2,(k+10*(i:Int))+3,(k+10*(i:Int))+4,(k+10*(i:Int))+5,(l.getD i .zero).til,(l.getD i .zero).size,(l.getD i .zero).mix,(l.getD i .zero).data⟩:bH) ⟨(k+10*(i:Int)),(k+10*(i:Int))+1,(k+10*(i:Int))+2,(k+10*(i:Int))+3,(k+10*(i:Int))+4,(k+10*(i:Int))+5,(k+10*(i:Int))+6,(l.getD i .zero).size,(l.getD i .zero).mix,(l.getD i .zero).data⟩ rfl)|omega|exact qz
   refine rT [0,1,5] (s3 (ai (by exact⟨hln _,by omega,by omega⟩) (ai (by exact hln _) (ai (by rw[aVr,hat];exact⟨hln _,by omega,rfl,aVs rfl⟩) (sq (wa [tO 0 0 (l.length),tI 1 ((k+10*(i:Int))+7),tI 5 (i:Nat),oR 0 63 10 (aZ ((kJ cX 10 l k i).set i ⟨(k+10*(i:Int)),(k+10*(i:Int))+1,(k+10*(i:Int))+2,(k+10*(i:Int))+3,(k+10*(i:Int))+4,(k+10*(i:Int))+5,(k+10*(i:Int))+6,(k+10*(i:Int))+7,(l.getD i .zero).mix,(l.getD i .zero).data⟩))] [] [] ?_ ?_))))))
   · repeat' apply ai
     all_goals first|exact qx|exact aA D.i (aF (by omega))|(refine aA D.i ?_;rw[aF (by omega)];omega)|exact aA aZ hs0|(rw[aVr];exact fF hMi (⟨(k+10*(i:Int)),(k+10*(i:Int))+1,(k+10*(i:Int))+2,(k+10*(i:Int))+3,(k+10*(i:Int))+4,(k+10*(i:Int))+5,(k+10*(i:Int))+6,(l.getD i .zero).size,(l.getD i .zero).mix,(l.getD i .zero).data⟩:bH) ⟨(k+10*(i:Int)),(k+10*(i:Int))+1,(k+10*(i:Int))+2,(k+10*(i:Int))+3,(k+10*(i:Int))+4,(k+10*(i:Int))+5,(k+10*(i:Int))+6,(k+10*(i:Int))+7,(l.getD i .zero).mix,(l.getD i .zero).data⟩ rfl)|omega|exact qz
   refine rT [0,1,5] (s3 (sq (wa [tO 0 0 (l.length),tI 1 ((k+10*(i:Int))+8),tI 5 (i:Nat),oR 0 63 10 (aZ ((kJ cX 10 l k i).set i ⟨(k+10*(i:Int)),(k+10*(i:Int))+1,(k+10*(i:Int))+2,(k+10*(i:Int))+3,(k+10*(i:Int))+4,(k+10*(i:Int))+5,(k+10*(i:Int))+6,(k+10*(i:Int))+7,(l.getD i .zero).mix,(l.getD i .zero).data⟩))] [] [] ?_ ?_)))
   · repeat' apply ai
     all_goals first|exact qx|exact aA D.i (aF (by omega))|(refine aA D.i ?_;rw[aF (by omega)];omega)|exact aA aZ hs0|(rw[aVr];exact fF hMi (⟨(k+10*(i:Int)),(k+10*(i:Int))+1,(k+10*(i:Int))+2,(k+10*(i:Int))+3,(k+10*(i:Int))+4,(k+10*(i:Int))+5,(k+10*(i:Int))+6,(l.getD i .zero).size,(l.getD i .zero).mix,(l.getD i .zero).data⟩:bH) ⟨(k+10*(i:Int)),(k+10*(i:Int))+1,(k+10*(i:Int))+2,(k+10*(i:Int))+3,(k+10*(i:Int))+4,(k+10*(i:Int))+5,(k+10*(i:Int))+6,(k+10*(i:Int))+7,(l.getD i .zero).mix,(l.getD i .zero).data⟩ rfl)|omega|exact qz
   refine rT [0,1,5] (s3 (ai (by exact⟨hln _,by omega,by omega⟩) (ai (by exact hln _) (ai (by rw[aVr,hat];exact⟨hln _,by omega,rfl,aVs rfl⟩) (sq (wa [tO 0 0 (l.length),tI 1 ((k+10*(i:Int))+8),tI 5 (i:Nat),oR 0 63 10 (aZ ((kJ cX 10 l k i).set i ⟨(k+10*(i:Int)),(k+10*(i:Int))+1,(k+10*(i:Int))+2,(k+10*(i:Int))+3,(k+10*(i:Int))+4,(k+10*(i:Int))+5,(k+10*(i:Int))+6,(k+10*(i:Int))+7,(k+10*(i:Int))+8,(l.getD i .zero).data⟩))] [] [] ?_ ?_))))))
   · repeat' apply ai
     all_goals first|exact qx|exact aA D.i (aF (by omega))|(refine aA D.i ?_;rw[aF (by omega)];omega)|exact aA aZ hs0|(rw[aVr];exact fF hMi (⟨(k+10*(i:Int)),(k+10*(i:Int))+1,(k+10*(i:Int))+2,(k+10*(i:Int))+3,(k+10*(i:Int))+4,(k+10*(i:Int))+5,(k+10*(i:Int))+6,(k+10*(i:Int))+7,(l.getD i .zero).mix,(l.getD i .zero).data⟩:bH) ⟨(k+10*(i:Int)),(k+10*(i:Int))+1,(k+10*(i:Int))+2,(k+10*(i:Int))+3,(k+10*(i:Int))+4,(k+10*(i:Int))+5,(k+10*(i:Int))+6,(k+10*(i:Int))+7,(k+10*(i:Int))+8,(l.getD i .zero).data⟩ rfl)|omega|exact qz
   refine rT [0,1,5] (s3 (sq (wa [tO 0 0 (l.length),tI 1 ((k+10*(i:Int))+9),tI 5 (i:Nat),oR 0 63 10 (aZ ((kJ cX 10 l k i).set i ⟨(k+10*(i:Int)),(k+10*(i:Int))+1,(k+10*(i:Int))+2,(k+10*(i:Int))+3,(k+10*(i:Int))+4,(k+10*(i:Int))+5,(k+10*(i:Int))+6,(k+10*(i:Int))+7,(k+10*(i:Int))+8,(l.getD i .zero).data⟩))] [] [] ?_ ?_)))
   · repeat' apply ai
     all_goals first|exact qx|exact aA D.i (aF (by omega))|(refine aA D.i ?_;rw[aF (by omega)];omega)|exact aA aZ hs0|(rw[aVr];exact fF hMi (⟨(k+10*(i:Int)),(k+10*(i:Int))+1,(k+10*(i:Int))+2,(k+10*(i:Int))+3,(k+10*(i:Int))+4,(k+10*(i:Int))+5,(k+10*(i:Int))+6,(k+10*(i:Int))+7,(l.getD i .zero).mix,(l.getD i .zero).data⟩:bH) ⟨(k+10*(i:Int)),(k+10*(i:Int))+1,(k+10*(i:Int))+2,(k+10*(i:Int))+3,(k+10*(i:Int))+4,(k+10*(i:Int))+5,(k+10*(i:Int))+6,(k+10*(i:Int))+7,(k+10*(i:Int))+8,(l.getD i .zero).data⟩ rfl)|omega|exact qz
   refine rT [0,1,5] (s3 (xp (wI _ (by omega)) (ai rfl ?_)))
   refine ai (by exact⟨hln _,by omega,by omega⟩) (ai (by exact hln _) (ai (by rw[aVr,hat];exact⟨hln _,by omega,rfl,aVs rfl⟩) (wa [tO 0 0 (l.length),tI 1 ((k+10*(i:Int))+9),tI 5 (i:Nat),oR 0 63 10 (aZ ((kJ cX 10 l k i).set i ⟨(k+10*(i:Int)),(k+10*(i:Int))+1,(k+10*(i:Int))+2,(k+10*(i:Int))+3,(k+10*(i:Int))+4,(k+10*(i:Int))+5,(k+10*(i:Int))+6,(k+10*(i:Int))+7,(k+10*(i:Int))+8,qG ((k+10*(i:Int))+9)⟩))] [] [] ?_ ?_)))
   · repeat' apply ai
     all_goals first|exact qx|exact aA D.i (aF (by omega))|(refine aA D.i ?_;rw[aF (by omega)];omega)|exact aA aZ hs0|(rw[aVr];exact fF hMi (⟨(k+10*(i:Int)),(k+10*(i:Int))+1,(k+10*(i:Int))+2,(k+10*(i:Int))+3,(k+10*(i:Int))+4,(k+10*(i:Int))+5,(k+10*(i:Int))+6,(k+10*(i:Int))+7,(k+10*(i:Int))+8,(l.getD i .zero).data⟩:bH) ⟨(k+10*(i:Int)),(k+10*(i:Int))+1,(k+10*(i:Int))+2,(k+10*(i:Int))+3,(k+10*(i:Int))+4,(k+10*(i:Int))+5,(k+10*(i:Int))+6,(k+10*(i:Int))+7,(k+10*(i:Int))+8,qG ((k+10*(i:Int))+9)⟩ rfl)|omega|exact qz
   refine rT [0,1,5] (s3 (wa [tO 0 0 (l.length),tI 1 ((k+10*(i:Int))+10),tI 5 (i:Nat),oR 0 63 10 (aZ (kJ cX 10 l k (i+1)))] [] [] ?_ ?_))
   · repeat' apply ai
     all_goals first|exact qx|exact aA D.i (aF (by omega))|(refine aA D.i ?_;rw[aF (by omega)];omega)|exact aA aZ hset|exact qz
   refine rT [0,1,5] (s3 (wq [] [] (⟨l.length - (i+1),by omega,i+1,rfl,by omega,rfl⟩) ?_))
   repeat' apply ai
   all_goals first|exact qx|exact aA D.i (aF (by omega))|(refine aA D.i ?_;(try rw[aF (by omega)]);omega)|exact qz
 refine xt (sq (rT [4] (s2 (rt ?_))))
 have e:i=l.length:=by simp at c9;omega
 subst e
 refine rq [] [] rfl ?_
 repeat' apply ai
 all_goals try exact qx
 all_goals first|with_reducible rfl|(rw[aNq];done)|(simp;done)
theorem fw (l:List bH) (k:Int) (hk:1≤k) (hc:k+10*(l.length:Int)≤9000000):Sp 46 2 [tD 0 (.sl (aZ (jZ cX 10 l k))),tI 1 k] [tI 0 (k+10*(l.length:Nat))]:=by
 refine sb Tryz.func46 rfl (sq (rT [0,1] (s1 (sq (sq (rT [0,1,5] (s1 (bk (SW.loopW (n:=l.length) (fun n s=> ∃(i:Nat),n=l.length - i∧i≤l.length∧s=[tD 0 (.sl (aZ (jZ cX 10 l k))),tI 1 (k+10*(i:Nat)),tI 5 (i:Nat)]) ?_ ?_)))))))))
 · refine wq (σ':=[tD 0 (.sl (aZ (jZ cX 10 l k))),tI 1 (k+10*(0:Nat)),tI 5 (0:Nat)]) [] [] (⟨0,rfl,aVv _,rfl⟩) ?_
   repeat' apply ai
   all_goals first|exact qx|rfl|(refine aA D.i ?_;omega)|exact qz
 rintro n s ⟨i,rfl,hi,rfl⟩
 refine sq (sq (rT [0,1,5,9] (s4 (cd rfl (fun c9=> ?_) fun c9=> ?_))))
 · have hi2:i<l.length:=by simpa[cE,eQ] using c9
   have hgg: (aZ (jZ cX 10 l k)).getD i []=bH.row (cX (k+10*(i:Int))):=by rw[vL (by rw[eQ];exact hi2),yh cX 10 .zero l k i hi2]
   refine sk (sq (bk (sq (sq (rT [0,1,5,18] (s2 (ai (by rw[aVr,hgg];exact⟨⟨by omega,by rw[cE,eQ];omega⟩,rfl⟩) (s1 (ai (by rw[aVr,hgg];exact⟨aVs rfl,rfl⟩) (s2 (cd rfl (fun c18=> ?_) fun c18=> ?_)))))))))))
   · rw[aVr,hgg] at c18
     simp[xK,yk,bH.row,cX] at c18
   refine sk (sq (rT [0,1,5] (s3 (sq (sq (wa [tD 0 (.sl (aZ (jZ cX 10 l k))),tI 1 ((k+10*(i:Int))+1),tI 5 (i:Nat)] [] [] ?_ ?_))))))
   · repeat' apply ai
     all_goals first|exact qx|exact aA D.i (aF (by omega))|(refine aA D.i ?_;(try rw[aF (by omega)]);omega)|exact qz
   refine rT [0,1,5,27] (s2 (ai (by rw[aVr,hgg];exact⟨⟨by omega,by rw[cE,eQ];omega⟩,rfl⟩) (s1 (ai (by rw[aVr,hgg];exact⟨aVs rfl,rfl⟩) (s2 (cd rfl (fun c27=> ?_) fun c27=> ?_))))))
   · rw[aVr,hgg] at c27
     simp[xK,yk,bH.row,cX] at c27
   refine sk (sq (rT [0,1,5] (s3 (sq (sq (wa [tD 0 (.sl (aZ (jZ cX 10 l k))),tI 1 ((k+10*(i:Int))+2),tI 5 (i:Nat)] [] [] ?_ ?_))))))
   · repeat' apply ai
     all_goals first|exact qx|exact aA D.i (aF (by omega))|(refine aA D.i ?_;(try rw[aF (by omega)]);omega)|exact qz
   refine rT [0,1,5,36] (s2 (ai (by rw[aVr,hgg];exact⟨⟨by omega,by rw[cE,eQ];omega⟩,rfl⟩) (s1 (ai (by rw[aVr,hgg];exact⟨aVs rfl,rfl⟩) (s2 (cd rfl (fun c36=> ?_) fun c36=> ?_))))))
   · rw[aVr,hgg] at c36
     simp[xK,yk,bH.row,cX] at c36
   refine sk (sq (rT [0,1,5] (s3 (sq (sq (wa [tD 0 (.sl (aZ (jZ cX 10 l k))),tI 1 ((k+10*(i:Int))+3),tI 5 (i:Nat)] [] [] ?_ ?_))))))
   · repeat' apply ai
     all_goals first|exact qx|exact aA D.i (aF (by omega))|(refine aA D.i ?_;(try rw[aF (by omega)]);omega)|exact qz
   refine rT [0,1,5,45] (s2 (ai (by rw[aVr,hgg];exact⟨⟨by omega,by rw[cE,eQ];omega⟩,rfl⟩) (s1 (ai (by rw[aVr,hgg];exact⟨aVs rfl,rfl⟩) (s2 (cd rfl (fun c45=> ?_) fun c45=> ?_))))))
   · rw[aVr,hgg] at c45
     simp[xK,yk,bH.row,cX] at c45
   refine sk (sq (rT [0,1,5] (s3 (sq (sq (wa [tD 0 (.sl (aZ (jZ cX 10 l k))),tI 1 ((k+10*(i:Int))+4),tI 5 (i:Nat)] [] [] ?_ ?_))))))
   · repeat' apply ai
     all_goals first|exact qx|exact aA D.i (aF (by omega))|(refine aA D.i ?_;(try rw[aF (by omega)]);omega)|exact qz
   refine rT [0,1,5,54] (s2 (ai (by rw[aVr,hgg];exact⟨⟨by omega,by rw[cE,eQ];omega⟩,rfl⟩) (s1 (ai (by rw[aVr,hgg];exact⟨aVs rfl,rfl⟩) (s2 (cd rfl (fun c54=> ?_) fun c54=> ?_))))))
   · rw[aVr,hgg] at c54
     simp[xK,yk,bH.row,cX] at c54
   refine sk (sq (rT [0,1,5] (s3 (sq (sq (wa [tD 0 (.sl (aZ (jZ cX 10 l k))),tI 1 ((k+10*(i:Int))+5),tI 5 (i:Nat)] [] [] ?_ ?_))))))
   · repeat' apply ai
     all_goals first|exact qx|exact aA D.i (aF (by omega))|(refine aA D.i ?_;(try rw[aF (by omega)]);omega)|exact qz
   refine rT [0,1,5,63] (s2 (ai (by rw[aVr,hgg];exact⟨⟨by omega,by rw[cE,eQ];omega⟩,rfl⟩) (s1 (ai (by rw[aVr,hgg];exact⟨aVs rfl,rfl⟩) (s2 (cd rfl (fun c63=> ?_) fun c63=> ?_))))))
   · rw[aVr,hgg] at c63
     simp[xK,yk,bH.row,cX] at c63
   refine sk (sq (rT [0,1,5] (s3 (sq (sq (wa [tD 0 (.sl (aZ (jZ cX 10 l k))),tI 1 ((k+10*(i:Int))+6),tI 5 (i:Nat)] [] [] ?_ ?_))))))
   · repeat' apply ai
     all_goals first|exact qx|exact aA D.i (aF (by omega))|(refine aA D.i ?_;(try rw[aF (by omega)]);omega)|exact qz
   refine rT [0,1,5,72] (s2 (ai (by rw[aVr,hgg];exact⟨⟨by omega,by rw[cE,eQ];omega⟩,rfl⟩) (s1 (ai (by rw[aVr,hgg];exact⟨aVs rfl,rfl⟩) (s2 (cd rfl (fun c72=> ?_) fun c72=> ?_))))))
   · rw[aVr,hgg] at c72
     simp[xK,yk,bH.row,cX] at c72
   refine sk (sq (rT [0,1,5] (s3 (sq (sq (wa [tD 0 (.sl (aZ (jZ cX 10 l k))),tI 1 ((k+10*(i:Int))+7),tI 5 (i:Nat)] [] [] ?_ ?_))))))
   · repeat' apply ai
     all_goals first|exact qx|exact aA D.i (aF (by omega))|(refine aA D.i ?_;(try rw[aF (by omega)]);omega)|exact qz
   refine rT [0,1,5,81] (s2 (ai (by rw[aVr,hgg];exact⟨⟨by omega,by rw[cE,eQ];omega⟩,rfl⟩) (s1 (ai (by rw[aVr,hgg];exact⟨aVs rfl,rfl⟩) (s2 (cd rfl (fun c81=> ?_) fun c81=> ?_))))))
   · rw[aVr,hgg] at c81
     simp[xK,yk,bH.row,cX] at c81
   refine sk (sq (rT [0,1,5] (s3 (sq (sq (wa [tD 0 (.sl (aZ (jZ cX 10 l k))),tI 1 ((k+10*(i:Int))+8),tI 5 (i:Nat)] [] [] ?_ ?_))))))
   · repeat' apply ai
     all_goals first|exact qx|exact aA D.i (aF (by omega))|(refine aA D.i ?_;(try rw[aF (by omega)]);omega)|exact qz
   refine rT [0,1,5,90] (s2 (ai (by rw[aVr,hgg];exact⟨⟨by omega,by rw[cE,eQ];omega⟩,rfl⟩) (s1 (ai (by rw[aVr,hgg];exact⟨aVs rfl,rfl⟩) (s2 (cd rfl (fun c90=> ?_) fun c90=> ?_))))))
   · rw[aVr,hgg] at c90
     simp[xK,yk,bH.row,cX] at c90
   refine sk (sq (rT [0,1,5] (s3 (sq (sq (wa [tD 0 (.sl (aZ (jZ cX 10 l k))),tI 1 ((k+10*(i:Int))+9),tI 5 (i:Nat)] [] [] ?_ ?_))))))
   · repeat' apply ai
     all_goals first|exact qx|exact aA D.i (aF (by omega))|(refine aA D.i ?_;(try rw[aF (by omega)]);omega)|exact qz
   refine rD [0,1,5,100] (s2 (ai (by rw[aVr,hgg];exact⟨⟨by omega,by rw[cE,eQ];omega⟩,rfl⟩) (s1 (ai (by rw[aVr,hgg];exact⟨aVs rfl,rfl⟩) (s1 (xp (wI _ (by omega)) (ai rfl ?_)))))))
   refine s1 (ai (by kernel_rfl) (cd rfl (fun c100=> ?_) fun c100=> ?_))
   · rw[aVr,hgg] at c100
     simp[xK,yk,bH.row,cX] at c100
   refine sk (rT [0,1,5] (s3 (wa [tD 0 (.sl (aZ (jZ cX 10 l k))),tI 1 ((k+10*(i:Int))+10),tI 5 (i:Nat)] [] [] ?_ ?_)))
   · repeat' apply ai
     all_goals first|exact qx|exact aA D.i (aF (by omega))|(refine aA D.i ?_;(try rw[aF (by omega)]);omega)|exact qz
   refine rT [0,1,5] (s3 (wq [] [] (⟨l.length - (i+1),by omega,i+1,rfl,by omega,rfl⟩) ?_))
   repeat' apply ai
   all_goals first|exact qx|exact aA D.i (aF (by omega))|(refine aA D.i ?_;(try rw[aF (by omega)]);omega)|exact qz
 have hi3:i=l.length:=by simp[cE,eQ] at c9;omega
 refine xt (sq (rT [4] (s2 (rt (aU rfl (aA D.i ?_))))))
 rw[hi3]
theorem tK (a b:List bH) (hg:a.length≤1000000):Sp 44 2 [tD 0 (.sl (aZ a)),tD 1 (.sl (aZ b))] [tB 0 (decide (a=b))]:=by
 refine sb Tryz.func44 rfl (sq (rT [0,1] (s1 (sq (sq (rT [0,1,10] (s5 (cd rfl (fun c10=> ?_) fun c10=> ?_))))))))
 · refine sq (rT [4] (s1 (rt (aU rfl (aA D.b ?_)))))
   symm
   apply decide_eq_false
   intro e
   rw[e] at c10
   simp at c10
 have hlen:a.length=b.length:=by simp[cE] at c10;omega
 refine sk (sq (sq (rT [0,1,5] (s1 (bk (SW.loopW (n:=a.length) (fun m q=> ∃i:Nat,m=a.length - i∧i≤a.length∧(∀j,j<i→a.getD j .zero=b.getD j .zero)∧q=[tD 0 (.sl (aZ a)),tD 1 (.sl (aZ b)),tI 5 (i:Nat)]) ?_ ?_))))))
 · exact wq (σ':=[tD 0 (.sl (aZ a)),tD 1 (.sl (aZ b)),tI 5 (0:Nat)]) [] [] (⟨0,rfl,aVv _,fun j h=>absurd h (by omega),rfl⟩) qz
 rintro n s ⟨i,rfl,hi,hk,rfl⟩
 refine sq (sq (rT [0,1,5,14] (s4 (cd rfl (fun c14=> ?_) fun c14=> ?_))))
 · have hi2:i<a.length:=by simpa[cE] using c14
   have hga:=vL (l:=a) hi2
   have hgb:=vL (l:=b) (i:=i) (by omega)
   refine sk (sq (bk (sq (rD [0,1,5,26] (s2 (ai (by rw[aVr,hga];exact⟨⟨by omega,by rw[cE];omega⟩,rfl⟩) (ai (by rw[aVr,hga];exact⟨aVs rfl,rfl⟩) (s2 (ai (by rw[aVr,hgb];exact⟨⟨by omega,by rw[cE];omega⟩,rfl⟩) (ai (by rw[aVr,hgb];exact⟨aVs rfl,rfl⟩) (xp (wo (a.getD i .zero) (b.getD i .zero)) (ai (by rw[aVr,hga,hgb];rfl) ?_))))))))))))
   refine s1 (ai (by kernel_rfl) (cd rfl (fun c26=> ?_) fun c26=> ?_))
   · refine sq (rT [4] (s1 (rt (aU rfl (aA D.b ?_)))))
     exact(decide_eq_false (gr (z:=bH.zero) (j:=i) (by simpa using c26))).symm
   refine sk (rT [0,1,5] (s3 ?_))
   have hs:a.getD i .zero=b.getD i .zero:=by simpa using c26
   refine wq [] [] (⟨a.length - (i+1),by omega,i+1,rfl,by omega,fun j h=>by by_cases e:j=i;exact e▸hs;exact hk j (by omega),rfl⟩) ?_
   repeat' apply ai
   all_goals first|exact qx|exact aA D.i (aF (by omega))|exact qz
 have hi3:i=a.length:=by simp[cE] at c14;omega
 refine xt (sq (rT [4] (s1 (rt (aU rfl (aA D.b ?_))))))
 subst hi3
 exact(decide_eq_true (gq (z:=bH.zero) hlen hk)).symm
theorem aIb (f:bH) (n:Int):SpE 40 2 [tV 0 f.V,tI 1 n] (fun s=> ∃r:Int,s=[tI 0 r]):=by
 refine sbE Tryz.func40 rfl (sq (rT [1,2] (s2 (sq (rT [1] (s6 (sq (sq (rT [1,11] (s2 (cd rfl (fun c11=> ?_) fun c11=> ?_)))))))))))
 · refine sq (rT [4] (s1 (rt (sN _ ⟨_,rfl⟩ (aU rfl rfl)))))
 refine sk (sq (rT [4] (s2 (rt (sN _ ⟨_,rfl⟩ (aU rfl rfl))))))
theorem ij (k:aT) (f:bH) (hl:k.log.length≤140737488355328):Ab.Spec Tryz.prog 43 2 [(.t 0,.v k.V),(.t 1,.v f.V)] [(.t 0,.v (.tup [.agg [.d (.i ((aS k f).1).id),.d (.b ((aS k f).1).up),.d (.s ((aS k f).1).log),.d (.i ((aS k f).1).forced),.d (.sl (aP ((aS k f).1).halves))],.c (.d (.sl (aZ (aS k f).2)))]))]:=
 SpecE.told (fv k f hl) (by
  rintro _ ⟨vs,hvs,rfl⟩
  exact⟨[],[0,1,5],iR rfl (gA (aN rfl (aN rfl (aN rfl (aN rfl (uZ (q:=1) rfl rfl rfl rfl (eH _ _) (nV _ _ _ (fun _ h=>h)) rfl bG))))) (aJ6 rfl rfl (cE _) rfl fA)) trivial,rfl⟩) rfl
theorem zr {X:V} {hs:List bB} {vs:List Value} {l:List bH} {e e2 e3:TypeId} {es es2 es3 a b c:Nat} (hX:mn X=true) (hv:vs.length=hs.length):gU [(.t 0,.v X),(.o a,.row e es (cI hs vs)),(.o b,.zone (kL e2 es2 (gI hs vs))),(.o c,.row e3 es3 (aZ l))]:=by
 intro p hp
 simp only[aV6,List.not_mem_nil,or_false] at hp
 rcases hp with rfl|rfl|rfl|rfl
 · exact ot hX
 · exact qf hs vs hv
 · exact aFk (qg hs vs)
 intro r hr d hd
 obtain⟨m,_,rfl⟩:=aV5.1 hr
 simp only[bH.row,aV6,List.not_mem_nil,or_false] at hd
 rcases hd with rfl|rfl|rfl|rfl|rfl|rfl|rfl|rfl|rfl|rfl<;>trivial
theorem xE (k:aT) (f:bH) (hk:KRW k):Sp 11 2 [tV 0 k.V,tV 1 f.V] [tB 0 true]:=by
 refine sb Tryz.func11 rfl (sq (rT [2,3] (s3 (sq (rT [2,3,5] (s1 (sq (rE [2,3,5] (s2 (qF (rl:=[]) (bor:=[]) (news:=[]) (robj:=[]) (aFu k 1048576 hk ⟨by omega,by omega⟩) rfl rfl rfl rfl (pK rfl) (fun σ hσ=>by obtain⟨r,_,rfl⟩:=hσ;exact⟨rfl,.inl rfl,fun j hj=>by simp[fI,bJ] at hj⟩) (fun p hp=>nomatch hp) (fun j hj=>nomatch hj) ?_))))))))))
 rintro σ ⟨r,hr,rfl⟩
 refine s1 (sq (sq (rT [2,3,5,20] (s2 (cd rfl (fun c20=> ?_) fun c20=> ?_)))))
 · exact sq (rT [4] (s1 (rt (aU rfl rfl))))
 have hc0: ¬r<0:=by simpa using c20
 have hwt:=hr.2 (by omega)
 have hcx:aL k.halves≤5242880:=by rw[uJ];push_cast at hwt;omega
 have hbd:=aN0 k f
 have hn0:=iJ k.halves
 have hn1:=iJ (aS k f).1.halves
 have hcg:=hbd.2.1
 have hll:=hbd.2.2
 refine sk (sq (rE [2,3,5] (s2 (qF (rl:=[]) (bor:=[]) (news:=[]) (robj:=[]) (aIb f r) rfl rfl rfl rfl (pK rfl) (fun σ hσ=>by obtain⟨r,rfl⟩:=hσ;exact⟨rfl,.inl rfl,fun j hj=>by simp[fI,bJ] at hj⟩) (fun p hp=>nomatch hp) (fun j hj=>nomatch hj) ?_))))
 rintro σ ⟨r2,rfl⟩
 refine s1 (sq (sq (rT [2,3,25] (s2 (cd rfl (fun c25=> ?_) fun c25=> ?_)))))
 · exact sq (rT [4] (s1 (rt (aU rfl rfl))))
 refine sk (sq (rD [2,3,6,7] (s1 (xp (tH k (aFo hk)) (ai rfl ?_)))))
 refine s1 (xp (vN f) (ai rfl ?_))
 refine xp (ld k f hk.1) (ai rfl ?_)
 refine s6 (ai (by kernel_rfl) (sq (rE [2,3,6,7,8] (s1 (qF (robj:=[]) (rl:=[(0,60),(1,90)]) (bor:=[]) (news:=[0,1]) (aFs k (aFo hk)) rfl rfl rfl rfl ⟨dS rfl (aN rfl (aN rfl (aN rfl (aN rfl (aN rfl bG))))) trivial,rfl⟩ (by rintro _ ⟨vs,hvs,rfl⟩;exact⟨rfl,.inl rfl,fun j hj=>hj⟩) (fun p hp=>nomatch hp) (fun j hj=>by simp at hj;rcases hj with rfl|rfl<;>rfl) ?_)))))
 rintro _ ⟨xs,hxs,rfl⟩
 refine s2 (sq (SW.regDE kX mo [2,3,6,7,8,9,10] 3 (fun j=>if j=7 then some ([(.o 9,none)],[oB 9 31 [.d (.i 0),.d (.b false),.d (.s []),.d (.i 0),.nil],tP 9 9]) else none) rfl rfl (by kernel_rfl) ?_))
 refine s2 (xp (vN f) (ai rfl ?_))
 refine aPn (robj:=[(60,.row 138 6 (cI k.halves xs)),(90,.zone (kL 86 2 (gI k.halves xs)))]) (rl:=[(0,61),(1,91),(5,705)]) (bor:=[60,90]) (news:=[0,1,5]) (fv k f hk.1) rfl rfl rfl rfl ⟨dS rfl (aN rfl (aN rfl (aN rfl (aN rfl (uZ (q:=90) rfl rfl rfl rfl (eH _ _) (nV _ _ _ (fun _ h=>h)) rfl bG))))) (dS rfl (aN rfl (aN rfl (aN rfl (aN rfl (aN rfl (aN rfl (aN rfl (aN rfl (aN rfl (aN rfl bG)))))))))) trivial),rfl⟩ (by rintro _ ⟨vs,hvs,rfl⟩;exact⟨rfl,.inr (zr rfl hvs),fun j hj=>hj⟩) (cH ⟨rfl,rfl,trivial⟩) (fun j hj=>by simp at hj;rcases hj with rfl|rfl|rfl<;>rfl) ⟨_,aWb (aS k f).1.halves.length undef,List.length_replicate,rfl⟩ ?_
 rintro _ ⟨gs,hgs,rfl⟩
 refine s7 (ai rfl (s4 (ai (by kernel_rfl) (sq (sq (rT [2,3,6,7,8,9,10,52] (s2 (wH (bor:=[61,91]) (robj:=[(61,.row 138 6 (cI ((aS k f).1).halves gs)),(91,.zone (kL 86 2 (gI ((aS k f).1).halves gs)))]) (oX ((aS k f).1) ((aS k f).1) hbd.1) rfl rfl rfl rfl rfl ⟨dS rfl (aN rfl (aN rfl (aN rfl (aN rfl (uZ (q:=91) rfl rfl rfl rfl (eH _ _) (nV _ _ _ (fun _ h=>h)) rfl bG))))) (dS rfl (aN rfl (aN rfl (aN rfl (aN rfl (aN rfl bG))))) trivial),rfl⟩ rfl rfl rfl (cH ⟨rfl,rfl,trivial⟩) ?_))))))))
 refine s2 (y2 (lm (bor:=[705]) (robj:=[(705,.row 63 10 (aZ (aS k f).2))]) (fun h=>tK (aS k f).2 (aS k f).2 (by omega)) rfl rfl rfl rfl rfl ⟨dD rfl rfl rfl (cE _) rfl (iG rfl rfl trivial),rfl⟩ rfl rfl rfl (cH ⟨rfl,trivial⟩) rk ?_))
 refine y1 (ai pk (cd rfl (fun c52=> ?_) fun c52=> ?_))
 · simp[gb] at c52
 refine sk (sq (sq (rD [2,3,6,7,8,9,10,57] (s2 (xp (tH k (aFo hk)) (ai rfl ?_))))))
 refine wH (bor:=[60,90]) (robj:=[(60,.row 138 6 (cI (k).halves xs)),(90,.zone (kL 86 2 (gI (k).halves xs)))]) (oX (k) (k) (aFo hk)) rfl rfl rfl rfl rfl ⟨dS rfl (aN rfl (aN rfl (aN rfl (aN rfl (uZ (q:=90) rfl rfl rfl rfl (eH _ _) (nV _ _ _ (fun _ h=>h)) rfl bG))))) (dS rfl (aN rfl (aN rfl (aN rfl (aN rfl (aN rfl bG))))) trivial),rfl⟩ rfl rfl rfl (cH ⟨rfl,rfl,trivial⟩) ?_
 refine s1 (ai (by kernel_rfl) (cd rfl (fun c57=> ?_) fun c57=> ?_))
 · simp[gb] at c57
 refine sk (sq (rT [2,3,6,7,8,9,10,11] (s1 (sq (rT [2,3,6,7,9,10,11] (s2 (eX (robj:=[(60,.row 138 6 (cI (k).halves xs)),(90,.zone (kL 86 2 (gI (k).halves xs)))]) (rl:=[(0,60),(1,90)]) (bor:=[]) (fq (k).id (k).forced (k).up (k).log (k).halves xs 1 hxs (by omega) (by omega)) rfl rfl rfl rfl ⟨dS rfl (aN rfl (aN rfl (aN rfl (aN rfl (dP rfl rfl rfl bG))))) (iG rfl rfl (cJ rfl rfl (gH rfl rfl trivial))),rfl⟩ rfl (.inl rfl) (cH ⟨rfl,rfl,trivial⟩) (fun _ hj=>nomatch hj) (s1 (sq (sq (rT [2,3,6,7,9,10,74] (s3 (y2 (lm (bor:=[61,91]) (robj:=[(61,.row 138 6 (cI ((aS k f).1).halves gs)),(91,.zone (kL 86 2 (gI ((aS k f).1).halves gs)))]) (fun h=>oX ((aS k f).1) ((aS k f).1) hbd.1) rfl rfl rfl rfl rfl ⟨dS rfl (aN rfl (aN rfl (aN rfl (aN rfl (uZ (q:=91) rfl rfl rfl rfl (eH _ _) (nV _ _ _ (fun _ h=>h)) rfl bG))))) (dS rfl (aN rfl (aN rfl (aN rfl (aN rfl (aN rfl bG))))) trivial),rfl⟩ rfl rfl rfl (cH ⟨rfl,rfl,trivial⟩) rk ?_))))))))))))))
 refine y1 (ai pk (s1 (y2 (lm (bor:=[705]) (robj:=[(705,.row 63 10 (aZ (aS k f).2))]) (fun h=>tK (aS k f).2 (aS k f).2 (by omega)) rfl rfl rfl rfl rfl ⟨dD rfl rfl rfl (cE _) rfl (iG rfl rfl trivial),rfl⟩ rfl rfl rfl (cH ⟨rfl,trivial⟩) rk ?_))))
 refine y1 (ai pk (cd rfl (fun c74=> ?_) fun c74=> ?_))
 · simp[gb] at c74
   omega
 refine sk (sq (rT [2,3,6,7,9,10,12] (s1 (sq (rT [2,3,6,7,9,10,12] (s2 (eX (robj:=[(61,.row 138 6 (cI ((aS k f).1).halves gs)),(91,.zone (kL 86 2 (gI ((aS k f).1).halves gs)))]) (rl:=[(0,61),(1,91)]) (bor:=[]) (fq ((aS k f).1).id ((aS k f).1).forced ((aS k f).1).up ((aS k f).1).log ((aS k f).1).halves gs 1 hgs (by omega) (by omega)) rfl rfl rfl rfl ⟨dS rfl (aN rfl (aN rfl (aN rfl (aN rfl (dP rfl rfl rfl bG))))) (iG rfl rfl (cJ rfl rfl (gH rfl rfl trivial))),rfl⟩ rfl (.inl rfl) (cH ⟨rfl,rfl,trivial⟩) (fun _ hj=>nomatch hj) (s1 (sq (rT [2,3,6,7,9,10,12] (s2 (eX (robj:=[(705,.row 63 10 (aZ (aS k f).2))]) (rl:=[(0,705)]) (bor:=[]) (zq (aS k f).2 (1+aL (aS k f).1.halves) (by omega) (by omega)) rfl rfl rfl rfl ⟨lD rfl rfl rfl rfl (iG rfl rfl (cJ rfl rfl trivial)),rfl⟩ rfl (.inl rfl) (cH ⟨rfl,trivial⟩) (fun _ hj=>nomatch hj) ?_))))))))))))
 refine s1 (sq (rT [2,3,6,7,9,10,12,13] (s1 (sq (rT [2,3,6,7,9,10,12,13] (s2 (wH (bor:=[61,91]) (robj:=[(61,.row 138 6 (cI (cW ((aS k f).1).halves 1) gs)),(91,.zone (kL 86 2 (gI (cW ((aS k f).1).halves 1) gs)))]) (fu ((aS k f).1).id ((aS k f).1).forced ((aS k f).1).up ((aS k f).1).log ((aS k f).1).halves 1 (by omega) (by omega)) rfl rfl rfl rfl rfl ⟨dS rfl (aN rfl (aN rfl (aN rfl (aN rfl (uZ (q:=91) rfl rfl rfl rfl (by rw[eH,dR]) (nV _ _ _ (fun _ h=>h)) rfl bG))))) (iG rfl rfl trivial),rfl⟩ rfl rfl rfl (cH ⟨rfl,rfl,trivial⟩) (s1 (sq (sq (rT [2,3,6,7,9,10,12,13,85] (s2 (cd rfl (fun c85=> ?_) fun c85=> ?_)))))))))))))
 · simp at c85
   omega
 refine sk (sq (rT [2,3,6,7,9,10,12,13] (s2 (wH (bor:=[705]) (robj:=[(705,.row 63 10 (aZ (jZ cX 10 (aS k f).2 (1+aL (aS k f).1.halves))))]) (fw (aS k f).2 (1+aL (aS k f).1.halves) (by omega) (by omega)) rfl rfl rfl rfl rfl ⟨dD rfl rfl rfl (by rw[cE,eQ]) rfl (iG rfl rfl trivial),rfl⟩ rfl rfl rfl (cH ⟨rfl,trivial⟩) (s1 (sq (sq (rT [2,3,6,7,9,10,12,13,90] (s2 (cd rfl (fun c90=> ?_) fun c90=> ?_))))))))))
 · simp at c90
   omega
 refine sk (sq (sq (rT [2,3,6,7,9,10,12,93] (s3 (cd rfl (fun c93=> ?_) fun c93=> ?_)))))
 · simp at c93
 refine sk (sq (rD [6,7,9,10,12,14,15] (s1 (xp (tH k (aFo hk)) (ai rfl ?_)))))
 refine s1 (xp (vN f) (ai rfl ?_))
 refine xp (ij k f hk.1) (ai rfl ?_)
 refine s6 (ai (by kernel_rfl) (sq (sq (rT [9,10,12,111] (s2 (xp (oX ((aS k f).1) ((aS k f).1) hbd.1) (ai rfl ?_)))))))
 refine s2 (y2 (xc (fun h=>(tK (aS k f).2 (aS k f).2 (by omega))) (ai rfl (ai rk ?_))))
 refine y1 (ai pk (cd rfl (fun c111=> ?_) fun c111=> ?_))
 · simp[gb] at c111
 refine sk (sq (rT [9,10,12,13] (s1 (sq (rT [10,12,13] (s2 (wH (bor:=[61,91]) (robj:=[(61,.row 138 6 (cI (cW ((aS k f).1).halves 1) gs)),(91,.zone (kL 86 2 (gI (cW ((aS k f).1).halves 1) gs)))]) (fu ((aS k f).1).id ((aS k f).1).forced ((aS k f).1).up ((aS k f).1).log ((aS k f).1).halves 1 (by omega) (by omega)) rfl rfl rfl rfl rfl ⟨dS rfl (aN rfl (aN rfl (aN rfl (aN rfl (uZ (q:=91) rfl rfl rfl rfl (by rw[eH,dR]) (nV _ _ _ (fun _ h=>h)) rfl bG))))) (iG rfl rfl trivial),rfl⟩ rfl rfl rfl (cH ⟨rfl,rfl,trivial⟩) (s1 (sq (sq (rT [10,12,13,116] (s2 (cd rfl (fun c116=> ?_) fun c116=> ?_)))))))))))))
 · simp at c116
   omega
 refine sk (sq (rT [12,13] (s2 (wH (bor:=[705]) (robj:=[(705,.row 63 10 (aZ (jZ cX 10 (aS k f).2 (1+aL (aS k f).1.halves))))]) (fw (aS k f).2 (1+aL (aS k f).1.halves) (by omega) (by omega)) rfl rfl rfl rfl rfl ⟨dD rfl rfl rfl (by rw[cE,eQ]) rfl (iG rfl rfl trivial),rfl⟩ rfl rfl rfl (cH ⟨rfl,trivial⟩) (s1 (sq (sq (rT [12,13,121] (s2 (cd rfl (fun c121=> ?_) fun c121=> ?_))))))))))
 · simp at c121
   omega
 refine sk (sq (sq (rT [124] (s3 (cd rfl (fun c124=> ?_) fun c124=> ?_)))))
 · simp at c124
 exact sk (sq (rT [4] (s1 (rt (aU rfl rfl)))))
theorem aDi {n B:Nat} {ds:List D} (h:rH tab B (n+2) 58 ds): ∃f:bH,ds=f.row∧True:=by
 obtain⟨hl,hf⟩:=h
 match ds,hl with
 | [a0,a1,a2,a3,a4,a5,a6,a7,a8,a9],_=>
 obtain⟨x0,e0,w0⟩:=hf (0,3) (by decide)
 obtain⟨x1,e1,w1⟩:=hf (1,3) (by decide)
 obtain⟨x2,e2,w2⟩:=hf (2,3) (by decide)
 obtain⟨x3,e3,w3⟩:=hf (3,3) (by decide)
 obtain⟨x4,e4,w4⟩:=hf (4,3) (by decide)
 obtain⟨x5,e5,w5⟩:=hf (5,3) (by decide)
 obtain⟨x6,e6,w6⟩:=hf (6,3) (by decide)
 obtain⟨x7,e7,w7⟩:=hf (7,3) (by decide)
 obtain⟨x8,e8,w8⟩:=hf (8,3) (by decide)
 obtain⟨x9,e9,w9⟩:=hf (9,9) (by decide)
 cases e0
 cases e1
 cases e2
 cases e3
 cases e4
 cases e5
 cases e6
 cases e7
 cases e8
 cases e9
 exact⟨⟨x0,x1,x2,x3,x4,x5,x6,x7,x8,x9⟩,rfl,trivial⟩
end Go.Proofs.YtmabaopgkimfmaaGreatDoor
namespace Go.Ab
open Int renaming toNat_natCast→aVr
open Nat renaming le_of_ble_eq_true→aVs,zero_le→aVv,le_refl→aVz
open List renaming length_append→aVt,length_cons→aVw,length_nil→aVx,getD_eq_getElem?_getD→aVy,length_take→aV0,getElem?_eq_getElem→aV1,getElem?_eq_some_iff→aV2,take_length→aV3,length_drop→aV4,mem_map→aV5,mem_cons→aV6,range→aV7,all_eq_true→aV8,length_set→aV9,mem_singleton→aWa,replicate→aWb
open Bool renaming and_eq_true→aVu,or_eq_true→aWc
open Go Go.RowKit
set_option linter.unusedVariables false
theorem aN1 {P:Program} {w w':World} {name:String} {cs:Array Value} (h:w.var? P name=some cs) (hf:Fr (fun _=>False) w w'):w'.var? P name=some cs:=by
 unfold World.var? at h ⊢
 cases hg:P.globalNamed name with
 |none=>rw[hg] at h;cases h
 |some g=>
  rw[hg] at h
  simp only[Option.bind_some] at h ⊢
  cases hh:w.heap[g]? with
  |none=>rw[hh] at h;cases h
  |some o=>
   have hlt:g<w.heap.size:=(Array.getElem?_eq_some_iff.1 hh).1
   rw[hf.block g hlt (fun h=>h),hh]
   rw[hh] at h
   exact h
theorem aQn {P:Program} {w:World} {name:String} {g:Nat} {cs:Array Value} {t:TypeId} {v:Value} (hg:P.globalNamed name=some g) (hh:w.heap[g]? =some (.cells cs t)) (hs:cs.size=1) (hc:w.cell? ⟨g,0,none⟩=some v):w.var? P name=some #[v]:=by
 have e:cs= #[v]:=by
  have h1:w.cell? ⟨g,0,none⟩=cs[0]?:=by rw[cell_of_row w g 0 cs t (0,0) hh]
  rw[hc] at h1
  apply Array.ext
  · simpa using hs
  · intro i h2 h3
    have:i=0:=by have:i<1:=by simpa using h3
                 omega
    subst this
    rw[Array.getElem?_eq_getElem h2] at h1
    exact(Option.some.inj h1).symm
 subst e
 unfold World.var?
 rw[hg]
 simp only[Option.bind_some]
 rw[hh]
theorem aVq {P:Program} {w:World} (h1:Lib.TabIs P w "internal/strconv.uint64pow10" .u64 Lib.pow10Tab) (h2: ∃m,w.var? P "internal/bytealg.MaxLen" =some #[.int .i64 m]):GB P w fun _=>False:=fun w' hf=>⟨aN1 h1 hf,h2.imp fun m hm=>aN1 hm hf⟩
end Go.Ab
