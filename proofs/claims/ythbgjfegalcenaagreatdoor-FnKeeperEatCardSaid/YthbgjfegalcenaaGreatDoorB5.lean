/- Plain functions, and contracts of the functions that the law reaches. -/
import Derived.Shelf.Vars
import Derived.Stop.LaidErr
import Derived.MakeChecks
import Derived.Test.YthbgjfegalcenaaGreatDoorB4
namespace Go.Proofs.YthbgjfegalcenaaGreatDoor
open Int renaming toNat_natCast→aW6,tmod→aXm
open List renaming length_append→aW7,length_cons→aW9,length_nil→aXa,length_take→aXc,getD_eq_getElem?_getD→aXe,length_drop→aXf,getElem?_eq_getElem→aXg,getElem?_eq_some_iff→aXh,range→aXj,mem_map→aXk,all_eq_true→aXl,take_length→aXn,mem_singleton→aXo,mem_iff_getElem?→aXq,mem_cons→aXr
open Nat renaming le_of_ble_eq_true→aW8,zero_le→aXd,le_refl→aXi,add_mul→aXp
open Bool renaming and_eq_true→aXb
open Go Go.Ab Go.RowKit
set_option linter.unusedVariables false
set_option linter.unusedSimpArgs false
set_option maxRecDepth 9000
set_option maxHeartbeats 6400000 in
theorem ee (l:List UInt8) (hl:l.length≤140737488355328):ui 53 1 [tD 0 (.sl (aA l))] (fun s=> ∃(k:aH) (a b:Int),KQ k∧s=[tV 0 (.tup [.agg [.d (.i (k).id),.d (.b (k).up),.d (.s (k).log),.d (.i (k).forced),.d (.sl (aY (k).halves))],.c (.d (.i (a))),.c (.d (.i (b)))])]):=by
 have hl2: (l.take 2000).length≤2000:=by simp;omega
 refine yv Tryz.func53 rfl (sq (rT [0,2] (s3 (sq (rT [2,5] (s1 (kv [(0,801)] (gr l hl) rfl rfl rfl rfl rfl rfl rfl (fun j hj=>by(obtain rfl:j=0:=by simpa[kN,cD,iO] using hj);rfl) (s1 (sq (rE [2,5,6] (s1 (cP (robj:=[(801,.box 137 [.d (.sl (aA (l.take 2000))),.d (.i (0))])]) (rl:=[]) (bor:=[]) (news:=[800,802,803,804,805,806,807]) (aPt (l.take 2000) (0) 10 (by omega) hl2 (by omega)) rfl rfl rfl rfl ⟨bU rfl rfl rfl rfl (cI rfl rfl (aV rfl (aD rfl (aD rfl aJ)) trivial)),rfl⟩ (by rintro _ ⟨W,q1,hw,rfl⟩;exact⟨rfl,.inl rfl,fun j hj=>hj⟩) (aI ⟨rfl,trivial⟩) (fun j hj=>by simp at hj;rcases hj with rfl|rfl|rfl|rfl|rfl|rfl|rfl<;>rfl) ?_))))))))))))
 rintro _ ⟨W,q1,hw,rfl⟩
 refine s1 (sq (sq (rT [2,5,6,7] (s1 (bk (SW.loopW (n:=3) (fun x s=> ∃(i:Nat) (V:fK) (q:Int),x=3 - i∧(i≤3∧V.of eY (60000+100*i)∧q1≤q∧q≤q1+260*i)∧s=[tP 2 2,tP 5 801,tP 6 800,tI 7 (i:Nat),oB 800 124 [.pt 801 0,.d (.i (V.tm)),.own 802 4,.own 803 3,ps 804 4 (V.a),ps 805 5 (V.b),ps 806 5 (V.c),ps 807 10 (V.d)],oB 801 137 [.d (.sl (aA (l.take 2000))),.d (.i (q))],oR 802 27 5 (aG V.ks),oR 803 4 1 (aM V.ls),(.o 804,aK 210 4 fI),(.o 805,aK 58 5 cJ),(.o 806,aK 58 5 cJ),(.o 807,aK 157 10 jJ),oB 2 27 [.d (.i 0),.d (.b false),.d (.s []),.d (.i 0),.nil]]) ?_ ?_))))))
 · exact wq [] [] (⟨0,W,q1,rfl,⟨by omega,hw.1.le (by omega),by omega,by omega⟩,rfl⟩) qz
 rintro n s ⟨i,V,q,rfl,⟨hi3,hV,hq⟩,rfl⟩
 have hVd:=hV.few
 refine sq (sq (rT [2,5,6,7,20] (s2 (cd rfl (fun c20=> ?_) fun c20=> ?_))))
 · have hi2:i<3:=by simp at c20;omega
   refine sk (sq (bk (sq (rE [2,5,6,7] (s1 (cP (robj:=[(800,.box 124 [.pt 801 0,.d (.i (V.tm)),.own 802 4,.own 803 3,ps 804 4 (V.a),ps 805 5 (V.b),ps 806 5 (V.c),ps 807 10 (V.d)]),(801,.box 137 [.d (.sl (aA (l.take 2000))),.d (.i (q))]),(802,.row 27 5 (aG V.ks)),(803,.row 4 1 (aM V.ls)),(804,aK 210 4 fI),(805,aK 58 5 cJ),(806,aK 58 5 cJ),(807,aK 157 10 jJ)]) (rl:=[]) (bor:=[]) (news:=[]) (fk (l.take 2000) q V 7 0 (by omega) hl2 hV.ok (by have:=hV.few;have h0:eY.d=0:=rfl;omega) (by omega)) rfl rfl rfl rfl ⟨bU rfl rfl rfl rfl (cI rfl rfl (cI rfl rfl (aV rfl (eF rfl rfl rfl (aD rfl (bQ rfl rfl rfl (bQ rfl rfl rfl (bF rfl rfl rfl (bF rfl rfl rfl (bF rfl rfl rfl (bF rfl rfl rfl aJ)))))))) (aV rfl (aD rfl (aD rfl aJ)) (bV rfl rfl (bV rfl rfl (aW rfl rfl (aW rfl rfl (aW rfl rfl (aW rfl rfl trivial)))))))))),rfl⟩ (by rintro _ ⟨W3,q3,hw3,rfl⟩;exact⟨rfl,.inl rfl,fun j hj=>nomatch hj⟩) (aI ⟨rfl,rfl,rfl,rfl,rfl,rfl,rfl,rfl,trivial⟩) (fun j hj=>nomatch hj) ?_))))))
   rintro _ ⟨W3,q3,hw3,rfl⟩
   refine rE [2,5,6,7] (s1 (cP (robj:=[(800,.box 124 [.pt 801 0,.d (.i (W3.tm)),.own 802 4,.own 803 3,ps 804 4 (W3.a),ps 805 5 (W3.b),ps 806 5 (W3.c),ps 807 10 (W3.d)]),(801,.box 137 [.d (.sl (aA (l.take 2000))),.d (.i (q3))]),(802,.row 27 5 (aG W3.ks)),(803,.row 4 1 (aM W3.ls)),(804,aK 210 4 fI),(805,aK 58 5 cJ),(806,aK 58 5 cJ),(807,aK 157 10 jJ)]) (rl:=[]) (bor:=[]) (news:=[]) (fj (l.take 2000) q3 W3 20 0 (by omega) hl2 hw3.1.ok (by have:=hw3.1.few;have:=hV.few;have h0:eY.d=0:=rfl;omega) (by omega)) rfl rfl rfl rfl ⟨bU rfl rfl rfl rfl (cI rfl rfl (cI rfl rfl (aV rfl (eF rfl rfl rfl (aD rfl (bQ rfl rfl rfl (bQ rfl rfl rfl (bF rfl rfl rfl (bF rfl rfl rfl (bF rfl rfl rfl (bF rfl rfl rfl aJ)))))))) (aV rfl (aD rfl (aD rfl aJ)) (bV rfl rfl (bV rfl rfl (aW rfl rfl (aW rfl rfl (aW rfl rfl (aW rfl rfl trivial)))))))))),rfl⟩ (by rintro _ ⟨W4,q4,hw4,rfl⟩;exact⟨rfl,.inl rfl,fun j hj=>nomatch hj⟩) (aI ⟨rfl,rfl,rfl,rfl,rfl,rfl,rfl,rfl,trivial⟩) (fun j hj=>nomatch hj) ?_))
   rintro _ ⟨W4,q4,hw4,rfl⟩
   refine rT [2,5,6,7] (s3 (wq [] [] (⟨3 - (i+1),by omega,i+1,W4,q4,rfl,⟨by omega,(hV.trans (hw3.1.trans hw4.1)).le (by omega),by omega,by omega⟩,rfl⟩) ?_))
   repeat' apply ai
   all_goals first|exact qx|exact congrArg D.i (aB (by omega))|rfl|exact qz
 have hi4:i=3:=by simp at c20;omega
 refine xt (sq (rT [2,5,6,8] (s1 (bK (robj:=[(801,.box 137 [.d (.sl (aA ((l.take 2000)))),.d (.i (q))])]) (rl:=[(0,801)]) (bor:=[]) (cK ((l.take 2000)) (q) _ (by omega) hl2) rfl rfl rfl rfl ⟨bU rfl rfl rfl rfl (cI rfl rfl (aV rfl (aD rfl (aD rfl aJ)) trivial)),rfl⟩ rfl (.inl rfl) (aI ⟨rfl,trivial⟩) (fun _ hj=>nomatch hj) (s1 (sq (sq (rT [2,5,6,8,9] (s1 (bk ?_))))))))))
 have hW:V.ok:=hV.ok
 obtain⟨i0,hi0,hil0⟩:=wO (show 0≤bO (l.take 2000) q 4∧bO (l.take 2000) q 4≤3 by have:=cC (l.take 2000) (p:=q) (n:=4) (by omega) (by omega);omega)
 refine SW.loopW (n:=4) (fun x s=> ∃(m i:Nat) (q9:Int),x=4 - m∧(m≤4∧i<4∧q+1≤q9∧q9≤q+1+m)∧s=[tP 2 2,tP 5 801,tP 6 800,tI 8 (i:Nat),tI 9 (m:Nat),oB 800 124 [.pt 801 0,.d (.i (V.tm)),.own 802 4,.own 803 3,ps 804 4 (V.a),ps 805 5 (V.b),ps 806 5 (V.c),ps 807 10 (V.d)],oB 801 137 [.d (.sl (aA (l.take 2000))),.d (.i (q9))],oR 802 27 5 (aG V.ks),oR 803 4 1 (aM V.ls),(.o 804,aK 210 4 fI),(.o 805,aK 58 5 cJ),(.o 806,aK 58 5 cJ),(.o 807,aK 157 10 jJ),oB 2 27 [.d (.i 0),.d (.b false),.d (.s []),.d (.i 0),.nil]]) ?_ ?_
 · refine wq [] [] (⟨0,i0,q+1,rfl,⟨by omega,hil0,by omega,by omega⟩,rfl⟩) ?_
   repeat' apply ai
   all_goals first|exact qx|exact congrArg D.i hi0|rfl|exact qz
 rintro n s ⟨m,i,q9,rfl,⟨hm,hil,hq9⟩,rfl⟩
 have hsm:=hW.at hil
 refine sq (sq (rT [2,5,6,8,9,30] (s2 (cd rfl (fun c30=> ?_) fun c30=> ?_))))
 · have hm4:m<4:=by simp at c30;omega
   refine sk (sq (bk (sq (rT [2,5,6,8,9,10] (s6 (ai (by exact⟨by rw[bE];exact hW.four,by omega,by omega⟩) (ai (by rw[aW6,bY (by rw[hW.four];omega)];exact⟨⟨by rw[bE];exact hW.four,by omega⟩,aW8 rfl,rfl⟩) (xp (gS (V.ks.getD i .zero) (by have:=hsm.1;omega)) (ai (by rw[aW6,bY (by rw[hW.four];omega)];rfl) ?_)))))))))
   refine s6 (sq (SW.midW (fun s=> ∃(cb:Bool) (q4:Int),(q9≤q4∧q4≤q9+1∧(cb=true→0< (aZ (V.ks.getD i .zero)).1.inbox.length))∧s=[tP 2 2,tP 5 801,tP 6 800,tI 8 (i:Nat),tI 9 (m:Nat),tP 10 10,tB 53 cb,oB 800 124 [.pt 801 0,.d (.i (V.tm)),.own 802 4,.own 803 3,ps 804 4 (V.a),ps 805 5 (V.b),ps 806 5 (V.c),ps 807 10 (V.d)],oB 801 137 [.d (.sl (aA (l.take 2000))),.d (.i (q4))],oR 802 27 5 (aG V.ks),oR 803 4 1 (aM V.ls),(.o 804,aK 210 4 fI),(.o 805,aK 58 5 cJ),(.o 806,aK 58 5 cJ),(.o 807,aK 157 10 jJ),oB 2 27 [.d (.i 0),.d (.b false),.d (.s []),.d (.i 0),.nil],oB 10 32 [.d (.i ((aZ (V.ks.getD i .zero)).1).id),.d (.i ((aZ (V.ks.getD i .zero)).1).time),.d (.i ((aZ (V.ks.getD i .zero)).1).next),.d (.sl (aE ((aZ (V.ks.getD i .zero)).1).held)),.d (.sl (aP ((aZ (V.ks.getD i .zero)).1).marks)),.d (.sl (aE ((aZ (V.ks.getD i .zero)).1).inbox))]]) ?_ ?_))
   · refine rF [2,5,6,8,9,10,53] (s1 (s1 (s1 (s1 (s1 (ai (fun h1=> ?_) (fun h1=> ?_)))))))
     · refine s1 (ai (fun _=> ?_) (fun h=>absurd h (by rw[h1];simp)))
       refine iD (bK (robj:=[(801,.box 137 [.d (.sl (aA ((l.take 2000)))),.d (.i (q9))])]) (rl:=[(0,801)]) (bor:=[]) (cK ((l.take 2000)) (q9) _ (by omega) hl2) rfl rfl rfl rfl ⟨bU rfl rfl rfl rfl (cI rfl rfl (aV rfl (aD rfl (aD rfl aJ)) trivial)),rfl⟩ rfl (.inl rfl) (aI ⟨rfl,trivial⟩) (fun _ hj=>nomatch hj) (ai (fun _=> ?_) (fun h=>absurd h (by rw[h1];simp))))
       refine s1 (ai pk (wq [] [] ⟨?c2,q9+1,⟨by omega,by omega,?e2⟩,rfl⟩ ?_))
       repeat' apply ai
       all_goals try exact qx
       all_goals try rfl
       all_goals(intro _;have h2:=of_decide_eq_true h1;rw[aC] at h2;omega)
     refine⟨I 0,?_⟩
     refine ai (fun h=>absurd h (by rw[h1];simp)) (fun _=>⟨I 0,?_⟩)
     refine ai (fun h=>absurd h (by rw[h1];simp)) (fun _=>⟨B false,?_⟩)
     refine ai (by constructor<;>intro h<;>first|trivial|exact absurd (h1.symm.trans h:false=true) (by decide)) (wq [] [] ⟨?d2,q9,⟨by omega,by omega,?f2⟩,rfl⟩ ?_)
     repeat' apply ai
     all_goals try exact qx
     all_goals try rfl
     all_goals(intro h;simp at h)
   rintro s ⟨cb,q4,hq4,rfl⟩
   refine cd rfl (fun c53=> ?_) fun c53=> ?_
   · have hn0:=hq4.2.2 c53
     obtain⟨j,hj,hjl⟩: ∃j:Nat,bO (l.take 2000) q4 ((aE (aZ (V.ks.getD i .zero)).1.inbox).length:Int)=(j:Int)∧j< (aZ (V.ks.getD i .zero)).1.inbox.length:=by have:=cC (l.take 2000) (p:=q4) (n:=((aE (aZ (V.ks.getD i .zero)).1.inbox).length:Int)) (by omega) (by rw[aC];omega);rw[aC] at *; exact⟨(bO (l.take 2000) q4 ((aZ (V.ks.getD i .zero)).1.inbox.length:Int)).toNat,by omega,by omega⟩
     refine sq (rD [2,5,6,8,12] (s6 (bK (robj:=[(801,.box 137 [.d (.sl (aA ((l.take 2000)))),.d (.i (q4))])]) (rl:=[(0,801)]) (bor:=[]) (cK ((l.take 2000)) (q4) _ (by omega) hl2) rfl rfl rfl rfl ⟨bU rfl rfl rfl rfl (cI rfl rfl (aV rfl (aD rfl (aD rfl aJ)) trivial)),rfl⟩ rfl (.inl rfl) (aI ⟨rfl,trivial⟩) (fun _ hj=>nomatch hj) (ai (by rw[hj,aW6,aQ hjl];exact⟨⟨by omega,by rw[aC];omega⟩,rfl⟩) (ai (by rw[hj,aW6,aQ hjl];exact⟨aW8 rfl,rfl⟩) (s2 (ai (by kernel_rfl) (sq (wa [tP 2 2,tP 5 801,tP 6 800,tI 8 (i:Nat),tP 12 12,oB 800 124 [.pt 801 0,.d (.i (V.tm)),.own 802 4,.own 803 3,ps 804 4 (V.a),ps 805 5 (V.b),ps 806 5 (V.c),ps 807 10 (V.d)],oB 801 137 [.d (.sl (aA (l.take 2000))),.d (.i (q4+1))],oR 802 27 5 (aG V.ks),oR 803 4 1 (aM V.ls),(.o 804,aK 210 4 fI),(.o 805,aK 58 5 cJ),(.o 806,aK 58 5 cJ),(.o 807,aK 157 10 jJ),oB 2 27 [.d (.i 0),.d (.b false),.d (.s []),.d (.i 0),.nil],oB 12 58 [.d (.i ((aZ (V.ks.getD i .zero)).1.inbox.getD j .zero).frm),.d (.i ((aZ (V.ks.getD i .zero)).1.inbox.getD j .zero).num),.d (.i ((aZ (V.ks.getD i .zero)).1.inbox.getD j .zero).to),.d (.i ((aZ (V.ks.getD i .zero)).1.inbox.getD j .zero).til),.d (.s ((aZ (V.ks.getD i .zero)).1.inbox.getD j .zero).text)]] [] [] ?_ ?_)))))))))
     · repeat' apply ai
       all_goals first|exact qx|(rw[hj,aW6,aQ hjl];rfl)|rfl|exact qz
     refine rD [2,3,4] (s6 (ai (by exact⟨by rw[bE];exact hW.four,by omega,by omega⟩) (ai (by rw[aW6,bY (by rw[hW.four];omega)];exact⟨⟨by rw[bE];exact hW.four,by omega⟩,aW8 rfl,rfl⟩) (s5 (bK (robj:=[(801,.box 137 [.d (.sl (aA ((l.take 2000)))),.d (.i (q4+1))])]) (rl:=[(0,801)]) (bor:=[]) (cK ((l.take 2000)) (q4+1) _ (by omega) hl2) rfl rfl rfl rfl ⟨bU rfl rfl rfl rfl (cI rfl rfl (aV rfl (aD rfl (aD rfl aJ)) trivial)),rfl⟩ rfl (.inl rfl) (aI ⟨rfl,trivial⟩) (fun _ hj=>nomatch hj) (ai (by decide) (s4 (ai (by kernel_rfl) (rt (cW [tV 0 (.tup [.agg [.d (.i ((V.ks.getD i .zero)).id),.d (.b ((V.ks.getD i .zero)).up),.d (.s ((V.ks.getD i .zero)).log),.d (.i ((V.ks.getD i .zero)).forced),.d (.sl (aY ((V.ks.getD i .zero)).halves))],.c (.d (.i (((aZ (V.ks.getD i .zero)).1.inbox.getD j .zero).frm))),.c (.d (.i (wrap64 (((aZ (V.ks.getD i .zero)).1.inbox.getD j .zero).num+wrap64 (Int.tdiv (bO (l.take 2000) (q4+1) 8) 7)))))])] ⟨(V.ks.getD i .zero),((aZ (V.ks.getD i .zero)).1.inbox.getD j .zero).frm,wrap64 (((aZ (V.ks.getD i .zero)).1.inbox.getD j .zero).num+wrap64 (Int.tdiv (bO (l.take 2000) (q4+1) 8) 7)),hsm.kq,rfl⟩ ?_))))))))))
     refine rq [] [] rfl ?_
     repeat' apply ai
     all_goals try exact qx
     all_goals first|with_reducible rfl|(rw[aW6,bY (by rw[hW.four];omega)];rfl)|rfl
   refine sk (rT [2,5,6,8,9] (s2 (ai (by decide) (s1 (rT [2,5,6,8,9] (s3 (wq [] [] (⟨4 - (m+1),by omega,m+1,(i+1) % 4,q4,rfl,⟨by omega,by omega,by omega,by omega⟩,rfl⟩) ?_)))))))
   repeat' apply ai
   all_goals first|exact qx|(refine congrArg D.i ?_;rw[aB (by omega)];omega)|(refine congrArg D.i ?_;rw[aB (n:=(i:Int)+1) (by omega),Int.tmod_eq_emod_of_nonneg (by omega)];omega)|exact qz
 refine xt (sq (wa [tP 2 2,tP 5 801,oB 801 137 [.d (.sl (aA (l.take 2000))),.d (.i (q9))],oB 2 27 [.d (.i 0),.d (.b false),.d (.s []),.d (.i 0),.nil]] [] [] qz (rE [2,5,14] (s1 (cP (robj:=[(801,.box 137 [.d (.sl (aA (l.take 2000))),.d (.i (q9))])]) (rl:=[]) (bor:=[]) (news:=[802,803,804,805,806]) (yP (l.take 2000) (q9) (by omega) hl2) rfl rfl rfl rfl ⟨bU rfl rfl rfl rfl (aV rfl (aD rfl (aD rfl aJ)) trivial),rfl⟩ (by rintro _ ⟨W2,k,q2,hw2,rfl⟩;exact⟨rfl,.inl rfl,fun j hj=>hj⟩) (aI ⟨rfl,trivial⟩) (fun j hj=>by simp at hj;rcases hj with rfl|rfl|rfl|rfl|rfl<;>rfl) ?_)))))
 rintro _ ⟨W2,k,q2,hw2,rfl⟩
 have hkq:=hw2.2.1
 have hkl:=hkq.1
 refine s7 (sq (rD [2,3,4] (s2 (bK (robj:=[(801,.box 137 [.d (.sl (aA ((l.take 2000)))),.d (.i (q2))])]) (rl:=[(0,801)]) (bor:=[]) (cK ((l.take 2000)) (q2) _ (by omega) hl2) rfl rfl rfl rfl ⟨bU rfl rfl rfl rfl (cI rfl rfl (aV rfl (aD rfl (aD rfl aJ)) trivial)),rfl⟩ rfl (.inl rfl) (aI ⟨rfl,trivial⟩) (fun _ hj=>nomatch hj) (s1 (bK (robj:=[(801,.box 137 [.d (.sl (aA ((l.take 2000)))),.d (.i (q2+1))])]) (rl:=[(0,801)]) (bor:=[]) (cK ((l.take 2000)) (q2+1) _ (by omega) hl2) rfl rfl rfl rfl ⟨bU rfl rfl rfl rfl (cI rfl rfl (aV rfl (aD rfl (aD rfl aJ)) trivial)),rfl⟩ rfl (.inl rfl) (aI ⟨rfl,trivial⟩) (fun _ hj=>nomatch hj) (s4 (ai (by kernel_rfl) (rt (cW [tV 0 (.tup [.agg [.d (.i (k).id),.d (.b (k).up),.d (.s (k).log),.d (.i (k).forced),.d (.sl (aY (k).halves))],.c (.d (.i (bO (l.take 2000) q2 4))),.c (.d (.i (wrap64 (1+bO (l.take 2000) (q2+1) 3))))])] ⟨k,bO (l.take 2000) q2 4,wrap64 (1+bO (l.take 2000) (q2+1) 3),hkq,rfl⟩ ?_))))))))))
 exact rq [] [] rfl qz
set_option maxHeartbeats 3200000 in
theorem jq (l m:List UInt8) (hl:l.length≤140737488355328) (hm:m.length≤140737488355328):Sp 8 2 [tD 0 (.sl (aA l)),tD 1 (.sl (aA m))] [tB 0 true]:=by
 refine sb Tryz.func8 rfl (sq (rT [0,1] (s1 (sq (sq (rT [0,1,23] (s4 (y3 (ai pk (cd rfl (fun c23=> ?_) fun c23=> ?_))))))))))
 · refine sq (rT [4] (s1 (rt (bN rfl ?_))))
   rfl
 refine sk (sq (rE [1,5,6,7,8] (s1 (cP (robj:=[]) (rl:=[]) (bor:=[]) (news:=[]) (tK l hl) rfl rfl rfl rfl ⟨cI rfl rfl trivial,rfl⟩ (by rintro _ ⟨k,n1,⟨hkq,hnd⟩,rfl⟩;exact⟨rfl,.inl rfl,fun j hj=>nomatch hj⟩) (fun p hp=>nomatch hp) (fun j hj=>nomatch hj) ?_))))
 rintro _ ⟨k,n1,⟨hkq,hnd⟩,rfl⟩
 have hg:=hkq.kg
 have hkl:=hkq.1
 have hkb:=jp k
 have hgo:=hg.own n1.to n1.til n1.text
 have hnt:=hnd.2
 refine s9 (s1 (sq (rT [1,5,6,7,8,9,10] (s4 (xp (sG k n1.to n1.til n1.text hg.log (by omega)) (ai rfl ?_))))))
 refine s6 (sq (rT [1,6,7,9,10,11,12] (s4 (xp (sF k n1.to n1.til n1.text hg.log (by omega)) (ai rfl ?_)))))
 refine s6 (sq (sq (rT [1,6,7,9,10,11,12,59] (s4 (y2 (xc (fun h=>lB (bD k n1.to n1.til n1.text).1 hgo.hal) (ai rfl (ai rk ?_))))))))
 refine y1 (ai pk (s1 (y2 (ai pk (cd rfl (fun c59=> ?_) fun c59=> ?_)))))
 · refine sq (rT [4] (s4 (y2 (xc (fun h=>lB (bD k n1.to n1.til n1.text).1 hgo.hal) (ai rfl (ai rk ?_))))))
   refine ai pk (s1 (rt (bN rfl (congrArg D.b ?_))))
   simp[gb]
 have hne: (bD k n1.to n1.til n1.text).2≠0:=by simpa[gb] using c59
 have hok:=aVg hne
 have hlaw:=aR8 (tx2:=[97,110,111,116,104,101,114,32,116,101,120,116]) hok hne (aXm (((aA m).length:Nat):Int) 50)
 refine sk (sq (rT [6,7,12,13] (s3 (ai (by decide) (xp (wR (bD k n1.to n1.til n1.text).1 (aXm (((aA m).length:Nat):Int) 50) hgo.log) (ai rfl ?_))))))
 refine xp (wS (dM (bD k n1.to n1.til n1.text).1 (aXm (((aA m).length:Nat):Int) 50)) (hgo.fall _).log) (ai rfl ?_)
 refine s2 (sq (rT [12,15] (s3 (xp (sF (dP (dM (bD k n1.to n1.til n1.text).1 (aXm (((aA m).length:Nat):Int) 50))) n1.to n1.til [97,110,111,116,104,101,114,32,116,101,120,116] (hgo.fall _).rise.log (by simp)) (ai rfl ?_)))))
 refine s6 (sq (rT [4] (s3 (y3 (ai pk (s1 (rt (bN rfl (congrArg D.b ?_)))))))))
 rcases hlaw with h|h<;>simp[gb,h]
set_option maxHeartbeats 3200000 in
theorem jr (l:List UInt8) (hl:l.length≤140737488355328):Sp 10 1 [tD 0 (.sl (aA l))] [tB 0 true]:=by
 refine sb Tryz.func10 rfl (sq (rT [0] (s1 (sq (sq (rT [0,16] (s3 (cd rfl (fun c16=> ?_) fun c16=> ?_))))))))
 · refine sq (rT [2] (s1 (rt (bN rfl ?_))))
   rfl
 refine sk (sq (rE [3,4,5,6] (s1 (cP (robj:=[]) (rl:=[]) (bor:=[]) (news:=[]) (tK l hl) rfl rfl rfl rfl ⟨cI rfl rfl trivial,rfl⟩ (by rintro _ ⟨k,n1,⟨hkq,hnd⟩,rfl⟩;exact⟨rfl,.inl rfl,fun j hj=>nomatch hj⟩) (fun p hp=>nomatch hp) (fun j hj=>nomatch hj) ?_))))
 rintro _ ⟨k,n1,⟨hkq,hnd⟩,rfl⟩
 have hg:=hkq.kg
 have hkl:=hkq.1
 have hkb:=jp k
 have hgo:=hg.own n1.to n1.til n1.text
 have hnt:=hnd.2
 refine s9 (s1 (sq (rT [3,4,5,6,7,8] (s4 (xp (sG k n1.to n1.til n1.text hg.log (by omega)) (ai rfl ?_))))))
 refine s6 (sq (rT [3,4,5,6,7,8,9] (s1 (xp (gT k hg.log) (ai rfl ?_)))))
 refine s1 (sq (rT [3,4,5,6,7,8,9,10,11] (s4 (xp (sF k n1.to n1.til n1.text hg.log (by omega)) (ai rfl ?_)))))
 refine s6 (sq (sq (rT [3,4,5,6,9,10,11,50] (s4 (y2 (xc (fun h=>lB (bD k n1.to n1.til n1.text).1 hgo.hal) (ai rfl (ai rk ?_))))))))
 refine y1 (ai pk (cd rfl (fun c50=> ?_) fun c50=> ?_))
 · exact absurd c50 (by simp[gb])
 refine sk (sq (sq (rT [3,4,5,6,10,11,52] (s2 (cd rfl (fun c52=> ?_) fun c52=> ?_)))))
 · have hb:=aSb (tu:=n1.to) (til:=n1.til) (tx:=n1.text) (show aR k=false by simpa using c52)
   refine sq (rT [2] (s3 (y4 (ai pk (s1 (rt (bN rfl (congrArg D.b ?_))))))))
   rw[hb];rfl
 have hok:aR k=true:=by simpa using c52
 refine sk (sq (sq (rT [3,4,5,6,10,11,62] (s2 (cd rfl (fun c62=> ?_) fun c62=> ?_)))))
 · have hsame:=aR7 hok (show(bD k n1.to n1.til n1.text).2=0 by simpa using c62)
   refine sq (rT [2] (s2 (xp (lB k hg.hal) (ai (by rw[hsame];rfl) ?_))))
   refine s1 (rt (bN rfl ?_))
   rfl
 have hne: (bD k n1.to n1.til n1.text).2≠0:=by simpa using c62
 obtain⟨a1,a2,a3,a4,a5,a6⟩:=aEu hok hne
 have hnx:=(jE.1 (aJv hok)).1.2.2.1
 have a3:=a3 0
 have hwr:wrap64 ((bD k n1.to n1.til n1.text).2+1)=(bR k).next+1:=by rw[a2,aB (by omega)]
 have hnn: (⟨k.id,(bD k n1.to n1.til n1.text).2,n1.to,n1.til,n1.text⟩:bA)=iJ k n1.to n1.til n1.text:=by rw[a2,mO hok];rfl
 refine sk (sq (rT [3,4,10,11,12] (s9 (sq (rT [3,4,10,11,12,13] (s1 (xp (gv (bD k n1.to n1.til n1.text).1 hgo.log) (ai rfl ?_))))))))
 refine s2 (sq (sq (rT [10,11,12,13,78] (s4 (cd rfl (fun c78=> ?_) fun c78=> ?_)))))
 · have hto:n1.to=k.id:=by simpa using c78
   have a5:=a5 hto
   refine sq (rT [2] (s3 (xp (uT (rL (bD k n1.to n1.til n1.text).1 0).inbox (⟨k.id,(bD k n1.to n1.til n1.text).2,n1.to,n1.til,n1.text⟩:bA) (jp _).1.2.2) (ai rfl ?_))))
   refine s1 (y4 (y1 (ai pk (s1 (rt (bN rfl (congrArg D.b ?_)))))))
   rw[a3,hwr,a4,hnn]
   simp[gb,a5]
 have hto:n1.to≠k.id:=by simpa using c78
 have a6:=a6 hto
 refine sk (sq (rT [2] (s3 (xp (uT (rL (bD k n1.to n1.til n1.text).1 0).held (⟨k.id,(bD k n1.to n1.til n1.text).2,n1.to,n1.til,n1.text⟩:bA) (jp _).1.1) (ai rfl ?_)))))
 refine s1 (y4 (y1 (ai pk (s1 (y1 (xc (fun h=>(lA (bD k n1.to n1.til n1.text).1 hgo.log)) (ai rfl (ai rk ?_))))))))
 refine ai pk (s1 (rt (bN rfl (congrArg D.b ?_))))
 rw[a3,hwr,a4,hnn]
 simp[gb,a6,a1]
set_option maxHeartbeats 3200000 in
theorem jt (l:List UInt8) (hl:l.length≤140737488355328):Sp 13 1 [tD 0 (.sl (aA l))] [tB 0 true]:=by
 refine sb Tryz.func13 rfl (sq (rT [0] (s1 (sq (sq (rT [0,17] (s3 (cd rfl (fun c17=> ?_) fun c17=> ?_))))))))
 · refine sq (rT [2] (s1 (rt (bN rfl ?_))))
   rfl
 refine sk (sq (rE [3,4,5] (s1 (cP (robj:=[]) (rl:=[]) (bor:=[]) (news:=[]) (ee l hl) rfl rfl rfl rfl ⟨cI rfl rfl trivial,rfl⟩ (by rintro _ ⟨k,a,b,hkq,rfl⟩;exact⟨rfl,.inl rfl,fun j hj=>nomatch hj⟩) (fun p hp=>nomatch hp) (fun j hj=>nomatch hj) ?_))))
 rintro _ ⟨k,a,b,hkq,rfl⟩
 have hg:=hkq.kg
 have hkl:=hkq.1
 have hkb:=jp k
 have hge:=hg.eat a b
 refine s8 (sq (rT [3,4,5,6,7,8] (s3 (xp (yN k a b hg.log) (ai rfl ?_)))))
 refine s9 (sq (rT [3,4,5,6,7,8,9,10,11] (s3 (xp (qm k a b hg.log) (ai rfl ?_)))))
 refine s9 (sq (sq (rT [3,4,5,6,7,8,9,10,11,57] (s4 (y2 (aDp cV [.i (aX k a b).2.1.frm,.i (aX k a b).2.1.num,.i (aX k a b).2.1.to,.i (aX k a b).2.1.til,.s (aX k a b).2.1.text] [.i (aX k a b).2.1.frm,.i (aX k a b).2.1.num,.i (aX k a b).2.1.to,.i (aX k a b).2.1.til,.s (aX k a b).2.1.text] rfl rfl rfl (by kernel_rfl) (by kernel_rfl) (by kernel_rfl) (by kernel_rfl) rfl rfl rk (ai pk (s1 (y2 (xc (fun h=>lB (aX k a b).1 hge.hal) (ai rfl (ai rk ?_))))))))))))
 refine y1 (ai pk (s1 (y2 (ai pk (cd rfl (fun c57=> ?_) fun c57=> ?_)))))
 · refine sq (rT [2] (s4 (y2 (aDp cV [.i (aX k a b).2.1.frm,.i (aX k a b).2.1.num,.i (aX k a b).2.1.to,.i (aX k a b).2.1.til,.s (aX k a b).2.1.text] [.i (aX k a b).2.1.frm,.i (aX k a b).2.1.num,.i (aX k a b).2.1.to,.i (aX k a b).2.1.til,.s (aX k a b).2.1.text] rfl rfl rfl (by kernel_rfl) (by kernel_rfl) (by kernel_rfl) (by kernel_rfl) rfl rfl rk (ai pk (s1 (y2 (xc (fun h=>lB (aX k a b).1 hge.hal) (ai rfl (ai rk ?_))))))))))
   refine ai pk (s1 (rt (bN rfl (congrArg D.b ?_))))
   simp[gb,xC,eqD]
 have hyes: (aX k a b).2.2=true:=by simpa[gb,xC,eqD] using c57
 obtain⟨e1,e2,e3,e4,e5,e6,e7⟩:=aR9 (aVh hyes) hyes
 have hwl:=lO (aX k a b).2.1
 have hrl: (cT fL (aX k a b).2.1).length≤900000:=by simp[cT,fL];omega
 refine sk (sq (sq (rD [9,10,95] (s1 (xp (oS k hg.log) (ai rfl ?_))))))
 refine s2 (xp (uT (bR k).inbox (aX k a b).2.1 hkb.1.2.2) (ai rfl ?_))
 refine s2 (y4 (ai pk (s1 (y4 (ai pk (s1 (y4 (y1 (ai pk (ai (by kernel_rfl) (cd rfl (fun c95=> ?_) fun c95=> ?_)))))))))))
 · exact absurd c95 (by simp[gb,e1,e2,e3,e4])
 refine sk (sq (rT [10,12] (s1 (xp (gv (aX k a b).1 hge.log) (ai rfl ?_)))))
 refine s2 (sq (rD [10,12,14] (s2 (xp (lX (aX k a b).2.1 (hkb.2.2 _ e1)) (ai rfl ?_)))))
 refine ai (by show _≤9223372036854775807;(try simp only[aW7,aW9,aXa]);omega) (xp (xO (rL (aX k a b).1 0) (cT fL (aX k a b).2.1) (jp _) hrl) (ai rfl ?_))
 refine s6 (ai (by kernel_rfl) (sq (rT [2] (s3 (xp (uT (rL (aX k a b).1 0).inbox (aX k a b).2.1 (jp _).1.2.2) (ai rfl ?_))))))
 refine s2 (y2 (ai pk (s1 (rt (bN rfl (congrArg D.b ?_))))))
 simp[gb,e6,e7]
end Go.Proofs.YthbgjfegalcenaaGreatDoor
namespace Go.Ab
open Int renaming toNat_natCast→aW6,tmod→aXm
open List renaming length_append→aW7,length_cons→aW9,length_nil→aXa,length_take→aXc,getD_eq_getElem?_getD→aXe,length_drop→aXf,getElem?_eq_getElem→aXg,getElem?_eq_some_iff→aXh,range→aXj,mem_map→aXk,all_eq_true→aXl,take_length→aXn,mem_singleton→aXo,mem_iff_getElem?→aXq,mem_cons→aXr
open Nat renaming le_of_ble_eq_true→aW8,zero_le→aXd,le_refl→aXi,add_mul→aXp
open Bool renaming and_eq_true→aXb
open Go Go.RowKit
set_option linter.unusedVariables false
theorem aP2 {P:Program} {w w':World} {name:String} {cs:Array Value} (h:w.var? P name=some cs) (hf:Fr (fun _=>False) w w'):w'.var? P name=some cs:=by
 unfold World.var? at h ⊢
 cases hg:P.globalNamed name with
 |none=>rw[hg] at h;cases h
 |some g=>
  rw[hg] at h
  simp only[Option.bind_some] at h ⊢
  cases hh:w.heap[g]? with
  |none=>rw[hh] at h;cases h
  |some o=>
   have hlt:g<w.heap.size:=(Array.getElem?_eq_some_iff.1 hh).1
   rw[hf.block g hlt (fun h=>h),hh]
   rw[hh] at h
   exact h
theorem aEv {P:Program} {w:World} {name:String} {g:Nat} {cs:Array Value} {t:TypeId} {v:Value} (hg:P.globalNamed name=some g) (hh:w.heap[g]? =some (.cells cs t)) (hs:cs.size=1) (hc:w.cell? ⟨g,0,none⟩=some v):w.var? P name=some #[v]:=by
 have e:cs= #[v]:=by
  have h1:w.cell? ⟨g,0,none⟩=cs[0]?:=by rw[cell_of_row w g 0 cs t (0,0) hh]
  rw[hc] at h1
  apply Array.ext
  · simpa using hs
  · intro i h2 h3
    have:i=0:=by have:i<1:=by simpa using h3
                 omega
    subst this
    rw[Array.getElem?_eq_getElem h2] at h1
    exact(Option.some.inj h1).symm
 subst e
 unfold World.var?
 rw[hg]
 simp only[Option.bind_some]
 rw[hh]
theorem aP3 {P:Program} {w:World} (h1:Lib.TabIs P w "internal/strconv.uint64pow10" .u64 Lib.pow10Tab) (h2: ∃m,w.var? P "internal/bytealg.MaxLen" =some #[.int .i64 m]):GB P w fun _=>False:=fun w' hf=>⟨aP2 h1 hf,h2.imp fun m hm=>aP2 hm hf⟩
end Go.Ab
