/- Plain functions, and contracts of the functions that the law reaches. -/
import Derived.Shelf.Vars
import Derived.Stop.LaidErr
import Derived.MakeChecks
import Derived.Test.YtcbjphphppaoiaaGreatDoorB3
namespace Go.Proofs.YtcbjphphppaoiaaGreatDoor
open Int renaming toNat_natCast→aU4,tmod→aVg
open List renaming length_append→aU5,length_nil→aU8,length_cons→aU9,getD_eq_getElem?_getD→aVb,length_take→aVc,getElem?_eq_getElem→aVd,getElem?_eq_some_iff→aVe,range→aVh,all_eq_true→aVi,mem_map→aVj,length_drop→aVk,take_length→aVl,mem_cons→aVm,mem_singleton→aVn,mem_iff_getElem?→aVp
open Nat renaming le_of_ble_eq_true→aU6,zero_le→aVa,le_refl→aVf,add_mul→aVo
open Bool renaming and_eq_true→aU7
open Go Go.Ab Go.RowKit
set_option linter.unusedVariables false
set_option linter.unusedSimpArgs false
set_option maxRecDepth 9000
set_option maxHeartbeats 3200000 in
theorem aCv (tm:Int) (ks:List aS) (ls:List Bool) (a b c:Nat) (e:EvR) (hw:xf ks ls a b c) (htx:e.text.length≤1000):qu 134 2 [tV 0 (.e (.agg [.d (.i (tm)),.own 802 4,.own 803 3,ps 804 4 (a),ps 805 5 (b),ps 806 5 (c)])),(.t 1,.v e.V),oR 802 79 5 (aG ks),oR 803 4 1 (aM ls),(.o 804,aI 175 4 fV),(.o 805,aI 29 5 cP),(.o 806,aI 29 5 cP)] (fun s=> ∃(tm:Int) (ks:List aS) (ls:List Bool) (a b c:Nat) (ok:Bool),xf ks ls a b c∧s=[tV 0 (.tup [.agg [.d (.i (tm)),.own 802 4,.own 803 3,ps 804 4 (a),ps 805 5 (b),ps 806 5 (c)],.c (.d (.b (ok)))]),oR 802 79 5 (aG ks),oR 803 4 1 (aM ls),(.o 804,aI 175 4 fV),(.o 805,aI 29 5 cP),(.o 806,aI 29 5 cP)]):=by
 refine vt Tryz.func134 rfl (sq (rT [2,3,4,15,16,17,20,21,22,34,35,36,47,48,49,50,51,52,53,54,55,56] (s4 (sq (rT [2,3,4,15,16,17,20,21,22,34,35,36,47,48,49,50,51,52,53,54,55,56] (s5 (sq (bk (sq (wa [tP 2 2,tP 3 3,tP 4 4,oB 2 84 [.d (.i ((wrap64 (tm+1)))),.own 802 4,.own 803 3,ps 804 4 (a),ps 805 5 (b),ps 806 5 (c)],oB 3 140 [.d (.i e.kind),.d (.i e.at_),.d (.i e.frm),.d (.i e.num),.d (.i e.word),.d (.i e.mix),.d (.i e.keep),.d (.i e.dst),.d (.i e.til),.d (.s e.text)],oB 4 84 [.d (.i 0),.nil,.nil,.nil,.nil,.nil],oR 802 79 5 (aG ks),oR 803 4 1 (aM ls),(.o 804,aI 175 4 fV),(.o 805,aI 29 5 cP),(.o 806,aI 29 5 cP)] [] [] qz (rT [2,3,4,10,34,35,36,47,48,49,50,51,52,53,54,55,56] (s4 (y3 (ai pk (s1 (y3 (ai pk (s1 (cd rfl (fun c10=> ?_) fun c10=> ?_)))))))))))))))))))
 · refine sq (rE [4,5] (s2 (cK (robj:=[(802,.row 79 5 (aG ks)),(803,.row 4 1 (aM ls)),(804,aI 175 4 fV),(805,aI 29 5 cP),(806,aI 29 5 cP)]) (rl:=[]) (bor:=[]) (news:=[]) (qo (wrap64 (tm+1)) ks ls a b c e hw htx) rfl rfl rfl rfl ⟨dD rfl (aF rfl (bK rfl rfl rfl (bK rfl rfl rfl (bE rfl rfl rfl (bE rfl rfl rfl (bE rfl rfl rfl aH)))))) (dD rfl (aF rfl (aF rfl (aF rfl (aF rfl (aF rfl (aF rfl (aF rfl (aF rfl (aF rfl (aF rfl aH)))))))))) (bW rfl rfl (bW rfl rfl (aY rfl rfl (aY rfl rfl (aY rfl rfl trivial)))))),rfl⟩ (by rintro _ ⟨tm2,ks2,ls2,a2,b2,c2,ok2,hw2,rfl⟩;exact⟨rfl,.inl rfl,fun j hj=>nomatch hj⟩) (aK ⟨rfl,rfl,rfl,rfl,rfl,trivial⟩) (fun j hj=>nomatch hj) ?_)))
   rintro _ ⟨tm2,ks2,ls2,a2,b2,c2,ok2,hw2,rfl⟩
   refine s4 (rt (cV [tV 0 (.tup [.agg [.d (.i (tm2)),.own 802 4,.own 803 3,ps 804 4 (a2),ps 805 5 (b2),ps 806 5 (c2)],.c (.d (.b (ok2)))]),oR 802 79 5 (aG ks2),oR 803 4 1 (aM ls2),(.o 804,aI 175 4 fV),(.o 805,aI 29 5 cP),(.o 806,aI 29 5 cP)] ⟨tm2,ks2,ls2,a2,b2,c2,ok2,hw2,rfl⟩ (rq [] [] rfl ?_)))
   repeat' apply ai
   all_goals try exact qx
   all_goals(first|with_reducible rfl|(rw[hi,aU4];exact bF (by rw[hw.four];exact hil))|rfl)
 refine sq (rT [2,3,4,29,47,48,49,50,51,52,53,54,55,56] (s4 (y3 (ai pk (s1 (cd rfl (fun c29=> ?_) fun c29=> ?_))))))
 · refine sq (sq (rD [2,3,4,57] (s4 (ai (by exact(cS ls).trans hw.three) (s1 (xp (dJ _ _ _) (ai rfl ?_)))))))
   refine s2 (y4 (ai (fun h=>(by obtain⟨i,hi,hil⟩: ∃i:Nat,e.at_=(i:Int)∧i<3:=(by simp[gb,iB,cS,hw.three,wrap64] at h;exact⟨e.at_.toNat,by omega,by omega⟩);rw[hi];exact⟨by rw[cS];exact hw.three,by omega,by omega⟩)) (ai rk (ai (fun h=>(by obtain⟨i,hi,hil⟩: ∃i:Nat,e.at_=(i:Int)∧i<3:=(by simp[gb,iB,cS,hw.three,wrap64] at h;exact⟨e.at_.toNat,by omega,by omega⟩);rw[hi,aU4,lB (by rw[hw.three];exact hil)];exact⟨⟨by rw[cS];exact hw.three,hil⟩,aU6 rfl,rfl⟩)) (ai rk (y4 (ai pk (ai (by kernel_rfl) (cd rfl (fun c57=> ?_) fun c57=> ?_)))))))))
   · refine sq (rT [4,5] (s3 (rt (cV [tV 0 (.tup [.agg [.d (.i ((wrap64 (tm+1)))),.own 802 4,.own 803 3,ps 804 4 (a),ps 805 5 (b),ps 806 5 (c)],.c (.d (.b (false)))]),oR 802 79 5 (aG ks),oR 803 4 1 (aM ls),(.o 804,aI 175 4 fV),(.o 805,aI 29 5 cP),(.o 806,aI 29 5 cP)] ⟨(wrap64 (tm+1)),ks,ls,a,b,c,false,hw,rfl⟩ (rq [] [] rfl ?_)))))
     repeat' apply ai
     all_goals try exact qx
     all_goals(first|with_reducible rfl|(rw[hi,aU4];exact bF (by rw[hw.four];exact hil))|rfl)
   have hat3:0≤e.at_∧e.at_≤2:=by simp[gb,iB,cS,hw.three,wrap64] at c57;omega
   refine sk (sq ?_)
   obtain⟨i,hi,hil⟩: ∃i:Nat,e.at_=(i:Int)∧i<3:=⟨e.at_.toNat,by omega,by omega⟩
   refine rT [2,4] (s7 (ai (by rw[hi];exact⟨by rw[cS];exact hw.three,by omega,by omega⟩) (ai (by rw[hi,aU4,lB (by rw[hw.three];exact hil)];exact⟨by rw[cS];exact hw.three,hil,rfl,aU6 rfl⟩) (sq (rT [4,5] (s3 (rt (cV [tV 0 (.tup [.agg [.d (.i ((wrap64 (tm+1)))),.own 802 4,.own 803 3,ps 804 4 (a),ps 805 5 (b),ps 806 5 (c)],.c (.d (.b (true)))]),oR 802 79 5 (aG ks),oR 803 4 1 (aM (ls.set i (e.kind==9))),(.o 804,aI 175 4 fV),(.o 805,aI 29 5 cP),(.o 806,aI 29 5 cP)] ⟨(wrap64 (tm+1)),ks,(ls.set i (e.kind==9)),a,b,c,true,(hw.links (by rw[List.length_set];exact hw.three)),rfl⟩ (rq [] [] rfl ?_)))))))))
   repeat' apply ai
   all_goals try exact qx
   all_goals(first|with_reducible rfl|(rw[hi,aU4];exact aCp (by rw[hw.three];exact hil))|rfl)
 refine sq (rT [2,3,4,68] (s2 (xp (dB _) (ai rfl ?_))))
 refine s2 (cd rfl (fun c68=> ?_) fun c68=> ?_)
 · refine sq (rT [4,5] (s3 (rt (cV [tV 0 (.tup [.agg [.d (.i ((wrap64 (tm+1)))),.own 802 4,.own 803 3,ps 804 4 (a),ps 805 5 (b),ps 806 5 (c)],.c (.d (.b (false)))]),oR 802 79 5 (aG ks),oR 803 4 1 (aM ls),(.o 804,aI 175 4 fV),(.o 805,aI 29 5 cP),(.o 806,aI 29 5 cP)] ⟨(wrap64 (tm+1)),ks,ls,a,b,c,false,hw,rfl⟩ (rq [] [] rfl ?_)))))
   repeat' apply ai
   all_goals try exact qx
   all_goals(first|with_reducible rfl|(rw[hi,aU4];exact bF (by rw[hw.four];exact hil))|rfl)
 have hat:0≤e.at_∧e.at_≤3:=by simp[eC,iB] at c68;omega
 refine sk (sq (rE [4,5] (s2 (cK (robj:=[(802,.row 79 5 (aG ks)),(803,.row 4 1 (aM ls)),(804,aI 175 4 fV),(805,aI 29 5 cP),(806,aI 29 5 cP)]) (rl:=[]) (bor:=[]) (news:=[]) (nw (wrap64 (tm+1)) ks ls a b c e hw htx hat) rfl rfl rfl rfl ⟨dD rfl (aF rfl (bK rfl rfl rfl (bK rfl rfl rfl (bE rfl rfl rfl (bE rfl rfl rfl (bE rfl rfl rfl aH)))))) (dD rfl (aF rfl (aF rfl (aF rfl (aF rfl (aF rfl (aF rfl (aF rfl (aF rfl (aF rfl (aF rfl aH)))))))))) (bW rfl rfl (bW rfl rfl (aY rfl rfl (aY rfl rfl (aY rfl rfl trivial)))))),rfl⟩ (by rintro _ ⟨tm2,ks2,ls2,a2,b2,c2,ok2,hw2,rfl⟩;exact⟨rfl,.inl rfl,fun j hj=>nomatch hj⟩) (aK ⟨rfl,rfl,rfl,rfl,rfl,trivial⟩) (fun j hj=>nomatch hj) ?_))))
 rintro _ ⟨tm2,ks2,ls2,a2,b2,c2,ok2,hw2,rfl⟩
 refine s4 (rt (cV [tV 0 (.tup [.agg [.d (.i (tm2)),.own 802 4,.own 803 3,ps 804 4 (a2),ps 805 5 (b2),ps 806 5 (c2)],.c (.d (.b (ok2)))]),oR 802 79 5 (aG ks2),oR 803 4 1 (aM ls2),(.o 804,aI 175 4 fV),(.o 805,aI 29 5 cP),(.o 806,aI 29 5 cP)] ⟨tm2,ks2,ls2,a2,b2,c2,ok2,hw2,rfl⟩ (rq [] [] rfl ?_)))
 repeat' apply ai
 all_goals try exact qx
 all_goals(first|with_reducible rfl|(rw[hi,aU4];exact bF (by rw[hw.four];exact hil))|rfl)
set_option maxHeartbeats 3200000 in
theorem ee (l:List UInt8) (p:Int) (W:fI) (e:EvR) (hW:W.ok) (htx:e.text.length≤1000) (hd:W.d≤100000):qu 119 2 [tP 0 800,(.t 1,.v e.V),oB 800 87 [.pt 801 0,.d (.i (W.tm)),.own 802 4,.own 803 3,ps 804 4 (W.a),ps 805 5 (W.b),ps 806 5 (W.c),ps 807 10 (W.d)],oB 801 92 [.d (.sl (aC l)),.d (.i (p))],oR 802 79 5 (aG W.ks),oR 803 4 1 (aM W.ls),(.o 804,aI 175 4 fV),(.o 805,aI 29 5 cP),(.o 806,aI 29 5 cP),(.o 807,aI 140 10 jL)] (fun s=> ∃(W2:fI) (ok:Bool),W2.of W 1∧s=[tB 0 ok,oB 800 87 [.pt 801 0,.d (.i (W2.tm)),.own 802 4,.own 803 3,ps 804 4 (W2.a),ps 805 5 (W2.b),ps 806 5 (W2.c),ps 807 10 (W2.d)],oB 801 92 [.d (.sl (aC l)),.d (.i (p))],oR 802 79 5 (aG W2.ks),oR 803 4 1 (aM W2.ls),(.o 804,aI 175 4 fV),(.o 805,aI 29 5 cP),(.o 806,aI 29 5 cP),(.o 807,aI 140 10 jL)]):=by
 refine vt Tryz.func119 rfl (sq (rT [0,3] (s2 (sq (SW.regDE dH mo [0,3,5,6] 5 (fun i=>if i=9 then some ([(.o 5,none)],[oB 5 84 [.d (.i 0),.nil,.nil,.nil,.nil,.nil],tP 5 5]) else none) rfl rfl (by kernel_rfl) ?_)))))
 refine s5 (vQ (robj:=[(802,.row 79 5 (aG W.ks)),(803,.row 4 1 (aM W.ls)),(804,aI 175 4 fV),(805,aI 29 5 cP),(806,aI 29 5 cP)]) (rl:=[]) (bor:=[]) (news:=[]) (aCv W.tm W.ks W.ls W.a W.b W.c e hW htx) rfl rfl rfl rfl ⟨dD rfl (aF rfl (bK rfl rfl rfl (bK rfl rfl rfl (bE rfl rfl rfl (bE rfl rfl rfl (bE rfl rfl rfl aH)))))) (dD rfl (aF rfl (aF rfl (aF rfl (aF rfl (aF rfl (aF rfl (aF rfl (aF rfl (aF rfl (aF rfl aH)))))))))) (bW rfl rfl (bW rfl rfl (aY rfl rfl (aY rfl rfl (aY rfl rfl trivial)))))),rfl⟩ (by rintro _ ⟨tm2,ks2,ls2,a2,b2,c2,ok2,hw2,rfl⟩;exact⟨rfl,.inl rfl,fun j hj=>nomatch hj⟩) (aK ⟨rfl,rfl,rfl,rfl,rfl,trivial⟩) (fun j hj=>nomatch hj) ⟨_,W.tm,W.ks,W.ls,W.a,W.b,W.c,false,hW,rfl⟩ ?_)
 rintro _ ⟨tm2,ks2,ls2,a2,b2,c2,ok2,hw2,rfl⟩
 refine s7 (ai rfl (s4 (ai (by kernel_rfl) (sq (sq (rT [0,3,5,6,16] (s1 (cd rfl (fun c16=> ?_) fun c16=> ?_))))))))
 · refine sq (rT [0,3,6] (s5 (rX [6] (sx dH rfl vc (sx dH rfl vc (sx dH rfl vc (sx dH rfl vc (sx dH rfl vc (sx dH rfl vc (sx dH rfl vc (mi (m:=1) (z:=[.i 0,.i 0,.i 0,.i 0,.i 0,.i 0,.i 0,.i 0,.i 0,.s []]) dH rfl rfl rfl rfl rfl rfl rfl rfl trivial (ix dH (by decide) rfl rfl rfl (fun r hr=>⟨by rw[aVn.1 hr];rfl,trivial⟩) rfl) (by show(_+1)*88≤_;omega) (sx dH rfl vc (sx dH rfl vc (sx dH rfl ⟨by kernel_rfl,aU6 (by kernel_rfl)⟩ (⟨by kernel_rfl,?_⟩)))))))))))))))
   refine sq (rT [4] (s2 (rt ?_)))
   first
   |(refine cV [tB 0 (ok2),oB 800 87 [.pt 801 0,.d (.i ((fI.mk tm2 ks2 ls2 a2 b2 c2 (W.d+1)).tm)),.own 802 4,.own 803 3,ps 804 4 ((fI.mk tm2 ks2 ls2 a2 b2 c2 (W.d+1)).a),ps 805 5 ((fI.mk tm2 ks2 ls2 a2 b2 c2 (W.d+1)).b),ps 806 5 ((fI.mk tm2 ks2 ls2 a2 b2 c2 (W.d+1)).c),ps 807 10 ((fI.mk tm2 ks2 ls2 a2 b2 c2 (W.d+1)).d)],oB 801 92 [.d (.sl (aC l)),.d (.i (p))],oR 802 79 5 (aG (fI.mk tm2 ks2 ls2 a2 b2 c2 (W.d+1)).ks),oR 803 4 1 (aM (fI.mk tm2 ks2 ls2 a2 b2 c2 (W.d+1)).ls),(.o 804,aI 175 4 fV),(.o 805,aI 29 5 cP),(.o 806,aI 29 5 cP),(.o 807,aI 140 10 jL)] ⟨(fI.mk tm2 ks2 ls2 a2 b2 c2 (W.d+1)),ok2,⟨hw2,aVf _⟩,rfl⟩ (rq [] [] rfl ?_)
     repeat' apply ai
     all_goals try exact qx
     all_goals(first|with_reducible rfl|(rfl)))
   |(refine cV [tB 0 (ok2),oB 800 87 [.pt 801 0,.d (.i ((fI.mk W.tm ks2 ls2 W.a W.b W.c W.d).tm)),.own 802 4,.own 803 3,ps 804 4 ((fI.mk W.tm ks2 ls2 W.a W.b W.c W.d).a),ps 805 5 ((fI.mk W.tm ks2 ls2 W.a W.b W.c W.d).b),ps 806 5 ((fI.mk W.tm ks2 ls2 W.a W.b W.c W.d).c),ps 807 10 ((fI.mk W.tm ks2 ls2 W.a W.b W.c W.d).d)],oB 801 92 [.d (.sl (aC l)),.d (.i (p))],oR 802 79 5 (aG (fI.mk W.tm ks2 ls2 W.a W.b W.c W.d).ks),oR 803 4 1 (aM (fI.mk W.tm ks2 ls2 W.a W.b W.c W.d).ls),(.o 804,aI 175 4 fV),(.o 805,aI 29 5 cP),(.o 806,aI 29 5 cP),(.o 807,aI 140 10 jL)] ⟨(fI.mk W.tm ks2 ls2 W.a W.b W.c W.d),ok2,⟨hw2.to hW.ra hW.rb hW.rc,by show W.d≤_;omega⟩,rfl⟩ (rq [] [] rfl ?_)
     repeat' apply ai
     all_goals try exact qx
     all_goals(first|with_reducible rfl|(rfl)))
 refine sk (sq (rT [4] (s2 (rt ?_))))
 first
 |(refine cV [tB 0 (ok2),oB 800 87 [.pt 801 0,.d (.i ((fI.mk tm2 ks2 ls2 a2 b2 c2 (W.d+1)).tm)),.own 802 4,.own 803 3,ps 804 4 ((fI.mk tm2 ks2 ls2 a2 b2 c2 (W.d+1)).a),ps 805 5 ((fI.mk tm2 ks2 ls2 a2 b2 c2 (W.d+1)).b),ps 806 5 ((fI.mk tm2 ks2 ls2 a2 b2 c2 (W.d+1)).c),ps 807 10 ((fI.mk tm2 ks2 ls2 a2 b2 c2 (W.d+1)).d)],oB 801 92 [.d (.sl (aC l)),.d (.i (p))],oR 802 79 5 (aG (fI.mk tm2 ks2 ls2 a2 b2 c2 (W.d+1)).ks),oR 803 4 1 (aM (fI.mk tm2 ks2 ls2 a2 b2 c2 (W.d+1)).ls),(.o 804,aI 175 4 fV),(.o 805,aI 29 5 cP),(.o 806,aI 29 5 cP),(.o 807,aI 140 10 jL)] ⟨(fI.mk tm2 ks2 ls2 a2 b2 c2 (W.d+1)),ok2,⟨hw2,aVf _⟩,rfl⟩ (rq [] [] rfl ?_)
   repeat' apply ai
   all_goals try exact qx
   all_goals(first|with_reducible rfl|(rfl)))
 |(refine cV [tB 0 (ok2),oB 800 87 [.pt 801 0,.d (.i ((fI.mk W.tm ks2 ls2 W.a W.b W.c W.d).tm)),.own 802 4,.own 803 3,ps 804 4 ((fI.mk W.tm ks2 ls2 W.a W.b W.c W.d).a),ps 805 5 ((fI.mk W.tm ks2 ls2 W.a W.b W.c W.d).b),ps 806 5 ((fI.mk W.tm ks2 ls2 W.a W.b W.c W.d).c),ps 807 10 ((fI.mk W.tm ks2 ls2 W.a W.b W.c W.d).d)],oB 801 92 [.d (.sl (aC l)),.d (.i (p))],oR 802 79 5 (aG (fI.mk W.tm ks2 ls2 W.a W.b W.c W.d).ks),oR 803 4 1 (aM (fI.mk W.tm ks2 ls2 W.a W.b W.c W.d).ls),(.o 804,aI 175 4 fV),(.o 805,aI 29 5 cP),(.o 806,aI 29 5 cP),(.o 807,aI 140 10 jL)] ⟨(fI.mk W.tm ks2 ls2 W.a W.b W.c W.d),ok2,⟨hw2.to hW.ra hW.rb hW.rc,by show W.d≤_;omega⟩,rfl⟩ (rq [] [] rfl ?_)
   repeat' apply ai
   all_goals try exact qx
   all_goals(first|with_reducible rfl|(rfl)))
set_option maxHeartbeats 3200000 in
theorem aS8 (l:List UInt8) (p:Int) (W:fI) (hp:0≤p∧p≤900000) (hl:l.length≤2000) (hW:W.ok) (hd:W.d≤99000):qu 135 1 [tP 0 800,oB 800 87 [.pt 801 0,.d (.i (W.tm)),.own 802 4,.own 803 3,ps 804 4 (W.a),ps 805 5 (W.b),ps 806 5 (W.c),ps 807 10 (W.d)],oB 801 92 [.d (.sl (aC l)),.d (.i (p))],oR 802 79 5 (aG W.ks),oR 803 4 1 (aM W.ls),(.o 804,aI 175 4 fV),(.o 805,aI 29 5 cP),(.o 806,aI 29 5 cP),(.o 807,aI 140 10 jL)] (fun s=> ∃(i:Int) (n:aR) (ok:Bool) (q:Int),(p≤q∧q≤p+2)∧s=[tV 0 (.tup [.c (.d (.i i)),.agg [.d (.i n.frm),.d (.i n.num),.d (.i n.to),.d (.i n.til),.d (.s n.text)],.c (.d (.b ok))]),oB 800 87 [.pt 801 0,.d (.i (W.tm)),.own 802 4,.own 803 3,ps 804 4 (W.a),ps 805 5 (W.b),ps 806 5 (W.c),ps 807 10 (W.d)],oB 801 92 [.d (.sl (aC l)),.d (.i (q))],oR 802 79 5 (aG W.ks),oR 803 4 1 (aM W.ls),(.o 804,aI 175 4 fV),(.o 805,aI 29 5 cP),(.o 806,aI 29 5 cP),(.o 807,aI 140 10 jL)]):=by
 refine vt Tryz.func135 rfl (sq (rT [0,3] (s3 (sq (rT [0,3,5] (s4 (bJ (robj:=[(801,.box 92 [.d (.sl (aC (l))),.d (.i (p))])]) (rl:=[(0,801)]) (bor:=[]) (cU (l) (p) _ (by omega) hl) rfl rfl rfl rfl ⟨bU rfl rfl rfl rfl (cJ rfl rfl (aZ rfl (aF rfl (aF rfl aH)) trivial)),rfl⟩ rfl (.inl rfl) (aK ⟨rfl,trivial⟩) (fun _ hj=>nomatch hj) (s1 (sq (sq (rT [0,3,5,6] (s1 (bk ?_)))))))))))))
 obtain⟨i0,hi0,hil0⟩:=zJ (show 0≤aT l p 4∧aT l p 4≤3 by have:=cG l (p:=p) (n:=4) (by omega) (by omega);omega)
 refine SW.loopW (n:=4) (fun n s=> ∃i m:Nat,n=4 - m∧(i<4∧m≤4)∧s=[tP 0 800,tP 3 3,tI 5 (i:Nat),tI 6 (m:Nat),oB 800 87 [.pt 801 0,.d (.i (W.tm)),.own 802 4,.own 803 3,ps 804 4 (W.a),ps 805 5 (W.b),ps 806 5 (W.c),ps 807 10 (W.d)],oB 801 92 [.d (.sl (aC l)),.d (.i ((p+1)))],oR 802 79 5 (aG W.ks),oR 803 4 1 (aM W.ls),(.o 804,aI 175 4 fV),(.o 805,aI 29 5 cP),(.o 806,aI 29 5 cP),(.o 807,aI 140 10 jL),oB 3 29 [.d (.i aR.zero.frm),.d (.i aR.zero.num),.d (.i aR.zero.to),.d (.i aR.zero.til),.d (.s aR.zero.text)]]) ?_ ?_
 · refine wq [] [] (⟨i0,0,rfl,⟨hil0,by omega⟩,rfl⟩) ?_
   repeat' apply ai
   all_goals first|exact qx|exact congrArg D.i hi0|rfl|exact qz
 rintro n s ⟨i,m,rfl,him,rfl⟩
 refine sq (sq (rT [0,3,5,6,15] (s2 (cd rfl (fun c15=> ?_) fun c15=> ?_))))
 · have hm4:m<4:=by simp at c15;omega
   refine sk (sq (bk (sq (rT [0,3,5,6,7] (s6 (ai (by exact⟨by rw[bD];exact hW.four,by omega,by omega⟩) (ai (by rw[aU4,cB (by rw[hW.four];omega)];exact⟨⟨by rw[bD];exact hW.four,by omega⟩,aU6 rfl,rfl⟩) (xp (gX (W.ks.getD i .zero) (by have:=(hW.at (show i<4 by omega)).1;omega)) (ai (by rw[aU4,cB (by rw[hW.four];omega)];rfl) ?_)))))))))
   refine s6 (sq (sq (rT [0,3,5,6,7,33] (s4 (cd rfl (fun c33=> ?_) fun c33=> ?_)))))
   · refine sq ?_
     have hn0:0< (bC (W.ks.getD i .zero)).1.held.length:=by have h9:=of_decide_eq_true c33;rw[aA] at h9;omega
     obtain⟨j,hj,hjl⟩: ∃j:Nat,aT l (p+1) ((aD (bC (W.ks.getD i .zero)).1.held).length:Int)=(j:Int)∧j< (bC (W.ks.getD i .zero)).1.held.length:=by have:=cG l (p:=p+1) (n:=((aD (bC (W.ks.getD i .zero)).1.held).length:Int)) (by omega) (by rw[aA];omega);rw[aA] at *; exact⟨(aT l (p+1) ((bC (W.ks.getD i .zero)).1.held.length:Int)).toNat,by omega,by omega⟩
     refine rD [2,3,4] (s9 (s1 (bJ (robj:=[(801,.box 92 [.d (.sl (aC (l))),.d (.i ((p+1)))])]) (rl:=[(0,801)]) (bor:=[]) (cU (l) ((p+1)) _ (by omega) hl) rfl rfl rfl rfl ⟨bU rfl rfl rfl rfl (cJ rfl rfl (aZ rfl (aF rfl (aF rfl aH)) trivial)),rfl⟩ rfl (.inl rfl) (aK ⟨rfl,trivial⟩) (fun _ hj=>nomatch hj) (ai (by rw[hj,aU4,aQ hjl];exact⟨⟨by omega,by rw[aA];omega⟩,rfl⟩) (ai (by rw[hj,aU4,aQ hjl];exact⟨aU6 rfl,rfl⟩) (s3 (ai (by kernel_rfl) (rt (cV [tV 0 (.tup [.c (.d (.i (i:Nat))),.agg [.d (.i ((bC (W.ks.getD i .zero)).1.held.getD j .zero).frm),.d (.i ((bC (W.ks.getD i .zero)).1.held.getD j .zero).num),.d (.i ((bC (W.ks.getD i .zero)).1.held.getD j .zero).to),.d (.i ((bC (W.ks.getD i .zero)).1.held.getD j .zero).til),.d (.s ((bC (W.ks.getD i .zero)).1.held.getD j .zero).text)],.c (.d (.b true))]),oB 800 87 [.pt 801 0,.d (.i (W.tm)),.own 802 4,.own 803 3,ps 804 4 (W.a),ps 805 5 (W.b),ps 806 5 (W.c),ps 807 10 (W.d)],oB 801 92 [.d (.sl (aC l)),.d (.i ((p+1+1)))],oR 802 79 5 (aG W.ks),oR 803 4 1 (aM W.ls),(.o 804,aI 175 4 fV),(.o 805,aI 29 5 cP),(.o 806,aI 29 5 cP),(.o 807,aI 140 10 jL)] ⟨(i:Nat),(bC (W.ks.getD i .zero)).1.held.getD j .zero,true,p+1+1,⟨by omega,by omega⟩,rfl⟩ ?_)))))))))
     refine rq [] [] rfl ?_
     repeat' apply ai
     all_goals try exact qx
     all_goals(first|with_reducible rfl|((rw[hj,aU4,aQ hjl];rfl)))
   refine sk (rT [0,3,5,6] (s2 (ai (by decide) (s1 (rT [0,3,5,6] (s3 (wq [] [] (⟨4 - (m+1),by omega,(i+1) % 4,m+1,rfl,⟨by omega,by omega⟩,rfl⟩) ?_)))))))
   repeat' apply ai
   all_goals first|exact qx|(refine congrArg D.i ?_;rw[aE (by omega)];omega)|(refine congrArg D.i ?_;rw[aE (n:=(i:Int)+1) (by omega),Int.tmod_eq_emod_of_nonneg (by omega)];omega)|exact qz
 refine xt (sq (rT [2,3,4] (s4 (rt (cV [tV 0 (.tup [.c (.d (.i 0)),.agg [.d (.i aR.zero.frm),.d (.i aR.zero.num),.d (.i aR.zero.to),.d (.i aR.zero.til),.d (.s aR.zero.text)],.c (.d (.b false))]),oB 800 87 [.pt 801 0,.d (.i (W.tm)),.own 802 4,.own 803 3,ps 804 4 (W.a),ps 805 5 (W.b),ps 806 5 (W.c),ps 807 10 (W.d)],oB 801 92 [.d (.sl (aC l)),.d (.i ((p+1)))],oR 802 79 5 (aG W.ks),oR 803 4 1 (aM W.ls),(.o 804,aI 175 4 fV),(.o 805,aI 29 5 cP),(.o 806,aI 29 5 cP),(.o 807,aI 140 10 jL)] ⟨0,.zero,false,p+1,⟨by omega,by omega⟩,rfl⟩ (rq [] [] rfl ?_))))))
 repeat' apply ai
 all_goals try exact qx
 all_goals(first|with_reducible rfl|(rfl))
set_option maxHeartbeats 3200000 in
theorem aRi (l:List UInt8) (p:Int) (W:fI) (hp:0≤p∧p≤900000) (hl:l.length≤2000) (hW:W.ok) (hd:W.d≤99000):qu 97 1 [tP 0 800,oB 800 87 [.pt 801 0,.d (.i (W.tm)),.own 802 4,.own 803 3,ps 804 4 (W.a),ps 805 5 (W.b),ps 806 5 (W.c),ps 807 10 (W.d)],oB 801 92 [.d (.sl (aC l)),.d (.i (p))],oR 802 79 5 (aG W.ks),oR 803 4 1 (aM W.ls),(.o 804,aI 175 4 fV),(.o 805,aI 29 5 cP),(.o 806,aI 29 5 cP),(.o 807,aI 140 10 jL)] (fun s=> ∃(W2:fI) (q:Int),(W2.of W 1∧p≤q∧q≤p+10)∧s=[oB 800 87 [.pt 801 0,.d (.i (W2.tm)),.own 802 4,.own 803 3,ps 804 4 (W2.a),ps 805 5 (W2.b),ps 806 5 (W2.c),ps 807 10 (W2.d)],oB 801 92 [.d (.sl (aC l)),.d (.i (q))],oR 802 79 5 (aG W2.ks),oR 803 4 1 (aM W2.ls),(.o 804,aI 175 4 fV),(.o 805,aI 29 5 cP),(.o 806,aI 29 5 cP),(.o 807,aI 140 10 jL)]):=by
 have hall: ∀y∈([[97],[104,101,108,108,111],[97,32,108,111,110,103,101,114,32,109,101,115,115,97,103,101],[97,98,99,100],[49,50,51,52,53,54,55,56],[106,117,115,116,32,116,119,101,110,116,121,45,102,111,117,114,32,98,121,116,101,115,32,33,33],[109,105,120,101,100,32,98,108,111,99,107,115]]:List (List UInt8)),y.length≤60:=by decide
 refine vt Tryz.func97 rfl (sq (rT [0,2] (s4 (bJ (robj:=[(801,.box 92 [.d (.sl (aC (l))),.d (.i (p))])]) (rl:=[(0,801)]) (bor:=[]) (cU (l) (p) _ (by omega) hl) rfl rfl rfl rfl ⟨bU rfl rfl rfl rfl (cJ rfl rfl (aZ rfl (aF rfl (aF rfl aH)) trivial)),rfl⟩ rfl (.inl rfl) (aK ⟨rfl,trivial⟩) (fun _ hj=>nomatch hj) (s1 (sq ?_))))))
 obtain⟨i,hi,hil⟩:=zJ (show 0≤aT l p 4∧aT l p 4≤3 by have:=cG l (p:=p) (n:=4) (by omega) (by omega);omega)
 refine rE [0,2,3] (s4 (ai (by exact⟨by simp,by decide⟩) (yK 15 15 rfl rfl rfl rfl (cK (robj:=[(801,.box 92 [.d (.sl (aC (l))),.d (.i (p+1))])]) (rl:=[(0,801)]) (bor:=[]) (news:=[]) (aLu (l) (p+1) (([[97],[104,101,108,108,111],[97,32,108,111,110,103,101,114,32,109,101,115,115,97,103,101],[97,98,99,100],[49,50,51,52,53,54,55,56],[106,117,115,116,32,116,119,101,110,116,121,45,102,111,117,114,32,98,121,116,101,115,32,33,33],[109,105,120,101,100,32,98,108,111,99,107,115]]:List (List UInt8))) (by simp) (by omega) hl) rfl rfl rfl rfl ⟨bU rfl rfl rfl rfl (cJ rfl rfl (aZ rfl (aF rfl (aF rfl aH)) trivial)),rfl⟩ (by rintro _ ⟨x,hx,rfl⟩;exact⟨rfl,.inl rfl,fun j hj=>nomatch hj⟩) (aK ⟨rfl,trivial⟩) (fun j hj=>nomatch hj) ?_))))
 rintro _ ⟨x,hx,rfl⟩
 refine s1 (SW.midW (fun q=> ∃x2:List UInt8,x2.length≤60∧q=[tP 0 800,tI 2 (i:Nat),tD 3 (.s x2),oB 800 87 [.pt 801 0,.d (.i (W.tm)),.own 802 4,.own 803 3,ps 804 4 (W.a),ps 805 5 (W.b),ps 806 5 (W.c),ps 807 10 (W.d)],oB 801 92 [.d (.sl (aC l)),.d (.i ((p+1+1)))],oR 802 79 5 (aG W.ks),oR 803 4 1 (aM W.ls),(.o 804,aI 175 4 fV),(.o 805,aI 29 5 cP),(.o 806,aI 29 5 cP),(.o 807,aI 140 10 jL)]) ?_ ?_)
 · refine sq (rT [0,2,3,19] (s3 (cd rfl (fun c19=> ?_) fun c19=> ?_)))
   · refine rT [0,2,3] (s1 (ai (by simp[yz,fD,gF] at *; omega) (s1 ?_)))
     first
     |(refine wq (σ':=[tP 0 800,tI 2 (i:Nat),tD 3 (.s (x.take 24)),oB 800 87 [.pt 801 0,.d (.i (W.tm)),.own 802 4,.own 803 3,ps 804 4 (W.a),ps 805 5 (W.b),ps 806 5 (W.c),ps 807 10 (W.d)],oB 801 92 [.d (.sl (aC l)),.d (.i ((p+1+1)))],oR 802 79 5 (aG W.ks),oR 803 4 1 (aM W.ls),(.o 804,aI 175 4 fV),(.o 805,aI 29 5 cP),(.o 806,aI 29 5 cP),(.o 807,aI 140 10 jL)]) [] [] (⟨_,by rw[aVc];omega,rfl⟩) ?_
       repeat' apply ai
       all_goals try exact qx
       all_goals first|with_reducible rfl|exact congrArg D.i hi|rfl)
     |(refine wq (σ':=[tP 0 800,tI 2 (i:Nat),tD 3 (.s x),oB 800 87 [.pt 801 0,.d (.i (W.tm)),.own 802 4,.own 803 3,ps 804 4 (W.a),ps 805 5 (W.b),ps 806 5 (W.c),ps 807 10 (W.d)],oB 801 92 [.d (.sl (aC l)),.d (.i ((p+1+1)))],oR 802 79 5 (aG W.ks),oR 803 4 1 (aM W.ls),(.o 804,aI 175 4 fV),(.o 805,aI 29 5 cP),(.o 806,aI 29 5 cP),(.o 807,aI 140 10 jL)]) [] [] (⟨_,hall x hx,rfl⟩) ?_
       repeat' apply ai
       all_goals try exact qx
       all_goals first|with_reducible rfl|exact congrArg D.i hi|rfl)
   refine sk ?_
   first
   |(refine wq (σ':=[tP 0 800,tI 2 (i:Nat),tD 3 (.s (x.take 24)),oB 800 87 [.pt 801 0,.d (.i (W.tm)),.own 802 4,.own 803 3,ps 804 4 (W.a),ps 805 5 (W.b),ps 806 5 (W.c),ps 807 10 (W.d)],oB 801 92 [.d (.sl (aC l)),.d (.i ((p+1+1)))],oR 802 79 5 (aG W.ks),oR 803 4 1 (aM W.ls),(.o 804,aI 175 4 fV),(.o 805,aI 29 5 cP),(.o 806,aI 29 5 cP),(.o 807,aI 140 10 jL)]) [] [] (⟨_,by rw[aVc];omega,rfl⟩) ?_
     repeat' apply ai
     all_goals try exact qx
     all_goals first|with_reducible rfl|exact congrArg D.i hi|rfl)
   |(refine wq (σ':=[tP 0 800,tI 2 (i:Nat),tD 3 (.s x),oB 800 87 [.pt 801 0,.d (.i (W.tm)),.own 802 4,.own 803 3,ps 804 4 (W.a),ps 805 5 (W.b),ps 806 5 (W.c),ps 807 10 (W.d)],oB 801 92 [.d (.sl (aC l)),.d (.i ((p+1+1)))],oR 802 79 5 (aG W.ks),oR 803 4 1 (aM W.ls),(.o 804,aI 175 4 fV),(.o 805,aI 29 5 cP),(.o 806,aI 29 5 cP),(.o 807,aI 140 10 jL)]) [] [] (⟨_,hall x hx,rfl⟩) ?_
     repeat' apply ai
     all_goals try exact qx
     all_goals first|with_reducible rfl|exact congrArg D.i hi|rfl)
 rintro s ⟨x2,hx2,rfl⟩
 refine sq (rT [0,2,3,4] (s6 (ai (by exact⟨by rw[bD];exact hW.four,by omega,by omega⟩) (ai (by rw[aU4,cB (by rw[hW.four];omega)];exact⟨⟨by rw[bD];exact hW.four,by omega⟩,aU6 rfl,rfl⟩) (xp (gX (W.ks.getD i .zero) (by have:=(hW.at (show i<4 by omega)).1;omega)) (ai (by rw[aU4,cB (by rw[hW.four];omega)];rfl) ?_))))))
 refine s6 (SW.regDE dH mo [] 18 (fun _=>none) rfl rfl (by kernel_rfl) ?_)
 refine s6 (bJ (robj:=[(801,.box 92 [.d (.sl (aC (l))),.d (.i (p+1+1))])]) (rl:=[(0,801)]) (bor:=[]) (cU (l) (p+1+1) _ (by omega) hl) rfl rfl rfl rfl ⟨bU rfl rfl rfl rfl (cJ rfl rfl (aZ rfl (aF rfl (aF rfl aH)) trivial)),rfl⟩ rfl (.inl rfl) (aK ⟨rfl,trivial⟩) (fun _ hj=>nomatch hj) (s7 (bJ (robj:=[(801,.box 92 [.d (.sl (aC (l))),.d (.i (p+1+1+1))])]) (rl:=[(0,801)]) (bor:=[]) (cU (l) (p+1+1+1) _ (by omega) hl) rfl rfl rfl rfl ⟨bU rfl rfl rfl rfl (cJ rfl rfl (aZ rfl (aF rfl (aF rfl aH)) trivial)),rfl⟩ rfl (.inl rfl) (aK ⟨rfl,trivial⟩) (fun _ hj=>nomatch hj) (s3 (vQ (robj:=[(800,.box 87 [.pt 801 0,.d (.i (W.tm)),.own 802 4,.own 803 3,ps 804 4 (W.a),ps 805 5 (W.b),ps 806 5 (W.c),ps 807 10 (W.d)]),(801,.box 92 [.d (.sl (aC l)),.d (.i (p+1+1+1+1))]),(802,.row 79 5 (aG W.ks)),(803,.row 4 1 (aM W.ls)),(804,aI 175 4 fV),(805,aI 29 5 cP),(806,aI 29 5 cP),(807,aI 140 10 jL)]) (rl:=[]) (bor:=[]) (news:=[]) (ee l (p+1+1+1+1) W ⟨1,i,0,0,0,0,0,aT l (p+1+1) 4,wrap64 (wrap64 ((bC (W.ks.getD i .zero)).1.time+1)+aT l (p+1+1+1) 12),x2⟩ hW (by show x2.length≤1000;omega) (by omega)) rfl rfl rfl rfl ⟨bU rfl rfl rfl rfl (dD rfl (aF rfl (aF rfl (aF rfl (aF rfl (aF rfl (aF rfl (aF rfl (aF rfl (aF rfl (aF rfl aH)))))))))) (aZ rfl (eJ rfl rfl rfl (aF rfl (bK rfl rfl rfl (bK rfl rfl rfl (bE rfl rfl rfl (bE rfl rfl rfl (bE rfl rfl rfl (bE rfl rfl rfl aH)))))))) (aZ rfl (aF rfl (aF rfl aH)) (bW rfl rfl (bW rfl rfl (aY rfl rfl (aY rfl rfl (aY rfl rfl (aY rfl rfl trivial))))))))),rfl⟩ (by rintro _ ⟨W2,ok2,hw2,rfl⟩;exact⟨rfl,.inl rfl,fun j hj=>nomatch hj⟩) (aK ⟨rfl,rfl,rfl,rfl,rfl,rfl,rfl,rfl,trivial⟩) (fun j hj=>nomatch hj) ⟨_,W,false,(fI.of.refl hW).le (by omega),rfl⟩ ?_)))))
 rintro _ ⟨W2,ok2,hw2,rfl⟩
 refine ai (by kernel_rfl) (cV [oB 800 87 [.pt 801 0,.d (.i (W2.tm)),.own 802 4,.own 803 3,ps 804 4 (W2.a),ps 805 5 (W2.b),ps 806 5 (W2.c),ps 807 10 (W2.d)],oB 801 92 [.d (.sl (aC l)),.d (.i ((p+1+1+1+1)))],oR 802 79 5 (aG W2.ks),oR 803 4 1 (aM W2.ls),(.o 804,aI 175 4 fV),(.o 805,aI 29 5 cP),(.o 806,aI 29 5 cP),(.o 807,aI 140 10 jL)] ⟨W2,p+1+1+1+1,⟨hw2,by omega,by omega⟩,rfl⟩ (rq [] [] rfl ?_))
 repeat' apply ai
 all_goals try exact qx
 all_goals(first|with_reducible rfl|(rfl))
set_option maxHeartbeats 6400000 in
theorem lg (l:List UInt8) (p:Int) (W:fI) (n:Nat) (r:Int) (hp:0≤p∧p≤900000) (hl:l.length≤2000) (hW:W.ok) (hd:W.d≤99000) (hn:n≤40):qu 121 3 [tP 0 800,tI 1 (n:Nat),tI 2 r,oB 800 87 [.pt 801 0,.d (.i (W.tm)),.own 802 4,.own 803 3,ps 804 4 (W.a),ps 805 5 (W.b),ps 806 5 (W.c),ps 807 10 (W.d)],oB 801 92 [.d (.sl (aC l)),.d (.i (p))],oR 802 79 5 (aG W.ks),oR 803 4 1 (aM W.ls),(.o 804,aI 175 4 fV),(.o 805,aI 29 5 cP),(.o 806,aI 29 5 cP),(.o 807,aI 140 10 jL)] (fun s=> ∃(W2:fI) (q:Int),(W2.of W (3*n)∧p≤q∧q≤p+8*n)∧s=[oB 800 87 [.pt 801 0,.d (.i (W2.tm)),.own 802 4,.own 803 3,ps 804 4 (W2.a),ps 805 5 (W2.b),ps 806 5 (W2.c),ps 807 10 (W2.d)],oB 801 92 [.d (.sl (aC l)),.d (.i (q))],oR 802 79 5 (aG W2.ks),oR 803 4 1 (aM W2.ls),(.o 804,aI 175 4 fV),(.o 805,aI 29 5 cP),(.o 806,aI 29 5 cP),(.o 807,aI 140 10 jL)]):=by
 refine vt Tryz.func121 rfl (sq (rT [0,1,2,6,12,13,14,15,16,17,18,26,27,28,29,30,31,32,96,97,98,99,100,101] (s1 (bk (SW.loopW (n:=n) (fun x s=> ∃(i:Nat) (V:fI) (q:Int),x=n - i∧(i≤n∧V.of W (3*i)∧p≤q∧q≤p+8*i)∧s=[tP 0 800,tI 1 (n:Nat),tI 2 r,tI 6 (i:Nat),oB 800 87 [.pt 801 0,.d (.i (V.tm)),.own 802 4,.own 803 3,ps 804 4 (V.a),ps 805 5 (V.b),ps 806 5 (V.c),ps 807 10 (V.d)],oB 801 92 [.d (.sl (aC l)),.d (.i (q))],oR 802 79 5 (aG V.ks),oR 803 4 1 (aM V.ls),(.o 804,aI 175 4 fV),(.o 805,aI 29 5 cP),(.o 806,aI 29 5 cP),(.o 807,aI 140 10 jL)]) ?_ ?_)))))
 · exact wq [] [] (⟨0,W,p,rfl,⟨by omega,fI.of.refl hW,by omega,by omega⟩,rfl⟩) qz
 rintro n s ⟨i,V,q,rfl,⟨hin,hV,hq⟩,rfl⟩
 refine sq (sq (rT [0,1,2,6,12,13,14,15,16,17,18,19,26,27,28,29,30,31,32,96,97,98,99,100,101] (s4 (y4 (y1 (aCo dH rfl rfl rfl rfl rfl rk (y1 (ai pk (cd rfl (fun c19=> ?_) fun c19=> ?_)))))))))
 · have hi2:i<n:=by have h9:=c19;simp only[gb,aU7,decide_eq_true_eq] at h9;omega
   have hVd:=hV.few
   have hVo:V.ok:=hV.ok
   try simp only[fI.ok] at hVo
   refine sk (sq (bk (sq (rT [0,1,2,6,7,12,13,14,15,16,17,18,26,27,28,29,30,31,32,96,97,98,99,100,101] (s3 (SW.midW (fun s=> ∃(k w m kp q3:Int),(q≤q3∧q3≤q+5)∧s=[tP 0 800,tI 1 (n:Nat),tI 2 r,tI 6 (i:Nat),tP 7 7,oB 800 87 [.pt 801 0,.d (.i (V.tm)),.own 802 4,.own 803 3,ps 804 4 (V.a),ps 805 5 (V.b),ps 806 5 (V.c),ps 807 10 (V.d)],oB 801 92 [.d (.sl (aC l)),.d (.i (q3))],oR 802 79 5 (aG V.ks),oR 803 4 1 (aM V.ls),(.o 804,aI 175 4 fV),(.o 805,aI 29 5 cP),(.o 806,aI 29 5 cP),(.o 807,aI 140 10 jL),oB 7 140 [.d (.i (k)),.d (.i 0),.d (.i 0),.d (.i 0),.d (.i (w)),.d (.i (m)),.d (.i (kp)),.d (.i 0),.d (.i 0),.d (.s [])]]) ?_ ?_))))))
   · refine SW.midW (fun s=> ∃(cb:Bool) (q2:Int),(q≤q2∧q2≤q+1)∧s=[tP 0 800,tI 1 (n:Nat),tI 2 r,tI 6 (i:Nat),tP 7 7,tB 33 cb,oB 800 87 [.pt 801 0,.d (.i (V.tm)),.own 802 4,.own 803 3,ps 804 4 (V.a),ps 805 5 (V.b),ps 806 5 (V.c),ps 807 10 (V.d)],oB 801 92 [.d (.sl (aC l)),.d (.i (q2))],oR 802 79 5 (aG V.ks),oR 803 4 1 (aM V.ls),(.o 804,aI 175 4 fV),(.o 805,aI 29 5 cP),(.o 806,aI 29 5 cP),(.o 807,aI 140 10 jL),oB 7 140 [.d (.i (4)),.d (.i 0),.d (.i 0),.d (.i 0),.d (.i (0)),.d (.i (0)),.d (.i (0)),.d (.i 0),.d (.i 0),.d (.s [])]]) ?_ ?_
     · refine rF [0,1,2,6,7,33] (s1 (s1 (s1 (ai (fun h1=> ?_) (fun h1=> ?_)))))
       · refine s1 (ai (fun _=> ?_) (fun h=>absurd h (by rw[h1];simp)))
         refine s1 (ai (fun _=> ?_) (fun h=>absurd h (by rw[h1];simp)))
         refine s1 (ai (fun _=> ?_) (fun h=>absurd h (by rw[h1];simp)))
         refine s1 (ai (fun _=> ?_) (fun h=>absurd h (by rw[h1];simp)))
         refine s1 (ai (fun _=> ?_) (fun h=>absurd h (by rw[h1];simp)))
         refine gY (bJ (robj:=[(801,.box 92 [.d (.sl (aC (l))),.d (.i (q))])]) (rl:=[(0,801)]) (bor:=[]) (cU (l) (q) _ (by omega) hl) rfl rfl rfl rfl ⟨bU rfl rfl rfl rfl (cJ rfl rfl (aZ rfl (aF rfl (aF rfl aH)) trivial)),rfl⟩ rfl (.inl rfl) (aK ⟨rfl,trivial⟩) (fun _ hj=>nomatch hj) (ai (fun _=> ?_) (fun h=>absurd h (by rw[h1];simp))))
         exact s1 (ai pk (wq [] [] ⟨?c1,q+1,⟨by omega,by omega⟩,rfl⟩ qz))
       refine⟨I 0,?_⟩
       refine ai (fun h=>absurd h (by rw[h1];simp)) (fun _=>⟨I 0,?_⟩)
       refine ai (fun h=>absurd h (by rw[h1];simp)) (fun _=>⟨I 0,?_⟩)
       refine ai (fun h=>absurd h (by rw[h1];simp)) (fun _=>⟨I 0,?_⟩)
       refine ai (fun h=>absurd h (by rw[h1];simp)) (fun _=>⟨I 0,?_⟩)
       refine ai (fun h=>absurd h (by rw[h1];simp)) (fun _=>⟨I 0,?_⟩)
       refine ai (fun h=>absurd h (by rw[h1];simp)) (fun _=>⟨B false,?_⟩)
       exact ai (by constructor<;>intro h<;>first|trivial|exact absurd (h1.symm.trans h:false=true) (by decide)) (wq [] [] ⟨?d1,q,⟨by omega,by omega⟩,rfl⟩ qz)
     rintro s ⟨cb,q2,hq2,rfl⟩
     refine cd rfl (fun c33=> ?_) fun c33=> ?_
     · refine sq (rT [0,1,2,6,7,12,13,14,15,16,17,18,26,27,28,29,30,31,32,38,96,97,98,99,100,101] (s4 (bJ (robj:=[(801,.box 92 [.d (.sl (aC (l))),.d (.i (q2))])]) (rl:=[(0,801)]) (bor:=[]) (cU (l) (q2) _ (by omega) hl) rfl rfl rfl rfl ⟨bU rfl rfl rfl rfl (cJ rfl rfl (aZ rfl (aF rfl (aF rfl aH)) trivial)),rfl⟩ rfl (.inl rfl) (aK ⟨rfl,trivial⟩) (fun _ hj=>nomatch hj) (bk (sq (rT [0,1,2,6,7,12,13,14,15,16,17,18,26,27,28,29,30,31,32,38,51,96,97,98,99,100,101] (s2 (cd rfl (fun c51=> ?_) fun c51=> ?_))))))))
       · refine rT [0,1,2,6,7,12,13,14,15,16,17,18,26,27,28,29,30,31,32,96,97,98,99,100,101] (s2 ?_)
         first
         |(exact wq [] [] ⟨5,0,0,0,(q2+1),⟨by omega,by omega⟩,rfl⟩ qz)
         |(exact wq [] [] ⟨4,0,0,1,(q2+1),⟨by omega,by omega⟩,rfl⟩ qz)
         |(exact wq [] [] ⟨4,(aT l (q2+1) (V.a:Int)),0,0,(q2+1+1),⟨by omega,by omega⟩,rfl⟩ qz)
         |(exact wq [] [] ⟨6,(aT l (q2+1) (V.a:Int)),(aT l (q2+1+1) 17),(wrap64 (1+(aT l (q2+1+1+1) 255))),(q2+1+1+1+1),⟨by omega,by omega⟩,rfl⟩ qz)
         |(exact wq [] [] ⟨4,0,0,0,q2,⟨by omega,by omega⟩,rfl⟩ qz)
       refine sq (rT [0,1,2,6,7,12,13,14,15,16,17,18,26,27,28,29,30,31,32,38,54,96,97,98,99,100,101] (s2 (cd rfl (fun c54=> ?_) fun c54=> ?_)))
       · refine rT [0,1,2,6,7,12,13,14,15,16,17,18,26,27,28,29,30,31,32,96,97,98,99,100,101] (s2 ?_)
         first
         |(exact wq [] [] ⟨5,0,0,0,(q2+1),⟨by omega,by omega⟩,rfl⟩ qz)
         |(exact wq [] [] ⟨4,0,0,1,(q2+1),⟨by omega,by omega⟩,rfl⟩ qz)
         |(exact wq [] [] ⟨4,(aT l (q2+1) (V.a:Int)),0,0,(q2+1+1),⟨by omega,by omega⟩,rfl⟩ qz)
         |(exact wq [] [] ⟨6,(aT l (q2+1) (V.a:Int)),(aT l (q2+1+1) 17),(wrap64 (1+(aT l (q2+1+1+1) 255))),(q2+1+1+1+1),⟨by omega,by omega⟩,rfl⟩ qz)
         |(exact wq [] [] ⟨4,0,0,0,q2,⟨by omega,by omega⟩,rfl⟩ qz)
       refine sq (rT [0,1,2,6,7,12,13,14,15,16,17,18,26,27,28,29,30,31,32,57,96,97,98,99,100,101] (s2 (cd rfl (fun c57=> ?_) fun c57=> ?_)))
       · refine sq (rT [0,1,2,6,7,12,13,14,15,16,17,18,26,27,28,29,30,31,32,96,97,98,99,100,101] (s2 (sq (rD [0,1,2,6,7,12,13,14,15,16,17,18,26,27,28,29,30,31,32,96,97,98,99,100,101] (s9 (fw dH rfl rfl rfl rfl rfl (bJ (robj:=[(801,.box 92 [.d (.sl (aC (l))),.d (.i (q2+1))])]) (rl:=[(0,801)]) (bor:=[]) (cU (l) (q2+1) _ (by omega) hl) rfl rfl rfl rfl ⟨bU rfl rfl rfl rfl (cJ rfl rfl (aZ rfl (aF rfl (aF rfl aH)) trivial)),rfl⟩ rfl (.inl rfl) (aK ⟨rfl,trivial⟩) (fun _ hj=>nomatch hj) (s2 (ai (by kernel_rfl) (sq (rT [0,1,2,6,7,12,13,14,15,16,17,18,26,27,28,29,30,31,32,96,97,98,99,100,101] (s4 (bJ (robj:=[(801,.box 92 [.d (.sl (aC (l))),.d (.i (q2+1+1))])]) (rl:=[(0,801)]) (bor:=[]) (cU (l) (q2+1+1) _ (by omega) hl) rfl rfl rfl rfl ⟨bU rfl rfl rfl rfl (cJ rfl rfl (aZ rfl (aF rfl (aF rfl aH)) trivial)),rfl⟩ rfl (.inl rfl) (aK ⟨rfl,trivial⟩) (fun _ hj=>nomatch hj) ?_)))))))))))))
         refine s2 (rT [0,1,2,6,7,12,13,14,15,16,17,18,26,27,28,29,30,31,32,96,97,98,99,100,101] (s4 (bJ (robj:=[(801,.box 92 [.d (.sl (aC (l))),.d (.i (q2+1+1+1))])]) (rl:=[(0,801)]) (bor:=[]) (cU (l) (q2+1+1+1) _ (by omega) hl) rfl rfl rfl rfl ⟨bU rfl rfl rfl rfl (cJ rfl rfl (aZ rfl (aF rfl (aF rfl aH)) trivial)),rfl⟩ rfl (.inl rfl) (aK ⟨rfl,trivial⟩) (fun _ hj=>nomatch hj) (s3 ?_))))
         first
         |(exact wq [] [] ⟨5,0,0,0,(q2+1),⟨by omega,by omega⟩,rfl⟩ qz)
         |(exact wq [] [] ⟨4,0,0,1,(q2+1),⟨by omega,by omega⟩,rfl⟩ qz)
         |(exact wq [] [] ⟨4,(aT l (q2+1) (V.a:Int)),0,0,(q2+1+1),⟨by omega,by omega⟩,rfl⟩ qz)
         |(exact wq [] [] ⟨6,(aT l (q2+1) (V.a:Int)),(aT l (q2+1+1) 17),(wrap64 (1+(aT l (q2+1+1+1) 255))),(q2+1+1+1+1),⟨by omega,by omega⟩,rfl⟩ qz)
         |(exact wq [] [] ⟨4,0,0,0,q2,⟨by omega,by omega⟩,rfl⟩ qz)
       refine rD [0,1,2,6,7,12,13,14,15,16,17,18,26,27,28,29,30,31,32,96,97,98,99,100,101] (s9 (fw dH rfl rfl rfl rfl rfl (bJ (robj:=[(801,.box 92 [.d (.sl (aC (l))),.d (.i (q2+1))])]) (rl:=[(0,801)]) (bor:=[]) (cU (l) (q2+1) _ (by omega) hl) rfl rfl rfl rfl ⟨bU rfl rfl rfl rfl (cJ rfl rfl (aZ rfl (aF rfl (aF rfl aH)) trivial)),rfl⟩ rfl (.inl rfl) (aK ⟨rfl,trivial⟩) (fun _ hj=>nomatch hj) (s2 (ai (by kernel_rfl) ?_)))))
       first
       |(exact wq [] [] ⟨5,0,0,0,(q2+1),⟨by omega,by omega⟩,rfl⟩ qz)
       |(exact wq [] [] ⟨4,0,0,1,(q2+1),⟨by omega,by omega⟩,rfl⟩ qz)
       |(exact wq [] [] ⟨4,(aT l (q2+1) (V.a:Int)),0,0,(q2+1+1),⟨by omega,by omega⟩,rfl⟩ qz)
       |(exact wq [] [] ⟨6,(aT l (q2+1) (V.a:Int)),(aT l (q2+1+1) 17),(wrap64 (1+(aT l (q2+1+1+1) 255))),(q2+1+1+1+1),⟨by omega,by omega⟩,rfl⟩ qz)
       |(exact wq [] [] ⟨4,0,0,0,q2,⟨by omega,by omega⟩,rfl⟩ qz)
     refine sk ?_
     first
     |(exact wq [] [] ⟨5,0,0,0,(q2+1),⟨by omega,by omega⟩,rfl⟩ qz)
     |(exact wq [] [] ⟨4,0,0,1,(q2+1),⟨by omega,by omega⟩,rfl⟩ qz)
     |(exact wq [] [] ⟨4,(aT l (q2+1) (V.a:Int)),0,0,(q2+1+1),⟨by omega,by omega⟩,rfl⟩ qz)
     |(exact wq [] [] ⟨6,(aT l (q2+1) (V.a:Int)),(aT l (q2+1+1) 17),(wrap64 (1+(aT l (q2+1+1+1) 255))),(q2+1+1+1+1),⟨by omega,by omega⟩,rfl⟩ qz)
     |(exact wq [] [] ⟨4,0,0,0,q2,⟨by omega,by omega⟩,rfl⟩ qz)
   rintro s ⟨k,w,m,kp,q3,hq3,rfl⟩
   refine SW.midW (fun s=> ∃V3:fI,V3.of V 2∧s=[tP 0 800,tI 1 (n:Nat),tI 2 r,tI 6 (i:Nat),tP 7 7,oB 800 87 [.pt 801 0,.d (.i (V3.tm)),.own 802 4,.own 803 3,ps 804 4 (V3.a),ps 805 5 (V3.b),ps 806 5 (V3.c),ps 807 10 (V3.d)],oB 801 92 [.d (.sl (aC l)),.d (.i (q3))],oR 802 79 5 (aG V3.ks),oR 803 4 1 (aM V3.ls),(.o 804,aI 175 4 fV),(.o 805,aI 29 5 cP),(.o 806,aI 29 5 cP),(.o 807,aI 140 10 jL),oB 7 140 [.d (.i (k)),.d (.i 0),.d (.i 0),.d (.i 0),.d (.i (w)),.d (.i (m)),.d (.i (kp)),.d (.i 0),.d (.i 0),.d (.s [])]]) ?_ ?_
   · refine sq (rE [0,1,2,6,7,12,13,14,15,16,17,18,26,27,28,29,30,31,32,88,96,97,98,99,100,101] (s2 (cK (robj:=[(800,.box 87 [.pt 801 0,.d (.i (V.tm)),.own 802 4,.own 803 3,ps 804 4 (V.a),ps 805 5 (V.b),ps 806 5 (V.c),ps 807 10 (V.d)]),(801,.box 92 [.d (.sl (aC l)),.d (.i (q3))]),(802,.row 79 5 (aG V.ks)),(803,.row 4 1 (aM V.ls)),(804,aI 175 4 fV),(805,aI 29 5 cP),(806,aI 29 5 cP),(807,aI 140 10 jL)]) (rl:=[]) (bor:=[]) (news:=[]) (ee l (q3) V ⟨k,0,0,0,w,m,kp,0,0,[]⟩ hV.ok (by simp) (by omega)) rfl rfl rfl rfl ⟨bU rfl rfl rfl rfl (dD rfl (aF rfl (aF rfl (aF rfl (aF rfl (aF rfl (aF rfl (aF rfl (aF rfl (aF rfl (aF rfl aH)))))))))) (aZ rfl (eJ rfl rfl rfl (aF rfl (bK rfl rfl rfl (bK rfl rfl rfl (bE rfl rfl rfl (bE rfl rfl rfl (bE rfl rfl rfl (bE rfl rfl rfl aH)))))))) (aZ rfl (aF rfl (aF rfl aH)) (bW rfl rfl (bW rfl rfl (aY rfl rfl (aY rfl rfl (aY rfl rfl (aY rfl rfl trivial))))))))),rfl⟩ (by rintro _ ⟨W2,ok2,hw2,rfl⟩;exact⟨rfl,.inl rfl,fun j hj=>nomatch hj⟩) (aK ⟨rfl,rfl,rfl,rfl,rfl,rfl,rfl,rfl,trivial⟩) (fun j hj=>nomatch hj) ?_)))
     rintro _ ⟨W2,ok2,hw2,rfl⟩
     refine s1 (cd rfl (fun c88=> ?_) fun c88=> ?_)
     · refine rE [0,1,2,6,7,12,13,14,15,16,17,18,26,27,28,29,30,31,32,96,97,98,99,100,101] (s2 (cK (robj:=[(800,.box 87 [.pt 801 0,.d (.i (W2.tm)),.own 802 4,.own 803 3,ps 804 4 (W2.a),ps 805 5 (W2.b),ps 806 5 (W2.c),ps 807 10 (W2.d)]),(801,.box 92 [.d (.sl (aC l)),.d (.i (q3))]),(802,.row 79 5 (aG W2.ks)),(803,.row 4 1 (aM W2.ls)),(804,aI 175 4 fV),(805,aI 29 5 cP),(806,aI 29 5 cP),(807,aI 140 10 jL)]) (rl:=[]) (bor:=[]) (news:=[]) (ee l (q3) W2 ⟨5,0,0,0,0,0,0,0,0,[]⟩ hw2.ok (by simp) (by have:=hw2.few;omega)) rfl rfl rfl rfl ⟨bU rfl rfl rfl rfl (dD rfl (aF rfl (aF rfl (aF rfl (aF rfl (aF rfl (aF rfl (aF rfl (aF rfl (aF rfl (aF rfl aH)))))))))) (aZ rfl (eJ rfl rfl rfl (aF rfl (bK rfl rfl rfl (bK rfl rfl rfl (bE rfl rfl rfl (bE rfl rfl rfl (bE rfl rfl rfl (bE rfl rfl rfl aH)))))))) (aZ rfl (aF rfl (aF rfl aH)) (bW rfl rfl (bW rfl rfl (aY rfl rfl (aY rfl rfl (aY rfl rfl (aY rfl rfl trivial))))))))),rfl⟩ (by rintro _ ⟨W25,ok25,hw25,rfl⟩;exact⟨rfl,.inl rfl,fun j hj=>nomatch hj⟩) (aK ⟨rfl,rfl,rfl,rfl,rfl,rfl,rfl,rfl,trivial⟩) (fun j hj=>nomatch hj) ?_))
       rintro _ ⟨W25,ok25,hw25,rfl⟩
       first
       |(exact wq [] [] ⟨W25,(hw2.trans hw25),rfl⟩ qz)
       |(exact wq [] [] ⟨W2,(hw2.le (by omega)),rfl⟩ qz)
     refine sk ?_
     first
     |(exact wq [] [] ⟨W25,(hw2.trans hw25),rfl⟩ qz)
     |(exact wq [] [] ⟨W2,(hw2.le (by omega)),rfl⟩ qz)
   rintro s ⟨V3,hV3,rfl⟩
   have hV3d:=hV3.few
   refine SW.midW (fun s=> ∃(cb:Bool) (q4:Int),(q3≤q4∧q4≤q3+1)∧s=[tP 0 800,tI 1 (n:Nat),tI 2 r,tI 6 (i:Nat),tP 7 7,tB 102 cb,oB 800 87 [.pt 801 0,.d (.i (V3.tm)),.own 802 4,.own 803 3,ps 804 4 (V3.a),ps 805 5 (V3.b),ps 806 5 (V3.c),ps 807 10 (V3.d)],oB 801 92 [.d (.sl (aC l)),.d (.i (q4))],oR 802 79 5 (aG V3.ks),oR 803 4 1 (aM V3.ls),(.o 804,aI 175 4 fV),(.o 805,aI 29 5 cP),(.o 806,aI 29 5 cP),(.o 807,aI 140 10 jL),oB 7 140 [.d (.i (k)),.d (.i 0),.d (.i 0),.d (.i 0),.d (.i (w)),.d (.i (m)),.d (.i (kp)),.d (.i 0),.d (.i 0),.d (.s [])]]) ?_ ?_
   · refine rF [0,1,2,6,7,102] (s1 (s1 (s1 (s1 (ai (fun h1=> ?_) (fun h1=> ?_))))))
     · refine s1 (ai (fun _=> ?_) (fun h=>absurd h (by rw[h1];simp)))
       refine s1 (ai (fun _=> ?_) (fun h=>absurd h (by rw[h1];simp)))
       refine s1 (ai (fun _=> ?_) (fun h=>absurd h (by rw[h1];simp)))
       refine s1 (ai (fun _=> ?_) (fun h=>absurd h (by rw[h1];simp)))
       refine gY (bJ (robj:=[(801,.box 92 [.d (.sl (aC (l))),.d (.i (q3))])]) (rl:=[(0,801)]) (bor:=[]) (cU (l) (q3) _ (by omega) hl) rfl rfl rfl rfl ⟨bU rfl rfl rfl rfl (cJ rfl rfl (aZ rfl (aF rfl (aF rfl aH)) trivial)),rfl⟩ rfl (.inl rfl) (aK ⟨rfl,trivial⟩) (fun _ hj=>nomatch hj) (ai (fun _=> ?_) (fun h=>absurd h (by rw[h1];simp))))
       exact s1 (ai pk (wq [] [] ⟨?c2,q3+1,⟨by omega,by omega⟩,rfl⟩ qz))
     refine⟨I 0,?_⟩
     refine ai (fun h=>absurd h (by rw[h1];simp)) (fun _=>⟨I 0,?_⟩)
     refine ai (fun h=>absurd h (by rw[h1];simp)) (fun _=>⟨I 0,?_⟩)
     refine ai (fun h=>absurd h (by rw[h1];simp)) (fun _=>⟨I 0,?_⟩)
     refine ai (fun h=>absurd h (by rw[h1];simp)) (fun _=>⟨I 0,?_⟩)
     refine ai (fun h=>absurd h (by rw[h1];simp)) (fun _=>⟨B false,?_⟩)
     exact ai (by constructor<;>intro h<;>first|trivial|exact absurd (h1.symm.trans h:false=true) (by decide)) (wq [] [] ⟨?d2,q3,⟨by omega,by omega⟩,rfl⟩ qz)
   rintro s ⟨cb2,q4,hq4,rfl⟩
   refine cd rfl (fun c102=> ?_) fun c102=> ?_
   · refine sq (rT [0,1,2,6,7,12,13,14,15,16,17,18,26,27,28,29,30,31,32,96,97,98,99,100,101] (s4 (bJ (robj:=[(801,.box 92 [.d (.sl (aC (l))),.d (.i (q4))])]) (rl:=[(0,801)]) (bor:=[]) (cU (l) (q4) _ (by omega) hl) rfl rfl rfl rfl ⟨bU rfl rfl rfl rfl (cJ rfl rfl (aZ rfl (aF rfl (aF rfl aH)) trivial)),rfl⟩ rfl (.inl rfl) (aK ⟨rfl,trivial⟩) (fun _ hj=>nomatch hj) (s2 (sq (rT [0,1,2,6,7,12,13,14,15,16,17,18,26,27,28,29,30,31,32,96,97,98,99,100,101] (s4 (bJ (robj:=[(801,.box 92 [.d (.sl (aC (l))),.d (.i (q4+1))])]) (rl:=[(0,801)]) (bor:=[]) (cU (l) (q4+1) _ (by omega) hl) rfl rfl rfl rfl ⟨bU rfl rfl rfl rfl (cJ rfl rfl (aZ rfl (aF rfl (aF rfl aH)) trivial)),rfl⟩ rfl (.inl rfl) (aK ⟨rfl,trivial⟩) (fun _ hj=>nomatch hj) (s3 (rE [0,1,2,6,12,13,14,15,16,17,18,26,27,28,29,30,31,32,96,97,98,99,100,101] (s2 (cK (robj:=[(800,.box 87 [.pt 801 0,.d (.i (V3.tm)),.own 802 4,.own 803 3,ps 804 4 (V3.a),ps 805 5 (V3.b),ps 806 5 (V3.c),ps 807 10 (V3.d)]),(801,.box 92 [.d (.sl (aC l)),.d (.i (q4+1+1))]),(802,.row 79 5 (aG V3.ks)),(803,.row 4 1 (aM V3.ls)),(804,aI 175 4 fV),(805,aI 29 5 cP),(806,aI 29 5 cP),(807,aI 140 10 jL)]) (rl:=[]) (bor:=[]) (news:=[]) (ee l (q4+1+1) V3 ⟨k,0,0,0,w,(aT l (q4) 17),(wrap64 (1+(aT l (q4+1) 255))),0,0,[]⟩ hV3.ok (by simp) (by omega)) rfl rfl rfl rfl ⟨bU rfl rfl rfl rfl (dD rfl (aF rfl (aF rfl (aF rfl (aF rfl (aF rfl (aF rfl (aF rfl (aF rfl (aF rfl (aF rfl aH)))))))))) (aZ rfl (eJ rfl rfl rfl (aF rfl (bK rfl rfl rfl (bK rfl rfl rfl (bE rfl rfl rfl (bE rfl rfl rfl (bE rfl rfl rfl (bE rfl rfl rfl aH)))))))) (aZ rfl (aF rfl (aF rfl aH)) (bW rfl rfl (bW rfl rfl (aY rfl rfl (aY rfl rfl (aY rfl rfl (aY rfl rfl trivial))))))))),rfl⟩ (by rintro _ ⟨W24,ok24,hw24,rfl⟩;exact⟨rfl,.inl rfl,fun j hj=>nomatch hj⟩) (aK ⟨rfl,rfl,rfl,rfl,rfl,rfl,rfl,rfl,trivial⟩) (fun j hj=>nomatch hj) ?_))))))))))))
     rintro _ ⟨W24,ok24,hw24,rfl⟩
     refine rT [0,1,2,6,12,13,14,15,16,17,18,26,27,28,29,30,31,32,96,97,98,99,100,101] (s3 ?_)
     first
     |(refine wq [] [] ⟨n - (i+1),by omega,i+1,W24,(q4+1+1),rfl,⟨by omega,((hV.trans (hV3.trans hw24)).le (by omega)),by omega,by omega⟩,rfl⟩ ?_
       repeat' apply ai
       all_goals try exact qx
       all_goals first|with_reducible rfl|exact congrArg D.i (aE (by omega))|rfl)
     |(refine wq [] [] ⟨n - (i+1),by omega,i+1,V3,q4,rfl,⟨by omega,((hV.trans hV3).le (by omega)),by omega,by omega⟩,rfl⟩ ?_
       repeat' apply ai
       all_goals try exact qx
       all_goals first|with_reducible rfl|exact congrArg D.i (aE (by omega))|rfl)
   refine sk (rT [0,1,2,6,12,13,14,15,16,17,18,26,27,28,29,30,31,32,96,97,98,99,100,101] (s3 ?_))
   first
   |(refine wq [] [] ⟨n - (i+1),by omega,i+1,W24,(q4+1+1),rfl,⟨by omega,((hV.trans (hV3.trans hw24)).le (by omega)),by omega,by omega⟩,rfl⟩ ?_
     repeat' apply ai
     all_goals try exact qx
     all_goals first|with_reducible rfl|exact congrArg D.i (aE (by omega))|rfl)
   |(refine wq [] [] ⟨n - (i+1),by omega,i+1,V3,q4,rfl,⟨by omega,((hV.trans hV3).le (by omega)),by omega,by omega⟩,rfl⟩ ?_
     repeat' apply ai
     all_goals try exact qx
     all_goals first|with_reducible rfl|exact congrArg D.i (aE (by omega))|rfl)
 refine xt (cV [oB 800 87 [.pt 801 0,.d (.i (V.tm)),.own 802 4,.own 803 3,ps 804 4 (V.a),ps 805 5 (V.b),ps 806 5 (V.c),ps 807 10 (V.d)],oB 801 92 [.d (.sl (aC l)),.d (.i (q))],oR 802 79 5 (aG V.ks),oR 803 4 1 (aM V.ls),(.o 804,aI 175 4 fV),(.o 805,aI 29 5 cP),(.o 806,aI 29 5 cP),(.o 807,aI 140 10 jL)] ⟨V,q,⟨hV.le (by omega),by omega,by omega⟩,rfl⟩ (rq [] [] rfl ?_))
 repeat' apply ai
 all_goals try exact qx
 all_goals(first|with_reducible rfl|(rfl))
set_option maxHeartbeats 3200000 in
theorem qw (l:List UInt8) (p:Int) (W:fI) (n:Nat) (r:Int) (hp:0≤p∧p≤890000) (hl:l.length≤2000) (hW:W.ok) (hd:W.d≤98000) (hn:n≤7):qu 120 3 [tP 0 800,tI 1 (n:Nat),tI 2 r,oB 800 87 [.pt 801 0,.d (.i (W.tm)),.own 802 4,.own 803 3,ps 804 4 (W.a),ps 805 5 (W.b),ps 806 5 (W.c),ps 807 10 (W.d)],oB 801 92 [.d (.sl (aC l)),.d (.i (p))],oR 802 79 5 (aG W.ks),oR 803 4 1 (aM W.ls),(.o 804,aI 175 4 fV),(.o 805,aI 29 5 cP),(.o 806,aI 29 5 cP),(.o 807,aI 140 10 jL)] (fun s=> ∃(W2:fI) (q:Int),(W2.of W 40∧p≤q∧q≤p+100)∧s=[oB 800 87 [.pt 801 0,.d (.i (W2.tm)),.own 802 4,.own 803 3,ps 804 4 (W2.a),ps 805 5 (W2.b),ps 806 5 (W2.c),ps 807 10 (W2.d)],oB 801 92 [.d (.sl (aC l)),.d (.i (q))],oR 802 79 5 (aG W2.ks),oR 803 4 1 (aM W2.ls),(.o 804,aI 175 4 fV),(.o 805,aI 29 5 cP),(.o 806,aI 29 5 cP),(.o 807,aI 140 10 jL)]):=by
 refine vt Tryz.func120 rfl (sq (rE [0,1,2,6,7,8] (s1 (cK (robj:=[(800,.box 87 [.pt 801 0,.d (.i (W.tm)),.own 802 4,.own 803 3,ps 804 4 (W.a),ps 805 5 (W.b),ps 806 5 (W.c),ps 807 10 (W.d)]),(801,.box 92 [.d (.sl (aC l)),.d (.i (p))]),(802,.row 79 5 (aG W.ks)),(803,.row 4 1 (aM W.ls)),(804,aI 175 4 fV),(805,aI 29 5 cP),(806,aI 29 5 cP),(807,aI 140 10 jL)]) (rl:=[]) (bor:=[]) (news:=[]) (aS8 l p W (by omega) hl hW (by omega)) rfl rfl rfl rfl ⟨bU rfl rfl rfl rfl (aZ rfl (eJ rfl rfl rfl (aF rfl (bK rfl rfl rfl (bK rfl rfl rfl (bE rfl rfl rfl (bE rfl rfl rfl (bE rfl rfl rfl (bE rfl rfl rfl aH)))))))) (aZ rfl (aF rfl (aF rfl aH)) (bW rfl rfl (bW rfl rfl (aY rfl rfl (aY rfl rfl (aY rfl rfl (aY rfl rfl trivial)))))))),rfl⟩ (by rintro _ ⟨i0,n1,ok1,q1,hq1,rfl⟩;exact⟨rfl,.inl rfl,fun j hj=>nomatch hj⟩) (aK ⟨rfl,rfl,rfl,rfl,rfl,rfl,rfl,rfl,trivial⟩) (fun j hj=>nomatch hj) ?_))))
 rintro _ ⟨i0,n1,ok1,q1,hq1,rfl⟩
 refine s8 (sq (sq (rT [0,1,2,6,7,18] (s2 (cd rfl (fun c18=> ?_) fun c18=> ?_)))))
 · refine rt (cV [oB 800 87 [.pt 801 0,.d (.i (W.tm)),.own 802 4,.own 803 3,ps 804 4 (W.a),ps 805 5 (W.b),ps 806 5 (W.c),ps 807 10 (W.d)],oB 801 92 [.d (.sl (aC l)),.d (.i (q1))],oR 802 79 5 (aG W.ks),oR 803 4 1 (aM W.ls),(.o 804,aI 175 4 fV),(.o 805,aI 29 5 cP),(.o 806,aI 29 5 cP),(.o 807,aI 140 10 jL)] ⟨W,q1,⟨(fI.of.refl hW).le (by omega),by omega,by omega⟩,rfl⟩ (rq [] [] rfl ?_))
   repeat' apply ai
   all_goals try exact qx
   all_goals(first|with_reducible rfl|(rfl))
 refine sk (sq (rD [0,1,2,6,7,9] (s4 (bJ (robj:=[(801,.box 92 [.d (.sl (aC (l))),.d (.i (q1))])]) (rl:=[(0,801)]) (bor:=[]) (cU (l) (q1) _ (by omega) hl) rfl rfl rfl rfl ⟨bU rfl rfl rfl rfl (cJ rfl rfl (aZ rfl (aF rfl (aF rfl aH)) trivial)),rfl⟩ rfl (.inl rfl) (aK ⟨rfl,trivial⟩) (fun _ hj=>nomatch hj) (s4 (bJ (robj:=[(801,.box 92 [.d (.sl (aC (l))),.d (.i (q1+1))])]) (rl:=[(0,801)]) (bor:=[]) (cU (l) (q1+1) _ (by omega) hl) rfl rfl rfl rfl ⟨bU rfl rfl rfl rfl (cJ rfl rfl (aZ rfl (aF rfl (aF rfl aH)) trivial)),rfl⟩ rfl (.inl rfl) (aK ⟨rfl,trivial⟩) (fun _ hj=>nomatch hj) (s2 (ai (by kernel_rfl) (sq (sq (rT [0,1,2,6,7,9,10] (s1 (bk ?_)))))))))))))
 obtain⟨m9,hm9⟩: ∃m9:Int,m9=wrap64 (aT l q1 2*aT l (q1+1) 40):=⟨_,rfl⟩
 refine SW.loopW (n:=n) (fun x s=> ∃(i:Nat) (V:fI),x=n - i∧(i≤n∧V.of W i)∧s=[tP 0 800,tI 1 (n:Nat),tI 2 r,tI 10 (i:Nat),tI 6 i0,tP 7 7,tI 9 m9,oB 800 87 [.pt 801 0,.d (.i (V.tm)),.own 802 4,.own 803 3,ps 804 4 (V.a),ps 805 5 (V.b),ps 806 5 (V.c),ps 807 10 (V.d)],oB 801 92 [.d (.sl (aC l)),.d (.i (q1+1+1))],oR 802 79 5 (aG V.ks),oR 803 4 1 (aM V.ls),(.o 804,aI 175 4 fV),(.o 805,aI 29 5 cP),(.o 806,aI 29 5 cP),(.o 807,aI 140 10 jL),oB 7 29 [.d (.i n1.frm),.d (.i n1.num),.d (.i n1.to),.d (.i n1.til),.d (.s n1.text)]]) ?_ ?_
 · refine wq [] [] (⟨0,W,rfl,⟨by omega,fI.of.refl hW⟩,rfl⟩) ?_
   repeat' apply ai
   all_goals first|exact qx|exact congrArg D.i hm9.symm|rfl|exact qz
 rintro n s ⟨i,V,rfl,⟨hin,hV⟩,rfl⟩
 have hVd:=hV.few
 refine sq (sq (rT [0,1,2,6,7,9,10,32] (s3 (cd rfl (fun c32=> ?_) fun c32=> ?_))))
 · have hi2:i<n:=by simp at c32;omega
   refine sk (sq (bk (rE [0,1,2,6,7,9,10] (s9 (s1 (cK (robj:=[(800,.box 87 [.pt 801 0,.d (.i (V.tm)),.own 802 4,.own 803 3,ps 804 4 (V.a),ps 805 5 (V.b),ps 806 5 (V.c),ps 807 10 (V.d)]),(801,.box 92 [.d (.sl (aC l)),.d (.i (q1+1+1))]),(802,.row 79 5 (aG V.ks)),(803,.row 4 1 (aM V.ls)),(804,aI 175 4 fV),(805,aI 29 5 cP),(806,aI 29 5 cP),(807,aI 140 10 jL)]) (rl:=[]) (bor:=[]) (news:=[]) (ee l (q1+1+1) V ⟨3,i0,n1.frm,n1.num,0,wrap64 (m9+i),0,0,0,[]⟩ hV.ok (by simp) (by omega)) rfl rfl rfl rfl ⟨bU rfl rfl rfl rfl (dD rfl (aF rfl (aF rfl (aF rfl (aF rfl (aF rfl (aF rfl (aF rfl (aF rfl (aF rfl (aF rfl aH)))))))))) (aZ rfl (eJ rfl rfl rfl (aF rfl (bK rfl rfl rfl (bK rfl rfl rfl (bE rfl rfl rfl (bE rfl rfl rfl (bE rfl rfl rfl (bE rfl rfl rfl aH)))))))) (aZ rfl (aF rfl (aF rfl aH)) (bW rfl rfl (bW rfl rfl (aY rfl rfl (aY rfl rfl (aY rfl rfl (aY rfl rfl trivial))))))))),rfl⟩ (by rintro _ ⟨W2,ok2,hw2,rfl⟩;exact⟨rfl,.inl rfl,fun j hj=>nomatch hj⟩) (aK ⟨rfl,rfl,rfl,rfl,rfl,rfl,rfl,rfl,trivial⟩) (fun j hj=>nomatch hj) ?_))))))
   rintro _ ⟨W2,ok2,hw2,rfl⟩
   refine rT [0,1,2,6,7,9,10] (s3 (wq [] [] (⟨n - (i+1),by omega,i+1,W2,rfl,⟨by omega,hV.trans hw2⟩,rfl⟩) ?_))
   repeat' apply ai
   all_goals first|exact qx|exact congrArg D.i (aE (by omega))|rfl|exact qz
 refine xt ?_
 obtain⟨m,hm,hml⟩: ∃m:Nat,aT l (q1+1+1) (wrap64 ((n:Int)+4))=(m:Int)∧m≤10:=by have:=cG l (p:=q1+1+1) (n:=wrap64 ((n:Int)+4)) (by omega) (by rw[aE (by omega)];omega);rw[aE (n:=(n:Int)+4) (by omega)] at *; exact⟨(aT l (q1+1+1) ((n:Int)+4)).toNat,by omega,by omega⟩
 refine rE [] (s7 (gY (bJ (robj:=[(801,.box 92 [.d (.sl (aC (l))),.d (.i (q1+1+1))])]) (rl:=[(0,801)]) (bor:=[]) (cU (l) (q1+1+1) _ (by omega) hl) rfl rfl rfl rfl ⟨bU rfl rfl rfl rfl (cJ rfl rfl (aZ rfl (aF rfl (aF rfl aH)) trivial)),rfl⟩ rfl (.inl rfl) (aK ⟨rfl,trivial⟩) (fun _ hj=>nomatch hj) (s1 (cK (robj:=[(800,.box 87 [.pt 801 0,.d (.i (V.tm)),.own 802 4,.own 803 3,ps 804 4 (V.a),ps 805 5 (V.b),ps 806 5 (V.c),ps 807 10 (V.d)]),(801,.box 92 [.d (.sl (aC l)),.d (.i (q1+1+1+1))]),(802,.row 79 5 (aG V.ks)),(803,.row 4 1 (aM V.ls)),(804,aI 175 4 fV),(805,aI 29 5 cP),(806,aI 29 5 cP),(807,aI 140 10 jL)]) (rl:=[]) (bor:=[]) (news:=[]) (lg l (q1+1+1+1) V m r (by omega) hl hV.ok (by omega) (by omega)) rfl rfl rfl rfl ⟨bU rfl rfl rfl rfl (cJ rfl (congrArg D.i hm) (cJ rfl rfl (aZ rfl (eJ rfl rfl rfl (aF rfl (bK rfl rfl rfl (bK rfl rfl rfl (bE rfl rfl rfl (bE rfl rfl rfl (bE rfl rfl rfl (bE rfl rfl rfl aH)))))))) (aZ rfl (aF rfl (aF rfl aH)) (bW rfl rfl (bW rfl rfl (aY rfl rfl (aY rfl rfl (aY rfl rfl (aY rfl rfl trivial)))))))))),rfl⟩ (by rintro _ ⟨W2,q2,hw2,rfl⟩;exact⟨rfl,.inl rfl,fun j hj=>nomatch hj⟩) (aK ⟨rfl,rfl,rfl,rfl,rfl,rfl,rfl,rfl,trivial⟩) (fun j hj=>nomatch hj) ?_)))))
 rintro _ ⟨W2,q2,hw2,rfl⟩
 refine cV [oB 800 87 [.pt 801 0,.d (.i (W2.tm)),.own 802 4,.own 803 3,ps 804 4 (W2.a),ps 805 5 (W2.b),ps 806 5 (W2.c),ps 807 10 (W2.d)],oB 801 92 [.d (.sl (aC l)),.d (.i (q2))],oR 802 79 5 (aG W2.ks),oR 803 4 1 (aM W2.ls),(.o 804,aI 175 4 fV),(.o 805,aI 29 5 cP),(.o 806,aI 29 5 cP),(.o 807,aI 140 10 jL)] ⟨W2,q2,⟨(hV.trans hw2.1).le (by omega),by omega,by omega⟩,rfl⟩ (rq [] [] rfl ?_)
 repeat' apply ai
 all_goals try exact qx
 all_goals(first|with_reducible rfl|(rfl))
set_option maxHeartbeats 6400000 in
theorem aS9 (l:List UInt8) (p:Int) (W:fI) (hp:0≤p∧p≤880000) (hl:l.length≤2000) (hW:W.ok) (hd:W.d≤97000):qu 122 1 [tP 0 800,oB 800 87 [.pt 801 0,.d (.i (W.tm)),.own 802 4,.own 803 3,ps 804 4 (W.a),ps 805 5 (W.b),ps 806 5 (W.c),ps 807 10 (W.d)],oB 801 92 [.d (.sl (aC l)),.d (.i (p))],oR 802 79 5 (aG W.ks),oR 803 4 1 (aM W.ls),(.o 804,aI 175 4 fV),(.o 805,aI 29 5 cP),(.o 806,aI 29 5 cP),(.o 807,aI 140 10 jL)] (fun s=> ∃(W2:fI) (q:Int),(W2.of W 500∧p≤q∧q≤p+1000)∧s=[oB 800 87 [.pt 801 0,.d (.i (W2.tm)),.own 802 4,.own 803 3,ps 804 4 (W2.a),ps 805 5 (W2.b),ps 806 5 (W2.c),ps 807 10 (W2.d)],oB 801 92 [.d (.sl (aC l)),.d (.i (q))],oR 802 79 5 (aG W2.ks),oR 803 4 1 (aM W2.ls),(.o 804,aI 175 4 fV),(.o 805,aI 29 5 cP),(.o 806,aI 29 5 cP),(.o 807,aI 140 10 jL)]):=by
 refine vt Tryz.func122 rfl (sq (rE [0,89,90,91,92,93,94,95,96] (s1 (cK (robj:=[(800,.box 87 [.pt 801 0,.d (.i (W.tm)),.own 802 4,.own 803 3,ps 804 4 (W.a),ps 805 5 (W.b),ps 806 5 (W.c),ps 807 10 (W.d)]),(801,.box 92 [.d (.sl (aC l)),.d (.i (p))]),(802,.row 79 5 (aG W.ks)),(803,.row 4 1 (aM W.ls)),(804,aI 175 4 fV),(805,aI 29 5 cP),(806,aI 29 5 cP),(807,aI 140 10 jL)]) (rl:=[]) (bor:=[]) (news:=[]) (lg l p W 40 0 (by omega) hl hW (by omega) (by omega)) rfl rfl rfl rfl ⟨bU rfl rfl rfl rfl (cJ rfl rfl (cJ rfl rfl (aZ rfl (eJ rfl rfl rfl (aF rfl (bK rfl rfl rfl (bK rfl rfl rfl (bE rfl rfl rfl (bE rfl rfl rfl (bE rfl rfl rfl (bE rfl rfl rfl aH)))))))) (aZ rfl (aF rfl (aF rfl aH)) (bW rfl rfl (bW rfl rfl (aY rfl rfl (aY rfl rfl (aY rfl rfl (aY rfl rfl trivial)))))))))),rfl⟩ (by rintro _ ⟨W1,q1,hw1,rfl⟩;exact⟨rfl,.inl rfl,fun j hj=>nomatch hj⟩) (aK ⟨rfl,rfl,rfl,rfl,rfl,rfl,rfl,rfl,trivial⟩) (fun j hj=>nomatch hj) ?_))))
 rintro _ ⟨W1,q1,hw1,rfl⟩
 refine sq (rE [0,89,90,91,92,93,94,95,96] (s1 (cK (robj:=[(800,.box 87 [.pt 801 0,.d (.i (W1.tm)),.own 802 4,.own 803 3,ps 804 4 (W1.a),ps 805 5 (W1.b),ps 806 5 (W1.c),ps 807 10 (W1.d)]),(801,.box 92 [.d (.sl (aC l)),.d (.i (q1))]),(802,.row 79 5 (aG W1.ks)),(803,.row 4 1 (aM W1.ls)),(804,aI 175 4 fV),(805,aI 29 5 cP),(806,aI 29 5 cP),(807,aI 140 10 jL)]) (rl:=[]) (bor:=[]) (news:=[]) (qw l q1 W1 6 0 (by omega) hl hw1.1.ok (by have:=hw1.1.few;omega) (by omega)) rfl rfl rfl rfl ⟨bU rfl rfl rfl rfl (cJ rfl rfl (cJ rfl rfl (aZ rfl (eJ rfl rfl rfl (aF rfl (bK rfl rfl rfl (bK rfl rfl rfl (bE rfl rfl rfl (bE rfl rfl rfl (bE rfl rfl rfl (bE rfl rfl rfl aH)))))))) (aZ rfl (aF rfl (aF rfl aH)) (bW rfl rfl (bW rfl rfl (aY rfl rfl (aY rfl rfl (aY rfl rfl (aY rfl rfl trivial)))))))))),rfl⟩ (by rintro _ ⟨W2,q2,hw2,rfl⟩;exact⟨rfl,.inl rfl,fun j hj=>nomatch hj⟩) (aK ⟨rfl,rfl,rfl,rfl,rfl,rfl,rfl,rfl,trivial⟩) (fun j hj=>nomatch hj) ?_)))
 rintro _ ⟨W2,q2,hw2,rfl⟩
 refine sq (sq (rT [0,2,89,90,91,92,93,94,95,96] (s1 (bk ?_))))
 have hw1d:=hw1.1.few
 have hw2d:=hw2.1.few
 refine SW.loopW (n:=2) (fun x s=> ∃(i:Nat) (V:fI) (q:Int),x=2 - i∧(i≤2∧V.of W (160+30*i)∧p≤q∧q≤p+420+i)∧s=[tP 0 800,tI 2 (i:Nat),oB 800 87 [.pt 801 0,.d (.i (V.tm)),.own 802 4,.own 803 3,ps 804 4 (V.a),ps 805 5 (V.b),ps 806 5 (V.c),ps 807 10 (V.d)],oB 801 92 [.d (.sl (aC l)),.d (.i (q))],oR 802 79 5 (aG V.ks),oR 803 4 1 (aM V.ls),(.o 804,aI 175 4 fV),(.o 805,aI 29 5 cP),(.o 806,aI 29 5 cP),(.o 807,aI 140 10 jL)]) ?_ ?_
 · exact wq [] [] (⟨0,W2,q2,rfl,⟨by omega,(hw1.1.trans hw2.1).le (by omega),by omega,by omega⟩,rfl⟩) qz
 rintro n s ⟨i,V,q,rfl,⟨hi2,hV,hq⟩,rfl⟩
 have hVd:=hV.few
 have hpv:=cG l (p:=q) (n:=2) (by omega) (by omega)
 refine sq (sq (rT [0,2,20,89,90,91,92,93,94,95,96] (s5 (bJ (robj:=[(801,.box 92 [.d (.sl (aC (l))),.d (.i (q))])]) (rl:=[(0,801)]) (bor:=[]) (cU (l) (q) _ (by omega) hl) rfl rfl rfl rfl ⟨bU rfl rfl rfl rfl (cJ rfl rfl (aZ rfl (aF rfl (aF rfl aH)) trivial)),rfl⟩ rfl (.inl rfl) (aK ⟨rfl,trivial⟩) (fun _ hj=>nomatch hj) (s2 (cd rfl (fun c20=> ?_) fun c20=> ?_))))))
 · have hi1:i<2:=by rw[aE (by omega)] at c20;simp at c20;omega
   refine sk (sq (bk (sq (rT [0,2,3,89,90,91,92,93,94,95,96] (s5 (fw dH rfl rfl rfl rfl rfl (s1 (sq (rT [0,2,3,4,89,90,91,92,93,94,95,96] (s1 (bk ?_)))))))))))
   obtain⟨a3,ha3,ha30⟩: ∃a3:Nat,a3=V.a∧a3≤30:=⟨_,rfl,hV.ok.ra⟩
   refine SW.loopW (n:=a3) (fun x s=> ∃(j:Nat) (U:fI),x=a3 - j∧(j≤a3∧U.of V j)∧s=[tP 0 800,tI 2 (i:Nat),tI 3 (a3:Nat),tI 4 (j:Nat),oB 800 87 [.pt 801 0,.d (.i (U.tm)),.own 802 4,.own 803 3,ps 804 4 (U.a),ps 805 5 (U.b),ps 806 5 (U.c),ps 807 10 (U.d)],oB 801 92 [.d (.sl (aC l)),.d (.i (q+1))],oR 802 79 5 (aG U.ks),oR 803 4 1 (aM U.ls),(.o 804,aI 175 4 fV),(.o 805,aI 29 5 cP),(.o 806,aI 29 5 cP),(.o 807,aI 140 10 jL)]) ?_ ?_
   · refine wq [] [] (⟨0,V,rfl,⟨by omega,fI.of.refl hV.ok⟩,rfl⟩) ?_
     repeat' apply ai
     all_goals first|exact qx|rfl|(rw[ha3])|exact qz
   rintro n s ⟨j,U,rfl,⟨hj,hU⟩,rfl⟩
   have hUd:=hU.few
   refine sq (sq (rT [0,2,3,4,31,89,90,91,92,93,94,95,96] (s3 (cd rfl (fun c31=> ?_) fun c31=> ?_))))
   · have hj2:j<a3:=by simp at c31;omega
     refine sk (sq (bk (rE [0,2,3,4,89,90,91,92,93,94,95,96] (s3 (cK (robj:=[(800,.box 87 [.pt 801 0,.d (.i (U.tm)),.own 802 4,.own 803 3,ps 804 4 (U.a),ps 805 5 (U.b),ps 806 5 (U.c),ps 807 10 (U.d)]),(801,.box 92 [.d (.sl (aC l)),.d (.i (q+1))]),(802,.row 79 5 (aG U.ks)),(803,.row 4 1 (aM U.ls)),(804,aI 175 4 fV),(805,aI 29 5 cP),(806,aI 29 5 cP),(807,aI 140 10 jL)]) (rl:=[]) (bor:=[]) (news:=[]) (ee l (q+1) U ⟨4,0,0,0,j,0,1,0,0,[]⟩ hU.ok (by simp) (by omega)) rfl rfl rfl rfl ⟨bU rfl rfl rfl rfl (dD rfl (aF rfl (aF rfl (aF rfl (aF rfl (aF rfl (aF rfl (aF rfl (aF rfl (aF rfl (aF rfl aH)))))))))) (aZ rfl (eJ rfl rfl rfl (aF rfl (bK rfl rfl rfl (bK rfl rfl rfl (bE rfl rfl rfl (bE rfl rfl rfl (bE rfl rfl rfl (bE rfl rfl rfl aH)))))))) (aZ rfl (aF rfl (aF rfl aH)) (bW rfl rfl (bW rfl rfl (aY rfl rfl (aY rfl rfl (aY rfl rfl (aY rfl rfl trivial))))))))),rfl⟩ (by rintro _ ⟨W3,ok3,hw3,rfl⟩;exact⟨rfl,.inl rfl,fun j hj=>nomatch hj⟩) (aK ⟨rfl,rfl,rfl,rfl,rfl,rfl,rfl,rfl,trivial⟩) (fun j hj=>nomatch hj) ?_)))))
     rintro _ ⟨W3,ok3,hw3,rfl⟩
     refine rT [0,2,3,4,89,90,91,92,93,94,95,96] (s3 (wq [] [] (⟨a3 - (j+1),by omega,j+1,W3,rfl,⟨by omega,hU.trans hw3⟩,rfl⟩) ?_))
     repeat' apply ai
     all_goals first|exact qx|exact congrArg D.i (aE (by omega))|rfl|exact qz
   have hj3:j=a3:=by simp at c31;omega
   refine xt (rT [0,2,89,90,91,92,93,94,95,96] (s3 (wq [] [] (⟨2 - (i+1),by omega,i+1,U,q+1,rfl,⟨by omega,(hV.trans hU).le (by omega),by omega,by omega⟩,rfl⟩) ?_)))
   repeat' apply ai
   all_goals first|exact qx|exact congrArg D.i (aE (by omega))|rfl|exact qz
 refine xt (sq (rT [0,5,89,90,91,92,93,94,95,96] (s4 (bJ (robj:=[(801,.box 92 [.d (.sl (aC (l))),.d (.i (q+1))])]) (rl:=[(0,801)]) (bor:=[]) (cU (l) (q+1) _ (by omega) hl) rfl rfl rfl rfl ⟨bU rfl rfl rfl rfl (cJ rfl rfl (aZ rfl (aF rfl (aF rfl aH)) trivial)),rfl⟩ rfl (.inl rfl) (aK ⟨rfl,trivial⟩) (fun _ hj=>nomatch hj) (s1 (SW.midW (fun s=> ∃(V2:fI) (q4:Int),(V2.of V 10∧q≤q4∧q4≤q+5)∧s=[tP 0 800,oB 800 87 [.pt 801 0,.d (.i (V2.tm)),.own 802 4,.own 803 3,ps 804 4 (V2.a),ps 805 5 (V2.b),ps 806 5 (V2.c),ps 807 10 (V2.d)],oB 801 92 [.d (.sl (aC l)),.d (.i (q4))],oR 802 79 5 (aG V2.ks),oR 803 4 1 (aM V2.ls),(.o 804,aI 175 4 fV),(.o 805,aI 29 5 cP),(.o 806,aI 29 5 cP),(.o 807,aI 140 10 jL)]) ?_ ?_))))))
 · refine sq (rT [0,5,47,89,90,91,92,93,94,95,96] (s4 (bJ (robj:=[(801,.box 92 [.d (.sl (aC (l))),.d (.i (q+1+1))])]) (rl:=[(0,801)]) (bor:=[]) (cU (l) (q+1+1) _ (by omega) hl) rfl rfl rfl rfl ⟨bU rfl rfl rfl rfl (cJ rfl rfl (aZ rfl (aF rfl (aF rfl aH)) trivial)),rfl⟩ rfl (.inl rfl) (aK ⟨rfl,trivial⟩) (fun _ hj=>nomatch hj) (bk (sq (rT [0,5,47,48,89,90,91,92,93,94,95,96] (s2 (cd rfl (fun c48=> ?_) fun c48=> ?_))))))))
   · refine sq (rE [0,5,89,90,91,92,93,94,95,96] (s6 (gY (bJ (robj:=[(801,.box 92 [.d (.sl (aC (l))),.d (.i (q+1+1+1))])]) (rl:=[(0,801)]) (bor:=[]) (cU (l) (q+1+1+1) _ (by omega) hl) rfl rfl rfl rfl ⟨bU rfl rfl rfl rfl (cJ rfl rfl (aZ rfl (aF rfl (aF rfl aH)) trivial)),rfl⟩ rfl (.inl rfl) (aK ⟨rfl,trivial⟩) (fun _ hj=>nomatch hj) (s1 (cK (robj:=[(800,.box 87 [.pt 801 0,.d (.i (V.tm)),.own 802 4,.own 803 3,ps 804 4 (V.a),ps 805 5 (V.b),ps 806 5 (V.c),ps 807 10 (V.d)]),(801,.box 92 [.d (.sl (aC l)),.d (.i (q+1+1+1+1))]),(802,.row 79 5 (aG V.ks)),(803,.row 4 1 (aM V.ls)),(804,aI 175 4 fV),(805,aI 29 5 cP),(806,aI 29 5 cP),(807,aI 140 10 jL)]) (rl:=[]) (bor:=[]) (news:=[]) (ee l (q+1+1+1+1) V ⟨7,aT l (q+1) 4,0,0,0,0,aT l (q+1+1+1) 40,0,0,[]⟩ hV.ok (by simp) (by omega)) rfl rfl rfl rfl ⟨bU rfl rfl rfl rfl (dD rfl (aF rfl (aF rfl (aF rfl (aF rfl (aF rfl (aF rfl (aF rfl (aF rfl (aF rfl (aF rfl aH)))))))))) (aZ rfl (eJ rfl rfl rfl (aF rfl (bK rfl rfl rfl (bK rfl rfl rfl (bE rfl rfl rfl (bE rfl rfl rfl (bE rfl rfl rfl (bE rfl rfl rfl aH)))))))) (aZ rfl (aF rfl (aF rfl aH)) (bW rfl rfl (bW rfl rfl (aY rfl rfl (aY rfl rfl (aY rfl rfl (aY rfl rfl trivial))))))))),rfl⟩ (by rintro _ ⟨W3,ok3,hw3,rfl⟩;exact⟨rfl,.inl rfl,fun j hj=>nomatch hj⟩) (aK ⟨rfl,rfl,rfl,rfl,rfl,rfl,rfl,rfl,trivial⟩) (fun j hj=>nomatch hj) ?_))))))
     rintro _ ⟨W3,ok3,hw3,rfl⟩
     refine rE [0,89,90,91,92,93,94,95,96] (s3 (cK (robj:=[(800,.box 87 [.pt 801 0,.d (.i (W3.tm)),.own 802 4,.own 803 3,ps 804 4 (W3.a),ps 805 5 (W3.b),ps 806 5 (W3.c),ps 807 10 (W3.d)]),(801,.box 92 [.d (.sl (aC l)),.d (.i (q+1+1+1+1))]),(802,.row 79 5 (aG W3.ks)),(803,.row 4 1 (aM W3.ls)),(804,aI 175 4 fV),(805,aI 29 5 cP),(806,aI 29 5 cP),(807,aI 140 10 jL)]) (rl:=[]) (bor:=[]) (news:=[]) (ee l (q+1+1+1+1) W3 ⟨8,aT l (q+1) 4,0,0,0,0,0,0,0,[]⟩ hw3.ok (by simp) (by have:=hw3.few;omega)) rfl rfl rfl rfl ⟨bU rfl rfl rfl rfl (dD rfl (aF rfl (aF rfl (aF rfl (aF rfl (aF rfl (aF rfl (aF rfl (aF rfl (aF rfl (aF rfl aH)))))))))) (aZ rfl (eJ rfl rfl rfl (aF rfl (bK rfl rfl rfl (bK rfl rfl rfl (bE rfl rfl rfl (bE rfl rfl rfl (bE rfl rfl rfl (bE rfl rfl rfl aH)))))))) (aZ rfl (aF rfl (aF rfl aH)) (bW rfl rfl (bW rfl rfl (aY rfl rfl (aY rfl rfl (aY rfl rfl (aY rfl rfl trivial))))))))),rfl⟩ (by rintro _ ⟨W4,ok4,hw4,rfl⟩;exact⟨rfl,.inl rfl,fun j hj=>nomatch hj⟩) (aK ⟨rfl,rfl,rfl,rfl,rfl,rfl,rfl,rfl,trivial⟩) (fun j hj=>nomatch hj) ?_))
     rintro _ ⟨W4,ok4,hw4,rfl⟩
     first
     |(exact wq [] [] ⟨W4,q+1+1+1+1,⟨(hw3.trans hw4).le (by omega),by omega,by omega⟩,rfl⟩ qz)
     |(exact wq [] [] ⟨U,q+1+1+1+1,⟨hU.le (by omega),by omega,by omega⟩,rfl⟩ qz)
     |(exact wq [] [] ⟨V,q+1+1+1,⟨(fI.of.refl hV.ok).le (by omega),by omega,by omega⟩,rfl⟩ qz)
   refine sq (rT [0,5,63,89,90,91,92,93,94,95,96] (s2 (cd rfl (fun c63=> ?_) fun c63=> ?_)))
   · refine sq (rT [0,5,6,89,90,91,92,93,94,95,96] (s4 (bJ (robj:=[(801,.box 92 [.d (.sl (aC (l))),.d (.i (q+1+1+1))])]) (rl:=[(0,801)]) (bor:=[]) (cU (l) (q+1+1+1) _ (by omega) hl) rfl rfl rfl rfl ⟨bU rfl rfl rfl rfl (cJ rfl rfl (aZ rfl (aF rfl (aF rfl aH)) trivial)),rfl⟩ rfl (.inl rfl) (aK ⟨rfl,trivial⟩) (fun _ hj=>nomatch hj) (s1 (bk ?_)))))
     obtain⟨k0,hk0,hk9⟩: ∃k0:Nat,aT l (q+1+1+1) 9=(k0:Int)∧k0≤8:=by have:=cG l (p:=q+1+1+1) (n:=9) (by omega) (by omega);exact⟨(aT l (q+1+1+1) 9).toNat,by omega,by omega⟩
     obtain⟨x5,hx5⟩: ∃x5:Int,x5=aT l (q+1) 4:=⟨_,rfl⟩
     refine SW.loopW (n:=k0) (fun x s=> ∃(U:fI),(x≤k0∧U.of V (k0 - x))∧s=[tP 0 800,tI 5 x5,tI 6 (x:Nat),oB 800 87 [.pt 801 0,.d (.i (U.tm)),.own 802 4,.own 803 3,ps 804 4 (U.a),ps 805 5 (U.b),ps 806 5 (U.c),ps 807 10 (U.d)],oB 801 92 [.d (.sl (aC l)),.d (.i (q+1+1+1+1))],oR 802 79 5 (aG U.ks),oR 803 4 1 (aM U.ls),(.o 804,aI 175 4 fV),(.o 805,aI 29 5 cP),(.o 806,aI 29 5 cP),(.o 807,aI 140 10 jL)]) ?_ ?_
     · refine wq [] [] (⟨V,⟨by omega,(fI.of.refl hV.ok).le (by omega)⟩,rfl⟩) ?_
       repeat' apply ai
       all_goals first|exact qx|exact congrArg D.i hk0|exact congrArg D.i hx5.symm|rfl|exact qz
     rintro n s ⟨U,⟨hx,hU⟩,rfl⟩
     have hUd:=hU.few
     refine sq (sq (rT [0,5,6,71,89,90,91,92,93,94,95,96] (s2 (cd rfl (fun c71=> ?_) fun c71=> ?_))))
     · have hn0:0<n:=by simp at c71;omega
       refine sk (sq (bk (rE [0,5,6,89,90,91,92,93,94,95,96] (s3 (cK (robj:=[(800,.box 87 [.pt 801 0,.d (.i (U.tm)),.own 802 4,.own 803 3,ps 804 4 (U.a),ps 805 5 (U.b),ps 806 5 (U.c),ps 807 10 (U.d)]),(801,.box 92 [.d (.sl (aC l)),.d (.i (q+1+1+1+1))]),(802,.row 79 5 (aG U.ks)),(803,.row 4 1 (aM U.ls)),(804,aI 175 4 fV),(805,aI 29 5 cP),(806,aI 29 5 cP),(807,aI 140 10 jL)]) (rl:=[]) (bor:=[]) (news:=[]) (ee l (q+1+1+1+1) U ⟨2,x5,0,0,0,0,0,0,0,[]⟩ hU.ok (by simp) (by omega)) rfl rfl rfl rfl ⟨bU rfl rfl rfl rfl (dD rfl (aF rfl (aF rfl (aF rfl (aF rfl (aF rfl (aF rfl (aF rfl (aF rfl (aF rfl (aF rfl aH)))))))))) (aZ rfl (eJ rfl rfl rfl (aF rfl (bK rfl rfl rfl (bK rfl rfl rfl (bE rfl rfl rfl (bE rfl rfl rfl (bE rfl rfl rfl (bE rfl rfl rfl aH)))))))) (aZ rfl (aF rfl (aF rfl aH)) (bW rfl rfl (bW rfl rfl (aY rfl rfl (aY rfl rfl (aY rfl rfl (aY rfl rfl trivial))))))))),rfl⟩ (by rintro _ ⟨W3,ok3,hw3,rfl⟩;exact⟨rfl,.inl rfl,fun j hj=>nomatch hj⟩) (aK ⟨rfl,rfl,rfl,rfl,rfl,rfl,rfl,rfl,trivial⟩) (fun j hj=>nomatch hj) ?_)))))
       rintro _ ⟨W3,ok3,hw3,rfl⟩
       refine rT [0,5,6,89,90,91,92,93,94,95,96] (s3 (wq [] [] (⟨n - 1,by omega,W3,⟨by omega,(hU.trans hw3).le (by omega)⟩,rfl⟩) ?_))
       repeat' apply ai
       all_goals first|exact qx|(refine congrArg D.i ?_;rw[aE (by omega)];omega)|rfl|exact qz
     refine xt ?_
     first
     |(exact wq [] [] ⟨W4,q+1+1+1+1,⟨(hw3.trans hw4).le (by omega),by omega,by omega⟩,rfl⟩ qz)
     |(exact wq [] [] ⟨U,q+1+1+1+1,⟨hU.le (by omega),by omega,by omega⟩,rfl⟩ qz)
     |(exact wq [] [] ⟨V,q+1+1+1,⟨(fI.of.refl hV.ok).le (by omega),by omega,by omega⟩,rfl⟩ qz)
   refine sk ?_
   first
   |(exact wq [] [] ⟨W4,q+1+1+1+1,⟨(hw3.trans hw4).le (by omega),by omega,by omega⟩,rfl⟩ qz)
   |(exact wq [] [] ⟨U,q+1+1+1+1,⟨hU.le (by omega),by omega,by omega⟩,rfl⟩ qz)
   |(exact wq [] [] ⟨V,q+1+1+1,⟨(fI.of.refl hV.ok).le (by omega),by omega,by omega⟩,rfl⟩ qz)
 rintro s ⟨V2,q4,⟨hV2,hq4⟩,rfl⟩
 have hV2d:=hV2.few
 refine sq (rT [0,7,89,90,91,92,93,94,95,96] (s5 (fw dH rfl rfl rfl rfl rfl (s1 (sq (rE [0,7,89,90,91,92,93,94,95,96] (s1 (cK (robj:=[(800,.box 87 [.pt 801 0,.d (.i (V2.tm)),.own 802 4,.own 803 3,ps 804 4 (V2.a),ps 805 5 (V2.b),ps 806 5 (V2.c),ps 807 10 (V2.d)]),(801,.box 92 [.d (.sl (aC l)),.d (.i (q4))]),(802,.row 79 5 (aG V2.ks)),(803,.row 4 1 (aM V2.ls)),(804,aI 175 4 fV),(805,aI 29 5 cP),(806,aI 29 5 cP),(807,aI 140 10 jL)]) (rl:=[]) (bor:=[]) (news:=[]) (qw l q4 V2 6 0 (by omega) hl hV2.ok (by omega) (by omega)) rfl rfl rfl rfl ⟨bU rfl rfl rfl rfl (cJ rfl rfl (cJ rfl rfl (aZ rfl (eJ rfl rfl rfl (aF rfl (bK rfl rfl rfl (bK rfl rfl rfl (bE rfl rfl rfl (bE rfl rfl rfl (bE rfl rfl rfl (bE rfl rfl rfl aH)))))))) (aZ rfl (aF rfl (aF rfl aH)) (bW rfl rfl (bW rfl rfl (aY rfl rfl (aY rfl rfl (aY rfl rfl (aY rfl rfl trivial)))))))))),rfl⟩ (by rintro _ ⟨V3,q7,hw7,rfl⟩;exact⟨rfl,.inl rfl,fun j hj=>nomatch hj⟩) (aK ⟨rfl,rfl,rfl,rfl,rfl,rfl,rfl,rfl,trivial⟩) (fun j hj=>nomatch hj) ?_))))))))
 rintro _ ⟨V3,q7,hw7,rfl⟩
 refine sq (sq (rT [0,7,8,89,90,91,92,93,94,95,96] (s1 (bk ?_))))
 obtain⟨a7,ha7⟩: ∃a7:Nat,a7=V2.a:=⟨_,rfl⟩
 have hw7d:=hw7.1.few
 refine SW.loopW (n:=12) (fun x s=> ∃(i:Nat) (U:fI),x=12 - i∧(i≤12∧U.of V3 i)∧s=[tP 0 800,tI 7 (a7:Nat),tI 8 (i:Nat),oB 800 87 [.pt 801 0,.d (.i (U.tm)),.own 802 4,.own 803 3,ps 804 4 (U.a),ps 805 5 (U.b),ps 806 5 (U.c),ps 807 10 (U.d)],oB 801 92 [.d (.sl (aC l)),.d (.i (q7))],oR 802 79 5 (aG U.ks),oR 803 4 1 (aM U.ls),(.o 804,aI 175 4 fV),(.o 805,aI 29 5 cP),(.o 806,aI 29 5 cP),(.o 807,aI 140 10 jL)]) ?_ ?_
 · refine wq [] [] (⟨0,V3,rfl,⟨by omega,fI.of.refl hw7.1.ok⟩,rfl⟩) ?_
   repeat' apply ai
   all_goals first|exact qx|rfl|(rw[ha7])|exact qz
 rintro n s ⟨i7,U,rfl,⟨hi7,hU⟩,rfl⟩
 have hUd:=hU.few
 refine sq (sq (rT [0,7,8,89,90,91,92,93,94,95,96,97] (s3 (y4 (y1 (aCo dH rfl rfl rfl rfl rfl rk (y2 (ai pk (cd rfl (fun c97=> ?_) fun c97=> ?_)))))))))
 · have hi12:i7<12:=by have h9:=c97;simp only[gb,aU7,decide_eq_true_eq] at h9;omega
   refine sk (sq (bk (rE [0,7,8,89,90,91,92,93,94,95,96] (s3 (cK (robj:=[(800,.box 87 [.pt 801 0,.d (.i (U.tm)),.own 802 4,.own 803 3,ps 804 4 (U.a),ps 805 5 (U.b),ps 806 5 (U.c),ps 807 10 (U.d)]),(801,.box 92 [.d (.sl (aC l)),.d (.i (q7))]),(802,.row 79 5 (aG U.ks)),(803,.row 4 1 (aM U.ls)),(804,aI 175 4 fV),(805,aI 29 5 cP),(806,aI 29 5 cP),(807,aI 140 10 jL)]) (rl:=[]) (bor:=[]) (news:=[]) (ee l q7 U ⟨4,0,0,0,a7,0,0,0,0,[]⟩ hU.ok (by simp) (by omega)) rfl rfl rfl rfl ⟨bU rfl rfl rfl rfl (dD rfl (aF rfl (aF rfl (aF rfl (aF rfl (aF rfl (aF rfl (aF rfl (aF rfl (aF rfl (aF rfl aH)))))))))) (aZ rfl (eJ rfl rfl rfl (aF rfl (bK rfl rfl rfl (bK rfl rfl rfl (bE rfl rfl rfl (bE rfl rfl rfl (bE rfl rfl rfl (bE rfl rfl rfl aH)))))))) (aZ rfl (aF rfl (aF rfl aH)) (bW rfl rfl (bW rfl rfl (aY rfl rfl (aY rfl rfl (aY rfl rfl (aY rfl rfl trivial))))))))),rfl⟩ (by rintro _ ⟨W3,ok3,hw3,rfl⟩;exact⟨rfl,.inl rfl,fun j hj=>nomatch hj⟩) (aK ⟨rfl,rfl,rfl,rfl,rfl,rfl,rfl,rfl,trivial⟩) (fun j hj=>nomatch hj) ?_)))))
   rintro _ ⟨W3,ok3,hw3,rfl⟩
   refine rT [0,7,8,89,90,91,92,93,94,95,96] (s3 (wq [] [] (⟨12 - (i7+1),by omega,i7+1,W3,rfl,⟨by omega,hU.trans hw3⟩,rfl⟩) ?_))
   repeat' apply ai
   all_goals first|exact qx|exact congrArg D.i (aE (by omega))|rfl|exact qz
 refine xt (rE [] (s1 (cK (robj:=[(800,.box 87 [.pt 801 0,.d (.i (U.tm)),.own 802 4,.own 803 3,ps 804 4 (U.a),ps 805 5 (U.b),ps 806 5 (U.c),ps 807 10 (U.d)]),(801,.box 92 [.d (.sl (aC l)),.d (.i (q7))]),(802,.row 79 5 (aG U.ks)),(803,.row 4 1 (aM U.ls)),(804,aI 175 4 fV),(805,aI 29 5 cP),(806,aI 29 5 cP),(807,aI 140 10 jL)]) (rl:=[]) (bor:=[]) (news:=[]) (lg l q7 U 40 0 (by omega) hl hU.ok (by omega) (by omega)) rfl rfl rfl rfl ⟨bU rfl rfl rfl rfl (cJ rfl rfl (cJ rfl rfl (aZ rfl (eJ rfl rfl rfl (aF rfl (bK rfl rfl rfl (bK rfl rfl rfl (bE rfl rfl rfl (bE rfl rfl rfl (bE rfl rfl rfl (bE rfl rfl rfl aH)))))))) (aZ rfl (aF rfl (aF rfl aH)) (bW rfl rfl (bW rfl rfl (aY rfl rfl (aY rfl rfl (aY rfl rfl (aY rfl rfl trivial)))))))))),rfl⟩ (by rintro _ ⟨W9,q9,hw9,rfl⟩;exact⟨rfl,.inl rfl,fun j hj=>nomatch hj⟩) (aK ⟨rfl,rfl,rfl,rfl,rfl,rfl,rfl,rfl,trivial⟩) (fun j hj=>nomatch hj) ?_)))
 rintro _ ⟨W9,q9,hw9,rfl⟩
 refine cV [oB 800 87 [.pt 801 0,.d (.i (W9.tm)),.own 802 4,.own 803 3,ps 804 4 (W9.a),ps 805 5 (W9.b),ps 806 5 (W9.c),ps 807 10 (W9.d)],oB 801 92 [.d (.sl (aC l)),.d (.i (q9))],oR 802 79 5 (aG W9.ks),oR 803 4 1 (aM W9.ls),(.o 804,aI 175 4 fV),(.o 805,aI 29 5 cP),(.o 806,aI 29 5 cP),(.o 807,aI 140 10 jL)] ⟨W9,q9,⟨(hV.trans (hV2.trans (hw7.1.trans (hU.trans hw9.1)))).le (by omega),by omega,by omega⟩,rfl⟩ (rq [] [] rfl ?_)
 repeat' apply ai
 all_goals try exact qx
 all_goals(first|with_reducible rfl|(rfl))
set_option maxHeartbeats 6400000 in
theorem aTa (l:List UInt8) (p:Int) (W:fI) (r:Int) (hp:0≤p∧p≤870000) (hl:l.length≤2000) (hW:W.ok) (hd:W.d≤96000):qu 98 2 [tP 0 800,tI 1 r,oB 800 87 [.pt 801 0,.d (.i (W.tm)),.own 802 4,.own 803 3,ps 804 4 (W.a),ps 805 5 (W.b),ps 806 5 (W.c),ps 807 10 (W.d)],oB 801 92 [.d (.sl (aC l)),.d (.i (p))],oR 802 79 5 (aG W.ks),oR 803 4 1 (aM W.ls),(.o 804,aI 175 4 fV),(.o 805,aI 29 5 cP),(.o 806,aI 29 5 cP),(.o 807,aI 140 10 jL)] (fun s=> ∃(W2:fI) (q:Int),(W2.of W 520∧p≤q∧q≤p+1200)∧s=[oB 800 87 [.pt 801 0,.d (.i (W2.tm)),.own 802 4,.own 803 3,ps 804 4 (W2.a),ps 805 5 (W2.b),ps 806 5 (W2.c),ps 807 10 (W2.d)],oB 801 92 [.d (.sl (aC l)),.d (.i (q))],oR 802 79 5 (aG W2.ks),oR 803 4 1 (aM W2.ls),(.o 804,aI 175 4 fV),(.o 805,aI 29 5 cP),(.o 806,aI 29 5 cP),(.o 807,aI 140 10 jL)]):=by
 refine vt Tryz.func98 rfl (sq (rT [0,1,4] (s4 (bJ (robj:=[(801,.box 92 [.d (.sl (aC (l))),.d (.i (p))])]) (rl:=[(0,801)]) (bor:=[]) (cU (l) (p) _ (by omega) hl) rfl rfl rfl rfl ⟨bU rfl rfl rfl rfl (cJ rfl rfl (aZ rfl (aF rfl (aF rfl aH)) trivial)),rfl⟩ rfl (.inl rfl) (aK ⟨rfl,trivial⟩) (fun _ hj=>nomatch hj) (s1 (sq ?_))))))
 obtain⟨i,hi,hil⟩:=zJ (show 0≤aT l p 4∧aT l p 4≤3 by have:=cG l (p:=p) (n:=4) (by omega) (by omega);omega)
 obtain⟨v,hv⟩: ∃v:Int,v=aT l (p+1) 24:=⟨_,rfl⟩
 refine rT [0,1,4,18] (s4 (bJ (robj:=[(801,.box 92 [.d (.sl (aC (l))),.d (.i (p+1))])]) (rl:=[(0,801)]) (bor:=[]) (cU (l) (p+1) _ (by omega) hl) rfl rfl rfl rfl ⟨bU rfl rfl rfl rfl (cJ rfl rfl (aZ rfl (aF rfl (aF rfl aH)) trivial)),rfl⟩ rfl (.inl rfl) (aK ⟨rfl,trivial⟩) (fun _ hj=>nomatch hj) (bk (SW.midW (fun s=> ∃cb:Bool,s=[tP 0 800,tI 1 r,tI 4 (i:Nat),tI 18 v,tB 27 cb,oB 800 87 [.pt 801 0,.d (.i (W.tm)),.own 802 4,.own 803 3,ps 804 4 (W.a),ps 805 5 (W.b),ps 806 5 (W.c),ps 807 10 (W.d)],oB 801 92 [.d (.sl (aC l)),.d (.i (p+1+1))],oR 802 79 5 (aG W.ks),oR 803 4 1 (aM W.ls),(.o 804,aI 175 4 fV),(.o 805,aI 29 5 cP),(.o 806,aI 29 5 cP),(.o 807,aI 140 10 jL)]) ?_ ?_))))
 · refine sq (rT [0,1,4,18,27] (s2 (cd rfl (fun c27=> ?_) fun c27=> ?_)))
   · refine sk (wq [] [] ⟨?c1,rfl⟩ ?_)
     repeat' apply ai
     all_goals try exact qx
     try any_goals first|with_reducible rfl|exact congrArg D.i hi|exact congrArg D.i hv.symm|rfl
   refine sq (rT [0,1,4,18,27] (s2 (cd rfl (fun c27=> ?_) fun c27=> ?_)))
   · refine sk (wq [] [] ⟨?c2,rfl⟩ ?_)
     repeat' apply ai
     all_goals try exact qx
     try any_goals first|with_reducible rfl|exact congrArg D.i hi|exact congrArg D.i hv.symm|rfl
   refine rT [0,1,4,18,27] (s2 (wq [] [] ⟨?c3,rfl⟩ ?_))
   repeat' apply ai
   all_goals try exact qx
   try any_goals first|with_reducible rfl|exact congrArg D.i hi|exact congrArg D.i hv.symm|rfl
 rintro s ⟨cb27,rfl⟩
 refine cd rfl (fun c27=> ?_) fun c27=> ?_
 · refine rE [] (s1 (cK (robj:=[(800,.box 87 [.pt 801 0,.d (.i (W.tm)),.own 802 4,.own 803 3,ps 804 4 (W.a),ps 805 5 (W.b),ps 806 5 (W.c),ps 807 10 (W.d)]),(801,.box 92 [.d (.sl (aC l)),.d (.i (p+1+1))]),(802,.row 79 5 (aG W.ks)),(803,.row 4 1 (aM W.ls)),(804,aI 175 4 fV),(805,aI 29 5 cP),(806,aI 29 5 cP),(807,aI 140 10 jL)]) (rl:=[]) (bor:=[]) (news:=[]) (aRi l (p+1+1) W (by omega) hl hW (by omega)) rfl rfl rfl rfl ⟨bU rfl rfl rfl rfl (aZ rfl (eJ rfl rfl rfl (aF rfl (bK rfl rfl rfl (bK rfl rfl rfl (bE rfl rfl rfl (bE rfl rfl rfl (bE rfl rfl rfl (bE rfl rfl rfl aH)))))))) (aZ rfl (aF rfl (aF rfl aH)) (bW rfl rfl (bW rfl rfl (aY rfl rfl (aY rfl rfl (aY rfl rfl (aY rfl rfl trivial)))))))),rfl⟩ (by rintro _ ⟨W2,q2,hw2,rfl⟩;exact⟨rfl,.inl rfl,fun j hj=>nomatch hj⟩) (aK ⟨rfl,rfl,rfl,rfl,rfl,rfl,rfl,rfl,trivial⟩) (fun j hj=>nomatch hj) ?_))
   rintro _ ⟨W2,q2,hw2,rfl⟩
   refine cV [oB 800 87 [.pt 801 0,.d (.i (W2.tm)),.own 802 4,.own 803 3,ps 804 4 (W2.a),ps 805 5 (W2.b),ps 806 5 (W2.c),ps 807 10 (W2.d)],oB 801 92 [.d (.sl (aC l)),.d (.i (q2))],oR 802 79 5 (aG W2.ks),oR 803 4 1 (aM W2.ls),(.o 804,aI 175 4 fV),(.o 805,aI 29 5 cP),(.o 806,aI 29 5 cP),(.o 807,aI 140 10 jL)] ⟨W2,q2,⟨(hw2.1).le (by omega),by omega,by omega⟩,rfl⟩ (rq [] [] rfl ?_)
   repeat' apply ai
   all_goals try exact qx
   all_goals(first|with_reducible rfl|(rfl))
 refine SW.midW (fun s=> ∃cb:Bool,s=[tP 0 800,tI 1 r,tI 4 (i:Nat),tI 18 v,tB 33 cb,oB 800 87 [.pt 801 0,.d (.i (W.tm)),.own 802 4,.own 803 3,ps 804 4 (W.a),ps 805 5 (W.b),ps 806 5 (W.c),ps 807 10 (W.d)],oB 801 92 [.d (.sl (aC l)),.d (.i (p+1+1))],oR 802 79 5 (aG W.ks),oR 803 4 1 (aM W.ls),(.o 804,aI 175 4 fV),(.o 805,aI 29 5 cP),(.o 806,aI 29 5 cP),(.o 807,aI 140 10 jL)]) ?_ ?_
 · refine sq (rT [0,1,4,18,33] (s2 (cd rfl (fun c33=> ?_) fun c33=> ?_)))
   · refine sk (wq [] [] ⟨?c4,rfl⟩ ?_)
     repeat' apply ai
     all_goals try exact qx
     try any_goals first|with_reducible rfl|exact congrArg D.i hi|exact congrArg D.i hv.symm|rfl
   refine sq (rT [0,1,4,18,33] (s2 (cd rfl (fun c33=> ?_) fun c33=> ?_)))
   · refine sk (wq [] [] ⟨?c5,rfl⟩ ?_)
     repeat' apply ai
     all_goals try exact qx
     try any_goals first|with_reducible rfl|exact congrArg D.i hi|exact congrArg D.i hv.symm|rfl
   refine sq (rT [0,1,4,18,33] (s2 (cd rfl (fun c33=> ?_) fun c33=> ?_)))
   · refine sk (wq [] [] ⟨?c6,rfl⟩ ?_)
     repeat' apply ai
     all_goals try exact qx
     try any_goals first|with_reducible rfl|exact congrArg D.i hi|exact congrArg D.i hv.symm|rfl
   refine sq (rT [0,1,4,18,33] (s2 (cd rfl (fun c33=> ?_) fun c33=> ?_)))
   · refine sk (wq [] [] ⟨?c7,rfl⟩ ?_)
     repeat' apply ai
     all_goals try exact qx
     try any_goals first|with_reducible rfl|exact congrArg D.i hi|exact congrArg D.i hv.symm|rfl
   refine sq (rT [0,1,4,18,33] (s2 (cd rfl (fun c33=> ?_) fun c33=> ?_)))
   · refine sk (wq [] [] ⟨?c8,rfl⟩ ?_)
     repeat' apply ai
     all_goals try exact qx
     try any_goals first|with_reducible rfl|exact congrArg D.i hi|exact congrArg D.i hv.symm|rfl
   refine rT [0,1,4,18,33] (s2 (wq [] [] ⟨?c9,rfl⟩ ?_))
   repeat' apply ai
   all_goals try exact qx
   try any_goals first|with_reducible rfl|exact congrArg D.i hi|exact congrArg D.i hv.symm|rfl
 rintro s ⟨cb33,rfl⟩
 refine cd rfl (fun c33=> ?_) fun c33=> ?_
 · refine rE [] (s5 (gY (bJ (robj:=[(801,.box 92 [.d (.sl (aC (l))),.d (.i (p+1+1))])]) (rl:=[(0,801)]) (bor:=[]) (cU (l) (p+1+1) _ (by omega) hl) rfl rfl rfl rfl ⟨bU rfl rfl rfl rfl (cJ rfl rfl (aZ rfl (aF rfl (aF rfl aH)) trivial)),rfl⟩ rfl (.inl rfl) (aK ⟨rfl,trivial⟩) (fun _ hj=>nomatch hj) ?_)))
   obtain⟨m7,hm7,hbm7⟩: ∃m7:Nat,wrap64 (1+aT l (p+1+1) 7)=(m7:Int)∧1≤m7∧m7≤7:=by have:=cG l (p:=p+1+1) (n:=7) (by omega) (by omega);rw[aE (by omega)];exact⟨(1+aT l (p+1+1) 7).toNat,by omega,by omega,by omega⟩
   refine s2 (cK (robj:=[(800,.box 87 [.pt 801 0,.d (.i (W.tm)),.own 802 4,.own 803 3,ps 804 4 (W.a),ps 805 5 (W.b),ps 806 5 (W.c),ps 807 10 (W.d)]),(801,.box 92 [.d (.sl (aC l)),.d (.i (p+1+1+1))]),(802,.row 79 5 (aG W.ks)),(803,.row 4 1 (aM W.ls)),(804,aI 175 4 fV),(805,aI 29 5 cP),(806,aI 29 5 cP),(807,aI 140 10 jL)]) (rl:=[]) (bor:=[]) (news:=[]) (qw l (p+1+1+1) W m7 r (by omega) hl hW (by omega) (by omega)) rfl rfl rfl rfl ⟨bU rfl rfl rfl rfl (cJ rfl (congrArg D.i hm7) (cJ rfl rfl (aZ rfl (eJ rfl rfl rfl (aF rfl (bK rfl rfl rfl (bK rfl rfl rfl (bE rfl rfl rfl (bE rfl rfl rfl (bE rfl rfl rfl (bE rfl rfl rfl aH)))))))) (aZ rfl (aF rfl (aF rfl aH)) (bW rfl rfl (bW rfl rfl (aY rfl rfl (aY rfl rfl (aY rfl rfl (aY rfl rfl trivial)))))))))),rfl⟩ (by rintro _ ⟨W2,q2,hw2,rfl⟩;exact⟨rfl,.inl rfl,fun j hj=>nomatch hj⟩) (aK ⟨rfl,rfl,rfl,rfl,rfl,rfl,rfl,rfl,trivial⟩) (fun j hj=>nomatch hj) ?_)
   rintro _ ⟨W2,q2,hw2,rfl⟩
   refine cV [oB 800 87 [.pt 801 0,.d (.i (W2.tm)),.own 802 4,.own 803 3,ps 804 4 (W2.a),ps 805 5 (W2.b),ps 806 5 (W2.c),ps 807 10 (W2.d)],oB 801 92 [.d (.sl (aC l)),.d (.i (q2))],oR 802 79 5 (aG W2.ks),oR 803 4 1 (aM W2.ls),(.o 804,aI 175 4 fV),(.o 805,aI 29 5 cP),(.o 806,aI 29 5 cP),(.o 807,aI 140 10 jL)] ⟨W2,q2,⟨(hw2.1).le (by omega),by omega,by omega⟩,rfl⟩ (rq [] [] rfl ?_)
   repeat' apply ai
   all_goals try exact qx
   all_goals(first|with_reducible rfl|(rfl))
 refine SW.midW (fun s=> ∃cb:Bool,s=[tP 0 800,tI 1 r,tI 4 (i:Nat),tI 18 v,tB 49 cb,oB 800 87 [.pt 801 0,.d (.i (W.tm)),.own 802 4,.own 803 3,ps 804 4 (W.a),ps 805 5 (W.b),ps 806 5 (W.c),ps 807 10 (W.d)],oB 801 92 [.d (.sl (aC l)),.d (.i (p+1+1))],oR 802 79 5 (aG W.ks),oR 803 4 1 (aM W.ls),(.o 804,aI 175 4 fV),(.o 805,aI 29 5 cP),(.o 806,aI 29 5 cP),(.o 807,aI 140 10 jL)]) ?_ ?_
 · refine sq (rT [0,1,4,18,49] (s2 (cd rfl (fun c49=> ?_) fun c49=> ?_)))
   · refine sk (wq [] [] ⟨?c10,rfl⟩ ?_)
     repeat' apply ai
     all_goals try exact qx
     try any_goals first|with_reducible rfl|exact congrArg D.i hi|exact congrArg D.i hv.symm|rfl
   refine rT [0,1,4,18,49] (s2 (wq [] [] ⟨?c11,rfl⟩ ?_))
   repeat' apply ai
   all_goals try exact qx
   try any_goals first|with_reducible rfl|exact congrArg D.i hi|exact congrArg D.i hv.symm|rfl
 rintro s ⟨cb49,rfl⟩
 refine cd rfl (fun c49=> ?_) fun c49=> ?_
 · refine rE [] (s5 (gY (bJ (robj:=[(801,.box 92 [.d (.sl (aC (l))),.d (.i (p+1+1))])]) (rl:=[(0,801)]) (bor:=[]) (cU (l) (p+1+1) _ (by omega) hl) rfl rfl rfl rfl ⟨bU rfl rfl rfl rfl (cJ rfl rfl (aZ rfl (aF rfl (aF rfl aH)) trivial)),rfl⟩ rfl (.inl rfl) (aK ⟨rfl,trivial⟩) (fun _ hj=>nomatch hj) ?_)))
   obtain⟨m7,hm7,hbm7⟩: ∃m7:Nat,wrap64 (1+aT l (p+1+1) 20)=(m7:Int)∧1≤m7∧m7≤20:=by have:=cG l (p:=p+1+1) (n:=20) (by omega) (by omega);rw[aE (by omega)];exact⟨(1+aT l (p+1+1) 20).toNat,by omega,by omega,by omega⟩
   refine s2 (cK (robj:=[(800,.box 87 [.pt 801 0,.d (.i (W.tm)),.own 802 4,.own 803 3,ps 804 4 (W.a),ps 805 5 (W.b),ps 806 5 (W.c),ps 807 10 (W.d)]),(801,.box 92 [.d (.sl (aC l)),.d (.i (p+1+1+1))]),(802,.row 79 5 (aG W.ks)),(803,.row 4 1 (aM W.ls)),(804,aI 175 4 fV),(805,aI 29 5 cP),(806,aI 29 5 cP),(807,aI 140 10 jL)]) (rl:=[]) (bor:=[]) (news:=[]) (lg l (p+1+1+1) W m7 r (by omega) hl hW (by omega) (by omega)) rfl rfl rfl rfl ⟨bU rfl rfl rfl rfl (cJ rfl (congrArg D.i hm7) (cJ rfl rfl (aZ rfl (eJ rfl rfl rfl (aF rfl (bK rfl rfl rfl (bK rfl rfl rfl (bE rfl rfl rfl (bE rfl rfl rfl (bE rfl rfl rfl (bE rfl rfl rfl aH)))))))) (aZ rfl (aF rfl (aF rfl aH)) (bW rfl rfl (bW rfl rfl (aY rfl rfl (aY rfl rfl (aY rfl rfl (aY rfl rfl trivial)))))))))),rfl⟩ (by rintro _ ⟨W2,q2,hw2,rfl⟩;exact⟨rfl,.inl rfl,fun j hj=>nomatch hj⟩) (aK ⟨rfl,rfl,rfl,rfl,rfl,rfl,rfl,rfl,trivial⟩) (fun j hj=>nomatch hj) ?_)
   rintro _ ⟨W2,q2,hw2,rfl⟩
   refine cV [oB 800 87 [.pt 801 0,.d (.i (W2.tm)),.own 802 4,.own 803 3,ps 804 4 (W2.a),ps 805 5 (W2.b),ps 806 5 (W2.c),ps 807 10 (W2.d)],oB 801 92 [.d (.sl (aC l)),.d (.i (q2))],oR 802 79 5 (aG W2.ks),oR 803 4 1 (aM W2.ls),(.o 804,aI 175 4 fV),(.o 805,aI 29 5 cP),(.o 806,aI 29 5 cP),(.o 807,aI 140 10 jL)] ⟨W2,q2,⟨(hw2.1).le (by omega),by omega,by omega⟩,rfl⟩ (rq [] [] rfl ?_)
   repeat' apply ai
   all_goals try exact qx
   all_goals(first|with_reducible rfl|(rfl))
 refine SW.midW (fun s=> ∃cb:Bool,s=[tP 0 800,tI 4 (i:Nat),tI 18 v,tB 61 cb,oB 800 87 [.pt 801 0,.d (.i (W.tm)),.own 802 4,.own 803 3,ps 804 4 (W.a),ps 805 5 (W.b),ps 806 5 (W.c),ps 807 10 (W.d)],oB 801 92 [.d (.sl (aC l)),.d (.i (p+1+1))],oR 802 79 5 (aG W.ks),oR 803 4 1 (aM W.ls),(.o 804,aI 175 4 fV),(.o 805,aI 29 5 cP),(.o 806,aI 29 5 cP),(.o 807,aI 140 10 jL)]) ?_ ?_
 · refine sq (rT [0,4,18,61] (s2 (cd rfl (fun c61=> ?_) fun c61=> ?_)))
   · refine sk (wq [] [] ⟨?c12,rfl⟩ ?_)
     repeat' apply ai
     all_goals try exact qx
     try any_goals first|with_reducible rfl|exact congrArg D.i hi|exact congrArg D.i hv.symm|rfl
   refine rT [0,4,18,61] (s2 (wq [] [] ⟨?c13,rfl⟩ ?_))
   repeat' apply ai
   all_goals try exact qx
   try any_goals first|with_reducible rfl|exact congrArg D.i hi|exact congrArg D.i hv.symm|rfl
 rintro s ⟨cb61,rfl⟩
 refine cd rfl (fun c61=> ?_) fun c61=> ?_
 · refine rE [] (s3 (cK (robj:=[(800,.box 87 [.pt 801 0,.d (.i (W.tm)),.own 802 4,.own 803 3,ps 804 4 (W.a),ps 805 5 (W.b),ps 806 5 (W.c),ps 807 10 (W.d)]),(801,.box 92 [.d (.sl (aC l)),.d (.i (p+1+1))]),(802,.row 79 5 (aG W.ks)),(803,.row 4 1 (aM W.ls)),(804,aI 175 4 fV),(805,aI 29 5 cP),(806,aI 29 5 cP),(807,aI 140 10 jL)]) (rl:=[]) (bor:=[]) (news:=[]) (ee l (p+1+1) W ⟨2,i,0,0,0,0,0,0,0,[]⟩ hW (by simp) (by omega)) rfl rfl rfl rfl ⟨bU rfl rfl rfl rfl (dD rfl (aF rfl (aF rfl (aF rfl (aF rfl (aF rfl (aF rfl (aF rfl (aF rfl (aF rfl (aF rfl aH)))))))))) (aZ rfl (eJ rfl rfl rfl (aF rfl (bK rfl rfl rfl (bK rfl rfl rfl (bE rfl rfl rfl (bE rfl rfl rfl (bE rfl rfl rfl (bE rfl rfl rfl aH)))))))) (aZ rfl (aF rfl (aF rfl aH)) (bW rfl rfl (bW rfl rfl (aY rfl rfl (aY rfl rfl (aY rfl rfl (aY rfl rfl trivial))))))))),rfl⟩ (by rintro _ ⟨W2,ok2,hw2,rfl⟩;exact⟨rfl,.inl rfl,fun j hj=>nomatch hj⟩) (aK ⟨rfl,rfl,rfl,rfl,rfl,rfl,rfl,rfl,trivial⟩) (fun j hj=>nomatch hj) ?_))
   rintro _ ⟨W2,ok2,hw2,rfl⟩
   refine cV [oB 800 87 [.pt 801 0,.d (.i (W2.tm)),.own 802 4,.own 803 3,ps 804 4 (W2.a),ps 805 5 (W2.b),ps 806 5 (W2.c),ps 807 10 (W2.d)],oB 801 92 [.d (.sl (aC l)),.d (.i ((p+1+1)))],oR 802 79 5 (aG W2.ks),oR 803 4 1 (aM W2.ls),(.o 804,aI 175 4 fV),(.o 805,aI 29 5 cP),(.o 806,aI 29 5 cP),(.o 807,aI 140 10 jL)] ⟨W2,(p+1+1),⟨(hw2).le (by omega),by omega,by omega⟩,rfl⟩ (rq [] [] rfl ?_)
   repeat' apply ai
   all_goals try exact qx
   all_goals(first|with_reducible rfl|(rfl))
 refine sq (rT [0,4,18,68] (s2 (cd rfl (fun c68=> ?_) fun c68=> ?_)))
 · refine rE [] (s6 (gY (bJ (robj:=[(801,.box 92 [.d (.sl (aC (l))),.d (.i (p+1+1))])]) (rl:=[(0,801)]) (bor:=[]) (cU (l) (p+1+1) _ (by omega) hl) rfl rfl rfl rfl ⟨bU rfl rfl rfl rfl (cJ rfl rfl (aZ rfl (aF rfl (aF rfl aH)) trivial)),rfl⟩ rfl (.inl rfl) (aK ⟨rfl,trivial⟩) (fun _ hj=>nomatch hj) (s1 (cK (robj:=[(800,.box 87 [.pt 801 0,.d (.i (W.tm)),.own 802 4,.own 803 3,ps 804 4 (W.a),ps 805 5 (W.b),ps 806 5 (W.c),ps 807 10 (W.d)]),(801,.box 92 [.d (.sl (aC l)),.d (.i (p+1+1+1))]),(802,.row 79 5 (aG W.ks)),(803,.row 4 1 (aM W.ls)),(804,aI 175 4 fV),(805,aI 29 5 cP),(806,aI 29 5 cP),(807,aI 140 10 jL)]) (rl:=[]) (bor:=[]) (news:=[]) (ee l (p+1+1+1) W ⟨7,i,0,0,0,0,aT l (p+1+1) 50,0,0,[]⟩ hW (by simp) (by omega)) rfl rfl rfl rfl ⟨bU rfl rfl rfl rfl (dD rfl (aF rfl (aF rfl (aF rfl (aF rfl (aF rfl (aF rfl (aF rfl (aF rfl (aF rfl (aF rfl aH)))))))))) (aZ rfl (eJ rfl rfl rfl (aF rfl (bK rfl rfl rfl (bK rfl rfl rfl (bE rfl rfl rfl (bE rfl rfl rfl (bE rfl rfl rfl (bE rfl rfl rfl aH)))))))) (aZ rfl (aF rfl (aF rfl aH)) (bW rfl rfl (bW rfl rfl (aY rfl rfl (aY rfl rfl (aY rfl rfl (aY rfl rfl trivial))))))))),rfl⟩ (by rintro _ ⟨W2,ok2,hw2,rfl⟩;exact⟨rfl,.inl rfl,fun j hj=>nomatch hj⟩) (aK ⟨rfl,rfl,rfl,rfl,rfl,rfl,rfl,rfl,trivial⟩) (fun j hj=>nomatch hj) ?_)))))
   rintro _ ⟨W2,ok2,hw2,rfl⟩
   refine cV [oB 800 87 [.pt 801 0,.d (.i (W2.tm)),.own 802 4,.own 803 3,ps 804 4 (W2.a),ps 805 5 (W2.b),ps 806 5 (W2.c),ps 807 10 (W2.d)],oB 801 92 [.d (.sl (aC l)),.d (.i ((p+1+1+1)))],oR 802 79 5 (aG W2.ks),oR 803 4 1 (aM W2.ls),(.o 804,aI 175 4 fV),(.o 805,aI 29 5 cP),(.o 806,aI 29 5 cP),(.o 807,aI 140 10 jL)] ⟨W2,(p+1+1+1),⟨(hw2).le (by omega),by omega,by omega⟩,rfl⟩ (rq [] [] rfl ?_)
   repeat' apply ai
   all_goals try exact qx
   all_goals(first|with_reducible rfl|(rfl))
 refine SW.midW (fun s=> ∃cb:Bool,s=[tP 0 800,tI 4 (i:Nat),tI 18 v,tB 79 cb,oB 800 87 [.pt 801 0,.d (.i (W.tm)),.own 802 4,.own 803 3,ps 804 4 (W.a),ps 805 5 (W.b),ps 806 5 (W.c),ps 807 10 (W.d)],oB 801 92 [.d (.sl (aC l)),.d (.i (p+1+1))],oR 802 79 5 (aG W.ks),oR 803 4 1 (aM W.ls),(.o 804,aI 175 4 fV),(.o 805,aI 29 5 cP),(.o 806,aI 29 5 cP),(.o 807,aI 140 10 jL)]) ?_ ?_
 · refine sq (rT [0,4,18,79] (s2 (cd rfl (fun c79=> ?_) fun c79=> ?_)))
   · refine sk (wq [] [] ⟨?c14,rfl⟩ ?_)
     repeat' apply ai
     all_goals try exact qx
     try any_goals first|with_reducible rfl|exact congrArg D.i hi|exact congrArg D.i hv.symm|rfl
   refine rT [0,4,18,79] (s2 (wq [] [] ⟨?c15,rfl⟩ ?_))
   repeat' apply ai
   all_goals try exact qx
   try any_goals first|with_reducible rfl|exact congrArg D.i hi|exact congrArg D.i hv.symm|rfl
 rintro s ⟨cb79,rfl⟩
 refine cd rfl (fun c79=> ?_) fun c79=> ?_
 · refine rE [] (s3 (cK (robj:=[(800,.box 87 [.pt 801 0,.d (.i (W.tm)),.own 802 4,.own 803 3,ps 804 4 (W.a),ps 805 5 (W.b),ps 806 5 (W.c),ps 807 10 (W.d)]),(801,.box 92 [.d (.sl (aC l)),.d (.i (p+1+1))]),(802,.row 79 5 (aG W.ks)),(803,.row 4 1 (aM W.ls)),(804,aI 175 4 fV),(805,aI 29 5 cP),(806,aI 29 5 cP),(807,aI 140 10 jL)]) (rl:=[]) (bor:=[]) (news:=[]) (ee l (p+1+1) W ⟨8,i,0,0,0,0,0,0,0,[]⟩ hW (by simp) (by omega)) rfl rfl rfl rfl ⟨bU rfl rfl rfl rfl (dD rfl (aF rfl (aF rfl (aF rfl (aF rfl (aF rfl (aF rfl (aF rfl (aF rfl (aF rfl (aF rfl aH)))))))))) (aZ rfl (eJ rfl rfl rfl (aF rfl (bK rfl rfl rfl (bK rfl rfl rfl (bE rfl rfl rfl (bE rfl rfl rfl (bE rfl rfl rfl (bE rfl rfl rfl aH)))))))) (aZ rfl (aF rfl (aF rfl aH)) (bW rfl rfl (bW rfl rfl (aY rfl rfl (aY rfl rfl (aY rfl rfl (aY rfl rfl trivial))))))))),rfl⟩ (by rintro _ ⟨W2,ok2,hw2,rfl⟩;exact⟨rfl,.inl rfl,fun j hj=>nomatch hj⟩) (aK ⟨rfl,rfl,rfl,rfl,rfl,rfl,rfl,rfl,trivial⟩) (fun j hj=>nomatch hj) ?_))
   rintro _ ⟨W2,ok2,hw2,rfl⟩
   refine cV [oB 800 87 [.pt 801 0,.d (.i (W2.tm)),.own 802 4,.own 803 3,ps 804 4 (W2.a),ps 805 5 (W2.b),ps 806 5 (W2.c),ps 807 10 (W2.d)],oB 801 92 [.d (.sl (aC l)),.d (.i ((p+1+1)))],oR 802 79 5 (aG W2.ks),oR 803 4 1 (aM W2.ls),(.o 804,aI 175 4 fV),(.o 805,aI 29 5 cP),(.o 806,aI 29 5 cP),(.o 807,aI 140 10 jL)] ⟨W2,(p+1+1),⟨(hw2).le (by omega),by omega,by omega⟩,rfl⟩ (rq [] [] rfl ?_)
   repeat' apply ai
   all_goals try exact qx
   all_goals(first|with_reducible rfl|(rfl))
 refine sq (rT [0,4,18,86] (s2 (cd rfl (fun c86=> ?_) fun c86=> ?_)))
 · refine SW.regDE dH mo [] 13 (fun _=>none) rfl rfl (by kernel_rfl) ?_
   refine s5 (bJ (robj:=[(801,.box 92 [.d (.sl (aC (l))),.d (.i (p+1+1))])]) (rl:=[(0,801)]) (bor:=[]) (cU (l) (p+1+1) _ (by omega) hl) rfl rfl rfl rfl ⟨bU rfl rfl rfl rfl (cJ rfl rfl (aZ rfl (aF rfl (aF rfl aH)) trivial)),rfl⟩ rfl (.inl rfl) (aK ⟨rfl,trivial⟩) (fun _ hj=>nomatch hj) (s5 (bJ (robj:=[(801,.box 92 [.d (.sl (aC (l))),.d (.i (p+1+1+1))])]) (rl:=[(0,801)]) (bor:=[]) (cU (l) (p+1+1+1) _ (by omega) hl) rfl rfl rfl rfl ⟨bU rfl rfl rfl rfl (cJ rfl rfl (aZ rfl (aF rfl (aF rfl aH)) trivial)),rfl⟩ rfl (.inl rfl) (aK ⟨rfl,trivial⟩) (fun _ hj=>nomatch hj) (s1 (vQ (robj:=[(800,.box 87 [.pt 801 0,.d (.i (W.tm)),.own 802 4,.own 803 3,ps 804 4 (W.a),ps 805 5 (W.b),ps 806 5 (W.c),ps 807 10 (W.d)]),(801,.box 92 [.d (.sl (aC l)),.d (.i (p+1+1+1+1))]),(802,.row 79 5 (aG W.ks)),(803,.row 4 1 (aM W.ls)),(804,aI 175 4 fV),(805,aI 29 5 cP),(806,aI 29 5 cP),(807,aI 140 10 jL)]) (rl:=[]) (bor:=[]) (news:=[]) (ee l (p+1+1+1+1) W ⟨wrap64 (9+aT l (p+1+1) 2),aT l (p+1+1+1) 3,0,0,0,0,0,0,0,[]⟩ hW (by simp) (by omega)) rfl rfl rfl rfl ⟨bU rfl rfl rfl rfl (dD rfl (aF rfl (aF rfl (aF rfl (aF rfl (aF rfl (aF rfl (aF rfl (aF rfl (aF rfl (aF rfl aH)))))))))) (aZ rfl (eJ rfl rfl rfl (aF rfl (bK rfl rfl rfl (bK rfl rfl rfl (bE rfl rfl rfl (bE rfl rfl rfl (bE rfl rfl rfl (bE rfl rfl rfl aH)))))))) (aZ rfl (aF rfl (aF rfl aH)) (bW rfl rfl (bW rfl rfl (aY rfl rfl (aY rfl rfl (aY rfl rfl (aY rfl rfl trivial))))))))),rfl⟩ (by rintro _ ⟨W2,ok2,hw2,rfl⟩;exact⟨rfl,.inl rfl,fun j hj=>nomatch hj⟩) (aK ⟨rfl,rfl,rfl,rfl,rfl,rfl,rfl,rfl,trivial⟩) (fun j hj=>nomatch hj) ⟨_,W,false,(fI.of.refl hW).le (by omega),rfl⟩ ?_)))))
   rintro _ ⟨W2,ok2,hw2,rfl⟩
   refine ai (by kernel_rfl) (cV [oB 800 87 [.pt 801 0,.d (.i (W2.tm)),.own 802 4,.own 803 3,ps 804 4 (W2.a),ps 805 5 (W2.b),ps 806 5 (W2.c),ps 807 10 (W2.d)],oB 801 92 [.d (.sl (aC l)),.d (.i ((p+1+1+1+1)))],oR 802 79 5 (aG W2.ks),oR 803 4 1 (aM W2.ls),(.o 804,aI 175 4 fV),(.o 805,aI 29 5 cP),(.o 806,aI 29 5 cP),(.o 807,aI 140 10 jL)] ⟨W2,(p+1+1+1+1),⟨(hw2).le (by omega),by omega,by omega⟩,rfl⟩ (rq [] [] rfl ?_))
   repeat' apply ai
   all_goals try exact qx
   all_goals(first|with_reducible rfl|(rfl))
 refine SW.midW (fun s=> ∃cb:Bool,s=[tP 0 800,tI 4 (i:Nat),tI 18 v,tB 102 cb,oB 800 87 [.pt 801 0,.d (.i (W.tm)),.own 802 4,.own 803 3,ps 804 4 (W.a),ps 805 5 (W.b),ps 806 5 (W.c),ps 807 10 (W.d)],oB 801 92 [.d (.sl (aC l)),.d (.i (p+1+1))],oR 802 79 5 (aG W.ks),oR 803 4 1 (aM W.ls),(.o 804,aI 175 4 fV),(.o 805,aI 29 5 cP),(.o 806,aI 29 5 cP),(.o 807,aI 140 10 jL)]) ?_ ?_
 · refine sq (rT [0,4,18,102] (s2 (cd rfl (fun c102=> ?_) fun c102=> ?_)))
   · refine sk (wq [] [] ⟨?c16,rfl⟩ ?_)
     repeat' apply ai
     all_goals try exact qx
     try any_goals first|with_reducible rfl|exact congrArg D.i hi|exact congrArg D.i hv.symm|rfl
   refine rT [0,4,18,102] (s2 (wq [] [] ⟨?c17,rfl⟩ ?_))
   repeat' apply ai
   all_goals try exact qx
   try any_goals first|with_reducible rfl|exact congrArg D.i hi|exact congrArg D.i hv.symm|rfl
 rintro s ⟨cb102,rfl⟩
 refine cd rfl (fun c102=> ?_) fun c102=> ?_
 · refine sq (rT [0,4,5] (s6 (ai (by exact⟨by rw[bD];exact hW.four,by omega,by omega⟩) (ai (by rw[aU4,cB (by rw[hW.four];omega)];exact⟨⟨by rw[bD];exact hW.four,by omega⟩,aU6 rfl,rfl⟩) (xp (gX (W.ks.getD i .zero) (by have:=(hW.at (show i<4 by omega)).1;omega)) (ai (by rw[aU4,cB (by rw[hW.four];omega)];rfl) ?_))))))
   refine s6 (sq (rT [0,4,5,120] (s4 (cd rfl (fun c120=> ?_) fun c120=> ?_))))
   · refine sq ?_
     have hn0:0< (bC (W.ks.getD i .zero)).1.inbox.length:=by have h9:=of_decide_eq_true c120;rw[aA] at h9;omega
     obtain⟨j,hj,hjl⟩: ∃j:Nat,aT l (p+1+1) ((aD (bC (W.ks.getD i .zero)).1.inbox).length:Int)=(j:Int)∧j< (bC (W.ks.getD i .zero)).1.inbox.length:=by have:=cG l (p:=p+1+1) (n:=((aD (bC (W.ks.getD i .zero)).1.inbox).length:Int)) (by omega) (by rw[aA];omega);rw[aA] at *; exact⟨(aT l (p+1+1) ((bC (W.ks.getD i .zero)).1.inbox.length:Int)).toNat,by omega,by omega⟩
     refine rD [0,4,7] (s9 (bJ (robj:=[(801,.box 92 [.d (.sl (aC (l))),.d (.i (p+1+1))])]) (rl:=[(0,801)]) (bor:=[]) (cU (l) (p+1+1) _ (by omega) hl) rfl rfl rfl rfl ⟨bU rfl rfl rfl rfl (cJ rfl rfl (aZ rfl (aF rfl (aF rfl aH)) trivial)),rfl⟩ rfl (.inl rfl) (aK ⟨rfl,trivial⟩) (fun _ hj=>nomatch hj) (ai (by rw[hj,aU4,aQ hjl];exact⟨⟨by omega,by rw[aA];omega⟩,rfl⟩) (ai (by rw[hj,aU4,aQ hjl];exact⟨aU6 rfl,rfl⟩) (s2 (ai (by kernel_rfl) (wa [tP 0 800,tI 4 (i:Nat),tP 7 7,oB 800 87 [.pt 801 0,.d (.i (W.tm)),.own 802 4,.own 803 3,ps 804 4 (W.a),ps 805 5 (W.b),ps 806 5 (W.c),ps 807 10 (W.d)],oB 801 92 [.d (.sl (aC l)),.d (.i (p+1+1+1))],oR 802 79 5 (aG W.ks),oR 803 4 1 (aM W.ls),(.o 804,aI 175 4 fV),(.o 805,aI 29 5 cP),(.o 806,aI 29 5 cP),(.o 807,aI 140 10 jL),oB 7 29 [.d (.i ((bC (W.ks.getD i .zero)).1.inbox.getD j .zero).frm),.d (.i ((bC (W.ks.getD i .zero)).1.inbox.getD j .zero).num),.d (.i ((bC (W.ks.getD i .zero)).1.inbox.getD j .zero).to),.d (.i ((bC (W.ks.getD i .zero)).1.inbox.getD j .zero).til),.d (.s ((bC (W.ks.getD i .zero)).1.inbox.getD j .zero).text)]] [] [] ?_ ?_)))))))
     · repeat' apply ai
       all_goals first|exact qx|((rw[hj,aU4,aQ hjl];rfl))|exact qz
     refine rE [] (s7 (cK (robj:=[(800,.box 87 [.pt 801 0,.d (.i (W.tm)),.own 802 4,.own 803 3,ps 804 4 (W.a),ps 805 5 (W.b),ps 806 5 (W.c),ps 807 10 (W.d)]),(801,.box 92 [.d (.sl (aC l)),.d (.i (p+1+1+1))]),(802,.row 79 5 (aG W.ks)),(803,.row 4 1 (aM W.ls)),(804,aI 175 4 fV),(805,aI 29 5 cP),(806,aI 29 5 cP),(807,aI 140 10 jL)]) (rl:=[]) (bor:=[]) (news:=[]) (ee l (p+1+1+1) W ⟨11,i,((bC (W.ks.getD i .zero)).1.inbox.getD j .zero).frm,((bC (W.ks.getD i .zero)).1.inbox.getD j .zero).num,0,0,0,0,0,[]⟩ hW (by simp) (by omega)) rfl rfl rfl rfl ⟨bU rfl rfl rfl rfl (dD rfl (aF rfl (aF rfl (aF rfl (aF rfl (aF rfl (aF rfl (aF rfl (aF rfl (aF rfl (aF rfl aH)))))))))) (aZ rfl (eJ rfl rfl rfl (aF rfl (bK rfl rfl rfl (bK rfl rfl rfl (bE rfl rfl rfl (bE rfl rfl rfl (bE rfl rfl rfl (bE rfl rfl rfl aH)))))))) (aZ rfl (aF rfl (aF rfl aH)) (bW rfl rfl (bW rfl rfl (aY rfl rfl (aY rfl rfl (aY rfl rfl (aY rfl rfl trivial))))))))),rfl⟩ (by rintro _ ⟨W2,ok2,hw2,rfl⟩;exact⟨rfl,.inl rfl,fun j hj=>nomatch hj⟩) (aK ⟨rfl,rfl,rfl,rfl,rfl,rfl,rfl,rfl,trivial⟩) (fun j hj=>nomatch hj) ?_))
     rintro _ ⟨W2,ok2,hw2,rfl⟩
     first
     |(refine cV [oB 800 87 [.pt 801 0,.d (.i (W2.tm)),.own 802 4,.own 803 3,ps 804 4 (W2.a),ps 805 5 (W2.b),ps 806 5 (W2.c),ps 807 10 (W2.d)],oB 801 92 [.d (.sl (aC l)),.d (.i ((p+1+1+1)))],oR 802 79 5 (aG W2.ks),oR 803 4 1 (aM W2.ls),(.o 804,aI 175 4 fV),(.o 805,aI 29 5 cP),(.o 806,aI 29 5 cP),(.o 807,aI 140 10 jL)] ⟨W2,(p+1+1+1),⟨(hw2).le (by omega),by omega,by omega⟩,rfl⟩ (rq [] [] rfl ?_)
       repeat' apply ai
       all_goals try exact qx
       all_goals(first|with_reducible rfl|(rfl)))
     |(refine cV [oB 800 87 [.pt 801 0,.d (.i (W.tm)),.own 802 4,.own 803 3,ps 804 4 (W.a),ps 805 5 (W.b),ps 806 5 (W.c),ps 807 10 (W.d)],oB 801 92 [.d (.sl (aC l)),.d (.i ((p+1+1)))],oR 802 79 5 (aG W.ks),oR 803 4 1 (aM W.ls),(.o 804,aI 175 4 fV),(.o 805,aI 29 5 cP),(.o 806,aI 29 5 cP),(.o 807,aI 140 10 jL)] ⟨W,(p+1+1),⟨(fI.of.refl hW).le (by omega),by omega,by omega⟩,rfl⟩ (rq [] [] rfl ?_)
       repeat' apply ai
       all_goals try exact qx
       all_goals(first|with_reducible rfl|(rfl)))
   refine sk ?_
   first
   |(refine cV [oB 800 87 [.pt 801 0,.d (.i (W2.tm)),.own 802 4,.own 803 3,ps 804 4 (W2.a),ps 805 5 (W2.b),ps 806 5 (W2.c),ps 807 10 (W2.d)],oB 801 92 [.d (.sl (aC l)),.d (.i ((p+1+1+1)))],oR 802 79 5 (aG W2.ks),oR 803 4 1 (aM W2.ls),(.o 804,aI 175 4 fV),(.o 805,aI 29 5 cP),(.o 806,aI 29 5 cP),(.o 807,aI 140 10 jL)] ⟨W2,(p+1+1+1),⟨(hw2).le (by omega),by omega,by omega⟩,rfl⟩ (rq [] [] rfl ?_)
     repeat' apply ai
     all_goals try exact qx
     all_goals(first|with_reducible rfl|(rfl)))
   |(refine cV [oB 800 87 [.pt 801 0,.d (.i (W.tm)),.own 802 4,.own 803 3,ps 804 4 (W.a),ps 805 5 (W.b),ps 806 5 (W.c),ps 807 10 (W.d)],oB 801 92 [.d (.sl (aC l)),.d (.i ((p+1+1)))],oR 802 79 5 (aG W.ks),oR 803 4 1 (aM W.ls),(.o 804,aI 175 4 fV),(.o 805,aI 29 5 cP),(.o 806,aI 29 5 cP),(.o 807,aI 140 10 jL)] ⟨W,(p+1+1),⟨(fI.of.refl hW).le (by omega),by omega,by omega⟩,rfl⟩ (rq [] [] rfl ?_)
     repeat' apply ai
     all_goals try exact qx
     all_goals(first|with_reducible rfl|(rfl)))
 refine sq (rT [0,4,18,141] (s2 (cd rfl (fun c141=> ?_) fun c141=> ?_)))
 · refine rE [] (s5 (gY (bJ (robj:=[(801,.box 92 [.d (.sl (aC (l))),.d (.i (p+1+1))])]) (rl:=[(0,801)]) (bor:=[]) (cU (l) (p+1+1) _ (by omega) hl) rfl rfl rfl rfl ⟨bU rfl rfl rfl rfl (cJ rfl rfl (aZ rfl (aF rfl (aF rfl aH)) trivial)),rfl⟩ rfl (.inl rfl) (aK ⟨rfl,trivial⟩) (fun _ hj=>nomatch hj) (s3 (cK (robj:=[(800,.box 87 [.pt 801 0,.d (.i (W.tm)),.own 802 4,.own 803 3,ps 804 4 (W.a),ps 805 5 (W.b),ps 806 5 (W.c),ps 807 10 (W.d)]),(801,.box 92 [.d (.sl (aC l)),.d (.i (p+1+1+1))]),(802,.row 79 5 (aG W.ks)),(803,.row 4 1 (aM W.ls)),(804,aI 175 4 fV),(805,aI 29 5 cP),(806,aI 29 5 cP),(807,aI 140 10 jL)]) (rl:=[]) (bor:=[]) (news:=[]) (ee l (p+1+1+1) W ⟨wrap64 (12+aT l (p+1+1) 2),i,0,0,0,0,0,0,0,[]⟩ hW (by simp) (by omega)) rfl rfl rfl rfl ⟨bU rfl rfl rfl rfl (dD rfl (aF rfl (aF rfl (aF rfl (aF rfl (aF rfl (aF rfl (aF rfl (aF rfl (aF rfl (aF rfl aH)))))))))) (aZ rfl (eJ rfl rfl rfl (aF rfl (bK rfl rfl rfl (bK rfl rfl rfl (bE rfl rfl rfl (bE rfl rfl rfl (bE rfl rfl rfl (bE rfl rfl rfl aH)))))))) (aZ rfl (aF rfl (aF rfl aH)) (bW rfl rfl (bW rfl rfl (aY rfl rfl (aY rfl rfl (aY rfl rfl (aY rfl rfl trivial))))))))),rfl⟩ (by rintro _ ⟨W2,ok2,hw2,rfl⟩;exact⟨rfl,.inl rfl,fun j hj=>nomatch hj⟩) (aK ⟨rfl,rfl,rfl,rfl,rfl,rfl,rfl,rfl,trivial⟩) (fun j hj=>nomatch hj) ?_)))))
   rintro _ ⟨W2,ok2,hw2,rfl⟩
   refine cV [oB 800 87 [.pt 801 0,.d (.i (W2.tm)),.own 802 4,.own 803 3,ps 804 4 (W2.a),ps 805 5 (W2.b),ps 806 5 (W2.c),ps 807 10 (W2.d)],oB 801 92 [.d (.sl (aC l)),.d (.i ((p+1+1+1)))],oR 802 79 5 (aG W2.ks),oR 803 4 1 (aM W2.ls),(.o 804,aI 175 4 fV),(.o 805,aI 29 5 cP),(.o 806,aI 29 5 cP),(.o 807,aI 140 10 jL)] ⟨W2,(p+1+1+1),⟨(hw2).le (by omega),by omega,by omega⟩,rfl⟩ (rq [] [] rfl ?_)
   repeat' apply ai
   all_goals try exact qx
   all_goals(first|with_reducible rfl|(rfl))
 refine SW.midW (fun s=> ∃cb:Bool,s=[tP 0 800,tB 153 cb,oB 800 87 [.pt 801 0,.d (.i (W.tm)),.own 802 4,.own 803 3,ps 804 4 (W.a),ps 805 5 (W.b),ps 806 5 (W.c),ps 807 10 (W.d)],oB 801 92 [.d (.sl (aC l)),.d (.i (p+1+1))],oR 802 79 5 (aG W.ks),oR 803 4 1 (aM W.ls),(.o 804,aI 175 4 fV),(.o 805,aI 29 5 cP),(.o 806,aI 29 5 cP),(.o 807,aI 140 10 jL)]) ?_ ?_
 · refine sq (rT [0,18,153] (s2 (cd rfl (fun c153=> ?_) fun c153=> ?_)))
   · refine sk (wq [] [] ⟨?c18,rfl⟩ ?_)
     repeat' apply ai
     all_goals try exact qx
     try any_goals first|with_reducible rfl|exact congrArg D.i hi|exact congrArg D.i hv.symm|rfl
   refine sq (rT [0,18,153] (s2 (cd rfl (fun c153=> ?_) fun c153=> ?_)))
   · refine sk (wq [] [] ⟨?c19,rfl⟩ ?_)
     repeat' apply ai
     all_goals try exact qx
     try any_goals first|with_reducible rfl|exact congrArg D.i hi|exact congrArg D.i hv.symm|rfl
   refine rT [0,153] (s2 (wq [] [] ⟨?c20,rfl⟩ ?_))
   repeat' apply ai
   all_goals try exact qx
   try any_goals first|with_reducible rfl|exact congrArg D.i hi|exact congrArg D.i hv.symm|rfl
 rintro s ⟨cb153,rfl⟩
 refine cd rfl (fun c153=> ?_) fun c153=> ?_
 · refine rE [] (s1 (cK (robj:=[(800,.box 87 [.pt 801 0,.d (.i (W.tm)),.own 802 4,.own 803 3,ps 804 4 (W.a),ps 805 5 (W.b),ps 806 5 (W.c),ps 807 10 (W.d)]),(801,.box 92 [.d (.sl (aC l)),.d (.i (p+1+1))]),(802,.row 79 5 (aG W.ks)),(803,.row 4 1 (aM W.ls)),(804,aI 175 4 fV),(805,aI 29 5 cP),(806,aI 29 5 cP),(807,aI 140 10 jL)]) (rl:=[]) (bor:=[]) (news:=[]) (aS9 l (p+1+1) W (by omega) hl hW (by omega)) rfl rfl rfl rfl ⟨bU rfl rfl rfl rfl (aZ rfl (eJ rfl rfl rfl (aF rfl (bK rfl rfl rfl (bK rfl rfl rfl (bE rfl rfl rfl (bE rfl rfl rfl (bE rfl rfl rfl (bE rfl rfl rfl aH)))))))) (aZ rfl (aF rfl (aF rfl aH)) (bW rfl rfl (bW rfl rfl (aY rfl rfl (aY rfl rfl (aY rfl rfl (aY rfl rfl trivial)))))))),rfl⟩ (by rintro _ ⟨W2,q2,hw2,rfl⟩;exact⟨rfl,.inl rfl,fun j hj=>nomatch hj⟩) (aK ⟨rfl,rfl,rfl,rfl,rfl,rfl,rfl,rfl,trivial⟩) (fun j hj=>nomatch hj) ?_))
   rintro _ ⟨W2,q2,hw2,rfl⟩
   refine cV [oB 800 87 [.pt 801 0,.d (.i (W2.tm)),.own 802 4,.own 803 3,ps 804 4 (W2.a),ps 805 5 (W2.b),ps 806 5 (W2.c),ps 807 10 (W2.d)],oB 801 92 [.d (.sl (aC l)),.d (.i (q2))],oR 802 79 5 (aG W2.ks),oR 803 4 1 (aM W2.ls),(.o 804,aI 175 4 fV),(.o 805,aI 29 5 cP),(.o 806,aI 29 5 cP),(.o 807,aI 140 10 jL)] ⟨W2,q2,⟨(hw2.1).le (by omega),by omega,by omega⟩,rfl⟩ (rq [] [] rfl ?_)
   repeat' apply ai
   all_goals try exact qx
   all_goals(first|with_reducible rfl|(rfl))
 refine sq (rT [0,8] (s1 (bk (SW.loopW (n:=4) (fun x s=> ∃(i:Nat) (V:fI) (q:Int),x=4 - i∧(i≤4∧V.of W (100*i)∧p≤q∧q≤p+2+260*i)∧s=[tP 0 800,tI 8 (i:Nat),oB 800 87 [.pt 801 0,.d (.i (V.tm)),.own 802 4,.own 803 3,ps 804 4 (V.a),ps 805 5 (V.b),ps 806 5 (V.c),ps 807 10 (V.d)],oB 801 92 [.d (.sl (aC l)),.d (.i (q))],oR 802 79 5 (aG V.ks),oR 803 4 1 (aM V.ls),(.o 804,aI 175 4 fV),(.o 805,aI 29 5 cP),(.o 806,aI 29 5 cP),(.o 807,aI 140 10 jL)]) ?_ ?_))))
 · exact wq [] [] (⟨0,W,p+1+1,rfl,⟨by omega,fI.of.refl hW,by omega,by omega⟩,rfl⟩) qz
 rintro n s ⟨i,V,q,rfl,⟨hi4,hV,hq⟩,rfl⟩
 have hVd:=hV.few
 refine sq (sq (rT [0,8,20] (s2 (cd rfl (fun c20=> ?_) fun c20=> ?_))))
 · have hi5:i<4:=by simp at c20;omega
   refine sk (sq (bk (sq (rE [0,8] (s1 (cK (robj:=[(800,.box 87 [.pt 801 0,.d (.i (V.tm)),.own 802 4,.own 803 3,ps 804 4 (V.a),ps 805 5 (V.b),ps 806 5 (V.c),ps 807 10 (V.d)]),(801,.box 92 [.d (.sl (aC l)),.d (.i (q))]),(802,.row 79 5 (aG V.ks)),(803,.row 4 1 (aM V.ls)),(804,aI 175 4 fV),(805,aI 29 5 cP),(806,aI 29 5 cP),(807,aI 140 10 jL)]) (rl:=[]) (bor:=[]) (news:=[]) (qw l q V 7 0 (by omega) hl hV.ok (by omega) (by omega)) rfl rfl rfl rfl ⟨bU rfl rfl rfl rfl (cJ rfl rfl (cJ rfl rfl (aZ rfl (eJ rfl rfl rfl (aF rfl (bK rfl rfl rfl (bK rfl rfl rfl (bE rfl rfl rfl (bE rfl rfl rfl (bE rfl rfl rfl (bE rfl rfl rfl aH)))))))) (aZ rfl (aF rfl (aF rfl aH)) (bW rfl rfl (bW rfl rfl (aY rfl rfl (aY rfl rfl (aY rfl rfl (aY rfl rfl trivial)))))))))),rfl⟩ (by rintro _ ⟨W3,q3,hw3,rfl⟩;exact⟨rfl,.inl rfl,fun j hj=>nomatch hj⟩) (aK ⟨rfl,rfl,rfl,rfl,rfl,rfl,rfl,rfl,trivial⟩) (fun j hj=>nomatch hj) ?_))))))
   rintro _ ⟨W3,q3,hw3,rfl⟩
   refine rE [0,8] (s1 (cK (robj:=[(800,.box 87 [.pt 801 0,.d (.i (W3.tm)),.own 802 4,.own 803 3,ps 804 4 (W3.a),ps 805 5 (W3.b),ps 806 5 (W3.c),ps 807 10 (W3.d)]),(801,.box 92 [.d (.sl (aC l)),.d (.i (q3))]),(802,.row 79 5 (aG W3.ks)),(803,.row 4 1 (aM W3.ls)),(804,aI 175 4 fV),(805,aI 29 5 cP),(806,aI 29 5 cP),(807,aI 140 10 jL)]) (rl:=[]) (bor:=[]) (news:=[]) (lg l q3 W3 20 0 (by omega) hl hw3.1.ok (by have:=hw3.1.few;omega) (by omega)) rfl rfl rfl rfl ⟨bU rfl rfl rfl rfl (cJ rfl rfl (cJ rfl rfl (aZ rfl (eJ rfl rfl rfl (aF rfl (bK rfl rfl rfl (bK rfl rfl rfl (bE rfl rfl rfl (bE rfl rfl rfl (bE rfl rfl rfl (bE rfl rfl rfl aH)))))))) (aZ rfl (aF rfl (aF rfl aH)) (bW rfl rfl (bW rfl rfl (aY rfl rfl (aY rfl rfl (aY rfl rfl (aY rfl rfl trivial)))))))))),rfl⟩ (by rintro _ ⟨W4,q4,hw4,rfl⟩;exact⟨rfl,.inl rfl,fun j hj=>nomatch hj⟩) (aK ⟨rfl,rfl,rfl,rfl,rfl,rfl,rfl,rfl,trivial⟩) (fun j hj=>nomatch hj) ?_))
   rintro _ ⟨W4,q4,hw4,rfl⟩
   refine rT [0,8] (s3 (wq [] [] (⟨4 - (i+1),by omega,i+1,W4,q4,rfl,⟨by omega,(hV.trans (hw3.1.trans hw4.1)).le (by omega),by omega,by omega⟩,rfl⟩) ?_))
   repeat' apply ai
   all_goals first|exact qx|exact congrArg D.i (aE (by omega))|rfl|exact qz
 refine xt (cV [oB 800 87 [.pt 801 0,.d (.i (V.tm)),.own 802 4,.own 803 3,ps 804 4 (V.a),ps 805 5 (V.b),ps 806 5 (V.c),ps 807 10 (V.d)],oB 801 92 [.d (.sl (aC l)),.d (.i (q))],oR 802 79 5 (aG V.ks),oR 803 4 1 (aM V.ls),(.o 804,aI 175 4 fV),(.o 805,aI 29 5 cP),(.o 806,aI 29 5 cP),(.o 807,aI 140 10 jL)] ⟨V,q,⟨(hV).le (by omega),by omega,by omega⟩,rfl⟩ (rq [] [] rfl ?_))
 repeat' apply ai
 all_goals try exact qx
 all_goals(first|with_reducible rfl|(rfl))
theorem gv (n:Int):Sp 118 1 [tI 0 n] [tV 0 (.e (.agg [.d (.i ((gP n)).id),.d (.b ((gP n)).up),.d (.s ((gP n)).log),.d (.i ((gP n)).forced),.d (.sl (bR ((gP n)).halves))]))]:=by
 refine sb Tryz.func118 rfl (sq (rT [0,2] (s1 (sq (sq (rT [0,2,5] (s1 (xp (dB _) (ai rfl ?_)))))))))
 refine s1 (cd rfl (fun c5=> ?_) fun c5=> ?_)
 · refine sq (rT [2] (s2 (rt ?_)))
   have hk:gP n= .zero:=by unfold gP;rw[if_neg];intro h;rw[h] at c5;simp at c5
   refine rq [] [] rfl ?_
   repeat' apply ai
   all_goals try exact qx
   all_goals(rw[hk];try rfl)
 refine sk (sq (rT [2] (s3 (rt ?_))))
 have hk:gP n=⟨n,true,[],0,[]⟩:=by unfold gP;rw[if_pos];simpa using c5
 refine rq [] [] rfl ?_
 repeat' apply ai
 all_goals try exact qx
 all_goals(rw[hk];try rfl)
set_option maxHeartbeats 1600000 in
theorem lh:Sp 96 0 [] [tV 0 (.e (.agg [.d (.i (0)),.own 802 4,.own 803 3,ps 804 4 (0),ps 805 5 (0),ps 806 5 (0)])),oR 802 79 5 (aG (qN 4)),oR 803 4 1 (aM (yes 3)),(.o 804,aI 175 4 fV),(.o 805,aI 29 5 cP),(.o 806,aI 29 5 cP)]:=by
 refine sb Tryz.func96 rfl (sq (rT [0] (s1 (sq (rT [0,1] (s3 (sq (sq (SW.nilBox 1 802 1 79 5 rfl rfl rfl (SW.nilBox 1 803 2 4 1 rfl rfl rfl (rT [0,1,2] (s1 (bk (SW.loopW (n:=4) (fun m s=> ∃i:Nat,m=4 - i∧i≤4∧s=[tP 0 0,tP 1 1,tI 2 (i:Nat),oB 0 84 [.d (.i 0),.nil,.nil,.nil,.nil,.nil],oB 1 84 [.d (.i 0),.own 802 (i),.own 803 0,.nil,.nil,.nil],oR 802 79 5 (aG (qN (i))),oR 803 4 1 []]) ?_ ?_))))))))))))))
 · refine wq [] [] (⟨0,rfl,by omega,rfl⟩) ?_
   repeat' apply ai
   all_goals first|exact qx|exact congrArg D.i (aE (by omega))|(simp[bD,lQ,cS,rR];done)|exact qO _|exact uA _|rfl|exact qz
 rintro n s ⟨i,rfl,hi,rfl⟩
 refine sq (sq (rT [0,1,2,6] (s2 (cd rfl (fun c6=> ?_) fun c6=> ?_))))
 · have hi2:i<4:=by simp at c6;omega
   refine sk (sq (bk (rD [0,1,2] (s3 (xp (gv _) (ai rfl ?_))))))
   refine s1 (ai (by refine⟨rfl,(bD _).trans (lQ _),by simp,?_⟩;show(_+1)*64≤_;omega) (s2 (ai (by kernel_rfl) (rT [0,1,2] (s3 (wq [] [] (⟨4 - (i+1),by omega,i+1,rfl,by omega,rfl⟩) ?_))))))
   repeat' apply ai
   all_goals first|exact qx|exact congrArg D.i (aE (by omega))|(simp[bD,lQ,cS,rR];done)|exact qO _|exact uA _|rfl|exact qz
 have hi4:i=4:=by simp at c6;omega
 subst hi4
 refine xt (sq (sq (rT [0,1,3] (s1 (bk (SW.loopW (n:=3) (fun m s=> ∃j:Nat,m=3 - j∧j≤3∧s=[tP 0 0,tP 1 1,tI 3 (j:Nat),oB 0 84 [.d (.i 0),.nil,.nil,.nil,.nil,.nil],oB 1 84 [.d (.i 0),.own 802 4,.own 803 (j),.nil,.nil,.nil],oR 802 79 5 (aG (qN 4)),oR 803 4 1 (aM (yes (j)))]) ?_ ?_))))))
 · refine wq [] [] (⟨0,rfl,by omega,rfl⟩) ?_
   repeat' apply ai
   all_goals first|exact qx|exact congrArg D.i (aE (by omega))|(simp[bD,lQ,cS,rR];done)|exact qO _|exact uA _|rfl|exact qz
 rintro n s ⟨j,rfl,hj,rfl⟩
 refine sq (sq (rT [0,1,3,18] (s3 (cd rfl (fun c18=> ?_) fun c18=> ?_))))
 · have hj2:j<3:=by rw[aE (by omega)] at c18;simp at c18;omega
   refine sk (sq (bk (rT [0,1,3] (s3 (ai (by refine⟨rfl,(cS _).trans (rR _),by simp,?_⟩;show(_+1)*1≤_;omega) (s2 (rT [0,1,3] (s3 (wq [] [] (⟨3 - (j+1),by omega,j+1,rfl,by omega,rfl⟩) ?_)))))))))
   repeat' apply ai
   all_goals first|exact qx|exact congrArg D.i (aE (by omega))|(simp[bD,lQ,cS,rR];done)|exact qO _|exact uA _|rfl|exact qz
 have hj4:j=3:=by rw[aE (by omega)] at c18;simp at c18;omega
 subst hj4
 refine xt (sq (SW.newPool 804 175 4 fV rfl (SW.newPool 805 29 5 cP rfl (SW.newPool 806 29 5 cP rfl (rT [0] (s2 (rt (rq [] [] rfl ?_))))))))
 repeat' apply ai
 all_goals try exact qx
 all_goals first|with_reducible rfl|rfl
set_option maxHeartbeats 3200000 in
theorem aTb (l:List UInt8) (p:Int) (n:Nat) (hp:0≤p∧p≤700000) (hl:l.length≤2000) (hn:1≤n∧n≤100):qu 65 2 [tP 0 801,tI 1 (n:Nat),oB 801 92 [.d (.sl (aC l)),.d (.i (p))]] (fun s=> ∃(W:fI) (q:Int),(W.of fJ 60000∧p≤q∧q≤p+20+1200*n)∧s=[tP 0 800,oB 800 87 [.pt 801 0,.d (.i (W.tm)),.own 802 4,.own 803 3,ps 804 4 (W.a),ps 805 5 (W.b),ps 806 5 (W.c),ps 807 10 (W.d)],oB 801 92 [.d (.sl (aC l)),.d (.i (q))],oR 802 79 5 (aG W.ks),oR 803 4 1 (aM W.ls),(.o 804,aI 175 4 fV),(.o 805,aI 29 5 cP),(.o 806,aI 29 5 cP),(.o 807,aI 140 10 jL)]):=by
 refine vt Tryz.func65 rfl (sq (rT [0,1] (s1 (sq (rT [0,1,5] (s1 (bJ (robj:=[]) (rl:=[]) (bor:=[]) lh rfl rfl rfl rfl ⟨trivial,rfl⟩ rfl (.inl rfl) (fun p hp=>nomatch hp) (fun j hj=>by simp[mT,cA,iU] at hj;rcases hj with rfl|rfl|rfl|rfl|rfl<;>rfl) (s3 (SW.midW (fun s=> ∃r:Int,s=[tP 0 801,tI 1 (n:Nat),tP 5 800,tI 6 r,oB 800 87 [.pt 801 0,.d (.i (fJ.tm)),.own 802 4,.own 803 3,ps 804 4 (fJ.a),ps 805 5 (fJ.b),ps 806 5 (fJ.c),ps 807 10 (fJ.d)],oB 801 92 [.d (.sl (aC l)),.d (.i (p+1))],oR 802 79 5 (aG fJ.ks),oR 803 4 1 (aM fJ.ls),(.o 804,aI 175 4 fV),(.o 805,aI 29 5 cP),(.o 806,aI 29 5 cP),(.o 807,aI 140 10 jL)]) ?_ ?_)))))))))
 · have hpv:=cG l (p:=p) (n:=5) (by omega) (by omega)
   refine SW.newPool 807 140 10 jL rfl (wa [tP 0 801,tI 1 (n:Nat),tP 5 800,oB 800 87 [.pt 801 0,.d (.i (fJ.tm)),.own 802 4,.own 803 3,ps 804 4 (fJ.a),ps 805 5 (fJ.b),ps 806 5 (fJ.c),ps 807 10 (fJ.d)],oB 801 92 [.d (.sl (aC l)),.d (.i (p))],oR 802 79 5 (aG fJ.ks),oR 803 4 1 (aM fJ.ls),(.o 804,aI 175 4 fV),(.o 805,aI 29 5 cP),(.o 806,aI 29 5 cP),(.o 807,aI 140 10 jL)] [(800,11)] [] qz (rT [0,1,5,6] (s2 (bJ (robj:=[(801,.box 92 [.d (.sl (aC (l))),.d (.i (p))])]) (rl:=[(0,801)]) (bor:=[]) (cU (l) (p) _ (by omega) hl) rfl rfl rfl rfl ⟨bU rfl rfl rfl rfl (cJ rfl rfl (aZ rfl (aF rfl (aF rfl aH)) trivial)),rfl⟩ rfl (.inl rfl) (aK ⟨rfl,trivial⟩) (fun _ hj=>nomatch hj) ?_))))
   refine ai ⟨rfl,hpv.1,hpv.2⟩ (ai (aG4 (l:=[0,0,3,6,12]) (by simp;omega) rfl) (s1 (wq [] [] ⟨?r1,rfl⟩ ?_)))
   repeat' apply ai
   all_goals try exact qx
   try any_goals rfl
 rintro s ⟨r,rfl⟩
 refine sq (rE [0,1,5,6] (s1 (cK (robj:=[(800,.box 87 [.pt 801 0,.d (.i (fJ.tm)),.own 802 4,.own 803 3,ps 804 4 (fJ.a),ps 805 5 (fJ.b),ps 806 5 (fJ.c),ps 807 10 (fJ.d)]),(801,.box 92 [.d (.sl (aC l)),.d (.i (p+1))]),(802,.row 79 5 (aG fJ.ks)),(803,.row 4 1 (aM fJ.ls)),(804,aI 175 4 fV),(805,aI 29 5 cP),(806,aI 29 5 cP),(807,aI 140 10 jL)]) (rl:=[]) (bor:=[]) (news:=[]) (aRi l (p+1) fJ (by omega) hl px (by decide)) rfl rfl rfl rfl ⟨bU rfl rfl rfl rfl (aZ rfl (eJ rfl rfl rfl (aF rfl (bK rfl rfl rfl (bK rfl rfl rfl (bE rfl rfl rfl (bE rfl rfl rfl (bE rfl rfl rfl (bE rfl rfl rfl aH)))))))) (aZ rfl (aF rfl (aF rfl aH)) (bW rfl rfl (bW rfl rfl (aY rfl rfl (aY rfl rfl (aY rfl rfl (aY rfl rfl trivial)))))))),rfl⟩ (by rintro _ ⟨W1,q1,hw1,rfl⟩;exact⟨rfl,.inl rfl,fun j hj=>nomatch hj⟩) (aK ⟨rfl,rfl,rfl,rfl,rfl,rfl,rfl,rfl,trivial⟩) (fun j hj=>nomatch hj) ?_)))
 rintro _ ⟨W1,q1,hw1,rfl⟩
 refine sq (sq (rT [5,6,7] (s2 (bJ (robj:=[(801,.box 92 [.d (.sl (aC (l))),.d (.i (q1))])]) (rl:=[(0,801)]) (bor:=[]) (cU (l) (q1) _ (by omega) hl) rfl rfl rfl rfl ⟨bU rfl rfl rfl rfl (cJ rfl rfl (aZ rfl (aF rfl (aF rfl aH)) trivial)),rfl⟩ rfl (.inl rfl) (aK ⟨rfl,trivial⟩) (fun _ hj=>nomatch hj) (s1 (bk ?_))))))
 have hw1d:=hw1.1.few
 have hs0:fJ.d=0:=rfl
 obtain⟨k0,hk0,hkn⟩: ∃k0:Nat,aT l q1 (n:Int)=(k0:Int)∧k0<n:=by have:=cG l (p:=q1) (n:=(n:Int)) (by omega) (by omega);exact⟨(aT l q1 (n:Int)).toNat,by omega,by omega⟩
 refine SW.loopW (n:=k0) (fun x s=> ∃(V:fI) (q:Int),(x≤k0∧V.of fJ (1+520*(k0 - x))∧p≤q∧q≤p+12+1200*(k0 - x:Nat))∧s=[tP 5 800,tI 6 r,tI 7 (x:Nat),oB 800 87 [.pt 801 0,.d (.i (V.tm)),.own 802 4,.own 803 3,ps 804 4 (V.a),ps 805 5 (V.b),ps 806 5 (V.c),ps 807 10 (V.d)],oB 801 92 [.d (.sl (aC l)),.d (.i (q))],oR 802 79 5 (aG V.ks),oR 803 4 1 (aM V.ls),(.o 804,aI 175 4 fV),(.o 805,aI 29 5 cP),(.o 806,aI 29 5 cP),(.o 807,aI 140 10 jL)]) ?_ ?_
 · refine wq [] [] (⟨W1,q1+1,⟨by omega,hw1.1.le (by omega),by omega,by omega⟩,rfl⟩) ?_
   repeat' apply ai
   all_goals first|exact qx|exact congrArg D.i hk0|rfl|exact qz
 rintro n s ⟨V,q,⟨hx,hV,hq⟩,rfl⟩
 have hVd:=hV.few
 refine sq (sq (rT [5,6,7,23] (s2 (cd rfl (fun c23=> ?_) fun c23=> ?_))))
 · have hn0:0<n:=by simp at c23;omega
   refine sk (sq (bk (rE [5,6,7] (s2 (cK (robj:=[(800,.box 87 [.pt 801 0,.d (.i (V.tm)),.own 802 4,.own 803 3,ps 804 4 (V.a),ps 805 5 (V.b),ps 806 5 (V.c),ps 807 10 (V.d)]),(801,.box 92 [.d (.sl (aC l)),.d (.i (q))]),(802,.row 79 5 (aG V.ks)),(803,.row 4 1 (aM V.ls)),(804,aI 175 4 fV),(805,aI 29 5 cP),(806,aI 29 5 cP),(807,aI 140 10 jL)]) (rl:=[]) (bor:=[]) (news:=[]) (aTa l q V r (by omega) hl hV.ok (by omega)) rfl rfl rfl rfl ⟨bU rfl rfl rfl rfl (cJ rfl rfl (aZ rfl (eJ rfl rfl rfl (aF rfl (bK rfl rfl rfl (bK rfl rfl rfl (bE rfl rfl rfl (bE rfl rfl rfl (bE rfl rfl rfl (bE rfl rfl rfl aH)))))))) (aZ rfl (aF rfl (aF rfl aH)) (bW rfl rfl (bW rfl rfl (aY rfl rfl (aY rfl rfl (aY rfl rfl (aY rfl rfl trivial))))))))),rfl⟩ (by rintro _ ⟨W3,q3,hw3,rfl⟩;exact⟨rfl,.inl rfl,fun j hj=>nomatch hj⟩) (aK ⟨rfl,rfl,rfl,rfl,rfl,rfl,rfl,rfl,trivial⟩) (fun j hj=>nomatch hj) ?_)))))
   rintro _ ⟨W3,q3,hw3,rfl⟩
   refine rT [5,6,7] (s3 (wq [] [] (⟨n - 1,by omega,W3,q3,⟨by omega,(hV.trans hw3.1).le (by omega),by omega,by omega⟩,rfl⟩) ?_))
   repeat' apply ai
   all_goals first|exact qx|(refine congrArg D.i ?_;rw[aE (by omega)];omega)|rfl|exact qz
 refine xt (sq (rT [4] (s2 (rt (cV [tP 0 800,oB 800 87 [.pt 801 0,.d (.i (V.tm)),.own 802 4,.own 803 3,ps 804 4 (V.a),ps 805 5 (V.b),ps 806 5 (V.c),ps 807 10 (V.d)],oB 801 92 [.d (.sl (aC l)),.d (.i (q))],oR 802 79 5 (aG V.ks),oR 803 4 1 (aM V.ls),(.o 804,aI 175 4 fV),(.o 805,aI 29 5 cP),(.o 806,aI 29 5 cP),(.o 807,aI 140 10 jL)] ⟨V,q,⟨hV.le (by omega),by omega,by omega⟩,rfl⟩ (rq [] [] rfl ?_))))))
 repeat' apply ai
 all_goals try exact qx
 all_goals(first|with_reducible rfl|(rfl))
end Go.Proofs.YtcbjphphppaoiaaGreatDoor
namespace Go.Ab
open Int renaming toNat_natCast→aU4,tmod→aVg
open List renaming length_append→aU5,length_nil→aU8,length_cons→aU9,getD_eq_getElem?_getD→aVb,length_take→aVc,getElem?_eq_getElem→aVd,getElem?_eq_some_iff→aVe,range→aVh,all_eq_true→aVi,mem_map→aVj,length_drop→aVk,take_length→aVl,mem_cons→aVm,mem_singleton→aVn,mem_iff_getElem?→aVp
open Nat renaming le_of_ble_eq_true→aU6,zero_le→aVa,le_refl→aVf,add_mul→aVo
open Bool renaming and_eq_true→aU7
open Go Go.RowKit
set_option linter.unusedVariables false
set_option linter.unusedSimpArgs false
theorem aFi {α:Type} {p:α→Prop} {l:List α} {n:α} (h: ∀x∈l,p x) (hn:p n): ∀x∈l++[n],p x:=by
 intro x hx
 rcases List.mem_append.1 hx with hx|hx
 · exact h x hx
 · rw[aVn.1 hx];exact hn
theorem dw {k:aL} {n:aR} (h:OZ k) (hn:ND n):KD {k with held:=k.held++[n]}:=
 ⟨h.kd.1.id,h.kd.1.time,⟨by rw[aU5];simp;have:=h.kd.2;omega,h.kd.1.few.2⟩,aFi h.kd.1.held hn,h.kd.1.inbox⟩
theorem xQ {k:aL} {n:aR} (h:OZ k) (hn:ND n):KD {k with inbox:=k.inbox++[n]}:=
 ⟨h.kd.1.id,h.kd.1.time,⟨h.kd.1.few.1,h.kd.1.few.2.1,by rw[aU5];simp;have:=h.kd.2;omega⟩,h.kd.1.held,aFi h.kd.1.inbox hn⟩
theorem xR {k:aL} {n:bQ} (h:OZ k):KD {k with marks:=k.marks++[n]}:=
 ⟨h.kd.1.id,h.kd.1.time,⟨h.kd.1.few.1,by rw[aU5];simp;have:=h.kd.2;omega,h.kd.1.few.2.2⟩,h.kd.1.held,h.kd.1.inbox⟩
theorem dx {k:aL} {t:Int} (h:OZ k) (ht:R1 t):KD {k with time:=t}:=⟨h.kd.1.id,ht,h.kd.1.few,h.kd.1.held,h.kd.1.inbox⟩
theorem dy {k:aL} {t:Int} (h:OZ k):KD {k with next:=t}:=⟨h.kd.1.id,h.kd.1.time,h.kd.1.few,h.kd.1.held,h.kd.1.inbox⟩
theorem aCw {n:Int} (h:0≤n∧n≤3): (bB n).id=n:=by
 have:eC n=true:=by simp[eC,iB];omega
 unfold bB
 rw[if_pos this]
end Go.Ab
namespace Go.Proofs.YtcbjphphppaoiaaGreatDoor
open Int renaming toNat_natCast→aU4,tmod→aVg
open List renaming length_append→aU5,length_nil→aU8,length_cons→aU9,getD_eq_getElem?_getD→aVb,length_take→aVc,getElem?_eq_getElem→aVd,getElem?_eq_some_iff→aVe,range→aVh,all_eq_true→aVi,mem_map→aVj,length_drop→aVk,take_length→aVl,mem_cons→aVm,mem_singleton→aVn,mem_iff_getElem?→aVp
open Nat renaming le_of_ble_eq_true→aU6,zero_le→aVa,le_refl→aVf,add_mul→aVo
open Bool renaming and_eq_true→aU7
open Go Go.Ab Go.RowKit
set_option linter.unusedVariables false
set_option linter.unusedSimpArgs false
set_option maxRecDepth 9000
theorem ksD (id:Int): (bB id).held=[]∧(bB id).marks=[]∧(bB id).inbox=[]:=by
 unfold bB
 split<;>exact⟨rfl,rfl,rfl⟩
theorem aIf {Q:Nat→Prop} (h0:Q 900) (h1:Q 901) (h2:Q 902): ∀j∈[900,901,902],Q j:=by
 intro j hj
 simp only[aVm,List.mem_nil_iff,or_false] at hj
 rcases hj with rfl|rfl|rfl<;>assumption
theorem aFj (l:List aR) (e es:Nat):vN (.row e es (aD l)):=by
 intro r hr d hd
 obtain⟨n,_,rfl⟩:=aVj.1 hr
 simp only[aR.row,aVm,List.mem_nil_iff,or_false] at hd
 rcases hd with rfl|rfl|rfl|rfl|rfl<;>trivial
theorem aN9 (l:List bQ) (e es:Nat):vN (.row e es (aJ l)):=by
 intro r hr d hd
 obtain⟨n,_,rfl⟩:=aVj.1 hr
 simp only[bQ.row,aVm,List.mem_nil_iff,or_false] at hd
 rcases hd with rfl|rfl|rfl<;>trivial
theorem aOa (k:aL×Bool):nB [tV 0 (.tup [.agg [.d (.i (k.1).id),.d (.i (k.1).time),.d (.i (k.1).next),.own 900 (k.1).held.length,.own 901 (k.1).marks.length,.own 902 (k.1).inbox.length],.c (.d (.b k.2))]),oR 900 29 5 (aD (k.1).held),oR 901 39 3 (aJ (k.1).marks),oR 902 29 5 (aD (k.1).inbox)]:=by
 intro p hp
 simp only[aVm,List.mem_nil_iff,or_false] at hp
 rcases hp with rfl|rfl|rfl|rfl
 · simp[vN,ip,im,da,qp]
 · exact aFj _ _ _
 · exact aN9 _ _ _
 exact aFj _ _ _
theorem wu (k:aL) (hb:k.held.length≤1000000∧k.marks.length≤1000000∧k.inbox.length≤1000000):Sp 37 1 [tV 0 k.V] [tV 0 (.e (.agg [.d (.i (k).id),.d (.i (k).time),.d (.i (k).next),.own 900 (k).held.length,.own 901 (k).marks.length,.own 902 (k).inbox.length])),oR 900 29 5 (aD (k).held),oR 901 39 3 (aJ (k).marks),oR 902 29 5 (aD (k).inbox)]:=by
 refine sb Tryz.func37 rfl (sq (rT [1,2] (s2 (sq (rT [1,2] (ai (by simp) (s2 (ai (by refine⟨trivial,rfl,?_,?_⟩<;>first|exact eR _|exact iC _|(simp only[aA,aB,aU8,Nat.zero_add];show _*48≤_;omega)) (s2 (sq (rT [1,2] (ai (by simp) (s2 (ai (by refine⟨trivial,rfl,?_,?_⟩<;>first|exact eR _|exact iC _|(simp only[aA,aB,aU8,Nat.zero_add];show _*24≤_;omega)) (s2 (sq (rT [1,2] (ai (by simp) (s2 (ai (by refine⟨trivial,rfl,?_,?_⟩<;>first|exact eR _|exact iC _|(simp only[aA,aB,aU8,Nat.zero_add];show _*48≤_;omega)) (s2 (sq (rT [2] (s2 (rt (rq [(900,3),(901,8),(902,13)] [] rfl ?_))))))))))))))))))))))))))
 repeat' apply ai
 all_goals first|exact qx|exact aA _|exact aB _|exact(aA _).symm|exact(aB _).symm|rfl|(simp[aA,aB];done)|exact qz
set_option maxHeartbeats 1600000 in
theorem wv (k:aL) (rec:List UInt8) (hk:KB k) (hr:rec.length≤900000):Sp 15 2 [tV 0 k.V,tD 1 (.s rec)] [tV 0 (.tup [.agg [.d (.i ((hD k rec).1).id),.d (.i ((hD k rec).1).time),.d (.i ((hD k rec).1).next),.own 900 ((hD k rec).1).held.length,.own 901 ((hD k rec).1).marks.length,.own 902 ((hD k rec).1).inbox.length],.c (.d (.b (hD k rec).2))]),oR 900 29 5 (aD ((hD k rec).1).held),oR 901 39 3 (aJ ((hD k rec).1).marks),oR 902 29 5 (aD ((hD k rec).1).inbox)]:=by
 refine sb Tryz.func15 rfl (sq (rT [1,2,4,22,23,24] (s3 (sq (sq (rT [1,2,4,10,22,23,24] (s1 (xp (jX k hk.1 hk.2.1 hk.2.2) (ai rfl ?_)))))))))
 refine s1 (cd rfl (fun c10=> ?_) fun c10=> ?_)
 · refine sq (rT [4,5] (s3 (SW.nilBox 4 900 3 29 5 rfl rfl rfl (SW.nilBox 4 901 4 39 3 rfl rfl rfl (SW.nilBox 4 902 5 29 5 rfl rfl rfl (rt ?_))))))
   have hr:hD k rec=(.zero,false):=if_neg (by simpa using c10)
   rw[hr]
   refine rq [] [] rfl ?_
   repeat' apply ai
   all_goals first|exact qx|exact aA _|exact aB _|exact(aA _).symm|exact(aB _).symm|rfl|(simp[aA,aB];done)|exact qz
 have hok:cO k=true:=by simpa using c10
 refine sk (sq (rT [2,4,6,7,22,23,24] (s1 (xp (qJ k (by have:=hk.1;omega)) (ai rfl ?_)))))
 refine s1 (xp (ff k rec hk.1 hr) (ai rfl ?_))
 refine s6 (sq (sq (rT [2,4,6,25] (s3 (y1 (xc (fun h=>jX (fZ k rec).1 (pJ (eL hok) (by omega)).big.1 (pJ (eL hok) (by omega)).2.1 (pJ (eL hok) (by omega)).2.2) (ai rfl (ai rk ?_))))))))
 refine y1 (ai pk (cd rfl (fun c25=> ?_) fun c25=> ?_))
 · refine sq (rT [4,5] (s1 (bJ (robj:=[]) (rl:=[]) (bor:=[]) (wu k (by have:=hk.1;omega)) rfl rfl rfl rfl ⟨dD rfl (aF rfl (aF rfl (aF rfl (aF rfl (aF rfl (aF rfl aH)))))) trivial,rfl⟩ rfl (.inl rfl) (fun p hp=>nomatch hp) (aIf rfl rfl rfl) (s2 (rt ?_)))))
   have hr:hD k rec=(k,false):=(if_pos hok).trans (if_neg (by intro h;rw[aU7] at h;rw[h.1,h.2] at c25;cases c25))
   rw[hr]
   refine rq [] [] rfl ?_
   repeat' apply ai
   all_goals first|exact qx|exact aA _|exact aB _|exact(aA _).symm|exact(aB _).symm|rfl|(simp[aA,aB];done)|exact qz
 refine sk (sq (rT [4,5] (s1 (bJ (robj:=[]) (rl:=[]) (bor:=[]) (wu (fZ k rec).1 (by have:=(pJ (eL hok) (show rec.length≤1000000 by omega)).1;omega)) rfl rfl rfl rfl ⟨dD rfl (aF rfl (aF rfl (aF rfl (aF rfl (aF rfl (aF rfl aH)))))) trivial,rfl⟩ rfl (.inl rfl) (fun p hp=>nomatch hp) (aIf rfl rfl rfl) (s2 (rt ?_))))))
 have hr:hD k rec=((fZ k rec).1,true):=(if_pos hok).trans (if_pos (by simpa using c25))
 rw[hr]
 refine rq [] [] rfl ?_
 repeat' apply ai
 all_goals first|exact qx|exact aA _|exact aB _|exact(aA _).symm|exact(aB _).symm|rfl|(simp[aA,aB];done)|exact qz
theorem aA0 (k:aL) (rec:List UInt8) (hk:KB k) (hr:rec.length≤900000):Ab.Spec Tryz.prog 15 2 [(.t 0,.v (k.V)),(.t 1,.v (Dv (.s rec)))] [(.t 0,.v (.tup [.agg [.d (.i ((aO k rec).1).id),.d (.i ((aO k rec).1).time),.d (.i ((aO k rec).1).next),.own 900 ((aO k rec).1).held.length,.own 901 ((aO k rec).1).marks.length,.own 902 ((aO k rec).1).inbox.length],.c (.d (.b (aO k rec).2))])),(.o 900,.row 29 5 (aD ((aO k rec).1).held)),(.o 901,.row 39 3 (aJ ((aO k rec).1).marks)),(.o 902,.row 29 5 (aD ((aO k rec).1).inbox))]:=dq k rec▸wv k rec hk hr
theorem li (id:Int):Sp 63 1 [tI 0 id] [tV 0 (.e (.agg [.d (.i (bB id).id),.d (.i (bB id).time),.d (.i (bB id).next),.nil,.nil,.nil]))]:=by
 refine sb Tryz.func63 rfl (sq (rT [0,2] (s1 (sq (sq (rT [0,2,5] (s1 (xp (dB _) (ai rfl ?_)))))))))
 refine s1 (cd rfl (fun c5=> ?_) fun c5=> ?_)
 · have hr:bB id= .zero:=if_neg (by simpa using c5)
   refine sq (rT [2] (s2 (rt ?_)))
   rw[hr]
   refine rq [] [] rfl ?_
   repeat' apply ai
   all_goals first|exact qx|exact aA _|exact aB _|exact(aA _).symm|exact(aB _).symm|rfl|(simp[aA,aB];done)|exact qz
 have hr:bB id=⟨id,0,1,[],[],[]⟩:=if_pos (by simpa using c5)
 refine sk (sq (rT [2] (s3 (rt ?_))))
 rw[hr]
 refine rq [] [] rfl ?_
 repeat' apply ai
 all_goals first|exact qx|exact aA _|exact aB _|exact(aA _).symm|exact(aB _).symm|rfl|(simp[aA,aB];done)|exact qz
set_option maxHeartbeats 1600000 in
theorem aLw (id:Int) (l:List (List UInt8)) (hl:l.length≤900000) (hx: ∀x∈l,x.length≤900000):Sp 116 2 [tI 0 id,tD 1 (.sl (bO l))] [tV 0 (.tup [.agg [.d (.i ((iE id l).1).id),.d (.i ((iE id l).1).time),.d (.i ((iE id l).1).next),.own 900 ((iE id l).1).held.length,.own 901 ((iE id l).1).marks.length,.own 902 ((iE id l).1).inbox.length],.c (.d (.b (iE id l).2))]),oR 900 29 5 (aD ((iE id l).1).held),oR 901 39 3 (aJ ((iE id l).1).marks),oR 902 29 5 (aD ((iE id l).1).inbox)]:=by
 refine sb Tryz.func116 rfl (sq (rT [0,1,4] (s2 (sq (rT [0,1,4,6] (s1 (xp (li id) (ai rfl ?_))))))))
 refine s2 (sq (sq (rT [1,4,6,14] (s1 (xp (dB _) (ai rfl ?_))))))
 refine s1 (cd rfl (fun c14=> ?_) fun c14=> ?_)
 · refine sq (rT [4,5] (s3 (SW.nilBox 4 900 3 29 5 rfl rfl rfl (SW.nilBox 4 901 4 39 3 rfl rfl rfl (SW.nilBox 4 902 5 29 5 rfl rfl rfl (rt ?_))))))
   have hr:iE id l=(.zero,false):=if_neg (by simpa using c14)
   have hz:bB id= .zero:=if_neg (by simpa using c14)
   rw[hr]
   refine rq [] [] rfl ?_
   repeat' apply ai
   all_goals first|exact qx|(rw[hz];done)|(rw[hz];rfl)|rfl|exact qz
 have hnode:eC id=true:=by simpa using c14
 refine sk (sq (sq (rT [1,4,6,7] (s1 (bk (SW.nilBox 6 900 3 29 5 rfl rfl rfl (SW.nilBox 6 901 4 39 3 rfl rfl rfl (SW.nilBox 6 902 5 29 5 rfl rfl rfl (SW.loopW (n:=l.length) (fun m s=> ∃(i:Nat) (q:aL),m=l.length - i∧i≤l.length∧K6 q∧oH (bB id) l=oH q (l.drop i)∧s=[tD 1 (.sl (bO l)),tP 4 4,tP 6 6,tI 7 (i:Nat),oB 4 26 [.d (.i 0),.d (.i 0),.d (.i 0),.nil,.nil,.nil],oB 6 26 [.d (.i (q).id),.d (.i (q).time),.d (.i (q).next),.own 900 (q).held.length,.own 901 (q).marks.length,.own 902 (q).inbox.length],oR 900 29 5 (aD (q).held),oR 901 39 3 (aJ (q).marks),oR 902 29 5 (aD (q).inbox)]) ?_ ?_)))))))))
 · refine wq (σ':=[tD 1 (.sl (bO l)),tP 4 4,tP 6 6,tI 7 (0:Nat),oB 4 26 [.d (.i 0),.d (.i 0),.d (.i 0),.nil,.nil,.nil],oB 6 26 [.d (.i ((bB id)).id),.d (.i ((bB id)).time),.d (.i ((bB id)).next),.own 900 ((bB id)).held.length,.own 901 ((bB id)).marks.length,.own 902 ((bB id)).inbox.length],oR 900 29 5 (aD ((bB id)).held),oR 901 39 3 (aJ ((bB id)).marks),oR 902 29 5 (aD ((bB id)).inbox)]) [] [] (⟨0,bB id,rfl,aVa _,jo id,rfl,rfl⟩) ?_
   repeat' apply ai
   all_goals first|exact qx|rfl|(rw[(ksD id).1];rfl)|(rw[(ksD id).2.1];rfl)|(rw[(ksD id).2.2];rfl)|exact qz
 rintro n s ⟨i,q,rfl,hi,hq,hgo,rfl⟩
 refine sq (sq (rT [1,4,6,7,19] (s4 (cd rfl (fun c19=> ?_) fun c19=> ?_))))
 · have hi2:i<l.length:=by simpa[aW] using c19
   have hg:=gZ (l:=l) hi2
   have hmem:l.getD i []∈l:=cW hi2
   have es:toS (((bO l).getD (i:Int).toNat []).getD 0 (.i 0))=l.getD i []:=by rw[aU4,hg];rfl
   refine sk (sq (bk (sq (rD [1,4,6,7,8,9] (s3 (ai (by rw[aU4,hg];exact⟨⟨by omega,by rw[aW];omega⟩,rfl⟩) (ai (by rw[aU4,hg];exact⟨aU6 rfl,rfl⟩) (bJ (robj:=[(900,.row 29 5 (aD (q).held)),(901,.row 39 3 (aJ (q).marks)),(902,.row 29 5 (aD (q).inbox))]) (rl:=[(900,910),(901,911),(902,912)]) (bor:=[900,901,902]) (aA0 q (l.getD i []) hq.seven.big (hx _ hmem)) rfl rfl rfl rfl ⟨dD rfl (aF rfl (aF rfl (aF rfl (dc rfl rfl (aA _) rfl (dc rfl rfl (aB _) rfl (dc rfl rfl (aA _) rfl aH)))))) (cJ rfl (by rw[aU4,hg];rfl) trivial),rfl⟩ rfl (.inr (aOa _)) (aK ⟨rfl,rfl,rfl,trivial⟩) (aIf rfl rfl rfl) (s6 (ai (by kernel_rfl) (sq (sq (rT [1,4,6,7,8,32] (s2 (cd rfl (fun c32=> ?_) fun c32=> ?_)))))))))))))))
   · have hno: (aO q (l.getD i [])).2=false:=by simpa using c32
     rw[List.drop_eq_getElem_cons hi2,oH,show l[i]=l.getD i [] by rw[aVb,aVd hi2];rfl,hno] at hgo
     refine sq (rT [4,5] (s3 (SW.nilBox 4 920 3 29 5 rfl rfl rfl (SW.nilBox 4 921 4 39 3 rfl rfl rfl (SW.nilBox 4 922 5 29 5 rfl rfl rfl (rt ?_))))))
     have hr:iE id l=(.zero,false):=(if_pos hnode).trans (hgo.trans (if_neg (by simp)))
     rw[hr]
     refine rq [(900,920),(901,921),(902,922)] [] rfl ?_
     repeat' apply ai
     all_goals first|exact qx|exact aA _|exact aB _|exact(aA _).symm|exact(aB _).symm|rfl|(simp[aA,aB];done)|exact qz
   have hno: (aO q (l.getD i [])).2=true:=by simpa using c32
   rw[List.drop_eq_getElem_cons hi2,oH,show l[i]=l.getD i [] by rw[aVb,aVd hi2];rfl,if_pos hno] at hgo
   refine sk (rT [1,4,6,7] (s2 (rT [1,4,6,7] (s3 (wq [(900,910),(901,911),(902,912)] [] (⟨l.length - (i+1),by omega,i+1,(aO q (l.getD i [])).1,rfl,by omega,lM,hgo,rfl⟩) ?_)))))
   repeat' apply ai
   all_goals first|exact qx|exact aA _|exact aB _|exact(aA _).symm|exact(aB _).symm|exact congrArg D.i (aE (by omega))|rfl|(simp[aA,aB];done)|exact qz
 have hi3:i=l.length:=by simp[aW] at c19;omega
 subst hi3
 refine xt (sq (rT [4,5] (s3 (rt ?_))))
 have hr:iE id l=(q,true):=(if_pos hnode).trans (hgo.trans (by rw[List.drop_length];rfl))
 rw[hr]
 refine rq [] [] rfl ?_
 repeat' apply ai
 all_goals first|exact qx|exact aA _|exact aB _|exact(aA _).symm|exact(aB _).symm|rfl|(simp[aA,aB];done)|exact qz
set_option maxHeartbeats 800000 in
theorem aLx (k:aS) (hl:k.log.length≤900000):Sp 95 1 [tV 0 k.V] [tV 0 (.tup [.agg [.d (.i ((bC k).1).id),.d (.i ((bC k).1).time),.d (.i ((bC k).1).next),.own 900 ((bC k).1).held.length,.own 901 ((bC k).1).marks.length,.own 902 ((bC k).1).inbox.length],.c (.d (.b (bC k).2))]),oR 900 29 5 (aD ((bC k).1).held),oR 901 39 3 (aJ ((bC k).1).marks),oR 902 29 5 (aD ((bC k).1).inbox)]:=by
 refine sb Tryz.func95 rfl (sq (rT [1,2] (s3 (sq (rT [1,2,4] (s3 (xp (fN k.log (by omega)) (ai rfl ?_))))))))
 refine s5 (sq (rT [2,3] (s3 (bJ (robj:=[]) (rl:=[]) (bor:=[]) (aLw k.id (dI k.log).1 (nI k.log hl).1 (nI k.log hl).2) rfl rfl rfl rfl ⟨cJ rfl rfl (cJ rfl rfl trivial),rfl⟩ rfl (.inl rfl) (fun p hp=>nomatch hp) (aIf rfl rfl rfl) (s4 (rt (rq [] [] rfl ?_)))))))
 repeat' apply ai
 all_goals first|exact qx|exact aA _|exact aB _|exact(aA _).symm|exact(aB _).symm|rfl|(simp[aA,aB];done)|exact qz
theorem aCx (k:aS) (hl:k.log.length≤900000):Sp 64 1 [tV 0 k.V] [tV 0 (.e (.agg [.d (.i ((dP k)).id),.d (.i ((dP k)).time),.d (.i ((dP k)).next),.own 900 ((dP k)).held.length,.own 901 ((dP k)).marks.length,.own 902 ((dP k)).inbox.length])),oR 900 29 5 (aD ((dP k)).held),oR 901 39 3 (aJ ((dP k)).marks),oR 902 29 5 (aD ((dP k)).inbox)]:=by
 refine sb Tryz.func64 rfl (sq (rT [1,2] (s2 (sq (sq (rT [1,2,7] (s1 (xp (gH k (by omega)) (ai rfl ?_)))))))))
 refine s1 (cd rfl (fun c7=> ?_) fun c7=> ?_)
 · refine sq (rT [2] (s2 (SW.nilBox 2 900 3 29 5 rfl rfl rfl (SW.nilBox 2 901 4 39 3 rfl rfl rfl (SW.nilBox 2 902 5 29 5 rfl rfl rfl (rt ?_))))))
   have hno: ¬bG k=true:=by simpa using c7
   have hk:dP k= .zero:=if_neg hno
   rw[hk]
   refine rq [] [] rfl ?_
   repeat' apply ai
   all_goals first|exact qx|exact aA _|exact aB _|exact(aA _).symm|exact(aB _).symm|rfl|(simp[aA,aB];done)|exact qz
 refine sk (sq (rT [2,3] (s1 (bJ (robj:=[]) (rl:=[]) (bor:=[]) (aLx k hl) rfl rfl rfl rfl ⟨dD rfl (aF rfl (aF rfl (aF rfl (aF rfl (aF rfl aH))))) trivial,rfl⟩ rfl (.inl rfl) (fun p hp=>nomatch hp) (aIf rfl rfl rfl) (s6 (sq (rT [2] (s2 (rt ?_)))))))))
 have hyes:bG k=true:=by simpa using c7
 have hk:=lE hyes
 rw[hk]
 refine rq [] [] rfl ?_
 repeat' apply ai
 all_goals first|exact qx|exact aA _|exact aB _|exact(aA _).symm|exact(aB _).symm|rfl|(simp[aA,aB];done)|exact qz
set_option maxHeartbeats 6400000 in
theorem qR (l:List UInt8) (p:Int) (hp:0≤p∧p≤600000) (hl:l.length≤2000):qu 32 1 [tP 0 801,oB 801 92 [.d (.sl (aC l)),.d (.i (p))]] (fun s=> ∃(k:aL) (q:Int),KD k∧(p≤q∧q≤p+20000)∧s=[(.t 0,.v k.V),oB 801 92 [.d (.sl (aC l)),.d (.i (q))]]):=by
 have hl2:=hl
 refine vt Tryz.func32 rfl (sq (rT [0,2] (s1 (sq (rT [0,2,3] (s1 (bJ (robj:=[(801,.box 92 [.d (.sl (aC (l))),.d (.i (p))])]) (rl:=[(0,801)]) (bor:=[]) (cU (l) (p) _ (by omega) hl) rfl rfl rfl rfl ⟨bU rfl rfl rfl rfl (cJ rfl rfl (aZ rfl (aF rfl (aF rfl aH)) trivial)),rfl⟩ rfl (.inl rfl) (aK ⟨rfl,trivial⟩) (fun _ hj=>nomatch hj) (xp (li (aT l p 4)) (ai rfl ?_)))))))))
 refine s2 (SW.midW (fun s=> ∃(k1:aL) (q1:Int),(OZ k1∧p≤q1∧q1≤p+15000)∧s=[tP 0 801,tP 2 2,tP 3 3,oB 801 92 [.d (.sl (aC l)),.d (.i (q1))],oB 2 26 [.d (.i 0),.d (.i 0),.d (.i 0),.nil,.nil,.nil],oB 3 26 [.d (.i (k1).id),.d (.i (k1).time),.d (.i (k1).next),.own 900 (k1).held.length,.own 901 (k1).marks.length,.own 902 (k1).inbox.length],oR 900 29 5 (aD (k1).held),oR 901 39 3 (aJ (k1).marks),oR 902 29 5 (aD (k1).inbox)]) ?_ ?_)
 · refine sq (SW.nilBox 3 900 3 29 5 rfl rfl rfl (SW.nilBox 3 901 4 39 3 rfl rfl rfl (SW.nilBox 3 902 5 29 5 rfl rfl rfl (wa [tP 0 801,tP 2 2,tP 3 3,oB 801 92 [.d (.sl (aC l)),.d (.i (p+1))],oB 2 26 [.d (.i 0),.d (.i 0),.d (.i 0),.nil,.nil,.nil],oB 3 26 [.d (.i ((bB (aT l p 4))).id),.d (.i ((bB (aT l p 4))).time),.d (.i ((bB (aT l p 4))).next),.own 900 ((bB (aT l p 4))).held.length,.own 901 ((bB (aT l p 4))).marks.length,.own 902 ((bB (aT l p 4))).inbox.length],oR 900 29 5 (aD ((bB (aT l p 4))).held),oR 901 39 3 (aJ ((bB (aT l p 4))).marks),oR 902 29 5 (aD ((bB (aT l p 4))).inbox)] [] [] ?_ ?_))))
   · repeat' apply ai
     all_goals first|exact qx|(rw[(ksD _).1];rfl)|(rw[(ksD _).2.1];rfl)|(rw[(ksD _).2.2];rfl)|rfl|exact qz
   refine rT [0,2,3,10] (s1 (bJ (robj:=[(801,.box 92 [.d (.sl (aC (l))),.d (.i (p+1))])]) (rl:=[(0,801)]) (bor:=[]) (cU (l) (p+1) _ (by omega) hl) rfl rfl rfl rfl ⟨bU rfl rfl rfl rfl (cJ rfl rfl (aZ rfl (aF rfl (aF rfl aH)) trivial)),rfl⟩ rfl (.inl rfl) (aK ⟨rfl,trivial⟩) (fun _ hj=>nomatch hj) (s1 (cd rfl (fun c10=> ?_) fun c10=> ?_))))
   · obtain⟨i,hi,hil⟩:=zJ (show 0≤aT l p 4∧aT l p 4≤3 by have:=cG l (p:=p) (n:=4) (by omega) (by omega);omega)
     have hid: (bB (aT l p 4)).id=(i:Int):=(aCw (by omega)).trans hi
     refine SW.regDE dH mo [0,2,3] 1 (fun i=>if i=6 then some ([(.t 3,some (.v (.e (.c (.pt 3 0))))),(.o 3,some (.box 26 [.d (.i ((bB (aT l p 4))).id),.d (.i ((bB (aT l p 4))).time),.d (.i ((bB (aT l p 4))).next),.own 900 ((bB (aT l p 4))).held.length,.own 901 ((bB (aT l p 4))).marks.length,.own 902 ((bB (aT l p 4))).inbox.length]))],[tP 17 3]) else if i=7 then some ([(.t 17,some (.v (.e (.c (.pt 3 0))))),(.o 3,some (.box 26 [.d (.i ((bB (aT l p 4))).id),.d (.i ((bB (aT l p 4))).time),.d (.i ((bB (aT l p 4))).next),.own 900 ((bB (aT l p 4))).held.length,.own 901 ((bB (aT l p 4))).marks.length,.own 902 ((bB (aT l p 4))).inbox.length]))],[tI 18 (bB (aT l p 4)).id]) else none) rfl rfl (by kernel_rfl) ?_
     refine s1 (vQ (robj:=[(801,.box 92 [.d (.sl (aC l)),.d (.i (p+1+1))])]) (rl:=[]) (bor:=[]) (news:=[800,802,803,804,805,806,807]) (aTb l (p+1+1) 12 (by omega) hl (by omega)) rfl rfl rfl rfl ⟨bU rfl rfl rfl rfl (cJ rfl rfl (aZ rfl (aF rfl (aF rfl aH)) trivial)),rfl⟩ (by rintro _ ⟨W,q3,hw,rfl⟩;exact⟨rfl,.inl rfl,fun j hj=>hj⟩) (aK ⟨rfl,trivial⟩) (fun j hj=>by simp at hj;rcases hj with rfl|rfl|rfl|rfl|rfl|rfl|rfl<;>rfl) ⟨_,fJ,p+1+1,⟨(fI.of.refl px).le (by omega),by omega,by omega⟩,rfl⟩ ?_)
     rintro _ ⟨W,q3,hw,rfl⟩
     refine s9 (ai rfl (s1 (ai rfl (ai (by rw[hid];exact⟨by rw[bD];exact hw.1.ok.four,by omega,by omega⟩) (s1 (ai (by rw[hid,aU4,cB (by rw[hw.1.ok.four];exact hil)];exact⟨⟨by rw[bD];exact hw.1.ok.four,hil⟩,aU6 rfl,rfl⟩) (s1 (bJ (robj:=[]) (rl:=[(900,910),(901,911),(902,912)]) (bor:=[]) (aCx (W.ks.getD i .zero) (by have:=(hw.1.ok.at hil).1;omega)) rfl rfl rfl rfl ⟨dD rfl (aF (by rw[hid,aU4,cB (by rw[hw.1.ok.four];exact hil)];rfl) (aF (by rw[hid,aU4,cB (by rw[hw.1.ok.four];exact hil)];rfl) (aF (by rw[hid,aU4,cB (by rw[hw.1.ok.four];exact hil)];rfl) (aF (by rw[hid,aU4,cB (by rw[hw.1.ok.four];exact hil)];rfl) (aF (by rw[hid,aU4,cB (by rw[hw.1.ok.four];exact hil)];rfl) aH))))) trivial,rfl⟩ rfl (.inl rfl) (fun p hp=>nomatch hp) (aIf rfl rfl rfl) ?_))))))))
     refine s1 (s2 (ai (by kernel_rfl) ?_))
     first
     |(refine wq (σ':=[tP 0 801,tP 2 2,tP 3 3,oB 801 92 [.d (.sl (aC l)),.d (.i (q3))],oB 2 26 [.d (.i 0),.d (.i 0),.d (.i 0),.nil,.nil,.nil],oB 3 26 [.d (.i ((dP (W.ks.getD i .zero))).id),.d (.i ((dP (W.ks.getD i .zero))).time),.d (.i ((dP (W.ks.getD i .zero))).next),.own 900 ((dP (W.ks.getD i .zero))).held.length,.own 901 ((dP (W.ks.getD i .zero))).marks.length,.own 902 ((dP (W.ks.getD i .zero))).inbox.length],oR 900 29 5 (aD ((dP (W.ks.getD i .zero))).held),oR 901 39 3 (aJ ((dP (W.ks.getD i .zero))).marks),oR 902 29 5 (aD ((dP (W.ks.getD i .zero))).inbox)]) [(900,910),(901,911),(902,912)] [] ⟨(dP (W.ks.getD i .zero)),q3,⟨aN8 _,by omega,by omega⟩,rfl⟩ ?_
       repeat' apply ai
       all_goals first|exact qx|exact aA _|exact aB _|exact(aA _).symm|exact(aB _).symm|rfl|exact qz)
     |(refine wq (σ':=[tP 0 801,tP 2 2,tP 3 3,oB 801 92 [.d (.sl (aC l)),.d (.i ((p+1+1)))],oB 2 26 [.d (.i 0),.d (.i 0),.d (.i 0),.nil,.nil,.nil],oB 3 26 [.d (.i ((bB (aT l p 4))).id),.d (.i ((bB (aT l p 4))).time),.d (.i ((bB (aT l p 4))).next),.own 900 ((bB (aT l p 4))).held.length,.own 901 ((bB (aT l p 4))).marks.length,.own 902 ((bB (aT l p 4))).inbox.length],oR 900 29 5 (aD ((bB (aT l p 4))).held),oR 901 39 3 (aJ ((bB (aT l p 4))).marks),oR 902 29 5 (aD ((bB (aT l p 4))).inbox)]) [] [] ⟨(bB (aT l p 4)),(p+1+1),⟨aFh _,by omega,by omega⟩,rfl⟩ ?_
       repeat' apply ai
       all_goals first|exact qx|exact aA _|exact aB _|exact(aA _).symm|exact(aB _).symm|rfl|exact qz)
   refine sk ?_
   first
   |(refine wq (σ':=[tP 0 801,tP 2 2,tP 3 3,oB 801 92 [.d (.sl (aC l)),.d (.i (q3))],oB 2 26 [.d (.i 0),.d (.i 0),.d (.i 0),.nil,.nil,.nil],oB 3 26 [.d (.i ((dP (W.ks.getD i .zero))).id),.d (.i ((dP (W.ks.getD i .zero))).time),.d (.i ((dP (W.ks.getD i .zero))).next),.own 900 ((dP (W.ks.getD i .zero))).held.length,.own 901 ((dP (W.ks.getD i .zero))).marks.length,.own 902 ((dP (W.ks.getD i .zero))).inbox.length],oR 900 29 5 (aD ((dP (W.ks.getD i .zero))).held),oR 901 39 3 (aJ ((dP (W.ks.getD i .zero))).marks),oR 902 29 5 (aD ((dP (W.ks.getD i .zero))).inbox)]) [(900,910),(901,911),(902,912)] [] ⟨(dP (W.ks.getD i .zero)),q3,⟨aN8 _,by omega,by omega⟩,rfl⟩ ?_
     repeat' apply ai
     all_goals first|exact qx|exact aA _|exact aB _|exact(aA _).symm|exact(aB _).symm|rfl|exact qz)
   |(refine wq (σ':=[tP 0 801,tP 2 2,tP 3 3,oB 801 92 [.d (.sl (aC l)),.d (.i ((p+1+1)))],oB 2 26 [.d (.i 0),.d (.i 0),.d (.i 0),.nil,.nil,.nil],oB 3 26 [.d (.i ((bB (aT l p 4))).id),.d (.i ((bB (aT l p 4))).time),.d (.i ((bB (aT l p 4))).next),.own 900 ((bB (aT l p 4))).held.length,.own 901 ((bB (aT l p 4))).marks.length,.own 902 ((bB (aT l p 4))).inbox.length],oR 900 29 5 (aD ((bB (aT l p 4))).held),oR 901 39 3 (aJ ((bB (aT l p 4))).marks),oR 902 29 5 (aD ((bB (aT l p 4))).inbox)]) [] [] ⟨(bB (aT l p 4)),(p+1+1),⟨aFh _,by omega,by omega⟩,rfl⟩ ?_
     repeat' apply ai
     all_goals first|exact qx|exact aA _|exact aB _|exact(aA _).symm|exact(aB _).symm|rfl|exact qz)
 rintro s ⟨k1,q1,⟨hk1,hq1⟩,rfl⟩
 refine sq (sq (rT [0,2,3,4] (s1 (bJ (robj:=[(801,.box 92 [.d (.sl (aC (l))),.d (.i (q1))])]) (rl:=[(0,801)]) (bor:=[]) (cU (l) (q1) _ (by omega) hl) rfl rfl rfl rfl ⟨bU rfl rfl rfl rfl (cJ rfl rfl (aZ rfl (aF rfl (aF rfl aH)) trivial)),rfl⟩ rfl (.inl rfl) (aK ⟨rfl,trivial⟩) (fun _ hj=>nomatch hj) (s1 (bk ?_))))))
 obtain⟨n0,hn0,hn9⟩: ∃n0:Nat,aT l q1 10=(n0:Int)∧n0≤9:=by have:=cG l (p:=q1) (n:=10) (by omega) (by omega);exact⟨(aT l q1 10).toNat,by omega,by omega⟩
 refine SW.loopW (n:=n0) (fun x s=> ∃(k2:aL) (q:Int),(x≤n0∧OZ k2∧q1+1≤q∧q≤q1+1+300*(n0 - x:Nat))∧s=[tP 0 801,tP 2 2,tP 3 3,tI 4 (x:Nat),oB 801 92 [.d (.sl (aC l)),.d (.i (q))],oB 2 26 [.d (.i 0),.d (.i 0),.d (.i 0),.nil,.nil,.nil],oB 3 26 [.d (.i (k2).id),.d (.i (k2).time),.d (.i (k2).next),.own 900 (k2).held.length,.own 901 (k2).marks.length,.own 902 (k2).inbox.length],oR 900 29 5 (aD (k2).held),oR 901 39 3 (aJ (k2).marks),oR 902 29 5 (aD (k2).inbox)]) ?_ ?_
 · refine wq [] [] (⟨k1,q1+1,⟨by omega,hk1,by omega,by omega⟩,rfl⟩) ?_
   repeat' apply ai
   all_goals first|exact qx|exact congrArg D.i hn0|rfl|exact qz
 rintro n s ⟨k2,q,⟨hxn,hk2,hq⟩,rfl⟩
 refine sq (sq (rT [0,2,3,4,25] (s2 (cd rfl (fun c25=> ?_) fun c25=> ?_))))
 · have hn1p:0<n:=by simp at c25;omega
   refine sk (sq (bk (wa [tP 0 801,tP 2 2,tP 3 3,tI 4 (n:Nat),oB 801 92 [.d (.sl (aC l)),.d (.i (q))],oB 2 26 [.d (.i 0),.d (.i 0),.d (.i 0),.nil,.nil,.nil],oB 3 26 [.d (.i (k2).id),.d (.i (k2).time),.d (.i (k2).next),.d (.sl (aD (k2).held)),.d (.sl (aJ (k2).marks)),.d (.sl (aD (k2).inbox))]] [] [900,901,902] ?_ ?_)))
   · repeat' apply ai
     all_goals first|exact qx|exact aA _|exact aB _|exact(aA _).symm|exact(aB _).symm|rfl|exact qz
   refine SW.regDE dH mo [0,2,3,4] 3 (fun _=>none) rfl rfl (by kernel_rfl) ?_
   refine s3 (vQ (robj:=[(801,.box 92 [.d (.sl (aC l)),.d (.i (q))])]) (rl:=[(0,801)]) (bor:=[]) (news:=[]) (co l (q) k2 (by omega) hl hk2.kd.1) rfl rfl rfl rfl ⟨bU rfl rfl rfl rfl (dD rfl (aF rfl (aF rfl (aF rfl (aF rfl (aF rfl (aF rfl aH)))))) (aZ rfl (aF rfl (aF rfl aH)) trivial)),rfl⟩ (by rintro _ ⟨x,q9,hx,rfl⟩;exact⟨rfl,.inl rfl,fun j hj=>nomatch hj⟩) (aK ⟨rfl,trivial⟩) (fun j hj=>nomatch hj) ⟨_,[],q,⟨by omega,by omega,by simp⟩,rfl⟩ ?_)
   rintro _ ⟨x,q9,hx,rfl⟩
   refine bJ (robj:=[]) (rl:=[]) (bor:=[]) (aA0 k2 x hk2.kd.1.kb (by omega)) rfl rfl rfl rfl ⟨dD rfl (aF rfl (aF rfl (aF rfl (aF rfl (aF rfl (aF rfl aH)))))) (cJ rfl rfl trivial),rfl⟩ rfl (.inl rfl) (fun p hp=>nomatch hp) (aIf rfl rfl rfl) (s1 (s8 (ai (by kernel_rfl) (rT [0,2,3,4] (s3 (wq (σ':=[tP 0 801,tP 2 2,tP 3 3,tI 4 (n - 1:Nat),oB 801 92 [.d (.sl (aC l)),.d (.i (q9))],oB 2 26 [.d (.i 0),.d (.i 0),.d (.i 0),.nil,.nil,.nil],oB 3 26 [.d (.i ((aO k2 x).1).id),.d (.i ((aO k2 x).1).time),.d (.i ((aO k2 x).1).next),.own 900 ((aO k2 x).1).held.length,.own 901 ((aO k2 x).1).marks.length,.own 902 ((aO k2 x).1).inbox.length],oR 900 29 5 (aD ((aO k2 x).1).held),oR 901 39 3 (aJ ((aO k2 x).1).marks),oR 902 29 5 (aD ((aO k2 x).1).inbox)]) [] [] (⟨n - 1,by omega,(aO k2 x).1,q9,⟨by omega,aU0 _ _,by omega,by omega⟩,rfl⟩) ?_))))))
   repeat' apply ai
   all_goals first|exact qx|(refine congrArg D.i ?_;rw[aE (by omega)];omega)|rfl|exact qz
 refine xt (SW.midW (fun s=> ∃(k3:aL) (q7:Int),(KD k3∧q≤q7∧q7≤q+70)∧s=[tP 2 2,tP 3 3,oB 801 92 [.d (.sl (aC l)),.d (.i (q7))],oB 2 26 [.d (.i 0),.d (.i 0),.d (.i 0),.nil,.nil,.nil],oB 3 26 [.d (.i (k3).id),.d (.i (k3).time),.d (.i (k3).next),.own 900 (k3).held.length,.own 901 (k3).marks.length,.own 902 (k3).inbox.length],oR 900 29 5 (aD (k3).held),oR 901 39 3 (aJ (k3).marks),oR 902 29 5 (aD (k3).inbox)]) ?_ ?_)
 · refine sq (rT [0,2,3,37] (s1 (bJ (robj:=[(801,.box 92 [.d (.sl (aC (l))),.d (.i (q))])]) (rl:=[(0,801)]) (bor:=[]) (cU (l) (q) _ (by omega) hl) rfl rfl rfl rfl ⟨bU rfl rfl rfl rfl (cJ rfl rfl (aZ rfl (aF rfl (aF rfl aH)) trivial)),rfl⟩ rfl (.inl rfl) (aK ⟨rfl,trivial⟩) (fun _ hj=>nomatch hj) (bk (sq (rT [0,2,3,37,38] (s2 (cd rfl (fun c38=> ?_) fun c38=> ?_))))))))
   · refine rT [2,3] (s2 (bJ (robj:=[(801,.box 92 [.d (.sl (aC (l))),.d (.i (q+1))])]) (rl:=[(0,801)]) (bor:=[]) (cU (l) (q+1) _ (by omega) hl) rfl rfl rfl rfl ⟨bU rfl rfl rfl rfl (cJ rfl rfl (aZ rfl (aF rfl (aF rfl aH)) trivial)),rfl⟩ rfl (.inl rfl) (aK ⟨rfl,trivial⟩) (fun _ hj=>nomatch hj) ?_))
     have hv:=cG l (p:=q+1) (n:=4) (by omega) (by omega)
     refine ai ⟨rfl,hv.1,hv.2⟩ (ai (aG4 (l:=[-1,999,1000,9]) (by simp;omega) rfl) (s2 ?_))
     first
     |(refine wq [] [] ⟨({k2 with held:=k2.held++[n1]}:aL),q6,⟨dw hk2 hn1,by omega,by omega⟩,rfl⟩ ?_
       repeat' apply ai
       all_goals first|exact qx|exact bT _ _|exact congrArg D.sl (bT _ _).symm|(simp[aA];done)|(rw[← bT];rfl)|exact aA _|exact aB _|exact(aA _).symm|exact(aB _).symm|rfl|exact qz)
     |(refine wq [] [] ⟨({k2 with inbox:=k2.inbox++[n1]}:aL),q6,⟨xQ hk2 hn1,by omega,by omega⟩,rfl⟩ ?_
       repeat' apply ai
       all_goals first|exact qx|exact bT _ _|exact congrArg D.sl (bT _ _).symm|(simp[aA];done)|(rw[← bT];rfl)|exact aA _|exact aB _|exact(aA _).symm|exact(aB _).symm|rfl|exact qz)
     |(refine wq [] [] ⟨({k2 with marks:=k2.marks++[⟨aT l (q+1) 5,aT l (q+1+1) 4,aT l (q+1+1+1) 40⟩]}:aL),(q+1+1+1+1),⟨xR hk2,by omega,by omega⟩,rfl⟩ ?_
       repeat' apply ai
       all_goals first|exact qx|exact congrArg D.sl (fM _ _).symm|(simp[aB];done)|(rw[← fM];rfl)|exact aA _|exact aB _|exact(aA _).symm|exact(aB _).symm|rfl|exact qz)
     |(refine wq (σ':=[tP 2 2,tP 3 3,oB 801 92 [.d (.sl (aC l)),.d (.i ((q+1+1)))],oB 2 26 [.d (.i 0),.d (.i 0),.d (.i 0),.nil,.nil,.nil],oB 3 26 [.d (.i (({k2 with time:=([-1,999,1000,9]:List Int).getD (aT l (q+1) 4).toNat 0}:aL)).id),.d (.i (({k2 with time:=([-1,999,1000,9]:List Int).getD (aT l (q+1) 4).toNat 0}:aL)).time),.d (.i (({k2 with time:=([-1,999,1000,9]:List Int).getD (aT l (q+1) 4).toNat 0}:aL)).next),.own 900 (({k2 with time:=([-1,999,1000,9]:List Int).getD (aT l (q+1) 4).toNat 0}:aL)).held.length,.own 901 (({k2 with time:=([-1,999,1000,9]:List Int).getD (aT l (q+1) 4).toNat 0}:aL)).marks.length,.own 902 (({k2 with time:=([-1,999,1000,9]:List Int).getD (aT l (q+1) 4).toNat 0}:aL)).inbox.length],oR 900 29 5 (aD (({k2 with time:=([-1,999,1000,9]:List Int).getD (aT l (q+1) 4).toNat 0}:aL)).held),oR 901 39 3 (aJ (({k2 with time:=([-1,999,1000,9]:List Int).getD (aT l (q+1) 4).toNat 0}:aL)).marks),oR 902 29 5 (aD (({k2 with time:=([-1,999,1000,9]:List Int).getD (aT l (q+1) 4).toNat 0}:aL)).inbox)]) [] [] ⟨({k2 with time:=([-1,999,1000,9]:List Int).getD (aT l (q+1) 4).toNat 0}:aL),(q+1+1),⟨dx hk2 ((by decide: ∀v∈([-1,999,1000,9]:List Int),R1 v) _ (cW (by simp;omega))),by omega,by omega⟩,rfl⟩ ?_
       repeat' apply ai
       all_goals first|exact qx|(rw[show(aT l (q+1) 4).toNat=(aT l (q+1) 4).toNat from rfl];exact congrArg (fun r:List D=>D.i (db (r.getD 0 (.i 0)))) (dL (l:=[-1,999,1000,9]) (by simp;omega)))|exact aA _|exact aB _|exact(aA _).symm|exact(aB _).symm|rfl|exact qz)
     |(refine wq [] [] ⟨({k2 with next:=([0,100,101]:List Int).getD (aT l (q+1) 3).toNat 0}:aL),(q+1+1),⟨dy hk2,by omega,by omega⟩,rfl⟩ ?_
       repeat' apply ai
       all_goals first|exact qx|exact congrArg (fun r:List D=>D.i (db (r.getD 0 (.i 0)))) (dL (l:=[0,100,101]) (by simp;omega))|exact aA _|exact aB _|exact(aA _).symm|exact(aB _).symm|rfl|exact qz)
     |(refine wq [] [] ⟨k2,(q+1),⟨hk2.kd.1,by omega,by omega⟩,rfl⟩ ?_
       repeat' apply ai
       all_goals first|exact qx|exact aA _|exact aB _|exact(aA _).symm|exact(aB _).symm|rfl|exact qz)
   refine sq (rT [0,2,3,37,46] (s2 (cd rfl (fun c46=> ?_) fun c46=> ?_)))
   · refine rT [2,3] (s2 (bJ (robj:=[(801,.box 92 [.d (.sl (aC (l))),.d (.i (q+1))])]) (rl:=[(0,801)]) (bor:=[]) (cU (l) (q+1) _ (by omega) hl) rfl rfl rfl rfl ⟨bU rfl rfl rfl rfl (cJ rfl rfl (aZ rfl (aF rfl (aF rfl aH)) trivial)),rfl⟩ rfl (.inl rfl) (aK ⟨rfl,trivial⟩) (fun _ hj=>nomatch hj) ?_))
     have hv:=cG l (p:=q+1) (n:=3) (by omega) (by omega)
     refine ai ⟨rfl,hv.1,hv.2⟩ (ai (aG4 (l:=[0,100,101]) (by simp;omega) rfl) (s2 ?_))
     first
     |(refine wq [] [] ⟨({k2 with held:=k2.held++[n1]}:aL),q6,⟨dw hk2 hn1,by omega,by omega⟩,rfl⟩ ?_
       repeat' apply ai
       all_goals first|exact qx|exact bT _ _|exact congrArg D.sl (bT _ _).symm|(simp[aA];done)|(rw[← bT];rfl)|exact aA _|exact aB _|exact(aA _).symm|exact(aB _).symm|rfl|exact qz)
     |(refine wq [] [] ⟨({k2 with inbox:=k2.inbox++[n1]}:aL),q6,⟨xQ hk2 hn1,by omega,by omega⟩,rfl⟩ ?_
       repeat' apply ai
       all_goals first|exact qx|exact bT _ _|exact congrArg D.sl (bT _ _).symm|(simp[aA];done)|(rw[← bT];rfl)|exact aA _|exact aB _|exact(aA _).symm|exact(aB _).symm|rfl|exact qz)
     |(refine wq [] [] ⟨({k2 with marks:=k2.marks++[⟨aT l (q+1) 5,aT l (q+1+1) 4,aT l (q+1+1+1) 40⟩]}:aL),(q+1+1+1+1),⟨xR hk2,by omega,by omega⟩,rfl⟩ ?_
       repeat' apply ai
       all_goals first|exact qx|exact congrArg D.sl (fM _ _).symm|(simp[aB];done)|(rw[← fM];rfl)|exact aA _|exact aB _|exact(aA _).symm|exact(aB _).symm|rfl|exact qz)
     |(refine wq (σ':=[tP 2 2,tP 3 3,oB 801 92 [.d (.sl (aC l)),.d (.i ((q+1+1)))],oB 2 26 [.d (.i 0),.d (.i 0),.d (.i 0),.nil,.nil,.nil],oB 3 26 [.d (.i (({k2 with time:=([-1,999,1000,9]:List Int).getD (aT l (q+1) 4).toNat 0}:aL)).id),.d (.i (({k2 with time:=([-1,999,1000,9]:List Int).getD (aT l (q+1) 4).toNat 0}:aL)).time),.d (.i (({k2 with time:=([-1,999,1000,9]:List Int).getD (aT l (q+1) 4).toNat 0}:aL)).next),.own 900 (({k2 with time:=([-1,999,1000,9]:List Int).getD (aT l (q+1) 4).toNat 0}:aL)).held.length,.own 901 (({k2 with time:=([-1,999,1000,9]:List Int).getD (aT l (q+1) 4).toNat 0}:aL)).marks.length,.own 902 (({k2 with time:=([-1,999,1000,9]:List Int).getD (aT l (q+1) 4).toNat 0}:aL)).inbox.length],oR 900 29 5 (aD (({k2 with time:=([-1,999,1000,9]:List Int).getD (aT l (q+1) 4).toNat 0}:aL)).held),oR 901 39 3 (aJ (({k2 with time:=([-1,999,1000,9]:List Int).getD (aT l (q+1) 4).toNat 0}:aL)).marks),oR 902 29 5 (aD (({k2 with time:=([-1,999,1000,9]:List Int).getD (aT l (q+1) 4).toNat 0}:aL)).inbox)]) [] [] ⟨({k2 with time:=([-1,999,1000,9]:List Int).getD (aT l (q+1) 4).toNat 0}:aL),(q+1+1),⟨dx hk2 ((by decide: ∀v∈([-1,999,1000,9]:List Int),R1 v) _ (cW (by simp;omega))),by omega,by omega⟩,rfl⟩ ?_
       repeat' apply ai
       all_goals first|exact qx|(rw[show(aT l (q+1) 4).toNat=(aT l (q+1) 4).toNat from rfl];exact congrArg (fun r:List D=>D.i (db (r.getD 0 (.i 0)))) (dL (l:=[-1,999,1000,9]) (by simp;omega)))|exact aA _|exact aB _|exact(aA _).symm|exact(aB _).symm|rfl|exact qz)
     |(refine wq [] [] ⟨({k2 with next:=([0,100,101]:List Int).getD (aT l (q+1) 3).toNat 0}:aL),(q+1+1),⟨dy hk2,by omega,by omega⟩,rfl⟩ ?_
       repeat' apply ai
       all_goals first|exact qx|exact congrArg (fun r:List D=>D.i (db (r.getD 0 (.i 0)))) (dL (l:=[0,100,101]) (by simp;omega))|exact aA _|exact aB _|exact(aA _).symm|exact(aB _).symm|rfl|exact qz)
     |(refine wq [] [] ⟨k2,(q+1),⟨hk2.kd.1,by omega,by omega⟩,rfl⟩ ?_
       repeat' apply ai
       all_goals first|exact qx|exact aA _|exact aB _|exact(aA _).symm|exact(aB _).symm|rfl|exact qz)
   refine sq (rT [0,2,3,37,54] (s2 (cd rfl (fun c54=> ?_) fun c54=> ?_)))
   · refine SW.regDE dH mo [2,3] 3 (fun _=>none) rfl rfl (by kernel_rfl) ?_
     refine s3 (vQ (robj:=[(801,.box 92 [.d (.sl (aC l)),.d (.i (q+1))])]) (rl:=[(0,801)]) (bor:=[]) (news:=[]) (qP l (q+1) (by omega) hl) rfl rfl rfl rfl ⟨bU rfl rfl rfl rfl (aZ rfl (aF rfl (aF rfl aH)) trivial),rfl⟩ (by rintro _ ⟨n1,q6,hn1,hq6,rfl⟩;exact⟨rfl,.inl rfl,fun j hj=>nomatch hj⟩) (aK ⟨rfl,trivial⟩) (fun j hj=>nomatch hj) ⟨_,.zero,q+1,aJl,⟨by omega,by omega⟩,rfl⟩ ?_)
     rintro _ ⟨n1,q6,hn1,hq6,rfl⟩
     refine s2 ?_
     refine ai (by refine⟨?_,?_,?_,?_⟩<;>first|trivial|rfl|exact aA _|(intro r hr;rw[aVn.1 hr];rfl)|(have:=hk2.kd.2;simp only[aU9,aU8];show(_+1)*48≤_;omega)) (s5 (ai (by kernel_rfl) ?_))
     first
     |(refine wq [] [] ⟨({k2 with held:=k2.held++[n1]}:aL),q6,⟨dw hk2 hn1,by omega,by omega⟩,rfl⟩ ?_
       repeat' apply ai
       all_goals first|exact qx|exact bT _ _|exact congrArg D.sl (bT _ _).symm|(simp[aA];done)|(rw[← bT];rfl)|exact aA _|exact aB _|exact(aA _).symm|exact(aB _).symm|rfl|exact qz)
     |(refine wq [] [] ⟨({k2 with inbox:=k2.inbox++[n1]}:aL),q6,⟨xQ hk2 hn1,by omega,by omega⟩,rfl⟩ ?_
       repeat' apply ai
       all_goals first|exact qx|exact bT _ _|exact congrArg D.sl (bT _ _).symm|(simp[aA];done)|(rw[← bT];rfl)|exact aA _|exact aB _|exact(aA _).symm|exact(aB _).symm|rfl|exact qz)
     |(refine wq [] [] ⟨({k2 with marks:=k2.marks++[⟨aT l (q+1) 5,aT l (q+1+1) 4,aT l (q+1+1+1) 40⟩]}:aL),(q+1+1+1+1),⟨xR hk2,by omega,by omega⟩,rfl⟩ ?_
       repeat' apply ai
       all_goals first|exact qx|exact congrArg D.sl (fM _ _).symm|(simp[aB];done)|(rw[← fM];rfl)|exact aA _|exact aB _|exact(aA _).symm|exact(aB _).symm|rfl|exact qz)
     |(refine wq (σ':=[tP 2 2,tP 3 3,oB 801 92 [.d (.sl (aC l)),.d (.i ((q+1+1)))],oB 2 26 [.d (.i 0),.d (.i 0),.d (.i 0),.nil,.nil,.nil],oB 3 26 [.d (.i (({k2 with time:=([-1,999,1000,9]:List Int).getD (aT l (q+1) 4).toNat 0}:aL)).id),.d (.i (({k2 with time:=([-1,999,1000,9]:List Int).getD (aT l (q+1) 4).toNat 0}:aL)).time),.d (.i (({k2 with time:=([-1,999,1000,9]:List Int).getD (aT l (q+1) 4).toNat 0}:aL)).next),.own 900 (({k2 with time:=([-1,999,1000,9]:List Int).getD (aT l (q+1) 4).toNat 0}:aL)).held.length,.own 901 (({k2 with time:=([-1,999,1000,9]:List Int).getD (aT l (q+1) 4).toNat 0}:aL)).marks.length,.own 902 (({k2 with time:=([-1,999,1000,9]:List Int).getD (aT l (q+1) 4).toNat 0}:aL)).inbox.length],oR 900 29 5 (aD (({k2 with time:=([-1,999,1000,9]:List Int).getD (aT l (q+1) 4).toNat 0}:aL)).held),oR 901 39 3 (aJ (({k2 with time:=([-1,999,1000,9]:List Int).getD (aT l (q+1) 4).toNat 0}:aL)).marks),oR 902 29 5 (aD (({k2 with time:=([-1,999,1000,9]:List Int).getD (aT l (q+1) 4).toNat 0}:aL)).inbox)]) [] [] ⟨({k2 with time:=([-1,999,1000,9]:List Int).getD (aT l (q+1) 4).toNat 0}:aL),(q+1+1),⟨dx hk2 ((by decide: ∀v∈([-1,999,1000,9]:List Int),R1 v) _ (cW (by simp;omega))),by omega,by omega⟩,rfl⟩ ?_
       repeat' apply ai
       all_goals first|exact qx|(rw[show(aT l (q+1) 4).toNat=(aT l (q+1) 4).toNat from rfl];exact congrArg (fun r:List D=>D.i (db (r.getD 0 (.i 0)))) (dL (l:=[-1,999,1000,9]) (by simp;omega)))|exact aA _|exact aB _|exact(aA _).symm|exact(aB _).symm|rfl|exact qz)
     |(refine wq [] [] ⟨({k2 with next:=([0,100,101]:List Int).getD (aT l (q+1) 3).toNat 0}:aL),(q+1+1),⟨dy hk2,by omega,by omega⟩,rfl⟩ ?_
       repeat' apply ai
       all_goals first|exact qx|exact congrArg (fun r:List D=>D.i (db (r.getD 0 (.i 0)))) (dL (l:=[0,100,101]) (by simp;omega))|exact aA _|exact aB _|exact(aA _).symm|exact(aB _).symm|rfl|exact qz)
     |(refine wq [] [] ⟨k2,(q+1),⟨hk2.kd.1,by omega,by omega⟩,rfl⟩ ?_
       repeat' apply ai
       all_goals first|exact qx|exact aA _|exact aB _|exact(aA _).symm|exact(aB _).symm|rfl|exact qz)
   refine sq (rT [0,2,3,37,63] (s2 (cd rfl (fun c63=> ?_) fun c63=> ?_)))
   · refine SW.regDE dH mo [2,3] 3 (fun _=>none) rfl rfl (by kernel_rfl) ?_
     refine s3 (vQ (robj:=[(801,.box 92 [.d (.sl (aC l)),.d (.i (q+1))])]) (rl:=[(0,801)]) (bor:=[]) (news:=[]) (qP l (q+1) (by omega) hl) rfl rfl rfl rfl ⟨bU rfl rfl rfl rfl (aZ rfl (aF rfl (aF rfl aH)) trivial),rfl⟩ (by rintro _ ⟨n1,q6,hn1,hq6,rfl⟩;exact⟨rfl,.inl rfl,fun j hj=>nomatch hj⟩) (aK ⟨rfl,trivial⟩) (fun j hj=>nomatch hj) ⟨_,.zero,q+1,aJl,⟨by omega,by omega⟩,rfl⟩ ?_)
     rintro _ ⟨n1,q6,hn1,hq6,rfl⟩
     refine s2 ?_
     refine ai (by refine⟨?_,?_,?_,?_⟩<;>first|trivial|rfl|exact aA _|(intro r hr;rw[aVn.1 hr];rfl)|(have:=hk2.kd.2;simp only[aU9,aU8];show(_+1)*48≤_;omega)) (s5 (ai (by kernel_rfl) ?_))
     first
     |(refine wq [] [] ⟨({k2 with held:=k2.held++[n1]}:aL),q6,⟨dw hk2 hn1,by omega,by omega⟩,rfl⟩ ?_
       repeat' apply ai
       all_goals first|exact qx|exact bT _ _|exact congrArg D.sl (bT _ _).symm|(simp[aA];done)|(rw[← bT];rfl)|exact aA _|exact aB _|exact(aA _).symm|exact(aB _).symm|rfl|exact qz)
     |(refine wq [] [] ⟨({k2 with inbox:=k2.inbox++[n1]}:aL),q6,⟨xQ hk2 hn1,by omega,by omega⟩,rfl⟩ ?_
       repeat' apply ai
       all_goals first|exact qx|exact bT _ _|exact congrArg D.sl (bT _ _).symm|(simp[aA];done)|(rw[← bT];rfl)|exact aA _|exact aB _|exact(aA _).symm|exact(aB _).symm|rfl|exact qz)
     |(refine wq [] [] ⟨({k2 with marks:=k2.marks++[⟨aT l (q+1) 5,aT l (q+1+1) 4,aT l (q+1+1+1) 40⟩]}:aL),(q+1+1+1+1),⟨xR hk2,by omega,by omega⟩,rfl⟩ ?_
       repeat' apply ai
       all_goals first|exact qx|exact congrArg D.sl (fM _ _).symm|(simp[aB];done)|(rw[← fM];rfl)|exact aA _|exact aB _|exact(aA _).symm|exact(aB _).symm|rfl|exact qz)
     |(refine wq (σ':=[tP 2 2,tP 3 3,oB 801 92 [.d (.sl (aC l)),.d (.i ((q+1+1)))],oB 2 26 [.d (.i 0),.d (.i 0),.d (.i 0),.nil,.nil,.nil],oB 3 26 [.d (.i (({k2 with time:=([-1,999,1000,9]:List Int).getD (aT l (q+1) 4).toNat 0}:aL)).id),.d (.i (({k2 with time:=([-1,999,1000,9]:List Int).getD (aT l (q+1) 4).toNat 0}:aL)).time),.d (.i (({k2 with time:=([-1,999,1000,9]:List Int).getD (aT l (q+1) 4).toNat 0}:aL)).next),.own 900 (({k2 with time:=([-1,999,1000,9]:List Int).getD (aT l (q+1) 4).toNat 0}:aL)).held.length,.own 901 (({k2 with time:=([-1,999,1000,9]:List Int).getD (aT l (q+1) 4).toNat 0}:aL)).marks.length,.own 902 (({k2 with time:=([-1,999,1000,9]:List Int).getD (aT l (q+1) 4).toNat 0}:aL)).inbox.length],oR 900 29 5 (aD (({k2 with time:=([-1,999,1000,9]:List Int).getD (aT l (q+1) 4).toNat 0}:aL)).held),oR 901 39 3 (aJ (({k2 with time:=([-1,999,1000,9]:List Int).getD (aT l (q+1) 4).toNat 0}:aL)).marks),oR 902 29 5 (aD (({k2 with time:=([-1,999,1000,9]:List Int).getD (aT l (q+1) 4).toNat 0}:aL)).inbox)]) [] [] ⟨({k2 with time:=([-1,999,1000,9]:List Int).getD (aT l (q+1) 4).toNat 0}:aL),(q+1+1),⟨dx hk2 ((by decide: ∀v∈([-1,999,1000,9]:List Int),R1 v) _ (cW (by simp;omega))),by omega,by omega⟩,rfl⟩ ?_
       repeat' apply ai
       all_goals first|exact qx|(rw[show(aT l (q+1) 4).toNat=(aT l (q+1) 4).toNat from rfl];exact congrArg (fun r:List D=>D.i (db (r.getD 0 (.i 0)))) (dL (l:=[-1,999,1000,9]) (by simp;omega)))|exact aA _|exact aB _|exact(aA _).symm|exact(aB _).symm|rfl|exact qz)
     |(refine wq [] [] ⟨({k2 with next:=([0,100,101]:List Int).getD (aT l (q+1) 3).toNat 0}:aL),(q+1+1),⟨dy hk2,by omega,by omega⟩,rfl⟩ ?_
       repeat' apply ai
       all_goals first|exact qx|exact congrArg (fun r:List D=>D.i (db (r.getD 0 (.i 0)))) (dL (l:=[0,100,101]) (by simp;omega))|exact aA _|exact aB _|exact(aA _).symm|exact(aB _).symm|rfl|exact qz)
     |(refine wq [] [] ⟨k2,(q+1),⟨hk2.kd.1,by omega,by omega⟩,rfl⟩ ?_
       repeat' apply ai
       all_goals first|exact qx|exact aA _|exact aB _|exact(aA _).symm|exact(aB _).symm|rfl|exact qz)
   refine sq (rT [0,2,3,72] (s2 (cd rfl (fun c72=> ?_) fun c72=> ?_)))
   · refine rD [2,3] (s3 (bJ (robj:=[(801,.box 92 [.d (.sl (aC (l))),.d (.i (q+1))])]) (rl:=[(0,801)]) (bor:=[]) (cU (l) (q+1) _ (by omega) hl) rfl rfl rfl rfl ⟨bU rfl rfl rfl rfl (cJ rfl rfl (aZ rfl (aF rfl (aF rfl aH)) trivial)),rfl⟩ rfl (.inl rfl) (aK ⟨rfl,trivial⟩) (fun _ hj=>nomatch hj) (s1 (bJ (robj:=[(801,.box 92 [.d (.sl (aC (l))),.d (.i (q+1+1))])]) (rl:=[(0,801)]) (bor:=[]) (cU (l) (q+1+1) _ (by omega) hl) rfl rfl rfl rfl ⟨bU rfl rfl rfl rfl (cJ rfl rfl (aZ rfl (aF rfl (aF rfl aH)) trivial)),rfl⟩ rfl (.inl rfl) (aK ⟨rfl,trivial⟩) (fun _ hj=>nomatch hj) (s1 (bJ (robj:=[(801,.box 92 [.d (.sl (aC (l))),.d (.i (q+1+1+1))])]) (rl:=[(0,801)]) (bor:=[]) (cU (l) (q+1+1+1) _ (by omega) hl) rfl rfl rfl rfl ⟨bU rfl rfl rfl rfl (cJ rfl rfl (aZ rfl (aF rfl (aF rfl aH)) trivial)),rfl⟩ rfl (.inl rfl) (aK ⟨rfl,trivial⟩) (fun _ hj=>nomatch hj) ?_))))))
     refine s1 ?_
     refine s1 ?_
     refine ai (by refine⟨?_,?_,?_,?_⟩<;>first|trivial|rfl|exact aB _|(intro r hr;rw[aVn.1 hr];rfl)|(have:=hk2.kd.2;simp only[aU9,aU8];show(_+1)*24≤_;omega)) (s2 (ai (by kernel_rfl) ?_))
     first
     |(refine wq [] [] ⟨({k2 with held:=k2.held++[n1]}:aL),q6,⟨dw hk2 hn1,by omega,by omega⟩,rfl⟩ ?_
       repeat' apply ai
       all_goals first|exact qx|exact bT _ _|exact congrArg D.sl (bT _ _).symm|(simp[aA];done)|(rw[← bT];rfl)|exact aA _|exact aB _|exact(aA _).symm|exact(aB _).symm|rfl|exact qz)
     |(refine wq [] [] ⟨({k2 with inbox:=k2.inbox++[n1]}:aL),q6,⟨xQ hk2 hn1,by omega,by omega⟩,rfl⟩ ?_
       repeat' apply ai
       all_goals first|exact qx|exact bT _ _|exact congrArg D.sl (bT _ _).symm|(simp[aA];done)|(rw[← bT];rfl)|exact aA _|exact aB _|exact(aA _).symm|exact(aB _).symm|rfl|exact qz)
     |(refine wq [] [] ⟨({k2 with marks:=k2.marks++[⟨aT l (q+1) 5,aT l (q+1+1) 4,aT l (q+1+1+1) 40⟩]}:aL),(q+1+1+1+1),⟨xR hk2,by omega,by omega⟩,rfl⟩ ?_
       repeat' apply ai
       all_goals first|exact qx|exact congrArg D.sl (fM _ _).symm|(simp[aB];done)|(rw[← fM];rfl)|exact aA _|exact aB _|exact(aA _).symm|exact(aB _).symm|rfl|exact qz)
     |(refine wq (σ':=[tP 2 2,tP 3 3,oB 801 92 [.d (.sl (aC l)),.d (.i ((q+1+1)))],oB 2 26 [.d (.i 0),.d (.i 0),.d (.i 0),.nil,.nil,.nil],oB 3 26 [.d (.i (({k2 with time:=([-1,999,1000,9]:List Int).getD (aT l (q+1) 4).toNat 0}:aL)).id),.d (.i (({k2 with time:=([-1,999,1000,9]:List Int).getD (aT l (q+1) 4).toNat 0}:aL)).time),.d (.i (({k2 with time:=([-1,999,1000,9]:List Int).getD (aT l (q+1) 4).toNat 0}:aL)).next),.own 900 (({k2 with time:=([-1,999,1000,9]:List Int).getD (aT l (q+1) 4).toNat 0}:aL)).held.length,.own 901 (({k2 with time:=([-1,999,1000,9]:List Int).getD (aT l (q+1) 4).toNat 0}:aL)).marks.length,.own 902 (({k2 with time:=([-1,999,1000,9]:List Int).getD (aT l (q+1) 4).toNat 0}:aL)).inbox.length],oR 900 29 5 (aD (({k2 with time:=([-1,999,1000,9]:List Int).getD (aT l (q+1) 4).toNat 0}:aL)).held),oR 901 39 3 (aJ (({k2 with time:=([-1,999,1000,9]:List Int).getD (aT l (q+1) 4).toNat 0}:aL)).marks),oR 902 29 5 (aD (({k2 with time:=([-1,999,1000,9]:List Int).getD (aT l (q+1) 4).toNat 0}:aL)).inbox)]) [] [] ⟨({k2 with time:=([-1,999,1000,9]:List Int).getD (aT l (q+1) 4).toNat 0}:aL),(q+1+1),⟨dx hk2 ((by decide: ∀v∈([-1,999,1000,9]:List Int),R1 v) _ (cW (by simp;omega))),by omega,by omega⟩,rfl⟩ ?_
       repeat' apply ai
       all_goals first|exact qx|(rw[show(aT l (q+1) 4).toNat=(aT l (q+1) 4).toNat from rfl];exact congrArg (fun r:List D=>D.i (db (r.getD 0 (.i 0)))) (dL (l:=[-1,999,1000,9]) (by simp;omega)))|exact aA _|exact aB _|exact(aA _).symm|exact(aB _).symm|rfl|exact qz)
     |(refine wq [] [] ⟨({k2 with next:=([0,100,101]:List Int).getD (aT l (q+1) 3).toNat 0}:aL),(q+1+1),⟨dy hk2,by omega,by omega⟩,rfl⟩ ?_
       repeat' apply ai
       all_goals first|exact qx|exact congrArg (fun r:List D=>D.i (db (r.getD 0 (.i 0)))) (dL (l:=[0,100,101]) (by simp;omega))|exact aA _|exact aB _|exact(aA _).symm|exact(aB _).symm|rfl|exact qz)
     |(refine wq [] [] ⟨k2,(q+1),⟨hk2.kd.1,by omega,by omega⟩,rfl⟩ ?_
       repeat' apply ai
       all_goals first|exact qx|exact aA _|exact aB _|exact(aA _).symm|exact(aB _).symm|rfl|exact qz)
   refine sk ?_
   first
   |(refine wq [] [] ⟨({k2 with held:=k2.held++[n1]}:aL),q6,⟨dw hk2 hn1,by omega,by omega⟩,rfl⟩ ?_
     repeat' apply ai
     all_goals first|exact qx|exact bT _ _|exact congrArg D.sl (bT _ _).symm|(simp[aA];done)|(rw[← bT];rfl)|exact aA _|exact aB _|exact(aA _).symm|exact(aB _).symm|rfl|exact qz)
   |(refine wq [] [] ⟨({k2 with inbox:=k2.inbox++[n1]}:aL),q6,⟨xQ hk2 hn1,by omega,by omega⟩,rfl⟩ ?_
     repeat' apply ai
     all_goals first|exact qx|exact bT _ _|exact congrArg D.sl (bT _ _).symm|(simp[aA];done)|(rw[← bT];rfl)|exact aA _|exact aB _|exact(aA _).symm|exact(aB _).symm|rfl|exact qz)
   |(refine wq [] [] ⟨({k2 with marks:=k2.marks++[⟨aT l (q+1) 5,aT l (q+1+1) 4,aT l (q+1+1+1) 40⟩]}:aL),(q+1+1+1+1),⟨xR hk2,by omega,by omega⟩,rfl⟩ ?_
     repeat' apply ai
     all_goals first|exact qx|exact congrArg D.sl (fM _ _).symm|(simp[aB];done)|(rw[← fM];rfl)|exact aA _|exact aB _|exact(aA _).symm|exact(aB _).symm|rfl|exact qz)
   |(refine wq (σ':=[tP 2 2,tP 3 3,oB 801 92 [.d (.sl (aC l)),.d (.i ((q+1+1)))],oB 2 26 [.d (.i 0),.d (.i 0),.d (.i 0),.nil,.nil,.nil],oB 3 26 [.d (.i (({k2 with time:=([-1,999,1000,9]:List Int).getD (aT l (q+1) 4).toNat 0}:aL)).id),.d (.i (({k2 with time:=([-1,999,1000,9]:List Int).getD (aT l (q+1) 4).toNat 0}:aL)).time),.d (.i (({k2 with time:=([-1,999,1000,9]:List Int).getD (aT l (q+1) 4).toNat 0}:aL)).next),.own 900 (({k2 with time:=([-1,999,1000,9]:List Int).getD (aT l (q+1) 4).toNat 0}:aL)).held.length,.own 901 (({k2 with time:=([-1,999,1000,9]:List Int).getD (aT l (q+1) 4).toNat 0}:aL)).marks.length,.own 902 (({k2 with time:=([-1,999,1000,9]:List Int).getD (aT l (q+1) 4).toNat 0}:aL)).inbox.length],oR 900 29 5 (aD (({k2 with time:=([-1,999,1000,9]:List Int).getD (aT l (q+1) 4).toNat 0}:aL)).held),oR 901 39 3 (aJ (({k2 with time:=([-1,999,1000,9]:List Int).getD (aT l (q+1) 4).toNat 0}:aL)).marks),oR 902 29 5 (aD (({k2 with time:=([-1,999,1000,9]:List Int).getD (aT l (q+1) 4).toNat 0}:aL)).inbox)]) [] [] ⟨({k2 with time:=([-1,999,1000,9]:List Int).getD (aT l (q+1) 4).toNat 0}:aL),(q+1+1),⟨dx hk2 ((by decide: ∀v∈([-1,999,1000,9]:List Int),R1 v) _ (cW (by simp;omega))),by omega,by omega⟩,rfl⟩ ?_
     repeat' apply ai
     all_goals first|exact qx|(rw[show(aT l (q+1) 4).toNat=(aT l (q+1) 4).toNat from rfl];exact congrArg (fun r:List D=>D.i (db (r.getD 0 (.i 0)))) (dL (l:=[-1,999,1000,9]) (by simp;omega)))|exact aA _|exact aB _|exact(aA _).symm|exact(aB _).symm|rfl|exact qz)
   |(refine wq [] [] ⟨({k2 with next:=([0,100,101]:List Int).getD (aT l (q+1) 3).toNat 0}:aL),(q+1+1),⟨dy hk2,by omega,by omega⟩,rfl⟩ ?_
     repeat' apply ai
     all_goals first|exact qx|exact congrArg (fun r:List D=>D.i (db (r.getD 0 (.i 0)))) (dL (l:=[0,100,101]) (by simp;omega))|exact aA _|exact aB _|exact(aA _).symm|exact(aB _).symm|rfl|exact qz)
   |(refine wq [] [] ⟨k2,(q+1),⟨hk2.kd.1,by omega,by omega⟩,rfl⟩ ?_
     repeat' apply ai
     all_goals first|exact qx|exact aA _|exact aB _|exact(aA _).symm|exact(aB _).symm|rfl|exact qz)
 rintro s ⟨k3,q7,⟨hk3,hq7⟩,rfl⟩
 refine sq (rT [2] (s2 (rt (cV [(.t 0,.v k3.V),oB 801 92 [.d (.sl (aC l)),.d (.i (q7))]] ⟨k3,q7,hk3,⟨by omega,by omega⟩,rfl⟩ (rq [] [900,901,902] rfl ?_)))))
 repeat' apply ai
 all_goals first|exact qx|exact aA _|exact aB _|exact(aA _).symm|exact(aB _).symm|rfl|exact qz
set_option maxHeartbeats 800000 in
theorem qS (l:List UInt8) (hl:l.length≤140737488355328):qu 13 1 [tD 0 (.sl (aC l))] (fun s=> ∃k:aL,KD k∧s=[(.t 0,.v k.V)]):=by
 have hl2: (l.take 2000).length≤2000:=by simp;omega
 refine vt Tryz.func13 rfl (sq (rT [0,2] (s1 (sq (rE [2] (s1 (gY (bd [(0,801)] (wX l hl) rfl rfl rfl rfl rfl rfl rfl (fun j hj=>by(obtain rfl:j=0:=by simpa[mT,cA,iU] using hj);rfl) (cK (robj:=[(801,.box 92 [.d (.sl (aC (l.take 2000))),.d (.i (0))])]) (rl:=[]) (bor:=[]) (news:=[]) (qR (l.take 2000) (0) (by omega) hl2) rfl rfl rfl rfl ⟨bU rfl rfl rfl rfl (aZ rfl (aF rfl (aF rfl aH)) trivial),rfl⟩ (by rintro _ ⟨k,q,hk,hq,rfl⟩;exact⟨rfl,.inl rfl,fun j hj=>nomatch hj⟩) (aK ⟨rfl,trivial⟩) (fun j hj=>nomatch hj) ?_)))))))))
 rintro _ ⟨k,q,hk,hq,rfl⟩
 exact s1 (rt (cV [(.t 0,.v k.V)] ⟨k,hk,rfl⟩ (rq [] [] rfl qz)))
set_option maxHeartbeats 800000 in
theorem kX (l:List UInt8) (hl:l.length≤140737488355328):qu 23 1 [tD 0 (.sl (aC l))] (fun s=> ∃(k:aL) (x:List UInt8),(KD k∧x.length≤150)∧s=[tV 0 (.tup [.agg [.d (.i (k).id),.d (.i (k).time),.d (.i (k).next),.d (.sl (aD (k).held)),.d (.sl (aJ (k).marks)),.d (.sl (aD (k).inbox))],.c (.d (.s x))])]):=by
 have hl2: (l.take 2000).length≤2000:=by simp;omega
 refine vt Tryz.func23 rfl (sq (rT [0,2] (s2 (sq (rT [2,4] (s1 (bd [(0,801)] (wX l hl) rfl rfl rfl rfl rfl rfl rfl (fun j hj=>by(obtain rfl:j=0:=by simpa[mT,cA,iU] using hj);rfl) (s1 (sq (rE [2,4,5] (s1 (cK (robj:=[(801,.box 92 [.d (.sl (aC (l.take 2000))),.d (.i (0))])]) (rl:=[]) (bor:=[]) (news:=[]) (qR (l.take 2000) (0) (by omega) hl2) rfl rfl rfl rfl ⟨bU rfl rfl rfl rfl (aZ rfl (aF rfl (aF rfl aH)) trivial),rfl⟩ (by rintro _ ⟨k,q,hk,hq,rfl⟩;exact⟨rfl,.inl rfl,fun j hj=>nomatch hj⟩) (aK ⟨rfl,trivial⟩) (fun j hj=>nomatch hj) ?_))))))))))))
 rintro _ ⟨k,q,hk,hq,rfl⟩
 refine s2 (sq (SW.regDE dH mo [2,3] 3 (fun _=>none) rfl rfl (by kernel_rfl) ?_))
 refine s3 (vQ (robj:=[(801,.box 92 [.d (.sl (aC (l.take 2000))),.d (.i (q))])]) (rl:=[(0,801)]) (bor:=[]) (news:=[]) (co (l.take 2000) (q) k (by omega) hl2 hk) rfl rfl rfl rfl ⟨bU rfl rfl rfl rfl (dD rfl (aF rfl (aF rfl (aF rfl (aF rfl (aF rfl (aF rfl aH)))))) (aZ rfl (aF rfl (aF rfl aH)) trivial)),rfl⟩ (by rintro _ ⟨x,q9,hx,rfl⟩;exact⟨rfl,.inl rfl,fun j hj=>nomatch hj⟩) (aK ⟨rfl,trivial⟩) (fun j hj=>nomatch hj) ⟨_,[],q,⟨by omega,by omega,by simp⟩,rfl⟩ ?_)
 rintro _ ⟨x,q9,hx,rfl⟩
 exact s4 (ai (by kernel_rfl) (rt (cV [tV 0 (.tup [.agg [.d (.i (k).id),.d (.i (k).time),.d (.i (k).next),.d (.sl (aD (k).held)),.d (.sl (aJ (k).marks)),.d (.sl (aD (k).inbox))],.c (.d (.s x))])] ⟨k,x,⟨hk,hx.2.2⟩,rfl⟩ (rq [] [] rfl qz))))
end Go.Proofs.YtcbjphphppaoiaaGreatDoor
namespace Go.Ab
open Int renaming toNat_natCast→aU4,tmod→aVg
open List renaming length_append→aU5,length_nil→aU8,length_cons→aU9,getD_eq_getElem?_getD→aVb,length_take→aVc,getElem?_eq_getElem→aVd,getElem?_eq_some_iff→aVe,range→aVh,all_eq_true→aVi,mem_map→aVj,length_drop→aVk,take_length→aVl,mem_cons→aVm,mem_singleton→aVn,mem_iff_getElem?→aVp
open Nat renaming le_of_ble_eq_true→aU6,zero_le→aVa,le_refl→aVf,add_mul→aVo
open Bool renaming and_eq_true→aU7
open Go Go.RowKit
set_option linter.unusedVariables false
set_option linter.unusedSimpArgs false
theorem xS (k:aL) (n:aR): (dW k n).1.time=k.time∧(dW k n).1.next=k.next:=by
 unfold dW
 repeat' split
 all_goals exact⟨rfl,rfl⟩
theorem nQ {k:aL} {rec:List UInt8} (h: (aO k rec).2=true):cO k=true∧(eA k rec).2=true∧(aO k rec).1=(eA k rec).1∧cO (eA k rec).1=true:=by
 unfold aO at h ⊢
 split at h
 · rename_i hk
   rw[if_pos hk]
   unfold kD at h ⊢
   split at h
   · rename_i hx
     rw[if_pos hx]
     simp only[aU7] at hx
     exact⟨hk,hx.1,rfl,hx.2⟩
   · cases h
 · cases h
theorem aIg {k:aL} {rec:List UInt8} (hk:cO k=true) (h: (aO k rec).2=false): (aO k rec).1=k:=by
 rw[oA hk] at h ⊢
 unfold kD at h ⊢
 split
 · rename_i hx;rw[if_pos hx] at h;cases h
 · rfl
theorem aA1 {n:aR} (h:eD n=true):cC (gD n)=(n,true):=aAg _ n h (by unfold gD;rw[if_pos h])
theorem aIh {n:aR} (h: ¬eD n=true):gD n=[]:=by unfold gD;rw[if_neg h]
theorem gw {k:aL} {w:List UInt8} {n:aR} (hw: ∀b∈w,b≠32) (h1: (w==hG||w==iO)=false) (h2: (w==fS||w==dE||w==gU||w==fT)=true):eA k (cI w n)=if eD n then dX k w n else(k,false):=by
 have e:cI w n=w++32::gD n:=by simp[cI]
 obtain⟨q1,q2,q3⟩:=lL (w:=w) (r:=gD n) hw
 rw[e]
 by_cases hn:eD n=true
 · rw[if_pos hn,dn q3 (by rw[q1];exact h1) (by rw[q1];exact h2) (by rw[q2,aA1 hn]),q1,q2,aA1 hn]
 · rw[if_neg hn,pA q3 (by rw[q1];exact h1) (by rw[q1];exact h2) (by rw[q2,aIh hn];rfl)]
theorem aIi {k:aL} {n:aR} (h:n.til≤k.time):nH k n=false:=by
 unfold nH
 rw[decide_eq_false (show ¬k.time<n.til by omega)]
 simp
theorem aFk {k:aL} {n:aR} (h:n.til≤k.time):dW k n=(k,false):=by
 unfold dW
 rw[aIi h]
 simp
theorem aA2 {k:aL} {x:aL×Bool} (h:x.2=false):kD k x=(k,false):=by
 unfold kD
 rw[h];simp
theorem aLy {k:aL} {n:aR} (h:n.til≤k.time): (dX k dE n).2=false:=by
 unfold dX
 rw[if_neg (by simp[dE,fS])]
 split
 · rw[aFk h]
 · split
   · rfl
   · rw[if_neg (by simp[dE,gU]),if_neg (by simp[dE,fT])]
theorem aFl {k:aL} {n:aR} (h:n.til≤k.time): (aO k (cI dE n)).2=false:=by
 by_cases hk:cO k=true
 · rw[oA hk,aA2]
   rw[gw (by decide) rfl rfl]
   split
   · exact aLy h
   · rfl
 · unfold aO;rw[if_neg hk]
theorem aLz {k:aL} (hk:cO k=true) (h:999≤k.time):k.held=[]∧k.marks=[]:=by
 obtain⟨⟨_,_,_⟩,⟨h4,h5,_⟩,h7,h8,_⟩:=(bX k).1 hk
 constructor
 · cases hh:k.held with
   |nil=>rfl
   |cons x xs=>
    have h0:0<k.held.length:=by rw[hh];simp
    have h9:=aVi.1 h7 0 (List.mem_range.2 h0)
    have hx:=lT h4 (cW (z:=aR.zero) h0)
    unfold rI at h9
    simp only[aU7,decide_eq_true_eq] at h9
    unfold eD at hx
    simp only[aU7,iB,decide_eq_true_eq] at hx
    omega
 · cases hh:k.marks with
   |nil=>rfl
   |cons x xs=>
    have h0:0<k.marks.length:=by rw[hh];simp
    have h9:=aVi.1 h8 0 (List.mem_range.2 h0)
    have hx:=sQ h5 (cW (z:=bQ.zero) h0)
    unfold uU at h9
    simp only[aU7,decide_eq_true_eq] at h9
    unfold jO at hx
    simp only[aU7,iB,decide_eq_true_eq] at hx
    omega
end Go.Ab
namespace Go.Proofs.YtcbjphphppaoiaaGreatDoor
open Int renaming toNat_natCast→aU4,tmod→aVg
open List renaming length_append→aU5,length_nil→aU8,length_cons→aU9,getD_eq_getElem?_getD→aVb,length_take→aVc,getElem?_eq_getElem→aVd,getElem?_eq_some_iff→aVe,range→aVh,all_eq_true→aVi,mem_map→aVj,length_drop→aVk,take_length→aVl,mem_cons→aVm,mem_singleton→aVn,mem_iff_getElem?→aVp
open Nat renaming le_of_ble_eq_true→aU6,zero_le→aVa,le_refl→aVf,add_mul→aVo
open Bool renaming and_eq_true→aU7
open Go Go.Ab Go.RowKit
set_option linter.unusedVariables false
set_option linter.unusedSimpArgs false
set_option maxRecDepth 9000
theorem kY {B:Nat} {ds:List D} (h:vF tab B 8 22 ds): ∃l:List UInt8,ds=[.sl (aC l)]∧l.length≤B:=by
 obtain⟨rows,rfl,h1,h2⟩:=h
 have h3: ∀r∈rows,r=[.u (Ab.byteOf r).toNat]:=fun r hr=>by
  obtain⟨n,rfl,hn⟩:=h2 r hr
  simp[Lit.wf,IntKind.min,IntKind.max,IntKind.signed,IntKind.bits] at hn
  simp[Ab.byteOf]
  omega
 refine⟨iQ rows,?_,?_⟩
 · congr 2
   unfold iQ aC
   rw[List.map_map]
   conv=>lhs;rw[← List.map_id rows]
   exact List.map_congr_left fun r hr=>h3 r hr
 have h1:rows.length*1≤B:=h1
 simpa[iQ] using h1
set_option maxHeartbeats 1600000 in
theorem gx (l:List UInt8) (hl:l.length≤140737488355328):Sp 3 1 [tD 0 (.sl (aC l))] [tB 0 true]:=by
 refine sb Tryz.func3 rfl (sq (rT [0,45,46,47,50,51] (s1 (sq (sq (rT [0,12,45,46,47,50,51] (s3 (cd rfl (fun c12=> ?_) fun c12=> ?_))))))))
 · refine sq (rT [2] (s1 (rt (bH rfl ?_))))
   rfl
 refine sk (sq (rE [3,45,46,47,50,51] (s1 (cK (robj:=[]) (rl:=[]) (bor:=[]) (news:=[]) (qS l hl) rfl rfl rfl rfl ⟨cJ rfl rfl trivial,rfl⟩ (by rintro _ ⟨k,hk,rfl⟩;exact⟨rfl,.inl rfl,fun j hj=>nomatch hj⟩) (fun p hp=>nomatch hp) (fun j hj=>nomatch hj) ?_))))
 rintro _ ⟨k,hk,rfl⟩
 have hkb:=hk.kb
 refine s2 (SW.midW (fun s=> ∃F T:Int,s=[tP 3 3,tP 4 4,oB 3 26 [.d (.i (k).id),.d (.i (k).time),.d (.i (k).next),.d (.sl (aD (k).held)),.d (.sl (aJ (k).marks)),.d (.sl (aD (k).inbox))],oB 4 29 [.d (.i F),.d (.i 90),.d (.i T),.d (.i k.time),.d (.s [108,97,116,101])]]) ?_ ?_)
 · exact rT [3,4,45,46,47,50,51] (s3 (ai (by decide) (s3 (ai (by decide) (s5 (wq [] [] ⟨?f1,?t1,rfl⟩ qz))))))
 rintro s ⟨F,T,rfl⟩
 refine sq (rT [3,5,45,46,47,50,51] (s1 ?_))
 have hwl:=iS (⟨F,90,T,k.time,[108,97,116,101]⟩:aR)
 refine xp (fH (⟨F,90,T,k.time,[108,97,116,101]⟩:aR) (by show(4:Nat)≤_;omega)) (ai rfl ?_)
 refine ai (by show _≤9223372036854775807;(try simp only[aU5,aU9,aU8]);omega) (s1 (sq ?_))
 have hrl: (cI dE (⟨F,90,T,k.time,[108,97,116,101]⟩:aR)).length≤900000:=by simp[cI,dE];omega
 have hxb:KB (aO k (cI dE (⟨F,90,T,k.time,[108,97,116,101]⟩:aR))).1:=lM.seven.big
 refine wa [tP 3 3,tD 5 (.s (cI dE (⟨F,90,T,k.time,[108,97,116,101]⟩:aR))),oB 3 26 [.d (.i (k).id),.d (.i (k).time),.d (.i (k).next),.d (.sl (aD (k).held)),.d (.sl (aJ (k).marks)),.d (.sl (aD (k).inbox))]] [] [] qz (rT [3,5,6,7,45,46,47,50,51] (s2 (xp (sU k (cI dE (⟨F,90,T,k.time,[108,97,116,101]⟩:aR)) hkb hrl) (ai rfl ?_))))
 refine s6 (sq (rT [6,7,8,9,45,46,47,50,51] (s2 (xp (gC k (cI dE (⟨F,90,T,k.time,[108,97,116,101]⟩:aR)) hkb hrl) (ai rfl ?_)))))
 refine s6 (sq (rT [2] (s4 (y2 (xc (fun h=>eZ (aO k (cI dE (⟨F,90,T,k.time,[108,97,116,101]⟩:aR))).1 hxb) (ai rfl (ai rk ?_)))))))
 refine ai pk (s1 (y2 (ai pk (s1 (rt ?_)))))
 have hb:=aFl (k:=k) (n:=(⟨F,90,T,k.time,[108,97,116,101]⟩:aR)) (Int.le_refl _)
 refine bH rfl (congrArg D.b ?_)
 simp[gb,hb]
end Go.Proofs.YtcbjphphppaoiaaGreatDoor
namespace Go.Ab
open Int renaming toNat_natCast→aU4,tmod→aVg
open List renaming length_append→aU5,length_nil→aU8,length_cons→aU9,getD_eq_getElem?_getD→aVb,length_take→aVc,getElem?_eq_getElem→aVd,getElem?_eq_some_iff→aVe,range→aVh,all_eq_true→aVi,mem_map→aVj,length_drop→aVk,take_length→aVl,mem_cons→aVm,mem_singleton→aVn,mem_iff_getElem?→aVp
open Nat renaming le_of_ble_eq_true→aU6,zero_le→aVa,le_refl→aVf,add_mul→aVo
open Bool renaming and_eq_true→aU7
open Go Go.RowKit
set_option linter.unusedVariables false
theorem aOb {P:Program} {w w':World} {name:String} {cs:Array Value} (h:w.var? P name=some cs) (hf:Fr (fun _=>False) w w'):w'.var? P name=some cs:=by
 unfold World.var? at h ⊢
 cases hg:P.globalNamed name with
 |none=>rw[hg] at h;cases h
 |some g=>
  rw[hg] at h
  simp only[Option.bind_some] at h ⊢
  cases hh:w.heap[g]? with
  |none=>rw[hh] at h;cases h
  |some o=>
   have hlt:g<w.heap.size:=(Array.getElem?_eq_some_iff.1 hh).1
   rw[hf.block g hlt (fun h=>h),hh]
   rw[hh] at h
   exact h
theorem wF {P:Program} {w:World} {name:String} {g:Nat} {cs:Array Value} {t:TypeId} {v:Value} (hg:P.globalNamed name=some g) (hh:w.heap[g]? =some (.cells cs t)) (hs:cs.size=1) (hc:w.cell? ⟨g,0,none⟩=some v):w.var? P name=some #[v]:=by
 have e:cs= #[v]:=by
  have h1:w.cell? ⟨g,0,none⟩=cs[0]?:=by rw[cell_of_row w g 0 cs t (0,0) hh]
  rw[hc] at h1
  apply Array.ext
  · simpa using hs
  · intro i h2 h3
    have:i=0:=by have:i<1:=by simpa using h3
                 omega
    subst this
    rw[Array.getElem?_eq_getElem h2] at h1
    exact(Option.some.inj h1).symm
 subst e
 unfold World.var?
 rw[hg]
 simp only[Option.bind_some]
 rw[hh]
theorem py {P:Program} {w:World} (h1:Lib.TabIs P w "internal/strconv.uint64pow10" .u64 Lib.pow10Tab) (h2: ∃m,w.var? P "internal/bytealg.MaxLen" =some #[.int .i64 m]):GB P w fun _=>False:=fun w' hf=>⟨aOb h1 hf,h2.imp fun m hm=>aOb hm hf⟩
set_option linter.unusedSimpArgs false
theorem ww {l:List aR} {x:aR} (hx:x∈l):0≤aX l x.frm x.num:=Int.not_lt.1 fun h=>vA h hx ⟨rfl,rfl⟩
theorem aP9 {l:List bQ} {x:bQ} (hx:x∈l):0≤fW l x.frm x.num:=Int.not_lt.1 fun h=>yT h hx ⟨rfl,rfl⟩
theorem aJm {l:List aR} {f m:Int} (h: ∀x∈l,¬(x.frm=f∧x.num=m)):aX l f m<0:=by
 rcases gT (mU l f m) l.length 0 with h1|⟨k,h1,_,h2,h3,_⟩
 · rw[aX,h1];decide
 · have hk:k<l.length:=by omega
   unfold mU at h3
   simp only[aU7,beq_iff_eq] at h3
   exact absurd h3 (h _ (cW hk))
theorem aOc {l:List bQ} {f m:Int} (h: ∀x∈l,¬(x.frm=f∧x.num=m)):fW l f m<0:=by
 rcases gT (rH l f m) l.length 0 with h1|⟨k,h1,_,h2,h3,_⟩
 · rw[fW,h1];decide
 · have hk:k<l.length:=by omega
   unfold rH at h3
   simp only[aU7,beq_iff_eq] at h3
   exact absurd h3 (h _ (cW hk))
theorem rU {l:List aR} {f m:Int}:aX l f m<0↔ ∀x∈l,¬(x.frm=f∧x.num=m):=⟨fun h x hx=>vA h hx,aJm⟩
theorem oU {l:List bQ} {f m:Int}:fW l f m<0↔ ∀x∈l,¬(x.frm=f∧x.num=m):=⟨fun h x hx=>yT h hx,aOc⟩
theorem aJn {l:List aR} {f m:Int} (h:0≤aX l f m): (aX l f m).toNat<l.length∧(l.getD (aX l f m).toNat .zero).frm=f∧(l.getD (aX l f m).toNat .zero).num=m:=by
 rcases gT (mU l f m) l.length 0 with h1|⟨k,h1,_,h2,h3,_⟩
 · rw[aX,h1] at h;omega
 · have e:aX l f m=k:=h1
   unfold mU at h3
   simp only[aU7,beq_iff_eq] at h3
   rw[e,aU4]
   exact⟨by omega,h3⟩
section
variable {α:Type}
theorem wx {p:α→Bool} {n x:α} {l:List α}:x∈pX p n l↔x=n∨x∈l:=by
 unfold pX
 rw[List.mem_append,aVm]
 conv=>rhs;rw[← List.takeWhile_append_dropWhile (p:=p) (l:=l)]
 rw[List.mem_append]
 constructor
 · rintro(h|h|h)<;>simp[h]
 · rintro(h|h|h)<;>simp[h]
def qy (lt:α→α→Prop) (l:List α):Prop:=l.Pairwise lt
theorem aIj {lt:α→α→Prop} (irr: ∀a,¬lt a a) (tr: ∀a b c,lt a b→lt b c→lt a c): ∀{l m:List α},qy lt l→qy lt m→(∀x,x∈l↔x∈m)→l=m
 | [],[],_,_,_=>rfl
 | [],b::m,_,_,h=>by have:=(h b).2 (List.mem_cons_self ..);cases this
 |a::l,[],_,_,h=>by have:=(h a).1 (List.mem_cons_self ..);cases this
 |a::l,b::m,h1,h2,h=>by
  have h1':=List.pairwise_cons.1 h1
  have h2':=List.pairwise_cons.1 h2
  have hab:a=b:=by
   rcases aVm.1 ((h a).1 (List.mem_cons_self ..)) with e|e
   · exact e
   · rcases aVm.1 ((h b).2 (List.mem_cons_self ..)) with e2|e2
     · exact e2.symm
     · exact absurd (tr _ _ _ (h1'.1 b e2) (h2'.1 a e)) (irr a)
  subst hab
  rw[aIj irr tr h1'.2 h2'.2 fun x=> ?_]
  constructor
  · intro hx
    rcases aVm.1 ((h x).1 (List.mem_cons_of_mem _ hx)) with e|e
    · subst e;exact absurd (h1'.1 x hx) (irr x)
    · exact e
  · intro hx
    rcases aVm.1 ((h x).2 (List.mem_cons_of_mem _ hx)) with e|e
    · subst e;exact absurd (h2'.1 x hx) (irr x)
    · exact e
theorem wy {lt:α→α→Prop} {p:α→Bool} {n:α} (tr: ∀a b c,lt a b→lt b c→lt a c) (hp: ∀a,p a=true→lt a n): ∀{l:List α},qy lt l→(∀a∈l,p a=false→lt n a)→qy lt (pX p n l)
 | [],_,_=>List.pairwise_singleton _ _
 |a::l,h,hq=>by
  have h':=List.pairwise_cons.1 h
  unfold pX
  by_cases e:p a=true
  · rw[List.takeWhile_cons_of_pos e,List.dropWhile_cons_of_pos e]
    have ih:=wy tr hp h'.2 fun b hb=>hq b (List.mem_cons_of_mem _ hb)
    refine List.pairwise_cons.2 ⟨fun x hx=> ?_,ih⟩
    rcases wx.1 hx with rfl|hx
    · exact hp a e
    · exact h'.1 x hx
  · rw[List.takeWhile_cons_of_neg e,List.dropWhile_cons_of_neg e]
    have hna:=hq a (List.mem_cons_self ..) (by simpa using e)
    refine List.pairwise_cons.2 ⟨fun x hx=> ?_,h⟩
    rcases aVm.1 hx with rfl|hx
    · exact hna
    · exact tr _ _ _ hna (h'.1 x hx)
theorem re {l:List α} {i:Nat} {x:α} (h:x∈dN l i): ∃j,j≠i∧l[j]? =some x:=by
 unfold dN at h
 rcases List.mem_append.1 h with h|h
 · obtain⟨j,hj⟩:=aVp.1 h
   rw[List.getElem?_take] at hj
   split at hj
   · exact⟨j,by omega,hj⟩
   · cases hj
 · obtain⟨j,hj⟩:=aVp.1 h
   rw[List.getElem?_drop] at hj
   exact⟨i+1+j,by omega,hj⟩
theorem aQa {lt:α→α→Prop} {l:List α} (h:qy lt l) (i:Nat):qy lt (dN l i):=h.sublist (by
 unfold dN
 conv=>rhs;rw[← List.take_append_drop i l]
 exact List.Sublist.append (List.Sublist.refl _) (by rw[← List.drop_drop];exact List.drop_sublist _ _))
end
def ltN (a b:aR):Prop:=bY a.frm a.num b.frm b.num=true
def ltM (a b:bQ):Prop:=bY a.frm a.num b.frm b.num=true
theorem gy {a b c d:Int}:bY a b c d=true↔a<c∨a=c∧b<d:=by simp[bY]
theorem zM {a b:Int}: ¬bY a b a b=true:=by rw[gy];omega
theorem uK {a b c d e f:Int} (h1:bY a b c d=true) (h2:bY c d e f=true):bY a b e f=true:=by rw[gy] at *; omega
theorem wz {a b c d:Int} (h: ¬(a=c∧b=d)) (h1:bY a b c d=false):bY c d a b=true:=by
 have: ¬bY a b c d=true:=by rw[h1];simp
 rw[gy] at *; omega
theorem aFn {l:List aR}:jP l=true↔(∀x∈l,eD x=true)∧qy ltN l:=by
 constructor
 · intro h
   refine⟨fun x hx=>lT h hx,?_⟩
   have hs: ∀i,i+1<l.length→ltN (l.getD i .zero) (l.getD (i+1) .zero):=fun i hi=>by
    have h1:=aVi.1 h (i+1) (List.mem_range.2 hi)
    unfold lI at h1
    simp only[aU7,Bool.or_eq_true,beq_iff_eq] at h1
    rcases h1.2 with h2|h2
    · omega
    · exact h2
   have key: ∀d i,i+d+1<l.length→ltN (l.getD i .zero) (l.getD (i+d+1) .zero):=by
    intro d
    induction d with
    |zero=>intro i hi;exact hs i hi
    |succ d ih=>intro i hi;exact uK (ih i (by omega)) (hs _ (by omega))
   refine List.pairwise_iff_getElem.2 fun i j hi hj hij=> ?_
   have:=key (j - i - 1) i (by omega)
   rw[show i+(j - i - 1)+1=j by omega,aVb,aVb,aVd hi,aVd hj] at this
   exact this
 · rintro⟨h1,h2⟩
   refine aVi.2 fun i hi=> ?_
   have hi:=List.mem_range.1 hi
   unfold lI
   simp only[aU7,Bool.or_eq_true,beq_iff_eq]
   refine⟨h1 _ (cW hi),?_⟩
   by_cases e:i=0
   · exact .inl e
   · refine .inr ?_
     have:=List.pairwise_iff_getElem.1 h2 (i - 1) i (by omega) hi (by omega)
     rw[aVb,aVb,aVd hi,aVd (by omega)]
     exact this
theorem aFo {l:List bQ}:nV l=true↔(∀x∈l,jO x=true)∧qy ltM l:=by
 constructor
 · intro h
   refine⟨fun x hx=>sQ h hx,?_⟩
   have hs: ∀i,i+1<l.length→ltM (l.getD i .zero) (l.getD (i+1) .zero):=fun i hi=>by
    have h1:=aVi.1 h (i+1) (List.mem_range.2 hi)
    unfold mH at h1
    simp only[aU7,Bool.or_eq_true,beq_iff_eq] at h1
    rcases h1.2 with h2|h2
    · omega
    · exact h2
   have key: ∀d i,i+d+1<l.length→ltM (l.getD i .zero) (l.getD (i+d+1) .zero):=by
    intro d
    induction d with
    |zero=>intro i hi;exact hs i hi
    |succ d ih=>intro i hi;exact uK (ih i (by omega)) (hs _ (by omega))
   refine List.pairwise_iff_getElem.2 fun i j hi hj hij=> ?_
   have:=key (j - i - 1) i (by omega)
   rw[show i+(j - i - 1)+1=j by omega,aVb,aVb,aVd hi,aVd hj] at this
   exact this
 · rintro⟨h1,h2⟩
   refine aVi.2 fun i hi=> ?_
   have hi:=List.mem_range.1 hi
   unfold mH
   simp only[aU7,Bool.or_eq_true,beq_iff_eq]
   refine⟨h1 _ (cW hi),?_⟩
   by_cases e:i=0
   · exact .inl e
   · refine .inr ?_
     have:=List.pairwise_iff_getElem.1 h2 (i - 1) i (by omega) hi (by omega)
     rw[aVb,aVb,aVd hi,aVd (by omega)]
     exact this
theorem rg {l:List aR} (h:qy ltN l) {i j:Nat} {x y:aR} (hi:l[i]? =some x) (hj:l[j]? =some y) (e:x.frm=y.frm∧x.num=y.num):i=j:=by
 obtain⟨hi1,hi2⟩:=aVe.1 hi
 obtain⟨hj1,hj2⟩:=aVe.1 hj
 rcases Nat.lt_trichotomy i j with h1|h1|h1
 · have:=List.pairwise_iff_getElem.1 h i j hi1 hj1 h1
   rw[hi2,hj2,ltN,e.1,e.2] at this
   exact absurd this zM
 · exact h1
 · have:=List.pairwise_iff_getElem.1 h j i hj1 hi1 h1
   rw[hi2,hj2,ltN,e.1,e.2] at this
   exact absurd this zM
theorem aFp {l:List aR} (h:qy ltN l) {f m:Int} (hp:0≤aX l f m):aX (dN l (aX l f m).toNat) f m<0:=aJm fun x hx e=>by
 obtain⟨h1,h2,h3⟩:=aJn hp
 obtain⟨j,hj,hjx⟩:=re hx
 refine hj (rg h hjx (y:=l.getD (aX l f m).toNat .zero) ?_ ⟨by rw[e.1,h2],by rw[e.2,h3]⟩)
 rw[aVb,aVd h1];rfl
theorem iH {k:aL}:cO k=true↔(eC k.id=true∧(0≤k.time∧k.time≤999)∧(1≤k.next∧k.next≤100)∧k.held.length≤6∧k.marks.length≤12∧k.inbox.length≤6)∧
 ((∀x∈k.held,eD x=true)∧qy ltN k.held)∧((∀x∈k.marks,jO x=true)∧qy ltM k.marks)∧((∀x∈k.inbox,eD x=true)∧qy ltN k.inbox)∧
 (∀n∈k.held,¬(n.frm=k.id∧k.next≤n.num)∧k.time<n.til∧bf k.id n=true∧fW k.marks n.frm n.num<0)∧
 (∀m∈k.marks,¬(m.frm=k.id∧k.next≤m.num)∧k.time<m.til)∧
 (∀n∈k.inbox,¬(n.frm=k.id∧k.next≤n.num)∧n.to=k.id∧ ¬(k.time<n.til∧fW k.marks n.frm n.num<0)):=by
 have key: ∀{α:Type} {z:α} {l:List α} {P:Nat→Bool} {R:α→Prop},(∀i,P i=true↔R (l.getD i z))→((aVh l.length).all P=true↔ ∀x∈l,R x):=by
  intro α z l P R h
  constructor
  · intro h1 x hx
    obtain⟨i,hi⟩:=aVp.1 hx
    have hlt:=(aVe.1 hi).1
    have:=(h i).1 (aVi.1 h1 i (List.mem_range.2 hlt))
    rw[aVb,hi] at this
    exact this
  · intro h1
    exact aVi.2 fun i hi=>(h i).2 (h1 _ (cW (List.mem_range.1 hi)))
 unfold cO
 simp only[aU7,aFn,aFo,decide_eq_true_eq,iB]
 rw[key (z:=aR.zero) (l:=k.held) (P:=rI k) (R:=fun n=> ¬(n.frm=k.id∧k.next≤n.num)∧k.time<n.til∧bf k.id n=true∧fW k.marks n.frm n.num<0) (fun i=>by
  unfold rI
  simp only[aU7,Bool.not_eq_true',Bool.and_eq_false_iff,beq_eq_false_iff_ne,decide_eq_true_eq,decide_eq_false_iff_not]
  constructor
  · rintro⟨⟨⟨h1,h2⟩,h3⟩,h4⟩;exact⟨fun h=>by rcases h1 with h1|h1;exact h1 h.1;exact h1 h.2,h2,h3,h4⟩
  · rintro⟨h1,h2,h3,h4⟩;exact⟨⟨⟨by by_cases e: (k.held.getD i aR.zero).frm=k.id;exact .inr fun h=>h1 ⟨e,h⟩;exact .inl e,h2⟩,h3⟩,h4⟩),
  key (z:=bQ.zero) (l:=k.marks) (P:=uU k) (R:=fun m=> ¬(m.frm=k.id∧k.next≤m.num)∧k.time<m.til) (fun i=>by
   unfold uU
   simp only[aU7,Bool.not_eq_true',Bool.and_eq_false_iff,beq_eq_false_iff_ne,decide_eq_true_eq,decide_eq_false_iff_not]
   constructor
   · rintro⟨h1,h2⟩;exact⟨fun h=>by rcases h1 with h1|h1;exact h1 h.1;exact h1 h.2,h2⟩
   · rintro⟨h1,h2⟩;exact⟨by by_cases e: (k.marks.getD i bQ.zero).frm=k.id;exact .inr fun h=>h1 ⟨e,h⟩;exact .inl e,h2⟩),
  key (z:=aR.zero) (l:=k.inbox) (P:=sA k) (R:=fun n=> ¬(n.frm=k.id∧k.next≤n.num)∧n.to=k.id∧ ¬(k.time<n.til∧fW k.marks n.frm n.num<0)) (fun i=>by
   unfold sA
   simp only[aU7,Bool.not_eq_true',Bool.and_eq_false_iff,beq_eq_false_iff_ne,decide_eq_true_eq,decide_eq_false_iff_not,beq_iff_eq]
   constructor
   · rintro⟨⟨h1,h2⟩,h3⟩;exact⟨fun h=>by rcases h1 with h1|h1;exact h1 h.1;exact h1 h.2,h2,fun h=>by rcases h3 with h3|h3;exact h3 h.1;exact h3 h.2⟩
   · rintro⟨h1,h2,h3⟩;exact⟨⟨by by_cases e: (k.inbox.getD i aR.zero).frm=k.id;exact .inr fun h=>h1 ⟨e,h⟩;exact .inl e,h2⟩,by by_cases e:k.time< (k.inbox.getD i aR.zero).til;exact .inr fun h=>h3 ⟨e,h⟩;exact .inl e⟩)]
 constructor
 · rintro⟨⟨⟨⟨⟨⟨⟨⟨⟨⟨⟨a1,a2⟩,a3⟩,a4⟩,a5⟩,a6⟩,a7⟩,a8⟩,a9⟩,b1⟩,b2⟩,b3⟩;exact⟨⟨a1,a2,a3,a4,a5,a6⟩,a7,a8,a9,b1,b2,b3⟩
 · rintro⟨⟨a1,a2,a3,a4,a5,a6⟩,a7,a8,a9,b1,b2,b3⟩;exact⟨⟨⟨⟨⟨⟨⟨⟨⟨⟨⟨a1,a2⟩,a3⟩,a4⟩,a5⟩,a6⟩,a7⟩,a8⟩,a9⟩,b1⟩,b2⟩,b3⟩
theorem dz {l:List aR} (h:qy ltN l) {n:aR} (hn:aX l n.frm n.num<0):qy ltN (eY l n):=
 wy (lt:=ltN) (fun _ _ _ h1 h2=>uK h1 h2) (fun a h=>h) h fun a ha h=>wz (fun e=>rU.1 hn a ha e) h
theorem ec {l:List bQ} (h:qy ltM l) {n:bQ} (hn:fW l n.frm n.num<0):qy ltM (dQ l n):=
 wy (lt:=ltM) (fun _ _ _ h1 h2=>uK h1 h2) (fun a h=>h) h fun a ha h=>wz (fun e=>oU.1 hn a ha e) h
theorem aQb {l m:List aR} (h1:qy ltN l) (h2:qy ltN m) (h: ∀x,x∈l↔x∈m):l=m:=aIj (lt:=ltN) (fun a h=>zM h) (fun _ _ _ h1 h2=>uK h1 h2) h1 h2 h
theorem aQc {l m:List bQ} (h1:qy ltM l) (h2:qy ltM m) (h: ∀x,x∈l↔x∈m):l=m:=aIj (lt:=ltM) (fun a h=>zM h) (fun _ _ _ h1 h2=>uK h1 h2) h1 h2 h
theorem eH {l:List aR} {n x:aR}:x∈eY l n↔x=n∨x∈l:=wx
theorem eP {l:List bQ} {n x:bQ}:x∈dQ l n↔x=n∨x∈l:=wx
set_option linter.unusedSimpArgs false
theorem aIk {k:aL} {x:aL×Bool} (h1:x.2=true) (h2:cO x.1=true):kD k x=(x.1,true):=by
 unfold kD;rw[if_pos (by rw[h1,h2];rfl)]
theorem pz {k:aL} {rec:List UInt8} (hk:cO k=true) (h1: (eA k rec).2=true) (h2:cO (eA k rec).1=true):aO k rec=((eA k rec).1,true):=by
 rw[oA hk,aIk h1 h2]
theorem lj {k:aL} {rec:List UInt8} (hk:cO k=true) (h1: (eA k rec).2=false): (aO k rec).2=false:=by
 rw[oA hk,aA2 h1]
theorem vI {k:aL} {n:aR} (h: (dW k n).2=true): (nH k n=true∧(k.held.length:Int)+k.marks.length+1≤12)∧
 (dW k n).1=if n.to==k.id then{k with inbox:=eY k.inbox n,marks:=dQ k.marks ⟨n.frm,n.num,n.til⟩} else{k with held:=eY k.held n}:=by
 unfold dW at h ⊢
 split at h
 · rename_i hx
   rw[if_pos hx]
   simp only[aU7,decide_eq_true_eq] at hx
   exact⟨hx,rfl⟩
 · cases h
theorem nR {k:aL} {n:aR} (h:nH k n=true):eD n=true∧k.time<n.til∧aX k.held n.frm n.num<0∧aX k.inbox n.frm n.num<0∧fW k.marks n.frm n.num<0:=by
 unfold nH at h
 simp only[aU7,decide_eq_true_eq] at h
 exact⟨h.1.1.1.1,h.1.1.1.2,h.1.1.2,h.1.2,h.2⟩
theorem aL0 {k:aL} {n:aR} (h:0≤aX k.held n.frm n.num∨0≤aX k.inbox n.frm n.num):dW k n=(k,false):=by
 unfold dW
 rw[if_neg]
 intro h1
 simp only[aU7] at h1
 obtain⟨_,_,h3,h4,_⟩:=nR h1.1
 omega
theorem lk {k:aL} {n:aR} (h: (dW k n).2=true):0≤aX (dW k n).1.held n.frm n.num∨0≤aX (dW k n).1.inbox n.frm n.num:=by
 obtain⟨_,e⟩:=vI h
 rw[e]
 split
 · exact .inr (ww (eH.2 (.inl rfl)))
 · exact .inl (ww (eH.2 (.inl rfl)))
theorem aIl {k:aL} {w:List UInt8} {n:Int} (h: (kM k w n).2=true): (kM (kM k w n).1 w n).2=false:=by
 unfold kM at h ⊢
 by_cases h1: (w==hG&&decide (k.time<n))=true
 · rw[if_pos h1]
   simp only[aU7,beq_iff_eq] at h1
   obtain⟨rfl,_⟩:=h1
   rw[if_neg (by simp[iV]),if_neg (by rw[show(hG==iO)=false by decide];simp)]
 · rw[if_neg h1] at h ⊢
   by_cases h2: (w==iO&&decide (k.next<n))=true
   · rw[if_pos h2]
     simp only[aU7,beq_iff_eq] at h2
     obtain⟨rfl,_⟩:=h2
     rw[if_neg (by rw[show(iO==hG)=false by decide];simp),if_neg (by simp)]
   · rw[if_neg h2] at h;cases h
theorem aIm (k:aL) (n:aR): (dW k n).1.id=k.id:=by
 unfold dW
 repeat' split
 all_goals rfl
theorem aFq {k:aL} (hn:1≤k.next∧k.next≤100) {w:List UInt8} {n:aR} (h: (dX k w n).2=true): (dX (dX k w n).1 w n).2=false:=by
 have hno: ∀{x:aL},0≤aX x.held n.frm n.num∨0≤aX x.inbox n.frm n.num→(w==fS&&n.frm==x.id&&n.num==x.next)=false→(dX x w n).2=false:=by
  intro x hx hw
  unfold dX
  rw[if_neg (by rw[hw];simp)]
  split
  · rw[aL0 hx]
  · rw[if_pos (by simpa using hx)]
 unfold dX at h
 split at h
 · rename_i h1
   have e:dX k w n=dW {k with next:=wrap64 (k.next+1)} n:=if_pos h1
   rw[e]
   refine hno (lk h) ?_
   simp only[aU7,beq_iff_eq] at h1
   rw[(xS _ _).2]
   show(_&&n.num==wrap64 (k.next+1))=false
   rw[aE (by omega),show(n.num==k.next+1)=false by rw[beq_eq_false_iff_ne];omega];simp
 · rename_i h1
   split at h
   · rename_i h2
     have e:dX k w n=dW k n:=(if_neg h1).trans (if_pos h2)
     rw[e]
     refine hno (lk h) ?_
     rw[aIm,(xS _ _).2];simpa using h1
   · rename_i h2
     split at h
     · cases h
     · rename_i h3
       split at h
       · rename_i h4
         have e:dX k w n=({k with held:=eY k.held n},true):=(if_neg h1).trans ((if_neg h2).trans ((if_neg h3).trans (if_pos h4)))
         rw[e]
         exact hno (.inl (ww (eH.2 (.inl rfl)))) (by simpa using h1)
       · rename_i h4
         split at h
         · rename_i h5
           have e:dX k w n=({k with inbox:=eY k.inbox n},true):=(if_neg h1).trans ((if_neg h2).trans ((if_neg h3).trans ((if_neg h4).trans (if_pos h5))))
           rw[e]
           exact hno (.inr (ww (eH.2 (.inl rfl)))) (by simpa using h1)
         · cases h
theorem aFr {k:aL} (hk:cO k=true) {w:List UInt8} {m:bQ} (h: (fY k w m).2=true): (fY (fY k w m).1 w m).2=false:=by
 obtain⟨_,⟨_,s1⟩,_,⟨_,s3⟩,_⟩:=iH.1 hk
 unfold fY at h
 split at h
 · rename_i h1
   have e:fY k w m=({k with held:=dN k.held (aX k.held m.frm m.num).toNat,marks:=dQ k.marks m},true):=if_pos h1
   rw[e]
   simp only[aU7,beq_iff_eq,decide_eq_true_eq] at h1
   obtain⟨⟨rfl,h2⟩,_⟩:=h1
   unfold fY
   rw[if_neg (by have:=aFp s1 h2;simp;intro h;omega),if_neg (by rw[show(iZ==lD)=false by decide];simp),if_neg (by rw[show(iZ==gV)=false by decide];simp)]
 · rename_i h1
   split at h
   · rename_i h2
     have e:fY k w m=({k with inbox:=dN k.inbox (aX k.inbox m.frm m.num).toNat},true):=(if_neg h1).trans (if_pos h2)
     rw[e]
     simp only[aU7,beq_iff_eq,decide_eq_true_eq] at h2
     obtain⟨⟨rfl,h3⟩,_⟩:=h2
     unfold fY
     rw[if_neg (by rw[show(lD==iZ)=false by decide];simp),if_neg (by have:=aFp s3 h3;simp;intro h;omega),if_neg (by rw[show(lD==gV)=false by decide];simp)]
   · rename_i h2
     split at h
     · rename_i h3
       have e:fY k w m=({k with marks:=dQ k.marks m},true):=(if_neg h1).trans ((if_neg h2).trans (if_pos h3))
       rw[e]
       simp only[aU7,beq_iff_eq,decide_eq_true_eq] at h3
       obtain⟨rfl,h4⟩:=h3
       unfold fY
       rw[if_neg (by rw[show(gV==iZ)=false by decide];simp),if_neg (by rw[show(gV==lD)=false by decide];simp),if_neg (by have:=aP9 (l:=dQ k.marks m) (eP.2 (.inl rfl));simp;omega)]
     · cases h
theorem aFs {k:aL} (hk:cO k=true) {rec:List UInt8} (h: (eA k rec).2=true): (eA (eA k rec).1 rec).2=false:=by
 obtain⟨⟨_,_,hn,_⟩,_⟩:=iH.1 hk
 unfold eA at h ⊢
 by_cases h0:fP rec=true
 · simp only[if_pos h0] at h ⊢
   by_cases h1: (bA rec==hG||bA rec==iO)=true
   · simp only[if_pos h1] at h ⊢
     by_cases h2: (kN (aN rec)).isSome=true
     · simp only[if_pos h2] at h ⊢; exact aIl h
     · simp only[if_neg h2] at h;cases h
   · simp only[if_neg h1] at h ⊢
     by_cases h2: (bA rec==fS||bA rec==dE||bA rec==gU||bA rec==fT)=true
     · simp only[if_pos h2] at h ⊢
       by_cases h3: (cC (aN rec)).2=true
       · simp only[if_pos h3] at h ⊢; exact aFq hn h
       · simp only[if_neg h3] at h;cases h
     · simp only[if_neg h2] at h ⊢
       by_cases h3: (bA rec==iZ||bA rec==lD||bA rec==gV)=true
       · simp only[if_pos h3] at h ⊢
         by_cases h4: (hO (cT (aN rec))&&(cT (aN rec)).length==3)=true
         · simp only[if_pos h4] at h ⊢; exact aFr hk h
         · simp only[if_neg h4] at h;cases h
       · simp only[if_neg h3] at h;cases h
 · simp only[if_neg h0] at h;cases h
theorem aFt {k:aL} {rec:List UInt8} (h: (aO k rec).2=true): (aO (aO k rec).1 rec).2=false:=by
 obtain⟨hk,h1,h2,h3⟩:=nQ h
 rw[h2]
 exact lj h3 (aFs hk h1)
theorem aFu {k:aL} {rec:List UInt8} (h: (eA k rec).2=true) (ht: (eA k rec).1.time≠k.time): (eA k rec).1=iV k (eA k rec).1.time:=by
 unfold eA at h ht ⊢
 by_cases h0:fP rec=true
 · simp only[if_pos h0] at h ht ⊢
   by_cases h1: (bA rec==hG||bA rec==iO)=true
   · simp only[if_pos h1] at h ht ⊢
     by_cases h2: (kN (aN rec)).isSome=true
     · simp only[if_pos h2] at h ht ⊢
       unfold kM at h ht ⊢
       split
       · rfl
       · rename_i h3
         rw[if_neg h3] at ht
         split at ht
         · exact absurd rfl ht
         · exact absurd rfl ht
     · simp only[if_neg h2] at h;cases h
   · simp only[if_neg h1] at h ht ⊢
     by_cases h2: (bA rec==fS||bA rec==dE||bA rec==gU||bA rec==fT)=true
     · simp only[if_pos h2] at h ht ⊢
       by_cases h3: (cC (aN rec)).2=true
       · simp only[if_pos h3] at ht
         exfalso;apply ht
         unfold dX
         split
         · exact(xS _ _).1
         · split
           · exact(xS _ _).1
           · repeat' split
             all_goals rfl
       · simp only[if_neg h3] at h;cases h
     · simp only[if_neg h2] at h ht ⊢
       by_cases h3: (bA rec==iZ||bA rec==lD||bA rec==gV)=true
       · simp only[if_pos h3] at h ht ⊢
         by_cases h4: (hO (cT (aN rec))&&(cT (aN rec)).length==3)=true
         · simp only[if_pos h4] at ht
           exfalso;apply ht
           unfold fY
           repeat' split
           all_goals rfl
         · simp only[if_neg h4] at h;cases h
       · simp only[if_neg h3] at h;cases h
 · simp only[if_neg h0] at h;cases h
theorem aFv {k:aL} {rec:List UInt8} (h: (aO k rec).2=true) (ht: (aO k rec).1.time≠k.time): (aO k rec).1=iV k (aO k rec).1.time:=by
 obtain⟨hk,h1,h2,h3⟩:=nQ h
 rw[h2] at ht ⊢
 exact aFu h1 ht
theorem aFw {k:aL} (h: (aO k (jS 999)).2=true): (aO k (jS 999)).1.held=[]∧(aO k (jS 999)).1.marks=[]∧(aO k (jS 999)).1.inbox=k.inbox:=by
 obtain⟨hk,h1,h2,h3⟩:=nQ h
 rw[h2]
 rw[uv k (by omega)] at h1 h3 ⊢
 unfold kM at h1 h3 ⊢
 split at h1
 · rename_i h4
   rw[if_pos h4] at h3 ⊢
   have:=aLz h3 (Int.le_refl _)
   exact⟨this.1,this.2,rfl⟩
 · rename_i h4
   rw[if_neg (by rw[show(hG==iO)=false by decide];simp)] at h1
   cases h1
theorem aIn {k:aL} {n:aR} (hf:n.frm=k.id) (hm:n.num=k.next) (ht: (n.to==k.id)=false) (h: (aO k (cI fS n)).2=true):
 (aO k (cI fS n)).1.next=k.next+1∧n∈(aO k (cI fS n)).1.held∧ ∀n2:aR,n2.frm=k.id→n2.num≠k.next+1→(aO (aO k (cI fS n)).1 (cI fS n2)).2=false:=by
 obtain⟨hk,h1,h2,h3⟩:=nQ h
 obtain⟨⟨_,_,hn,_⟩,_⟩:=iH.1 hk
 rw[h2]
 have hr:=gw (k:=k) (w:=fS) (n:=n) (by decide) rfl rfl
 rw[hr] at h1 h3 ⊢
 split at h1
 · rename_i hok
   rw[if_pos hok] at h3 ⊢
   have e:dX k fS n=dW {k with next:=wrap64 (k.next+1)} n:=by
    unfold dX
    rw[if_pos (by rw[hf,hm];simp)]
   rw[e] at h1 h3 ⊢
   obtain⟨_,q2⟩:=vI h1
   have hx: (dW {k with next:=wrap64 (k.next+1)} n).1.next=k.next+1:=by rw[(xS _ _).2];exact aE (by omega)
   refine⟨hx,?_,fun n2 hf2 hm2=> ?_⟩
   · rw[q2,if_neg (by rw[show(n.to==k.id)=false from ht];simp)]
     exact eH.2 (.inl rfl)
   · refine lj h3 ?_
     rw[gw (w:=fS) (by decide) rfl rfl]
     split
     · unfold dX
       rw[hx,if_neg (by simp;exact fun _=>hm2),if_neg (by rw[show(fS==dE)=false by decide];simp)]
       split
       · rfl
       · rw[if_neg (by decide),if_neg (by decide)]
     · rfl
 · cases h1
theorem nx {rec:List UInt8} (h5:5≤rec.length) (h:rec.take 5=[116,97,107,101,32]):rec=dE++32::rec.drop 5:=by
 conv=>lhs;rw[← List.take_append_drop 5 rec,h]
 rfl
theorem cq {k:aL} {r:List UInt8} (h: (aO k (dE++32::r)).2=true):cO k=true∧(cC r).2=true∧(cC r).1.frm≠k.id∧(dW k (cC r).1).2=true∧(aO k (dE++32::r)).1=(dW k (cC r).1).1∧cO (dW k (cC r).1).1=true:=by
 obtain⟨hk,h1,h2,h3⟩:=nQ h
 obtain⟨q1,q2,q3⟩:=lL (w:=dE) (r:=r) (by decide)
 by_cases hr: (cC r).2=true
 · rw[dn q3 (by rw[q1];rfl) (by rw[q1];rfl) (by rw[q2];exact hr),q1,q2] at h1 h2 h3
   by_cases hid: (cC r).1.frm=k.id
   · exfalso
     unfold dX at h1
     rw[if_neg (by rw[show(dE==fS)=false by decide];simp),if_neg (by simp[hid])] at h1
     split at h1
     · cases h1
     · rw[if_neg (by decide),if_neg (by decide)] at h1;cases h1
   · have e:dX k dE (cC r).1=dW k (cC r).1:=by
      unfold dX
      rw[if_neg (by rw[show(dE==fS)=false by decide];simp),if_pos (by simp[hid])]
     rw[e] at h1 h2 h3
     exact⟨hk,hr,hid,h1,h2,h3⟩
 · rw[pA q3 (by rw[q1];rfl) (by rw[q1];rfl) (by rw[q2];simpa using hr)] at h1
   cases h1
theorem aIo {k:aL} {n:aR} (h: (dW k n).2=true): (n.to=k.id→n∈(dW k n).1.inbox∧n∉ (dW k n).1.held∧(⟨n.frm,n.num,n.til⟩:bQ)∈(dW k n).1.marks)∧
 (n.to≠k.id→n∉ (dW k n).1.inbox∧n∈(dW k n).1.held∧ ∀m∈(dW k n).1.marks,¬(m.frm=n.frm∧m.num=n.num)):=by
 obtain⟨⟨q1,_⟩,q2⟩:=vI h
 obtain⟨_,_,q3,q4,q5⟩:=nR q1
 rw[q2]
 constructor
 · intro e
   rw[if_pos (by simp[e])]
   exact⟨eH.2 (.inl rfl),fun hm=>vA q3 hm ⟨rfl,rfl⟩,eP.2 (.inl rfl)⟩
 · intro e
   rw[if_neg (by simp[e])]
   exact⟨fun hm=>vA q4 hm ⟨rfl,rfl⟩,eH.2 (.inl rfl),fun m hm=>yT q5 hm⟩
set_option linter.unusedSimpArgs false
theorem aIp (k:aL) {w:List UInt8} {m:bQ} (hm:jO m=true) (hw: ∀b∈w,b≠32) (h1: (w==hG||w==iO)=false) (h2: (w==fS||w==dE||w==gU||w==fT)=false) (h3: (w==iZ||w==lD||w==gV)=true):eA k (iK w m)=fY k w m:=by
 have e:iK w m=w++32::vT m:=by simp[iK,vT]
 obtain⟨q1,q2,q3⟩:=lL (w:=w) (r:=vT m) hw
 obtain⟨l1,l2,l3,_⟩:=aAo hm
 rw[e,aAj q3 (by rw[q1];exact h1) (by rw[q1];exact h2) (by rw[q1];exact h3) (by rw[q2,l1,l2];rfl),q1,q2,l3]
theorem getD_some {α:Type} {l:List α} {i:Nat} {z:α} (h:i<l.length):l[i]? =some (l.getD i z):=by
 rw[aVb,aVd h];rfl
theorem aTc {l:List aR} (h:qy ltN l) {i:Nat} (hi:i<l.length):aX l (l.getD i .zero).frm (l.getD i .zero).num=i:=by
 have h0:=ww (l:=l) (cW (z:=aR.zero) hi)
 obtain⟨h1,h2,h3⟩:=aJn h0
 have: (aX l (l.getD i .zero).frm (l.getD i .zero).num).toNat=i:=rg h (getD_some h1) (getD_some hi) ⟨h2,h3⟩
 omega
def fA (n:aR):bQ:=⟨n.frm,n.num,n.til⟩
theorem ny {n:aR} (h:eD n=true):jO (fA n)=true:=by
 unfold eD at h
 unfold jO fA
 simp only[aU7] at h ⊢
 exact⟨⟨h.1.1.1.1,h.1.1.2⟩,h.1.2⟩
theorem rh {l m:List bQ} {f n:Int} (h:fW m f n<0) (hs: ∀x∈l,x∈m):fW l f n<0:=oU.2 fun x hx=>oU.1 h x (hs x hx)
theorem aJo {l m:List aR} {f n:Int} (h:aX m f n<0) (hs: ∀x∈l,x∈m):aX l f n<0:=rU.2 fun x hx=>rU.1 h x (hs x hx)
theorem aCy {α:Type} {l:List α} {i:Nat} (h:i<l.length): (dN l i).length+1=l.length:=by
 unfold dN
 rw[aU5,aVc,aVk];omega
theorem aIq {k:aL} (hk:cO k=true) (hc:k.held.length+k.marks.length≤12) {i:Nat} (hi:i<k.held.length):
 aO k (iK iZ (fA (k.held.getD i .zero)))=({k with held:=dN k.held i,marks:=dQ k.marks (fA (k.held.getD i .zero))},true):=by
 obtain⟨⟨p1,p2,p3,p4,p5,p6⟩,⟨n1,s1⟩,⟨n2,s2⟩,⟨n3,s3⟩,c1,c2,c3⟩:=iH.1 hk
 have hm:=cW (z:=aR.zero) hi
 have ho:=n1 _ hm
 have hat:=aTc s1 hi
 obtain⟨d1,d2,d3,d4⟩:=c1 _ hm
 have hd:fY k iZ (fA (k.held.getD i .zero))=({k with held:=dN k.held i,marks:=dQ k.marks (fA (k.held.getD i .zero))},true):=by
  unfold fY
  rw[show(fA (k.held.getD i .zero)).frm=(k.held.getD i .zero).frm from rfl,show(fA (k.held.getD i .zero)).num=(k.held.getD i .zero).num from rfl,hat,aU4]
  rw[if_pos (by simp[fA])]
 have hr:=aIp k (w:=iZ) (ny ho) (by decide) rfl rfl rfl
 rw[hd] at hr
 rw[pz hk (by rw[hr]) ?_,hr]
 rw[hr]
 have hl:=aCy hi
 refine iH.2 ⟨⟨p1,p2,p3,by show(dN _ _).length≤6;omega,?_,p6⟩,⟨fun x hx=>n1 x ?_,aQa s1 i⟩,⟨fun x hx=> ?_,ec s2 d4⟩,⟨n3,s3⟩,fun n hn=> ?_,fun m hm2=> ?_,fun n hn=> ?_⟩
 · show(dQ _ _).length≤12
   rw[xL,eQ];omega
 · obtain⟨j,_,hj⟩:=re hx
   exact aVp.2 ⟨j,hj⟩
 · rcases eP.1 hx with rfl|hx
   · exact ny ho
   · exact n2 x hx
 · obtain⟨j,hj,hjn⟩:=re hn
   obtain⟨e1,e2,e3,e4⟩:=c1 n (aVp.2 ⟨j,hjn⟩)
   refine⟨e1,e2,e3,oU.2 fun x hx e=> ?_⟩
   rcases eP.1 hx with rfl|hx
   · exact hj (rg s1 (y:=k.held.getD i .zero) hjn (by rw[aVb,aVd hi];rfl) ⟨e.1.symm,e.2.symm⟩)
   · exact oU.1 e4 x hx e
 · rcases eP.1 hm2 with rfl|hm2
   · exact⟨d1,d2⟩
   · exact c2 m hm2
 · obtain⟨e1,e2,e3⟩:=c3 n hn
   exact⟨e1,e2,fun h=>e3 ⟨h.1,rh h.2 fun x hx=>eP.2 (.inr hx)⟩⟩
theorem aOe {k:aL} (hk:cO k=true) {i:Nat} (hi:i<k.held.length):k.held.getD i .zero∉dN k.held i:=by
 obtain⟨_,⟨_,s1⟩,_⟩:=iH.1 hk
 intro h
 obtain⟨j,hj,hjn⟩:=re h
 exact hj (rg s1 (y:=k.held.getD i .zero) hjn (by rw[aVb,aVd hi];rfl) ⟨rfl,rfl⟩)
def tk (k:aL) (n:aR):aL:=if n.to==k.id then{k with inbox:=eY k.inbox n,marks:=dQ k.marks ⟨n.frm,n.num,n.til⟩} else{k with held:=eY k.held n}
theorem cr {k:aL} {n:aR} (h:n.to=k.id):tk k n={k with inbox:=eY k.inbox n,marks:=dQ k.marks ⟨n.frm,n.num,n.til⟩}:=if_pos (by simp[h])
theorem ct {k:aL} {n:aR} (h:n.to≠k.id):tk k n={k with held:=eY k.held n}:=if_neg (by simp[h])
theorem nz {k:aL} {n:aR} (h1:nH k n=true) (h2: (k.held.length:Int)+k.marks.length+1≤12):dW k n=(tk k n,true):=by
 unfold dW
 rw[if_pos (by rw[h1,decide_eq_true h2];rfl)];rfl
theorem aFx {k:aL} {n:aR} (h1:eD n=true) (h2:k.time<n.til) (h3:aX k.held n.frm n.num<0) (h4:aX k.inbox n.frm n.num<0) (h5:fW k.marks n.frm n.num<0):nH k n=true:=by
 unfold nH
 rw[h1,decide_eq_true h2,decide_eq_true h3,decide_eq_true h4,decide_eq_true h5];rfl
theorem pC {l:List aR} {n:aR}: (eY l n).length=l.length+1:=by rw[xK,eQ]
theorem vJ {l:List bQ} {n:bQ}: (dQ l n).length=l.length+1:=by rw[xL,eQ]
theorem xa (k:aL) (n:aR): (tk k n).id=k.id∧(tk k n).time=k.time∧(tk k n).next=k.next∧(tk k n).held.length+(tk k n).marks.length=k.held.length+k.marks.length+1∧k.held.length≤(tk k n).held.length∧k.marks.length≤(tk k n).marks.length∧k.inbox.length≤(tk k n).inbox.length∧
 (∀x∈k.held,x∈(tk k n).held)∧(∀x∈k.marks,x∈(tk k n).marks)∧(∀x∈k.inbox,x∈(tk k n).inbox)∧(n∈(tk k n).held∨n∈(tk k n).inbox)∧(∀x∈(tk k n).held,x∈k.held∨x=n)∧(∀x∈(tk k n).inbox,x∈k.inbox∨x=n)∧(∀x∈(tk k n).marks,x∈k.marks∨(x.frm=n.frm∧x.num=n.num)):=by
 by_cases h:n.to=k.id
 · rw[cr h]
   refine⟨rfl,rfl,rfl,?_,aVf _,?_,?_,fun x hx=>hx,fun x hx=>eP.2 (.inr hx),fun x hx=>eH.2 (.inr hx),.inr (eH.2 (.inl rfl)),fun x hx=> .inl hx,fun x hx=> ?_,fun x hx=> ?_⟩
   · show k.held.length+(dQ _ _).length=_;rw[vJ];omega
   · show _≤(dQ _ _).length;rw[vJ];omega
   · show _≤(eY _ _).length;rw[pC];omega
   · rcases eH.1 hx with h|h
     · exact .inr h
     · exact .inl h
   · rcases eP.1 hx with rfl|h
     · exact .inr ⟨rfl,rfl⟩
     · exact .inl h
 · rw[ct h]
   refine⟨rfl,rfl,rfl,?_,?_,aVf _,aVf _,fun x hx=>eH.2 (.inr hx),fun x hx=>hx,fun x hx=>hx,.inl (eH.2 (.inl rfl)),fun x hx=> ?_,fun x hx=> .inl hx,fun x hx=> .inl hx⟩
   · show(eY _ _).length+k.marks.length=_;rw[pC];omega
   · show _≤(eY _ _).length;rw[pC];omega
   · rcases eH.1 hx with h|h
     · exact .inr h
     · exact .inl h
theorem aQd {k:aL} {a b:aR} (hy:cO (tk (tk k a) b)=true) (hk:cO k=true) (fa:nH k a=true) (fb:nH k b=true) (hab: ¬(a.frm=b.frm∧a.num=b.num)):tk (tk k b) a=tk (tk k a) b:=by
 obtain⟨_,⟨_,s1⟩,⟨_,s2⟩,⟨_,s3⟩,_⟩:=iH.1 hk
 obtain⟨_,⟨_,t1⟩,⟨_,t2⟩,⟨_,t3⟩,_⟩:=iH.1 hy
 obtain⟨_,_,a3,a4,a5⟩:=nR fa
 obtain⟨_,_,b3,b4,b5⟩:=nR fb
 have comm: ∀{l:List aR},qy ltN l→aX l a.frm a.num<0→aX l b.frm b.num<0→eY (eY l b) a=eY (eY l a) b:=fun{l} hs ha hb=>
  aQb (dz (dz hs hb) (rU.2 fun x hx e=>by
   rcases eH.1 hx with rfl|hx
   · exact hab ⟨e.1.symm,e.2.symm⟩
   · exact rU.1 ha x hx e)) (dz (dz hs ha) (rU.2 fun x hx e=>by
   rcases eH.1 hx with rfl|hx
   · exact hab e
   · exact rU.1 hb x hx e)) fun x=>by rw[eH,eH,eH,eH];constructor<;>(rintro(h|h|h)<;>simp[h])
 have commM: ∀{l:List bQ},qy ltM l→fW l a.frm a.num<0→fW l b.frm b.num<0→dQ (dQ l ⟨b.frm,b.num,b.til⟩) ⟨a.frm,a.num,a.til⟩=dQ (dQ l ⟨a.frm,a.num,a.til⟩) ⟨b.frm,b.num,b.til⟩:=fun{l} hs ha hb=>
  aQc (ec (ec hs hb) (oU.2 fun x hx e=>by
   rcases eP.1 hx with rfl|hx
   · exact hab ⟨e.1.symm,e.2.symm⟩
   · exact oU.1 ha x hx e)) (ec (ec hs ha) (oU.2 fun x hx e=>by
   rcases eP.1 hx with rfl|hx
   · exact hab e
   · exact oU.1 hb x hx e)) fun x=>by rw[eP,eP,eP,eP];constructor<;>(rintro(h|h|h)<;>simp[h])
 by_cases ea:a.to=k.id
 · by_cases eb:b.to=k.id
   · rw[cr eb,cr (k:={k with inbox:=eY k.inbox b,marks:=dQ k.marks ⟨b.frm,b.num,b.til⟩}) ea,cr ea,cr (k:={k with inbox:=eY k.inbox a,marks:=dQ k.marks ⟨a.frm,a.num,a.til⟩}) eb]
     simp only[aL.mk.injEq,true_and]
     exact⟨commM s2 a5 b5,comm s3 a4 b4⟩
   · rw[ct eb,cr (k:={k with held:=eY k.held b}) ea,cr ea,ct (k:={k with inbox:=eY k.inbox a,marks:=dQ k.marks ⟨a.frm,a.num,a.til⟩}) eb]
 · by_cases eb:b.to=k.id
   · rw[cr eb,ct (k:={k with inbox:=eY k.inbox b,marks:=dQ k.marks ⟨b.frm,b.num,b.til⟩}) ea,ct ea,cr (k:={k with held:=eY k.held a}) eb]
   · rw[ct eb,ct (k:={k with held:=eY k.held b}) ea,ct ea,ct (k:={k with held:=eY k.held a}) eb]
     simp only[aL.mk.injEq,true_and,and_true]
     exact comm s1 a3 b3
theorem aU1 {k:aL} {a b:aR} (hy:cO (tk (tk k a) b)=true) (hk:cO k=true) (fb:nH k b=true):cO (tk k b)=true:=by
 obtain⟨⟨k1,k2,k3,k4,k5,k6⟩,⟨n1,s1⟩,⟨n2,s2⟩,⟨n3,s3⟩,c1,c2,c3⟩:=iH.1 hk
 obtain⟨⟨_,_,_,y4,y5,y6⟩,⟨m1,_⟩,⟨m2,_⟩,⟨m3,_⟩,d1,d2,d3⟩:=iH.1 hy
 obtain⟨b1,b2,b3,b4,b5⟩:=nR fb
 obtain⟨f1,f2,f3,f4,f5,f6,f7,f8,f9,f10,_⟩:=xa k a
 by_cases e:b.to=k.id
 · rw[cr (k:=tk k a) (by rw[f1];exact e)] at y4 y5 y6 m1 m2 m3 d1 d2 d3
   rw[cr e]
   simp only[pC,vJ,f1,f2,f3] at y4 y5 y6 d1 d2 d3
   refine iH.2 ⟨⟨k1,k2,k3,k4,?_,?_⟩,⟨n1,s1⟩,⟨fun x hx=> ?_,ec s2 b5⟩,⟨fun x hx=> ?_,dz s3 b4⟩,fun n hn=> ?_,fun m hm=> ?_,fun n hn=> ?_⟩
   · show(dQ _ _).length≤12;rw[vJ];omega
   · show(eY _ _).length≤6;rw[pC];omega
   · rcases eP.1 hx with rfl|hx
     · exact ny b1
     · exact n2 x hx
   · rcases eH.1 hx with rfl|hx
     · exact b1
     · exact n3 x hx
   · obtain⟨q1,q2,q3,q4⟩:=c1 n hn
     obtain⟨_,_,_,r4⟩:=d1 n (f8 n hn)
     refine⟨q1,q2,q3,rh r4 fun x hx=> ?_⟩
     rcases eP.1 hx with rfl|hx
     · exact eP.2 (.inl rfl)
     · exact eP.2 (.inr (f9 x hx))
   · rcases eP.1 hm with rfl|hm
     · exact d2 _ (eP.2 (.inl rfl))
     · exact c2 m hm
   · rcases eH.1 hn with rfl|hn
     · obtain⟨q1,q2,_⟩:=d3 _ (eH.2 (.inl rfl))
       exact⟨q1,q2,fun h=>oU.1 h.2 _ (eP.2 (.inl rfl)) ⟨rfl,rfl⟩⟩
     · obtain⟨q1,q2,q3⟩:=c3 n hn
       exact⟨q1,q2,fun h=>q3 ⟨h.1,rh h.2 fun x hx=>eP.2 (.inr hx)⟩⟩
 · rw[ct (k:=tk k a) (by rw[f1];exact e)] at y4 y5 y6 m1 m2 m3 d1 d2 d3
   rw[ct e]
   simp only[pC,f1,f2,f3] at y4 y5 y6 d1 d2 d3
   refine iH.2 ⟨⟨k1,k2,k3,?_,k5,k6⟩,⟨fun x hx=> ?_,dz s1 b3⟩,⟨n2,s2⟩,⟨n3,s3⟩,fun n hn=> ?_,c2,c3⟩
   · show(eY _ _).length≤6;rw[pC];omega
   · rcases eH.1 hx with rfl|hx
     · exact b1
     · exact n1 x hx
   · rcases eH.1 hn with rfl|hn
     · obtain⟨q1,q2,q3,q4⟩:=d1 _ (eH.2 (.inl rfl))
       exact⟨q1,q2,q3,b5⟩
     · exact c1 n hn
theorem aFy {k:aL} {ra rb:List UInt8} (h1: (aO k (dE++32::ra)).2=true) (h2: (aO (aO k (dE++32::ra)).1 (dE++32::rb)).2=true):
 (aO k (dE++32::rb)).2=true∧aO (aO k (dE++32::rb)).1 (dE++32::ra)=((aO (aO k (dE++32::ra)).1 (dE++32::rb)).1,true):=by
 obtain⟨hk,ra1,ra2,ra3,ra4,ra5⟩:=cq h1
 obtain⟨hx,rb1,rb2,rb3,rb4,rb5⟩:=cq h2
 rw[rb4]
 generalize ha: (cC ra).1=a at*
 generalize hb: (cC rb).1=b at*
 obtain⟨⟨fa,ca⟩,_⟩:=vI ra3
 rw[nz fa ca] at ra4 ra5
 rw[ra4] at rb2 rb3 rb5 ⊢
 obtain⟨⟨fb,cb⟩,_⟩:=vI rb3
 rw[nz fb cb] at rb5 ⊢
 obtain⟨f1,f2,f3,f4,f5,f6,f7,f8,f9,f10,f11,_⟩:=xa k a
 obtain⟨b1,b2,b3,b4,b5⟩:=nR fb
 rw[f2] at b2
 have fkb:nH k b=true:=aFx b1 b2 (aJo b3 f8) (aJo b4 f10) (rh b5 f9)
 have hab: ¬(a.frm=b.frm∧a.num=b.num):=fun e=>by
  rcases f11 with h|h
  · exact rU.1 b3 a h e
  · exact rU.1 b4 a h e
 have ckb: (k.held.length:Int)+k.marks.length+1≤12:=ca
 have hz:=aU1 rb5 hk fkb
 have cb2: ((tk k a).held.length:Int)+(tk k a).marks.length+1≤12:=cb
 have take_of: ∀{k:aL} {r:List UInt8} {n:aR},cO k=true→(cC r).2=true→(cC r).1=n→n.frm≠k.id→nH k n=true→(k.held.length:Int)+k.marks.length+1≤12→cO (tk k n)=true→aO k (dE++32::r)=(tk k n,true):=by
  intro k r n hk h1 h2 h3 h4 h5 h6
  obtain⟨q1,q2,q3⟩:=lL (w:=dE) (r:=r) (by decide)
  have e:dX k dE n=(tk k n,true):=by
   unfold dX
   rw[if_neg (by rw[show(dE==fS)=false by decide];simp),if_pos (by simp[h3]),nz h4 h5]
  have hr:eA k (dE++32::r)=(tk k n,true):=by
   rw[dn q3 (by rw[q1];rfl) (by rw[q1];rfl) (by rw[q2];exact h1),q1,q2,h2,e]
  rw[pz hk (by rw[hr]) (by rw[hr];exact h6),hr]
 have e1:aO k (dE++32::rb)=(tk k b,true):=take_of hk rb1 hb (by rw[f1] at rb2;exact rb2) fkb ckb hz
 rw[e1]
 refine⟨rfl,?_⟩
 obtain⟨g1,g2,g3,g4,g5,g6,g7,g8,g9,g10,g11,g12,g13,g14⟩:=xa k b
 obtain⟨a1,a2,a3,a4,a5⟩:=nR fa
 have fza:nH (tk k b) a=true:=aFx a1 (by rw[g2];exact a2) (rU.2 fun x hx e=>by
  rcases g12 x hx with h|rfl
  · exact rU.1 a3 x h e
  · exact hab ⟨e.1.symm,e.2.symm⟩) (rU.2 fun x hx e=>by
  rcases g13 x hx with h|rfl
  · exact rU.1 a4 x h e
  · exact hab ⟨e.1.symm,e.2.symm⟩) (oU.2 fun x hx e=>by
  rcases g14 x hx with h|h
  · exact oU.1 a5 x h e
  · exact hab ⟨e.1.symm.trans h.1,e.2.symm.trans h.2⟩)
 have ht:=aQd rb5 hk fa fkb hab
 rw[take_of hz ra1 ha (by rw[g1];exact ra2) fza (by omega) (by rw[ht];exact rb5),ht]
end Go.Ab
namespace Go.Proofs.YtcbjphphppaoiaaGreatDoor
open Int renaming toNat_natCast→aU4,tmod→aVg
open List renaming length_append→aU5,length_nil→aU8,length_cons→aU9,getD_eq_getElem?_getD→aVb,length_take→aVc,getElem?_eq_getElem→aVd,getElem?_eq_some_iff→aVe,range→aVh,all_eq_true→aVi,mem_map→aVj,length_drop→aVk,take_length→aVl,mem_cons→aVm,mem_singleton→aVn,mem_iff_getElem?→aVp
open Nat renaming le_of_ble_eq_true→aU6,zero_le→aVa,le_refl→aVf,add_mul→aVo
open Bool renaming and_eq_true→aU7
open Go Go.Ab Go.RowKit
set_option linter.unusedVariables false
set_option linter.unusedSimpArgs false
set_option maxRecDepth 9000
set_option maxHeartbeats 1600000 in
theorem ll (l:List UInt8) (hl:l.length≤140737488355328):Sp 6 1 [tD 0 (.sl (aC l))] [tB 0 true]:=by
 refine sb Tryz.func6 rfl (sq (rT [0,35,36,37,38,41,42,48,49,50] (s1 (sq (sq (rT [0,13,35,36,37,38,41,42,48,49,50] (s3 (cd rfl (fun c13=> ?_) fun c13=> ?_))))))))
 · refine sq (rT [2] (s1 (rt (bH rfl ?_))))
   rfl
 refine sk (sq (rE [3,4,35,36,37,38,41,42,48,49,50] (s1 (cK (robj:=[]) (rl:=[]) (bor:=[]) (news:=[]) (kX l hl) rfl rfl rfl rfl ⟨cJ rfl rfl trivial,rfl⟩ (by rintro _ ⟨k,x,hk,rfl⟩;exact⟨rfl,.inl rfl,fun j hj=>nomatch hj⟩) (fun p hp=>nomatch hp) (fun j hj=>nomatch hj) ?_))))
 rintro _ ⟨k,x,⟨hk,hx⟩,rfl⟩
 have hkb:=hk.kb
 have hxb:KB (aO k x).1:=lM.seven.big
 refine s6 (sq (rT [3,4,5,6,35,36,37,38,41,42,48,49,50] (s2 (xp (sU k x hkb (by omega)) (ai rfl ?_)))))
 refine s6 (sq (rT [4,5,6,7,8,35,36,37,38,41,42,48,49,50] (s2 (xp (gC k x hkb (by omega)) (ai rfl ?_)))))
 refine s6 (sq (sq (rT [4,5,6,7,8,43,48,49,50] (s4 (y2 (xc (fun h=>eZ (aO k x).1 hxb) (ai rfl (ai rk ?_))))))))
 refine y1 (ai pk (s1 (y2 (ai pk (cd rfl (fun c43=> ?_) fun c43=> ?_)))))
 · have hno: (aO k x).2=false:=by simpa[gb] using c43
   refine sq (rT [2] (s4 (y2 (xc (fun h=>eZ (aO k x).1 hxb) (ai rfl (ai rk ?_))))))
   refine ai pk (s1 (rt (bH rfl (congrArg D.b ?_))))
   simp[gb]
 have hdid: (aO k x).2=true:=by simpa[gb] using c43
 refine sk (sq (rT [10] (s2 (xp (gC (aO k x).1 x hxb (by omega)) (ai rfl ?_)))))
 refine s6 (sq (rT [2] (s3 (rt (bH rfl (congrArg D.b ?_))))))
 rw[aFt hdid];rfl
theorem uB (n:Nat) (hn:n≤1000000000):Sp 25 1 [tI 0 (n:Nat)] [tD 0 (.s (kC n))]:=by
 induction n using Nat.strongRecOn
 rename_i n ih
 refine sb Tryz.func25 rfl (sq (rT [0] (s1 (sq (sq (rT [0,4] (s2 (cd rfl (fun c4=> ?_) fun c4=> ?_))))))))
 · have h10:n<10:=by simp at c4;omega
   refine sq (rT [2] (s3 (ai (by exact⟨by simp,aU6 rfl⟩) (ai (by exact⟨rfl,congrArg (fun r=>[r]) (ml _)⟩) (s1 (rt (bH rfl (congrArg D.s ?_))))))))
   rw[lJ h10,← jf h10]
   rfl
 have h10: ¬n<10:=by simp at c4;omega
 have hq:wrap64 (Int.tdiv (n:Int) 10)=((n / 10:Nat):Int):=by rw[Int.tdiv_eq_ediv_of_nonneg (by omega),aE (by omega)];omega
 have hr:aVg (n:Int) 10=((n % 10:Nat):Int):=by rw[Int.tmod_eq_emod_of_nonneg (by omega)];omega
 have hdl:=aBq (n / 10)
 refine sk (sq (rD [2] (s1 (ai (by omega) (xp (ih (n / 10) (by omega) (by omega)) (ai (by rw[hq];rfl) ?_))))))
 refine s1 (ai (by omega) (s2 (ai (by exact⟨by simp,aU6 rfl⟩) (ai (by exact⟨rfl,congrArg (fun r=>[r]) (ml _)⟩) (ai (by show _≤9223372036854775807;simp only[iQ,List.length_map,aU9,aU8];omega) (s1 (ai (by kernel_rfl) (rt (bH rfl (congrArg D.s ?_))))))))))
 refine Eq.trans ?_ (sB (by omega)).symm
 rw[hr,← jf (Nat.mod_lt n (by decide))]
 rfl
theorem aJp {l:List aR} {n:aR} {i:Nat} (hg: (aD l).getD i []=(l.getD i .zero).row):wN (gI xj.zero ((aD l).getD (Int.toNat (i:Int)) []) 0) [.i n.frm,.i n.num,.i n.to,.i n.til,.s n.text]=decide (l.getD i .zero=n):=by
 rw[aU4,hg]
 generalize l.getD i .zero=m
 obtain⟨a,b,c,d,e⟩:=m
 obtain⟨a2,b2,c2,d2,e2⟩:=n
 rw[Bool.eq_iff_iff]
 simp[aR.row,gI,av,wN,eqD,and_assoc,db,toS]
theorem aU2 {l:List aR} {n:aR} {i:Nat} (hg: (aD l).getD i []=(l.getD i .zero).row) (h:wN (gI xj.zero ((aD l).getD (Int.toNat (i:Int)) []) 0) [.i n.frm,.i n.num,.i n.to,.i n.til,.s n.text]=true):l.getD i .zero=n:=by rw[aJp hg] at h;exact of_decide_eq_true h
theorem aU3 {l:List aR} {n:aR} {i:Nat} (hg: (aD l).getD i []=(l.getD i .zero).row) (h:wN (gI xj.zero ((aD l).getD (Int.toNat (i:Int)) []) 0) [.i n.frm,.i n.num,.i n.to,.i n.til,.s n.text]=false): ¬l.getD i .zero=n:=by rw[aJp hg] at h;exact of_decide_eq_false h
set_option maxHeartbeats 800000 in
theorem uC (l:List aR) (n:aR) (hl:l.length≤100000):Sp 22 2 [tD 0 (.sl (aD l)),tV 1 n.V] [tB 0 (decide (n∈l))]:=by
 refine sb Tryz.func22 rfl (sq (rT [0,3] (s2 (sq (sq (rT [0,3,5] (s1 (bk (SW.loopW (n:=l.length) (fun m s=> ∃i:Nat,m=l.length - i∧i≤l.length∧n∉l.take i∧s=[tD 0 (.sl (aD l)),tP 3 3,tI 5 (i:Nat),oB 3 29 [.d (.i n.frm),.d (.i n.num),.d (.i n.to),.d (.i n.til),.d (.s n.text)]]) ?_ ?_)))))))))
 · exact wq (σ':=[tD 0 (.sl (aD l)),tP 3 3,tI 5 (0:Nat),oB 3 29 [.d (.i n.frm),.d (.i n.num),.d (.i n.to),.d (.i n.til),.d (.s n.text)]]) [] [] (⟨0,rfl,aVa _,by simp,rfl⟩) qz
 rintro n s ⟨i,rfl,hi,hno,rfl⟩
 refine sq (sq (rT [0,3,5,9] (s4 (cd rfl (fun c9=> ?_) fun c9=> ?_))))
 · have hi2:i<l.length:=by simpa[aA] using c9
   have hg:=aQ (l:=l) hi2
   have hlen:=aA l
   refine sk (sq (bk (sq (rD [0,3,5,17] (s2 (ai (by rw[aU4,hg];exact⟨⟨by omega,by rw[hlen];omega⟩,rfl⟩) (ai (by rw[aU4,hg];exact⟨aU6 rfl,rfl⟩) (s1 (aG6 dH (gI xj.zero ((aD l).getD (Int.toNat (i:Int)) []) 0) [.i n.frm,.i n.num,.i n.to,.i n.til,.s n.text] rfl rfl rfl (by kernel_rfl) (by kernel_rfl) (by kernel_rfl) (by kernel_rfl) rfl rfl (ai (by kernel_rfl) (cd rfl (fun c17=> ?_) fun c17=> ?_)))))))))))
   · have hat:l.getD i .zero=n:=aU2 hg c17
     refine sq (rT [4] (s1 (rt (bH rfl (congrArg D.b ?_)))))
     rw[decide_eq_true (hat▸cW hi2)]
   have hat: ¬l.getD i .zero=n:=aU3 hg c17
   refine sk (rT [0,3,5] (s3 ?_))
   have hno2:n∉l.take (i+1):=by rw[fQ (z:=aR.zero) hi2];simp only[List.mem_append,aVn,not_or];exact⟨hno,fun e=>hat e.symm⟩
   refine wq [] [] (⟨l.length - (i+1),by omega,i+1,rfl,by omega,hno2,rfl⟩) ?_
   repeat' apply ai
   all_goals first|exact qx|exact congrArg D.i (aE (by omega))|rfl|exact qz
 have hie:i=l.length:=by simp[aA] at c9;omega
 refine xt (sq (rT [4] (s1 (rt (bH rfl (congrArg D.b ?_))))))
 rw[decide_eq_false (by rw[hie,aVl] at hno;exact hno)]
theorem aCz {n:Int} (h:eC n=true):0≤n∧n≤3:=by
 simp[eC,iB] at h;omega
theorem aOf {n:Int} (h0:0≤n) (h3:n≤3): (aVg (wrap64 (n+1)) 4==n)=false:=by
 rw[aE (by omega),Int.tmod_eq_emod_of_nonneg (by omega),beq_eq_false_iff_ne];omega
set_option maxHeartbeats 3200000 in
theorem oa (l:List UInt8) (hl:l.length≤140737488355328):Sp 10 1 [tD 0 (.sl (aC l))] [tB 0 true]:=by
 refine sb Tryz.func10 rfl (sq (rT [0,48,49,50,51,54,55,61,62,63,84,85,86,87,88,89,90,91,92,93,94,95,98,99] (s1 (sq (sq (rT [0,14,48,49,50,51,54,55,61,62,63,84,85,86,87,88,89,90,91,92,93,94,95,98,99] (s3 (cd rfl (fun c14=> ?_) fun c14=> ?_))))))))
 · refine sq (rT [2] (s1 (rt (bH rfl ?_))))
   rfl
 refine sk (sq (rE [3,48,49,50,51,54,55,61,62,63,84,85,86,87,88,89,90,91,92,93,94,95,98,99] (s1 (cK (robj:=[]) (rl:=[]) (bor:=[]) (news:=[]) (qS l hl) rfl rfl rfl rfl ⟨cJ rfl rfl trivial,rfl⟩ (by rintro _ ⟨k,hk,rfl⟩;exact⟨rfl,.inl rfl,fun j hj=>nomatch hj⟩) (fun p hp=>nomatch hp) (fun j hj=>nomatch hj) ?_))))
 rintro _ ⟨k,hk,rfl⟩
 have hkb:=hk.kb
 have hxb:KB (aO k (cI fS (⟨k.id,k.next,aVg (wrap64 (k.id+1)) 4,wrap64 (k.time+1),[120]⟩:aR))).1:=lM.seven.big
 have hrl: (cI fS (⟨k.id,k.next,aVg (wrap64 (k.id+1)) 4,wrap64 (k.time+1),[120]⟩:aR)).length≤900000:=by have:=iS (⟨k.id,k.next,aVg (wrap64 (k.id+1)) 4,wrap64 (k.time+1),[120]⟩:aR);simp[cI,fS];omega
 have hrl2: (cI fS (⟨k.id,wrap64 (k.next - 1),aVg (wrap64 (k.id+1)) 4,wrap64 (k.time+1),[120]⟩:aR)).length≤900000:=by have:=iS (⟨k.id,wrap64 (k.next - 1),aVg (wrap64 (k.id+1)) 4,wrap64 (k.time+1),[120]⟩:aR);simp[cI,fS];omega
 have hwl:=iS (⟨k.id,k.next,aVg (wrap64 (k.id+1)) 4,wrap64 (k.time+1),[120]⟩:aR)
 have hwl2:=iS (⟨k.id,wrap64 (k.next - 1),aVg (wrap64 (k.id+1)) 4,wrap64 (k.time+1),[120]⟩:aR)
 refine s2 (sq (rT [3,4,48,49,50,51,54,55,61,62,63,84,85,86,87,88,89,90,91,92,93,94,95,98,99] (s7 (ai (by decide) (s6 (sq (rT [3,4,5,48,49,50,51,54,55,61,62,63,84,85,86,87,88,89,90,91,92,93,94,95,98,99] (s1 (xp (fH (⟨k.id,k.next,aVg (wrap64 (k.id+1)) 4,wrap64 (k.time+1),[120]⟩:aR) (by show(1:Nat)≤_;omega)) (ai rfl ?_))))))))))
 refine ai (by show _≤9223372036854775807;(try simp only[aU5,aU9,aU8]);omega) (s1 (sq (rT [3,4,5,6,7,48,49,50,51,54,55,61,62,63,84,85,86,87,88,89,90,91,92,93,94,95,98,99] (s2 (xp (sU k (cI fS (⟨k.id,k.next,aVg (wrap64 (k.id+1)) 4,wrap64 (k.time+1),[120]⟩:aR)) hkb hrl) (ai rfl ?_))))))
 refine s6 (sq (rT [3,4,6,7,8,9,48,49,50,51,54,55,61,62,63,84,85,86,87,88,89,90,91,92,93,94,95,98,99] (s2 (xp (gC k (cI fS (⟨k.id,k.next,aVg (wrap64 (k.id+1)) 4,wrap64 (k.time+1),[120]⟩:aR)) hkb hrl) (ai rfl ?_)))))
 refine s6 (sq (sq (rT [3,4,6,7,8,9,56,61,62,63,84,85,86,87,88,89,90,91,92,93,94,95,98,99] (s4 (y2 (xc (fun h=>eZ (aO k (cI fS (⟨k.id,k.next,aVg (wrap64 (k.id+1)) 4,wrap64 (k.time+1),[120]⟩:aR))).1 hxb) (ai rfl (ai rk ?_))))))))
 refine y1 (ai pk (s1 (y2 (ai pk (cd rfl (fun c56=> ?_) fun c56=> ?_)))))
 · have hno: (aO k (cI fS (⟨k.id,k.next,aVg (wrap64 (k.id+1)) 4,wrap64 (k.time+1),[120]⟩:aR))).2=false:=by simpa[gb] using c56
   refine sq (rT [2] (s4 (y2 (xc (fun h=>eZ (aO k (cI fS (⟨k.id,k.next,aVg (wrap64 (k.id+1)) 4,wrap64 (k.time+1),[120]⟩:aR))).1 hxb) (ai rfl (ai rk ?_))))))
   refine ai pk (s1 (rt (bH rfl (congrArg D.b ?_))))
   simp[gb]
 have hdid: (aO k (cI fS (⟨k.id,k.next,aVg (wrap64 (k.id+1)) 4,wrap64 (k.time+1),[120]⟩:aR))).2=true:=by simpa[gb] using c56
 obtain⟨⟨⟨hi0,hi3⟩,_,⟨hx1,hx2⟩,_⟩,_⟩: ((0≤k.id∧k.id≤3)∧True∧(1≤k.next∧k.next≤100)∧True)∧True:=by obtain⟨hok,_⟩:=nQ hdid;obtain⟨⟨q1,_,q3,_⟩,_⟩:=iH.1 hok;exact⟨⟨aCz q1,trivial,q3,trivial⟩,trivial⟩
 obtain⟨ho1,ho2,ho3⟩:=aIn (n:=(⟨k.id,k.next,aVg (wrap64 (k.id+1)) 4,wrap64 (k.time+1),[120]⟩:aR)) rfl rfl (aOf hi0 hi3) hdid
 refine sk (sq (rT [3,4,8,84,85,86,87,88,89,90,91,92,93,94,95,98,99] (s5 (sq (rD [3,4,8,11,84,85,86,87,88,89,90,91,92,93,94,95,98,99] (s2 (xp (fH (⟨k.id,wrap64 (k.next - 1),aVg (wrap64 (k.id+1)) 4,wrap64 (k.time+1),[120]⟩:aR) (by show(1:Nat)≤_;omega)) (ai rfl ?_))))))))
 refine ai (by show _≤9223372036854775807;(try simp only[aU5,aU9,aU8]);omega) (xp (gC (aO k (cI fS (⟨k.id,k.next,aVg (wrap64 (k.id+1)) 4,wrap64 (k.time+1),[120]⟩:aR))).1 (cI fS (⟨k.id,wrap64 (k.next - 1),aVg (wrap64 (k.id+1)) 4,wrap64 (k.time+1),[120]⟩:aR)) hxb hrl2) (ai rfl ?_))
 refine s6 (ai (by kernel_rfl) (sq (rT [2] (s7 (y4 (y4 (y3 (xc (fun h=>uC (aO k (cI fS (⟨k.id,k.next,aVg (wrap64 (k.id+1)) 4,wrap64 (k.time+1),[120]⟩:aR))).1.held (⟨k.id,k.next,aVg (wrap64 (k.id+1)) 4,wrap64 (k.time+1),[120]⟩:aR) (by have:=hxb.1;omega)) (ai rfl (ai rk ?_))))))))))
 refine ai pk (s1 (y2 (ai pk (s1 (rt (bH rfl (congrArg D.b ?_)))))))
 have h3: (aO (aO k (cI fS (⟨k.id,k.next,aVg (wrap64 (k.id+1)) 4,wrap64 (k.time+1),[120]⟩:aR))).1 (cI fS (⟨k.id,wrap64 (k.next - 1),aVg (wrap64 (k.id+1)) 4,wrap64 (k.time+1),[120]⟩:aR))).2=false:=ho3 (⟨k.id,wrap64 (k.next - 1),aVg (wrap64 (k.id+1)) 4,wrap64 (k.time+1),[120]⟩:aR) rfl (by show wrap64 (k.next - 1)≠_;rw[aE (by omega)];omega)
 have h1:wrap64 (k.next+1)=k.next+1:=aE (by omega)
 simp[gb,h3,h1,ho1,ho2]
set_option maxHeartbeats 3200000 in
theorem lm (l m:List UInt8) (hl:l.length≤140737488355328) (hm:m.length≤140737488355328):Sp 8 2 [tD 0 (.sl (aC l)),tD 1 (.sl (aC m))] [tB 0 true]:=by
 refine sb Tryz.func8 rfl (sq (rT [0,1,23,24,25,53,54,55,56,59,60,63,64,65,68,69,70,73,74,75,78,79,80,86,87,88,115,118,119,120] (s1 (sq (sq (rT [0,1,26,53,54,55,56,59,60,63,64,65,68,69,70,73,74,75,78,79,80,86,87,88,115,118,119,120] (s4 (y3 (ai pk (cd rfl (fun c26=> ?_) fun c26=> ?_))))))))))
 · refine sq (rT [4] (s1 (rt (bH rfl ?_))))
   rfl
 refine sk (sq (rE [1,5,6,53,54,55,56,59,60,63,64,65,68,69,70,73,74,75,78,79,80,86,87,88,115,118,119,120] (s1 (cK (robj:=[]) (rl:=[]) (bor:=[]) (news:=[]) (kX l hl) rfl rfl rfl rfl ⟨cJ rfl rfl trivial,rfl⟩ (by rintro _ ⟨k,x,hk,rfl⟩;exact⟨rfl,.inl rfl,fun j hj=>nomatch hj⟩) (fun p hp=>nomatch hp) (fun j hj=>nomatch hj) ?_))))
 rintro _ ⟨k,x,⟨hk,hx⟩,rfl⟩
 have hkb:=hk.kb
 refine s6 (sq (rE [5,6,8,53,54,55,56,59,60,63,64,65,68,69,70,73,74,75,78,79,80,86,87,88,115,118,119,120] (s1 (cK (robj:=[]) (rl:=[]) (bor:=[]) (news:=[]) (kX m hm) rfl rfl rfl rfl ⟨cJ rfl rfl trivial,rfl⟩ (by rintro _ ⟨k,x,hk,rfl⟩;exact⟨rfl,.inl rfl,fun j hj=>nomatch hj⟩) (fun p hp=>nomatch hp) (fun j hj=>nomatch hj) ?_))))
 rintro _ ⟨k2,x2,⟨hk2,hx2⟩,rfl⟩
 have hxb:KB (aO k x).1:=lM.seven.big
 have hyb:KB (aO (aO k x).1 x2).1:=lM.seven.big
 have hzb:KB (aO k x2).1:=lM.seven.big
 refine s6 (sq (rT [5,6,8,9,10,53,54,55,56,59,60,63,64,65,68,69,70,73,74,75,78,79,80,86,87,88,115,118,119,120] (s2 (xp (sU k x hkb (by omega)) (ai rfl ?_)))))
 refine s6 (sq (rT [5,6,8,9,10,11,12,53,54,55,56,59,60,63,64,65,68,69,70,73,74,75,78,79,80,86,87,88,115,118,119,120] (s2 (xp (gC k x hkb (by omega)) (ai rfl ?_)))))
 refine s6 (sq (sq (rT [5,6,8,9,10,11,12,81,86,87,88,115,118,119,120] (s4 (y2 (xc (fun h=>eZ (aO k x).1 hxb) (ai rfl (ai rk ?_))))))))
 refine y1 (ai pk (s1 (y2 (ai pk (s1 (y3 (ai pk (s1 (y3 (ai pk (s1 (y1 (ai (fun h=>(by simp[yz,fD,gF,gb] at *; omega)) (ai rk (y1 (ai pk (s1 (y1 (ai (fun h=>(by simp[yz,fD,gF,gb] at *; omega)) (ai rk (y1 (ai pk (cd rfl (fun c81=> ?_) fun c81=> ?_)))))))))))))))))))))))
 · refine sq (rT [4] (s4 (y2 (xc (fun h=>eZ (aO k x).1 hxb) (ai rfl (ai rk ?_))))))
   refine ai pk (s1 (rt (bH rfl (congrArg D.b ?_))))
   simp[gb]
 have hq: (aO k x).2=true∧5≤x.length∧5≤x2.length∧x.take 5=[116,97,107,101,32]∧x2.take 5=[116,97,107,101,32]:=by simp[gb,fD,gF] at c81;obtain⟨⟨⟨⟨q1,q2⟩,q3⟩,q4⟩,q5⟩:=c81;exact⟨q1,by omega,by omega,q4,q5⟩
 obtain⟨hdid,hx5,hy5,hxt,hyt⟩:=hq
 have ex:=nx hx5 hxt
 have ey:=nx hy5 hyt
 refine sk (sq (rT [5,6,8,11,13,14,115,118,119,120] (s2 (xp (gC (aO k x).1 x2 hxb (by omega)) (ai rfl ?_)))))
 refine s6 (sq (sq (rT [5,6,8,11,13,97,115,118,119,120] (s2 (cd rfl (fun c97=> ?_) fun c97=> ?_)))))
 · have hd2: (aO (aO k x).1 x2).2=false:=by simpa using c97
   have hsame: (aO (aO k x).1 x2).1=(aO k x).1:=aIg (by rw[(nQ hdid).2.2.1];exact(nQ hdid).2.2.2) hd2
   refine sq (rT [4] (s2 (xp (eZ (aO k x).1 hxb) (ai (by rw[hsame];rfl) ?_))))
   refine s1 (rt (bH rfl ?_))
   rfl
 have hd2: (aO (aO k x).1 x2).2=true:=by simpa using c97
 have hturn:=aFy (k:=k) (ra:=x.drop 5) (rb:=x2.drop 5)
 rw[← ex,← ey] at hturn
 obtain⟨hb1,hb3⟩:=hturn hdid hd2
 have hb2: (aO (aO k x2).1 x).1=(aO (aO k x).1 x2).1:=by rw[hb3]
 have hb4: (aO (aO k x2).1 x).2=true:=by rw[hb3]
 refine sk (sq (rT [6,13,15,16,115,118,119,120] (s2 (xp (gC k x2 hkb (by omega)) (ai rfl ?_)))))
 refine s6 (sq (rT [13,16,17,18,115,118,119,120] (s2 (xp (gC (aO k x2).1 x hzb (by omega)) (ai rfl ?_)))))
 refine s6 (sq (rT [4] (s2 (y1 (ai pk (s1 (y2 (xc (fun h=>eZ (aO (aO k x).1 x2).1 hyb) (ai (by rw[hb2];rfl) (ai rk ?_))))))))))
 refine ai pk (s1 (rt (bH rfl (congrArg D.b ?_))))
 simp[gb,hb1,hb4]
theorem xb {n:aR} {l:List bQ} {i:Nat} (h:i<l.length): (l.take (i+1)).any (fun m=>m.frm==n.frm&&m.num==n.num&&m.til==n.til)=((l.take i).any (fun m=>m.frm==n.frm&&m.num==n.num&&m.til==n.til)||((l.getD i .zero).frm==n.frm&&(l.getD i .zero).num==n.num&&(l.getD i .zero).til==n.til)):=by
 rw[fQ (z:=bQ.zero) h,List.any_append];simp
set_option maxHeartbeats 3200000 in
theorem oc (l:List UInt8) (hl:l.length≤140737488355328):Sp 11 1 [tD 0 (.sl (aC l))] [tB 0 true]:=by
 refine sb Tryz.func11 rfl (sq (rT [0,38,39,40,41,44,45,48,49,50,53,54,55,61,62,63,80,81,82,83,84,85,86,87,88,89,90,91,92,93,94,95,96,97,98,99,100,101,102,103,104,105,106,107,108,109,110,124,125,126,127,128,129,130,133,134,135] (s1 (sq (sq (rT [0,16,38,39,40,41,44,45,48,49,50,53,54,55,61,62,63,80,81,82,83,84,85,86,87,88,89,90,91,92,93,94,95,96,97,98,99,100,101,102,103,104,105,106,107,108,109,110,124,125,126,127,128,129,130,133,134,135] (s3 (cd rfl (fun c16=> ?_) fun c16=> ?_))))))))
 · refine sq (rT [2] (s1 (rt (bH rfl ?_))))
   rfl
 refine sk (sq (rE [3,4,38,39,40,41,44,45,48,49,50,53,54,55,61,62,63,80,81,82,83,84,85,86,87,88,89,90,91,92,93,94,95,96,97,98,99,100,101,102,103,104,105,106,107,108,109,110,124,125,126,127,128,129,130,133,134,135] (s1 (cK (robj:=[]) (rl:=[]) (bor:=[]) (news:=[]) (kX l hl) rfl rfl rfl rfl ⟨cJ rfl rfl trivial,rfl⟩ (by rintro _ ⟨k,x,hk,rfl⟩;exact⟨rfl,.inl rfl,fun j hj=>nomatch hj⟩) (fun p hp=>nomatch hp) (fun j hj=>nomatch hj) ?_))))
 rintro _ ⟨k,x,⟨hk,hx⟩,rfl⟩
 have hkb:=hk.kb
 have hxb:KB (aO k x).1:=lM.seven.big
 refine s6 (sq (rT [3,4,5,6,38,39,40,41,44,45,48,49,50,53,54,55,61,62,63,80,81,82,83,84,85,86,87,88,89,90,91,92,93,94,95,96,97,98,99,100,101,102,103,104,105,106,107,108,109,110,124,125,126,127,128,129,130,133,134,135] (s2 (xp (sU k x hkb (by omega)) (ai rfl ?_)))))
 refine s6 (sq (rT [3,4,5,6,7,8,38,39,40,41,44,45,48,49,50,53,54,55,61,62,63,80,81,82,83,84,85,86,87,88,89,90,91,92,93,94,95,96,97,98,99,100,101,102,103,104,105,106,107,108,109,110,124,125,126,127,128,129,130,133,134,135] (s2 (xp (gC k x hkb (by omega)) (ai rfl ?_)))))
 refine s6 (sq (sq (rT [3,4,5,6,7,8,56,61,62,63,80,81,82,83,84,85,86,87,88,89,90,91,92,93,94,95,96,97,98,99,100,101,102,103,104,105,106,107,108,109,110,124,125,126,127,128,129,130,133,134,135] (s4 (y2 (xc (fun h=>eZ (aO k x).1 hxb) (ai rfl (ai rk ?_))))))))
 refine y1 (ai pk (s1 (y2 (ai pk (s1 (y3 (ai pk (s1 (y1 (ai (fun h=>(by simp[yz,fD,gF,gb] at *; omega)) (ai rk (y1 (ai pk (cd rfl (fun c56=> ?_) fun c56=> ?_))))))))))))))
 · refine sq (rT [2] (s4 (y2 (xc (fun h=>eZ (aO k x).1 hxb) (ai rfl (ai rk ?_))))))
   refine ai pk (s1 (rt (bH rfl (congrArg D.b ?_))))
   simp[gb]
 have hq: (aO k x).2=true∧5≤x.length∧x.take 5=[116,97,107,101,32]:=by simp[gb,fD,gF] at c56;obtain⟨⟨q1,q2⟩,q3⟩:=c56;exact⟨q1,by omega,q3⟩
 obtain⟨hdid,hx5,hxt⟩:=hq
 have ex:=nx hx5 hxt
 have hdid2:=hdid
 rw[ex] at hdid2
 obtain⟨_,_,_,ha1,ha2,_⟩:=cq hdid2
 rw[← ex] at ha2
 obtain⟨hin,hon⟩:=aIo ha1
 rw[← ha2] at hin hon
 refine sk (sq (rT [3,7,9,80,81,82,83,84,85,86,87,88,89,90,91,92,93,94,95,96,97,98,99,100,101,102,103,104,105,106,107,108,109,110,124,125,126,127,128,129,130,133,134,135] (s1 (ai (by simp[yz,fD,gF];omega) (xp (zY (x.drop 5) (by rw[aVk];omega)) (ai (by have e:List.drop (fD (some 5)) (List.take (gF none x.length) x)=x.drop 5:=congrArg (fun z=>List.drop 5 z) (aVl (l:=x));rw[e];rfl) ?_))))))
 refine s6 (sq (rT [3,7,9,11,80,81,82,83,84,85,86,87,88,89,90,91,92,93,94,95,96,97,98,99,100,101,102,103,104,105,106,107,108,109,110,124,125,126,127,128,129,130,133,134,135] (s1 (sq (sq (rT [3,7,9,11,12,80,81,82,83,84,85,86,87,88,89,90,91,92,93,94,95,96,97,98,99,100,101,102,103,104,105,106,107,108,109,110,124,125,126,127,128,129,130,133,134,135] (s1 (bk (SW.loopW (n:=(aO k x).1.marks.length) (fun m s=> ∃i:Nat,m=(aO k x).1.marks.length - i∧i≤(aO k x).1.marks.length∧s=[tP 3 3,tP 7 7,tP 9 9,tB 11 (((aO k x).1.marks.take i).any (fun m=>m.frm==(cC (x.drop 5)).1.frm&&m.num==(cC (x.drop 5)).1.num&&m.til==(cC (x.drop 5)).1.til)),tI 12 (i:Nat),oB 3 26 [.d (.i (k).id),.d (.i (k).time),.d (.i (k).next),.d (.sl (aD (k).held)),.d (.sl (aJ (k).marks)),.d (.sl (aD (k).inbox))],oB 7 26 [.d (.i ((aO k x).1).id),.d (.i ((aO k x).1).time),.d (.i ((aO k x).1).next),.d (.sl (aD ((aO k x).1).held)),.d (.sl (aJ ((aO k x).1).marks)),.d (.sl (aD ((aO k x).1).inbox))],oB 9 29 [.d (.i (cC (x.drop 5)).1.frm),.d (.i (cC (x.drop 5)).1.num),.d (.i (cC (x.drop 5)).1.to),.d (.i (cC (x.drop 5)).1.til),.d (.s (cC (x.drop 5)).1.text)]]) ?_ ?_)))))))))
 · exact wq (σ':=[tP 3 3,tP 7 7,tP 9 9,tB 11 (((aO k x).1.marks.take 0).any (fun m=>m.frm==(cC (x.drop 5)).1.frm&&m.num==(cC (x.drop 5)).1.num&&m.til==(cC (x.drop 5)).1.til)),tI 12 (0:Nat),oB 3 26 [.d (.i (k).id),.d (.i (k).time),.d (.i (k).next),.d (.sl (aD (k).held)),.d (.sl (aJ (k).marks)),.d (.sl (aD (k).inbox))],oB 7 26 [.d (.i ((aO k x).1).id),.d (.i ((aO k x).1).time),.d (.i ((aO k x).1).next),.d (.sl (aD ((aO k x).1).held)),.d (.sl (aJ ((aO k x).1).marks)),.d (.sl (aD ((aO k x).1).inbox))],oB 9 29 [.d (.i (cC (x.drop 5)).1.frm),.d (.i (cC (x.drop 5)).1.num),.d (.i (cC (x.drop 5)).1.to),.d (.i (cC (x.drop 5)).1.til),.d (.s (cC (x.drop 5)).1.text)]]) [] [] (⟨0,rfl,aVa _,rfl⟩) qz
 rintro n s ⟨i,rfl,hi,rfl⟩
 refine sq (sq (rT [3,7,9,11,12,75,80,81,82,83,84,85,86,87,88,89,90,91,92,93,94,95,96,97,98,99,100,101,102,103,104,105,106,107,108,109,110,124,125,126,127,128,129,130,133,134,135] (s5 (cd rfl (fun c75=> ?_) fun c75=> ?_))))
 · have hi2:i< (aO k x).1.marks.length:=by simpa[aB] using c75
   have hg:=bM (l:=(aO k x).1.marks) hi2
   have hlen:=aB (aO k x).1.marks
   have hxl:=hxb.1.2.1
   refine sk (sq (bk (rD [3,7,9,11,12,80,81,82,83,84,85,86,87,88,89,90,91,92,93,94,95,96,97,98,99,100,101,102,103,104,105,106,107,108,109,110,124,125,126,127,128,129,130,133,134,135] (s2 (y3 (ai (fun h=>(by rw[aU4,hg];exact⟨⟨by omega,by rw[hlen];omega⟩,rfl⟩)) (ai rk (y1 (ai (fun h=>(by rw[aU4,hg];exact⟨aU6 rfl,rfl⟩)) (ai rk (y4 (y3 (ai (fun h=>(by rw[aU4,hg];exact⟨⟨by omega,by rw[hlen];omega⟩,rfl⟩)) (ai rk (y1 (ai (fun h=>(by rw[aU4,hg];exact⟨aU6 rfl,rfl⟩)) (ai rk (y3 (ai (fun h=>pk) (ai rk (y4 (ai (fun h=>(by rw[aU4,hg];exact⟨⟨by omega,by rw[hlen];omega⟩,rfl⟩)) (ai rk (y1 (ai (fun h=>(by rw[aU4,hg];exact⟨aU6 rfl,rfl⟩)) (ai rk (y3 (ai (fun h=>pk) (ai rk (ai pk (s1 (ai (by kernel_rfl) (rT [3,7,9,11,12,80,81,82,83,84,85,86,87,88,89,90,91,92,93,94,95,96,97,98,99,100,101,102,103,104,105,106,107,108,109,110,124,125,126,127,128,129,130,133,134,135] (s3 (wq [] [] (⟨(aO k x).1.marks.length - (i+1),by omega,i+1,rfl,by omega,rfl⟩) ?_)))))))))))))))))))))))))))))))))))
   repeat' apply ai
   all_goals first|exact qx|exact congrArg D.i (aE (by omega))|(rw[xb hi2,aU4,hg];exact congrArg D.b (by simp[gb,bQ.row,gI,av,db]))|(rw[xb hi2];refine congrArg D.b ?_;simp[gb,hg,bQ.row];done)|rfl|exact qz
 have hie:i=(aO k x).1.marks.length:=by simp[aB] at c75;omega
 refine xt (sq (rT [7,9,11,13,124,125,126,127,128,129,130,133,134,135] (s6 (sq (rT [2] (s3 (xp (uC (aO k x).1.inbox (cC (x.drop 5)).1 (by have:=hxb.1;omega)) (ai rfl ?_))))))))
 refine s3 (y3 (xc (fun h=>uC (aO k x).1.held (cC (x.drop 5)).1 (by have:=hxb.1;omega)) (ai rfl (ai rk ?_))))
 refine y3 (ai pk (s1 (y3 (ai pk (s1 (rt (bH rfl (congrArg D.b ?_))))))))
 rw[hie,aVl]
 by_cases e: (cC (x.drop 5)).1.to=k.id
 · obtain⟨q1,q2,q3⟩:=hin e
   have q4: (aO k x).1.marks.any (fun m=>m.frm==(cC (x.drop 5)).1.frm&&m.num==(cC (x.drop 5)).1.num&&m.til==(cC (x.drop 5)).1.til)=true:=List.any_eq_true.2 ⟨_,q3,by simp⟩
   simp[gb,e,q1,q2,q4]
 obtain⟨q1,q2,q3⟩:=hon e
 have q4: (aO k x).1.marks.any (fun m=>m.frm==(cC (x.drop 5)).1.frm&&m.num==(cC (x.drop 5)).1.num&&m.til==(cC (x.drop 5)).1.til)=false:=List.any_eq_false.2 fun m hm=>by have:=q3 m hm;simp;intro h1 h2;exact absurd ⟨h1,h2⟩ this
 simp[gb,e,q1,q2,q4]
theorem xd {α:Type} {l:List α} {p:α→Bool} {i:Nat} {z:α} (h:i<l.length) (hp:p (l.getD i z)=true): ((l.take i).filter p).length< (l.filter p).length∧(l.filter p).getD ((l.take i).filter p).length z=l.getD i z:=by
 have e:l=l.take i++l.getD i z::l.drop (i+1):=by
  conv=>lhs;rw[← List.take_append_drop (i+1) l,fQ (z:=z) h]
  simp
 have e2:l.filter p=(l.take i).filter p++l.getD i z::(l.drop (i+1)).filter p:=by
  conv=>lhs;rw[e,List.filter_append,List.filter_cons_of_pos hp]
 rw[e2]
 refine⟨by simp,?_⟩
 rw[aVb,List.getElem?_append_right (aVf _)]
 simp
set_option maxHeartbeats 6400000 in
theorem ln (l:List UInt8) (hl:l.length≤140737488355328):Sp 7 1 [tD 0 (.sl (aC l))] [tB 0 true]:=by
 refine sb Tryz.func7 rfl (sq (rT [0,37,38,39,40,43,44,47,48,49,50,51,57,58,59,83,84,85,86,87,88,89,90,91,92,93,119,120,121,122,123,124,125,126,127,128,129,139,140,141,142,143,146,147,148,149,150,153,154,155,156,157] (s1 (sq (sq (rT [0,15,37,38,39,40,43,44,47,48,49,50,51,57,58,59,83,84,85,86,87,88,89,90,91,92,93,119,120,121,122,123,124,125,126,127,128,129,139,140,141,142,143,146,147,148,149,150,153,154,155,156,157] (s3 (cd rfl (fun c15=> ?_) fun c15=> ?_))))))))
 · refine sq (rT [2] (s1 (rt (bH rfl ?_))))
   rfl
 refine sk (sq (rE [3,4,37,38,39,40,43,44,47,48,49,50,51,57,58,59,83,84,85,86,87,88,89,90,91,92,93,119,120,121,122,123,124,125,126,127,128,129,139,140,141,142,143,146,147,148,149,150,153,154,155,156,157] (s1 (cK (robj:=[]) (rl:=[]) (bor:=[]) (news:=[]) (kX l hl) rfl rfl rfl rfl ⟨cJ rfl rfl trivial,rfl⟩ (by rintro _ ⟨k,x,hk,rfl⟩;exact⟨rfl,.inl rfl,fun j hj=>nomatch hj⟩) (fun p hp=>nomatch hp) (fun j hj=>nomatch hj) ?_))))
 rintro _ ⟨k,x,⟨hk,hx⟩,rfl⟩
 have hkb:=hk.kb
 have hxb:KB (aO k x).1:=lM.seven.big
 refine s6 (sq (rT [3,4,5,6,37,38,39,40,43,44,47,48,49,50,51,57,58,59,83,84,85,86,87,88,89,90,91,92,93,119,120,121,122,123,124,125,126,127,128,129,139,140,141,142,143,146,147,148,149,150,153,154,155,156,157] (s2 (xp (sU k x hkb (by omega)) (ai rfl ?_)))))
 refine s6 (sq (rT [3,5,6,7,8,37,38,39,40,43,44,47,48,49,50,51,57,58,59,83,84,85,86,87,88,89,90,91,92,93,119,120,121,122,123,124,125,126,127,128,129,139,140,141,142,143,146,147,148,149,150,153,154,155,156,157] (s2 (xp (gC k x hkb (by omega)) (ai rfl ?_)))))
 refine s6 (sq (sq (rT [3,5,6,7,8,52,57,58,59,83,84,85,86,87,88,89,90,91,92,93,119,120,121,122,123,124,125,126,127,128,129,139,140,141,142,143,146,147,148,149,150,153,154,155,156,157] (s4 (y2 (xc (fun h=>eZ (aO k x).1 hxb) (ai rfl (ai rk ?_))))))))
 refine y1 (ai pk (s1 (y2 (ai pk (s1 (y4 (y1 (ai pk (cd rfl (fun c52=> ?_) fun c52=> ?_)))))))))
 · refine sq (rT [2] (s4 (y2 (xc (fun h=>eZ (aO k x).1 hxb) (ai rfl (ai rk ?_))))))
   refine ai pk (s1 (rt (bH rfl (congrArg D.b ?_))))
   simp[gb]
 have hq: (aO k x).2=true∧ ¬(aO k x).1.time=k.time:=by simp[gb] at c52;exact c52
 obtain⟨hdid,hne⟩:=hq
 have had:=aFv hdid hne
 have had1: (aO k x).1.held=k.held.filter (fun n=>decide ((aO k x).1.time<n.til)):=(congrArg aL.held had).trans rfl
 have had2: (aO k x).1.marks=k.marks.filter (fun n=>decide ((aO k x).1.time<n.til)):=(congrArg aL.marks had).trans rfl
 have had3: (aO k x).1.inbox=k.inbox:=(congrArg aL.inbox had).trans rfl
 have had4: (aO k x).1.next=k.next:=(congrArg aL.next had).trans rfl
 refine sk (sq (rT [3,7,9,83,84,85,86,87,88,89,90,91,92,93,119,120,121,122,123,124,125,126,127,128,129,139,140,141,142,143,146,147,148,149,150,153,154,155,156,157] (s1 (sq (sq (rT [3,7,9,10,83,84,85,86,87,88,89,90,91,92,93,119,120,121,122,123,124,125,126,127,128,129,139,140,141,142,143,146,147,148,149,150,153,154,155,156,157] (s1 (bk (SW.loopW (n:=k.held.length) (fun m s=> ∃i:Nat,m=k.held.length - i∧i≤k.held.length∧s=[tP 3 3,tP 7 7,tI 9 (((k.held.take i).filter (fun n=>decide ((aO k x).1.time<n.til))).length:Nat),tI 10 (i:Nat),oB 3 26 [.d (.i (k).id),.d (.i (k).time),.d (.i (k).next),.d (.sl (aD (k).held)),.d (.sl (aJ (k).marks)),.d (.sl (aD (k).inbox))],oB 7 26 [.d (.i ((aO k x).1).id),.d (.i ((aO k x).1).time),.d (.i ((aO k x).1).next),.d (.sl (aD ((aO k x).1).held)),.d (.sl (aJ ((aO k x).1).marks)),.d (.sl (aD ((aO k x).1).inbox))]]) ?_ ?_)))))))))
 · exact wq (σ':=[tP 3 3,tP 7 7,tI 9 (((k.held.take 0).filter (fun n=>decide ((aO k x).1.time<n.til))).length:Nat),tI 10 (0:Nat),oB 3 26 [.d (.i (k).id),.d (.i (k).time),.d (.i (k).next),.d (.sl (aD (k).held)),.d (.sl (aJ (k).marks)),.d (.sl (aD (k).inbox))],oB 7 26 [.d (.i ((aO k x).1).id),.d (.i ((aO k x).1).time),.d (.i ((aO k x).1).next),.d (.sl (aD ((aO k x).1).held)),.d (.sl (aJ ((aO k x).1).marks)),.d (.sl (aD ((aO k x).1).inbox))]]) [] [] (⟨0,rfl,aVa _,rfl⟩) qz
 rintro n s ⟨i,rfl,hi,rfl⟩
 refine sq (sq (rT [3,7,9,10,65,83,84,85,86,87,88,89,90,91,92,93,119,120,121,122,123,124,125,126,127,128,129,139,140,141,142,143,146,147,148,149,150,153,154,155,156,157] (s5 (cd rfl (fun c65=> ?_) fun c65=> ?_))))
 · have hi2:i<k.held.length:=by simpa[aA] using c65
   have hg:=aQ (l:=k.held) hi2
   have hlen:=aA k.held
   have hkl:=hkb.1
   have hfl:=List.length_filter_le (fun n:aR=>decide ((aO k x).1.time<n.til)) (k.held.take i)
   have htl: (k.held.take i).length≤i:=by rw[aVc];omega
   refine sk (sq (bk (sq (rD [3,7,9,10,76,83,84,85,86,87,88,89,90,91,92,93,119,120,121,122,123,124,125,126,127,128,129,139,140,141,142,143,146,147,148,149,150,153,154,155,156,157] (s3 (ai (by rw[aU4,hg];exact⟨⟨by omega,by rw[hlen];omega⟩,rfl⟩) (s1 (ai (by rw[aU4,hg];exact⟨aU6 rfl,rfl⟩) (s3 (ai (by kernel_rfl) (cd rfl (fun c76=> ?_) fun c76=> ?_)))))))))))
   · have hp: (fun n:aR=>decide ((aO k x).1.time<n.til)) (k.held.getD i .zero)=true:=by rw[aU4,hg] at c76;exact c76
     have hfg:=xd (z:=aR.zero) (p:=fun n=>decide ((aO k x).1.time<n.til)) hi2 hp
     rw[← had1] at hfg
     have hg2:=aQ (l:=(aO k x).1.held) hfg.1
     have hlen2:=aA (aO k x).1.held
     have hfy:=rK (z:=aR.zero) (p:=fun n=>decide ((aO k x).1.time<n.til)) hi2 hp
     refine sq (sq (rD [3,7,9,10,83,84,85,86,87,88,89,90,91,92,93,94,119,120,121,122,123,124,125,126,127,128,129,139,140,141,142,143,146,147,148,149,150,153,154,155,156,157] (s6 (y3 (ai (fun h=>(by rw[aU4,hg2];exact⟨⟨by omega,by rw[hlen2];have:=hfg.1;omega⟩,rfl⟩)) (ai rk (ai (fun h=>(by rw[aU4,hg2];exact⟨aU6 rfl,rfl⟩)) (ai rk (y3 (ai (fun h=>(by rw[aU4,hg];exact⟨⟨by omega,by rw[hlen];omega⟩,rfl⟩)) (ai rk (ai (fun h=>(by rw[aU4,hg];exact⟨aU6 rfl,rfl⟩)) (ai rk (aI7 dH (gI xj.zero ((aD (aO k x).1.held).getD (Int.toNat ((((k.held.take i).filter (fun n=>decide ((aO k x).1.time<n.til))).length:Nat):Int)) []) 0) (gI xj.zero ((aD k.held).getD (Int.toNat ((i:Nat):Int)) []) 0) rfl rfl rfl (by kernel_rfl) (by kernel_rfl) (by kernel_rfl) (by kernel_rfl) rfl rfl rk ?_))))))))))))))
     refine ai pk (ai (by kernel_rfl) (cd rfl (fun c94=> ?_) fun c94=> ?_))
     · exact absurd c94 (by rw[aU4,aU4,hg,hg2,hfg.2,hlen2];simp[gb,wN,eqD,gI,av,aR.row];exact hfg.1)
     refine sk (rT [3,7,9,10,83,84,85,86,87,88,89,90,91,92,93,119,120,121,122,123,124,125,126,127,128,129,139,140,141,142,143,146,147,148,149,150,153,154,155,156,157] (s3 (rT [3,7,9,10,83,84,85,86,87,88,89,90,91,92,93,119,120,121,122,123,124,125,126,127,128,129,139,140,141,142,143,146,147,148,149,150,153,154,155,156,157] (s3 (wq [] [] (⟨k.held.length - (i+1),by omega,i+1,rfl,by omega,rfl⟩) ?_)))))
     repeat' apply ai
     all_goals first|exact qx|(rw[hfy];done)|(rw[hfy];first|rfl|(simp only[aU5,aU9,aU8];exact congrArg D.i (aE (by omega))))|exact congrArg D.i (aE (by omega))|rfl|exact qz
   have hp: (fun n:aR=>decide ((aO k x).1.time<n.til)) (k.held.getD i .zero)=false:=by rw[aU4,hg] at c76;exact c76
   have hfy:=uH (z:=aR.zero) (p:=fun n=>decide ((aO k x).1.time<n.til)) hi2 hp
   refine sk (rT [3,7,9,10,83,84,85,86,87,88,89,90,91,92,93,119,120,121,122,123,124,125,126,127,128,129,139,140,141,142,143,146,147,148,149,150,153,154,155,156,157] (s3 (wq [] [] (⟨k.held.length - (i+1),by omega,i+1,rfl,by omega,rfl⟩) ?_)))
   repeat' apply ai
   all_goals first|exact qx|(rw[hfy];done)|(rw[hfy];first|rfl|(simp only[aU5,aU9,aU8];exact congrArg D.i (aE (by omega))))|exact congrArg D.i (aE (by omega))|rfl|exact qz
 have hie:i=k.held.length:=by simp[aA] at c65;omega
 refine xt (sq (rT [3,7,9,11,119,120,121,122,123,124,125,126,127,128,129,139,140,141,142,143,146,147,148,149,150,153,154,155,156,157] (s1 (sq (sq (rT [3,7,9,11,12,119,120,121,122,123,124,125,126,127,128,129,139,140,141,142,143,146,147,148,149,150,153,154,155,156,157] (s1 (bk (SW.loopW (n:=k.marks.length) (fun m s=> ∃i:Nat,m=k.marks.length - i∧i≤k.marks.length∧s=[tP 3 3,tP 7 7,tI 9 (k.held.filter (fun n=>decide ((aO k x).1.time<n.til))).length,tI 11 (((k.marks.take i).filter (fun n=>decide ((aO k x).1.time<n.til))).length:Nat),tI 12 (i:Nat),oB 3 26 [.d (.i (k).id),.d (.i (k).time),.d (.i (k).next),.d (.sl (aD (k).held)),.d (.sl (aJ (k).marks)),.d (.sl (aD (k).inbox))],oB 7 26 [.d (.i ((aO k x).1).id),.d (.i ((aO k x).1).time),.d (.i ((aO k x).1).next),.d (.sl (aD ((aO k x).1).held)),.d (.sl (aJ ((aO k x).1).marks)),.d (.sl (aD ((aO k x).1).inbox))]]) ?_ ?_)))))))))
 · refine wq (σ':=[tP 3 3,tP 7 7,tI 9 (k.held.filter (fun n=>decide ((aO k x).1.time<n.til))).length,tI 11 (((k.marks.take 0).filter (fun n=>decide ((aO k x).1.time<n.til))).length:Nat),tI 12 (0:Nat),oB 3 26 [.d (.i (k).id),.d (.i (k).time),.d (.i (k).next),.d (.sl (aD (k).held)),.d (.sl (aJ (k).marks)),.d (.sl (aD (k).inbox))],oB 7 26 [.d (.i ((aO k x).1).id),.d (.i ((aO k x).1).time),.d (.i ((aO k x).1).next),.d (.sl (aD ((aO k x).1).held)),.d (.sl (aJ ((aO k x).1).marks)),.d (.sl (aD ((aO k x).1).inbox))]]) [] [] (⟨0,rfl,aVa _,rfl⟩) ?_
   repeat' apply ai
   all_goals first|exact qx|(rw[hie,aVl];done)|rfl|exact qz
 rintro n s ⟨i,rfl,hi,rfl⟩
 refine sq (sq (rT [3,7,9,11,12,101,119,120,121,122,123,124,125,126,127,128,129,139,140,141,142,143,146,147,148,149,150,153,154,155,156,157] (s5 (cd rfl (fun c101=> ?_) fun c101=> ?_))))
 · have hi2:i<k.marks.length:=by simpa[aB] using c101
   have hg:=bM (l:=k.marks) hi2
   have hlen:=aB k.marks
   have hkl:=hkb.1
   have hfl:=List.length_filter_le (fun n:bQ=>decide ((aO k x).1.time<n.til)) (k.marks.take i)
   have htl: (k.marks.take i).length≤i:=by rw[aVc];omega
   refine sk (sq (bk (sq (rD [3,7,9,11,12,112,119,120,121,122,123,124,125,126,127,128,129,139,140,141,142,143,146,147,148,149,150,153,154,155,156,157] (s3 (ai (by rw[aU4,hg];exact⟨⟨by omega,by rw[hlen];omega⟩,rfl⟩) (s1 (ai (by rw[aU4,hg];exact⟨aU6 rfl,rfl⟩) (s3 (ai (by kernel_rfl) (cd rfl (fun c112=> ?_) fun c112=> ?_)))))))))))
   · have hp: (fun n:bQ=>decide ((aO k x).1.time<n.til)) (k.marks.getD i .zero)=true:=by rw[aU4,hg] at c112;exact c112
     have hfg:=xd (z:=bQ.zero) (p:=fun n=>decide ((aO k x).1.time<n.til)) hi2 hp
     rw[← had2] at hfg
     have hg2:=bM (l:=(aO k x).1.marks) hfg.1
     have hlen2:=aB (aO k x).1.marks
     have hfy:=rK (z:=bQ.zero) (p:=fun n=>decide ((aO k x).1.time<n.til)) hi2 hp
     refine sq (sq (rD [3,7,9,11,12,119,120,121,122,123,124,125,126,127,128,129,130,139,140,141,142,143,146,147,148,149,150,153,154,155,156,157] (s6 (y3 (ai (fun h=>(by rw[aU4,hg2];exact⟨⟨by omega,by rw[hlen2];have:=hfg.1;omega⟩,rfl⟩)) (ai rk (ai (fun h=>(by rw[aU4,hg2];exact⟨aU6 rfl,rfl⟩)) (ai rk (y3 (ai (fun h=>(by rw[aU4,hg];exact⟨⟨by omega,by rw[hlen];omega⟩,rfl⟩)) (ai rk (ai (fun h=>(by rw[aU4,hg];exact⟨aU6 rfl,rfl⟩)) (ai rk (aI7 dH (gI aJ5.zero ((aJ (aO k x).1.marks).getD (Int.toNat ((((k.marks.take i).filter (fun n=>decide ((aO k x).1.time<n.til))).length:Nat):Int)) []) 0) (gI aJ5.zero ((aJ k.marks).getD (Int.toNat ((i:Nat):Int)) []) 0) rfl rfl rfl (by kernel_rfl) (by kernel_rfl) (by kernel_rfl) (by kernel_rfl) rfl rfl rk ?_))))))))))))))
     refine ai pk (ai (by kernel_rfl) (cd rfl (fun c130=> ?_) fun c130=> ?_))
     · exact absurd c130 (by rw[aU4,aU4,hg,hg2,hfg.2,hlen2];simp[gb,wN,eqD,gI,av,bQ.row];exact hfg.1)
     refine sk (rT [3,7,9,11,12,119,120,121,122,123,124,125,126,127,128,129,139,140,141,142,143,146,147,148,149,150,153,154,155,156,157] (s3 (rT [3,7,9,11,12,119,120,121,122,123,124,125,126,127,128,129,139,140,141,142,143,146,147,148,149,150,153,154,155,156,157] (s3 (wq [] [] (⟨k.marks.length - (i+1),by omega,i+1,rfl,by omega,rfl⟩) ?_)))))
     repeat' apply ai
     all_goals first|exact qx|(rw[hfy];done)|(rw[hfy];first|rfl|(simp only[aU5,aU9,aU8];exact congrArg D.i (aE (by omega))))|exact congrArg D.i (aE (by omega))|rfl|exact qz
   have hp: (fun n:bQ=>decide ((aO k x).1.time<n.til)) (k.marks.getD i .zero)=false:=by rw[aU4,hg] at c112;exact c112
   have hfy:=uH (z:=bQ.zero) (p:=fun n=>decide ((aO k x).1.time<n.til)) hi2 hp
   refine sk (rT [3,7,9,11,12,119,120,121,122,123,124,125,126,127,128,129,139,140,141,142,143,146,147,148,149,150,153,154,155,156,157] (s3 (wq [] [] (⟨k.marks.length - (i+1),by omega,i+1,rfl,by omega,rfl⟩) ?_)))
   repeat' apply ai
   all_goals first|exact qx|(rw[hfy];done)|(rw[hfy];first|rfl|(simp only[aU5,aU9,aU8];exact congrArg D.i (aE (by omega))))|exact congrArg D.i (aE (by omega))|rfl|exact qz
 have hie2:i=k.marks.length:=by simp[aB] at c101;omega
 refine xt (sq (rT [2] (s6 (y4 (y1 (ai pk (s1 (y4 (xc (fun h=>qQ k.inbox (by have:=hkb.1;omega)) (ai (by rw[had3];rfl) (ai rk ?_)))))))))))
 refine ai pk (s1 (y4 (y1 (ai pk (s1 (rt (bH rfl (congrArg D.b ?_))))))))
 rw[hie2,aVl]
 simp[gb,had1,had2,had4,aA,aB]
set_option maxHeartbeats 3200000 in
theorem gz (l:List UInt8) (hl:l.length≤140737488355328):qu 18 1 [tD 0 (.sl (aC l))] (fun s=> ∃k:aL,KD k∧s=[(.t 0,.v k.V)]):=by
 have hl2: (l.take 2000).length≤2000:=by simp;omega
 refine vt Tryz.func18 rfl (sq (rT [0,2,13,14,15,22,23,24,25] (s1 (sq (rT [2,3,13,14,15,22,23,24,25] (s1 (bd [(0,801)] (wX l hl) rfl rfl rfl rfl rfl rfl rfl (fun j hj=>by(obtain rfl:j=0:=by simpa[mT,cA,iU] using hj);rfl) (s1 (sq (rE [2,3,4,13,14,15,22,23,24,25] (s1 (cK (robj:=[(801,.box 92 [.d (.sl (aC (l.take 2000))),.d (.i (0))])]) (rl:=[]) (bor:=[]) (news:=[]) (qR (l.take 2000) (0) (by omega) hl2) rfl rfl rfl rfl ⟨bU rfl rfl rfl rfl (aZ rfl (aF rfl (aF rfl aH)) trivial),rfl⟩ (by rintro _ ⟨k,q,hk,hq,rfl⟩;exact⟨rfl,.inl rfl,fun j hj=>nomatch hj⟩) (aK ⟨rfl,trivial⟩) (fun j hj=>nomatch hj) ?_))))))))))))
 rintro _ ⟨k,q,hk,hq,rfl⟩
 refine s2 (sq (sq (rT [2,3,4,5,13,14,15,22,23,24,25] (s1 (bk (SW.loopW (n:=8) (fun x s=> ∃(i:Nat) (k:aL) (q:Int),x=8 - i∧(i≤8∧KD k∧0≤q∧q≤20000+20010*i)∧s=[tP 2 2,tP 3 801,tP 4 4,tI 5 (i:Nat),oB 801 92 [.d (.sl (aC (l.take 2000))),.d (.i (q))],oB 2 26 [.d (.i 0),.d (.i 0),.d (.i 0),.nil,.nil,.nil],oB 4 26 [.d (.i (k).id),.d (.i (k).time),.d (.i (k).next),.d (.sl (aD (k).held)),.d (.sl (aJ (k).marks)),.d (.sl (aD (k).inbox))]]) ?_ ?_))))))
 · exact wq [] [] (⟨0,k,q,rfl,⟨by omega,hk,by omega,by omega⟩,rfl⟩) qz
 rintro n s ⟨i,k,q,rfl,⟨hi8,hk,hq⟩,rfl⟩
 refine sq (SW.midW (fun s=> ∃(cb:Bool) (q2:Int),(q≤q2∧q2≤q+1∧(cb=true→i<8))∧s=[tP 2 2,tP 3 801,tP 4 4,tI 5 (i:Nat),tB 16 cb,oB 801 92 [.d (.sl (aC (l.take 2000))),.d (.i (q2))],oB 2 26 [.d (.i 0),.d (.i 0),.d (.i 0),.nil,.nil,.nil],oB 4 26 [.d (.i (k).id),.d (.i (k).time),.d (.i (k).next),.d (.sl (aD (k).held)),.d (.sl (aJ (k).marks)),.d (.sl (aD (k).inbox))]]) ?_ ?_)
 · refine rF [2,3,4,5,16] (s1 (s1 (s1 (ai (fun h1=> ?_) (fun h1=> ?_)))))
   · refine s1 (ai (fun _=> ?_) (fun h=>absurd h (by rw[h1];simp)))
     refine gY (bJ (robj:=[(801,.box 92 [.d (.sl (aC ((l.take 2000)))),.d (.i (q))])]) (rl:=[(0,801)]) (bor:=[]) (cU ((l.take 2000)) (q) _ (by omega) hl2) rfl rfl rfl rfl ⟨bU rfl rfl rfl rfl (cJ rfl rfl (aZ rfl (aF rfl (aF rfl aH)) trivial)),rfl⟩ rfl (.inl rfl) (aK ⟨rfl,trivial⟩) (fun _ hj=>nomatch hj) (ai (fun _=> ?_) (fun h=>absurd h (by rw[h1];simp))))
     refine s1 (ai pk (wq [] [] ⟨?c1,q+1,⟨by omega,by omega,?e1⟩,rfl⟩ ?_))
     repeat' apply ai
     all_goals try exact qx
     all_goals try rfl
     all_goals(intro _;have h9:=of_decide_eq_true h1;omega)
   refine⟨I 0,?_⟩
   refine ai (fun h=>absurd h (by rw[h1];simp)) (fun _=>⟨I 0,?_⟩)
   refine ai (fun h=>absurd h (by rw[h1];simp)) (fun _=>⟨B false,?_⟩)
   refine ai (by constructor<;>intro h<;>first|trivial|exact absurd (h1.symm.trans h:false=true) (by decide)) (wq [] [] ⟨?d1,q,⟨by omega,by omega,?f1⟩,rfl⟩ ?_)
   repeat' apply ai
   all_goals try exact qx
   all_goals try rfl
   all_goals(intro h;simp at h)
 rintro s ⟨cb,q2,hq2,rfl⟩
 refine cd rfl (fun c16=> ?_) fun c16=> ?_
 · have hi7:i<8:=hq2.2.2 c16
   refine sk (sq (bk (sq (sq (rT [2,3,4,5,13,14,15,22,23,24,25,26] (s1 (xp (jX k hk.kb.1 hk.kb.2.1 hk.kb.2.2) (ai rfl ?_))))))))
   refine s1 (y4 (ai pk (cd rfl (fun c26=> ?_) fun c26=> ?_)))
   · exact sq (rT [2] (s2 (rt (cV [(.t 0,.v k.V)] ⟨k,hk,rfl⟩ (rq [] [] rfl qz)))))
   refine sk (rE [2,3,4,5,13,14,15,22,23,24,25] (s1 (cK (robj:=[(801,.box 92 [.d (.sl (aC (l.take 2000))),.d (.i (q2))])]) (rl:=[]) (bor:=[]) (news:=[]) (qR (l.take 2000) (q2) (by omega) hl2) rfl rfl rfl rfl ⟨bU rfl rfl rfl rfl (aZ rfl (aF rfl (aF rfl aH)) trivial),rfl⟩ (by rintro _ ⟨k2,q3,hk3,hq3,rfl⟩;exact⟨rfl,.inl rfl,fun j hj=>nomatch hj⟩) (aK ⟨rfl,trivial⟩) (fun j hj=>nomatch hj) ?_)))
   rintro _ ⟨k2,q3,hk3,hq3,rfl⟩
   refine s1 (rT [2,3,4,5,13,14,15,22,23,24,25] (s3 (wq [] [] (⟨8 - (i+1),by omega,i+1,k2,q3,rfl,⟨by omega,hk3,by omega,by omega⟩,rfl⟩) ?_)))
   repeat' apply ai
   all_goals first|exact qx|exact congrArg D.i (aE (by omega))|rfl|exact qz
 exact xt (sq (rT [2] (s2 (rt (cV [(.t 0,.v k.V)] ⟨k,hk,rfl⟩ (rq [] [] rfl qz))))))
set_option maxHeartbeats 800000 in
theorem aC0 (k:aL) (n:aR) (hk:KB k) (hn: (0≤n.frm∧n.frm≤1000000)∧(0≤n.num∧n.num≤1000000)∧(0≤n.til∧n.til≤1000000)):Sp 21 2 [tV 0 k.V,tV 1 n.V] [tV 0 (.tup [.agg [.d (.i ((aO k (iK iZ (fA n))).1).id),.d (.i ((aO k (iK iZ (fA n))).1).time),.d (.i ((aO k (iK iZ (fA n))).1).next),.d (.sl (aD ((aO k (iK iZ (fA n))).1).held)),.d (.sl (aJ ((aO k (iK iZ (fA n))).1).marks)),.d (.sl (aD ((aO k (iK iZ (fA n))).1).inbox))],.c (.d (.b (aO k (iK iZ (fA n))).2))])]:=by
 have q1:=bZ (k:=6) (n:=n.frm.toNat) (by simp;omega)
 have q2:=bZ (k:=6) (n:=n.num.toNat) (by simp;omega)
 have q3:=bZ (k:=6) (n:=n.til.toNat) (by simp;omega)
 have hrl:=bt (w:=iZ) (m:=fA n) hn
 refine sb Tryz.func21 rfl (sq (rT [2,3,4] (s4 (sq (rD [4,5] (s3 (xp (uB n.frm.toNat (by omega)) (ai (by rw[Int.toNat_of_nonneg (by omega)];rfl) ?_))))))))
 refine ai (by show _≤9223372036854775807;(try simp only[aU5,aU9,aU8]);omega) (ai (by show _≤9223372036854775807;(try simp only[aU5,aU9,aU8]);omega) (s2 (xp (uB n.num.toNat (by omega)) (ai (by rw[Int.toNat_of_nonneg (by omega)];rfl) ?_))))
 refine ai (by show _≤9223372036854775807;(try simp only[aU5,aU9,aU8]);omega) (ai (by show _≤9223372036854775807;(try simp only[aU5,aU9,aU8]);omega) (s2 (xp (uB n.til.toNat (by omega)) (ai (by rw[Int.toNat_of_nonneg (by omega)];rfl) ?_))))
 refine ai (by show _≤9223372036854775807;(try simp only[aU5,aU9,aU8]);omega) (xp (gC k (iK iZ (fA n)) hk (by have h9:iZ.length=3:=rfl;omega)) (ai rfl ?_))
 exact s4 (ai (by kernel_rfl) (rt (bP rfl rfl rfl)))
set_option maxHeartbeats 6400000 in
theorem od (l:List UInt8) (hl:l.length≤140737488355328):Sp 4 1 [tD 0 (.sl (aC l))] [tB 0 true]:=by
 refine sb Tryz.func4 rfl (sq (rT [0,18,19,20,21,22,23,24,25,52,53,54,55,56,57,58,59,62,63,64,65,66,67,68,69,80,81,82,83,84,85,86,87,88,89,90,91,92,93,94,95,96,97,98,99,100,101,102,103,104,105,106,107,108,109,110,111,112,113,114,115,116,117,118,119,120,121,122] (s1 (sq (sq (rT [0,11,18,19,20,21,22,23,24,25,52,53,54,55,56,57,58,59,62,63,64,65,66,67,68,69,80,81,82,83,84,85,86,87,88,89,90,91,92,93,94,95,96,97,98,99,100,101,102,103,104,105,106,107,108,109,110,111,112,113,114,115,116,117,118,119,120,121,122] (s3 (cd rfl (fun c11=> ?_) fun c11=> ?_))))))))
 · refine sq (rT [2] (s1 (rt (bH rfl ?_))))
   rfl
 refine sk (sq (rE [3,18,19,20,21,22,23,24,25,52,53,54,55,56,57,58,59,62,63,64,65,66,67,68,69,80,81,82,83,84,85,86,87,88,89,90,91,92,93,94,95,96,97,98,99,100,101,102,103,104,105,106,107,108,109,110,111,112,113,114,115,116,117,118,119,120,121,122] (s1 (cK (robj:=[]) (rl:=[]) (bor:=[]) (news:=[]) (gz l hl) rfl rfl rfl rfl ⟨cJ rfl rfl trivial,rfl⟩ (by rintro _ ⟨k,hk,rfl⟩;exact⟨rfl,.inl rfl,fun j hj=>nomatch hj⟩) (fun p hp=>nomatch hp) (fun j hj=>nomatch hj) ?_))))
 rintro _ ⟨k,hk,rfl⟩
 have hkb:=hk.kb
 have hhl:=aA k.held
 have hml:=aB k.marks
 refine s2 (sq (sq (rT [3,26,52,53,54,55,56,57,58,59,62,63,64,65,66,67,68,69,80,81,82,83,84,85,86,87,88,89,90,91,92,93,94,95,96,97,98,99,100,101,102,103,104,105,106,107,108,109,110,111,112,113,114,115,116,117,118,119,120,121,122] (s1 (xp (jX k hkb.1 hkb.2.1 hkb.2.2) (ai rfl ?_))))))
 refine s2 (y4 (y4 (ai pk (cd rfl (fun c26=> ?_) fun c26=> ?_))))
 · refine sq (rD [2] (s1 (xp (wT k hkb.2.1 hkb.2.2) (ai rfl ?_))))
   refine s1 (xp (jX k hkb.1 hkb.2.1 hkb.2.2) (ai rfl ?_))
   refine s2 (ai (by kernel_rfl) (rt (bH rfl (congrArg D.b ?_))))
   simp
 have hq:cO k=true∧k.held.length+k.marks.length≤12:=by simp[gb] at c26;obtain⟨q1,q2⟩:=c26;rw[aE (by have:=hkb.1;omega)] at q2;exact⟨q1,by omega⟩
 obtain⟨hok,hsum⟩:=hq
 refine sk (sq (sq (rT [3,4,52,53,54,55,56,57,58,59,62,63,64,65,66,67,68,69,80,81,82,83,84,85,86,87,88,89,90,91,92,93,94,95,96,97,98,99,100,101,102,103,104,105,106,107,108,109,110,111,112,113,114,115,116,117,118,119,120,121,122] (s1 (bk (SW.loopW (n:=k.held.length) (fun m s=> ∃i:Nat,m=k.held.length - i∧i≤k.held.length∧s=[tP 3 3,tI 4 (i:Nat),oB 3 26 [.d (.i (k).id),.d (.i (k).time),.d (.i (k).next),.d (.sl (aD (k).held)),.d (.sl (aJ (k).marks)),.d (.sl (aD (k).inbox))]]) ?_ ?_))))))
 · exact wq (σ':=[tP 3 3,tI 4 (0:Nat),oB 3 26 [.d (.i (k).id),.d (.i (k).time),.d (.i (k).next),.d (.sl (aD (k).held)),.d (.sl (aJ (k).marks)),.d (.sl (aD (k).inbox))]]) [] [] (⟨0,rfl,aVa _,rfl⟩) qz
 rintro n s ⟨i,rfl,hi,rfl⟩
 refine sq (sq (rT [3,4,36,52,53,54,55,56,57,58,59,62,63,64,65,66,67,68,69,80,81,82,83,84,85,86,87,88,89,90,91,92,93,94,95,96,97,98,99,100,101,102,103,104,105,106,107,108,109,110,111,112,113,114,115,116,117,118,119,120,121,122] (s5 (cd rfl (fun c36=> ?_) fun c36=> ?_))))
 · have hi2:i<k.held.length:=by simpa[aA] using c36
   have hg:=aQ (l:=k.held) hi2
   have hlen:=aA k.held
   have hno:=(iH.1 hok).2.1.1 _ (cW (z:=aR.zero) hi2)
   have hpr:=lW hno
   have hlet:=aC0 k (k.held.getD i .zero) hkb (by omega)
   rw[aIq hok hsum hi2] at hlet
   have hgone:=aOe hok hi2
   have hcl:=aCy hi2
   have hkl:=hkb.1
   refine sk (sq (bk (sq (rD [3,4,5,6,52,53,54,55,56,57,58,59,62,63,64,65,66,67,68,69,80,81,82,83,84,85,86,87,88,89,90,91,92,93,94,95,96,97,98,99,100,101,102,103,104,105,106,107,108,109,110,111,112,113,114,115,116,117,118,119,120,121,122] (s4 (ai (by rw[aU4,hg];exact⟨⟨by omega,by rw[hlen];omega⟩,rfl⟩) (ai (by rw[aU4,hg];exact⟨aU6 rfl,rfl⟩) (xp hlet (ai (by rw[aU4,hg];rfl) ?_)))))))))
   refine s6 (ai (by kernel_rfl) (sq (sq (rD [3,4,5,52,53,54,55,56,57,58,59,62,63,64,65,66,67,68,69,70,80,81,82,83,84,85,86,87,88,89,90,91,92,93,94,95,96,97,98,99,100,101,102,103,104,105,106,107,108,109,110,111,112,113,114,115,116,117,118,119,120,121,122] (s3 (y4 (y1 (ai (fun h=>(by rw[aU4,hg];exact⟨⟨by omega,by rw[hlen];omega⟩,rfl⟩)) (ai rk (ai (fun h=>(by rw[aU4,hg];exact⟨aU6 rfl,rfl⟩)) (ai rk (xc (fun h=>uC (dN k.held i) (k.held.getD i .zero) (by have:=aCy hi2;have:=hkb.1;omega)) (ai (by rw[aU4,hg];rfl) (ai rk ?_))))))))))))))
   refine ai pk (s1 (y4 (y4 (ai pk (ai (by kernel_rfl) (cd rfl (fun c70=> ?_) fun c70=> ?_))))))
   · exact absurd c70 (by have h9:wrap64 ((k.held.length:Int) - 1)=((dN k.held i).length:Int):=(by rw[aE (by have:=hkb.1;omega)];omega);have hg8:=hgone;simp at hg8;simp[gb,hg8,aA,h9])
   refine sk (sq (rT [3,4,5,7,52,53,54,55,56,57,58,59,62,63,64,65,66,67,68,69,80,81,82,83,84,85,86,87,88,89,90,91,92,93,94,95,96,97,98,99,100,101,102,103,104,105,106,107,108,109,110,111,112,113,114,115,116,117,118,119,120,121,122] (s1 (sq (sq (rT [3,4,5,7,8,52,53,54,55,56,57,58,59,62,63,64,65,66,67,68,69,80,81,82,83,84,85,86,87,88,89,90,91,92,93,94,95,96,97,98,99,100,101,102,103,104,105,106,107,108,109,110,111,112,113,114,115,116,117,118,119,120,121,122] (s1 (bk (SW.loopW (n:=({k with held:=dN k.held i,marks:=dQ k.marks (fA (k.held.getD i .zero))}:aL).marks.length) (fun m s=> ∃j:Nat,m=({k with held:=dN k.held i,marks:=dQ k.marks (fA (k.held.getD i .zero))}:aL).marks.length - j∧j≤({k with held:=dN k.held i,marks:=dQ k.marks (fA (k.held.getD i .zero))}:aL).marks.length∧s=[tP 3 3,tP 5 5,tI 4 (i:Nat),tB 7 ((({k with held:=dN k.held i,marks:=dQ k.marks (fA (k.held.getD i .zero))}:aL).marks.take j).any (fun m=>m.frm==(k.held.getD i .zero).frm&&m.num==(k.held.getD i .zero).num&&m.til==(k.held.getD i .zero).til)),tI 8 (j:Nat),oB 3 26 [.d (.i (k).id),.d (.i (k).time),.d (.i (k).next),.d (.sl (aD (k).held)),.d (.sl (aJ (k).marks)),.d (.sl (aD (k).inbox))],oB 5 26 [.d (.i (({k with held:=dN k.held i,marks:=dQ k.marks (fA (k.held.getD i .zero))}:aL)).id),.d (.i (({k with held:=dN k.held i,marks:=dQ k.marks (fA (k.held.getD i .zero))}:aL)).time),.d (.i (({k with held:=dN k.held i,marks:=dQ k.marks (fA (k.held.getD i .zero))}:aL)).next),.d (.sl (aD (({k with held:=dN k.held i,marks:=dQ k.marks (fA (k.held.getD i .zero))}:aL)).held)),.d (.sl (aJ (({k with held:=dN k.held i,marks:=dQ k.marks (fA (k.held.getD i .zero))}:aL)).marks)),.d (.sl (aD (({k with held:=dN k.held i,marks:=dQ k.marks (fA (k.held.getD i .zero))}:aL)).inbox))]]) ?_ ?_)))))))))
   · exact wq (σ':=[tP 3 3,tP 5 5,tI 4 (i:Nat),tB 7 ((({k with held:=dN k.held i,marks:=dQ k.marks (fA (k.held.getD i .zero))}:aL).marks.take 0).any (fun m=>m.frm==(k.held.getD i .zero).frm&&m.num==(k.held.getD i .zero).num&&m.til==(k.held.getD i .zero).til)),tI 8 (0:Nat),oB 3 26 [.d (.i (k).id),.d (.i (k).time),.d (.i (k).next),.d (.sl (aD (k).held)),.d (.sl (aJ (k).marks)),.d (.sl (aD (k).inbox))],oB 5 26 [.d (.i (({k with held:=dN k.held i,marks:=dQ k.marks (fA (k.held.getD i .zero))}:aL)).id),.d (.i (({k with held:=dN k.held i,marks:=dQ k.marks (fA (k.held.getD i .zero))}:aL)).time),.d (.i (({k with held:=dN k.held i,marks:=dQ k.marks (fA (k.held.getD i .zero))}:aL)).next),.d (.sl (aD (({k with held:=dN k.held i,marks:=dQ k.marks (fA (k.held.getD i .zero))}:aL)).held)),.d (.sl (aJ (({k with held:=dN k.held i,marks:=dQ k.marks (fA (k.held.getD i .zero))}:aL)).marks)),.d (.sl (aD (({k with held:=dN k.held i,marks:=dQ k.marks (fA (k.held.getD i .zero))}:aL)).inbox))]]) [] [] (⟨0,rfl,aVa _,rfl⟩) qz
   rintro n s ⟨j,rfl,hj,rfl⟩
   refine sq (sq (rT [3,4,5,7,8,52,53,54,55,56,57,58,59,62,63,64,65,66,67,68,69,75,80,81,82,83,84,85,86,87,88,89,90,91,92,93,94,95,96,97,98,99,100,101,102,103,104,105,106,107,108,109,110,111,112,113,114,115,116,117,118,119,120,121,122] (s5 (cd rfl (fun c75=> ?_) fun c75=> ?_))))
   · have hj2:j< ({k with held:=dN k.held i,marks:=dQ k.marks (fA (k.held.getD i .zero))}:aL).marks.length:=by simpa[aB] using c75
     have hgm:=bM (l:=({k with held:=dN k.held i,marks:=dQ k.marks (fA (k.held.getD i .zero))}:aL).marks) hj2
     have hlm:=aB ({k with held:=dN k.held i,marks:=dQ k.marks (fA (k.held.getD i .zero))}:aL).marks
     have hxl: ({k with held:=dN k.held i,marks:=dQ k.marks (fA (k.held.getD i .zero))}:aL).marks.length=k.marks.length+1:=vJ
     have hkl:=hkb.1
     refine sk (sq (bk (rD [3,4,5,7,8,52,53,54,55,56,57,58,59,62,63,64,65,66,67,68,69,80,81,82,83,84,85,86,87,88,89,90,91,92,93,94,95,96,97,98,99,100,101,102,103,104,105,106,107,108,109,110,111,112,113,114,115,116,117,118,119,120,121,122] (s2 (y3 (ai (fun h=>(by rw[aU4,hgm];exact⟨⟨by omega,by rw[hlm];omega⟩,rfl⟩)) (ai rk (y1 (ai (fun h=>(by rw[aU4,hgm];exact⟨aU6 rfl,rfl⟩)) (ai rk (y3 (ai (fun h=>(by rw[aU4,hg];exact⟨⟨by omega,by rw[hlen];omega⟩,rfl⟩)) (ai rk (y1 (ai (fun h=>(by rw[aU4,hg];exact⟨aU6 rfl,rfl⟩)) (ai rk (y4 (y1 (ai (fun h=>(by rw[aU4,hgm];exact⟨⟨by omega,by rw[hlm];omega⟩,rfl⟩)) (ai rk (y1 (ai (fun h=>(by rw[aU4,hgm];exact⟨aU6 rfl,rfl⟩)) (ai rk (y3 (ai (fun h=>(by rw[aU4,hg];exact⟨⟨by omega,by rw[hlen];omega⟩,rfl⟩)) (ai rk (y1 (ai (fun h=>(by rw[aU4,hg];exact⟨aU6 rfl,rfl⟩)) (ai rk (y1 (ai (fun h=>pk) (ai rk (y4 (ai (fun h=>(by rw[aU4,hgm];exact⟨⟨by omega,by rw[hlm];omega⟩,rfl⟩)) (ai rk (y1 (ai (fun h=>(by rw[aU4,hgm];exact⟨aU6 rfl,rfl⟩)) (ai rk (y3 (ai (fun h=>(by rw[aU4,hg];exact⟨⟨by omega,by rw[hlen];omega⟩,rfl⟩)) (ai rk (y1 (ai (fun h=>(by rw[aU4,hg];exact⟨aU6 rfl,rfl⟩)) (ai rk (y1 (ai (fun h=>pk) (ai rk (ai pk (s1 (ai (by kernel_rfl) (rT [3,4,5,7,8,52,53,54,55,56,57,58,59,62,63,64,65,66,67,68,69,80,81,82,83,84,85,86,87,88,89,90,91,92,93,94,95,96,97,98,99,100,101,102,103,104,105,106,107,108,109,110,111,112,113,114,115,116,117,118,119,120,121,122] (s3 (wq [] [] (⟨({k with held:=dN k.held i,marks:=dQ k.marks (fA (k.held.getD i .zero))}:aL).marks.length - (j+1),by omega,j+1,rfl,by omega,rfl⟩) ?_)))))))))))))))))))))))))))))))))))))))))))))))))))))
     repeat' apply ai
     all_goals first|exact qx|exact congrArg D.i (aE (by omega))|(rw[xb hj2,aU4,aU4,hgm,hg];exact congrArg D.b (by simp[gb,bQ.row,aR.row,gI,av,db]))|rfl|exact qz
   have hje:j=({k with held:=dN k.held i,marks:=dQ k.marks (fA (k.held.getD i .zero))}:aL).marks.length:=by have h9:=of_decide_eq_false c75;rw[aB] at h9;omega
   refine xt (sq (rT [3,4,52,53,54,55,56,57,58,59,62,63,64,65,66,67,68,69,80,81,82,83,84,85,86,87,88,89,90,91,92,93,94,95,96,97,98,99,100,101,102,103,104,105,106,107,108,109,110,111,112,113,114,115,116,117,118,119,120,121,122,125] (s2 (cd rfl (fun c125=> ?_) fun c125=> ?_))))
   · exact absurd c125 (by rw[hje,aVl,List.any_eq_true.2 ⟨fA (k.held.getD i .zero),eP.2 (.inl rfl),by simp[fA]⟩];simp)
   refine sk (rT [3,4,52,53,54,55,56,57,58,59,62,63,64,65,66,67,68,69,80,81,82,83,84,85,86,87,88,89,90,91,92,93,94,95,96,97,98,99,100,101,102,103,104,105,106,107,108,109,110,111,112,113,114,115,116,117,118,119,120,121,122] (s3 (wq [] [] (⟨k.held.length - (i+1),by omega,i+1,rfl,by omega,rfl⟩) ?_)))
   repeat' apply ai
   all_goals first|exact qx|exact congrArg D.i (aE (by omega))|rfl|exact qz
 refine xt (sq (rT [2] (s1 (rt (bH rfl ?_)))))
 rfl
theorem pkb (b:Bool): (b=true→yH (some (gb true b)))∧(b=false→yH none):=⟨fun h=>h,fun _=>True.intro⟩
set_option maxHeartbeats 1600000 in
theorem lp (l:List UInt8) (hl:l.length≤140737488355328):Sp 9 1 [tD 0 (.sl (aC l))] [tB 0 true]:=by
 refine sb Tryz.func9 rfl (sq (rT [0,32,33,34,35,38,39,45,46,47,58,59,60,61,62] (s1 (sq (sq (rT [0,11,32,33,34,35,38,39,45,46,47,58,59,60,61,62] (s3 (cd rfl (fun c11=> ?_) fun c11=> ?_))))))))
 · refine sq (rT [2] (s1 (rt (bH rfl ?_))))
   rfl
 refine sk (sq (rE [3,32,33,34,35,38,39,45,46,47,58,59,60,61,62] (s1 (cK (robj:=[]) (rl:=[]) (bor:=[]) (news:=[]) (qS l hl) rfl rfl rfl rfl ⟨cJ rfl rfl trivial,rfl⟩ (by rintro _ ⟨k,hk,rfl⟩;exact⟨rfl,.inl rfl,fun j hj=>nomatch hj⟩) (fun p hp=>nomatch hp) (fun j hj=>nomatch hj) ?_))))
 rintro _ ⟨k,hk,rfl⟩
 have hkb:=hk.kb
 obtain⟨d9,hd9,hdl,hrt9⟩: ∃d9,d9=kC 999∧d9.length≤3∧jS 999=([116,105,109,101,32]++d9):=⟨_,rfl,bZ (k:=2) (by simp),by unfold jS hG;rfl⟩
 obtain⟨rz,hrt0⟩: ∃rz:List UInt8,rz=([116,105,109,101,32]++d9):=⟨_,rfl⟩
 have hrt:jS 999=rz:=hrt9.trans hrt0.symm
 have hlb:=uB 999 (by decide)
 rw[← hd9] at hlb
 have hkl:rz.length≤900000:=by rw[hrt0];simp only[aU5,aU9,aU8];omega
 have hxb:KB (aO k rz).1:=lM.seven.big
 have hov:=aFw (k:=k)
 rw[hrt] at hov
 refine s2 (sq (rT [3,4,32,33,34,35,38,39,45,46,47,58,59,60,61,62] (xp hlb (ai rfl ?_))))
 refine ai (by show _≤9223372036854775807;simp only[aU9,aU8];omega) (s1 (sq (wa [tP 3 3,tD 4 (.s rz),oB 3 26 [.d (.i (k).id),.d (.i (k).time),.d (.i (k).next),.d (.sl (aD (k).held)),.d (.sl (aJ (k).marks)),.d (.sl (aD (k).inbox))]] [] [] ?_ ?_)))
 · repeat' apply ai
   all_goals first|exact qx|(rw[hrt0];done)|(rw[hrt0];rfl)|exact qz
 refine rT [3,4,5,6,32,33,34,35,38,39,45,46,47,58,59,60,61,62] (s2 (xp (sU k rz hkb hkl) (ai rfl ?_)))
 refine s6 (sq (rT [3,5,6,7,8,32,33,34,35,38,39,45,46,47,58,59,60,61,62] (s2 (xp (gC k rz hkb hkl) (ai rfl ?_)))))
 refine s6 (sq (sq (rT [3,5,6,7,8,40,45,46,47,58,59,60,61,62] (s4 (y2 (xc (fun h=>eZ (aO k rz).1 hxb) (ai rfl (ai rk ?_))))))))
 refine y1 (ai pk (s1 (y2 (ai pk (cd rfl (fun c40=> ?_) fun c40=> ?_)))))
 · have hno: (aO k rz).2=false:=by simpa[gb] using c40
   refine sq (rT [2] (s4 (y2 (xc (fun h=>eZ (aO k rz).1 hxb) (ai rfl (ai rk ?_))))))
   refine ai pk (s1 (rt (bH rfl (congrArg D.b ?_))))
   simp[gb]
 have hdid: (aO k rz).2=true:=by simpa[gb] using c40
 obtain⟨ho1,ho2,hin⟩:=hov hdid
 clear hov hrt hrt9 hd9 hlb hrt0
 generalize aO k rz=X at*
 refine sk (sq (rT [2] (s9 (y4 (xc (fun h=>qQ k.inbox (by have:=hkb.1;omega)) (ai (by rw[hin];rfl) (ai rk ?_)))))))
 refine ai (pkb _) (s1 (rt (bH rfl (congrArg D.b ?_))))
 have hz:wrap64 (0+0)=0:=aE (by omega)
 have e1: ((aD X.1.held).length:Int)=0:=by rw[ho1];rfl
 have e2: ((aJ X.1.marks).length:Int)=0:=by rw[ho2];rfl
 simp only[e1,e2,hz,gb]
 rfl
end Go.Proofs.YtcbjphphppaoiaaGreatDoor
