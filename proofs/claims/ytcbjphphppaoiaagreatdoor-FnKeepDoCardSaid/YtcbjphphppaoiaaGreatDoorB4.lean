/- Plain functions, and contracts of the functions that the law reaches. -/
import Derived.Shelf.Vars
import Derived.Stop.LaidErr
import Derived.MakeChecks
import Derived.Test.YtcbjphphppaoiaaGreatDoorB3
namespace Go.Proofs.YtcbjphphppaoiaaGreatDoor
open Int renaming toNat_natCast→aSd
open List renaming length_append→aSe,length_nil→aSh,length_cons→aSi,length_take→aSk,getD_eq_getElem?_getD→aSl,getElem?_eq_some_iff→aSm,getElem?_eq_getElem→aSn,range→aSp,mem_map→aSq,length_drop→aSr,mem_singleton→aSs,all_eq_true→aSu,take_length→aSv,mem_cons→aSw
open Nat renaming le_of_ble_eq_true→aSf,zero_le→aSj,le_refl→aSo,add_mul→aSt
open Bool renaming and_eq_true→aSg
open Go Go.Ab Go.RowKit
set_option linter.unusedVariables false
set_option linter.unusedSimpArgs false
set_option maxRecDepth 9000
set_option maxHeartbeats 3200000 in
theorem aAt (tm:Int) (ks:List aO) (ls:List Bool) (a b c:Nat) (e:EvR) (hw:tl ks ls a b c) (htx:e.text.length≤1000):tn 134 2 [tV 0 (.e (.agg [.d (.i (tm)),.own 802 4,.own 803 3,ps 804 4 (a),ps 805 5 (b),ps 806 5 (c)])),(.t 1,.v e.V),oR 802 79 5 (aG ks),oR 803 4 1 (aK ls),(.o 804,aI 175 4 fG),(.o 805,aI 29 5 cL),(.o 806,aI 29 5 cL)] (fun s=> ∃(tm:Int) (ks:List aO) (ls:List Bool) (a b c:Nat) (ok:Bool),tl ks ls a b c∧s=[tV 0 (.tup [.agg [.d (.i (tm)),.own 802 4,.own 803 3,ps 804 4 (a),ps 805 5 (b),ps 806 5 (c)],.c (.d (.b (ok)))]),oR 802 79 5 (aG ks),oR 803 4 1 (aK ls),(.o 804,aI 175 4 fG),(.o 805,aI 29 5 cL),(.o 806,aI 29 5 cL)]):=by
 refine uo Tryz.func134 rfl (sq (rT [2,3,4,15,16,17,20,21,22,34,35,36,47,48,49,50,51,52,53,54,55,56] (s4 (sq (rT [2,3,4,15,16,17,20,21,22,34,35,36,47,48,49,50,51,52,53,54,55,56] (s5 (sq (bk (sq (wa [tP 2 2,tP 3 3,tP 4 4,oB 2 84 [.d (.i ((wrap64 (tm+1)))),.own 802 4,.own 803 3,ps 804 4 (a),ps 805 5 (b),ps 806 5 (c)],oB 3 140 [.d (.i e.kind),.d (.i e.at_),.d (.i e.frm),.d (.i e.num),.d (.i e.word),.d (.i e.mix),.d (.i e.keep),.d (.i e.dst),.d (.i e.til),.d (.s e.text)],oB 4 84 [.d (.i 0),.nil,.nil,.nil,.nil,.nil],oR 802 79 5 (aG ks),oR 803 4 1 (aK ls),(.o 804,aI 175 4 fG),(.o 805,aI 29 5 cL),(.o 806,aI 29 5 cL)] [] [] qz (rT [2,3,4,10,34,35,36,47,48,49,50,51,52,53,54,55,56] (s4 (y3 (ai pk (s1 (y3 (ai pk (s1 (cd rfl (fun c10=> ?_) fun c10=> ?_)))))))))))))))))))
 · refine sq (rE [4,5] (s2 (cU (robj:=[(802,.row 79 5 (aG ks)),(803,.row 4 1 (aK ls)),(804,aI 175 4 fG),(805,aI 29 5 cL),(806,aI 29 5 cL)]) (rl:=[]) (bor:=[]) (news:=[]) (nk (wrap64 (tm+1)) ks ls a b c e hw htx) rfl rfl rfl rfl ⟨cY rfl (aD rfl (bI rfl rfl rfl (bI rfl rfl rfl (bD rfl rfl rfl (bD rfl rfl rfl (bD rfl rfl rfl aH)))))) (cY rfl (aD rfl (aD rfl (aD rfl (aD rfl (aD rfl (aD rfl (aD rfl (aD rfl (aD rfl (aD rfl aH)))))))))) (bT rfl rfl (bT rfl rfl (aV rfl rfl (aV rfl rfl (aV rfl rfl trivial)))))),rfl⟩ (by rintro _ ⟨tm2,ks2,ls2,a2,b2,c2,ok2,hw2,rfl⟩;exact⟨rfl,.inl rfl,fun j hj=>nomatch hj⟩) (aJ ⟨rfl,rfl,rfl,rfl,rfl,trivial⟩) (fun j hj=>nomatch hj) ?_)))
   rintro _ ⟨tm2,ks2,ls2,a2,b2,c2,ok2,hw2,rfl⟩
   refine s4 (rt (cS [tV 0 (.tup [.agg [.d (.i (tm2)),.own 802 4,.own 803 3,ps 804 4 (a2),ps 805 5 (b2),ps 806 5 (c2)],.c (.d (.b (ok2)))]),oR 802 79 5 (aG ks2),oR 803 4 1 (aK ls2),(.o 804,aI 175 4 fG),(.o 805,aI 29 5 cL),(.o 806,aI 29 5 cL)] ⟨tm2,ks2,ls2,a2,b2,c2,ok2,hw2,rfl⟩ (rq [] [] rfl ?_)))
   repeat' apply ai
   all_goals try exact qx
   all_goals(first|with_reducible rfl|(rw[hi,aSd];exact bE (by rw[hw.four];exact hil))|rfl)
 refine sq (rT [2,3,4,29,47,48,49,50,51,52,53,54,55,56] (s4 (y3 (ai pk (s1 (cd rfl (fun c29=> ?_) fun c29=> ?_))))))
 · refine sq (sq (rD [2,3,4,57] (s4 (ai (by exact(cO ls).trans hw.three) (s1 (xp (dC _ _ _) (ai rfl ?_)))))))
   refine s2 (y4 (ai (fun h=>(by obtain⟨i,hi,hil⟩: ∃i:Nat,e.at_=(i:Int)∧i<3:=(by simp[gb,gX,cO,hw.three,wrap64] at h;exact⟨e.at_.toNat,by omega,by omega⟩);rw[hi];exact⟨by rw[cO];exact hw.three,by omega,by omega⟩)) (ai rk (ai (fun h=>(by obtain⟨i,hi,hil⟩: ∃i:Nat,e.at_=(i:Int)∧i<3:=(by simp[gb,gX,cO,hw.three,wrap64] at h;exact⟨e.at_.toNat,by omega,by omega⟩);rw[hi,aSd,kH (by rw[hw.three];exact hil)];exact⟨⟨by rw[cO];exact hw.three,hil⟩,aSf rfl,rfl⟩)) (ai rk (y4 (ai pk (ai (by kernel_rfl) (cd rfl (fun c57=> ?_) fun c57=> ?_)))))))))
   · refine sq (rT [4,5] (s3 (rt (cS [tV 0 (.tup [.agg [.d (.i ((wrap64 (tm+1)))),.own 802 4,.own 803 3,ps 804 4 (a),ps 805 5 (b),ps 806 5 (c)],.c (.d (.b (false)))]),oR 802 79 5 (aG ks),oR 803 4 1 (aK ls),(.o 804,aI 175 4 fG),(.o 805,aI 29 5 cL),(.o 806,aI 29 5 cL)] ⟨(wrap64 (tm+1)),ks,ls,a,b,c,false,hw,rfl⟩ (rq [] [] rfl ?_)))))
     repeat' apply ai
     all_goals try exact qx
     all_goals(first|with_reducible rfl|(rw[hi,aSd];exact bE (by rw[hw.four];exact hil))|rfl)
   have hat3:0≤e.at_∧e.at_≤2:=by simp[gb,gX,cO,hw.three,wrap64] at c57;omega
   refine sk (sq ?_)
   obtain⟨i,hi,hil⟩: ∃i:Nat,e.at_=(i:Int)∧i<3:=⟨e.at_.toNat,by omega,by omega⟩
   refine rT [2,4] (s7 (ai (by rw[hi];exact⟨by rw[cO];exact hw.three,by omega,by omega⟩) (ai (by rw[hi,aSd,kH (by rw[hw.three];exact hil)];exact⟨by rw[cO];exact hw.three,hil,rfl,aSf rfl⟩) (sq (rT [4,5] (s3 (rt (cS [tV 0 (.tup [.agg [.d (.i ((wrap64 (tm+1)))),.own 802 4,.own 803 3,ps 804 4 (a),ps 805 5 (b),ps 806 5 (c)],.c (.d (.b (true)))]),oR 802 79 5 (aG ks),oR 803 4 1 (aK (ls.set i (e.kind==9))),(.o 804,aI 175 4 fG),(.o 805,aI 29 5 cL),(.o 806,aI 29 5 cL)] ⟨(wrap64 (tm+1)),ks,(ls.set i (e.kind==9)),a,b,c,true,(hw.links (by rw[List.length_set];exact hw.three)),rfl⟩ (rq [] [] rfl ?_)))))))))
   repeat' apply ai
   all_goals try exact qx
   all_goals(first|with_reducible rfl|(rw[hi,aSd];exact aAn (by rw[hw.three];exact hil))|rfl)
 refine sq (rT [2,3,4,68] (s2 (xp (cW _) (ai rfl ?_))))
 refine s2 (cd rfl (fun c68=> ?_) fun c68=> ?_)
 · refine sq (rT [4,5] (s3 (rt (cS [tV 0 (.tup [.agg [.d (.i ((wrap64 (tm+1)))),.own 802 4,.own 803 3,ps 804 4 (a),ps 805 5 (b),ps 806 5 (c)],.c (.d (.b (false)))]),oR 802 79 5 (aG ks),oR 803 4 1 (aK ls),(.o 804,aI 175 4 fG),(.o 805,aI 29 5 cL),(.o 806,aI 29 5 cL)] ⟨(wrap64 (tm+1)),ks,ls,a,b,c,false,hw,rfl⟩ (rq [] [] rfl ?_)))))
   repeat' apply ai
   all_goals try exact qx
   all_goals(first|with_reducible rfl|(rw[hi,aSd];exact bE (by rw[hw.four];exact hil))|rfl)
 have hat:0≤e.at_∧e.at_≤3:=by simp[eB,gX] at c68;omega
 refine sk (sq (rE [4,5] (s2 (cU (robj:=[(802,.row 79 5 (aG ks)),(803,.row 4 1 (aK ls)),(804,aI 175 4 fG),(805,aI 29 5 cL),(806,aI 29 5 cL)]) (rl:=[]) (bor:=[]) (news:=[]) (li (wrap64 (tm+1)) ks ls a b c e hw htx hat) rfl rfl rfl rfl ⟨cY rfl (aD rfl (bI rfl rfl rfl (bI rfl rfl rfl (bD rfl rfl rfl (bD rfl rfl rfl (bD rfl rfl rfl aH)))))) (cY rfl (aD rfl (aD rfl (aD rfl (aD rfl (aD rfl (aD rfl (aD rfl (aD rfl (aD rfl (aD rfl aH)))))))))) (bT rfl rfl (bT rfl rfl (aV rfl rfl (aV rfl rfl (aV rfl rfl trivial)))))),rfl⟩ (by rintro _ ⟨tm2,ks2,ls2,a2,b2,c2,ok2,hw2,rfl⟩;exact⟨rfl,.inl rfl,fun j hj=>nomatch hj⟩) (aJ ⟨rfl,rfl,rfl,rfl,rfl,trivial⟩) (fun j hj=>nomatch hj) ?_))))
 rintro _ ⟨tm2,ks2,ls2,a2,b2,c2,ok2,hw2,rfl⟩
 refine s4 (rt (cS [tV 0 (.tup [.agg [.d (.i (tm2)),.own 802 4,.own 803 3,ps 804 4 (a2),ps 805 5 (b2),ps 806 5 (c2)],.c (.d (.b (ok2)))]),oR 802 79 5 (aG ks2),oR 803 4 1 (aK ls2),(.o 804,aI 175 4 fG),(.o 805,aI 29 5 cL),(.o 806,aI 29 5 cL)] ⟨tm2,ks2,ls2,a2,b2,c2,ok2,hw2,rfl⟩ (rq [] [] rfl ?_)))
 repeat' apply ai
 all_goals try exact qx
 all_goals(first|with_reducible rfl|(rw[hi,aSd];exact bE (by rw[hw.four];exact hil))|rfl)
set_option maxHeartbeats 3200000 in
theorem bt (l:List UInt8) (p:Int) (W:eS) (e:EvR) (hW:W.ok) (htx:e.text.length≤1000) (hd:W.d≤100000):tn 119 2 [tP 0 800,(.t 1,.v e.V),oB 800 87 [.pt 801 0,.d (.i (W.tm)),.own 802 4,.own 803 3,ps 804 4 (W.a),ps 805 5 (W.b),ps 806 5 (W.c),ps 807 10 (W.d)],oB 801 92 [.d (.sl (aC l)),.d (.i (p))],oR 802 79 5 (aG W.ks),oR 803 4 1 (aK W.ls),(.o 804,aI 175 4 fG),(.o 805,aI 29 5 cL),(.o 806,aI 29 5 cL),(.o 807,aI 140 10 iU)] (fun s=> ∃(W2:eS) (ok:Bool),W2.of W 1∧s=[tB 0 ok,oB 800 87 [.pt 801 0,.d (.i (W2.tm)),.own 802 4,.own 803 3,ps 804 4 (W2.a),ps 805 5 (W2.b),ps 806 5 (W2.c),ps 807 10 (W2.d)],oB 801 92 [.d (.sl (aC l)),.d (.i (p))],oR 802 79 5 (aG W2.ks),oR 803 4 1 (aK W2.ls),(.o 804,aI 175 4 fG),(.o 805,aI 29 5 cL),(.o 806,aI 29 5 cL),(.o 807,aI 140 10 iU)]):=by
 refine uo Tryz.func119 rfl (sq (rT [0,3] (s2 (sq (SW.regDE dQ mo [0,3,5,6] 5 (fun i=>if i=9 then some ([(.o 5,none)],[oB 5 84 [.d (.i 0),.nil,.nil,.nil,.nil,.nil],tP 5 5]) else none) rfl rfl (by kernel_rfl) ?_)))))
 refine s5 (uJ (robj:=[(802,.row 79 5 (aG W.ks)),(803,.row 4 1 (aK W.ls)),(804,aI 175 4 fG),(805,aI 29 5 cL),(806,aI 29 5 cL)]) (rl:=[]) (bor:=[]) (news:=[]) (aAt W.tm W.ks W.ls W.a W.b W.c e hW htx) rfl rfl rfl rfl ⟨cY rfl (aD rfl (bI rfl rfl rfl (bI rfl rfl rfl (bD rfl rfl rfl (bD rfl rfl rfl (bD rfl rfl rfl aH)))))) (cY rfl (aD rfl (aD rfl (aD rfl (aD rfl (aD rfl (aD rfl (aD rfl (aD rfl (aD rfl (aD rfl aH)))))))))) (bT rfl rfl (bT rfl rfl (aV rfl rfl (aV rfl rfl (aV rfl rfl trivial)))))),rfl⟩ (by rintro _ ⟨tm2,ks2,ls2,a2,b2,c2,ok2,hw2,rfl⟩;exact⟨rfl,.inl rfl,fun j hj=>nomatch hj⟩) (aJ ⟨rfl,rfl,rfl,rfl,rfl,trivial⟩) (fun j hj=>nomatch hj) ⟨_,W.tm,W.ks,W.ls,W.a,W.b,W.c,false,hW,rfl⟩ ?_)
 rintro _ ⟨tm2,ks2,ls2,a2,b2,c2,ok2,hw2,rfl⟩
 refine s7 (ai rfl (s4 (ai (by kernel_rfl) (sq (sq (rT [0,3,5,6,16] (s1 (cd rfl (fun c16=> ?_) fun c16=> ?_))))))))
 · refine sq (rT [0,3,6] (s5 (rX [6] (sx dQ rfl vc (sx dQ rfl vc (sx dQ rfl vc (sx dQ rfl vc (sx dQ rfl vc (sx dQ rfl vc (sx dQ rfl vc (jq (m:=1) (z:=[.i 0,.i 0,.i 0,.i 0,.i 0,.i 0,.i 0,.i 0,.i 0,.s []]) dQ rfl rfl rfl rfl rfl rfl rfl rfl trivial (fg dQ (by decide) rfl rfl rfl (fun r hr=>⟨by rw[aSs.1 hr];rfl,trivial⟩) rfl) (by show(_+1)*88≤_;omega) (sx dQ rfl vc (sx dQ rfl vc (sx dQ rfl ⟨by kernel_rfl,aSf (by kernel_rfl)⟩ (⟨by kernel_rfl,?_⟩)))))))))))))))
   refine sq (rT [4] (s2 (rt ?_)))
   first
   |(refine cS [tB 0 (ok2),oB 800 87 [.pt 801 0,.d (.i ((eS.mk tm2 ks2 ls2 a2 b2 c2 (W.d+1)).tm)),.own 802 4,.own 803 3,ps 804 4 ((eS.mk tm2 ks2 ls2 a2 b2 c2 (W.d+1)).a),ps 805 5 ((eS.mk tm2 ks2 ls2 a2 b2 c2 (W.d+1)).b),ps 806 5 ((eS.mk tm2 ks2 ls2 a2 b2 c2 (W.d+1)).c),ps 807 10 ((eS.mk tm2 ks2 ls2 a2 b2 c2 (W.d+1)).d)],oB 801 92 [.d (.sl (aC l)),.d (.i (p))],oR 802 79 5 (aG (eS.mk tm2 ks2 ls2 a2 b2 c2 (W.d+1)).ks),oR 803 4 1 (aK (eS.mk tm2 ks2 ls2 a2 b2 c2 (W.d+1)).ls),(.o 804,aI 175 4 fG),(.o 805,aI 29 5 cL),(.o 806,aI 29 5 cL),(.o 807,aI 140 10 iU)] ⟨(eS.mk tm2 ks2 ls2 a2 b2 c2 (W.d+1)),ok2,⟨hw2,aSo _⟩,rfl⟩ (rq [] [] rfl ?_)
     repeat' apply ai
     all_goals try exact qx
     all_goals(first|with_reducible rfl|(rfl)))
   |(refine cS [tB 0 (ok2),oB 800 87 [.pt 801 0,.d (.i ((eS.mk W.tm ks2 ls2 W.a W.b W.c W.d).tm)),.own 802 4,.own 803 3,ps 804 4 ((eS.mk W.tm ks2 ls2 W.a W.b W.c W.d).a),ps 805 5 ((eS.mk W.tm ks2 ls2 W.a W.b W.c W.d).b),ps 806 5 ((eS.mk W.tm ks2 ls2 W.a W.b W.c W.d).c),ps 807 10 ((eS.mk W.tm ks2 ls2 W.a W.b W.c W.d).d)],oB 801 92 [.d (.sl (aC l)),.d (.i (p))],oR 802 79 5 (aG (eS.mk W.tm ks2 ls2 W.a W.b W.c W.d).ks),oR 803 4 1 (aK (eS.mk W.tm ks2 ls2 W.a W.b W.c W.d).ls),(.o 804,aI 175 4 fG),(.o 805,aI 29 5 cL),(.o 806,aI 29 5 cL),(.o 807,aI 140 10 iU)] ⟨(eS.mk W.tm ks2 ls2 W.a W.b W.c W.d),ok2,⟨hw2.to hW.ra hW.rb hW.rc,by show W.d≤_;omega⟩,rfl⟩ (rq [] [] rfl ?_)
     repeat' apply ai
     all_goals try exact qx
     all_goals(first|with_reducible rfl|(rfl)))
 refine sk (sq (rT [4] (s2 (rt ?_))))
 first
 |(refine cS [tB 0 (ok2),oB 800 87 [.pt 801 0,.d (.i ((eS.mk tm2 ks2 ls2 a2 b2 c2 (W.d+1)).tm)),.own 802 4,.own 803 3,ps 804 4 ((eS.mk tm2 ks2 ls2 a2 b2 c2 (W.d+1)).a),ps 805 5 ((eS.mk tm2 ks2 ls2 a2 b2 c2 (W.d+1)).b),ps 806 5 ((eS.mk tm2 ks2 ls2 a2 b2 c2 (W.d+1)).c),ps 807 10 ((eS.mk tm2 ks2 ls2 a2 b2 c2 (W.d+1)).d)],oB 801 92 [.d (.sl (aC l)),.d (.i (p))],oR 802 79 5 (aG (eS.mk tm2 ks2 ls2 a2 b2 c2 (W.d+1)).ks),oR 803 4 1 (aK (eS.mk tm2 ks2 ls2 a2 b2 c2 (W.d+1)).ls),(.o 804,aI 175 4 fG),(.o 805,aI 29 5 cL),(.o 806,aI 29 5 cL),(.o 807,aI 140 10 iU)] ⟨(eS.mk tm2 ks2 ls2 a2 b2 c2 (W.d+1)),ok2,⟨hw2,aSo _⟩,rfl⟩ (rq [] [] rfl ?_)
   repeat' apply ai
   all_goals try exact qx
   all_goals(first|with_reducible rfl|(rfl)))
 |(refine cS [tB 0 (ok2),oB 800 87 [.pt 801 0,.d (.i ((eS.mk W.tm ks2 ls2 W.a W.b W.c W.d).tm)),.own 802 4,.own 803 3,ps 804 4 ((eS.mk W.tm ks2 ls2 W.a W.b W.c W.d).a),ps 805 5 ((eS.mk W.tm ks2 ls2 W.a W.b W.c W.d).b),ps 806 5 ((eS.mk W.tm ks2 ls2 W.a W.b W.c W.d).c),ps 807 10 ((eS.mk W.tm ks2 ls2 W.a W.b W.c W.d).d)],oB 801 92 [.d (.sl (aC l)),.d (.i (p))],oR 802 79 5 (aG (eS.mk W.tm ks2 ls2 W.a W.b W.c W.d).ks),oR 803 4 1 (aK (eS.mk W.tm ks2 ls2 W.a W.b W.c W.d).ls),(.o 804,aI 175 4 fG),(.o 805,aI 29 5 cL),(.o 806,aI 29 5 cL),(.o 807,aI 140 10 iU)] ⟨(eS.mk W.tm ks2 ls2 W.a W.b W.c W.d),ok2,⟨hw2.to hW.ra hW.rb hW.rc,by show W.d≤_;omega⟩,rfl⟩ (rq [] [] rfl ?_)
   repeat' apply ai
   all_goals try exact qx
   all_goals(first|with_reducible rfl|(rfl)))
set_option maxHeartbeats 3200000 in
theorem aQi (l:List UInt8) (p:Int) (W:eS) (hp:0≤p∧p≤900000) (hl:l.length≤2000) (hW:W.ok) (hd:W.d≤99000):tn 135 1 [tP 0 800,oB 800 87 [.pt 801 0,.d (.i (W.tm)),.own 802 4,.own 803 3,ps 804 4 (W.a),ps 805 5 (W.b),ps 806 5 (W.c),ps 807 10 (W.d)],oB 801 92 [.d (.sl (aC l)),.d (.i (p))],oR 802 79 5 (aG W.ks),oR 803 4 1 (aK W.ls),(.o 804,aI 175 4 fG),(.o 805,aI 29 5 cL),(.o 806,aI 29 5 cL),(.o 807,aI 140 10 iU)] (fun s=> ∃(i:Int) (n:bB) (ok:Bool) (q:Int),(p≤q∧q≤p+2)∧s=[tV 0 (.tup [.c (.d (.i i)),.agg [.d (.i n.frm),.d (.i n.num),.d (.i n.to),.d (.i n.til),.d (.s n.text)],.c (.d (.b ok))]),oB 800 87 [.pt 801 0,.d (.i (W.tm)),.own 802 4,.own 803 3,ps 804 4 (W.a),ps 805 5 (W.b),ps 806 5 (W.c),ps 807 10 (W.d)],oB 801 92 [.d (.sl (aC l)),.d (.i (q))],oR 802 79 5 (aG W.ks),oR 803 4 1 (aK W.ls),(.o 804,aI 175 4 fG),(.o 805,aI 29 5 cL),(.o 806,aI 29 5 cL),(.o 807,aI 140 10 iU)]):=by
 refine uo Tryz.func135 rfl (sq (rT [0,3] (s3 (sq (rT [0,3,5] (s4 (bH (robj:=[(801,.box 92 [.d (.sl (aC (l))),.d (.i (p))])]) (rl:=[(0,801)]) (bor:=[]) (cP (l) (p) _ (by omega) hl) rfl rfl rfl rfl ⟨bU rfl rfl rfl rfl (cK rfl rfl (aW rfl (aD rfl (aD rfl aH)) trivial)),rfl⟩ rfl (.inl rfl) (aJ ⟨rfl,trivial⟩) (fun _ hj=>nomatch hj) (s1 (sq (sq (rT [0,3,5,6] (s1 (bk ?_)))))))))))))
 obtain⟨i0,hi0,hil0⟩:=xW (show 0≤aP l p 4∧aP l p 4≤3 by have:=cE l (p:=p) (n:=4) (by omega) (by omega);omega)
 refine SW.loopW (n:=4) (fun n s=> ∃i m:Nat,n=4 - m∧(i<4∧m≤4)∧s=[tP 0 800,tP 3 3,tI 5 (i:Nat),tI 6 (m:Nat),oB 800 87 [.pt 801 0,.d (.i (W.tm)),.own 802 4,.own 803 3,ps 804 4 (W.a),ps 805 5 (W.b),ps 806 5 (W.c),ps 807 10 (W.d)],oB 801 92 [.d (.sl (aC l)),.d (.i ((p+1)))],oR 802 79 5 (aG W.ks),oR 803 4 1 (aK W.ls),(.o 804,aI 175 4 fG),(.o 805,aI 29 5 cL),(.o 806,aI 29 5 cL),(.o 807,aI 140 10 iU),oB 3 29 [.d (.i bB.zero.frm),.d (.i bB.zero.num),.d (.i bB.zero.to),.d (.i bB.zero.til),.d (.s bB.zero.text)]]) ?_ ?_
 · refine wq [] [] (⟨i0,0,rfl,⟨hil0,by omega⟩,rfl⟩) ?_
   repeat' apply ai
   all_goals first|exact qx|exact congrArg D.i hi0|rfl|exact qz
 rintro n s ⟨i,m,rfl,him,rfl⟩
 refine sq (sq (rT [0,3,5,6,15] (s2 (cd rfl (fun c15=> ?_) fun c15=> ?_))))
 · have hm4:m<4:=by simp at c15;omega
   refine sk (sq (bk (sq (rT [0,3,5,6,7] (s6 (ai (by exact⟨by rw[bC];exact hW.four,by omega,by omega⟩) (ai (by rw[aSd,bW (by rw[hW.four];omega)];exact⟨⟨by rw[bC];exact hW.four,by omega⟩,aSf rfl,rfl⟩) (xp (gE (W.ks.getD i .zero) (by have:=(hW.at (show i<4 by omega)).1;omega)) (ai (by rw[aSd,bW (by rw[hW.four];omega)];rfl) ?_)))))))))
   refine s6 (sq (sq (rT [0,3,5,6,7,33] (s4 (cd rfl (fun c33=> ?_) fun c33=> ?_)))))
   · refine sq ?_
     have hn0:0< (aZ (W.ks.getD i .zero)).1.held.length:=by have h9:=of_decide_eq_true c33;rw[aA] at h9;omega
     obtain⟨j,hj,hjl⟩: ∃j:Nat,aP l (p+1) ((aE (aZ (W.ks.getD i .zero)).1.held).length:Int)=(j:Int)∧j< (aZ (W.ks.getD i .zero)).1.held.length:=by have:=cE l (p:=p+1) (n:=((aE (aZ (W.ks.getD i .zero)).1.held).length:Int)) (by omega) (by rw[aA];omega);rw[aA] at *; exact⟨(aP l (p+1) ((aZ (W.ks.getD i .zero)).1.held.length:Int)).toNat,by omega,by omega⟩
     refine rD [2,3,4] (s9 (s1 (bH (robj:=[(801,.box 92 [.d (.sl (aC (l))),.d (.i ((p+1)))])]) (rl:=[(0,801)]) (bor:=[]) (cP (l) ((p+1)) _ (by omega) hl) rfl rfl rfl rfl ⟨bU rfl rfl rfl rfl (cK rfl rfl (aW rfl (aD rfl (aD rfl aH)) trivial)),rfl⟩ rfl (.inl rfl) (aJ ⟨rfl,trivial⟩) (fun _ hj=>nomatch hj) (ai (by rw[hj,aSd,aQ hjl];exact⟨⟨by omega,by rw[aA];omega⟩,rfl⟩) (ai (by rw[hj,aSd,aQ hjl];exact⟨aSf rfl,rfl⟩) (s3 (ai (by kernel_rfl) (rt (cS [tV 0 (.tup [.c (.d (.i (i:Nat))),.agg [.d (.i ((aZ (W.ks.getD i .zero)).1.held.getD j .zero).frm),.d (.i ((aZ (W.ks.getD i .zero)).1.held.getD j .zero).num),.d (.i ((aZ (W.ks.getD i .zero)).1.held.getD j .zero).to),.d (.i ((aZ (W.ks.getD i .zero)).1.held.getD j .zero).til),.d (.s ((aZ (W.ks.getD i .zero)).1.held.getD j .zero).text)],.c (.d (.b true))]),oB 800 87 [.pt 801 0,.d (.i (W.tm)),.own 802 4,.own 803 3,ps 804 4 (W.a),ps 805 5 (W.b),ps 806 5 (W.c),ps 807 10 (W.d)],oB 801 92 [.d (.sl (aC l)),.d (.i ((p+1+1)))],oR 802 79 5 (aG W.ks),oR 803 4 1 (aK W.ls),(.o 804,aI 175 4 fG),(.o 805,aI 29 5 cL),(.o 806,aI 29 5 cL),(.o 807,aI 140 10 iU)] ⟨(i:Nat),(aZ (W.ks.getD i .zero)).1.held.getD j .zero,true,p+1+1,⟨by omega,by omega⟩,rfl⟩ ?_)))))))))
     refine rq [] [] rfl ?_
     repeat' apply ai
     all_goals try exact qx
     all_goals(first|with_reducible rfl|((rw[hj,aSd,aQ hjl];rfl)))
   refine sk (rT [0,3,5,6] (s2 (ai (by decide) (s1 (rT [0,3,5,6] (s3 (wq [] [] (⟨4 - (m+1),by omega,(i+1) % 4,m+1,rfl,⟨by omega,by omega⟩,rfl⟩) ?_)))))))
   repeat' apply ai
   all_goals first|exact qx|(refine congrArg D.i ?_;rw[aF (by omega)];omega)|(refine congrArg D.i ?_;rw[aF (n:=(i:Int)+1) (by omega),Int.tmod_eq_emod_of_nonneg (by omega)];omega)|exact qz
 refine xt (sq (rT [2,3,4] (s4 (rt (cS [tV 0 (.tup [.c (.d (.i 0)),.agg [.d (.i bB.zero.frm),.d (.i bB.zero.num),.d (.i bB.zero.to),.d (.i bB.zero.til),.d (.s bB.zero.text)],.c (.d (.b false))]),oB 800 87 [.pt 801 0,.d (.i (W.tm)),.own 802 4,.own 803 3,ps 804 4 (W.a),ps 805 5 (W.b),ps 806 5 (W.c),ps 807 10 (W.d)],oB 801 92 [.d (.sl (aC l)),.d (.i ((p+1)))],oR 802 79 5 (aG W.ks),oR 803 4 1 (aK W.ls),(.o 804,aI 175 4 fG),(.o 805,aI 29 5 cL),(.o 806,aI 29 5 cL),(.o 807,aI 140 10 iU)] ⟨0,.zero,false,p+1,⟨by omega,by omega⟩,rfl⟩ (rq [] [] rfl ?_))))))
 repeat' apply ai
 all_goals try exact qx
 all_goals(first|with_reducible rfl|(rfl))
set_option maxHeartbeats 3200000 in
theorem aOs (l:List UInt8) (p:Int) (W:eS) (hp:0≤p∧p≤900000) (hl:l.length≤2000) (hW:W.ok) (hd:W.d≤99000):tn 97 1 [tP 0 800,oB 800 87 [.pt 801 0,.d (.i (W.tm)),.own 802 4,.own 803 3,ps 804 4 (W.a),ps 805 5 (W.b),ps 806 5 (W.c),ps 807 10 (W.d)],oB 801 92 [.d (.sl (aC l)),.d (.i (p))],oR 802 79 5 (aG W.ks),oR 803 4 1 (aK W.ls),(.o 804,aI 175 4 fG),(.o 805,aI 29 5 cL),(.o 806,aI 29 5 cL),(.o 807,aI 140 10 iU)] (fun s=> ∃(W2:eS) (q:Int),(W2.of W 1∧p≤q∧q≤p+10)∧s=[oB 800 87 [.pt 801 0,.d (.i (W2.tm)),.own 802 4,.own 803 3,ps 804 4 (W2.a),ps 805 5 (W2.b),ps 806 5 (W2.c),ps 807 10 (W2.d)],oB 801 92 [.d (.sl (aC l)),.d (.i (q))],oR 802 79 5 (aG W2.ks),oR 803 4 1 (aK W2.ls),(.o 804,aI 175 4 fG),(.o 805,aI 29 5 cL),(.o 806,aI 29 5 cL),(.o 807,aI 140 10 iU)]):=by
 have hall: ∀y∈([[97],[104,101,108,108,111],[97,32,108,111,110,103,101,114,32,109,101,115,115,97,103,101],[97,98,99,100],[49,50,51,52,53,54,55,56],[106,117,115,116,32,116,119,101,110,116,121,45,102,111,117,114,32,98,121,116,101,115,32,33,33],[109,105,120,101,100,32,98,108,111,99,107,115]]:List (List UInt8)),y.length≤60:=by decide
 refine uo Tryz.func97 rfl (sq (rT [0,2] (s4 (bH (robj:=[(801,.box 92 [.d (.sl (aC (l))),.d (.i (p))])]) (rl:=[(0,801)]) (bor:=[]) (cP (l) (p) _ (by omega) hl) rfl rfl rfl rfl ⟨bU rfl rfl rfl rfl (cK rfl rfl (aW rfl (aD rfl (aD rfl aH)) trivial)),rfl⟩ rfl (.inl rfl) (aJ ⟨rfl,trivial⟩) (fun _ hj=>nomatch hj) (s1 (sq ?_))))))
 obtain⟨i,hi,hil⟩:=xW (show 0≤aP l p 4∧aP l p 4≤3 by have:=cE l (p:=p) (n:=4) (by omega) (by omega);omega)
 refine rE [0,2,3] (s4 (ai (by exact⟨by simp,by decide⟩) (wW 15 15 rfl rfl rfl rfl (cU (robj:=[(801,.box 92 [.d (.sl (aC (l))),.d (.i (p+1))])]) (rl:=[(0,801)]) (bor:=[]) (news:=[]) (aJc (l) (p+1) (([[97],[104,101,108,108,111],[97,32,108,111,110,103,101,114,32,109,101,115,115,97,103,101],[97,98,99,100],[49,50,51,52,53,54,55,56],[106,117,115,116,32,116,119,101,110,116,121,45,102,111,117,114,32,98,121,116,101,115,32,33,33],[109,105,120,101,100,32,98,108,111,99,107,115]]:List (List UInt8))) (by simp) (by omega) hl) rfl rfl rfl rfl ⟨bU rfl rfl rfl rfl (cK rfl rfl (aW rfl (aD rfl (aD rfl aH)) trivial)),rfl⟩ (by rintro _ ⟨x,hx,rfl⟩;exact⟨rfl,.inl rfl,fun j hj=>nomatch hj⟩) (aJ ⟨rfl,trivial⟩) (fun j hj=>nomatch hj) ?_))))
 rintro _ ⟨x,hx,rfl⟩
 refine s1 (SW.midW (fun q=> ∃x2:List UInt8,x2.length≤60∧q=[tP 0 800,tI 2 (i:Nat),tD 3 (.s x2),oB 800 87 [.pt 801 0,.d (.i (W.tm)),.own 802 4,.own 803 3,ps 804 4 (W.a),ps 805 5 (W.b),ps 806 5 (W.c),ps 807 10 (W.d)],oB 801 92 [.d (.sl (aC l)),.d (.i ((p+1+1)))],oR 802 79 5 (aG W.ks),oR 803 4 1 (aK W.ls),(.o 804,aI 175 4 fG),(.o 805,aI 29 5 cL),(.o 806,aI 29 5 cL),(.o 807,aI 140 10 iU)]) ?_ ?_)
 · refine sq (rT [0,2,3,19] (s3 (cd rfl (fun c19=> ?_) fun c19=> ?_)))
   · refine rT [0,2,3] (s1 (ai (by simp[bnd,fE,gF] at *; omega) (s1 ?_)))
     first
     |(refine wq (σ':=[tP 0 800,tI 2 (i:Nat),tD 3 (.s (x.take 24)),oB 800 87 [.pt 801 0,.d (.i (W.tm)),.own 802 4,.own 803 3,ps 804 4 (W.a),ps 805 5 (W.b),ps 806 5 (W.c),ps 807 10 (W.d)],oB 801 92 [.d (.sl (aC l)),.d (.i ((p+1+1)))],oR 802 79 5 (aG W.ks),oR 803 4 1 (aK W.ls),(.o 804,aI 175 4 fG),(.o 805,aI 29 5 cL),(.o 806,aI 29 5 cL),(.o 807,aI 140 10 iU)]) [] [] (⟨_,by rw[aSk];omega,rfl⟩) ?_
       repeat' apply ai
       all_goals try exact qx
       all_goals first|with_reducible rfl|exact congrArg D.i hi|rfl)
     |(refine wq (σ':=[tP 0 800,tI 2 (i:Nat),tD 3 (.s x),oB 800 87 [.pt 801 0,.d (.i (W.tm)),.own 802 4,.own 803 3,ps 804 4 (W.a),ps 805 5 (W.b),ps 806 5 (W.c),ps 807 10 (W.d)],oB 801 92 [.d (.sl (aC l)),.d (.i ((p+1+1)))],oR 802 79 5 (aG W.ks),oR 803 4 1 (aK W.ls),(.o 804,aI 175 4 fG),(.o 805,aI 29 5 cL),(.o 806,aI 29 5 cL),(.o 807,aI 140 10 iU)]) [] [] (⟨_,hall x hx,rfl⟩) ?_
       repeat' apply ai
       all_goals try exact qx
       all_goals first|with_reducible rfl|exact congrArg D.i hi|rfl)
   refine sk ?_
   first
   |(refine wq (σ':=[tP 0 800,tI 2 (i:Nat),tD 3 (.s (x.take 24)),oB 800 87 [.pt 801 0,.d (.i (W.tm)),.own 802 4,.own 803 3,ps 804 4 (W.a),ps 805 5 (W.b),ps 806 5 (W.c),ps 807 10 (W.d)],oB 801 92 [.d (.sl (aC l)),.d (.i ((p+1+1)))],oR 802 79 5 (aG W.ks),oR 803 4 1 (aK W.ls),(.o 804,aI 175 4 fG),(.o 805,aI 29 5 cL),(.o 806,aI 29 5 cL),(.o 807,aI 140 10 iU)]) [] [] (⟨_,by rw[aSk];omega,rfl⟩) ?_
     repeat' apply ai
     all_goals try exact qx
     all_goals first|with_reducible rfl|exact congrArg D.i hi|rfl)
   |(refine wq (σ':=[tP 0 800,tI 2 (i:Nat),tD 3 (.s x),oB 800 87 [.pt 801 0,.d (.i (W.tm)),.own 802 4,.own 803 3,ps 804 4 (W.a),ps 805 5 (W.b),ps 806 5 (W.c),ps 807 10 (W.d)],oB 801 92 [.d (.sl (aC l)),.d (.i ((p+1+1)))],oR 802 79 5 (aG W.ks),oR 803 4 1 (aK W.ls),(.o 804,aI 175 4 fG),(.o 805,aI 29 5 cL),(.o 806,aI 29 5 cL),(.o 807,aI 140 10 iU)]) [] [] (⟨_,hall x hx,rfl⟩) ?_
     repeat' apply ai
     all_goals try exact qx
     all_goals first|with_reducible rfl|exact congrArg D.i hi|rfl)
 rintro s ⟨x2,hx2,rfl⟩
 refine sq (rT [0,2,3,4] (s6 (ai (by exact⟨by rw[bC];exact hW.four,by omega,by omega⟩) (ai (by rw[aSd,bW (by rw[hW.four];omega)];exact⟨⟨by rw[bC];exact hW.four,by omega⟩,aSf rfl,rfl⟩) (xp (gE (W.ks.getD i .zero) (by have:=(hW.at (show i<4 by omega)).1;omega)) (ai (by rw[aSd,bW (by rw[hW.four];omega)];rfl) ?_))))))
 refine s6 (SW.regDE dQ mo [] 18 (fun _=>none) rfl rfl (by kernel_rfl) ?_)
 refine s6 (bH (robj:=[(801,.box 92 [.d (.sl (aC (l))),.d (.i (p+1+1))])]) (rl:=[(0,801)]) (bor:=[]) (cP (l) (p+1+1) _ (by omega) hl) rfl rfl rfl rfl ⟨bU rfl rfl rfl rfl (cK rfl rfl (aW rfl (aD rfl (aD rfl aH)) trivial)),rfl⟩ rfl (.inl rfl) (aJ ⟨rfl,trivial⟩) (fun _ hj=>nomatch hj) (s7 (bH (robj:=[(801,.box 92 [.d (.sl (aC (l))),.d (.i (p+1+1+1))])]) (rl:=[(0,801)]) (bor:=[]) (cP (l) (p+1+1+1) _ (by omega) hl) rfl rfl rfl rfl ⟨bU rfl rfl rfl rfl (cK rfl rfl (aW rfl (aD rfl (aD rfl aH)) trivial)),rfl⟩ rfl (.inl rfl) (aJ ⟨rfl,trivial⟩) (fun _ hj=>nomatch hj) (s3 (uJ (robj:=[(800,.box 87 [.pt 801 0,.d (.i (W.tm)),.own 802 4,.own 803 3,ps 804 4 (W.a),ps 805 5 (W.b),ps 806 5 (W.c),ps 807 10 (W.d)]),(801,.box 92 [.d (.sl (aC l)),.d (.i (p+1+1+1+1))]),(802,.row 79 5 (aG W.ks)),(803,.row 4 1 (aK W.ls)),(804,aI 175 4 fG),(805,aI 29 5 cL),(806,aI 29 5 cL),(807,aI 140 10 iU)]) (rl:=[]) (bor:=[]) (news:=[]) (bt l (p+1+1+1+1) W ⟨1,i,0,0,0,0,0,aP l (p+1+1) 4,wrap64 (wrap64 ((aZ (W.ks.getD i .zero)).1.time+1)+aP l (p+1+1+1) 12),x2⟩ hW (by show x2.length≤1000;omega) (by omega)) rfl rfl rfl rfl ⟨bU rfl rfl rfl rfl (cY rfl (aD rfl (aD rfl (aD rfl (aD rfl (aD rfl (aD rfl (aD rfl (aD rfl (aD rfl (aD rfl aH)))))))))) (aW rfl (dZ rfl rfl rfl (aD rfl (bI rfl rfl rfl (bI rfl rfl rfl (bD rfl rfl rfl (bD rfl rfl rfl (bD rfl rfl rfl (bD rfl rfl rfl aH)))))))) (aW rfl (aD rfl (aD rfl aH)) (bT rfl rfl (bT rfl rfl (aV rfl rfl (aV rfl rfl (aV rfl rfl (aV rfl rfl trivial))))))))),rfl⟩ (by rintro _ ⟨W2,ok2,hw2,rfl⟩;exact⟨rfl,.inl rfl,fun j hj=>nomatch hj⟩) (aJ ⟨rfl,rfl,rfl,rfl,rfl,rfl,rfl,rfl,trivial⟩) (fun j hj=>nomatch hj) ⟨_,W,false,(eS.of.refl hW).le (by omega),rfl⟩ ?_)))))
 rintro _ ⟨W2,ok2,hw2,rfl⟩
 refine ai (by kernel_rfl) (cS [oB 800 87 [.pt 801 0,.d (.i (W2.tm)),.own 802 4,.own 803 3,ps 804 4 (W2.a),ps 805 5 (W2.b),ps 806 5 (W2.c),ps 807 10 (W2.d)],oB 801 92 [.d (.sl (aC l)),.d (.i ((p+1+1+1+1)))],oR 802 79 5 (aG W2.ks),oR 803 4 1 (aK W2.ls),(.o 804,aI 175 4 fG),(.o 805,aI 29 5 cL),(.o 806,aI 29 5 cL),(.o 807,aI 140 10 iU)] ⟨W2,p+1+1+1+1,⟨hw2,by omega,by omega⟩,rfl⟩ (rq [] [] rfl ?_))
 repeat' apply ai
 all_goals try exact qx
 all_goals(first|with_reducible rfl|(rfl))
set_option maxHeartbeats 6400000 in
theorem ix (l:List UInt8) (p:Int) (W:eS) (n:Nat) (r:Int) (hp:0≤p∧p≤900000) (hl:l.length≤2000) (hW:W.ok) (hd:W.d≤99000) (hn:n≤40):tn 121 3 [tP 0 800,tI 1 (n:Nat),tI 2 r,oB 800 87 [.pt 801 0,.d (.i (W.tm)),.own 802 4,.own 803 3,ps 804 4 (W.a),ps 805 5 (W.b),ps 806 5 (W.c),ps 807 10 (W.d)],oB 801 92 [.d (.sl (aC l)),.d (.i (p))],oR 802 79 5 (aG W.ks),oR 803 4 1 (aK W.ls),(.o 804,aI 175 4 fG),(.o 805,aI 29 5 cL),(.o 806,aI 29 5 cL),(.o 807,aI 140 10 iU)] (fun s=> ∃(W2:eS) (q:Int),(W2.of W (3*n)∧p≤q∧q≤p+8*n)∧s=[oB 800 87 [.pt 801 0,.d (.i (W2.tm)),.own 802 4,.own 803 3,ps 804 4 (W2.a),ps 805 5 (W2.b),ps 806 5 (W2.c),ps 807 10 (W2.d)],oB 801 92 [.d (.sl (aC l)),.d (.i (q))],oR 802 79 5 (aG W2.ks),oR 803 4 1 (aK W2.ls),(.o 804,aI 175 4 fG),(.o 805,aI 29 5 cL),(.o 806,aI 29 5 cL),(.o 807,aI 140 10 iU)]):=by
 refine uo Tryz.func121 rfl (sq (rT [0,1,2,6,12,13,14,15,16,17,18,26,27,28,29,30,31,32,96,97,98,99,100,101] (s1 (bk (SW.loopW (n:=n) (fun x s=> ∃(i:Nat) (V:eS) (q:Int),x=n - i∧(i≤n∧V.of W (3*i)∧p≤q∧q≤p+8*i)∧s=[tP 0 800,tI 1 (n:Nat),tI 2 r,tI 6 (i:Nat),oB 800 87 [.pt 801 0,.d (.i (V.tm)),.own 802 4,.own 803 3,ps 804 4 (V.a),ps 805 5 (V.b),ps 806 5 (V.c),ps 807 10 (V.d)],oB 801 92 [.d (.sl (aC l)),.d (.i (q))],oR 802 79 5 (aG V.ks),oR 803 4 1 (aK V.ls),(.o 804,aI 175 4 fG),(.o 805,aI 29 5 cL),(.o 806,aI 29 5 cL),(.o 807,aI 140 10 iU)]) ?_ ?_)))))
 · exact wq [] [] (⟨0,W,p,rfl,⟨by omega,eS.of.refl hW,by omega,by omega⟩,rfl⟩) qz
 rintro n s ⟨i,V,q,rfl,⟨hin,hV,hq⟩,rfl⟩
 refine sq (sq (rT [0,1,2,6,12,13,14,15,16,17,18,19,26,27,28,29,30,31,32,96,97,98,99,100,101] (s4 (y4 (y1 (aAm dQ rfl rfl rfl rfl rfl rk (y1 (ai pk (cd rfl (fun c19=> ?_) fun c19=> ?_)))))))))
 · have hi2:i<n:=by have h9:=c19;simp only[gb,aSg,decide_eq_true_eq] at h9;omega
   have hVd:=hV.few
   have hVo:V.ok:=hV.ok
   try simp only[eS.ok] at hVo
   refine sk (sq (bk (sq (rT [0,1,2,6,7,12,13,14,15,16,17,18,26,27,28,29,30,31,32,96,97,98,99,100,101] (s3 (SW.midW (fun s=> ∃(k w m kp q3:Int),(q≤q3∧q3≤q+5)∧s=[tP 0 800,tI 1 (n:Nat),tI 2 r,tI 6 (i:Nat),tP 7 7,oB 800 87 [.pt 801 0,.d (.i (V.tm)),.own 802 4,.own 803 3,ps 804 4 (V.a),ps 805 5 (V.b),ps 806 5 (V.c),ps 807 10 (V.d)],oB 801 92 [.d (.sl (aC l)),.d (.i (q3))],oR 802 79 5 (aG V.ks),oR 803 4 1 (aK V.ls),(.o 804,aI 175 4 fG),(.o 805,aI 29 5 cL),(.o 806,aI 29 5 cL),(.o 807,aI 140 10 iU),oB 7 140 [.d (.i (k)),.d (.i 0),.d (.i 0),.d (.i 0),.d (.i (w)),.d (.i (m)),.d (.i (kp)),.d (.i 0),.d (.i 0),.d (.s [])]]) ?_ ?_))))))
   · refine SW.midW (fun s=> ∃(cb:Bool) (q2:Int),(q≤q2∧q2≤q+1)∧s=[tP 0 800,tI 1 (n:Nat),tI 2 r,tI 6 (i:Nat),tP 7 7,tB 33 cb,oB 800 87 [.pt 801 0,.d (.i (V.tm)),.own 802 4,.own 803 3,ps 804 4 (V.a),ps 805 5 (V.b),ps 806 5 (V.c),ps 807 10 (V.d)],oB 801 92 [.d (.sl (aC l)),.d (.i (q2))],oR 802 79 5 (aG V.ks),oR 803 4 1 (aK V.ls),(.o 804,aI 175 4 fG),(.o 805,aI 29 5 cL),(.o 806,aI 29 5 cL),(.o 807,aI 140 10 iU),oB 7 140 [.d (.i (4)),.d (.i 0),.d (.i 0),.d (.i 0),.d (.i (0)),.d (.i (0)),.d (.i (0)),.d (.i 0),.d (.i 0),.d (.s [])]]) ?_ ?_
     · refine rF [0,1,2,6,7,33] (s1 (s1 (s1 (ai (fun h1=> ?_) (fun h1=> ?_)))))
       · refine s1 (ai (fun _=> ?_) (fun h=>absurd h (by rw[h1];simp)))
         refine s1 (ai (fun _=> ?_) (fun h=>absurd h (by rw[h1];simp)))
         refine s1 (ai (fun _=> ?_) (fun h=>absurd h (by rw[h1];simp)))
         refine s1 (ai (fun _=> ?_) (fun h=>absurd h (by rw[h1];simp)))
         refine s1 (ai (fun _=> ?_) (fun h=>absurd h (by rw[h1];simp)))
         refine gQ (bH (robj:=[(801,.box 92 [.d (.sl (aC (l))),.d (.i (q))])]) (rl:=[(0,801)]) (bor:=[]) (cP (l) (q) _ (by omega) hl) rfl rfl rfl rfl ⟨bU rfl rfl rfl rfl (cK rfl rfl (aW rfl (aD rfl (aD rfl aH)) trivial)),rfl⟩ rfl (.inl rfl) (aJ ⟨rfl,trivial⟩) (fun _ hj=>nomatch hj) (ai (fun _=> ?_) (fun h=>absurd h (by rw[h1];simp))))
         exact s1 (ai pk (wq [] [] ⟨?c1,q+1,⟨by omega,by omega⟩,rfl⟩ qz))
       refine⟨I 0,?_⟩
       refine ai (fun h=>absurd h (by rw[h1];simp)) (fun _=>⟨I 0,?_⟩)
       refine ai (fun h=>absurd h (by rw[h1];simp)) (fun _=>⟨I 0,?_⟩)
       refine ai (fun h=>absurd h (by rw[h1];simp)) (fun _=>⟨I 0,?_⟩)
       refine ai (fun h=>absurd h (by rw[h1];simp)) (fun _=>⟨I 0,?_⟩)
       refine ai (fun h=>absurd h (by rw[h1];simp)) (fun _=>⟨I 0,?_⟩)
       refine ai (fun h=>absurd h (by rw[h1];simp)) (fun _=>⟨B false,?_⟩)
       exact ai (by constructor<;>intro h<;>first|trivial|exact absurd (h1.symm.trans h:false=true) (by decide)) (wq [] [] ⟨?d1,q,⟨by omega,by omega⟩,rfl⟩ qz)
     rintro s ⟨cb,q2,hq2,rfl⟩
     refine cd rfl (fun c33=> ?_) fun c33=> ?_
     · refine sq (rT [0,1,2,6,7,12,13,14,15,16,17,18,26,27,28,29,30,31,32,38,96,97,98,99,100,101] (s4 (bH (robj:=[(801,.box 92 [.d (.sl (aC (l))),.d (.i (q2))])]) (rl:=[(0,801)]) (bor:=[]) (cP (l) (q2) _ (by omega) hl) rfl rfl rfl rfl ⟨bU rfl rfl rfl rfl (cK rfl rfl (aW rfl (aD rfl (aD rfl aH)) trivial)),rfl⟩ rfl (.inl rfl) (aJ ⟨rfl,trivial⟩) (fun _ hj=>nomatch hj) (bk (sq (rT [0,1,2,6,7,12,13,14,15,16,17,18,26,27,28,29,30,31,32,38,51,96,97,98,99,100,101] (s2 (cd rfl (fun c51=> ?_) fun c51=> ?_))))))))
       · refine rT [0,1,2,6,7,12,13,14,15,16,17,18,26,27,28,29,30,31,32,96,97,98,99,100,101] (s2 ?_)
         first
         |(exact wq [] [] ⟨5,0,0,0,(q2+1),⟨by omega,by omega⟩,rfl⟩ qz)
         |(exact wq [] [] ⟨4,0,0,1,(q2+1),⟨by omega,by omega⟩,rfl⟩ qz)
         |(exact wq [] [] ⟨4,(aP l (q2+1) (V.a:Int)),0,0,(q2+1+1),⟨by omega,by omega⟩,rfl⟩ qz)
         |(exact wq [] [] ⟨6,(aP l (q2+1) (V.a:Int)),(aP l (q2+1+1) 17),(wrap64 (1+(aP l (q2+1+1+1) 255))),(q2+1+1+1+1),⟨by omega,by omega⟩,rfl⟩ qz)
         |(exact wq [] [] ⟨4,0,0,0,q2,⟨by omega,by omega⟩,rfl⟩ qz)
       refine sq (rT [0,1,2,6,7,12,13,14,15,16,17,18,26,27,28,29,30,31,32,38,54,96,97,98,99,100,101] (s2 (cd rfl (fun c54=> ?_) fun c54=> ?_)))
       · refine rT [0,1,2,6,7,12,13,14,15,16,17,18,26,27,28,29,30,31,32,96,97,98,99,100,101] (s2 ?_)
         first
         |(exact wq [] [] ⟨5,0,0,0,(q2+1),⟨by omega,by omega⟩,rfl⟩ qz)
         |(exact wq [] [] ⟨4,0,0,1,(q2+1),⟨by omega,by omega⟩,rfl⟩ qz)
         |(exact wq [] [] ⟨4,(aP l (q2+1) (V.a:Int)),0,0,(q2+1+1),⟨by omega,by omega⟩,rfl⟩ qz)
         |(exact wq [] [] ⟨6,(aP l (q2+1) (V.a:Int)),(aP l (q2+1+1) 17),(wrap64 (1+(aP l (q2+1+1+1) 255))),(q2+1+1+1+1),⟨by omega,by omega⟩,rfl⟩ qz)
         |(exact wq [] [] ⟨4,0,0,0,q2,⟨by omega,by omega⟩,rfl⟩ qz)
       refine sq (rT [0,1,2,6,7,12,13,14,15,16,17,18,26,27,28,29,30,31,32,57,96,97,98,99,100,101] (s2 (cd rfl (fun c57=> ?_) fun c57=> ?_)))
       · refine sq (rT [0,1,2,6,7,12,13,14,15,16,17,18,26,27,28,29,30,31,32,96,97,98,99,100,101] (s2 (sq (rD [0,1,2,6,7,12,13,14,15,16,17,18,26,27,28,29,30,31,32,96,97,98,99,100,101] (s9 (dg dQ rfl rfl rfl rfl rfl (bH (robj:=[(801,.box 92 [.d (.sl (aC (l))),.d (.i (q2+1))])]) (rl:=[(0,801)]) (bor:=[]) (cP (l) (q2+1) _ (by omega) hl) rfl rfl rfl rfl ⟨bU rfl rfl rfl rfl (cK rfl rfl (aW rfl (aD rfl (aD rfl aH)) trivial)),rfl⟩ rfl (.inl rfl) (aJ ⟨rfl,trivial⟩) (fun _ hj=>nomatch hj) (s2 (ai (by kernel_rfl) (sq (rT [0,1,2,6,7,12,13,14,15,16,17,18,26,27,28,29,30,31,32,96,97,98,99,100,101] (s4 (bH (robj:=[(801,.box 92 [.d (.sl (aC (l))),.d (.i (q2+1+1))])]) (rl:=[(0,801)]) (bor:=[]) (cP (l) (q2+1+1) _ (by omega) hl) rfl rfl rfl rfl ⟨bU rfl rfl rfl rfl (cK rfl rfl (aW rfl (aD rfl (aD rfl aH)) trivial)),rfl⟩ rfl (.inl rfl) (aJ ⟨rfl,trivial⟩) (fun _ hj=>nomatch hj) ?_)))))))))))))
         refine s2 (rT [0,1,2,6,7,12,13,14,15,16,17,18,26,27,28,29,30,31,32,96,97,98,99,100,101] (s4 (bH (robj:=[(801,.box 92 [.d (.sl (aC (l))),.d (.i (q2+1+1+1))])]) (rl:=[(0,801)]) (bor:=[]) (cP (l) (q2+1+1+1) _ (by omega) hl) rfl rfl rfl rfl ⟨bU rfl rfl rfl rfl (cK rfl rfl (aW rfl (aD rfl (aD rfl aH)) trivial)),rfl⟩ rfl (.inl rfl) (aJ ⟨rfl,trivial⟩) (fun _ hj=>nomatch hj) (s3 ?_))))
         first
         |(exact wq [] [] ⟨5,0,0,0,(q2+1),⟨by omega,by omega⟩,rfl⟩ qz)
         |(exact wq [] [] ⟨4,0,0,1,(q2+1),⟨by omega,by omega⟩,rfl⟩ qz)
         |(exact wq [] [] ⟨4,(aP l (q2+1) (V.a:Int)),0,0,(q2+1+1),⟨by omega,by omega⟩,rfl⟩ qz)
         |(exact wq [] [] ⟨6,(aP l (q2+1) (V.a:Int)),(aP l (q2+1+1) 17),(wrap64 (1+(aP l (q2+1+1+1) 255))),(q2+1+1+1+1),⟨by omega,by omega⟩,rfl⟩ qz)
         |(exact wq [] [] ⟨4,0,0,0,q2,⟨by omega,by omega⟩,rfl⟩ qz)
       refine rD [0,1,2,6,7,12,13,14,15,16,17,18,26,27,28,29,30,31,32,96,97,98,99,100,101] (s9 (dg dQ rfl rfl rfl rfl rfl (bH (robj:=[(801,.box 92 [.d (.sl (aC (l))),.d (.i (q2+1))])]) (rl:=[(0,801)]) (bor:=[]) (cP (l) (q2+1) _ (by omega) hl) rfl rfl rfl rfl ⟨bU rfl rfl rfl rfl (cK rfl rfl (aW rfl (aD rfl (aD rfl aH)) trivial)),rfl⟩ rfl (.inl rfl) (aJ ⟨rfl,trivial⟩) (fun _ hj=>nomatch hj) (s2 (ai (by kernel_rfl) ?_)))))
       first
       |(exact wq [] [] ⟨5,0,0,0,(q2+1),⟨by omega,by omega⟩,rfl⟩ qz)
       |(exact wq [] [] ⟨4,0,0,1,(q2+1),⟨by omega,by omega⟩,rfl⟩ qz)
       |(exact wq [] [] ⟨4,(aP l (q2+1) (V.a:Int)),0,0,(q2+1+1),⟨by omega,by omega⟩,rfl⟩ qz)
       |(exact wq [] [] ⟨6,(aP l (q2+1) (V.a:Int)),(aP l (q2+1+1) 17),(wrap64 (1+(aP l (q2+1+1+1) 255))),(q2+1+1+1+1),⟨by omega,by omega⟩,rfl⟩ qz)
       |(exact wq [] [] ⟨4,0,0,0,q2,⟨by omega,by omega⟩,rfl⟩ qz)
     refine sk ?_
     first
     |(exact wq [] [] ⟨5,0,0,0,(q2+1),⟨by omega,by omega⟩,rfl⟩ qz)
     |(exact wq [] [] ⟨4,0,0,1,(q2+1),⟨by omega,by omega⟩,rfl⟩ qz)
     |(exact wq [] [] ⟨4,(aP l (q2+1) (V.a:Int)),0,0,(q2+1+1),⟨by omega,by omega⟩,rfl⟩ qz)
     |(exact wq [] [] ⟨6,(aP l (q2+1) (V.a:Int)),(aP l (q2+1+1) 17),(wrap64 (1+(aP l (q2+1+1+1) 255))),(q2+1+1+1+1),⟨by omega,by omega⟩,rfl⟩ qz)
     |(exact wq [] [] ⟨4,0,0,0,q2,⟨by omega,by omega⟩,rfl⟩ qz)
   rintro s ⟨k,w,m,kp,q3,hq3,rfl⟩
   refine SW.midW (fun s=> ∃V3:eS,V3.of V 2∧s=[tP 0 800,tI 1 (n:Nat),tI 2 r,tI 6 (i:Nat),tP 7 7,oB 800 87 [.pt 801 0,.d (.i (V3.tm)),.own 802 4,.own 803 3,ps 804 4 (V3.a),ps 805 5 (V3.b),ps 806 5 (V3.c),ps 807 10 (V3.d)],oB 801 92 [.d (.sl (aC l)),.d (.i (q3))],oR 802 79 5 (aG V3.ks),oR 803 4 1 (aK V3.ls),(.o 804,aI 175 4 fG),(.o 805,aI 29 5 cL),(.o 806,aI 29 5 cL),(.o 807,aI 140 10 iU),oB 7 140 [.d (.i (k)),.d (.i 0),.d (.i 0),.d (.i 0),.d (.i (w)),.d (.i (m)),.d (.i (kp)),.d (.i 0),.d (.i 0),.d (.s [])]]) ?_ ?_
   · refine sq (rE [0,1,2,6,7,12,13,14,15,16,17,18,26,27,28,29,30,31,32,88,96,97,98,99,100,101] (s2 (cU (robj:=[(800,.box 87 [.pt 801 0,.d (.i (V.tm)),.own 802 4,.own 803 3,ps 804 4 (V.a),ps 805 5 (V.b),ps 806 5 (V.c),ps 807 10 (V.d)]),(801,.box 92 [.d (.sl (aC l)),.d (.i (q3))]),(802,.row 79 5 (aG V.ks)),(803,.row 4 1 (aK V.ls)),(804,aI 175 4 fG),(805,aI 29 5 cL),(806,aI 29 5 cL),(807,aI 140 10 iU)]) (rl:=[]) (bor:=[]) (news:=[]) (bt l (q3) V ⟨k,0,0,0,w,m,kp,0,0,[]⟩ hV.ok (by simp) (by omega)) rfl rfl rfl rfl ⟨bU rfl rfl rfl rfl (cY rfl (aD rfl (aD rfl (aD rfl (aD rfl (aD rfl (aD rfl (aD rfl (aD rfl (aD rfl (aD rfl aH)))))))))) (aW rfl (dZ rfl rfl rfl (aD rfl (bI rfl rfl rfl (bI rfl rfl rfl (bD rfl rfl rfl (bD rfl rfl rfl (bD rfl rfl rfl (bD rfl rfl rfl aH)))))))) (aW rfl (aD rfl (aD rfl aH)) (bT rfl rfl (bT rfl rfl (aV rfl rfl (aV rfl rfl (aV rfl rfl (aV rfl rfl trivial))))))))),rfl⟩ (by rintro _ ⟨W2,ok2,hw2,rfl⟩;exact⟨rfl,.inl rfl,fun j hj=>nomatch hj⟩) (aJ ⟨rfl,rfl,rfl,rfl,rfl,rfl,rfl,rfl,trivial⟩) (fun j hj=>nomatch hj) ?_)))
     rintro _ ⟨W2,ok2,hw2,rfl⟩
     refine s1 (cd rfl (fun c88=> ?_) fun c88=> ?_)
     · refine rE [0,1,2,6,7,12,13,14,15,16,17,18,26,27,28,29,30,31,32,96,97,98,99,100,101] (s2 (cU (robj:=[(800,.box 87 [.pt 801 0,.d (.i (W2.tm)),.own 802 4,.own 803 3,ps 804 4 (W2.a),ps 805 5 (W2.b),ps 806 5 (W2.c),ps 807 10 (W2.d)]),(801,.box 92 [.d (.sl (aC l)),.d (.i (q3))]),(802,.row 79 5 (aG W2.ks)),(803,.row 4 1 (aK W2.ls)),(804,aI 175 4 fG),(805,aI 29 5 cL),(806,aI 29 5 cL),(807,aI 140 10 iU)]) (rl:=[]) (bor:=[]) (news:=[]) (bt l (q3) W2 ⟨5,0,0,0,0,0,0,0,0,[]⟩ hw2.ok (by simp) (by have:=hw2.few;omega)) rfl rfl rfl rfl ⟨bU rfl rfl rfl rfl (cY rfl (aD rfl (aD rfl (aD rfl (aD rfl (aD rfl (aD rfl (aD rfl (aD rfl (aD rfl (aD rfl aH)))))))))) (aW rfl (dZ rfl rfl rfl (aD rfl (bI rfl rfl rfl (bI rfl rfl rfl (bD rfl rfl rfl (bD rfl rfl rfl (bD rfl rfl rfl (bD rfl rfl rfl aH)))))))) (aW rfl (aD rfl (aD rfl aH)) (bT rfl rfl (bT rfl rfl (aV rfl rfl (aV rfl rfl (aV rfl rfl (aV rfl rfl trivial))))))))),rfl⟩ (by rintro _ ⟨W25,ok25,hw25,rfl⟩;exact⟨rfl,.inl rfl,fun j hj=>nomatch hj⟩) (aJ ⟨rfl,rfl,rfl,rfl,rfl,rfl,rfl,rfl,trivial⟩) (fun j hj=>nomatch hj) ?_))
       rintro _ ⟨W25,ok25,hw25,rfl⟩
       first
       |(exact wq [] [] ⟨W25,(hw2.trans hw25),rfl⟩ qz)
       |(exact wq [] [] ⟨W2,(hw2.le (by omega)),rfl⟩ qz)
     refine sk ?_
     first
     |(exact wq [] [] ⟨W25,(hw2.trans hw25),rfl⟩ qz)
     |(exact wq [] [] ⟨W2,(hw2.le (by omega)),rfl⟩ qz)
   rintro s ⟨V3,hV3,rfl⟩
   have hV3d:=hV3.few
   refine SW.midW (fun s=> ∃(cb:Bool) (q4:Int),(q3≤q4∧q4≤q3+1)∧s=[tP 0 800,tI 1 (n:Nat),tI 2 r,tI 6 (i:Nat),tP 7 7,tB 102 cb,oB 800 87 [.pt 801 0,.d (.i (V3.tm)),.own 802 4,.own 803 3,ps 804 4 (V3.a),ps 805 5 (V3.b),ps 806 5 (V3.c),ps 807 10 (V3.d)],oB 801 92 [.d (.sl (aC l)),.d (.i (q4))],oR 802 79 5 (aG V3.ks),oR 803 4 1 (aK V3.ls),(.o 804,aI 175 4 fG),(.o 805,aI 29 5 cL),(.o 806,aI 29 5 cL),(.o 807,aI 140 10 iU),oB 7 140 [.d (.i (k)),.d (.i 0),.d (.i 0),.d (.i 0),.d (.i (w)),.d (.i (m)),.d (.i (kp)),.d (.i 0),.d (.i 0),.d (.s [])]]) ?_ ?_
   · refine rF [0,1,2,6,7,102] (s1 (s1 (s1 (s1 (ai (fun h1=> ?_) (fun h1=> ?_))))))
     · refine s1 (ai (fun _=> ?_) (fun h=>absurd h (by rw[h1];simp)))
       refine s1 (ai (fun _=> ?_) (fun h=>absurd h (by rw[h1];simp)))
       refine s1 (ai (fun _=> ?_) (fun h=>absurd h (by rw[h1];simp)))
       refine s1 (ai (fun _=> ?_) (fun h=>absurd h (by rw[h1];simp)))
       refine gQ (bH (robj:=[(801,.box 92 [.d (.sl (aC (l))),.d (.i (q3))])]) (rl:=[(0,801)]) (bor:=[]) (cP (l) (q3) _ (by omega) hl) rfl rfl rfl rfl ⟨bU rfl rfl rfl rfl (cK rfl rfl (aW rfl (aD rfl (aD rfl aH)) trivial)),rfl⟩ rfl (.inl rfl) (aJ ⟨rfl,trivial⟩) (fun _ hj=>nomatch hj) (ai (fun _=> ?_) (fun h=>absurd h (by rw[h1];simp))))
       exact s1 (ai pk (wq [] [] ⟨?c2,q3+1,⟨by omega,by omega⟩,rfl⟩ qz))
     refine⟨I 0,?_⟩
     refine ai (fun h=>absurd h (by rw[h1];simp)) (fun _=>⟨I 0,?_⟩)
     refine ai (fun h=>absurd h (by rw[h1];simp)) (fun _=>⟨I 0,?_⟩)
     refine ai (fun h=>absurd h (by rw[h1];simp)) (fun _=>⟨I 0,?_⟩)
     refine ai (fun h=>absurd h (by rw[h1];simp)) (fun _=>⟨I 0,?_⟩)
     refine ai (fun h=>absurd h (by rw[h1];simp)) (fun _=>⟨B false,?_⟩)
     exact ai (by constructor<;>intro h<;>first|trivial|exact absurd (h1.symm.trans h:false=true) (by decide)) (wq [] [] ⟨?d2,q3,⟨by omega,by omega⟩,rfl⟩ qz)
   rintro s ⟨cb2,q4,hq4,rfl⟩
   refine cd rfl (fun c102=> ?_) fun c102=> ?_
   · refine sq (rT [0,1,2,6,7,12,13,14,15,16,17,18,26,27,28,29,30,31,32,96,97,98,99,100,101] (s4 (bH (robj:=[(801,.box 92 [.d (.sl (aC (l))),.d (.i (q4))])]) (rl:=[(0,801)]) (bor:=[]) (cP (l) (q4) _ (by omega) hl) rfl rfl rfl rfl ⟨bU rfl rfl rfl rfl (cK rfl rfl (aW rfl (aD rfl (aD rfl aH)) trivial)),rfl⟩ rfl (.inl rfl) (aJ ⟨rfl,trivial⟩) (fun _ hj=>nomatch hj) (s2 (sq (rT [0,1,2,6,7,12,13,14,15,16,17,18,26,27,28,29,30,31,32,96,97,98,99,100,101] (s4 (bH (robj:=[(801,.box 92 [.d (.sl (aC (l))),.d (.i (q4+1))])]) (rl:=[(0,801)]) (bor:=[]) (cP (l) (q4+1) _ (by omega) hl) rfl rfl rfl rfl ⟨bU rfl rfl rfl rfl (cK rfl rfl (aW rfl (aD rfl (aD rfl aH)) trivial)),rfl⟩ rfl (.inl rfl) (aJ ⟨rfl,trivial⟩) (fun _ hj=>nomatch hj) (s3 (rE [0,1,2,6,12,13,14,15,16,17,18,26,27,28,29,30,31,32,96,97,98,99,100,101] (s2 (cU (robj:=[(800,.box 87 [.pt 801 0,.d (.i (V3.tm)),.own 802 4,.own 803 3,ps 804 4 (V3.a),ps 805 5 (V3.b),ps 806 5 (V3.c),ps 807 10 (V3.d)]),(801,.box 92 [.d (.sl (aC l)),.d (.i (q4+1+1))]),(802,.row 79 5 (aG V3.ks)),(803,.row 4 1 (aK V3.ls)),(804,aI 175 4 fG),(805,aI 29 5 cL),(806,aI 29 5 cL),(807,aI 140 10 iU)]) (rl:=[]) (bor:=[]) (news:=[]) (bt l (q4+1+1) V3 ⟨k,0,0,0,w,(aP l (q4) 17),(wrap64 (1+(aP l (q4+1) 255))),0,0,[]⟩ hV3.ok (by simp) (by omega)) rfl rfl rfl rfl ⟨bU rfl rfl rfl rfl (cY rfl (aD rfl (aD rfl (aD rfl (aD rfl (aD rfl (aD rfl (aD rfl (aD rfl (aD rfl (aD rfl aH)))))))))) (aW rfl (dZ rfl rfl rfl (aD rfl (bI rfl rfl rfl (bI rfl rfl rfl (bD rfl rfl rfl (bD rfl rfl rfl (bD rfl rfl rfl (bD rfl rfl rfl aH)))))))) (aW rfl (aD rfl (aD rfl aH)) (bT rfl rfl (bT rfl rfl (aV rfl rfl (aV rfl rfl (aV rfl rfl (aV rfl rfl trivial))))))))),rfl⟩ (by rintro _ ⟨W24,ok24,hw24,rfl⟩;exact⟨rfl,.inl rfl,fun j hj=>nomatch hj⟩) (aJ ⟨rfl,rfl,rfl,rfl,rfl,rfl,rfl,rfl,trivial⟩) (fun j hj=>nomatch hj) ?_))))))))))))
     rintro _ ⟨W24,ok24,hw24,rfl⟩
     refine rT [0,1,2,6,12,13,14,15,16,17,18,26,27,28,29,30,31,32,96,97,98,99,100,101] (s3 ?_)
     first
     |(refine wq [] [] ⟨n - (i+1),by omega,i+1,W24,(q4+1+1),rfl,⟨by omega,((hV.trans (hV3.trans hw24)).le (by omega)),by omega,by omega⟩,rfl⟩ ?_
       repeat' apply ai
       all_goals try exact qx
       all_goals first|with_reducible rfl|exact congrArg D.i (aF (by omega))|rfl)
     |(refine wq [] [] ⟨n - (i+1),by omega,i+1,V3,q4,rfl,⟨by omega,((hV.trans hV3).le (by omega)),by omega,by omega⟩,rfl⟩ ?_
       repeat' apply ai
       all_goals try exact qx
       all_goals first|with_reducible rfl|exact congrArg D.i (aF (by omega))|rfl)
   refine sk (rT [0,1,2,6,12,13,14,15,16,17,18,26,27,28,29,30,31,32,96,97,98,99,100,101] (s3 ?_))
   first
   |(refine wq [] [] ⟨n - (i+1),by omega,i+1,W24,(q4+1+1),rfl,⟨by omega,((hV.trans (hV3.trans hw24)).le (by omega)),by omega,by omega⟩,rfl⟩ ?_
     repeat' apply ai
     all_goals try exact qx
     all_goals first|with_reducible rfl|exact congrArg D.i (aF (by omega))|rfl)
   |(refine wq [] [] ⟨n - (i+1),by omega,i+1,V3,q4,rfl,⟨by omega,((hV.trans hV3).le (by omega)),by omega,by omega⟩,rfl⟩ ?_
     repeat' apply ai
     all_goals try exact qx
     all_goals first|with_reducible rfl|exact congrArg D.i (aF (by omega))|rfl)
 refine xt (cS [oB 800 87 [.pt 801 0,.d (.i (V.tm)),.own 802 4,.own 803 3,ps 804 4 (V.a),ps 805 5 (V.b),ps 806 5 (V.c),ps 807 10 (V.d)],oB 801 92 [.d (.sl (aC l)),.d (.i (q))],oR 802 79 5 (aG V.ks),oR 803 4 1 (aK V.ls),(.o 804,aI 175 4 fG),(.o 805,aI 29 5 cL),(.o 806,aI 29 5 cL),(.o 807,aI 140 10 iU)] ⟨V,q,⟨hV.le (by omega),by omega,by omega⟩,rfl⟩ (rq [] [] rfl ?_))
 repeat' apply ai
 all_goals try exact qx
 all_goals(first|with_reducible rfl|(rfl))
set_option maxHeartbeats 3200000 in
theorem nt (l:List UInt8) (p:Int) (W:eS) (n:Nat) (r:Int) (hp:0≤p∧p≤890000) (hl:l.length≤2000) (hW:W.ok) (hd:W.d≤98000) (hn:n≤7):tn 120 3 [tP 0 800,tI 1 (n:Nat),tI 2 r,oB 800 87 [.pt 801 0,.d (.i (W.tm)),.own 802 4,.own 803 3,ps 804 4 (W.a),ps 805 5 (W.b),ps 806 5 (W.c),ps 807 10 (W.d)],oB 801 92 [.d (.sl (aC l)),.d (.i (p))],oR 802 79 5 (aG W.ks),oR 803 4 1 (aK W.ls),(.o 804,aI 175 4 fG),(.o 805,aI 29 5 cL),(.o 806,aI 29 5 cL),(.o 807,aI 140 10 iU)] (fun s=> ∃(W2:eS) (q:Int),(W2.of W 40∧p≤q∧q≤p+100)∧s=[oB 800 87 [.pt 801 0,.d (.i (W2.tm)),.own 802 4,.own 803 3,ps 804 4 (W2.a),ps 805 5 (W2.b),ps 806 5 (W2.c),ps 807 10 (W2.d)],oB 801 92 [.d (.sl (aC l)),.d (.i (q))],oR 802 79 5 (aG W2.ks),oR 803 4 1 (aK W2.ls),(.o 804,aI 175 4 fG),(.o 805,aI 29 5 cL),(.o 806,aI 29 5 cL),(.o 807,aI 140 10 iU)]):=by
 refine uo Tryz.func120 rfl (sq (rE [0,1,2,6,7,8] (s1 (cU (robj:=[(800,.box 87 [.pt 801 0,.d (.i (W.tm)),.own 802 4,.own 803 3,ps 804 4 (W.a),ps 805 5 (W.b),ps 806 5 (W.c),ps 807 10 (W.d)]),(801,.box 92 [.d (.sl (aC l)),.d (.i (p))]),(802,.row 79 5 (aG W.ks)),(803,.row 4 1 (aK W.ls)),(804,aI 175 4 fG),(805,aI 29 5 cL),(806,aI 29 5 cL),(807,aI 140 10 iU)]) (rl:=[]) (bor:=[]) (news:=[]) (aQi l p W (by omega) hl hW (by omega)) rfl rfl rfl rfl ⟨bU rfl rfl rfl rfl (aW rfl (dZ rfl rfl rfl (aD rfl (bI rfl rfl rfl (bI rfl rfl rfl (bD rfl rfl rfl (bD rfl rfl rfl (bD rfl rfl rfl (bD rfl rfl rfl aH)))))))) (aW rfl (aD rfl (aD rfl aH)) (bT rfl rfl (bT rfl rfl (aV rfl rfl (aV rfl rfl (aV rfl rfl (aV rfl rfl trivial)))))))),rfl⟩ (by rintro _ ⟨i0,n1,ok1,q1,hq1,rfl⟩;exact⟨rfl,.inl rfl,fun j hj=>nomatch hj⟩) (aJ ⟨rfl,rfl,rfl,rfl,rfl,rfl,rfl,rfl,trivial⟩) (fun j hj=>nomatch hj) ?_))))
 rintro _ ⟨i0,n1,ok1,q1,hq1,rfl⟩
 refine s8 (sq (sq (rT [0,1,2,6,7,18] (s2 (cd rfl (fun c18=> ?_) fun c18=> ?_)))))
 · refine rt (cS [oB 800 87 [.pt 801 0,.d (.i (W.tm)),.own 802 4,.own 803 3,ps 804 4 (W.a),ps 805 5 (W.b),ps 806 5 (W.c),ps 807 10 (W.d)],oB 801 92 [.d (.sl (aC l)),.d (.i (q1))],oR 802 79 5 (aG W.ks),oR 803 4 1 (aK W.ls),(.o 804,aI 175 4 fG),(.o 805,aI 29 5 cL),(.o 806,aI 29 5 cL),(.o 807,aI 140 10 iU)] ⟨W,q1,⟨(eS.of.refl hW).le (by omega),by omega,by omega⟩,rfl⟩ (rq [] [] rfl ?_))
   repeat' apply ai
   all_goals try exact qx
   all_goals(first|with_reducible rfl|(rfl))
 refine sk (sq (rD [0,1,2,6,7,9] (s4 (bH (robj:=[(801,.box 92 [.d (.sl (aC (l))),.d (.i (q1))])]) (rl:=[(0,801)]) (bor:=[]) (cP (l) (q1) _ (by omega) hl) rfl rfl rfl rfl ⟨bU rfl rfl rfl rfl (cK rfl rfl (aW rfl (aD rfl (aD rfl aH)) trivial)),rfl⟩ rfl (.inl rfl) (aJ ⟨rfl,trivial⟩) (fun _ hj=>nomatch hj) (s4 (bH (robj:=[(801,.box 92 [.d (.sl (aC (l))),.d (.i (q1+1))])]) (rl:=[(0,801)]) (bor:=[]) (cP (l) (q1+1) _ (by omega) hl) rfl rfl rfl rfl ⟨bU rfl rfl rfl rfl (cK rfl rfl (aW rfl (aD rfl (aD rfl aH)) trivial)),rfl⟩ rfl (.inl rfl) (aJ ⟨rfl,trivial⟩) (fun _ hj=>nomatch hj) (s2 (ai (by kernel_rfl) (sq (sq (rT [0,1,2,6,7,9,10] (s1 (bk ?_)))))))))))))
 obtain⟨m9,hm9⟩: ∃m9:Int,m9=wrap64 (aP l q1 2*aP l (q1+1) 40):=⟨_,rfl⟩
 refine SW.loopW (n:=n) (fun x s=> ∃(i:Nat) (V:eS),x=n - i∧(i≤n∧V.of W i)∧s=[tP 0 800,tI 1 (n:Nat),tI 2 r,tI 10 (i:Nat),tI 6 i0,tP 7 7,tI 9 m9,oB 800 87 [.pt 801 0,.d (.i (V.tm)),.own 802 4,.own 803 3,ps 804 4 (V.a),ps 805 5 (V.b),ps 806 5 (V.c),ps 807 10 (V.d)],oB 801 92 [.d (.sl (aC l)),.d (.i (q1+1+1))],oR 802 79 5 (aG V.ks),oR 803 4 1 (aK V.ls),(.o 804,aI 175 4 fG),(.o 805,aI 29 5 cL),(.o 806,aI 29 5 cL),(.o 807,aI 140 10 iU),oB 7 29 [.d (.i n1.frm),.d (.i n1.num),.d (.i n1.to),.d (.i n1.til),.d (.s n1.text)]]) ?_ ?_
 · refine wq [] [] (⟨0,W,rfl,⟨by omega,eS.of.refl hW⟩,rfl⟩) ?_
   repeat' apply ai
   all_goals first|exact qx|exact congrArg D.i hm9.symm|rfl|exact qz
 rintro n s ⟨i,V,rfl,⟨hin,hV⟩,rfl⟩
 have hVd:=hV.few
 refine sq (sq (rT [0,1,2,6,7,9,10,32] (s3 (cd rfl (fun c32=> ?_) fun c32=> ?_))))
 · have hi2:i<n:=by simp at c32;omega
   refine sk (sq (bk (rE [0,1,2,6,7,9,10] (s9 (s1 (cU (robj:=[(800,.box 87 [.pt 801 0,.d (.i (V.tm)),.own 802 4,.own 803 3,ps 804 4 (V.a),ps 805 5 (V.b),ps 806 5 (V.c),ps 807 10 (V.d)]),(801,.box 92 [.d (.sl (aC l)),.d (.i (q1+1+1))]),(802,.row 79 5 (aG V.ks)),(803,.row 4 1 (aK V.ls)),(804,aI 175 4 fG),(805,aI 29 5 cL),(806,aI 29 5 cL),(807,aI 140 10 iU)]) (rl:=[]) (bor:=[]) (news:=[]) (bt l (q1+1+1) V ⟨3,i0,n1.frm,n1.num,0,wrap64 (m9+i),0,0,0,[]⟩ hV.ok (by simp) (by omega)) rfl rfl rfl rfl ⟨bU rfl rfl rfl rfl (cY rfl (aD rfl (aD rfl (aD rfl (aD rfl (aD rfl (aD rfl (aD rfl (aD rfl (aD rfl (aD rfl aH)))))))))) (aW rfl (dZ rfl rfl rfl (aD rfl (bI rfl rfl rfl (bI rfl rfl rfl (bD rfl rfl rfl (bD rfl rfl rfl (bD rfl rfl rfl (bD rfl rfl rfl aH)))))))) (aW rfl (aD rfl (aD rfl aH)) (bT rfl rfl (bT rfl rfl (aV rfl rfl (aV rfl rfl (aV rfl rfl (aV rfl rfl trivial))))))))),rfl⟩ (by rintro _ ⟨W2,ok2,hw2,rfl⟩;exact⟨rfl,.inl rfl,fun j hj=>nomatch hj⟩) (aJ ⟨rfl,rfl,rfl,rfl,rfl,rfl,rfl,rfl,trivial⟩) (fun j hj=>nomatch hj) ?_))))))
   rintro _ ⟨W2,ok2,hw2,rfl⟩
   refine rT [0,1,2,6,7,9,10] (s3 (wq [] [] (⟨n - (i+1),by omega,i+1,W2,rfl,⟨by omega,hV.trans hw2⟩,rfl⟩) ?_))
   repeat' apply ai
   all_goals first|exact qx|exact congrArg D.i (aF (by omega))|rfl|exact qz
 refine xt ?_
 obtain⟨m,hm,hml⟩: ∃m:Nat,aP l (q1+1+1) (wrap64 ((n:Int)+4))=(m:Int)∧m≤10:=by have:=cE l (p:=q1+1+1) (n:=wrap64 ((n:Int)+4)) (by omega) (by rw[aF (by omega)];omega);rw[aF (n:=(n:Int)+4) (by omega)] at *; exact⟨(aP l (q1+1+1) ((n:Int)+4)).toNat,by omega,by omega⟩
 refine rE [] (s7 (gQ (bH (robj:=[(801,.box 92 [.d (.sl (aC (l))),.d (.i (q1+1+1))])]) (rl:=[(0,801)]) (bor:=[]) (cP (l) (q1+1+1) _ (by omega) hl) rfl rfl rfl rfl ⟨bU rfl rfl rfl rfl (cK rfl rfl (aW rfl (aD rfl (aD rfl aH)) trivial)),rfl⟩ rfl (.inl rfl) (aJ ⟨rfl,trivial⟩) (fun _ hj=>nomatch hj) (s1 (cU (robj:=[(800,.box 87 [.pt 801 0,.d (.i (V.tm)),.own 802 4,.own 803 3,ps 804 4 (V.a),ps 805 5 (V.b),ps 806 5 (V.c),ps 807 10 (V.d)]),(801,.box 92 [.d (.sl (aC l)),.d (.i (q1+1+1+1))]),(802,.row 79 5 (aG V.ks)),(803,.row 4 1 (aK V.ls)),(804,aI 175 4 fG),(805,aI 29 5 cL),(806,aI 29 5 cL),(807,aI 140 10 iU)]) (rl:=[]) (bor:=[]) (news:=[]) (ix l (q1+1+1+1) V m r (by omega) hl hV.ok (by omega) (by omega)) rfl rfl rfl rfl ⟨bU rfl rfl rfl rfl (cK rfl (congrArg D.i hm) (cK rfl rfl (aW rfl (dZ rfl rfl rfl (aD rfl (bI rfl rfl rfl (bI rfl rfl rfl (bD rfl rfl rfl (bD rfl rfl rfl (bD rfl rfl rfl (bD rfl rfl rfl aH)))))))) (aW rfl (aD rfl (aD rfl aH)) (bT rfl rfl (bT rfl rfl (aV rfl rfl (aV rfl rfl (aV rfl rfl (aV rfl rfl trivial)))))))))),rfl⟩ (by rintro _ ⟨W2,q2,hw2,rfl⟩;exact⟨rfl,.inl rfl,fun j hj=>nomatch hj⟩) (aJ ⟨rfl,rfl,rfl,rfl,rfl,rfl,rfl,rfl,trivial⟩) (fun j hj=>nomatch hj) ?_)))))
 rintro _ ⟨W2,q2,hw2,rfl⟩
 refine cS [oB 800 87 [.pt 801 0,.d (.i (W2.tm)),.own 802 4,.own 803 3,ps 804 4 (W2.a),ps 805 5 (W2.b),ps 806 5 (W2.c),ps 807 10 (W2.d)],oB 801 92 [.d (.sl (aC l)),.d (.i (q2))],oR 802 79 5 (aG W2.ks),oR 803 4 1 (aK W2.ls),(.o 804,aI 175 4 fG),(.o 805,aI 29 5 cL),(.o 806,aI 29 5 cL),(.o 807,aI 140 10 iU)] ⟨W2,q2,⟨(hV.trans hw2.1).le (by omega),by omega,by omega⟩,rfl⟩ (rq [] [] rfl ?_)
 repeat' apply ai
 all_goals try exact qx
 all_goals(first|with_reducible rfl|(rfl))
set_option maxHeartbeats 6400000 in
theorem aQj (l:List UInt8) (p:Int) (W:eS) (hp:0≤p∧p≤880000) (hl:l.length≤2000) (hW:W.ok) (hd:W.d≤97000):tn 122 1 [tP 0 800,oB 800 87 [.pt 801 0,.d (.i (W.tm)),.own 802 4,.own 803 3,ps 804 4 (W.a),ps 805 5 (W.b),ps 806 5 (W.c),ps 807 10 (W.d)],oB 801 92 [.d (.sl (aC l)),.d (.i (p))],oR 802 79 5 (aG W.ks),oR 803 4 1 (aK W.ls),(.o 804,aI 175 4 fG),(.o 805,aI 29 5 cL),(.o 806,aI 29 5 cL),(.o 807,aI 140 10 iU)] (fun s=> ∃(W2:eS) (q:Int),(W2.of W 500∧p≤q∧q≤p+1000)∧s=[oB 800 87 [.pt 801 0,.d (.i (W2.tm)),.own 802 4,.own 803 3,ps 804 4 (W2.a),ps 805 5 (W2.b),ps 806 5 (W2.c),ps 807 10 (W2.d)],oB 801 92 [.d (.sl (aC l)),.d (.i (q))],oR 802 79 5 (aG W2.ks),oR 803 4 1 (aK W2.ls),(.o 804,aI 175 4 fG),(.o 805,aI 29 5 cL),(.o 806,aI 29 5 cL),(.o 807,aI 140 10 iU)]):=by
 refine uo Tryz.func122 rfl (sq (rE [0,89,90,91,92,93,94,95,96] (s1 (cU (robj:=[(800,.box 87 [.pt 801 0,.d (.i (W.tm)),.own 802 4,.own 803 3,ps 804 4 (W.a),ps 805 5 (W.b),ps 806 5 (W.c),ps 807 10 (W.d)]),(801,.box 92 [.d (.sl (aC l)),.d (.i (p))]),(802,.row 79 5 (aG W.ks)),(803,.row 4 1 (aK W.ls)),(804,aI 175 4 fG),(805,aI 29 5 cL),(806,aI 29 5 cL),(807,aI 140 10 iU)]) (rl:=[]) (bor:=[]) (news:=[]) (ix l p W 40 0 (by omega) hl hW (by omega) (by omega)) rfl rfl rfl rfl ⟨bU rfl rfl rfl rfl (cK rfl rfl (cK rfl rfl (aW rfl (dZ rfl rfl rfl (aD rfl (bI rfl rfl rfl (bI rfl rfl rfl (bD rfl rfl rfl (bD rfl rfl rfl (bD rfl rfl rfl (bD rfl rfl rfl aH)))))))) (aW rfl (aD rfl (aD rfl aH)) (bT rfl rfl (bT rfl rfl (aV rfl rfl (aV rfl rfl (aV rfl rfl (aV rfl rfl trivial)))))))))),rfl⟩ (by rintro _ ⟨W1,q1,hw1,rfl⟩;exact⟨rfl,.inl rfl,fun j hj=>nomatch hj⟩) (aJ ⟨rfl,rfl,rfl,rfl,rfl,rfl,rfl,rfl,trivial⟩) (fun j hj=>nomatch hj) ?_))))
 rintro _ ⟨W1,q1,hw1,rfl⟩
 refine sq (rE [0,89,90,91,92,93,94,95,96] (s1 (cU (robj:=[(800,.box 87 [.pt 801 0,.d (.i (W1.tm)),.own 802 4,.own 803 3,ps 804 4 (W1.a),ps 805 5 (W1.b),ps 806 5 (W1.c),ps 807 10 (W1.d)]),(801,.box 92 [.d (.sl (aC l)),.d (.i (q1))]),(802,.row 79 5 (aG W1.ks)),(803,.row 4 1 (aK W1.ls)),(804,aI 175 4 fG),(805,aI 29 5 cL),(806,aI 29 5 cL),(807,aI 140 10 iU)]) (rl:=[]) (bor:=[]) (news:=[]) (nt l q1 W1 6 0 (by omega) hl hw1.1.ok (by have:=hw1.1.few;omega) (by omega)) rfl rfl rfl rfl ⟨bU rfl rfl rfl rfl (cK rfl rfl (cK rfl rfl (aW rfl (dZ rfl rfl rfl (aD rfl (bI rfl rfl rfl (bI rfl rfl rfl (bD rfl rfl rfl (bD rfl rfl rfl (bD rfl rfl rfl (bD rfl rfl rfl aH)))))))) (aW rfl (aD rfl (aD rfl aH)) (bT rfl rfl (bT rfl rfl (aV rfl rfl (aV rfl rfl (aV rfl rfl (aV rfl rfl trivial)))))))))),rfl⟩ (by rintro _ ⟨W2,q2,hw2,rfl⟩;exact⟨rfl,.inl rfl,fun j hj=>nomatch hj⟩) (aJ ⟨rfl,rfl,rfl,rfl,rfl,rfl,rfl,rfl,trivial⟩) (fun j hj=>nomatch hj) ?_)))
 rintro _ ⟨W2,q2,hw2,rfl⟩
 refine sq (sq (rT [0,2,89,90,91,92,93,94,95,96] (s1 (bk ?_))))
 have hw1d:=hw1.1.few
 have hw2d:=hw2.1.few
 refine SW.loopW (n:=2) (fun x s=> ∃(i:Nat) (V:eS) (q:Int),x=2 - i∧(i≤2∧V.of W (160+30*i)∧p≤q∧q≤p+420+i)∧s=[tP 0 800,tI 2 (i:Nat),oB 800 87 [.pt 801 0,.d (.i (V.tm)),.own 802 4,.own 803 3,ps 804 4 (V.a),ps 805 5 (V.b),ps 806 5 (V.c),ps 807 10 (V.d)],oB 801 92 [.d (.sl (aC l)),.d (.i (q))],oR 802 79 5 (aG V.ks),oR 803 4 1 (aK V.ls),(.o 804,aI 175 4 fG),(.o 805,aI 29 5 cL),(.o 806,aI 29 5 cL),(.o 807,aI 140 10 iU)]) ?_ ?_
 · exact wq [] [] (⟨0,W2,q2,rfl,⟨by omega,(hw1.1.trans hw2.1).le (by omega),by omega,by omega⟩,rfl⟩) qz
 rintro n s ⟨i,V,q,rfl,⟨hi2,hV,hq⟩,rfl⟩
 have hVd:=hV.few
 have hpv:=cE l (p:=q) (n:=2) (by omega) (by omega)
 refine sq (sq (rT [0,2,20,89,90,91,92,93,94,95,96] (s5 (bH (robj:=[(801,.box 92 [.d (.sl (aC (l))),.d (.i (q))])]) (rl:=[(0,801)]) (bor:=[]) (cP (l) (q) _ (by omega) hl) rfl rfl rfl rfl ⟨bU rfl rfl rfl rfl (cK rfl rfl (aW rfl (aD rfl (aD rfl aH)) trivial)),rfl⟩ rfl (.inl rfl) (aJ ⟨rfl,trivial⟩) (fun _ hj=>nomatch hj) (s2 (cd rfl (fun c20=> ?_) fun c20=> ?_))))))
 · have hi1:i<2:=by rw[aF (by omega)] at c20;simp at c20;omega
   refine sk (sq (bk (sq (rT [0,2,3,89,90,91,92,93,94,95,96] (s5 (dg dQ rfl rfl rfl rfl rfl (s1 (sq (rT [0,2,3,4,89,90,91,92,93,94,95,96] (s1 (bk ?_)))))))))))
   obtain⟨a3,ha3,ha30⟩: ∃a3:Nat,a3=V.a∧a3≤30:=⟨_,rfl,hV.ok.ra⟩
   refine SW.loopW (n:=a3) (fun x s=> ∃(j:Nat) (U:eS),x=a3 - j∧(j≤a3∧U.of V j)∧s=[tP 0 800,tI 2 (i:Nat),tI 3 (a3:Nat),tI 4 (j:Nat),oB 800 87 [.pt 801 0,.d (.i (U.tm)),.own 802 4,.own 803 3,ps 804 4 (U.a),ps 805 5 (U.b),ps 806 5 (U.c),ps 807 10 (U.d)],oB 801 92 [.d (.sl (aC l)),.d (.i (q+1))],oR 802 79 5 (aG U.ks),oR 803 4 1 (aK U.ls),(.o 804,aI 175 4 fG),(.o 805,aI 29 5 cL),(.o 806,aI 29 5 cL),(.o 807,aI 140 10 iU)]) ?_ ?_
   · refine wq [] [] (⟨0,V,rfl,⟨by omega,eS.of.refl hV.ok⟩,rfl⟩) ?_
     repeat' apply ai
     all_goals first|exact qx|rfl|(rw[ha3])|exact qz
   rintro n s ⟨j,U,rfl,⟨hj,hU⟩,rfl⟩
   have hUd:=hU.few
   refine sq (sq (rT [0,2,3,4,31,89,90,91,92,93,94,95,96] (s3 (cd rfl (fun c31=> ?_) fun c31=> ?_))))
   · have hj2:j<a3:=by simp at c31;omega
     refine sk (sq (bk (rE [0,2,3,4,89,90,91,92,93,94,95,96] (s3 (cU (robj:=[(800,.box 87 [.pt 801 0,.d (.i (U.tm)),.own 802 4,.own 803 3,ps 804 4 (U.a),ps 805 5 (U.b),ps 806 5 (U.c),ps 807 10 (U.d)]),(801,.box 92 [.d (.sl (aC l)),.d (.i (q+1))]),(802,.row 79 5 (aG U.ks)),(803,.row 4 1 (aK U.ls)),(804,aI 175 4 fG),(805,aI 29 5 cL),(806,aI 29 5 cL),(807,aI 140 10 iU)]) (rl:=[]) (bor:=[]) (news:=[]) (bt l (q+1) U ⟨4,0,0,0,j,0,1,0,0,[]⟩ hU.ok (by simp) (by omega)) rfl rfl rfl rfl ⟨bU rfl rfl rfl rfl (cY rfl (aD rfl (aD rfl (aD rfl (aD rfl (aD rfl (aD rfl (aD rfl (aD rfl (aD rfl (aD rfl aH)))))))))) (aW rfl (dZ rfl rfl rfl (aD rfl (bI rfl rfl rfl (bI rfl rfl rfl (bD rfl rfl rfl (bD rfl rfl rfl (bD rfl rfl rfl (bD rfl rfl rfl aH)))))))) (aW rfl (aD rfl (aD rfl aH)) (bT rfl rfl (bT rfl rfl (aV rfl rfl (aV rfl rfl (aV rfl rfl (aV rfl rfl trivial))))))))),rfl⟩ (by rintro _ ⟨W3,ok3,hw3,rfl⟩;exact⟨rfl,.inl rfl,fun j hj=>nomatch hj⟩) (aJ ⟨rfl,rfl,rfl,rfl,rfl,rfl,rfl,rfl,trivial⟩) (fun j hj=>nomatch hj) ?_)))))
     rintro _ ⟨W3,ok3,hw3,rfl⟩
     refine rT [0,2,3,4,89,90,91,92,93,94,95,96] (s3 (wq [] [] (⟨a3 - (j+1),by omega,j+1,W3,rfl,⟨by omega,hU.trans hw3⟩,rfl⟩) ?_))
     repeat' apply ai
     all_goals first|exact qx|exact congrArg D.i (aF (by omega))|rfl|exact qz
   have hj3:j=a3:=by simp at c31;omega
   refine xt (rT [0,2,89,90,91,92,93,94,95,96] (s3 (wq [] [] (⟨2 - (i+1),by omega,i+1,U,q+1,rfl,⟨by omega,(hV.trans hU).le (by omega),by omega,by omega⟩,rfl⟩) ?_)))
   repeat' apply ai
   all_goals first|exact qx|exact congrArg D.i (aF (by omega))|rfl|exact qz
 refine xt (sq (rT [0,5,89,90,91,92,93,94,95,96] (s4 (bH (robj:=[(801,.box 92 [.d (.sl (aC (l))),.d (.i (q+1))])]) (rl:=[(0,801)]) (bor:=[]) (cP (l) (q+1) _ (by omega) hl) rfl rfl rfl rfl ⟨bU rfl rfl rfl rfl (cK rfl rfl (aW rfl (aD rfl (aD rfl aH)) trivial)),rfl⟩ rfl (.inl rfl) (aJ ⟨rfl,trivial⟩) (fun _ hj=>nomatch hj) (s1 (SW.midW (fun s=> ∃(V2:eS) (q4:Int),(V2.of V 10∧q≤q4∧q4≤q+5)∧s=[tP 0 800,oB 800 87 [.pt 801 0,.d (.i (V2.tm)),.own 802 4,.own 803 3,ps 804 4 (V2.a),ps 805 5 (V2.b),ps 806 5 (V2.c),ps 807 10 (V2.d)],oB 801 92 [.d (.sl (aC l)),.d (.i (q4))],oR 802 79 5 (aG V2.ks),oR 803 4 1 (aK V2.ls),(.o 804,aI 175 4 fG),(.o 805,aI 29 5 cL),(.o 806,aI 29 5 cL),(.o 807,aI 140 10 iU)]) ?_ ?_))))))
 · refine sq (rT [0,5,47,89,90,91,92,93,94,95,96] (s4 (bH (robj:=[(801,.box 92 [.d (.sl (aC (l))),.d (.i (q+1+1))])]) (rl:=[(0,801)]) (bor:=[]) (cP (l) (q+1+1) _ (by omega) hl) rfl rfl rfl rfl ⟨bU rfl rfl rfl rfl (cK rfl rfl (aW rfl (aD rfl (aD rfl aH)) trivial)),rfl⟩ rfl (.inl rfl) (aJ ⟨rfl,trivial⟩) (fun _ hj=>nomatch hj) (bk (sq (rT [0,5,47,48,89,90,91,92,93,94,95,96] (s2 (cd rfl (fun c48=> ?_) fun c48=> ?_))))))))
   · refine sq (rE [0,5,89,90,91,92,93,94,95,96] (s6 (gQ (bH (robj:=[(801,.box 92 [.d (.sl (aC (l))),.d (.i (q+1+1+1))])]) (rl:=[(0,801)]) (bor:=[]) (cP (l) (q+1+1+1) _ (by omega) hl) rfl rfl rfl rfl ⟨bU rfl rfl rfl rfl (cK rfl rfl (aW rfl (aD rfl (aD rfl aH)) trivial)),rfl⟩ rfl (.inl rfl) (aJ ⟨rfl,trivial⟩) (fun _ hj=>nomatch hj) (s1 (cU (robj:=[(800,.box 87 [.pt 801 0,.d (.i (V.tm)),.own 802 4,.own 803 3,ps 804 4 (V.a),ps 805 5 (V.b),ps 806 5 (V.c),ps 807 10 (V.d)]),(801,.box 92 [.d (.sl (aC l)),.d (.i (q+1+1+1+1))]),(802,.row 79 5 (aG V.ks)),(803,.row 4 1 (aK V.ls)),(804,aI 175 4 fG),(805,aI 29 5 cL),(806,aI 29 5 cL),(807,aI 140 10 iU)]) (rl:=[]) (bor:=[]) (news:=[]) (bt l (q+1+1+1+1) V ⟨7,aP l (q+1) 4,0,0,0,0,aP l (q+1+1+1) 40,0,0,[]⟩ hV.ok (by simp) (by omega)) rfl rfl rfl rfl ⟨bU rfl rfl rfl rfl (cY rfl (aD rfl (aD rfl (aD rfl (aD rfl (aD rfl (aD rfl (aD rfl (aD rfl (aD rfl (aD rfl aH)))))))))) (aW rfl (dZ rfl rfl rfl (aD rfl (bI rfl rfl rfl (bI rfl rfl rfl (bD rfl rfl rfl (bD rfl rfl rfl (bD rfl rfl rfl (bD rfl rfl rfl aH)))))))) (aW rfl (aD rfl (aD rfl aH)) (bT rfl rfl (bT rfl rfl (aV rfl rfl (aV rfl rfl (aV rfl rfl (aV rfl rfl trivial))))))))),rfl⟩ (by rintro _ ⟨W3,ok3,hw3,rfl⟩;exact⟨rfl,.inl rfl,fun j hj=>nomatch hj⟩) (aJ ⟨rfl,rfl,rfl,rfl,rfl,rfl,rfl,rfl,trivial⟩) (fun j hj=>nomatch hj) ?_))))))
     rintro _ ⟨W3,ok3,hw3,rfl⟩
     refine rE [0,89,90,91,92,93,94,95,96] (s3 (cU (robj:=[(800,.box 87 [.pt 801 0,.d (.i (W3.tm)),.own 802 4,.own 803 3,ps 804 4 (W3.a),ps 805 5 (W3.b),ps 806 5 (W3.c),ps 807 10 (W3.d)]),(801,.box 92 [.d (.sl (aC l)),.d (.i (q+1+1+1+1))]),(802,.row 79 5 (aG W3.ks)),(803,.row 4 1 (aK W3.ls)),(804,aI 175 4 fG),(805,aI 29 5 cL),(806,aI 29 5 cL),(807,aI 140 10 iU)]) (rl:=[]) (bor:=[]) (news:=[]) (bt l (q+1+1+1+1) W3 ⟨8,aP l (q+1) 4,0,0,0,0,0,0,0,[]⟩ hw3.ok (by simp) (by have:=hw3.few;omega)) rfl rfl rfl rfl ⟨bU rfl rfl rfl rfl (cY rfl (aD rfl (aD rfl (aD rfl (aD rfl (aD rfl (aD rfl (aD rfl (aD rfl (aD rfl (aD rfl aH)))))))))) (aW rfl (dZ rfl rfl rfl (aD rfl (bI rfl rfl rfl (bI rfl rfl rfl (bD rfl rfl rfl (bD rfl rfl rfl (bD rfl rfl rfl (bD rfl rfl rfl aH)))))))) (aW rfl (aD rfl (aD rfl aH)) (bT rfl rfl (bT rfl rfl (aV rfl rfl (aV rfl rfl (aV rfl rfl (aV rfl rfl trivial))))))))),rfl⟩ (by rintro _ ⟨W4,ok4,hw4,rfl⟩;exact⟨rfl,.inl rfl,fun j hj=>nomatch hj⟩) (aJ ⟨rfl,rfl,rfl,rfl,rfl,rfl,rfl,rfl,trivial⟩) (fun j hj=>nomatch hj) ?_))
     rintro _ ⟨W4,ok4,hw4,rfl⟩
     first
     |(exact wq [] [] ⟨W4,q+1+1+1+1,⟨(hw3.trans hw4).le (by omega),by omega,by omega⟩,rfl⟩ qz)
     |(exact wq [] [] ⟨U,q+1+1+1+1,⟨hU.le (by omega),by omega,by omega⟩,rfl⟩ qz)
     |(exact wq [] [] ⟨V,q+1+1+1,⟨(eS.of.refl hV.ok).le (by omega),by omega,by omega⟩,rfl⟩ qz)
   refine sq (rT [0,5,63,89,90,91,92,93,94,95,96] (s2 (cd rfl (fun c63=> ?_) fun c63=> ?_)))
   · refine sq (rT [0,5,6,89,90,91,92,93,94,95,96] (s4 (bH (robj:=[(801,.box 92 [.d (.sl (aC (l))),.d (.i (q+1+1+1))])]) (rl:=[(0,801)]) (bor:=[]) (cP (l) (q+1+1+1) _ (by omega) hl) rfl rfl rfl rfl ⟨bU rfl rfl rfl rfl (cK rfl rfl (aW rfl (aD rfl (aD rfl aH)) trivial)),rfl⟩ rfl (.inl rfl) (aJ ⟨rfl,trivial⟩) (fun _ hj=>nomatch hj) (s1 (bk ?_)))))
     obtain⟨k0,hk0,hk9⟩: ∃k0:Nat,aP l (q+1+1+1) 9=(k0:Int)∧k0≤8:=by have:=cE l (p:=q+1+1+1) (n:=9) (by omega) (by omega);exact⟨(aP l (q+1+1+1) 9).toNat,by omega,by omega⟩
     obtain⟨x5,hx5⟩: ∃x5:Int,x5=aP l (q+1) 4:=⟨_,rfl⟩
     refine SW.loopW (n:=k0) (fun x s=> ∃(U:eS),(x≤k0∧U.of V (k0 - x))∧s=[tP 0 800,tI 5 x5,tI 6 (x:Nat),oB 800 87 [.pt 801 0,.d (.i (U.tm)),.own 802 4,.own 803 3,ps 804 4 (U.a),ps 805 5 (U.b),ps 806 5 (U.c),ps 807 10 (U.d)],oB 801 92 [.d (.sl (aC l)),.d (.i (q+1+1+1+1))],oR 802 79 5 (aG U.ks),oR 803 4 1 (aK U.ls),(.o 804,aI 175 4 fG),(.o 805,aI 29 5 cL),(.o 806,aI 29 5 cL),(.o 807,aI 140 10 iU)]) ?_ ?_
     · refine wq [] [] (⟨V,⟨by omega,(eS.of.refl hV.ok).le (by omega)⟩,rfl⟩) ?_
       repeat' apply ai
       all_goals first|exact qx|exact congrArg D.i hk0|exact congrArg D.i hx5.symm|rfl|exact qz
     rintro n s ⟨U,⟨hx,hU⟩,rfl⟩
     have hUd:=hU.few
     refine sq (sq (rT [0,5,6,71,89,90,91,92,93,94,95,96] (s2 (cd rfl (fun c71=> ?_) fun c71=> ?_))))
     · have hn0:0<n:=by simp at c71;omega
       refine sk (sq (bk (rE [0,5,6,89,90,91,92,93,94,95,96] (s3 (cU (robj:=[(800,.box 87 [.pt 801 0,.d (.i (U.tm)),.own 802 4,.own 803 3,ps 804 4 (U.a),ps 805 5 (U.b),ps 806 5 (U.c),ps 807 10 (U.d)]),(801,.box 92 [.d (.sl (aC l)),.d (.i (q+1+1+1+1))]),(802,.row 79 5 (aG U.ks)),(803,.row 4 1 (aK U.ls)),(804,aI 175 4 fG),(805,aI 29 5 cL),(806,aI 29 5 cL),(807,aI 140 10 iU)]) (rl:=[]) (bor:=[]) (news:=[]) (bt l (q+1+1+1+1) U ⟨2,x5,0,0,0,0,0,0,0,[]⟩ hU.ok (by simp) (by omega)) rfl rfl rfl rfl ⟨bU rfl rfl rfl rfl (cY rfl (aD rfl (aD rfl (aD rfl (aD rfl (aD rfl (aD rfl (aD rfl (aD rfl (aD rfl (aD rfl aH)))))))))) (aW rfl (dZ rfl rfl rfl (aD rfl (bI rfl rfl rfl (bI rfl rfl rfl (bD rfl rfl rfl (bD rfl rfl rfl (bD rfl rfl rfl (bD rfl rfl rfl aH)))))))) (aW rfl (aD rfl (aD rfl aH)) (bT rfl rfl (bT rfl rfl (aV rfl rfl (aV rfl rfl (aV rfl rfl (aV rfl rfl trivial))))))))),rfl⟩ (by rintro _ ⟨W3,ok3,hw3,rfl⟩;exact⟨rfl,.inl rfl,fun j hj=>nomatch hj⟩) (aJ ⟨rfl,rfl,rfl,rfl,rfl,rfl,rfl,rfl,trivial⟩) (fun j hj=>nomatch hj) ?_)))))
       rintro _ ⟨W3,ok3,hw3,rfl⟩
       refine rT [0,5,6,89,90,91,92,93,94,95,96] (s3 (wq [] [] (⟨n - 1,by omega,W3,⟨by omega,(hU.trans hw3).le (by omega)⟩,rfl⟩) ?_))
       repeat' apply ai
       all_goals first|exact qx|(refine congrArg D.i ?_;rw[aF (by omega)];omega)|rfl|exact qz
     refine xt ?_
     first
     |(exact wq [] [] ⟨W4,q+1+1+1+1,⟨(hw3.trans hw4).le (by omega),by omega,by omega⟩,rfl⟩ qz)
     |(exact wq [] [] ⟨U,q+1+1+1+1,⟨hU.le (by omega),by omega,by omega⟩,rfl⟩ qz)
     |(exact wq [] [] ⟨V,q+1+1+1,⟨(eS.of.refl hV.ok).le (by omega),by omega,by omega⟩,rfl⟩ qz)
   refine sk ?_
   first
   |(exact wq [] [] ⟨W4,q+1+1+1+1,⟨(hw3.trans hw4).le (by omega),by omega,by omega⟩,rfl⟩ qz)
   |(exact wq [] [] ⟨U,q+1+1+1+1,⟨hU.le (by omega),by omega,by omega⟩,rfl⟩ qz)
   |(exact wq [] [] ⟨V,q+1+1+1,⟨(eS.of.refl hV.ok).le (by omega),by omega,by omega⟩,rfl⟩ qz)
 rintro s ⟨V2,q4,⟨hV2,hq4⟩,rfl⟩
 have hV2d:=hV2.few
 refine sq (rT [0,7,89,90,91,92,93,94,95,96] (s5 (dg dQ rfl rfl rfl rfl rfl (s1 (sq (rE [0,7,89,90,91,92,93,94,95,96] (s1 (cU (robj:=[(800,.box 87 [.pt 801 0,.d (.i (V2.tm)),.own 802 4,.own 803 3,ps 804 4 (V2.a),ps 805 5 (V2.b),ps 806 5 (V2.c),ps 807 10 (V2.d)]),(801,.box 92 [.d (.sl (aC l)),.d (.i (q4))]),(802,.row 79 5 (aG V2.ks)),(803,.row 4 1 (aK V2.ls)),(804,aI 175 4 fG),(805,aI 29 5 cL),(806,aI 29 5 cL),(807,aI 140 10 iU)]) (rl:=[]) (bor:=[]) (news:=[]) (nt l q4 V2 6 0 (by omega) hl hV2.ok (by omega) (by omega)) rfl rfl rfl rfl ⟨bU rfl rfl rfl rfl (cK rfl rfl (cK rfl rfl (aW rfl (dZ rfl rfl rfl (aD rfl (bI rfl rfl rfl (bI rfl rfl rfl (bD rfl rfl rfl (bD rfl rfl rfl (bD rfl rfl rfl (bD rfl rfl rfl aH)))))))) (aW rfl (aD rfl (aD rfl aH)) (bT rfl rfl (bT rfl rfl (aV rfl rfl (aV rfl rfl (aV rfl rfl (aV rfl rfl trivial)))))))))),rfl⟩ (by rintro _ ⟨V3,q7,hw7,rfl⟩;exact⟨rfl,.inl rfl,fun j hj=>nomatch hj⟩) (aJ ⟨rfl,rfl,rfl,rfl,rfl,rfl,rfl,rfl,trivial⟩) (fun j hj=>nomatch hj) ?_))))))))
 rintro _ ⟨V3,q7,hw7,rfl⟩
 refine sq (sq (rT [0,7,8,89,90,91,92,93,94,95,96] (s1 (bk ?_))))
 obtain⟨a7,ha7⟩: ∃a7:Nat,a7=V2.a:=⟨_,rfl⟩
 have hw7d:=hw7.1.few
 refine SW.loopW (n:=12) (fun x s=> ∃(i:Nat) (U:eS),x=12 - i∧(i≤12∧U.of V3 i)∧s=[tP 0 800,tI 7 (a7:Nat),tI 8 (i:Nat),oB 800 87 [.pt 801 0,.d (.i (U.tm)),.own 802 4,.own 803 3,ps 804 4 (U.a),ps 805 5 (U.b),ps 806 5 (U.c),ps 807 10 (U.d)],oB 801 92 [.d (.sl (aC l)),.d (.i (q7))],oR 802 79 5 (aG U.ks),oR 803 4 1 (aK U.ls),(.o 804,aI 175 4 fG),(.o 805,aI 29 5 cL),(.o 806,aI 29 5 cL),(.o 807,aI 140 10 iU)]) ?_ ?_
 · refine wq [] [] (⟨0,V3,rfl,⟨by omega,eS.of.refl hw7.1.ok⟩,rfl⟩) ?_
   repeat' apply ai
   all_goals first|exact qx|rfl|(rw[ha7])|exact qz
 rintro n s ⟨i7,U,rfl,⟨hi7,hU⟩,rfl⟩
 have hUd:=hU.few
 refine sq (sq (rT [0,7,8,89,90,91,92,93,94,95,96,97] (s3 (y4 (y1 (aAm dQ rfl rfl rfl rfl rfl rk (y2 (ai pk (cd rfl (fun c97=> ?_) fun c97=> ?_)))))))))
 · have hi12:i7<12:=by have h9:=c97;simp only[gb,aSg,decide_eq_true_eq] at h9;omega
   refine sk (sq (bk (rE [0,7,8,89,90,91,92,93,94,95,96] (s3 (cU (robj:=[(800,.box 87 [.pt 801 0,.d (.i (U.tm)),.own 802 4,.own 803 3,ps 804 4 (U.a),ps 805 5 (U.b),ps 806 5 (U.c),ps 807 10 (U.d)]),(801,.box 92 [.d (.sl (aC l)),.d (.i (q7))]),(802,.row 79 5 (aG U.ks)),(803,.row 4 1 (aK U.ls)),(804,aI 175 4 fG),(805,aI 29 5 cL),(806,aI 29 5 cL),(807,aI 140 10 iU)]) (rl:=[]) (bor:=[]) (news:=[]) (bt l q7 U ⟨4,0,0,0,a7,0,0,0,0,[]⟩ hU.ok (by simp) (by omega)) rfl rfl rfl rfl ⟨bU rfl rfl rfl rfl (cY rfl (aD rfl (aD rfl (aD rfl (aD rfl (aD rfl (aD rfl (aD rfl (aD rfl (aD rfl (aD rfl aH)))))))))) (aW rfl (dZ rfl rfl rfl (aD rfl (bI rfl rfl rfl (bI rfl rfl rfl (bD rfl rfl rfl (bD rfl rfl rfl (bD rfl rfl rfl (bD rfl rfl rfl aH)))))))) (aW rfl (aD rfl (aD rfl aH)) (bT rfl rfl (bT rfl rfl (aV rfl rfl (aV rfl rfl (aV rfl rfl (aV rfl rfl trivial))))))))),rfl⟩ (by rintro _ ⟨W3,ok3,hw3,rfl⟩;exact⟨rfl,.inl rfl,fun j hj=>nomatch hj⟩) (aJ ⟨rfl,rfl,rfl,rfl,rfl,rfl,rfl,rfl,trivial⟩) (fun j hj=>nomatch hj) ?_)))))
   rintro _ ⟨W3,ok3,hw3,rfl⟩
   refine rT [0,7,8,89,90,91,92,93,94,95,96] (s3 (wq [] [] (⟨12 - (i7+1),by omega,i7+1,W3,rfl,⟨by omega,hU.trans hw3⟩,rfl⟩) ?_))
   repeat' apply ai
   all_goals first|exact qx|exact congrArg D.i (aF (by omega))|rfl|exact qz
 refine xt (rE [] (s1 (cU (robj:=[(800,.box 87 [.pt 801 0,.d (.i (U.tm)),.own 802 4,.own 803 3,ps 804 4 (U.a),ps 805 5 (U.b),ps 806 5 (U.c),ps 807 10 (U.d)]),(801,.box 92 [.d (.sl (aC l)),.d (.i (q7))]),(802,.row 79 5 (aG U.ks)),(803,.row 4 1 (aK U.ls)),(804,aI 175 4 fG),(805,aI 29 5 cL),(806,aI 29 5 cL),(807,aI 140 10 iU)]) (rl:=[]) (bor:=[]) (news:=[]) (ix l q7 U 40 0 (by omega) hl hU.ok (by omega) (by omega)) rfl rfl rfl rfl ⟨bU rfl rfl rfl rfl (cK rfl rfl (cK rfl rfl (aW rfl (dZ rfl rfl rfl (aD rfl (bI rfl rfl rfl (bI rfl rfl rfl (bD rfl rfl rfl (bD rfl rfl rfl (bD rfl rfl rfl (bD rfl rfl rfl aH)))))))) (aW rfl (aD rfl (aD rfl aH)) (bT rfl rfl (bT rfl rfl (aV rfl rfl (aV rfl rfl (aV rfl rfl (aV rfl rfl trivial)))))))))),rfl⟩ (by rintro _ ⟨W9,q9,hw9,rfl⟩;exact⟨rfl,.inl rfl,fun j hj=>nomatch hj⟩) (aJ ⟨rfl,rfl,rfl,rfl,rfl,rfl,rfl,rfl,trivial⟩) (fun j hj=>nomatch hj) ?_)))
 rintro _ ⟨W9,q9,hw9,rfl⟩
 refine cS [oB 800 87 [.pt 801 0,.d (.i (W9.tm)),.own 802 4,.own 803 3,ps 804 4 (W9.a),ps 805 5 (W9.b),ps 806 5 (W9.c),ps 807 10 (W9.d)],oB 801 92 [.d (.sl (aC l)),.d (.i (q9))],oR 802 79 5 (aG W9.ks),oR 803 4 1 (aK W9.ls),(.o 804,aI 175 4 fG),(.o 805,aI 29 5 cL),(.o 806,aI 29 5 cL),(.o 807,aI 140 10 iU)] ⟨W9,q9,⟨(hV.trans (hV2.trans (hw7.1.trans (hU.trans hw9.1)))).le (by omega),by omega,by omega⟩,rfl⟩ (rq [] [] rfl ?_)
 repeat' apply ai
 all_goals try exact qx
 all_goals(first|with_reducible rfl|(rfl))
set_option maxHeartbeats 6400000 in
theorem aQk (l:List UInt8) (p:Int) (W:eS) (r:Int) (hp:0≤p∧p≤870000) (hl:l.length≤2000) (hW:W.ok) (hd:W.d≤96000):tn 98 2 [tP 0 800,tI 1 r,oB 800 87 [.pt 801 0,.d (.i (W.tm)),.own 802 4,.own 803 3,ps 804 4 (W.a),ps 805 5 (W.b),ps 806 5 (W.c),ps 807 10 (W.d)],oB 801 92 [.d (.sl (aC l)),.d (.i (p))],oR 802 79 5 (aG W.ks),oR 803 4 1 (aK W.ls),(.o 804,aI 175 4 fG),(.o 805,aI 29 5 cL),(.o 806,aI 29 5 cL),(.o 807,aI 140 10 iU)] (fun s=> ∃(W2:eS) (q:Int),(W2.of W 520∧p≤q∧q≤p+1200)∧s=[oB 800 87 [.pt 801 0,.d (.i (W2.tm)),.own 802 4,.own 803 3,ps 804 4 (W2.a),ps 805 5 (W2.b),ps 806 5 (W2.c),ps 807 10 (W2.d)],oB 801 92 [.d (.sl (aC l)),.d (.i (q))],oR 802 79 5 (aG W2.ks),oR 803 4 1 (aK W2.ls),(.o 804,aI 175 4 fG),(.o 805,aI 29 5 cL),(.o 806,aI 29 5 cL),(.o 807,aI 140 10 iU)]):=by
 refine uo Tryz.func98 rfl (sq (rT [0,1,4] (s4 (bH (robj:=[(801,.box 92 [.d (.sl (aC (l))),.d (.i (p))])]) (rl:=[(0,801)]) (bor:=[]) (cP (l) (p) _ (by omega) hl) rfl rfl rfl rfl ⟨bU rfl rfl rfl rfl (cK rfl rfl (aW rfl (aD rfl (aD rfl aH)) trivial)),rfl⟩ rfl (.inl rfl) (aJ ⟨rfl,trivial⟩) (fun _ hj=>nomatch hj) (s1 (sq ?_))))))
 obtain⟨i,hi,hil⟩:=xW (show 0≤aP l p 4∧aP l p 4≤3 by have:=cE l (p:=p) (n:=4) (by omega) (by omega);omega)
 obtain⟨v,hv⟩: ∃v:Int,v=aP l (p+1) 24:=⟨_,rfl⟩
 refine rT [0,1,4,18] (s4 (bH (robj:=[(801,.box 92 [.d (.sl (aC (l))),.d (.i (p+1))])]) (rl:=[(0,801)]) (bor:=[]) (cP (l) (p+1) _ (by omega) hl) rfl rfl rfl rfl ⟨bU rfl rfl rfl rfl (cK rfl rfl (aW rfl (aD rfl (aD rfl aH)) trivial)),rfl⟩ rfl (.inl rfl) (aJ ⟨rfl,trivial⟩) (fun _ hj=>nomatch hj) (bk (SW.midW (fun s=> ∃cb:Bool,s=[tP 0 800,tI 1 r,tI 4 (i:Nat),tI 18 v,tB 27 cb,oB 800 87 [.pt 801 0,.d (.i (W.tm)),.own 802 4,.own 803 3,ps 804 4 (W.a),ps 805 5 (W.b),ps 806 5 (W.c),ps 807 10 (W.d)],oB 801 92 [.d (.sl (aC l)),.d (.i (p+1+1))],oR 802 79 5 (aG W.ks),oR 803 4 1 (aK W.ls),(.o 804,aI 175 4 fG),(.o 805,aI 29 5 cL),(.o 806,aI 29 5 cL),(.o 807,aI 140 10 iU)]) ?_ ?_))))
 · refine sq (rT [0,1,4,18,27] (s2 (cd rfl (fun c27=> ?_) fun c27=> ?_)))
   · refine sk (wq [] [] ⟨?c1,rfl⟩ ?_)
     repeat' apply ai
     all_goals try exact qx
     try any_goals first|with_reducible rfl|exact congrArg D.i hi|exact congrArg D.i hv.symm|rfl
   refine sq (rT [0,1,4,18,27] (s2 (cd rfl (fun c27=> ?_) fun c27=> ?_)))
   · refine sk (wq [] [] ⟨?c2,rfl⟩ ?_)
     repeat' apply ai
     all_goals try exact qx
     try any_goals first|with_reducible rfl|exact congrArg D.i hi|exact congrArg D.i hv.symm|rfl
   refine rT [0,1,4,18,27] (s2 (wq [] [] ⟨?c3,rfl⟩ ?_))
   repeat' apply ai
   all_goals try exact qx
   try any_goals first|with_reducible rfl|exact congrArg D.i hi|exact congrArg D.i hv.symm|rfl
 rintro s ⟨cb27,rfl⟩
 refine cd rfl (fun c27=> ?_) fun c27=> ?_
 · refine rE [] (s1 (cU (robj:=[(800,.box 87 [.pt 801 0,.d (.i (W.tm)),.own 802 4,.own 803 3,ps 804 4 (W.a),ps 805 5 (W.b),ps 806 5 (W.c),ps 807 10 (W.d)]),(801,.box 92 [.d (.sl (aC l)),.d (.i (p+1+1))]),(802,.row 79 5 (aG W.ks)),(803,.row 4 1 (aK W.ls)),(804,aI 175 4 fG),(805,aI 29 5 cL),(806,aI 29 5 cL),(807,aI 140 10 iU)]) (rl:=[]) (bor:=[]) (news:=[]) (aOs l (p+1+1) W (by omega) hl hW (by omega)) rfl rfl rfl rfl ⟨bU rfl rfl rfl rfl (aW rfl (dZ rfl rfl rfl (aD rfl (bI rfl rfl rfl (bI rfl rfl rfl (bD rfl rfl rfl (bD rfl rfl rfl (bD rfl rfl rfl (bD rfl rfl rfl aH)))))))) (aW rfl (aD rfl (aD rfl aH)) (bT rfl rfl (bT rfl rfl (aV rfl rfl (aV rfl rfl (aV rfl rfl (aV rfl rfl trivial)))))))),rfl⟩ (by rintro _ ⟨W2,q2,hw2,rfl⟩;exact⟨rfl,.inl rfl,fun j hj=>nomatch hj⟩) (aJ ⟨rfl,rfl,rfl,rfl,rfl,rfl,rfl,rfl,trivial⟩) (fun j hj=>nomatch hj) ?_))
   rintro _ ⟨W2,q2,hw2,rfl⟩
   refine cS [oB 800 87 [.pt 801 0,.d (.i (W2.tm)),.own 802 4,.own 803 3,ps 804 4 (W2.a),ps 805 5 (W2.b),ps 806 5 (W2.c),ps 807 10 (W2.d)],oB 801 92 [.d (.sl (aC l)),.d (.i (q2))],oR 802 79 5 (aG W2.ks),oR 803 4 1 (aK W2.ls),(.o 804,aI 175 4 fG),(.o 805,aI 29 5 cL),(.o 806,aI 29 5 cL),(.o 807,aI 140 10 iU)] ⟨W2,q2,⟨(hw2.1).le (by omega),by omega,by omega⟩,rfl⟩ (rq [] [] rfl ?_)
   repeat' apply ai
   all_goals try exact qx
   all_goals(first|with_reducible rfl|(rfl))
 refine SW.midW (fun s=> ∃cb:Bool,s=[tP 0 800,tI 1 r,tI 4 (i:Nat),tI 18 v,tB 33 cb,oB 800 87 [.pt 801 0,.d (.i (W.tm)),.own 802 4,.own 803 3,ps 804 4 (W.a),ps 805 5 (W.b),ps 806 5 (W.c),ps 807 10 (W.d)],oB 801 92 [.d (.sl (aC l)),.d (.i (p+1+1))],oR 802 79 5 (aG W.ks),oR 803 4 1 (aK W.ls),(.o 804,aI 175 4 fG),(.o 805,aI 29 5 cL),(.o 806,aI 29 5 cL),(.o 807,aI 140 10 iU)]) ?_ ?_
 · refine sq (rT [0,1,4,18,33] (s2 (cd rfl (fun c33=> ?_) fun c33=> ?_)))
   · refine sk (wq [] [] ⟨?c4,rfl⟩ ?_)
     repeat' apply ai
     all_goals try exact qx
     try any_goals first|with_reducible rfl|exact congrArg D.i hi|exact congrArg D.i hv.symm|rfl
   refine sq (rT [0,1,4,18,33] (s2 (cd rfl (fun c33=> ?_) fun c33=> ?_)))
   · refine sk (wq [] [] ⟨?c5,rfl⟩ ?_)
     repeat' apply ai
     all_goals try exact qx
     try any_goals first|with_reducible rfl|exact congrArg D.i hi|exact congrArg D.i hv.symm|rfl
   refine sq (rT [0,1,4,18,33] (s2 (cd rfl (fun c33=> ?_) fun c33=> ?_)))
   · refine sk (wq [] [] ⟨?c6,rfl⟩ ?_)
     repeat' apply ai
     all_goals try exact qx
     try any_goals first|with_reducible rfl|exact congrArg D.i hi|exact congrArg D.i hv.symm|rfl
   refine sq (rT [0,1,4,18,33] (s2 (cd rfl (fun c33=> ?_) fun c33=> ?_)))
   · refine sk (wq [] [] ⟨?c7,rfl⟩ ?_)
     repeat' apply ai
     all_goals try exact qx
     try any_goals first|with_reducible rfl|exact congrArg D.i hi|exact congrArg D.i hv.symm|rfl
   refine sq (rT [0,1,4,18,33] (s2 (cd rfl (fun c33=> ?_) fun c33=> ?_)))
   · refine sk (wq [] [] ⟨?c8,rfl⟩ ?_)
     repeat' apply ai
     all_goals try exact qx
     try any_goals first|with_reducible rfl|exact congrArg D.i hi|exact congrArg D.i hv.symm|rfl
   refine rT [0,1,4,18,33] (s2 (wq [] [] ⟨?c9,rfl⟩ ?_))
   repeat' apply ai
   all_goals try exact qx
   try any_goals first|with_reducible rfl|exact congrArg D.i hi|exact congrArg D.i hv.symm|rfl
 rintro s ⟨cb33,rfl⟩
 refine cd rfl (fun c33=> ?_) fun c33=> ?_
 · refine rE [] (s5 (gQ (bH (robj:=[(801,.box 92 [.d (.sl (aC (l))),.d (.i (p+1+1))])]) (rl:=[(0,801)]) (bor:=[]) (cP (l) (p+1+1) _ (by omega) hl) rfl rfl rfl rfl ⟨bU rfl rfl rfl rfl (cK rfl rfl (aW rfl (aD rfl (aD rfl aH)) trivial)),rfl⟩ rfl (.inl rfl) (aJ ⟨rfl,trivial⟩) (fun _ hj=>nomatch hj) ?_)))
   obtain⟨m7,hm7,hbm7⟩: ∃m7:Nat,wrap64 (1+aP l (p+1+1) 7)=(m7:Int)∧1≤m7∧m7≤7:=by have:=cE l (p:=p+1+1) (n:=7) (by omega) (by omega);rw[aF (by omega)];exact⟨(1+aP l (p+1+1) 7).toNat,by omega,by omega,by omega⟩
   refine s2 (cU (robj:=[(800,.box 87 [.pt 801 0,.d (.i (W.tm)),.own 802 4,.own 803 3,ps 804 4 (W.a),ps 805 5 (W.b),ps 806 5 (W.c),ps 807 10 (W.d)]),(801,.box 92 [.d (.sl (aC l)),.d (.i (p+1+1+1))]),(802,.row 79 5 (aG W.ks)),(803,.row 4 1 (aK W.ls)),(804,aI 175 4 fG),(805,aI 29 5 cL),(806,aI 29 5 cL),(807,aI 140 10 iU)]) (rl:=[]) (bor:=[]) (news:=[]) (nt l (p+1+1+1) W m7 r (by omega) hl hW (by omega) (by omega)) rfl rfl rfl rfl ⟨bU rfl rfl rfl rfl (cK rfl (congrArg D.i hm7) (cK rfl rfl (aW rfl (dZ rfl rfl rfl (aD rfl (bI rfl rfl rfl (bI rfl rfl rfl (bD rfl rfl rfl (bD rfl rfl rfl (bD rfl rfl rfl (bD rfl rfl rfl aH)))))))) (aW rfl (aD rfl (aD rfl aH)) (bT rfl rfl (bT rfl rfl (aV rfl rfl (aV rfl rfl (aV rfl rfl (aV rfl rfl trivial)))))))))),rfl⟩ (by rintro _ ⟨W2,q2,hw2,rfl⟩;exact⟨rfl,.inl rfl,fun j hj=>nomatch hj⟩) (aJ ⟨rfl,rfl,rfl,rfl,rfl,rfl,rfl,rfl,trivial⟩) (fun j hj=>nomatch hj) ?_)
   rintro _ ⟨W2,q2,hw2,rfl⟩
   refine cS [oB 800 87 [.pt 801 0,.d (.i (W2.tm)),.own 802 4,.own 803 3,ps 804 4 (W2.a),ps 805 5 (W2.b),ps 806 5 (W2.c),ps 807 10 (W2.d)],oB 801 92 [.d (.sl (aC l)),.d (.i (q2))],oR 802 79 5 (aG W2.ks),oR 803 4 1 (aK W2.ls),(.o 804,aI 175 4 fG),(.o 805,aI 29 5 cL),(.o 806,aI 29 5 cL),(.o 807,aI 140 10 iU)] ⟨W2,q2,⟨(hw2.1).le (by omega),by omega,by omega⟩,rfl⟩ (rq [] [] rfl ?_)
   repeat' apply ai
   all_goals try exact qx
   all_goals(first|with_reducible rfl|(rfl))
 refine SW.midW (fun s=> ∃cb:Bool,s=[tP 0 800,tI 1 r,tI 4 (i:Nat),tI 18 v,tB 49 cb,oB 800 87 [.pt 801 0,.d (.i (W.tm)),.own 802 4,.own 803 3,ps 804 4 (W.a),ps 805 5 (W.b),ps 806 5 (W.c),ps 807 10 (W.d)],oB 801 92 [.d (.sl (aC l)),.d (.i (p+1+1))],oR 802 79 5 (aG W.ks),oR 803 4 1 (aK W.ls),(.o 804,aI 175 4 fG),(.o 805,aI 29 5 cL),(.o 806,aI 29 5 cL),(.o 807,aI 140 10 iU)]) ?_ ?_
 · refine sq (rT [0,1,4,18,49] (s2 (cd rfl (fun c49=> ?_) fun c49=> ?_)))
   · refine sk (wq [] [] ⟨?c10,rfl⟩ ?_)
     repeat' apply ai
     all_goals try exact qx
     try any_goals first|with_reducible rfl|exact congrArg D.i hi|exact congrArg D.i hv.symm|rfl
   refine rT [0,1,4,18,49] (s2 (wq [] [] ⟨?c11,rfl⟩ ?_))
   repeat' apply ai
   all_goals try exact qx
   try any_goals first|with_reducible rfl|exact congrArg D.i hi|exact congrArg D.i hv.symm|rfl
 rintro s ⟨cb49,rfl⟩
 refine cd rfl (fun c49=> ?_) fun c49=> ?_
 · refine rE [] (s5 (gQ (bH (robj:=[(801,.box 92 [.d (.sl (aC (l))),.d (.i (p+1+1))])]) (rl:=[(0,801)]) (bor:=[]) (cP (l) (p+1+1) _ (by omega) hl) rfl rfl rfl rfl ⟨bU rfl rfl rfl rfl (cK rfl rfl (aW rfl (aD rfl (aD rfl aH)) trivial)),rfl⟩ rfl (.inl rfl) (aJ ⟨rfl,trivial⟩) (fun _ hj=>nomatch hj) ?_)))
   obtain⟨m7,hm7,hbm7⟩: ∃m7:Nat,wrap64 (1+aP l (p+1+1) 20)=(m7:Int)∧1≤m7∧m7≤20:=by have:=cE l (p:=p+1+1) (n:=20) (by omega) (by omega);rw[aF (by omega)];exact⟨(1+aP l (p+1+1) 20).toNat,by omega,by omega,by omega⟩
   refine s2 (cU (robj:=[(800,.box 87 [.pt 801 0,.d (.i (W.tm)),.own 802 4,.own 803 3,ps 804 4 (W.a),ps 805 5 (W.b),ps 806 5 (W.c),ps 807 10 (W.d)]),(801,.box 92 [.d (.sl (aC l)),.d (.i (p+1+1+1))]),(802,.row 79 5 (aG W.ks)),(803,.row 4 1 (aK W.ls)),(804,aI 175 4 fG),(805,aI 29 5 cL),(806,aI 29 5 cL),(807,aI 140 10 iU)]) (rl:=[]) (bor:=[]) (news:=[]) (ix l (p+1+1+1) W m7 r (by omega) hl hW (by omega) (by omega)) rfl rfl rfl rfl ⟨bU rfl rfl rfl rfl (cK rfl (congrArg D.i hm7) (cK rfl rfl (aW rfl (dZ rfl rfl rfl (aD rfl (bI rfl rfl rfl (bI rfl rfl rfl (bD rfl rfl rfl (bD rfl rfl rfl (bD rfl rfl rfl (bD rfl rfl rfl aH)))))))) (aW rfl (aD rfl (aD rfl aH)) (bT rfl rfl (bT rfl rfl (aV rfl rfl (aV rfl rfl (aV rfl rfl (aV rfl rfl trivial)))))))))),rfl⟩ (by rintro _ ⟨W2,q2,hw2,rfl⟩;exact⟨rfl,.inl rfl,fun j hj=>nomatch hj⟩) (aJ ⟨rfl,rfl,rfl,rfl,rfl,rfl,rfl,rfl,trivial⟩) (fun j hj=>nomatch hj) ?_)
   rintro _ ⟨W2,q2,hw2,rfl⟩
   refine cS [oB 800 87 [.pt 801 0,.d (.i (W2.tm)),.own 802 4,.own 803 3,ps 804 4 (W2.a),ps 805 5 (W2.b),ps 806 5 (W2.c),ps 807 10 (W2.d)],oB 801 92 [.d (.sl (aC l)),.d (.i (q2))],oR 802 79 5 (aG W2.ks),oR 803 4 1 (aK W2.ls),(.o 804,aI 175 4 fG),(.o 805,aI 29 5 cL),(.o 806,aI 29 5 cL),(.o 807,aI 140 10 iU)] ⟨W2,q2,⟨(hw2.1).le (by omega),by omega,by omega⟩,rfl⟩ (rq [] [] rfl ?_)
   repeat' apply ai
   all_goals try exact qx
   all_goals(first|with_reducible rfl|(rfl))
 refine SW.midW (fun s=> ∃cb:Bool,s=[tP 0 800,tI 4 (i:Nat),tI 18 v,tB 61 cb,oB 800 87 [.pt 801 0,.d (.i (W.tm)),.own 802 4,.own 803 3,ps 804 4 (W.a),ps 805 5 (W.b),ps 806 5 (W.c),ps 807 10 (W.d)],oB 801 92 [.d (.sl (aC l)),.d (.i (p+1+1))],oR 802 79 5 (aG W.ks),oR 803 4 1 (aK W.ls),(.o 804,aI 175 4 fG),(.o 805,aI 29 5 cL),(.o 806,aI 29 5 cL),(.o 807,aI 140 10 iU)]) ?_ ?_
 · refine sq (rT [0,4,18,61] (s2 (cd rfl (fun c61=> ?_) fun c61=> ?_)))
   · refine sk (wq [] [] ⟨?c12,rfl⟩ ?_)
     repeat' apply ai
     all_goals try exact qx
     try any_goals first|with_reducible rfl|exact congrArg D.i hi|exact congrArg D.i hv.symm|rfl
   refine rT [0,4,18,61] (s2 (wq [] [] ⟨?c13,rfl⟩ ?_))
   repeat' apply ai
   all_goals try exact qx
   try any_goals first|with_reducible rfl|exact congrArg D.i hi|exact congrArg D.i hv.symm|rfl
 rintro s ⟨cb61,rfl⟩
 refine cd rfl (fun c61=> ?_) fun c61=> ?_
 · refine rE [] (s3 (cU (robj:=[(800,.box 87 [.pt 801 0,.d (.i (W.tm)),.own 802 4,.own 803 3,ps 804 4 (W.a),ps 805 5 (W.b),ps 806 5 (W.c),ps 807 10 (W.d)]),(801,.box 92 [.d (.sl (aC l)),.d (.i (p+1+1))]),(802,.row 79 5 (aG W.ks)),(803,.row 4 1 (aK W.ls)),(804,aI 175 4 fG),(805,aI 29 5 cL),(806,aI 29 5 cL),(807,aI 140 10 iU)]) (rl:=[]) (bor:=[]) (news:=[]) (bt l (p+1+1) W ⟨2,i,0,0,0,0,0,0,0,[]⟩ hW (by simp) (by omega)) rfl rfl rfl rfl ⟨bU rfl rfl rfl rfl (cY rfl (aD rfl (aD rfl (aD rfl (aD rfl (aD rfl (aD rfl (aD rfl (aD rfl (aD rfl (aD rfl aH)))))))))) (aW rfl (dZ rfl rfl rfl (aD rfl (bI rfl rfl rfl (bI rfl rfl rfl (bD rfl rfl rfl (bD rfl rfl rfl (bD rfl rfl rfl (bD rfl rfl rfl aH)))))))) (aW rfl (aD rfl (aD rfl aH)) (bT rfl rfl (bT rfl rfl (aV rfl rfl (aV rfl rfl (aV rfl rfl (aV rfl rfl trivial))))))))),rfl⟩ (by rintro _ ⟨W2,ok2,hw2,rfl⟩;exact⟨rfl,.inl rfl,fun j hj=>nomatch hj⟩) (aJ ⟨rfl,rfl,rfl,rfl,rfl,rfl,rfl,rfl,trivial⟩) (fun j hj=>nomatch hj) ?_))
   rintro _ ⟨W2,ok2,hw2,rfl⟩
   refine cS [oB 800 87 [.pt 801 0,.d (.i (W2.tm)),.own 802 4,.own 803 3,ps 804 4 (W2.a),ps 805 5 (W2.b),ps 806 5 (W2.c),ps 807 10 (W2.d)],oB 801 92 [.d (.sl (aC l)),.d (.i ((p+1+1)))],oR 802 79 5 (aG W2.ks),oR 803 4 1 (aK W2.ls),(.o 804,aI 175 4 fG),(.o 805,aI 29 5 cL),(.o 806,aI 29 5 cL),(.o 807,aI 140 10 iU)] ⟨W2,(p+1+1),⟨(hw2).le (by omega),by omega,by omega⟩,rfl⟩ (rq [] [] rfl ?_)
   repeat' apply ai
   all_goals try exact qx
   all_goals(first|with_reducible rfl|(rfl))
 refine sq (rT [0,4,18,68] (s2 (cd rfl (fun c68=> ?_) fun c68=> ?_)))
 · refine rE [] (s6 (gQ (bH (robj:=[(801,.box 92 [.d (.sl (aC (l))),.d (.i (p+1+1))])]) (rl:=[(0,801)]) (bor:=[]) (cP (l) (p+1+1) _ (by omega) hl) rfl rfl rfl rfl ⟨bU rfl rfl rfl rfl (cK rfl rfl (aW rfl (aD rfl (aD rfl aH)) trivial)),rfl⟩ rfl (.inl rfl) (aJ ⟨rfl,trivial⟩) (fun _ hj=>nomatch hj) (s1 (cU (robj:=[(800,.box 87 [.pt 801 0,.d (.i (W.tm)),.own 802 4,.own 803 3,ps 804 4 (W.a),ps 805 5 (W.b),ps 806 5 (W.c),ps 807 10 (W.d)]),(801,.box 92 [.d (.sl (aC l)),.d (.i (p+1+1+1))]),(802,.row 79 5 (aG W.ks)),(803,.row 4 1 (aK W.ls)),(804,aI 175 4 fG),(805,aI 29 5 cL),(806,aI 29 5 cL),(807,aI 140 10 iU)]) (rl:=[]) (bor:=[]) (news:=[]) (bt l (p+1+1+1) W ⟨7,i,0,0,0,0,aP l (p+1+1) 50,0,0,[]⟩ hW (by simp) (by omega)) rfl rfl rfl rfl ⟨bU rfl rfl rfl rfl (cY rfl (aD rfl (aD rfl (aD rfl (aD rfl (aD rfl (aD rfl (aD rfl (aD rfl (aD rfl (aD rfl aH)))))))))) (aW rfl (dZ rfl rfl rfl (aD rfl (bI rfl rfl rfl (bI rfl rfl rfl (bD rfl rfl rfl (bD rfl rfl rfl (bD rfl rfl rfl (bD rfl rfl rfl aH)))))))) (aW rfl (aD rfl (aD rfl aH)) (bT rfl rfl (bT rfl rfl (aV rfl rfl (aV rfl rfl (aV rfl rfl (aV rfl rfl trivial))))))))),rfl⟩ (by rintro _ ⟨W2,ok2,hw2,rfl⟩;exact⟨rfl,.inl rfl,fun j hj=>nomatch hj⟩) (aJ ⟨rfl,rfl,rfl,rfl,rfl,rfl,rfl,rfl,trivial⟩) (fun j hj=>nomatch hj) ?_)))))
   rintro _ ⟨W2,ok2,hw2,rfl⟩
   refine cS [oB 800 87 [.pt 801 0,.d (.i (W2.tm)),.own 802 4,.own 803 3,ps 804 4 (W2.a),ps 805 5 (W2.b),ps 806 5 (W2.c),ps 807 10 (W2.d)],oB 801 92 [.d (.sl (aC l)),.d (.i ((p+1+1+1)))],oR 802 79 5 (aG W2.ks),oR 803 4 1 (aK W2.ls),(.o 804,aI 175 4 fG),(.o 805,aI 29 5 cL),(.o 806,aI 29 5 cL),(.o 807,aI 140 10 iU)] ⟨W2,(p+1+1+1),⟨(hw2).le (by omega),by omega,by omega⟩,rfl⟩ (rq [] [] rfl ?_)
   repeat' apply ai
   all_goals try exact qx
   all_goals(first|with_reducible rfl|(rfl))
 refine SW.midW (fun s=> ∃cb:Bool,s=[tP 0 800,tI 4 (i:Nat),tI 18 v,tB 79 cb,oB 800 87 [.pt 801 0,.d (.i (W.tm)),.own 802 4,.own 803 3,ps 804 4 (W.a),ps 805 5 (W.b),ps 806 5 (W.c),ps 807 10 (W.d)],oB 801 92 [.d (.sl (aC l)),.d (.i (p+1+1))],oR 802 79 5 (aG W.ks),oR 803 4 1 (aK W.ls),(.o 804,aI 175 4 fG),(.o 805,aI 29 5 cL),(.o 806,aI 29 5 cL),(.o 807,aI 140 10 iU)]) ?_ ?_
 · refine sq (rT [0,4,18,79] (s2 (cd rfl (fun c79=> ?_) fun c79=> ?_)))
   · refine sk (wq [] [] ⟨?c14,rfl⟩ ?_)
     repeat' apply ai
     all_goals try exact qx
     try any_goals first|with_reducible rfl|exact congrArg D.i hi|exact congrArg D.i hv.symm|rfl
   refine rT [0,4,18,79] (s2 (wq [] [] ⟨?c15,rfl⟩ ?_))
   repeat' apply ai
   all_goals try exact qx
   try any_goals first|with_reducible rfl|exact congrArg D.i hi|exact congrArg D.i hv.symm|rfl
 rintro s ⟨cb79,rfl⟩
 refine cd rfl (fun c79=> ?_) fun c79=> ?_
 · refine rE [] (s3 (cU (robj:=[(800,.box 87 [.pt 801 0,.d (.i (W.tm)),.own 802 4,.own 803 3,ps 804 4 (W.a),ps 805 5 (W.b),ps 806 5 (W.c),ps 807 10 (W.d)]),(801,.box 92 [.d (.sl (aC l)),.d (.i (p+1+1))]),(802,.row 79 5 (aG W.ks)),(803,.row 4 1 (aK W.ls)),(804,aI 175 4 fG),(805,aI 29 5 cL),(806,aI 29 5 cL),(807,aI 140 10 iU)]) (rl:=[]) (bor:=[]) (news:=[]) (bt l (p+1+1) W ⟨8,i,0,0,0,0,0,0,0,[]⟩ hW (by simp) (by omega)) rfl rfl rfl rfl ⟨bU rfl rfl rfl rfl (cY rfl (aD rfl (aD rfl (aD rfl (aD rfl (aD rfl (aD rfl (aD rfl (aD rfl (aD rfl (aD rfl aH)))))))))) (aW rfl (dZ rfl rfl rfl (aD rfl (bI rfl rfl rfl (bI rfl rfl rfl (bD rfl rfl rfl (bD rfl rfl rfl (bD rfl rfl rfl (bD rfl rfl rfl aH)))))))) (aW rfl (aD rfl (aD rfl aH)) (bT rfl rfl (bT rfl rfl (aV rfl rfl (aV rfl rfl (aV rfl rfl (aV rfl rfl trivial))))))))),rfl⟩ (by rintro _ ⟨W2,ok2,hw2,rfl⟩;exact⟨rfl,.inl rfl,fun j hj=>nomatch hj⟩) (aJ ⟨rfl,rfl,rfl,rfl,rfl,rfl,rfl,rfl,trivial⟩) (fun j hj=>nomatch hj) ?_))
   rintro _ ⟨W2,ok2,hw2,rfl⟩
   refine cS [oB 800 87 [.pt 801 0,.d (.i (W2.tm)),.own 802 4,.own 803 3,ps 804 4 (W2.a),ps 805 5 (W2.b),ps 806 5 (W2.c),ps 807 10 (W2.d)],oB 801 92 [.d (.sl (aC l)),.d (.i ((p+1+1)))],oR 802 79 5 (aG W2.ks),oR 803 4 1 (aK W2.ls),(.o 804,aI 175 4 fG),(.o 805,aI 29 5 cL),(.o 806,aI 29 5 cL),(.o 807,aI 140 10 iU)] ⟨W2,(p+1+1),⟨(hw2).le (by omega),by omega,by omega⟩,rfl⟩ (rq [] [] rfl ?_)
   repeat' apply ai
   all_goals try exact qx
   all_goals(first|with_reducible rfl|(rfl))
 refine sq (rT [0,4,18,86] (s2 (cd rfl (fun c86=> ?_) fun c86=> ?_)))
 · refine SW.regDE dQ mo [] 13 (fun _=>none) rfl rfl (by kernel_rfl) ?_
   refine s5 (bH (robj:=[(801,.box 92 [.d (.sl (aC (l))),.d (.i (p+1+1))])]) (rl:=[(0,801)]) (bor:=[]) (cP (l) (p+1+1) _ (by omega) hl) rfl rfl rfl rfl ⟨bU rfl rfl rfl rfl (cK rfl rfl (aW rfl (aD rfl (aD rfl aH)) trivial)),rfl⟩ rfl (.inl rfl) (aJ ⟨rfl,trivial⟩) (fun _ hj=>nomatch hj) (s5 (bH (robj:=[(801,.box 92 [.d (.sl (aC (l))),.d (.i (p+1+1+1))])]) (rl:=[(0,801)]) (bor:=[]) (cP (l) (p+1+1+1) _ (by omega) hl) rfl rfl rfl rfl ⟨bU rfl rfl rfl rfl (cK rfl rfl (aW rfl (aD rfl (aD rfl aH)) trivial)),rfl⟩ rfl (.inl rfl) (aJ ⟨rfl,trivial⟩) (fun _ hj=>nomatch hj) (s1 (uJ (robj:=[(800,.box 87 [.pt 801 0,.d (.i (W.tm)),.own 802 4,.own 803 3,ps 804 4 (W.a),ps 805 5 (W.b),ps 806 5 (W.c),ps 807 10 (W.d)]),(801,.box 92 [.d (.sl (aC l)),.d (.i (p+1+1+1+1))]),(802,.row 79 5 (aG W.ks)),(803,.row 4 1 (aK W.ls)),(804,aI 175 4 fG),(805,aI 29 5 cL),(806,aI 29 5 cL),(807,aI 140 10 iU)]) (rl:=[]) (bor:=[]) (news:=[]) (bt l (p+1+1+1+1) W ⟨wrap64 (9+aP l (p+1+1) 2),aP l (p+1+1+1) 3,0,0,0,0,0,0,0,[]⟩ hW (by simp) (by omega)) rfl rfl rfl rfl ⟨bU rfl rfl rfl rfl (cY rfl (aD rfl (aD rfl (aD rfl (aD rfl (aD rfl (aD rfl (aD rfl (aD rfl (aD rfl (aD rfl aH)))))))))) (aW rfl (dZ rfl rfl rfl (aD rfl (bI rfl rfl rfl (bI rfl rfl rfl (bD rfl rfl rfl (bD rfl rfl rfl (bD rfl rfl rfl (bD rfl rfl rfl aH)))))))) (aW rfl (aD rfl (aD rfl aH)) (bT rfl rfl (bT rfl rfl (aV rfl rfl (aV rfl rfl (aV rfl rfl (aV rfl rfl trivial))))))))),rfl⟩ (by rintro _ ⟨W2,ok2,hw2,rfl⟩;exact⟨rfl,.inl rfl,fun j hj=>nomatch hj⟩) (aJ ⟨rfl,rfl,rfl,rfl,rfl,rfl,rfl,rfl,trivial⟩) (fun j hj=>nomatch hj) ⟨_,W,false,(eS.of.refl hW).le (by omega),rfl⟩ ?_)))))
   rintro _ ⟨W2,ok2,hw2,rfl⟩
   refine ai (by kernel_rfl) (cS [oB 800 87 [.pt 801 0,.d (.i (W2.tm)),.own 802 4,.own 803 3,ps 804 4 (W2.a),ps 805 5 (W2.b),ps 806 5 (W2.c),ps 807 10 (W2.d)],oB 801 92 [.d (.sl (aC l)),.d (.i ((p+1+1+1+1)))],oR 802 79 5 (aG W2.ks),oR 803 4 1 (aK W2.ls),(.o 804,aI 175 4 fG),(.o 805,aI 29 5 cL),(.o 806,aI 29 5 cL),(.o 807,aI 140 10 iU)] ⟨W2,(p+1+1+1+1),⟨(hw2).le (by omega),by omega,by omega⟩,rfl⟩ (rq [] [] rfl ?_))
   repeat' apply ai
   all_goals try exact qx
   all_goals(first|with_reducible rfl|(rfl))
 refine SW.midW (fun s=> ∃cb:Bool,s=[tP 0 800,tI 4 (i:Nat),tI 18 v,tB 102 cb,oB 800 87 [.pt 801 0,.d (.i (W.tm)),.own 802 4,.own 803 3,ps 804 4 (W.a),ps 805 5 (W.b),ps 806 5 (W.c),ps 807 10 (W.d)],oB 801 92 [.d (.sl (aC l)),.d (.i (p+1+1))],oR 802 79 5 (aG W.ks),oR 803 4 1 (aK W.ls),(.o 804,aI 175 4 fG),(.o 805,aI 29 5 cL),(.o 806,aI 29 5 cL),(.o 807,aI 140 10 iU)]) ?_ ?_
 · refine sq (rT [0,4,18,102] (s2 (cd rfl (fun c102=> ?_) fun c102=> ?_)))
   · refine sk (wq [] [] ⟨?c16,rfl⟩ ?_)
     repeat' apply ai
     all_goals try exact qx
     try any_goals first|with_reducible rfl|exact congrArg D.i hi|exact congrArg D.i hv.symm|rfl
   refine rT [0,4,18,102] (s2 (wq [] [] ⟨?c17,rfl⟩ ?_))
   repeat' apply ai
   all_goals try exact qx
   try any_goals first|with_reducible rfl|exact congrArg D.i hi|exact congrArg D.i hv.symm|rfl
 rintro s ⟨cb102,rfl⟩
 refine cd rfl (fun c102=> ?_) fun c102=> ?_
 · refine sq (rT [0,4,5] (s6 (ai (by exact⟨by rw[bC];exact hW.four,by omega,by omega⟩) (ai (by rw[aSd,bW (by rw[hW.four];omega)];exact⟨⟨by rw[bC];exact hW.four,by omega⟩,aSf rfl,rfl⟩) (xp (gE (W.ks.getD i .zero) (by have:=(hW.at (show i<4 by omega)).1;omega)) (ai (by rw[aSd,bW (by rw[hW.four];omega)];rfl) ?_))))))
   refine s6 (sq (rT [0,4,5,120] (s4 (cd rfl (fun c120=> ?_) fun c120=> ?_))))
   · refine sq ?_
     have hn0:0< (aZ (W.ks.getD i .zero)).1.inbox.length:=by have h9:=of_decide_eq_true c120;rw[aA] at h9;omega
     obtain⟨j,hj,hjl⟩: ∃j:Nat,aP l (p+1+1) ((aE (aZ (W.ks.getD i .zero)).1.inbox).length:Int)=(j:Int)∧j< (aZ (W.ks.getD i .zero)).1.inbox.length:=by have:=cE l (p:=p+1+1) (n:=((aE (aZ (W.ks.getD i .zero)).1.inbox).length:Int)) (by omega) (by rw[aA];omega);rw[aA] at *; exact⟨(aP l (p+1+1) ((aZ (W.ks.getD i .zero)).1.inbox.length:Int)).toNat,by omega,by omega⟩
     refine rD [0,4,7] (s9 (bH (robj:=[(801,.box 92 [.d (.sl (aC (l))),.d (.i (p+1+1))])]) (rl:=[(0,801)]) (bor:=[]) (cP (l) (p+1+1) _ (by omega) hl) rfl rfl rfl rfl ⟨bU rfl rfl rfl rfl (cK rfl rfl (aW rfl (aD rfl (aD rfl aH)) trivial)),rfl⟩ rfl (.inl rfl) (aJ ⟨rfl,trivial⟩) (fun _ hj=>nomatch hj) (ai (by rw[hj,aSd,aQ hjl];exact⟨⟨by omega,by rw[aA];omega⟩,rfl⟩) (ai (by rw[hj,aSd,aQ hjl];exact⟨aSf rfl,rfl⟩) (s2 (ai (by kernel_rfl) (wa [tP 0 800,tI 4 (i:Nat),tP 7 7,oB 800 87 [.pt 801 0,.d (.i (W.tm)),.own 802 4,.own 803 3,ps 804 4 (W.a),ps 805 5 (W.b),ps 806 5 (W.c),ps 807 10 (W.d)],oB 801 92 [.d (.sl (aC l)),.d (.i (p+1+1+1))],oR 802 79 5 (aG W.ks),oR 803 4 1 (aK W.ls),(.o 804,aI 175 4 fG),(.o 805,aI 29 5 cL),(.o 806,aI 29 5 cL),(.o 807,aI 140 10 iU),oB 7 29 [.d (.i ((aZ (W.ks.getD i .zero)).1.inbox.getD j .zero).frm),.d (.i ((aZ (W.ks.getD i .zero)).1.inbox.getD j .zero).num),.d (.i ((aZ (W.ks.getD i .zero)).1.inbox.getD j .zero).to),.d (.i ((aZ (W.ks.getD i .zero)).1.inbox.getD j .zero).til),.d (.s ((aZ (W.ks.getD i .zero)).1.inbox.getD j .zero).text)]] [] [] ?_ ?_)))))))
     · repeat' apply ai
       all_goals first|exact qx|((rw[hj,aSd,aQ hjl];rfl))|exact qz
     refine rE [] (s7 (cU (robj:=[(800,.box 87 [.pt 801 0,.d (.i (W.tm)),.own 802 4,.own 803 3,ps 804 4 (W.a),ps 805 5 (W.b),ps 806 5 (W.c),ps 807 10 (W.d)]),(801,.box 92 [.d (.sl (aC l)),.d (.i (p+1+1+1))]),(802,.row 79 5 (aG W.ks)),(803,.row 4 1 (aK W.ls)),(804,aI 175 4 fG),(805,aI 29 5 cL),(806,aI 29 5 cL),(807,aI 140 10 iU)]) (rl:=[]) (bor:=[]) (news:=[]) (bt l (p+1+1+1) W ⟨11,i,((aZ (W.ks.getD i .zero)).1.inbox.getD j .zero).frm,((aZ (W.ks.getD i .zero)).1.inbox.getD j .zero).num,0,0,0,0,0,[]⟩ hW (by simp) (by omega)) rfl rfl rfl rfl ⟨bU rfl rfl rfl rfl (cY rfl (aD rfl (aD rfl (aD rfl (aD rfl (aD rfl (aD rfl (aD rfl (aD rfl (aD rfl (aD rfl aH)))))))))) (aW rfl (dZ rfl rfl rfl (aD rfl (bI rfl rfl rfl (bI rfl rfl rfl (bD rfl rfl rfl (bD rfl rfl rfl (bD rfl rfl rfl (bD rfl rfl rfl aH)))))))) (aW rfl (aD rfl (aD rfl aH)) (bT rfl rfl (bT rfl rfl (aV rfl rfl (aV rfl rfl (aV rfl rfl (aV rfl rfl trivial))))))))),rfl⟩ (by rintro _ ⟨W2,ok2,hw2,rfl⟩;exact⟨rfl,.inl rfl,fun j hj=>nomatch hj⟩) (aJ ⟨rfl,rfl,rfl,rfl,rfl,rfl,rfl,rfl,trivial⟩) (fun j hj=>nomatch hj) ?_))
     rintro _ ⟨W2,ok2,hw2,rfl⟩
     first
     |(refine cS [oB 800 87 [.pt 801 0,.d (.i (W2.tm)),.own 802 4,.own 803 3,ps 804 4 (W2.a),ps 805 5 (W2.b),ps 806 5 (W2.c),ps 807 10 (W2.d)],oB 801 92 [.d (.sl (aC l)),.d (.i ((p+1+1+1)))],oR 802 79 5 (aG W2.ks),oR 803 4 1 (aK W2.ls),(.o 804,aI 175 4 fG),(.o 805,aI 29 5 cL),(.o 806,aI 29 5 cL),(.o 807,aI 140 10 iU)] ⟨W2,(p+1+1+1),⟨(hw2).le (by omega),by omega,by omega⟩,rfl⟩ (rq [] [] rfl ?_)
       repeat' apply ai
       all_goals try exact qx
       all_goals(first|with_reducible rfl|(rfl)))
     |(refine cS [oB 800 87 [.pt 801 0,.d (.i (W.tm)),.own 802 4,.own 803 3,ps 804 4 (W.a),ps 805 5 (W.b),ps 806 5 (W.c),ps 807 10 (W.d)],oB 801 92 [.d (.sl (aC l)),.d (.i ((p+1+1)))],oR 802 79 5 (aG W.ks),oR 803 4 1 (aK W.ls),(.o 804,aI 175 4 fG),(.o 805,aI 29 5 cL),(.o 806,aI 29 5 cL),(.o 807,aI 140 10 iU)] ⟨W,(p+1+1),⟨(eS.of.refl hW).le (by omega),by omega,by omega⟩,rfl⟩ (rq [] [] rfl ?_)
       repeat' apply ai
       all_goals try exact qx
       all_goals(first|with_reducible rfl|(rfl)))
   refine sk ?_
   first
   |(refine cS [oB 800 87 [.pt 801 0,.d (.i (W2.tm)),.own 802 4,.own 803 3,ps 804 4 (W2.a),ps 805 5 (W2.b),ps 806 5 (W2.c),ps 807 10 (W2.d)],oB 801 92 [.d (.sl (aC l)),.d (.i ((p+1+1+1)))],oR 802 79 5 (aG W2.ks),oR 803 4 1 (aK W2.ls),(.o 804,aI 175 4 fG),(.o 805,aI 29 5 cL),(.o 806,aI 29 5 cL),(.o 807,aI 140 10 iU)] ⟨W2,(p+1+1+1),⟨(hw2).le (by omega),by omega,by omega⟩,rfl⟩ (rq [] [] rfl ?_)
     repeat' apply ai
     all_goals try exact qx
     all_goals(first|with_reducible rfl|(rfl)))
   |(refine cS [oB 800 87 [.pt 801 0,.d (.i (W.tm)),.own 802 4,.own 803 3,ps 804 4 (W.a),ps 805 5 (W.b),ps 806 5 (W.c),ps 807 10 (W.d)],oB 801 92 [.d (.sl (aC l)),.d (.i ((p+1+1)))],oR 802 79 5 (aG W.ks),oR 803 4 1 (aK W.ls),(.o 804,aI 175 4 fG),(.o 805,aI 29 5 cL),(.o 806,aI 29 5 cL),(.o 807,aI 140 10 iU)] ⟨W,(p+1+1),⟨(eS.of.refl hW).le (by omega),by omega,by omega⟩,rfl⟩ (rq [] [] rfl ?_)
     repeat' apply ai
     all_goals try exact qx
     all_goals(first|with_reducible rfl|(rfl)))
 refine sq (rT [0,4,18,141] (s2 (cd rfl (fun c141=> ?_) fun c141=> ?_)))
 · refine rE [] (s5 (gQ (bH (robj:=[(801,.box 92 [.d (.sl (aC (l))),.d (.i (p+1+1))])]) (rl:=[(0,801)]) (bor:=[]) (cP (l) (p+1+1) _ (by omega) hl) rfl rfl rfl rfl ⟨bU rfl rfl rfl rfl (cK rfl rfl (aW rfl (aD rfl (aD rfl aH)) trivial)),rfl⟩ rfl (.inl rfl) (aJ ⟨rfl,trivial⟩) (fun _ hj=>nomatch hj) (s3 (cU (robj:=[(800,.box 87 [.pt 801 0,.d (.i (W.tm)),.own 802 4,.own 803 3,ps 804 4 (W.a),ps 805 5 (W.b),ps 806 5 (W.c),ps 807 10 (W.d)]),(801,.box 92 [.d (.sl (aC l)),.d (.i (p+1+1+1))]),(802,.row 79 5 (aG W.ks)),(803,.row 4 1 (aK W.ls)),(804,aI 175 4 fG),(805,aI 29 5 cL),(806,aI 29 5 cL),(807,aI 140 10 iU)]) (rl:=[]) (bor:=[]) (news:=[]) (bt l (p+1+1+1) W ⟨wrap64 (12+aP l (p+1+1) 2),i,0,0,0,0,0,0,0,[]⟩ hW (by simp) (by omega)) rfl rfl rfl rfl ⟨bU rfl rfl rfl rfl (cY rfl (aD rfl (aD rfl (aD rfl (aD rfl (aD rfl (aD rfl (aD rfl (aD rfl (aD rfl (aD rfl aH)))))))))) (aW rfl (dZ rfl rfl rfl (aD rfl (bI rfl rfl rfl (bI rfl rfl rfl (bD rfl rfl rfl (bD rfl rfl rfl (bD rfl rfl rfl (bD rfl rfl rfl aH)))))))) (aW rfl (aD rfl (aD rfl aH)) (bT rfl rfl (bT rfl rfl (aV rfl rfl (aV rfl rfl (aV rfl rfl (aV rfl rfl trivial))))))))),rfl⟩ (by rintro _ ⟨W2,ok2,hw2,rfl⟩;exact⟨rfl,.inl rfl,fun j hj=>nomatch hj⟩) (aJ ⟨rfl,rfl,rfl,rfl,rfl,rfl,rfl,rfl,trivial⟩) (fun j hj=>nomatch hj) ?_)))))
   rintro _ ⟨W2,ok2,hw2,rfl⟩
   refine cS [oB 800 87 [.pt 801 0,.d (.i (W2.tm)),.own 802 4,.own 803 3,ps 804 4 (W2.a),ps 805 5 (W2.b),ps 806 5 (W2.c),ps 807 10 (W2.d)],oB 801 92 [.d (.sl (aC l)),.d (.i ((p+1+1+1)))],oR 802 79 5 (aG W2.ks),oR 803 4 1 (aK W2.ls),(.o 804,aI 175 4 fG),(.o 805,aI 29 5 cL),(.o 806,aI 29 5 cL),(.o 807,aI 140 10 iU)] ⟨W2,(p+1+1+1),⟨(hw2).le (by omega),by omega,by omega⟩,rfl⟩ (rq [] [] rfl ?_)
   repeat' apply ai
   all_goals try exact qx
   all_goals(first|with_reducible rfl|(rfl))
 refine SW.midW (fun s=> ∃cb:Bool,s=[tP 0 800,tB 153 cb,oB 800 87 [.pt 801 0,.d (.i (W.tm)),.own 802 4,.own 803 3,ps 804 4 (W.a),ps 805 5 (W.b),ps 806 5 (W.c),ps 807 10 (W.d)],oB 801 92 [.d (.sl (aC l)),.d (.i (p+1+1))],oR 802 79 5 (aG W.ks),oR 803 4 1 (aK W.ls),(.o 804,aI 175 4 fG),(.o 805,aI 29 5 cL),(.o 806,aI 29 5 cL),(.o 807,aI 140 10 iU)]) ?_ ?_
 · refine sq (rT [0,18,153] (s2 (cd rfl (fun c153=> ?_) fun c153=> ?_)))
   · refine sk (wq [] [] ⟨?c18,rfl⟩ ?_)
     repeat' apply ai
     all_goals try exact qx
     try any_goals first|with_reducible rfl|exact congrArg D.i hi|exact congrArg D.i hv.symm|rfl
   refine sq (rT [0,18,153] (s2 (cd rfl (fun c153=> ?_) fun c153=> ?_)))
   · refine sk (wq [] [] ⟨?c19,rfl⟩ ?_)
     repeat' apply ai
     all_goals try exact qx
     try any_goals first|with_reducible rfl|exact congrArg D.i hi|exact congrArg D.i hv.symm|rfl
   refine rT [0,153] (s2 (wq [] [] ⟨?c20,rfl⟩ ?_))
   repeat' apply ai
   all_goals try exact qx
   try any_goals first|with_reducible rfl|exact congrArg D.i hi|exact congrArg D.i hv.symm|rfl
 rintro s ⟨cb153,rfl⟩
 refine cd rfl (fun c153=> ?_) fun c153=> ?_
 · refine rE [] (s1 (cU (robj:=[(800,.box 87 [.pt 801 0,.d (.i (W.tm)),.own 802 4,.own 803 3,ps 804 4 (W.a),ps 805 5 (W.b),ps 806 5 (W.c),ps 807 10 (W.d)]),(801,.box 92 [.d (.sl (aC l)),.d (.i (p+1+1))]),(802,.row 79 5 (aG W.ks)),(803,.row 4 1 (aK W.ls)),(804,aI 175 4 fG),(805,aI 29 5 cL),(806,aI 29 5 cL),(807,aI 140 10 iU)]) (rl:=[]) (bor:=[]) (news:=[]) (aQj l (p+1+1) W (by omega) hl hW (by omega)) rfl rfl rfl rfl ⟨bU rfl rfl rfl rfl (aW rfl (dZ rfl rfl rfl (aD rfl (bI rfl rfl rfl (bI rfl rfl rfl (bD rfl rfl rfl (bD rfl rfl rfl (bD rfl rfl rfl (bD rfl rfl rfl aH)))))))) (aW rfl (aD rfl (aD rfl aH)) (bT rfl rfl (bT rfl rfl (aV rfl rfl (aV rfl rfl (aV rfl rfl (aV rfl rfl trivial)))))))),rfl⟩ (by rintro _ ⟨W2,q2,hw2,rfl⟩;exact⟨rfl,.inl rfl,fun j hj=>nomatch hj⟩) (aJ ⟨rfl,rfl,rfl,rfl,rfl,rfl,rfl,rfl,trivial⟩) (fun j hj=>nomatch hj) ?_))
   rintro _ ⟨W2,q2,hw2,rfl⟩
   refine cS [oB 800 87 [.pt 801 0,.d (.i (W2.tm)),.own 802 4,.own 803 3,ps 804 4 (W2.a),ps 805 5 (W2.b),ps 806 5 (W2.c),ps 807 10 (W2.d)],oB 801 92 [.d (.sl (aC l)),.d (.i (q2))],oR 802 79 5 (aG W2.ks),oR 803 4 1 (aK W2.ls),(.o 804,aI 175 4 fG),(.o 805,aI 29 5 cL),(.o 806,aI 29 5 cL),(.o 807,aI 140 10 iU)] ⟨W2,q2,⟨(hw2.1).le (by omega),by omega,by omega⟩,rfl⟩ (rq [] [] rfl ?_)
   repeat' apply ai
   all_goals try exact qx
   all_goals(first|with_reducible rfl|(rfl))
 refine sq (rT [0,8] (s1 (bk (SW.loopW (n:=4) (fun x s=> ∃(i:Nat) (V:eS) (q:Int),x=4 - i∧(i≤4∧V.of W (100*i)∧p≤q∧q≤p+2+260*i)∧s=[tP 0 800,tI 8 (i:Nat),oB 800 87 [.pt 801 0,.d (.i (V.tm)),.own 802 4,.own 803 3,ps 804 4 (V.a),ps 805 5 (V.b),ps 806 5 (V.c),ps 807 10 (V.d)],oB 801 92 [.d (.sl (aC l)),.d (.i (q))],oR 802 79 5 (aG V.ks),oR 803 4 1 (aK V.ls),(.o 804,aI 175 4 fG),(.o 805,aI 29 5 cL),(.o 806,aI 29 5 cL),(.o 807,aI 140 10 iU)]) ?_ ?_))))
 · exact wq [] [] (⟨0,W,p+1+1,rfl,⟨by omega,eS.of.refl hW,by omega,by omega⟩,rfl⟩) qz
 rintro n s ⟨i,V,q,rfl,⟨hi4,hV,hq⟩,rfl⟩
 have hVd:=hV.few
 refine sq (sq (rT [0,8,20] (s2 (cd rfl (fun c20=> ?_) fun c20=> ?_))))
 · have hi5:i<4:=by simp at c20;omega
   refine sk (sq (bk (sq (rE [0,8] (s1 (cU (robj:=[(800,.box 87 [.pt 801 0,.d (.i (V.tm)),.own 802 4,.own 803 3,ps 804 4 (V.a),ps 805 5 (V.b),ps 806 5 (V.c),ps 807 10 (V.d)]),(801,.box 92 [.d (.sl (aC l)),.d (.i (q))]),(802,.row 79 5 (aG V.ks)),(803,.row 4 1 (aK V.ls)),(804,aI 175 4 fG),(805,aI 29 5 cL),(806,aI 29 5 cL),(807,aI 140 10 iU)]) (rl:=[]) (bor:=[]) (news:=[]) (nt l q V 7 0 (by omega) hl hV.ok (by omega) (by omega)) rfl rfl rfl rfl ⟨bU rfl rfl rfl rfl (cK rfl rfl (cK rfl rfl (aW rfl (dZ rfl rfl rfl (aD rfl (bI rfl rfl rfl (bI rfl rfl rfl (bD rfl rfl rfl (bD rfl rfl rfl (bD rfl rfl rfl (bD rfl rfl rfl aH)))))))) (aW rfl (aD rfl (aD rfl aH)) (bT rfl rfl (bT rfl rfl (aV rfl rfl (aV rfl rfl (aV rfl rfl (aV rfl rfl trivial)))))))))),rfl⟩ (by rintro _ ⟨W3,q3,hw3,rfl⟩;exact⟨rfl,.inl rfl,fun j hj=>nomatch hj⟩) (aJ ⟨rfl,rfl,rfl,rfl,rfl,rfl,rfl,rfl,trivial⟩) (fun j hj=>nomatch hj) ?_))))))
   rintro _ ⟨W3,q3,hw3,rfl⟩
   refine rE [0,8] (s1 (cU (robj:=[(800,.box 87 [.pt 801 0,.d (.i (W3.tm)),.own 802 4,.own 803 3,ps 804 4 (W3.a),ps 805 5 (W3.b),ps 806 5 (W3.c),ps 807 10 (W3.d)]),(801,.box 92 [.d (.sl (aC l)),.d (.i (q3))]),(802,.row 79 5 (aG W3.ks)),(803,.row 4 1 (aK W3.ls)),(804,aI 175 4 fG),(805,aI 29 5 cL),(806,aI 29 5 cL),(807,aI 140 10 iU)]) (rl:=[]) (bor:=[]) (news:=[]) (ix l q3 W3 20 0 (by omega) hl hw3.1.ok (by have:=hw3.1.few;omega) (by omega)) rfl rfl rfl rfl ⟨bU rfl rfl rfl rfl (cK rfl rfl (cK rfl rfl (aW rfl (dZ rfl rfl rfl (aD rfl (bI rfl rfl rfl (bI rfl rfl rfl (bD rfl rfl rfl (bD rfl rfl rfl (bD rfl rfl rfl (bD rfl rfl rfl aH)))))))) (aW rfl (aD rfl (aD rfl aH)) (bT rfl rfl (bT rfl rfl (aV rfl rfl (aV rfl rfl (aV rfl rfl (aV rfl rfl trivial)))))))))),rfl⟩ (by rintro _ ⟨W4,q4,hw4,rfl⟩;exact⟨rfl,.inl rfl,fun j hj=>nomatch hj⟩) (aJ ⟨rfl,rfl,rfl,rfl,rfl,rfl,rfl,rfl,trivial⟩) (fun j hj=>nomatch hj) ?_))
   rintro _ ⟨W4,q4,hw4,rfl⟩
   refine rT [0,8] (s3 (wq [] [] (⟨4 - (i+1),by omega,i+1,W4,q4,rfl,⟨by omega,(hV.trans (hw3.1.trans hw4.1)).le (by omega),by omega,by omega⟩,rfl⟩) ?_))
   repeat' apply ai
   all_goals first|exact qx|exact congrArg D.i (aF (by omega))|rfl|exact qz
 refine xt (cS [oB 800 87 [.pt 801 0,.d (.i (V.tm)),.own 802 4,.own 803 3,ps 804 4 (V.a),ps 805 5 (V.b),ps 806 5 (V.c),ps 807 10 (V.d)],oB 801 92 [.d (.sl (aC l)),.d (.i (q))],oR 802 79 5 (aG V.ks),oR 803 4 1 (aK V.ls),(.o 804,aI 175 4 fG),(.o 805,aI 29 5 cL),(.o 806,aI 29 5 cL),(.o 807,aI 140 10 iU)] ⟨V,q,⟨(hV).le (by omega),by omega,by omega⟩,rfl⟩ (rq [] [] rfl ?_))
 repeat' apply ai
 all_goals try exact qx
 all_goals(first|with_reducible rfl|(rfl))
theorem eh (n:Int):Sp 118 1 [tI 0 n] [tV 0 (.e (.agg [.d (.i ((fZ n)).id),.d (.b ((fZ n)).up),.d (.s ((fZ n)).log),.d (.i ((fZ n)).forced),.d (.sl (bM ((fZ n)).halves))]))]:=by
 refine sb Tryz.func118 rfl (sq (rT [0,2] (s1 (sq (sq (rT [0,2,5] (s1 (xp (cW _) (ai rfl ?_)))))))))
 refine s1 (cd rfl (fun c5=> ?_) fun c5=> ?_)
 · refine sq (rT [2] (s2 (rt ?_)))
   have hk:fZ n= .zero:=by unfold fZ;rw[if_neg];intro h;rw[h] at c5;simp at c5
   refine rq [] [] rfl ?_
   repeat' apply ai
   all_goals try exact qx
   all_goals(rw[hk];try rfl)
 refine sk (sq (rT [2] (s3 (rt ?_))))
 have hk:fZ n=⟨n,true,[],0,[]⟩:=by unfold fZ;rw[if_pos];simpa using c5
 refine rq [] [] rfl ?_
 repeat' apply ai
 all_goals try exact qx
 all_goals(rw[hk];try rfl)
set_option maxHeartbeats 1600000 in
theorem iy:Sp 96 0 [] [tV 0 (.e (.agg [.d (.i (0)),.own 802 4,.own 803 3,ps 804 4 (0),ps 805 5 (0),ps 806 5 (0)])),oR 802 79 5 (aG (pO 4)),oR 803 4 1 (aK (yes 3)),(.o 804,aI 175 4 fG),(.o 805,aI 29 5 cL),(.o 806,aI 29 5 cL)]:=by
 refine sb Tryz.func96 rfl (sq (rT [0] (s1 (sq (rT [0,1] (s3 (sq (sq (SW.nilBox 1 802 1 79 5 rfl rfl rfl (SW.nilBox 1 803 2 4 1 rfl rfl rfl (rT [0,1,2] (s1 (bk (SW.loopW (n:=4) (fun m s=> ∃i:Nat,m=4 - i∧i≤4∧s=[tP 0 0,tP 1 1,tI 2 (i:Nat),oB 0 84 [.d (.i 0),.nil,.nil,.nil,.nil,.nil],oB 1 84 [.d (.i 0),.own 802 (i),.own 803 0,.nil,.nil,.nil],oR 802 79 5 (aG (pO (i))),oR 803 4 1 []]) ?_ ?_))))))))))))))
 · refine wq [] [] (⟨0,rfl,by omega,rfl⟩) ?_
   repeat' apply ai
   all_goals first|exact qx|exact congrArg D.i (aF (by omega))|(simp[bC,kT,cO,qM];done)|exact pP _|exact sS _|rfl|exact qz
 rintro n s ⟨i,rfl,hi,rfl⟩
 refine sq (sq (rT [0,1,2,6] (s2 (cd rfl (fun c6=> ?_) fun c6=> ?_))))
 · have hi2:i<4:=by simp at c6;omega
   refine sk (sq (bk (rD [0,1,2] (s3 (xp (eh _) (ai rfl ?_))))))
   refine s1 (ai (by refine⟨rfl,(bC _).trans (kT _),by simp,?_⟩;show(_+1)*64≤_;omega) (s2 (ai (by kernel_rfl) (rT [0,1,2] (s3 (wq [] [] (⟨4 - (i+1),by omega,i+1,rfl,by omega,rfl⟩) ?_))))))
   repeat' apply ai
   all_goals first|exact qx|exact congrArg D.i (aF (by omega))|(simp[bC,kT,cO,qM];done)|exact pP _|exact sS _|rfl|exact qz
 have hi4:i=4:=by simp at c6;omega
 subst hi4
 refine xt (sq (sq (rT [0,1,3] (s1 (bk (SW.loopW (n:=3) (fun m s=> ∃j:Nat,m=3 - j∧j≤3∧s=[tP 0 0,tP 1 1,tI 3 (j:Nat),oB 0 84 [.d (.i 0),.nil,.nil,.nil,.nil,.nil],oB 1 84 [.d (.i 0),.own 802 4,.own 803 (j),.nil,.nil,.nil],oR 802 79 5 (aG (pO 4)),oR 803 4 1 (aK (yes (j)))]) ?_ ?_))))))
 · refine wq [] [] (⟨0,rfl,by omega,rfl⟩) ?_
   repeat' apply ai
   all_goals first|exact qx|exact congrArg D.i (aF (by omega))|(simp[bC,kT,cO,qM];done)|exact pP _|exact sS _|rfl|exact qz
 rintro n s ⟨j,rfl,hj,rfl⟩
 refine sq (sq (rT [0,1,3,18] (s3 (cd rfl (fun c18=> ?_) fun c18=> ?_))))
 · have hj2:j<3:=by rw[aF (by omega)] at c18;simp at c18;omega
   refine sk (sq (bk (rT [0,1,3] (s3 (ai (by refine⟨rfl,(cO _).trans (qM _),by simp,?_⟩;show(_+1)*1≤_;omega) (s2 (rT [0,1,3] (s3 (wq [] [] (⟨3 - (j+1),by omega,j+1,rfl,by omega,rfl⟩) ?_)))))))))
   repeat' apply ai
   all_goals first|exact qx|exact congrArg D.i (aF (by omega))|(simp[bC,kT,cO,qM];done)|exact pP _|exact sS _|rfl|exact qz
 have hj4:j=3:=by rw[aF (by omega)] at c18;simp at c18;omega
 subst hj4
 refine xt (sq (SW.newPool 804 175 4 fG rfl (SW.newPool 805 29 5 cL rfl (SW.newPool 806 29 5 cL rfl (rT [0] (s2 (rt (rq [] [] rfl ?_))))))))
 repeat' apply ai
 all_goals try exact qx
 all_goals first|with_reducible rfl|rfl
set_option maxHeartbeats 3200000 in
theorem aQl (l:List UInt8) (p:Int) (n:Nat) (hp:0≤p∧p≤700000) (hl:l.length≤2000) (hn:1≤n∧n≤100):tn 65 2 [tP 0 801,tI 1 (n:Nat),oB 801 92 [.d (.sl (aC l)),.d (.i (p))]] (fun s=> ∃(W:eS) (q:Int),(W.of eT 60000∧p≤q∧q≤p+20+1200*n)∧s=[tP 0 800,oB 800 87 [.pt 801 0,.d (.i (W.tm)),.own 802 4,.own 803 3,ps 804 4 (W.a),ps 805 5 (W.b),ps 806 5 (W.c),ps 807 10 (W.d)],oB 801 92 [.d (.sl (aC l)),.d (.i (q))],oR 802 79 5 (aG W.ks),oR 803 4 1 (aK W.ls),(.o 804,aI 175 4 fG),(.o 805,aI 29 5 cL),(.o 806,aI 29 5 cL),(.o 807,aI 140 10 iU)]):=by
 refine uo Tryz.func65 rfl (sq (rT [0,1] (s1 (sq (rT [0,1,5] (s1 (bH (robj:=[]) (rl:=[]) (bor:=[]) iy rfl rfl rfl rfl ⟨trivial,rfl⟩ rfl (.inl rfl) (fun p hp=>nomatch hp) (fun j hj=>by simp[nE,bX,iH] at hj;rcases hj with rfl|rfl|rfl|rfl|rfl<;>rfl) (s3 (SW.midW (fun s=> ∃r:Int,s=[tP 0 801,tI 1 (n:Nat),tP 5 800,tI 6 r,oB 800 87 [.pt 801 0,.d (.i (eT.tm)),.own 802 4,.own 803 3,ps 804 4 (eT.a),ps 805 5 (eT.b),ps 806 5 (eT.c),ps 807 10 (eT.d)],oB 801 92 [.d (.sl (aC l)),.d (.i (p+1))],oR 802 79 5 (aG eT.ks),oR 803 4 1 (aK eT.ls),(.o 804,aI 175 4 fG),(.o 805,aI 29 5 cL),(.o 806,aI 29 5 cL),(.o 807,aI 140 10 iU)]) ?_ ?_)))))))))
 · have hpv:=cE l (p:=p) (n:=5) (by omega) (by omega)
   refine SW.newPool 807 140 10 iU rfl (wa [tP 0 801,tI 1 (n:Nat),tP 5 800,oB 800 87 [.pt 801 0,.d (.i (eT.tm)),.own 802 4,.own 803 3,ps 804 4 (eT.a),ps 805 5 (eT.b),ps 806 5 (eT.c),ps 807 10 (eT.d)],oB 801 92 [.d (.sl (aC l)),.d (.i (p))],oR 802 79 5 (aG eT.ks),oR 803 4 1 (aK eT.ls),(.o 804,aI 175 4 fG),(.o 805,aI 29 5 cL),(.o 806,aI 29 5 cL),(.o 807,aI 140 10 iU)] [(800,11)] [] qz (rT [0,1,5,6] (s2 (bH (robj:=[(801,.box 92 [.d (.sl (aC (l))),.d (.i (p))])]) (rl:=[(0,801)]) (bor:=[]) (cP (l) (p) _ (by omega) hl) rfl rfl rfl rfl ⟨bU rfl rfl rfl rfl (cK rfl rfl (aW rfl (aD rfl (aD rfl aH)) trivial)),rfl⟩ rfl (.inl rfl) (aJ ⟨rfl,trivial⟩) (fun _ hj=>nomatch hj) ?_))))
   refine ai ⟨rfl,hpv.1,hpv.2⟩ (ai (aEs (l:=[0,0,3,6,12]) (by simp;omega) rfl) (s1 (wq [] [] ⟨?r1,rfl⟩ ?_)))
   repeat' apply ai
   all_goals try exact qx
   try any_goals rfl
 rintro s ⟨r,rfl⟩
 refine sq (rE [0,1,5,6] (s1 (cU (robj:=[(800,.box 87 [.pt 801 0,.d (.i (eT.tm)),.own 802 4,.own 803 3,ps 804 4 (eT.a),ps 805 5 (eT.b),ps 806 5 (eT.c),ps 807 10 (eT.d)]),(801,.box 92 [.d (.sl (aC l)),.d (.i (p+1))]),(802,.row 79 5 (aG eT.ks)),(803,.row 4 1 (aK eT.ls)),(804,aI 175 4 fG),(805,aI 29 5 cL),(806,aI 29 5 cL),(807,aI 140 10 iU)]) (rl:=[]) (bor:=[]) (news:=[]) (aOs l (p+1) eT (by omega) hl mu (by decide)) rfl rfl rfl rfl ⟨bU rfl rfl rfl rfl (aW rfl (dZ rfl rfl rfl (aD rfl (bI rfl rfl rfl (bI rfl rfl rfl (bD rfl rfl rfl (bD rfl rfl rfl (bD rfl rfl rfl (bD rfl rfl rfl aH)))))))) (aW rfl (aD rfl (aD rfl aH)) (bT rfl rfl (bT rfl rfl (aV rfl rfl (aV rfl rfl (aV rfl rfl (aV rfl rfl trivial)))))))),rfl⟩ (by rintro _ ⟨W1,q1,hw1,rfl⟩;exact⟨rfl,.inl rfl,fun j hj=>nomatch hj⟩) (aJ ⟨rfl,rfl,rfl,rfl,rfl,rfl,rfl,rfl,trivial⟩) (fun j hj=>nomatch hj) ?_)))
 rintro _ ⟨W1,q1,hw1,rfl⟩
 refine sq (sq (rT [5,6,7] (s2 (bH (robj:=[(801,.box 92 [.d (.sl (aC (l))),.d (.i (q1))])]) (rl:=[(0,801)]) (bor:=[]) (cP (l) (q1) _ (by omega) hl) rfl rfl rfl rfl ⟨bU rfl rfl rfl rfl (cK rfl rfl (aW rfl (aD rfl (aD rfl aH)) trivial)),rfl⟩ rfl (.inl rfl) (aJ ⟨rfl,trivial⟩) (fun _ hj=>nomatch hj) (s1 (bk ?_))))))
 have hw1d:=hw1.1.few
 have hs0:eT.d=0:=rfl
 obtain⟨k0,hk0,hkn⟩: ∃k0:Nat,aP l q1 (n:Int)=(k0:Int)∧k0<n:=by have:=cE l (p:=q1) (n:=(n:Int)) (by omega) (by omega);exact⟨(aP l q1 (n:Int)).toNat,by omega,by omega⟩
 refine SW.loopW (n:=k0) (fun x s=> ∃(V:eS) (q:Int),(x≤k0∧V.of eT (1+520*(k0 - x))∧p≤q∧q≤p+12+1200*(k0 - x:Nat))∧s=[tP 5 800,tI 6 r,tI 7 (x:Nat),oB 800 87 [.pt 801 0,.d (.i (V.tm)),.own 802 4,.own 803 3,ps 804 4 (V.a),ps 805 5 (V.b),ps 806 5 (V.c),ps 807 10 (V.d)],oB 801 92 [.d (.sl (aC l)),.d (.i (q))],oR 802 79 5 (aG V.ks),oR 803 4 1 (aK V.ls),(.o 804,aI 175 4 fG),(.o 805,aI 29 5 cL),(.o 806,aI 29 5 cL),(.o 807,aI 140 10 iU)]) ?_ ?_
 · refine wq [] [] (⟨W1,q1+1,⟨by omega,hw1.1.le (by omega),by omega,by omega⟩,rfl⟩) ?_
   repeat' apply ai
   all_goals first|exact qx|exact congrArg D.i hk0|rfl|exact qz
 rintro n s ⟨V,q,⟨hx,hV,hq⟩,rfl⟩
 have hVd:=hV.few
 refine sq (sq (rT [5,6,7,23] (s2 (cd rfl (fun c23=> ?_) fun c23=> ?_))))
 · have hn0:0<n:=by simp at c23;omega
   refine sk (sq (bk (rE [5,6,7] (s2 (cU (robj:=[(800,.box 87 [.pt 801 0,.d (.i (V.tm)),.own 802 4,.own 803 3,ps 804 4 (V.a),ps 805 5 (V.b),ps 806 5 (V.c),ps 807 10 (V.d)]),(801,.box 92 [.d (.sl (aC l)),.d (.i (q))]),(802,.row 79 5 (aG V.ks)),(803,.row 4 1 (aK V.ls)),(804,aI 175 4 fG),(805,aI 29 5 cL),(806,aI 29 5 cL),(807,aI 140 10 iU)]) (rl:=[]) (bor:=[]) (news:=[]) (aQk l q V r (by omega) hl hV.ok (by omega)) rfl rfl rfl rfl ⟨bU rfl rfl rfl rfl (cK rfl rfl (aW rfl (dZ rfl rfl rfl (aD rfl (bI rfl rfl rfl (bI rfl rfl rfl (bD rfl rfl rfl (bD rfl rfl rfl (bD rfl rfl rfl (bD rfl rfl rfl aH)))))))) (aW rfl (aD rfl (aD rfl aH)) (bT rfl rfl (bT rfl rfl (aV rfl rfl (aV rfl rfl (aV rfl rfl (aV rfl rfl trivial))))))))),rfl⟩ (by rintro _ ⟨W3,q3,hw3,rfl⟩;exact⟨rfl,.inl rfl,fun j hj=>nomatch hj⟩) (aJ ⟨rfl,rfl,rfl,rfl,rfl,rfl,rfl,rfl,trivial⟩) (fun j hj=>nomatch hj) ?_)))))
   rintro _ ⟨W3,q3,hw3,rfl⟩
   refine rT [5,6,7] (s3 (wq [] [] (⟨n - 1,by omega,W3,q3,⟨by omega,(hV.trans hw3.1).le (by omega),by omega,by omega⟩,rfl⟩) ?_))
   repeat' apply ai
   all_goals first|exact qx|(refine congrArg D.i ?_;rw[aF (by omega)];omega)|rfl|exact qz
 refine xt (sq (rT [4] (s2 (rt (cS [tP 0 800,oB 800 87 [.pt 801 0,.d (.i (V.tm)),.own 802 4,.own 803 3,ps 804 4 (V.a),ps 805 5 (V.b),ps 806 5 (V.c),ps 807 10 (V.d)],oB 801 92 [.d (.sl (aC l)),.d (.i (q))],oR 802 79 5 (aG V.ks),oR 803 4 1 (aK V.ls),(.o 804,aI 175 4 fG),(.o 805,aI 29 5 cL),(.o 806,aI 29 5 cL),(.o 807,aI 140 10 iU)] ⟨V,q,⟨hV.le (by omega),by omega,by omega⟩,rfl⟩ (rq [] [] rfl ?_))))))
 repeat' apply ai
 all_goals try exact qx
 all_goals(first|with_reducible rfl|(rfl))
end Go.Proofs.YtcbjphphppaoiaaGreatDoor
namespace Go.Ab
open Int renaming toNat_natCast→aSd
open List renaming length_append→aSe,length_nil→aSh,length_cons→aSi,length_take→aSk,getD_eq_getElem?_getD→aSl,getElem?_eq_some_iff→aSm,getElem?_eq_getElem→aSn,range→aSp,mem_map→aSq,length_drop→aSr,mem_singleton→aSs,all_eq_true→aSu,take_length→aSv,mem_cons→aSw
open Nat renaming le_of_ble_eq_true→aSf,zero_le→aSj,le_refl→aSo,add_mul→aSt
open Bool renaming and_eq_true→aSg
open Go Go.RowKit
set_option linter.unusedVariables false
set_option linter.unusedSimpArgs false
theorem aDf {α:Type} {p:α→Prop} {l:List α} {n:α} (h: ∀x∈l,p x) (hn:p n): ∀x∈l++[n],p x:=by
 intro x hx
 rcases List.mem_append.1 hx with hx|hx
 · exact h x hx
 · rw[aSs.1 hx];exact hn
theorem bp {k:aR} {n:bB} (h:OZ k) (hn:ND n):KD {k with held:=k.held++[n]}:=
 ⟨h.kd.1.id,h.kd.1.time,⟨by rw[aSe];simp;have:=h.kd.2;omega,h.kd.1.few.2⟩,aDf h.kd.1.held hn,h.kd.1.inbox⟩
theorem wD {k:aR} {n:bB} (h:OZ k) (hn:ND n):KD {k with inbox:=k.inbox++[n]}:=
 ⟨h.kd.1.id,h.kd.1.time,⟨h.kd.1.few.1,h.kd.1.few.2.1,by rw[aSe];simp;have:=h.kd.2;omega⟩,h.kd.1.held,aDf h.kd.1.inbox hn⟩
theorem wE {k:aR} {n:bZ} (h:OZ k):KD {k with marks:=k.marks++[n]}:=
 ⟨h.kd.1.id,h.kd.1.time,⟨h.kd.1.few.1,by rw[aSe];simp;have:=h.kd.2;omega,h.kd.1.few.2.2⟩,h.kd.1.held,h.kd.1.inbox⟩
theorem bq {k:aR} {t:Int} (h:OZ k) (ht:R1 t):KD {k with time:=t}:=⟨h.kd.1.id,ht,h.kd.1.few,h.kd.1.held,h.kd.1.inbox⟩
theorem br {k:aR} {t:Int} (h:OZ k):KD {k with next:=t}:=⟨h.kd.1.id,h.kd.1.time,h.kd.1.few,h.kd.1.held,h.kd.1.inbox⟩
theorem aAu {n:Int} (h:0≤n∧n≤3): (aY n).id=n:=by
 have:eB n=true:=by simp[eB,gX];omega
 unfold aY
 rw[if_pos this]
end Go.Ab
namespace Go.Proofs.YtcbjphphppaoiaaGreatDoor
open Int renaming toNat_natCast→aSd
open List renaming length_append→aSe,length_nil→aSh,length_cons→aSi,length_take→aSk,getD_eq_getElem?_getD→aSl,getElem?_eq_some_iff→aSm,getElem?_eq_getElem→aSn,range→aSp,mem_map→aSq,length_drop→aSr,mem_singleton→aSs,all_eq_true→aSu,take_length→aSv,mem_cons→aSw
open Nat renaming le_of_ble_eq_true→aSf,zero_le→aSj,le_refl→aSo,add_mul→aSt
open Bool renaming and_eq_true→aSg
open Go Go.Ab Go.RowKit
set_option linter.unusedVariables false
set_option linter.unusedSimpArgs false
set_option maxRecDepth 9000
theorem ksD (id:Int): (aY id).held=[]∧(aY id).marks=[]∧(aY id).inbox=[]:=by
 unfold aY
 split<;>exact⟨rfl,rfl,rfl⟩
theorem aF6 {Q:Nat→Prop} (h0:Q 900) (h1:Q 901) (h2:Q 902): ∀j∈[900,901,902],Q j:=by
 intro j hj
 simp only[aSw,List.mem_nil_iff,or_false] at hj
 rcases hj with rfl|rfl|rfl<;>assumption
theorem aDg (l:List bB) (e es:Nat):uG (.row e es (aE l)):=by
 intro r hr d hd
 obtain⟨n,_,rfl⟩:=aSq.1 hr
 simp only[bB.row,aSw,List.mem_nil_iff,or_false] at hd
 rcases hd with rfl|rfl|rfl|rfl|rfl<;>trivial
theorem aLp (l:List bZ) (e es:Nat):uG (.row e es (aL l)):=by
 intro r hr d hd
 obtain⟨n,_,rfl⟩:=aSq.1 hr
 simp only[bZ.row,aSw,List.mem_nil_iff,or_false] at hd
 rcases hd with rfl|rfl|rfl<;>trivial
theorem aLq (k:aR×Bool):mA [tV 0 (.tup [.agg [.d (.i (k.1).id),.d (.i (k.1).time),.d (.i (k.1).next),.own 900 (k.1).held.length,.own 901 (k.1).marks.length,.own 902 (k.1).inbox.length],.c (.d (.b k.2))]),oR 900 29 5 (aE (k.1).held),oR 901 39 3 (aL (k.1).marks),oR 902 29 5 (aE (k.1).inbox)]:=by
 intro p hp
 simp only[aSw,List.mem_nil_iff,or_false] at hp
 rcases hp with rfl|rfl|rfl|rfl
 · simp[uG,ez,ey,aw,nm]
 · exact aDg _ _ _
 · exact aLp _ _ _
 exact aDg _ _ _
theorem tg (k:aR) (hb:k.held.length≤1000000∧k.marks.length≤1000000∧k.inbox.length≤1000000):Sp 37 1 [tV 0 k.V] [tV 0 (.e (.agg [.d (.i (k).id),.d (.i (k).time),.d (.i (k).next),.own 900 (k).held.length,.own 901 (k).marks.length,.own 902 (k).inbox.length])),oR 900 29 5 (aE (k).held),oR 901 39 3 (aL (k).marks),oR 902 29 5 (aE (k).inbox)]:=by
 refine sb Tryz.func37 rfl (sq (rT [1,2] (s2 (sq (rT [1,2] (ai (by simp) (s2 (ai (by refine⟨trivial,rfl,?_,?_⟩<;>first|exact eG _|exact gP _|(simp only[aA,aB,aSh,Nat.zero_add];show _*48≤_;omega)) (s2 (sq (rT [1,2] (ai (by simp) (s2 (ai (by refine⟨trivial,rfl,?_,?_⟩<;>first|exact eG _|exact gP _|(simp only[aA,aB,aSh,Nat.zero_add];show _*24≤_;omega)) (s2 (sq (rT [1,2] (ai (by simp) (s2 (ai (by refine⟨trivial,rfl,?_,?_⟩<;>first|exact eG _|exact gP _|(simp only[aA,aB,aSh,Nat.zero_add];show _*48≤_;omega)) (s2 (sq (rT [2] (s2 (rt (rq [(900,3),(901,8),(902,13)] [] rfl ?_))))))))))))))))))))))))))
 repeat' apply ai
 all_goals first|exact qx|exact aA _|exact aB _|exact(aA _).symm|exact(aB _).symm|rfl|(simp[aA,aB];done)|exact qz
set_option maxHeartbeats 1600000 in
theorem th (k:aR) (rec:List UInt8) (hk:KB k) (hr:rec.length≤900000):Sp 15 2 [tV 0 k.V,tD 1 (.s rec)] [tV 0 (.tup [.agg [.d (.i ((gH k rec).1).id),.d (.i ((gH k rec).1).time),.d (.i ((gH k rec).1).next),.own 900 ((gH k rec).1).held.length,.own 901 ((gH k rec).1).marks.length,.own 902 ((gH k rec).1).inbox.length],.c (.d (.b (gH k rec).2))]),oR 900 29 5 (aE ((gH k rec).1).held),oR 901 39 3 (aL ((gH k rec).1).marks),oR 902 29 5 (aE ((gH k rec).1).inbox)]:=by
 refine sb Tryz.func15 rfl (sq (rT [1,2,4,22,23,24] (s3 (sq (sq (rT [1,2,4,10,22,23,24] (s1 (xp (lR k hk.1 hk.2.1 hk.2.2) (ai rfl ?_)))))))))
 refine s1 (cd rfl (fun c10=> ?_) fun c10=> ?_)
 · refine sq (rT [4,5] (s3 (SW.nilBox 4 900 3 29 5 rfl rfl rfl (SW.nilBox 4 901 4 39 3 rfl rfl rfl (SW.nilBox 4 902 5 29 5 rfl rfl rfl (rt ?_))))))
   have hr:gH k rec=(.zero,false):=if_neg (by simpa using c10)
   rw[hr]
   refine rq [] [] rfl ?_
   repeat' apply ai
   all_goals first|exact qx|exact aA _|exact aB _|exact(aA _).symm|exact(aB _).symm|rfl|(simp[aA,aB];done)|exact qz
 have hok:dS k=true:=by simpa using c10
 refine sk (sq (rT [2,4,6,7,22,23,24] (s1 (xp (pM k (by have:=hk.1;omega)) (ai rfl ?_)))))
 refine s1 (xp (co k rec hk.1 hr) (ai rfl ?_))
 refine s6 (sq (sq (rT [2,4,6,25] (s3 (y1 (xc (fun h=>lR (fJ k rec).1 (oL (eC hok) (by omega)).big.1 (oL (eC hok) (by omega)).2.1 (oL (eC hok) (by omega)).2.2) (ai rfl (ai rk ?_))))))))
 refine y1 (ai pk (cd rfl (fun c25=> ?_) fun c25=> ?_))
 · refine sq (rT [4,5] (s1 (bH (robj:=[]) (rl:=[]) (bor:=[]) (tg k (by have:=hk.1;omega)) rfl rfl rfl rfl ⟨cY rfl (aD rfl (aD rfl (aD rfl (aD rfl (aD rfl (aD rfl aH)))))) trivial,rfl⟩ rfl (.inl rfl) (fun p hp=>nomatch hp) (aF6 rfl rfl rfl) (s2 (rt ?_)))))
   have hr:gH k rec=(k,false):=(if_pos hok).trans (if_neg (by intro h;rw[aSg] at h;rw[h.1,h.2] at c25;cases c25))
   rw[hr]
   refine rq [] [] rfl ?_
   repeat' apply ai
   all_goals first|exact qx|exact aA _|exact aB _|exact(aA _).symm|exact(aB _).symm|rfl|(simp[aA,aB];done)|exact qz
 refine sk (sq (rT [4,5] (s1 (bH (robj:=[]) (rl:=[]) (bor:=[]) (tg (fJ k rec).1 (by have:=(oL (eC hok) (show rec.length≤1000000 by omega)).1;omega)) rfl rfl rfl rfl ⟨cY rfl (aD rfl (aD rfl (aD rfl (aD rfl (aD rfl (aD rfl aH)))))) trivial,rfl⟩ rfl (.inl rfl) (fun p hp=>nomatch hp) (aF6 rfl rfl rfl) (s2 (rt ?_))))))
 have hr:gH k rec=((fJ k rec).1,true):=(if_pos hok).trans (if_pos (by simpa using c25))
 rw[hr]
 refine rq [] [] rfl ?_
 repeat' apply ai
 all_goals first|exact qx|exact aA _|exact aB _|exact(aA _).symm|exact(aB _).symm|rfl|(simp[aA,aB];done)|exact qz
theorem yb (k:aR) (rec:List UInt8) (hk:KB k) (hr:rec.length≤900000):Ab.Spec Tryz.prog 15 2 [(.t 0,.v (k.V)),(.t 1,.v (Dv (.s rec)))] [(.t 0,.v (.tup [.agg [.d (.i ((bY k rec).1).id),.d (.i ((bY k rec).1).time),.d (.i ((bY k rec).1).next),.own 900 ((bY k rec).1).held.length,.own 901 ((bY k rec).1).marks.length,.own 902 ((bY k rec).1).inbox.length],.c (.d (.b (bY k rec).2))])),(.o 900,.row 29 5 (aE ((bY k rec).1).held)),(.o 901,.row 39 3 (aL ((bY k rec).1).marks)),(.o 902,.row 29 5 (aE ((bY k rec).1).inbox))]:=bj k rec▸th k rec hk hr
theorem iz (id:Int):Sp 63 1 [tI 0 id] [tV 0 (.e (.agg [.d (.i (aY id).id),.d (.i (aY id).time),.d (.i (aY id).next),.nil,.nil,.nil]))]:=by
 refine sb Tryz.func63 rfl (sq (rT [0,2] (s1 (sq (sq (rT [0,2,5] (s1 (xp (cW _) (ai rfl ?_)))))))))
 refine s1 (cd rfl (fun c5=> ?_) fun c5=> ?_)
 · have hr:aY id= .zero:=if_neg (by simpa using c5)
   refine sq (rT [2] (s2 (rt ?_)))
   rw[hr]
   refine rq [] [] rfl ?_
   repeat' apply ai
   all_goals first|exact qx|exact aA _|exact aB _|exact(aA _).symm|exact(aB _).symm|rfl|(simp[aA,aB];done)|exact qz
 have hr:aY id=⟨id,0,1,[],[],[]⟩:=if_pos (by simpa using c5)
 refine sk (sq (rT [2] (s3 (rt ?_))))
 rw[hr]
 refine rq [] [] rfl ?_
 repeat' apply ai
 all_goals first|exact qx|exact aA _|exact aB _|exact(aA _).symm|exact(aB _).symm|rfl|(simp[aA,aB];done)|exact qz
set_option maxHeartbeats 1600000 in
theorem aJe (id:Int) (l:List (List UInt8)) (hl:l.length≤900000) (hx: ∀x∈l,x.length≤900000):Sp 116 2 [tI 0 id,tD 1 (.sl (bL l))] [tV 0 (.tup [.agg [.d (.i ((gT id l).1).id),.d (.i ((gT id l).1).time),.d (.i ((gT id l).1).next),.own 900 ((gT id l).1).held.length,.own 901 ((gT id l).1).marks.length,.own 902 ((gT id l).1).inbox.length],.c (.d (.b (gT id l).2))]),oR 900 29 5 (aE ((gT id l).1).held),oR 901 39 3 (aL ((gT id l).1).marks),oR 902 29 5 (aE ((gT id l).1).inbox)]:=by
 refine sb Tryz.func116 rfl (sq (rT [0,1,4] (s2 (sq (rT [0,1,4,6] (s1 (xp (iz id) (ai rfl ?_))))))))
 refine s2 (sq (sq (rT [1,4,6,14] (s1 (xp (cW _) (ai rfl ?_))))))
 refine s1 (cd rfl (fun c14=> ?_) fun c14=> ?_)
 · refine sq (rT [4,5] (s3 (SW.nilBox 4 900 3 29 5 rfl rfl rfl (SW.nilBox 4 901 4 39 3 rfl rfl rfl (SW.nilBox 4 902 5 29 5 rfl rfl rfl (rt ?_))))))
   have hr:gT id l=(.zero,false):=if_neg (by simpa using c14)
   have hz:aY id= .zero:=if_neg (by simpa using c14)
   rw[hr]
   refine rq [] [] rfl ?_
   repeat' apply ai
   all_goals first|exact qx|(rw[hz];done)|(rw[hz];rfl)|rfl|exact qz
 have hnode:eB id=true:=by simpa using c14
 refine sk (sq (sq (rT [1,4,6,7] (s1 (bk (SW.nilBox 6 900 3 29 5 rfl rfl rfl (SW.nilBox 6 901 4 39 3 rfl rfl rfl (SW.nilBox 6 902 5 29 5 rfl rfl rfl (SW.loopW (n:=l.length) (fun m s=> ∃(i:Nat) (q:aR),m=l.length - i∧i≤l.length∧K6 q∧nI (aY id) l=nI q (l.drop i)∧s=[tD 1 (.sl (bL l)),tP 4 4,tP 6 6,tI 7 (i:Nat),oB 4 26 [.d (.i 0),.d (.i 0),.d (.i 0),.nil,.nil,.nil],oB 6 26 [.d (.i (q).id),.d (.i (q).time),.d (.i (q).next),.own 900 (q).held.length,.own 901 (q).marks.length,.own 902 (q).inbox.length],oR 900 29 5 (aE (q).held),oR 901 39 3 (aL (q).marks),oR 902 29 5 (aE (q).inbox)]) ?_ ?_)))))))))
 · refine wq (σ':=[tD 1 (.sl (bL l)),tP 4 4,tP 6 6,tI 7 (0:Nat),oB 4 26 [.d (.i 0),.d (.i 0),.d (.i 0),.nil,.nil,.nil],oB 6 26 [.d (.i ((aY id)).id),.d (.i ((aY id)).time),.d (.i ((aY id)).next),.own 900 ((aY id)).held.length,.own 901 ((aY id)).marks.length,.own 902 ((aY id)).inbox.length],oR 900 29 5 (aE ((aY id)).held),oR 901 39 3 (aL ((aY id)).marks),oR 902 29 5 (aE ((aY id)).inbox)]) [] [] (⟨0,aY id,rfl,aSj _,gh id,rfl,rfl⟩) ?_
   repeat' apply ai
   all_goals first|exact qx|rfl|(rw[(ksD id).1];rfl)|(rw[(ksD id).2.1];rfl)|(rw[(ksD id).2.2];rfl)|exact qz
 rintro n s ⟨i,q,rfl,hi,hq,hgo,rfl⟩
 refine sq (sq (rT [1,4,6,7,19] (s4 (cd rfl (fun c19=> ?_) fun c19=> ?_))))
 · have hi2:i<l.length:=by simpa[aU] using c19
   have hg:=gG (l:=l) hi2
   have hmem:l.getD i []∈l:=dU hi2
   have es:toS (((bL l).getD (i:Int).toNat []).getD 0 (.i 0))=l.getD i []:=by rw[aSd,hg];rfl
   refine sk (sq (bk (sq (rD [1,4,6,7,8,9] (s3 (ai (by rw[aSd,hg];exact⟨⟨by omega,by rw[aU];omega⟩,rfl⟩) (ai (by rw[aSd,hg];exact⟨aSf rfl,rfl⟩) (bH (robj:=[(900,.row 29 5 (aE (q).held)),(901,.row 39 3 (aL (q).marks)),(902,.row 29 5 (aE (q).inbox))]) (rl:=[(900,910),(901,911),(902,912)]) (bor:=[900,901,902]) (yb q (l.getD i []) hq.seven.big (hx _ hmem)) rfl rfl rfl rfl ⟨cY rfl (aD rfl (aD rfl (aD rfl (ax rfl rfl (aA _) rfl (ax rfl rfl (aB _) rfl (ax rfl rfl (aA _) rfl aH)))))) (cK rfl (by rw[aSd,hg];rfl) trivial),rfl⟩ rfl (.inr (aLq _)) (aJ ⟨rfl,rfl,rfl,trivial⟩) (aF6 rfl rfl rfl) (s6 (ai (by kernel_rfl) (sq (sq (rT [1,4,6,7,8,32] (s2 (cd rfl (fun c32=> ?_) fun c32=> ?_)))))))))))))))
   · have hno: (bY q (l.getD i [])).2=false:=by simpa using c32
     rw[List.drop_eq_getElem_cons hi2,nI,show l[i]=l.getD i [] by rw[aSl,aSn hi2];rfl,hno] at hgo
     refine sq (rT [4,5] (s3 (SW.nilBox 4 920 3 29 5 rfl rfl rfl (SW.nilBox 4 921 4 39 3 rfl rfl rfl (SW.nilBox 4 922 5 29 5 rfl rfl rfl (rt ?_))))))
     have hr:gT id l=(.zero,false):=(if_pos hnode).trans (hgo.trans (if_neg (by simp)))
     rw[hr]
     refine rq [(900,920),(901,921),(902,922)] [] rfl ?_
     repeat' apply ai
     all_goals first|exact qx|exact aA _|exact aB _|exact(aA _).symm|exact(aB _).symm|rfl|(simp[aA,aB];done)|exact qz
   have hno: (bY q (l.getD i [])).2=true:=by simpa using c32
   rw[List.drop_eq_getElem_cons hi2,nI,show l[i]=l.getD i [] by rw[aSl,aSn hi2];rfl,if_pos hno] at hgo
   refine sk (rT [1,4,6,7] (s2 (rT [1,4,6,7] (s3 (wq [(900,910),(901,911),(902,912)] [] (⟨l.length - (i+1),by omega,i+1,(bY q (l.getD i [])).1,rfl,by omega,kc,hgo,rfl⟩) ?_)))))
   repeat' apply ai
   all_goals first|exact qx|exact aA _|exact aB _|exact(aA _).symm|exact(aB _).symm|exact congrArg D.i (aF (by omega))|rfl|(simp[aA,aB];done)|exact qz
 have hi3:i=l.length:=by simp[aU] at c19;omega
 subst hi3
 refine xt (sq (rT [4,5] (s3 (rt ?_))))
 have hr:gT id l=(q,true):=(if_pos hnode).trans (hgo.trans (by rw[List.drop_length];rfl))
 rw[hr]
 refine rq [] [] rfl ?_
 repeat' apply ai
 all_goals first|exact qx|exact aA _|exact aB _|exact(aA _).symm|exact(aB _).symm|rfl|(simp[aA,aB];done)|exact qz
set_option maxHeartbeats 800000 in
theorem aJf (k:aO) (hl:k.log.length≤900000):Sp 95 1 [tV 0 k.V] [tV 0 (.tup [.agg [.d (.i ((aZ k).1).id),.d (.i ((aZ k).1).time),.d (.i ((aZ k).1).next),.own 900 ((aZ k).1).held.length,.own 901 ((aZ k).1).marks.length,.own 902 ((aZ k).1).inbox.length],.c (.d (.b (aZ k).2))]),oR 900 29 5 (aE ((aZ k).1).held),oR 901 39 3 (aL ((aZ k).1).marks),oR 902 29 5 (aE ((aZ k).1).inbox)]:=by
 refine sb Tryz.func95 rfl (sq (rT [1,2] (s3 (sq (rT [1,2,4] (s3 (xp (eY k.log (by omega)) (ai rfl ?_))))))))
 refine s5 (sq (rT [2,3] (s3 (bH (robj:=[]) (rl:=[]) (bor:=[]) (aJe k.id (dB k.log).1 (mJ k.log hl).1 (mJ k.log hl).2) rfl rfl rfl rfl ⟨cK rfl rfl (cK rfl rfl trivial),rfl⟩ rfl (.inl rfl) (fun p hp=>nomatch hp) (aF6 rfl rfl rfl) (s4 (rt (rq [] [] rfl ?_)))))))
 repeat' apply ai
 all_goals first|exact qx|exact aA _|exact aB _|exact(aA _).symm|exact(aB _).symm|rfl|(simp[aA,aB];done)|exact qz
theorem aAv (k:aO) (hl:k.log.length≤900000):Sp 64 1 [tV 0 k.V] [tV 0 (.e (.agg [.d (.i ((dI k)).id),.d (.i ((dI k)).time),.d (.i ((dI k)).next),.own 900 ((dI k)).held.length,.own 901 ((dI k)).marks.length,.own 902 ((dI k)).inbox.length])),oR 900 29 5 (aE ((dI k)).held),oR 901 39 3 (aL ((dI k)).marks),oR 902 29 5 (aE ((dI k)).inbox)]:=by
 refine sb Tryz.func64 rfl (sq (rT [1,2] (s2 (sq (sq (rT [1,2,7] (s1 (xp (fP k (by omega)) (ai rfl ?_)))))))))
 refine s1 (cd rfl (fun c7=> ?_) fun c7=> ?_)
 · refine sq (rT [2] (s2 (SW.nilBox 2 900 3 29 5 rfl rfl rfl (SW.nilBox 2 901 4 39 3 rfl rfl rfl (SW.nilBox 2 902 5 29 5 rfl rfl rfl (rt ?_))))))
   have hno: ¬bF k=true:=by simpa using c7
   have hk:dI k= .zero:=if_neg hno
   rw[hk]
   refine rq [] [] rfl ?_
   repeat' apply ai
   all_goals first|exact qx|exact aA _|exact aB _|exact(aA _).symm|exact(aB _).symm|rfl|(simp[aA,aB];done)|exact qz
 refine sk (sq (rT [2,3] (s1 (bH (robj:=[]) (rl:=[]) (bor:=[]) (aJf k hl) rfl rfl rfl rfl ⟨cY rfl (aD rfl (aD rfl (aD rfl (aD rfl (aD rfl aH))))) trivial,rfl⟩ rfl (.inl rfl) (fun p hp=>nomatch hp) (aF6 rfl rfl rfl) (s6 (sq (rT [2] (s2 (rt ?_)))))))))
 have hyes:bF k=true:=by simpa using c7
 have hk:=kK hyes
 rw[hk]
 refine rq [] [] rfl ?_
 repeat' apply ai
 all_goals first|exact qx|exact aA _|exact aB _|exact(aA _).symm|exact(aB _).symm|rfl|(simp[aA,aB];done)|exact qz
set_option maxHeartbeats 6400000 in
theorem tj (l:List UInt8) (p:Int) (hp:0≤p∧p≤600000) (hl:l.length≤2000):tn 32 1 [tP 0 801,oB 801 92 [.d (.sl (aC l)),.d (.i (p))]] (fun s=> ∃(k:aR) (q:Int),KD k∧(p≤q∧q≤p+20000)∧s=[(.t 0,.v k.V),oB 801 92 [.d (.sl (aC l)),.d (.i (q))]]):=by
 have hl2:=hl
 refine uo Tryz.func32 rfl (sq (rT [0,2] (s1 (sq (rT [0,2,3] (s1 (bH (robj:=[(801,.box 92 [.d (.sl (aC (l))),.d (.i (p))])]) (rl:=[(0,801)]) (bor:=[]) (cP (l) (p) _ (by omega) hl) rfl rfl rfl rfl ⟨bU rfl rfl rfl rfl (cK rfl rfl (aW rfl (aD rfl (aD rfl aH)) trivial)),rfl⟩ rfl (.inl rfl) (aJ ⟨rfl,trivial⟩) (fun _ hj=>nomatch hj) (xp (iz (aP l p 4)) (ai rfl ?_)))))))))
 refine s2 (SW.midW (fun s=> ∃(k1:aR) (q1:Int),(OZ k1∧p≤q1∧q1≤p+15000)∧s=[tP 0 801,tP 2 2,tP 3 3,oB 801 92 [.d (.sl (aC l)),.d (.i (q1))],oB 2 26 [.d (.i 0),.d (.i 0),.d (.i 0),.nil,.nil,.nil],oB 3 26 [.d (.i (k1).id),.d (.i (k1).time),.d (.i (k1).next),.own 900 (k1).held.length,.own 901 (k1).marks.length,.own 902 (k1).inbox.length],oR 900 29 5 (aE (k1).held),oR 901 39 3 (aL (k1).marks),oR 902 29 5 (aE (k1).inbox)]) ?_ ?_)
 · refine sq (SW.nilBox 3 900 3 29 5 rfl rfl rfl (SW.nilBox 3 901 4 39 3 rfl rfl rfl (SW.nilBox 3 902 5 29 5 rfl rfl rfl (wa [tP 0 801,tP 2 2,tP 3 3,oB 801 92 [.d (.sl (aC l)),.d (.i (p+1))],oB 2 26 [.d (.i 0),.d (.i 0),.d (.i 0),.nil,.nil,.nil],oB 3 26 [.d (.i ((aY (aP l p 4))).id),.d (.i ((aY (aP l p 4))).time),.d (.i ((aY (aP l p 4))).next),.own 900 ((aY (aP l p 4))).held.length,.own 901 ((aY (aP l p 4))).marks.length,.own 902 ((aY (aP l p 4))).inbox.length],oR 900 29 5 (aE ((aY (aP l p 4))).held),oR 901 39 3 (aL ((aY (aP l p 4))).marks),oR 902 29 5 (aE ((aY (aP l p 4))).inbox)] [] [] ?_ ?_))))
   · repeat' apply ai
     all_goals first|exact qx|(rw[(ksD _).1];rfl)|(rw[(ksD _).2.1];rfl)|(rw[(ksD _).2.2];rfl)|rfl|exact qz
   refine rT [0,2,3,10] (s1 (bH (robj:=[(801,.box 92 [.d (.sl (aC (l))),.d (.i (p+1))])]) (rl:=[(0,801)]) (bor:=[]) (cP (l) (p+1) _ (by omega) hl) rfl rfl rfl rfl ⟨bU rfl rfl rfl rfl (cK rfl rfl (aW rfl (aD rfl (aD rfl aH)) trivial)),rfl⟩ rfl (.inl rfl) (aJ ⟨rfl,trivial⟩) (fun _ hj=>nomatch hj) (s1 (cd rfl (fun c10=> ?_) fun c10=> ?_))))
   · obtain⟨i,hi,hil⟩:=xW (show 0≤aP l p 4∧aP l p 4≤3 by have:=cE l (p:=p) (n:=4) (by omega) (by omega);omega)
     have hid: (aY (aP l p 4)).id=(i:Int):=(aAu (by omega)).trans hi
     refine SW.regDE dQ mo [0,2,3] 1 (fun i=>if i=6 then some ([(.t 3,some (.v (.e (.c (.pt 3 0))))),(.o 3,some (.box 26 [.d (.i ((aY (aP l p 4))).id),.d (.i ((aY (aP l p 4))).time),.d (.i ((aY (aP l p 4))).next),.own 900 ((aY (aP l p 4))).held.length,.own 901 ((aY (aP l p 4))).marks.length,.own 902 ((aY (aP l p 4))).inbox.length]))],[tP 17 3]) else if i=7 then some ([(.t 17,some (.v (.e (.c (.pt 3 0))))),(.o 3,some (.box 26 [.d (.i ((aY (aP l p 4))).id),.d (.i ((aY (aP l p 4))).time),.d (.i ((aY (aP l p 4))).next),.own 900 ((aY (aP l p 4))).held.length,.own 901 ((aY (aP l p 4))).marks.length,.own 902 ((aY (aP l p 4))).inbox.length]))],[tI 18 (aY (aP l p 4)).id]) else none) rfl rfl (by kernel_rfl) ?_
     refine s1 (uJ (robj:=[(801,.box 92 [.d (.sl (aC l)),.d (.i (p+1+1))])]) (rl:=[]) (bor:=[]) (news:=[800,802,803,804,805,806,807]) (aQl l (p+1+1) 12 (by omega) hl (by omega)) rfl rfl rfl rfl ⟨bU rfl rfl rfl rfl (cK rfl rfl (aW rfl (aD rfl (aD rfl aH)) trivial)),rfl⟩ (by rintro _ ⟨W,q3,hw,rfl⟩;exact⟨rfl,.inl rfl,fun j hj=>hj⟩) (aJ ⟨rfl,trivial⟩) (fun j hj=>by simp at hj;rcases hj with rfl|rfl|rfl|rfl|rfl|rfl|rfl<;>rfl) ⟨_,eT,p+1+1,⟨(eS.of.refl mu).le (by omega),by omega,by omega⟩,rfl⟩ ?_)
     rintro _ ⟨W,q3,hw,rfl⟩
     refine s9 (ai rfl (s1 (ai rfl (ai (by rw[hid];exact⟨by rw[bC];exact hw.1.ok.four,by omega,by omega⟩) (s1 (ai (by rw[hid,aSd,bW (by rw[hw.1.ok.four];exact hil)];exact⟨⟨by rw[bC];exact hw.1.ok.four,hil⟩,aSf rfl,rfl⟩) (s1 (bH (robj:=[]) (rl:=[(900,910),(901,911),(902,912)]) (bor:=[]) (aAv (W.ks.getD i .zero) (by have:=(hw.1.ok.at hil).1;omega)) rfl rfl rfl rfl ⟨cY rfl (aD (by rw[hid,aSd,bW (by rw[hw.1.ok.four];exact hil)];rfl) (aD (by rw[hid,aSd,bW (by rw[hw.1.ok.four];exact hil)];rfl) (aD (by rw[hid,aSd,bW (by rw[hw.1.ok.four];exact hil)];rfl) (aD (by rw[hid,aSd,bW (by rw[hw.1.ok.four];exact hil)];rfl) (aD (by rw[hid,aSd,bW (by rw[hw.1.ok.four];exact hil)];rfl) aH))))) trivial,rfl⟩ rfl (.inl rfl) (fun p hp=>nomatch hp) (aF6 rfl rfl rfl) ?_))))))))
     refine s1 (s2 (ai (by kernel_rfl) ?_))
     first
     |(refine wq (σ':=[tP 0 801,tP 2 2,tP 3 3,oB 801 92 [.d (.sl (aC l)),.d (.i (q3))],oB 2 26 [.d (.i 0),.d (.i 0),.d (.i 0),.nil,.nil,.nil],oB 3 26 [.d (.i ((dI (W.ks.getD i .zero))).id),.d (.i ((dI (W.ks.getD i .zero))).time),.d (.i ((dI (W.ks.getD i .zero))).next),.own 900 ((dI (W.ks.getD i .zero))).held.length,.own 901 ((dI (W.ks.getD i .zero))).marks.length,.own 902 ((dI (W.ks.getD i .zero))).inbox.length],oR 900 29 5 (aE ((dI (W.ks.getD i .zero))).held),oR 901 39 3 (aL ((dI (W.ks.getD i .zero))).marks),oR 902 29 5 (aE ((dI (W.ks.getD i .zero))).inbox)]) [(900,910),(901,911),(902,912)] [] ⟨(dI (W.ks.getD i .zero)),q3,⟨aLo _,by omega,by omega⟩,rfl⟩ ?_
       repeat' apply ai
       all_goals first|exact qx|exact aA _|exact aB _|exact(aA _).symm|exact(aB _).symm|rfl|exact qz)
     |(refine wq (σ':=[tP 0 801,tP 2 2,tP 3 3,oB 801 92 [.d (.sl (aC l)),.d (.i ((p+1+1)))],oB 2 26 [.d (.i 0),.d (.i 0),.d (.i 0),.nil,.nil,.nil],oB 3 26 [.d (.i ((aY (aP l p 4))).id),.d (.i ((aY (aP l p 4))).time),.d (.i ((aY (aP l p 4))).next),.own 900 ((aY (aP l p 4))).held.length,.own 901 ((aY (aP l p 4))).marks.length,.own 902 ((aY (aP l p 4))).inbox.length],oR 900 29 5 (aE ((aY (aP l p 4))).held),oR 901 39 3 (aL ((aY (aP l p 4))).marks),oR 902 29 5 (aE ((aY (aP l p 4))).inbox)]) [] [] ⟨(aY (aP l p 4)),(p+1+1),⟨aDe _,by omega,by omega⟩,rfl⟩ ?_
       repeat' apply ai
       all_goals first|exact qx|exact aA _|exact aB _|exact(aA _).symm|exact(aB _).symm|rfl|exact qz)
   refine sk ?_
   first
   |(refine wq (σ':=[tP 0 801,tP 2 2,tP 3 3,oB 801 92 [.d (.sl (aC l)),.d (.i (q3))],oB 2 26 [.d (.i 0),.d (.i 0),.d (.i 0),.nil,.nil,.nil],oB 3 26 [.d (.i ((dI (W.ks.getD i .zero))).id),.d (.i ((dI (W.ks.getD i .zero))).time),.d (.i ((dI (W.ks.getD i .zero))).next),.own 900 ((dI (W.ks.getD i .zero))).held.length,.own 901 ((dI (W.ks.getD i .zero))).marks.length,.own 902 ((dI (W.ks.getD i .zero))).inbox.length],oR 900 29 5 (aE ((dI (W.ks.getD i .zero))).held),oR 901 39 3 (aL ((dI (W.ks.getD i .zero))).marks),oR 902 29 5 (aE ((dI (W.ks.getD i .zero))).inbox)]) [(900,910),(901,911),(902,912)] [] ⟨(dI (W.ks.getD i .zero)),q3,⟨aLo _,by omega,by omega⟩,rfl⟩ ?_
     repeat' apply ai
     all_goals first|exact qx|exact aA _|exact aB _|exact(aA _).symm|exact(aB _).symm|rfl|exact qz)
   |(refine wq (σ':=[tP 0 801,tP 2 2,tP 3 3,oB 801 92 [.d (.sl (aC l)),.d (.i ((p+1+1)))],oB 2 26 [.d (.i 0),.d (.i 0),.d (.i 0),.nil,.nil,.nil],oB 3 26 [.d (.i ((aY (aP l p 4))).id),.d (.i ((aY (aP l p 4))).time),.d (.i ((aY (aP l p 4))).next),.own 900 ((aY (aP l p 4))).held.length,.own 901 ((aY (aP l p 4))).marks.length,.own 902 ((aY (aP l p 4))).inbox.length],oR 900 29 5 (aE ((aY (aP l p 4))).held),oR 901 39 3 (aL ((aY (aP l p 4))).marks),oR 902 29 5 (aE ((aY (aP l p 4))).inbox)]) [] [] ⟨(aY (aP l p 4)),(p+1+1),⟨aDe _,by omega,by omega⟩,rfl⟩ ?_
     repeat' apply ai
     all_goals first|exact qx|exact aA _|exact aB _|exact(aA _).symm|exact(aB _).symm|rfl|exact qz)
 rintro s ⟨k1,q1,⟨hk1,hq1⟩,rfl⟩
 refine sq (sq (rT [0,2,3,4] (s1 (bH (robj:=[(801,.box 92 [.d (.sl (aC (l))),.d (.i (q1))])]) (rl:=[(0,801)]) (bor:=[]) (cP (l) (q1) _ (by omega) hl) rfl rfl rfl rfl ⟨bU rfl rfl rfl rfl (cK rfl rfl (aW rfl (aD rfl (aD rfl aH)) trivial)),rfl⟩ rfl (.inl rfl) (aJ ⟨rfl,trivial⟩) (fun _ hj=>nomatch hj) (s1 (bk ?_))))))
 obtain⟨n0,hn0,hn9⟩: ∃n0:Nat,aP l q1 10=(n0:Int)∧n0≤9:=by have:=cE l (p:=q1) (n:=10) (by omega) (by omega);exact⟨(aP l q1 10).toNat,by omega,by omega⟩
 refine SW.loopW (n:=n0) (fun x s=> ∃(k2:aR) (q:Int),(x≤n0∧OZ k2∧q1+1≤q∧q≤q1+1+300*(n0 - x:Nat))∧s=[tP 0 801,tP 2 2,tP 3 3,tI 4 (x:Nat),oB 801 92 [.d (.sl (aC l)),.d (.i (q))],oB 2 26 [.d (.i 0),.d (.i 0),.d (.i 0),.nil,.nil,.nil],oB 3 26 [.d (.i (k2).id),.d (.i (k2).time),.d (.i (k2).next),.own 900 (k2).held.length,.own 901 (k2).marks.length,.own 902 (k2).inbox.length],oR 900 29 5 (aE (k2).held),oR 901 39 3 (aL (k2).marks),oR 902 29 5 (aE (k2).inbox)]) ?_ ?_
 · refine wq [] [] (⟨k1,q1+1,⟨by omega,hk1,by omega,by omega⟩,rfl⟩) ?_
   repeat' apply ai
   all_goals first|exact qx|exact congrArg D.i hn0|rfl|exact qz
 rintro n s ⟨k2,q,⟨hxn,hk2,hq⟩,rfl⟩
 refine sq (sq (rT [0,2,3,4,25] (s2 (cd rfl (fun c25=> ?_) fun c25=> ?_))))
 · have hn1p:0<n:=by simp at c25;omega
   refine sk (sq (bk (wa [tP 0 801,tP 2 2,tP 3 3,tI 4 (n:Nat),oB 801 92 [.d (.sl (aC l)),.d (.i (q))],oB 2 26 [.d (.i 0),.d (.i 0),.d (.i 0),.nil,.nil,.nil],oB 3 26 [.d (.i (k2).id),.d (.i (k2).time),.d (.i (k2).next),.d (.sl (aE (k2).held)),.d (.sl (aL (k2).marks)),.d (.sl (aE (k2).inbox))]] [] [900,901,902] ?_ ?_)))
   · repeat' apply ai
     all_goals first|exact qx|exact aA _|exact aB _|exact(aA _).symm|exact(aB _).symm|rfl|exact qz
   refine SW.regDE dQ mo [0,2,3,4] 3 (fun _=>none) rfl rfl (by kernel_rfl) ?_
   refine s3 (uJ (robj:=[(801,.box 92 [.d (.sl (aC l)),.d (.i (q))])]) (rl:=[(0,801)]) (bor:=[]) (news:=[]) (ao l (q) k2 (by omega) hl hk2.kd.1) rfl rfl rfl rfl ⟨bU rfl rfl rfl rfl (cY rfl (aD rfl (aD rfl (aD rfl (aD rfl (aD rfl (aD rfl aH)))))) (aW rfl (aD rfl (aD rfl aH)) trivial)),rfl⟩ (by rintro _ ⟨x,q9,hx,rfl⟩;exact⟨rfl,.inl rfl,fun j hj=>nomatch hj⟩) (aJ ⟨rfl,trivial⟩) (fun j hj=>nomatch hj) ⟨_,[],q,⟨by omega,by omega,by simp⟩,rfl⟩ ?_)
   rintro _ ⟨x,q9,hx,rfl⟩
   refine bH (robj:=[]) (rl:=[]) (bor:=[]) (yb k2 x hk2.kd.1.kb (by omega)) rfl rfl rfl rfl ⟨cY rfl (aD rfl (aD rfl (aD rfl (aD rfl (aD rfl (aD rfl aH)))))) (cK rfl rfl trivial),rfl⟩ rfl (.inl rfl) (fun p hp=>nomatch hp) (aF6 rfl rfl rfl) (s1 (s8 (ai (by kernel_rfl) (rT [0,2,3,4] (s3 (wq (σ':=[tP 0 801,tP 2 2,tP 3 3,tI 4 (n - 1:Nat),oB 801 92 [.d (.sl (aC l)),.d (.i (q9))],oB 2 26 [.d (.i 0),.d (.i 0),.d (.i 0),.nil,.nil,.nil],oB 3 26 [.d (.i ((bY k2 x).1).id),.d (.i ((bY k2 x).1).time),.d (.i ((bY k2 x).1).next),.own 900 ((bY k2 x).1).held.length,.own 901 ((bY k2 x).1).marks.length,.own 902 ((bY k2 x).1).inbox.length],oR 900 29 5 (aE ((bY k2 x).1).held),oR 901 39 3 (aL ((bY k2 x).1).marks),oR 902 29 5 (aE ((bY k2 x).1).inbox)]) [] [] (⟨n - 1,by omega,(bY k2 x).1,q9,⟨by omega,aSb _ _,by omega,by omega⟩,rfl⟩) ?_))))))
   repeat' apply ai
   all_goals first|exact qx|(refine congrArg D.i ?_;rw[aF (by omega)];omega)|rfl|exact qz
 refine xt (SW.midW (fun s=> ∃(k3:aR) (q7:Int),(KD k3∧q≤q7∧q7≤q+70)∧s=[tP 2 2,tP 3 3,oB 801 92 [.d (.sl (aC l)),.d (.i (q7))],oB 2 26 [.d (.i 0),.d (.i 0),.d (.i 0),.nil,.nil,.nil],oB 3 26 [.d (.i (k3).id),.d (.i (k3).time),.d (.i (k3).next),.own 900 (k3).held.length,.own 901 (k3).marks.length,.own 902 (k3).inbox.length],oR 900 29 5 (aE (k3).held),oR 901 39 3 (aL (k3).marks),oR 902 29 5 (aE (k3).inbox)]) ?_ ?_)
 · refine sq (rT [0,2,3,37] (s1 (bH (robj:=[(801,.box 92 [.d (.sl (aC (l))),.d (.i (q))])]) (rl:=[(0,801)]) (bor:=[]) (cP (l) (q) _ (by omega) hl) rfl rfl rfl rfl ⟨bU rfl rfl rfl rfl (cK rfl rfl (aW rfl (aD rfl (aD rfl aH)) trivial)),rfl⟩ rfl (.inl rfl) (aJ ⟨rfl,trivial⟩) (fun _ hj=>nomatch hj) (bk (sq (rT [0,2,3,37,38] (s2 (cd rfl (fun c38=> ?_) fun c38=> ?_))))))))
   · refine rT [2,3] (s2 (bH (robj:=[(801,.box 92 [.d (.sl (aC (l))),.d (.i (q+1))])]) (rl:=[(0,801)]) (bor:=[]) (cP (l) (q+1) _ (by omega) hl) rfl rfl rfl rfl ⟨bU rfl rfl rfl rfl (cK rfl rfl (aW rfl (aD rfl (aD rfl aH)) trivial)),rfl⟩ rfl (.inl rfl) (aJ ⟨rfl,trivial⟩) (fun _ hj=>nomatch hj) ?_))
     have hv:=cE l (p:=q+1) (n:=4) (by omega) (by omega)
     refine ai ⟨rfl,hv.1,hv.2⟩ (ai (aEs (l:=[-1,999,1000,9]) (by simp;omega) rfl) (s2 ?_))
     first
     |(refine wq [] [] ⟨({k2 with held:=k2.held++[n1]}:aR),q6,⟨bp hk2 hn1,by omega,by omega⟩,rfl⟩ ?_
       repeat' apply ai
       all_goals first|exact qx|exact bP _ _|exact congrArg D.sl (bP _ _).symm|(simp[aA];done)|(rw[← bP];rfl)|exact aA _|exact aB _|exact(aA _).symm|exact(aB _).symm|rfl|exact qz)
     |(refine wq [] [] ⟨({k2 with inbox:=k2.inbox++[n1]}:aR),q6,⟨wD hk2 hn1,by omega,by omega⟩,rfl⟩ ?_
       repeat' apply ai
       all_goals first|exact qx|exact bP _ _|exact congrArg D.sl (bP _ _).symm|(simp[aA];done)|(rw[← bP];rfl)|exact aA _|exact aB _|exact(aA _).symm|exact(aB _).symm|rfl|exact qz)
     |(refine wq [] [] ⟨({k2 with marks:=k2.marks++[⟨aP l (q+1) 5,aP l (q+1+1) 4,aP l (q+1+1+1) 40⟩]}:aR),(q+1+1+1+1),⟨wE hk2,by omega,by omega⟩,rfl⟩ ?_
       repeat' apply ai
       all_goals first|exact qx|exact congrArg D.sl (eW _ _).symm|(simp[aB];done)|(rw[← eW];rfl)|exact aA _|exact aB _|exact(aA _).symm|exact(aB _).symm|rfl|exact qz)
     |(refine wq (σ':=[tP 2 2,tP 3 3,oB 801 92 [.d (.sl (aC l)),.d (.i ((q+1+1)))],oB 2 26 [.d (.i 0),.d (.i 0),.d (.i 0),.nil,.nil,.nil],oB 3 26 [.d (.i (({k2 with time:=([-1,999,1000,9]:List Int).getD (aP l (q+1) 4).toNat 0}:aR)).id),.d (.i (({k2 with time:=([-1,999,1000,9]:List Int).getD (aP l (q+1) 4).toNat 0}:aR)).time),.d (.i (({k2 with time:=([-1,999,1000,9]:List Int).getD (aP l (q+1) 4).toNat 0}:aR)).next),.own 900 (({k2 with time:=([-1,999,1000,9]:List Int).getD (aP l (q+1) 4).toNat 0}:aR)).held.length,.own 901 (({k2 with time:=([-1,999,1000,9]:List Int).getD (aP l (q+1) 4).toNat 0}:aR)).marks.length,.own 902 (({k2 with time:=([-1,999,1000,9]:List Int).getD (aP l (q+1) 4).toNat 0}:aR)).inbox.length],oR 900 29 5 (aE (({k2 with time:=([-1,999,1000,9]:List Int).getD (aP l (q+1) 4).toNat 0}:aR)).held),oR 901 39 3 (aL (({k2 with time:=([-1,999,1000,9]:List Int).getD (aP l (q+1) 4).toNat 0}:aR)).marks),oR 902 29 5 (aE (({k2 with time:=([-1,999,1000,9]:List Int).getD (aP l (q+1) 4).toNat 0}:aR)).inbox)]) [] [] ⟨({k2 with time:=([-1,999,1000,9]:List Int).getD (aP l (q+1) 4).toNat 0}:aR),(q+1+1),⟨bq hk2 ((by decide: ∀v∈([-1,999,1000,9]:List Int),R1 v) _ (dU (by simp;omega))),by omega,by omega⟩,rfl⟩ ?_
       repeat' apply ai
       all_goals first|exact qx|(rw[show(aP l (q+1) 4).toNat=(aP l (q+1) 4).toNat from rfl];exact congrArg (fun r:List D=>D.i (dc (r.getD 0 (.i 0)))) (dF (l:=[-1,999,1000,9]) (by simp;omega)))|exact aA _|exact aB _|exact(aA _).symm|exact(aB _).symm|rfl|exact qz)
     |(refine wq [] [] ⟨({k2 with next:=([0,100,101]:List Int).getD (aP l (q+1) 3).toNat 0}:aR),(q+1+1),⟨br hk2,by omega,by omega⟩,rfl⟩ ?_
       repeat' apply ai
       all_goals first|exact qx|exact congrArg (fun r:List D=>D.i (dc (r.getD 0 (.i 0)))) (dF (l:=[0,100,101]) (by simp;omega))|exact aA _|exact aB _|exact(aA _).symm|exact(aB _).symm|rfl|exact qz)
     |(refine wq [] [] ⟨k2,(q+1),⟨hk2.kd.1,by omega,by omega⟩,rfl⟩ ?_
       repeat' apply ai
       all_goals first|exact qx|exact aA _|exact aB _|exact(aA _).symm|exact(aB _).symm|rfl|exact qz)
   refine sq (rT [0,2,3,37,46] (s2 (cd rfl (fun c46=> ?_) fun c46=> ?_)))
   · refine rT [2,3] (s2 (bH (robj:=[(801,.box 92 [.d (.sl (aC (l))),.d (.i (q+1))])]) (rl:=[(0,801)]) (bor:=[]) (cP (l) (q+1) _ (by omega) hl) rfl rfl rfl rfl ⟨bU rfl rfl rfl rfl (cK rfl rfl (aW rfl (aD rfl (aD rfl aH)) trivial)),rfl⟩ rfl (.inl rfl) (aJ ⟨rfl,trivial⟩) (fun _ hj=>nomatch hj) ?_))
     have hv:=cE l (p:=q+1) (n:=3) (by omega) (by omega)
     refine ai ⟨rfl,hv.1,hv.2⟩ (ai (aEs (l:=[0,100,101]) (by simp;omega) rfl) (s2 ?_))
     first
     |(refine wq [] [] ⟨({k2 with held:=k2.held++[n1]}:aR),q6,⟨bp hk2 hn1,by omega,by omega⟩,rfl⟩ ?_
       repeat' apply ai
       all_goals first|exact qx|exact bP _ _|exact congrArg D.sl (bP _ _).symm|(simp[aA];done)|(rw[← bP];rfl)|exact aA _|exact aB _|exact(aA _).symm|exact(aB _).symm|rfl|exact qz)
     |(refine wq [] [] ⟨({k2 with inbox:=k2.inbox++[n1]}:aR),q6,⟨wD hk2 hn1,by omega,by omega⟩,rfl⟩ ?_
       repeat' apply ai
       all_goals first|exact qx|exact bP _ _|exact congrArg D.sl (bP _ _).symm|(simp[aA];done)|(rw[← bP];rfl)|exact aA _|exact aB _|exact(aA _).symm|exact(aB _).symm|rfl|exact qz)
     |(refine wq [] [] ⟨({k2 with marks:=k2.marks++[⟨aP l (q+1) 5,aP l (q+1+1) 4,aP l (q+1+1+1) 40⟩]}:aR),(q+1+1+1+1),⟨wE hk2,by omega,by omega⟩,rfl⟩ ?_
       repeat' apply ai
       all_goals first|exact qx|exact congrArg D.sl (eW _ _).symm|(simp[aB];done)|(rw[← eW];rfl)|exact aA _|exact aB _|exact(aA _).symm|exact(aB _).symm|rfl|exact qz)
     |(refine wq (σ':=[tP 2 2,tP 3 3,oB 801 92 [.d (.sl (aC l)),.d (.i ((q+1+1)))],oB 2 26 [.d (.i 0),.d (.i 0),.d (.i 0),.nil,.nil,.nil],oB 3 26 [.d (.i (({k2 with time:=([-1,999,1000,9]:List Int).getD (aP l (q+1) 4).toNat 0}:aR)).id),.d (.i (({k2 with time:=([-1,999,1000,9]:List Int).getD (aP l (q+1) 4).toNat 0}:aR)).time),.d (.i (({k2 with time:=([-1,999,1000,9]:List Int).getD (aP l (q+1) 4).toNat 0}:aR)).next),.own 900 (({k2 with time:=([-1,999,1000,9]:List Int).getD (aP l (q+1) 4).toNat 0}:aR)).held.length,.own 901 (({k2 with time:=([-1,999,1000,9]:List Int).getD (aP l (q+1) 4).toNat 0}:aR)).marks.length,.own 902 (({k2 with time:=([-1,999,1000,9]:List Int).getD (aP l (q+1) 4).toNat 0}:aR)).inbox.length],oR 900 29 5 (aE (({k2 with time:=([-1,999,1000,9]:List Int).getD (aP l (q+1) 4).toNat 0}:aR)).held),oR 901 39 3 (aL (({k2 with time:=([-1,999,1000,9]:List Int).getD (aP l (q+1) 4).toNat 0}:aR)).marks),oR 902 29 5 (aE (({k2 with time:=([-1,999,1000,9]:List Int).getD (aP l (q+1) 4).toNat 0}:aR)).inbox)]) [] [] ⟨({k2 with time:=([-1,999,1000,9]:List Int).getD (aP l (q+1) 4).toNat 0}:aR),(q+1+1),⟨bq hk2 ((by decide: ∀v∈([-1,999,1000,9]:List Int),R1 v) _ (dU (by simp;omega))),by omega,by omega⟩,rfl⟩ ?_
       repeat' apply ai
       all_goals first|exact qx|(rw[show(aP l (q+1) 4).toNat=(aP l (q+1) 4).toNat from rfl];exact congrArg (fun r:List D=>D.i (dc (r.getD 0 (.i 0)))) (dF (l:=[-1,999,1000,9]) (by simp;omega)))|exact aA _|exact aB _|exact(aA _).symm|exact(aB _).symm|rfl|exact qz)
     |(refine wq [] [] ⟨({k2 with next:=([0,100,101]:List Int).getD (aP l (q+1) 3).toNat 0}:aR),(q+1+1),⟨br hk2,by omega,by omega⟩,rfl⟩ ?_
       repeat' apply ai
       all_goals first|exact qx|exact congrArg (fun r:List D=>D.i (dc (r.getD 0 (.i 0)))) (dF (l:=[0,100,101]) (by simp;omega))|exact aA _|exact aB _|exact(aA _).symm|exact(aB _).symm|rfl|exact qz)
     |(refine wq [] [] ⟨k2,(q+1),⟨hk2.kd.1,by omega,by omega⟩,rfl⟩ ?_
       repeat' apply ai
       all_goals first|exact qx|exact aA _|exact aB _|exact(aA _).symm|exact(aB _).symm|rfl|exact qz)
   refine sq (rT [0,2,3,37,54] (s2 (cd rfl (fun c54=> ?_) fun c54=> ?_)))
   · refine SW.regDE dQ mo [2,3] 3 (fun _=>none) rfl rfl (by kernel_rfl) ?_
     refine s3 (uJ (robj:=[(801,.box 92 [.d (.sl (aC l)),.d (.i (q+1))])]) (rl:=[(0,801)]) (bor:=[]) (news:=[]) (pQ l (q+1) (by omega) hl) rfl rfl rfl rfl ⟨bU rfl rfl rfl rfl (aW rfl (aD rfl (aD rfl aH)) trivial),rfl⟩ (by rintro _ ⟨n1,q6,hn1,hq6,rfl⟩;exact⟨rfl,.inl rfl,fun j hj=>nomatch hj⟩) (aJ ⟨rfl,trivial⟩) (fun j hj=>nomatch hj) ⟨_,.zero,q+1,aG4,⟨by omega,by omega⟩,rfl⟩ ?_)
     rintro _ ⟨n1,q6,hn1,hq6,rfl⟩
     refine s2 ?_
     refine ai (by refine⟨?_,?_,?_,?_⟩<;>first|trivial|rfl|exact aA _|(intro r hr;rw[aSs.1 hr];rfl)|(have:=hk2.kd.2;simp only[aSi,aSh];show(_+1)*48≤_;omega)) (s5 (ai (by kernel_rfl) ?_))
     first
     |(refine wq [] [] ⟨({k2 with held:=k2.held++[n1]}:aR),q6,⟨bp hk2 hn1,by omega,by omega⟩,rfl⟩ ?_
       repeat' apply ai
       all_goals first|exact qx|exact bP _ _|exact congrArg D.sl (bP _ _).symm|(simp[aA];done)|(rw[← bP];rfl)|exact aA _|exact aB _|exact(aA _).symm|exact(aB _).symm|rfl|exact qz)
     |(refine wq [] [] ⟨({k2 with inbox:=k2.inbox++[n1]}:aR),q6,⟨wD hk2 hn1,by omega,by omega⟩,rfl⟩ ?_
       repeat' apply ai
       all_goals first|exact qx|exact bP _ _|exact congrArg D.sl (bP _ _).symm|(simp[aA];done)|(rw[← bP];rfl)|exact aA _|exact aB _|exact(aA _).symm|exact(aB _).symm|rfl|exact qz)
     |(refine wq [] [] ⟨({k2 with marks:=k2.marks++[⟨aP l (q+1) 5,aP l (q+1+1) 4,aP l (q+1+1+1) 40⟩]}:aR),(q+1+1+1+1),⟨wE hk2,by omega,by omega⟩,rfl⟩ ?_
       repeat' apply ai
       all_goals first|exact qx|exact congrArg D.sl (eW _ _).symm|(simp[aB];done)|(rw[← eW];rfl)|exact aA _|exact aB _|exact(aA _).symm|exact(aB _).symm|rfl|exact qz)
     |(refine wq (σ':=[tP 2 2,tP 3 3,oB 801 92 [.d (.sl (aC l)),.d (.i ((q+1+1)))],oB 2 26 [.d (.i 0),.d (.i 0),.d (.i 0),.nil,.nil,.nil],oB 3 26 [.d (.i (({k2 with time:=([-1,999,1000,9]:List Int).getD (aP l (q+1) 4).toNat 0}:aR)).id),.d (.i (({k2 with time:=([-1,999,1000,9]:List Int).getD (aP l (q+1) 4).toNat 0}:aR)).time),.d (.i (({k2 with time:=([-1,999,1000,9]:List Int).getD (aP l (q+1) 4).toNat 0}:aR)).next),.own 900 (({k2 with time:=([-1,999,1000,9]:List Int).getD (aP l (q+1) 4).toNat 0}:aR)).held.length,.own 901 (({k2 with time:=([-1,999,1000,9]:List Int).getD (aP l (q+1) 4).toNat 0}:aR)).marks.length,.own 902 (({k2 with time:=([-1,999,1000,9]:List Int).getD (aP l (q+1) 4).toNat 0}:aR)).inbox.length],oR 900 29 5 (aE (({k2 with time:=([-1,999,1000,9]:List Int).getD (aP l (q+1) 4).toNat 0}:aR)).held),oR 901 39 3 (aL (({k2 with time:=([-1,999,1000,9]:List Int).getD (aP l (q+1) 4).toNat 0}:aR)).marks),oR 902 29 5 (aE (({k2 with time:=([-1,999,1000,9]:List Int).getD (aP l (q+1) 4).toNat 0}:aR)).inbox)]) [] [] ⟨({k2 with time:=([-1,999,1000,9]:List Int).getD (aP l (q+1) 4).toNat 0}:aR),(q+1+1),⟨bq hk2 ((by decide: ∀v∈([-1,999,1000,9]:List Int),R1 v) _ (dU (by simp;omega))),by omega,by omega⟩,rfl⟩ ?_
       repeat' apply ai
       all_goals first|exact qx|(rw[show(aP l (q+1) 4).toNat=(aP l (q+1) 4).toNat from rfl];exact congrArg (fun r:List D=>D.i (dc (r.getD 0 (.i 0)))) (dF (l:=[-1,999,1000,9]) (by simp;omega)))|exact aA _|exact aB _|exact(aA _).symm|exact(aB _).symm|rfl|exact qz)
     |(refine wq [] [] ⟨({k2 with next:=([0,100,101]:List Int).getD (aP l (q+1) 3).toNat 0}:aR),(q+1+1),⟨br hk2,by omega,by omega⟩,rfl⟩ ?_
       repeat' apply ai
       all_goals first|exact qx|exact congrArg (fun r:List D=>D.i (dc (r.getD 0 (.i 0)))) (dF (l:=[0,100,101]) (by simp;omega))|exact aA _|exact aB _|exact(aA _).symm|exact(aB _).symm|rfl|exact qz)
     |(refine wq [] [] ⟨k2,(q+1),⟨hk2.kd.1,by omega,by omega⟩,rfl⟩ ?_
       repeat' apply ai
       all_goals first|exact qx|exact aA _|exact aB _|exact(aA _).symm|exact(aB _).symm|rfl|exact qz)
   refine sq (rT [0,2,3,37,63] (s2 (cd rfl (fun c63=> ?_) fun c63=> ?_)))
   · refine SW.regDE dQ mo [2,3] 3 (fun _=>none) rfl rfl (by kernel_rfl) ?_
     refine s3 (uJ (robj:=[(801,.box 92 [.d (.sl (aC l)),.d (.i (q+1))])]) (rl:=[(0,801)]) (bor:=[]) (news:=[]) (pQ l (q+1) (by omega) hl) rfl rfl rfl rfl ⟨bU rfl rfl rfl rfl (aW rfl (aD rfl (aD rfl aH)) trivial),rfl⟩ (by rintro _ ⟨n1,q6,hn1,hq6,rfl⟩;exact⟨rfl,.inl rfl,fun j hj=>nomatch hj⟩) (aJ ⟨rfl,trivial⟩) (fun j hj=>nomatch hj) ⟨_,.zero,q+1,aG4,⟨by omega,by omega⟩,rfl⟩ ?_)
     rintro _ ⟨n1,q6,hn1,hq6,rfl⟩
     refine s2 ?_
     refine ai (by refine⟨?_,?_,?_,?_⟩<;>first|trivial|rfl|exact aA _|(intro r hr;rw[aSs.1 hr];rfl)|(have:=hk2.kd.2;simp only[aSi,aSh];show(_+1)*48≤_;omega)) (s5 (ai (by kernel_rfl) ?_))
     first
     |(refine wq [] [] ⟨({k2 with held:=k2.held++[n1]}:aR),q6,⟨bp hk2 hn1,by omega,by omega⟩,rfl⟩ ?_
       repeat' apply ai
       all_goals first|exact qx|exact bP _ _|exact congrArg D.sl (bP _ _).symm|(simp[aA];done)|(rw[← bP];rfl)|exact aA _|exact aB _|exact(aA _).symm|exact(aB _).symm|rfl|exact qz)
     |(refine wq [] [] ⟨({k2 with inbox:=k2.inbox++[n1]}:aR),q6,⟨wD hk2 hn1,by omega,by omega⟩,rfl⟩ ?_
       repeat' apply ai
       all_goals first|exact qx|exact bP _ _|exact congrArg D.sl (bP _ _).symm|(simp[aA];done)|(rw[← bP];rfl)|exact aA _|exact aB _|exact(aA _).symm|exact(aB _).symm|rfl|exact qz)
     |(refine wq [] [] ⟨({k2 with marks:=k2.marks++[⟨aP l (q+1) 5,aP l (q+1+1) 4,aP l (q+1+1+1) 40⟩]}:aR),(q+1+1+1+1),⟨wE hk2,by omega,by omega⟩,rfl⟩ ?_
       repeat' apply ai
       all_goals first|exact qx|exact congrArg D.sl (eW _ _).symm|(simp[aB];done)|(rw[← eW];rfl)|exact aA _|exact aB _|exact(aA _).symm|exact(aB _).symm|rfl|exact qz)
     |(refine wq (σ':=[tP 2 2,tP 3 3,oB 801 92 [.d (.sl (aC l)),.d (.i ((q+1+1)))],oB 2 26 [.d (.i 0),.d (.i 0),.d (.i 0),.nil,.nil,.nil],oB 3 26 [.d (.i (({k2 with time:=([-1,999,1000,9]:List Int).getD (aP l (q+1) 4).toNat 0}:aR)).id),.d (.i (({k2 with time:=([-1,999,1000,9]:List Int).getD (aP l (q+1) 4).toNat 0}:aR)).time),.d (.i (({k2 with time:=([-1,999,1000,9]:List Int).getD (aP l (q+1) 4).toNat 0}:aR)).next),.own 900 (({k2 with time:=([-1,999,1000,9]:List Int).getD (aP l (q+1) 4).toNat 0}:aR)).held.length,.own 901 (({k2 with time:=([-1,999,1000,9]:List Int).getD (aP l (q+1) 4).toNat 0}:aR)).marks.length,.own 902 (({k2 with time:=([-1,999,1000,9]:List Int).getD (aP l (q+1) 4).toNat 0}:aR)).inbox.length],oR 900 29 5 (aE (({k2 with time:=([-1,999,1000,9]:List Int).getD (aP l (q+1) 4).toNat 0}:aR)).held),oR 901 39 3 (aL (({k2 with time:=([-1,999,1000,9]:List Int).getD (aP l (q+1) 4).toNat 0}:aR)).marks),oR 902 29 5 (aE (({k2 with time:=([-1,999,1000,9]:List Int).getD (aP l (q+1) 4).toNat 0}:aR)).inbox)]) [] [] ⟨({k2 with time:=([-1,999,1000,9]:List Int).getD (aP l (q+1) 4).toNat 0}:aR),(q+1+1),⟨bq hk2 ((by decide: ∀v∈([-1,999,1000,9]:List Int),R1 v) _ (dU (by simp;omega))),by omega,by omega⟩,rfl⟩ ?_
       repeat' apply ai
       all_goals first|exact qx|(rw[show(aP l (q+1) 4).toNat=(aP l (q+1) 4).toNat from rfl];exact congrArg (fun r:List D=>D.i (dc (r.getD 0 (.i 0)))) (dF (l:=[-1,999,1000,9]) (by simp;omega)))|exact aA _|exact aB _|exact(aA _).symm|exact(aB _).symm|rfl|exact qz)
     |(refine wq [] [] ⟨({k2 with next:=([0,100,101]:List Int).getD (aP l (q+1) 3).toNat 0}:aR),(q+1+1),⟨br hk2,by omega,by omega⟩,rfl⟩ ?_
       repeat' apply ai
       all_goals first|exact qx|exact congrArg (fun r:List D=>D.i (dc (r.getD 0 (.i 0)))) (dF (l:=[0,100,101]) (by simp;omega))|exact aA _|exact aB _|exact(aA _).symm|exact(aB _).symm|rfl|exact qz)
     |(refine wq [] [] ⟨k2,(q+1),⟨hk2.kd.1,by omega,by omega⟩,rfl⟩ ?_
       repeat' apply ai
       all_goals first|exact qx|exact aA _|exact aB _|exact(aA _).symm|exact(aB _).symm|rfl|exact qz)
   refine sq (rT [0,2,3,72] (s2 (cd rfl (fun c72=> ?_) fun c72=> ?_)))
   · refine rD [2,3] (s3 (bH (robj:=[(801,.box 92 [.d (.sl (aC (l))),.d (.i (q+1))])]) (rl:=[(0,801)]) (bor:=[]) (cP (l) (q+1) _ (by omega) hl) rfl rfl rfl rfl ⟨bU rfl rfl rfl rfl (cK rfl rfl (aW rfl (aD rfl (aD rfl aH)) trivial)),rfl⟩ rfl (.inl rfl) (aJ ⟨rfl,trivial⟩) (fun _ hj=>nomatch hj) (s1 (bH (robj:=[(801,.box 92 [.d (.sl (aC (l))),.d (.i (q+1+1))])]) (rl:=[(0,801)]) (bor:=[]) (cP (l) (q+1+1) _ (by omega) hl) rfl rfl rfl rfl ⟨bU rfl rfl rfl rfl (cK rfl rfl (aW rfl (aD rfl (aD rfl aH)) trivial)),rfl⟩ rfl (.inl rfl) (aJ ⟨rfl,trivial⟩) (fun _ hj=>nomatch hj) (s1 (bH (robj:=[(801,.box 92 [.d (.sl (aC (l))),.d (.i (q+1+1+1))])]) (rl:=[(0,801)]) (bor:=[]) (cP (l) (q+1+1+1) _ (by omega) hl) rfl rfl rfl rfl ⟨bU rfl rfl rfl rfl (cK rfl rfl (aW rfl (aD rfl (aD rfl aH)) trivial)),rfl⟩ rfl (.inl rfl) (aJ ⟨rfl,trivial⟩) (fun _ hj=>nomatch hj) ?_))))))
     refine s1 ?_
     refine s1 ?_
     refine ai (by refine⟨?_,?_,?_,?_⟩<;>first|trivial|rfl|exact aB _|(intro r hr;rw[aSs.1 hr];rfl)|(have:=hk2.kd.2;simp only[aSi,aSh];show(_+1)*24≤_;omega)) (s2 (ai (by kernel_rfl) ?_))
     first
     |(refine wq [] [] ⟨({k2 with held:=k2.held++[n1]}:aR),q6,⟨bp hk2 hn1,by omega,by omega⟩,rfl⟩ ?_
       repeat' apply ai
       all_goals first|exact qx|exact bP _ _|exact congrArg D.sl (bP _ _).symm|(simp[aA];done)|(rw[← bP];rfl)|exact aA _|exact aB _|exact(aA _).symm|exact(aB _).symm|rfl|exact qz)
     |(refine wq [] [] ⟨({k2 with inbox:=k2.inbox++[n1]}:aR),q6,⟨wD hk2 hn1,by omega,by omega⟩,rfl⟩ ?_
       repeat' apply ai
       all_goals first|exact qx|exact bP _ _|exact congrArg D.sl (bP _ _).symm|(simp[aA];done)|(rw[← bP];rfl)|exact aA _|exact aB _|exact(aA _).symm|exact(aB _).symm|rfl|exact qz)
     |(refine wq [] [] ⟨({k2 with marks:=k2.marks++[⟨aP l (q+1) 5,aP l (q+1+1) 4,aP l (q+1+1+1) 40⟩]}:aR),(q+1+1+1+1),⟨wE hk2,by omega,by omega⟩,rfl⟩ ?_
       repeat' apply ai
       all_goals first|exact qx|exact congrArg D.sl (eW _ _).symm|(simp[aB];done)|(rw[← eW];rfl)|exact aA _|exact aB _|exact(aA _).symm|exact(aB _).symm|rfl|exact qz)
     |(refine wq (σ':=[tP 2 2,tP 3 3,oB 801 92 [.d (.sl (aC l)),.d (.i ((q+1+1)))],oB 2 26 [.d (.i 0),.d (.i 0),.d (.i 0),.nil,.nil,.nil],oB 3 26 [.d (.i (({k2 with time:=([-1,999,1000,9]:List Int).getD (aP l (q+1) 4).toNat 0}:aR)).id),.d (.i (({k2 with time:=([-1,999,1000,9]:List Int).getD (aP l (q+1) 4).toNat 0}:aR)).time),.d (.i (({k2 with time:=([-1,999,1000,9]:List Int).getD (aP l (q+1) 4).toNat 0}:aR)).next),.own 900 (({k2 with time:=([-1,999,1000,9]:List Int).getD (aP l (q+1) 4).toNat 0}:aR)).held.length,.own 901 (({k2 with time:=([-1,999,1000,9]:List Int).getD (aP l (q+1) 4).toNat 0}:aR)).marks.length,.own 902 (({k2 with time:=([-1,999,1000,9]:List Int).getD (aP l (q+1) 4).toNat 0}:aR)).inbox.length],oR 900 29 5 (aE (({k2 with time:=([-1,999,1000,9]:List Int).getD (aP l (q+1) 4).toNat 0}:aR)).held),oR 901 39 3 (aL (({k2 with time:=([-1,999,1000,9]:List Int).getD (aP l (q+1) 4).toNat 0}:aR)).marks),oR 902 29 5 (aE (({k2 with time:=([-1,999,1000,9]:List Int).getD (aP l (q+1) 4).toNat 0}:aR)).inbox)]) [] [] ⟨({k2 with time:=([-1,999,1000,9]:List Int).getD (aP l (q+1) 4).toNat 0}:aR),(q+1+1),⟨bq hk2 ((by decide: ∀v∈([-1,999,1000,9]:List Int),R1 v) _ (dU (by simp;omega))),by omega,by omega⟩,rfl⟩ ?_
       repeat' apply ai
       all_goals first|exact qx|(rw[show(aP l (q+1) 4).toNat=(aP l (q+1) 4).toNat from rfl];exact congrArg (fun r:List D=>D.i (dc (r.getD 0 (.i 0)))) (dF (l:=[-1,999,1000,9]) (by simp;omega)))|exact aA _|exact aB _|exact(aA _).symm|exact(aB _).symm|rfl|exact qz)
     |(refine wq [] [] ⟨({k2 with next:=([0,100,101]:List Int).getD (aP l (q+1) 3).toNat 0}:aR),(q+1+1),⟨br hk2,by omega,by omega⟩,rfl⟩ ?_
       repeat' apply ai
       all_goals first|exact qx|exact congrArg (fun r:List D=>D.i (dc (r.getD 0 (.i 0)))) (dF (l:=[0,100,101]) (by simp;omega))|exact aA _|exact aB _|exact(aA _).symm|exact(aB _).symm|rfl|exact qz)
     |(refine wq [] [] ⟨k2,(q+1),⟨hk2.kd.1,by omega,by omega⟩,rfl⟩ ?_
       repeat' apply ai
       all_goals first|exact qx|exact aA _|exact aB _|exact(aA _).symm|exact(aB _).symm|rfl|exact qz)
   refine sk ?_
   first
   |(refine wq [] [] ⟨({k2 with held:=k2.held++[n1]}:aR),q6,⟨bp hk2 hn1,by omega,by omega⟩,rfl⟩ ?_
     repeat' apply ai
     all_goals first|exact qx|exact bP _ _|exact congrArg D.sl (bP _ _).symm|(simp[aA];done)|(rw[← bP];rfl)|exact aA _|exact aB _|exact(aA _).symm|exact(aB _).symm|rfl|exact qz)
   |(refine wq [] [] ⟨({k2 with inbox:=k2.inbox++[n1]}:aR),q6,⟨wD hk2 hn1,by omega,by omega⟩,rfl⟩ ?_
     repeat' apply ai
     all_goals first|exact qx|exact bP _ _|exact congrArg D.sl (bP _ _).symm|(simp[aA];done)|(rw[← bP];rfl)|exact aA _|exact aB _|exact(aA _).symm|exact(aB _).symm|rfl|exact qz)
   |(refine wq [] [] ⟨({k2 with marks:=k2.marks++[⟨aP l (q+1) 5,aP l (q+1+1) 4,aP l (q+1+1+1) 40⟩]}:aR),(q+1+1+1+1),⟨wE hk2,by omega,by omega⟩,rfl⟩ ?_
     repeat' apply ai
     all_goals first|exact qx|exact congrArg D.sl (eW _ _).symm|(simp[aB];done)|(rw[← eW];rfl)|exact aA _|exact aB _|exact(aA _).symm|exact(aB _).symm|rfl|exact qz)
   |(refine wq (σ':=[tP 2 2,tP 3 3,oB 801 92 [.d (.sl (aC l)),.d (.i ((q+1+1)))],oB 2 26 [.d (.i 0),.d (.i 0),.d (.i 0),.nil,.nil,.nil],oB 3 26 [.d (.i (({k2 with time:=([-1,999,1000,9]:List Int).getD (aP l (q+1) 4).toNat 0}:aR)).id),.d (.i (({k2 with time:=([-1,999,1000,9]:List Int).getD (aP l (q+1) 4).toNat 0}:aR)).time),.d (.i (({k2 with time:=([-1,999,1000,9]:List Int).getD (aP l (q+1) 4).toNat 0}:aR)).next),.own 900 (({k2 with time:=([-1,999,1000,9]:List Int).getD (aP l (q+1) 4).toNat 0}:aR)).held.length,.own 901 (({k2 with time:=([-1,999,1000,9]:List Int).getD (aP l (q+1) 4).toNat 0}:aR)).marks.length,.own 902 (({k2 with time:=([-1,999,1000,9]:List Int).getD (aP l (q+1) 4).toNat 0}:aR)).inbox.length],oR 900 29 5 (aE (({k2 with time:=([-1,999,1000,9]:List Int).getD (aP l (q+1) 4).toNat 0}:aR)).held),oR 901 39 3 (aL (({k2 with time:=([-1,999,1000,9]:List Int).getD (aP l (q+1) 4).toNat 0}:aR)).marks),oR 902 29 5 (aE (({k2 with time:=([-1,999,1000,9]:List Int).getD (aP l (q+1) 4).toNat 0}:aR)).inbox)]) [] [] ⟨({k2 with time:=([-1,999,1000,9]:List Int).getD (aP l (q+1) 4).toNat 0}:aR),(q+1+1),⟨bq hk2 ((by decide: ∀v∈([-1,999,1000,9]:List Int),R1 v) _ (dU (by simp;omega))),by omega,by omega⟩,rfl⟩ ?_
     repeat' apply ai
     all_goals first|exact qx|(rw[show(aP l (q+1) 4).toNat=(aP l (q+1) 4).toNat from rfl];exact congrArg (fun r:List D=>D.i (dc (r.getD 0 (.i 0)))) (dF (l:=[-1,999,1000,9]) (by simp;omega)))|exact aA _|exact aB _|exact(aA _).symm|exact(aB _).symm|rfl|exact qz)
   |(refine wq [] [] ⟨({k2 with next:=([0,100,101]:List Int).getD (aP l (q+1) 3).toNat 0}:aR),(q+1+1),⟨br hk2,by omega,by omega⟩,rfl⟩ ?_
     repeat' apply ai
     all_goals first|exact qx|exact congrArg (fun r:List D=>D.i (dc (r.getD 0 (.i 0)))) (dF (l:=[0,100,101]) (by simp;omega))|exact aA _|exact aB _|exact(aA _).symm|exact(aB _).symm|rfl|exact qz)
   |(refine wq [] [] ⟨k2,(q+1),⟨hk2.kd.1,by omega,by omega⟩,rfl⟩ ?_
     repeat' apply ai
     all_goals first|exact qx|exact aA _|exact aB _|exact(aA _).symm|exact(aB _).symm|rfl|exact qz)
 rintro s ⟨k3,q7,⟨hk3,hq7⟩,rfl⟩
 refine sq (rT [2] (s2 (rt (cS [(.t 0,.v k3.V),oB 801 92 [.d (.sl (aC l)),.d (.i (q7))]] ⟨k3,q7,hk3,⟨by omega,by omega⟩,rfl⟩ (rq [] [900,901,902] rfl ?_)))))
 repeat' apply ai
 all_goals first|exact qx|exact aA _|exact aB _|exact(aA _).symm|exact(aB _).symm|rfl|exact qz
set_option maxHeartbeats 800000 in
theorem ja (l:List UInt8) (hl:l.length≤140737488355328):tn 23 1 [tD 0 (.sl (aC l))] (fun s=> ∃(k:aR) (x:List UInt8),(KD k∧x.length≤150)∧s=[tV 0 (.tup [.agg [.d (.i (k).id),.d (.i (k).time),.d (.i (k).next),.d (.sl (aE (k).held)),.d (.sl (aL (k).marks)),.d (.sl (aE (k).inbox))],.c (.d (.s x))])]):=by
 have hl2: (l.take 2000).length≤2000:=by simp;omega
 refine uo Tryz.func23 rfl (sq (rT [0,2] (s2 (sq (rT [2,4] (s1 (pq [(0,801)] (vh l hl) rfl rfl rfl rfl rfl rfl rfl (fun j hj=>by(obtain rfl:j=0:=by simpa[nE,bX,iH] using hj);rfl) (s1 (sq (rE [2,4,5] (s1 (cU (robj:=[(801,.box 92 [.d (.sl (aC (l.take 2000))),.d (.i (0))])]) (rl:=[]) (bor:=[]) (news:=[]) (tj (l.take 2000) (0) (by omega) hl2) rfl rfl rfl rfl ⟨bU rfl rfl rfl rfl (aW rfl (aD rfl (aD rfl aH)) trivial),rfl⟩ (by rintro _ ⟨k,q,hk,hq,rfl⟩;exact⟨rfl,.inl rfl,fun j hj=>nomatch hj⟩) (aJ ⟨rfl,trivial⟩) (fun j hj=>nomatch hj) ?_))))))))))))
 rintro _ ⟨k,q,hk,hq,rfl⟩
 refine s2 (sq (SW.regDE dQ mo [2,3] 3 (fun _=>none) rfl rfl (by kernel_rfl) ?_))
 refine s3 (uJ (robj:=[(801,.box 92 [.d (.sl (aC (l.take 2000))),.d (.i (q))])]) (rl:=[(0,801)]) (bor:=[]) (news:=[]) (ao (l.take 2000) (q) k (by omega) hl2 hk) rfl rfl rfl rfl ⟨bU rfl rfl rfl rfl (cY rfl (aD rfl (aD rfl (aD rfl (aD rfl (aD rfl (aD rfl aH)))))) (aW rfl (aD rfl (aD rfl aH)) trivial)),rfl⟩ (by rintro _ ⟨x,q9,hx,rfl⟩;exact⟨rfl,.inl rfl,fun j hj=>nomatch hj⟩) (aJ ⟨rfl,trivial⟩) (fun j hj=>nomatch hj) ⟨_,[],q,⟨by omega,by omega,by simp⟩,rfl⟩ ?_)
 rintro _ ⟨x,q9,hx,rfl⟩
 exact s4 (ai (by kernel_rfl) (rt (cS [tV 0 (.tup [.agg [.d (.i (k).id),.d (.i (k).time),.d (.i (k).next),.d (.sl (aE (k).held)),.d (.sl (aL (k).marks)),.d (.sl (aE (k).inbox))],.c (.d (.s x))])] ⟨k,x,⟨hk,hx.2.2⟩,rfl⟩ (rq [] [] rfl qz))))
end Go.Proofs.YtcbjphphppaoiaaGreatDoor
namespace Go.Ab
open Int renaming toNat_natCast→aSd
open List renaming length_append→aSe,length_nil→aSh,length_cons→aSi,length_take→aSk,getD_eq_getElem?_getD→aSl,getElem?_eq_some_iff→aSm,getElem?_eq_getElem→aSn,range→aSp,mem_map→aSq,length_drop→aSr,mem_singleton→aSs,all_eq_true→aSu,take_length→aSv,mem_cons→aSw
open Nat renaming le_of_ble_eq_true→aSf,zero_le→aSj,le_refl→aSo,add_mul→aSt
open Bool renaming and_eq_true→aSg
open Go Go.RowKit
set_option linter.unusedVariables false
set_option linter.unusedSimpArgs false
theorem yc (k:aR) (n:bB): (hP k n).1.time=k.time∧(hP k n).1.next=k.next:=by
 unfold hP
 repeat' split
 all_goals exact⟨rfl,rfl⟩
theorem aF7 (k:aR) (w:List UInt8) (n:Int):k.time≤(kP k w n).1.time∧k.next≤(kP k w n).1.next:=by
 unfold kP
 split
 · rename_i h
   simp only[aSg,decide_eq_true_eq] at h
   exact⟨Int.le_of_lt h.2,Int.le_refl _⟩
 · split
   · rename_i h
     simp only[aSg,decide_eq_true_eq] at h
     exact⟨Int.le_refl _,Int.le_of_lt h.2⟩
   · exact⟨Int.le_refl _,Int.le_refl _⟩
theorem aDh {k:aR} (hn:1≤k.next∧k.next≤100) (w:List UInt8) (n:bB):k.time≤(fN k w n).1.time∧k.next≤(fN k w n).1.next:=by
 unfold fN
 split
 · obtain⟨h1,h2⟩:=yc {k with next:=wrap64 (k.next+1)} n
   rw[h1,h2]
   refine⟨Int.le_refl _,?_⟩
   show k.next≤wrap64 (k.next+1)
   rw[aF (by omega)];omega
 · split
   · obtain⟨h1,h2⟩:=yc k n
     rw[h1,h2];exact⟨Int.le_refl _,Int.le_refl _⟩
   · repeat' split
     all_goals exact⟨Int.le_refl _,Int.le_refl _⟩
theorem aDi (k:aR) (w:List UInt8) (m:bZ):k.time≤(hZ k w m).1.time∧k.next≤(hZ k w m).1.next:=by
 unfold hZ
 repeat' split
 all_goals exact⟨Int.le_refl _,Int.le_refl _⟩
theorem aDj {k:aR} (hn:1≤k.next∧k.next≤100) (rec:List UInt8):k.time≤(fA k rec).1.time∧k.next≤(fA k rec).1.next:=by
 unfold fA
 repeat' split
 all_goals first|exact aF7 _ _ _|exact aDh hn _ _|exact aDi _ _ _|exact⟨Int.le_refl _,Int.le_refl _⟩
theorem aF8 {k:aR} {rec:List UInt8} (h: (bY k rec).2=true):dS k=true∧(fA k rec).2=true∧(bY k rec).1=(fA k rec).1∧dS (fA k rec).1=true:=by
 unfold bY at h ⊢
 split at h
 · rename_i hk
   rw[if_pos hk]
   unfold kY at h ⊢
   split at h
   · rename_i hx
     rw[if_pos hx]
     simp only[aSg] at hx
     exact⟨hk,hx.1,rfl,hx.2⟩
   · cases h
 · cases h
theorem aF9 {k:aR} {rec:List UInt8} (hk:dS k=true) (h: (bY k rec).2=false): (bY k rec).1=k:=by
 rw[xQ hk] at h ⊢
 unfold kY at h ⊢
 split
 · rename_i hx;rw[if_pos hx] at h;cases h
 · rfl
theorem aGa {k:aR} {rec:List UInt8} (h: (bY k rec).2=true): (bY k rec).1.id=k.id∧k.time≤(bY k rec).1.time∧k.next≤(bY k rec).1.next:=by
 obtain⟨hk,h1,h2,h3⟩:=aF8 h
 obtain⟨⟨_,_,hn,_⟩,_⟩:=(bV k).1 hk
 exact⟨xy h,by rw[h2];exact aDj hn rec⟩
end Go.Ab
namespace Go.Proofs.YtcbjphphppaoiaaGreatDoor
open Int renaming toNat_natCast→aSd
open List renaming length_append→aSe,length_nil→aSh,length_cons→aSi,length_take→aSk,getD_eq_getElem?_getD→aSl,getElem?_eq_some_iff→aSm,getElem?_eq_getElem→aSn,range→aSp,mem_map→aSq,length_drop→aSr,mem_singleton→aSs,all_eq_true→aSu,take_length→aSv,mem_cons→aSw
open Nat renaming le_of_ble_eq_true→aSf,zero_le→aSj,le_refl→aSo,add_mul→aSt
open Bool renaming and_eq_true→aSg
open Go Go.Ab Go.RowKit
set_option linter.unusedVariables false
set_option linter.unusedSimpArgs false
set_option maxRecDepth 9000
theorem aDk {B:Nat} {ds:List D} (h:uA tab B 8 22 ds): ∃l:List UInt8,ds=[.sl (aC l)]∧l.length≤B:=by
 obtain⟨rows,rfl,h1,h2⟩:=h
 have h3: ∀r∈rows,r=[.u (Ab.byteOf r).toNat]:=fun r hr=>by
  obtain⟨n,rfl,hn⟩:=h2 r hr
  simp[Lit.wf,IntKind.min,IntKind.max,IntKind.signed,IntKind.bits] at hn
  simp[Ab.byteOf]
  omega
 refine⟨iJ rows,?_,?_⟩
 · congr 2
   unfold iJ aC
   rw[List.map_map]
   conv=>lhs;rw[← List.map_id rows]
   exact List.map_congr_left fun r hr=>h3 r hr
 have h1:rows.length*1≤B:=h1
 simpa[iJ] using h1
set_option maxHeartbeats 1600000 in
theorem nl (l:List UInt8) (hl:l.length≤140737488355328):Sp 5 1 [tD 0 (.sl (aC l))] [tB 0 true]:=by
 refine sb Tryz.func5 rfl (sq (rT [0,36,37,38,39,42,43,44,45,52,53,54,64,65,66,67,68,71,72,73,74,75,78,79,80,81,82] (s1 (sq (sq (rT [0,12,36,37,38,39,42,43,44,45,52,53,54,64,65,66,67,68,71,72,73,74,75,78,79,80,81,82] (s3 (cd rfl (fun c12=> ?_) fun c12=> ?_))))))))
 · refine sq (rT [2] (s1 (rt (bQ rfl ?_))))
   rfl
 refine sk (sq (rE [3,4,36,37,38,39,42,43,44,45,52,53,54,64,65,66,67,68,71,72,73,74,75,78,79,80,81,82] (s1 (cU (robj:=[]) (rl:=[]) (bor:=[]) (news:=[]) (ja l hl) rfl rfl rfl rfl ⟨cK rfl rfl trivial,rfl⟩ (by rintro _ ⟨k,x,hk,rfl⟩;exact⟨rfl,.inl rfl,fun j hj=>nomatch hj⟩) (fun p hp=>nomatch hp) (fun j hj=>nomatch hj) ?_))))
 rintro _ ⟨k,x,⟨hk,hx⟩,rfl⟩
 have hkb:=hk.kb
 have hxb:KB (bY k x).1:=kc.seven.big
 refine s6 (sq (rT [3,4,5,6,36,37,38,39,42,43,44,45,52,53,54,64,65,66,67,68,71,72,73,74,75,78,79,80,81,82] (s2 (xp (aDd k x hkb (by omega)) (ai rfl ?_)))))
 refine s6 (sq (rT [3,4,5,6,7,36,37,38,39,42,43,44,45,52,53,54,64,65,66,67,68,71,72,73,74,75,78,79,80,81,82] (s1 (xp (lR k hkb.1 hkb.2.1 hkb.2.2) (ai rfl ?_)))))
 refine s1 (sq (rT [3,5,6,7,8,9,36,37,38,39,42,43,44,45,52,53,54,64,65,66,67,68,71,72,73,74,75,78,79,80,81,82] (s2 (xp (uy k x hkb (by omega)) (ai rfl ?_)))))
 refine s6 (sq (sq (rT [3,7,8,9,46,52,53,54,64,65,66,67,68,71,72,73,74,75,78,79,80,81,82] (s4 (y2 (xc (fun h=>cq (bY k x).1 hxb) (ai rfl (ai rk ?_))))))))
 refine y1 (ai pk (s1 (y1 (xc (fun h=>(rB k hkb.2.1 hkb.2.2)) (ai rfl (ai rk ?_))))))
 refine y2 (ai pk (cd rfl (fun c46=> ?_) fun c46=> ?_))
 · exact absurd c46 (by simp[gb])
 refine sk (sq (sq (rT [3,8,9,48,52,53,54,64,65,66,67,68,71,72,73,74,75,78,79,80,81,82] (s2 (cd rfl (fun c48=> ?_) fun c48=> ?_)))))
 · have hz:bY k x=(.zero,false):=if_neg (by simpa using c48)
   refine sq (rT [2] (s3 (y3 (ai pk (s1 (rt (bQ rfl (congrArg D.b ?_))))))))
   rw[hz];rfl
 have hok:dS k=true:=by simpa using c48
 refine sk (sq (sq (rT [3,8,57,64,65,66,67,68,71,72,73,74,75,78,79,80,81,82] (s2 (cd rfl (fun c57=> ?_) fun c57=> ?_)))))
 · have hsame: (bY k x).1=k:=aF9 hok (by simpa using c57)
   refine sq (rT [2] (s2 (xp (cq k hkb) (ai (by rw[hsame];rfl) ?_))))
   refine s1 (rt (bQ rfl ?_))
   rfl
 have hdid: (bY k x).2=true:=by simpa using c57
 have hlaw:=aGa hdid
 have hok2:=ki hdid
 refine sk (sq (rT [2] (s1 (xp (rB (bY k x).1 hxb.2.1 hxb.2.2) (ai rfl ?_)))))
 refine s1 (y4 (y1 (ai pk (s1 (y4 (y1 (ai pk (s1 (y4 (y1 (ai pk (s1 (rt (bQ rfl (congrArg D.b ?_)))))))))))))))
 simp[gb,hok2,hlaw.1,hlaw.2.1,hlaw.2.2]
end Go.Proofs.YtcbjphphppaoiaaGreatDoor
namespace Go.Ab
open Int renaming toNat_natCast→aSd
open List renaming length_append→aSe,length_nil→aSh,length_cons→aSi,length_take→aSk,getD_eq_getElem?_getD→aSl,getElem?_eq_some_iff→aSm,getElem?_eq_getElem→aSn,range→aSp,mem_map→aSq,length_drop→aSr,mem_singleton→aSs,all_eq_true→aSu,take_length→aSv,mem_cons→aSw
open Nat renaming le_of_ble_eq_true→aSf,zero_le→aSj,le_refl→aSo,add_mul→aSt
open Bool renaming and_eq_true→aSg
open Go Go.RowKit
set_option linter.unusedVariables false
theorem aLr {P:Program} {w w':World} {name:String} {cs:Array Value} (h:w.var? P name=some cs) (hf:Fr (fun _=>False) w w'):w'.var? P name=some cs:=by
 unfold World.var? at h ⊢
 cases hg:P.globalNamed name with
 |none=>rw[hg] at h;cases h
 |some g=>
  rw[hg] at h
  simp only[Option.bind_some] at h ⊢
  cases hh:w.heap[g]? with
  |none=>rw[hh] at h;cases h
  |some o=>
   have hlt:g<w.heap.size:=(Array.getElem?_eq_some_iff.1 hh).1
   rw[hf.block g hlt (fun h=>h),hh]
   rw[hh] at h
   exact h
theorem aNn {P:Program} {w:World} {name:String} {g:Nat} {cs:Array Value} {t:TypeId} {v:Value} (hg:P.globalNamed name=some g) (hh:w.heap[g]? =some (.cells cs t)) (hs:cs.size=1) (hc:w.cell? ⟨g,0,none⟩=some v):w.var? P name=some #[v]:=by
 have e:cs= #[v]:=by
  have h1:w.cell? ⟨g,0,none⟩=cs[0]?:=by rw[cell_of_row w g 0 cs t (0,0) hh]
  rw[hc] at h1
  apply Array.ext
  · simpa using hs
  · intro i h2 h3
    have:i=0:=by have:i<1:=by simpa using h3
                 omega
    subst this
    rw[Array.getElem?_eq_getElem h2] at h1
    exact(Option.some.inj h1).symm
 subst e
 unfold World.var?
 rw[hg]
 simp only[Option.bind_some]
 rw[hh]
theorem aSc {P:Program} {w:World} (h1:Lib.TabIs P w "internal/strconv.uint64pow10" .u64 Lib.pow10Tab) (h2: ∃m,w.var? P "internal/bytealg.MaxLen" =some #[.int .i64 m]):GB P w fun _=>False:=fun w' hf=>⟨aLr h1 hf,h2.imp fun m hm=>aLr hm hf⟩
end Go.Ab
