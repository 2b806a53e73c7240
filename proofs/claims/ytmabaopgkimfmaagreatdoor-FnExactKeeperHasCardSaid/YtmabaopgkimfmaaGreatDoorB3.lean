/- Plain functions, and contracts of the functions that the law reaches. -/
import Derived.Shelf.Vars
import Derived.Stop.LaidErr
import Derived.MakeChecks
import Derived.Test.YtmabaopgkimfmaaGreatDoorB2
set_option maxHeartbeats 12800000
namespace Go.Proofs.YtmabaopgkimfmaaGreatDoor
open Int renaming toNat_natCast→aNf
open Nat renaming le_of_ble_eq_true→aNg,zero_le→aNj,le_refl→aNp
open List renaming length_append→aNh,length_cons→aNk,length_nil→aNl,getD_eq_getElem?_getD→aNm,length_take→aNn,getElem?_eq_getElem→aNo,getElem?_eq_some_iff→aNq,mem_map→aNr,mem_cons→aNs,all_eq_true→aNt,range→aNu,length_drop→aNv
open Bool renaming and_eq_true→aNi
open Go Go.Ab Go.RowKit
set_option linter.unusedVariables false
set_option linter.unusedSimpArgs false
set_option maxRecDepth 9000
theorem kb (k:aN) (rec:List UInt8) (hok:aX k=true) (hrec:rec.length≤900000):Sp 101 2 [tV 0 k.V,tD 1 (.s rec)] [tV 0 (.tup [.agg [.d (.i ((iX k rec).1).id),.d (.b ((iX k rec).1).up),.d (.s ((iX k rec).1).log),.d (.i ((iX k rec).1).forced),.d (.sl (aY ((iX k rec).1).halves))],.c (.d (.b (iX k rec).2))])]:=by
 have hlg:=cJ hok
 have hkb:=iF hok
 have hrs:=iY (k:=(bY k).1)
 have hsk:cO k.log k.forced=true:=(cK hlg.1).2.1
 refine sb Tryz.func101 rfl (sq (rT [1,2,4] (s3 (sq (rT [1,2,4,6] (s5 (xp (oQ k.id k.log (by omega)) (ai rfl ?_))))))))
 refine s6 (sq (sq (rT [1,2,4,6,9] (s2 (xp (ak (bY k).1 rec hkb hrec) (ai rfl ?_))))))
 refine s6 (sq (rT [1,2,4,6,30] (s2 (cd rfl (fun c30=> ?_) fun c30=> ?_))))
 · have h1: ¬(cR (bY k).1 rec).2=true:=fE c30
   refine sq (rT [4,5] (s3 (rt ?_)))
   have hr:=vz h1
   refine bG rfl rfl ?_
   rw[hr]
   rfl
 have h1: (cR (bY k).1 rec).2=true:=dD c30
 refine sk (sq (rT [1,2,4,6,10,11] (s3 (xp (xD k.log k.forced rec (by omega) hrec) (ai rfl ?_)))))
 refine s6 (sq (sq (rT [1,2,4,6,10,11,40] (s2 (cd rfl (fun c40=> ?_) fun c40=> ?_)))))
 · have h2: ¬(cC k.log k.forced rec).2=true:=fE c40
   refine sq (rD [1,2,4,10,12,13] (s3 (xp (qJ (bY k).1 hkb) (ai rfl ?_))))
   refine xp (pF k.log k.forced (gG (bY k).1) (by omega) (by omega) (fun r hr=>by have:=hrs.2 r hr;omega)) (ai rfl ?_)
   refine s6 (ai (by kernel_rfl) (sq (sq (rT [1,2,4,10,12,50] (s2 (cd rfl (fun c50=> ?_) fun c50=> ?_))))))
   · have h3: ¬(cM k).2=true:=fE c50
     refine sq (rT [4,5] (s3 (rt ?_)))
     have hr:=jz h1 h2 h3
     refine bG rfl rfl ?_
     rw[hr]
     rfl
   have h3: (cM k).2=true:=dD c50
   refine sk (rT [2,4,10,11] (s2 (xp (xD (cM k).1.1 (cM k).1.2 rec (sH (by omega)) hrec) (ai rfl ?_))))
   refine s5 (sq (sq (rT [2,4,10,59] (s2 (cd rfl (fun c59=> ?_) fun c59=> ?_)))))
   · refine sq (rT [4,5] (s3 (rt ?_)))
     first
     |exact absurd (c40.symm.trans c59) (by decide)
     |(have hr:=gv h1 h2 h3 (fE c59)
       refine bG rfl rfl ?_
       rw[hr]
       rfl)
   refine sk (sq (rT [2,4] (s3 (sq (rT [4,5] (s3 (rt ?_)))))))
   first
   |(have hr:=gw h1 h2 h3 (dD c59)
     refine bG rfl rfl ?_
     rw[hr]
     rfl)
   |(have hr:=nA h1 h2
     refine bG rfl rfl ?_
     rw[hr]
     rfl)
 have h2: (cC k.log k.forced rec).2=true:=dD c40
 refine sk (sq (sq (rT [2,4,10,59] (s2 (cd rfl (fun c59=> ?_) fun c59=> ?_)))))
 · refine sq (rT [4,5] (s3 (rt ?_)))
   first
   |exact absurd (c40.symm.trans c59) (by decide)
   |(have hr:=gv h1 h2 h3 (fE c59)
     refine bG rfl rfl ?_
     rw[hr]
     rfl)
 refine sk (sq (rT [2,4] (s3 (sq (rT [4,5] (s3 (rt ?_)))))))
 first
 |(have hr:=gw h1 h2 h3 (dD c59)
   refine bG rfl rfl ?_
   rw[hr]
   rfl)
 |(have hr:=nA h1 h2
   refine bG rfl rfl ?_
   rw[hr]
   rfl)
theorem uC (k:aN) (hl:k.log.length≤140737488355328):Sp 75 1 [tV 0 k.V] [tV 0 ((eT k).V)]:=by
 refine sb Tryz.func75 rfl (sq (rT [1,2] (s2 (sq (rT [1,2] (s2 (xp (tF k.log k.forced hl) (ai rfl ?_))))))))
 refine s2 (sq (rT [2] (s2 (rt (bG rfl rfl ?_)))))
 rfl
theorem sN (k:aN) (rec:List UInt8) (hok:aX k=true) (hrec:rec.length≤900000):Sp 90 2 [tV 0 k.V,tD 1 (.s rec)] [tV 0 (.tup [.agg [.d (.i ((cP k rec).1).id),.d (.b ((cP k rec).1).up),.d (.s ((cP k rec).1).log),.d (.i ((cP k rec).1).forced),.d (.sl (aY ((cP k rec).1).halves))],.c (.d (.b (cP k rec).2))])]:=by
 have hlg:=cJ hok
 have hkb:=iF hok
 have hrs:=iY (k:=(bY k).1)
 have hsk:cO k.log k.forced=true:=(cK hlg.1).2.1
 have hll:=od (k:=k) (rec:=rec) (by omega)
 refine sb Tryz.func90 rfl (sq (rT [1,2,4] (s3 (sq (rT [2,4,6,7] (s2 (xp (kb k rec hok hrec) (ai rfl ?_))))))))
 refine s6 (sq (sq (rT [2,4,6,15] (s2 (cd rfl (fun c15=> ?_) fun c15=> ?_)))))
 · have h1: ¬(iX k rec).2=true:=fE c15
   have hr:=oe h1
   refine sq (rT [4,5] (s1 (xp (fJ k (⟨by omega,fun x hx=>by have:=hlg.2.2.2.2.2 x hx;omega⟩)) (ai rfl ?_))))
   refine s2 (rt (bG rfl rfl ?_))
   rw[hr]
   rfl
 have h1: (iX k rec).2=true:=dD c15
 have hr:=ka h1
 refine sk (sq (rT [4,5] (s1 (xp (uC (iX k rec).1 hll.1) (ai rfl ?_)))))
 refine xp (fJ (eT (iX k rec).1) (by have e: (eT (iX k rec).1).halves=k.halves:=hll.2;rw[e];exact(⟨by omega,fun x hx=>by have:=hlg.2.2.2.2.2 x hx;omega⟩))) (ai rfl ?_)
 refine s2 (rt (bG rfl rfl ?_))
 rw[hr]
 rfl
theorem qM (k:aN) (rec:List UInt8) (fc:Bool) (hok:aX k=true) (hrec:rec.length≤900000):Sp 88 3 [tV 0 k.V,tD 1 (.s rec),tB 2 fc] [tV 0 (.tup [.agg [.d (.i ((kC k rec fc).1).id),.d (.b ((kC k rec fc).1).up),.d (.s ((kC k rec fc).1).log),.d (.i ((kC k rec fc).1).forced),.d (.sl (aY ((kC k rec fc).1).halves))],.c (.d (.b (kC k rec fc).2))])]:=by
 have hlg:=cJ hok
 have hkb:=iF hok
 have hrs:=iY (k:=(bY k).1)
 have hsk:cO k.log k.forced=true:=(cK hlg.1).2.1
 have hpl:=sH (k:=k) (by omega)
 refine sb Tryz.func88 rfl (sq (rT [1,2,3,6] (s3 (sq (rT [1,2,3,6,8] (s1 (xp (jX k (by omega)) (ai rfl ?_))))))))
 refine s6 (sq (rT [1,2,3,6,8,11] (s2 (xp (al (bY k).1 rec hkb hrec) (ai rfl ?_)))))
 refine s6 (sq (sq (rT [1,2,3,6,8,26] (s2 (cd rfl (fun c26=> ?_) fun c26=> ?_)))))
 · have h1: ¬(cR (bY k).1 rec).2=true:=by rw[← gr];exact fE c26
   refine sq (rT [6,7] (s3 (rt ?_)))
   have hr:kC k rec fc=(k,false):=by rw[kC,vz h1];rfl
   refine bG rfl rfl ?_
   rw[hr]
   rfl
 have h1: (cR (bY k).1 rec).2=true:=by rw[← gr];exact dD c26
 refine sk (sq (rT [1,2,3,6,8,12,13] (s3 (xp (xE k.log k.forced rec (by omega) hrec) (ai rfl ?_)))))
 refine s6 (sq (sq (rT [1,2,3,6,8,12,13,36] (s2 (cd rfl (fun c36=> ?_) fun c36=> ?_)))))
 · have h2: ¬(cC k.log k.forced rec).2=true:=fE c36
   refine sq (rD [1,2,3,6,12] (s3 (xp (xF (bY k).1 hkb) (ai rfl ?_))))
   refine xp (uW k.log k.forced (gG (bY k).1) (by omega) (by omega) (fun r hr=>by have:=hrs.2 r hr;omega)) (ai rfl ?_)
   refine s4 (ai (by kernel_rfl) (rT [2,3,6,12,13] (s2 (xp (xE (cM k).1.1 (cM k).1.2 rec hpl hrec) (ai rfl ?_)))))
   refine s5 (sq (sq (rT [2,3,6,12,52] (s2 (cd rfl (fun c52=> ?_) fun c52=> ?_)))))
   · refine sq (rT [6,7] (s3 (rt ?_)))
     first
     |exact absurd (c36.symm.trans c52) (by decide)
     |(have hr:=(show kC k rec fc=(k,false) by rw[kC,oc hsk h1 h2 (fE c52)];rfl)
       refine bG rfl rfl ?_
       rw[hr]
       rfl)
   refine sk (sq (sq (rT [3,6,12,54] (s1 (cd rfl (fun c54=> ?_) fun c54=> ?_)))))
   · obtain rfl:=c54
     refine rT [3,6,12] (s1 ?_)
     first
     |refine ck (jT (cC (cM k).1.1 (cM k).1.2 rec).1.1 (cC (cM k).1.1 (cM k).1.2 rec).1.2 (mI hpl)) rfl rfl rfl rfl rfl rfl rfl rfl ?_
     |refine ck (jT (cC k.log k.forced rec).1.1 (cC k.log k.forced rec).1.2 (mI (by omega))) rfl rfl rfl rfl rfl rfl rfl rfl ?_
     refine s1 (sq (rT [3,6] (s3 (sq (rT [6,7] (s3 (rt ?_)))))))
     have hlr:iX k rec=(kR k (cC (cM k).1.1 (cM k).1.2 rec).1,true)∨iX k rec=(kR k (cC k.log k.forced rec).1,true):=by
      first
      |exact .inl (lS hsk h1 h2 (dD c52))
      |exact .inr (nA h1 h2)
     first
     |(have hr:=lS hsk h1 h2 (dD c52)
       refine bG rfl rfl ?_
       rw[kC,hr]
       rfl)
     |(have hr:=nA h1 h2
       refine bG rfl rfl ?_
       rw[kC,hr]
       rfl)
   obtain rfl:=c54
   refine sk (sq (rT [3,6] (s3 (sq (rT [6,7] (s3 (rt ?_)))))))
   have hlr:iX k rec=(kR k (cC (cM k).1.1 (cM k).1.2 rec).1,true)∨iX k rec=(kR k (cC k.log k.forced rec).1,true):=by
    first
    |exact .inl (lS hsk h1 h2 (dD c52))
    |exact .inr (nA h1 h2)
   first
   |(have hr:=lS hsk h1 h2 (dD c52)
     refine bG rfl rfl ?_
     rw[kC,hr]
     rfl)
   |(have hr:=nA h1 h2
     refine bG rfl rfl ?_
     rw[kC,hr]
     rfl)
 have h2: (cC k.log k.forced rec).2=true:=dD c36
 refine sk (sq (sq (rT [2,3,6,12,52] (s2 (cd rfl (fun c52=> ?_) fun c52=> ?_)))))
 · refine sq (rT [6,7] (s3 (rt ?_)))
   first
   |exact absurd (c36.symm.trans c52) (by decide)
   |(have hr:=(show kC k rec fc=(k,false) by rw[kC,oc hsk h1 h2 (fE c52)];rfl)
     refine bG rfl rfl ?_
     rw[hr]
     rfl)
 refine sk (sq (sq (rT [3,6,12,54] (s1 (cd rfl (fun c54=> ?_) fun c54=> ?_)))))
 · obtain rfl:=c54
   refine rT [3,6,12] (s1 ?_)
   first
   |refine ck (jT (cC (cM k).1.1 (cM k).1.2 rec).1.1 (cC (cM k).1.1 (cM k).1.2 rec).1.2 (mI hpl)) rfl rfl rfl rfl rfl rfl rfl rfl ?_
   |refine ck (jT (cC k.log k.forced rec).1.1 (cC k.log k.forced rec).1.2 (mI (by omega))) rfl rfl rfl rfl rfl rfl rfl rfl ?_
   refine s1 (sq (rT [3,6] (s3 (sq (rT [6,7] (s3 (rt ?_)))))))
   have hlr:iX k rec=(kR k (cC (cM k).1.1 (cM k).1.2 rec).1,true)∨iX k rec=(kR k (cC k.log k.forced rec).1,true):=by
    first
    |exact .inl (lS hsk h1 h2 (dD c52))
    |exact .inr (nA h1 h2)
   first
   |(have hr:=lS hsk h1 h2 (dD c52)
     refine bG rfl rfl ?_
     rw[kC,hr]
     rfl)
   |(have hr:=nA h1 h2
     refine bG rfl rfl ?_
     rw[kC,hr]
     rfl)
 obtain rfl:=c54
 refine sk (sq (rT [3,6] (s3 (sq (rT [6,7] (s3 (rt ?_)))))))
 have hlr:iX k rec=(kR k (cC (cM k).1.1 (cM k).1.2 rec).1,true)∨iX k rec=(kR k (cC k.log k.forced rec).1,true):=by
  first
  |exact .inl (lS hsk h1 h2 (dD c52))
  |exact .inr (nA h1 h2)
 first
 |(have hr:=lS hsk h1 h2 (dD c52)
   refine bG rfl rfl ?_
   rw[kC,hr]
   rfl)
 |(have hr:=nA h1 h2
   refine bG rfl rfl ?_
   rw[kC,hr]
   rfl)
theorem ef (k:aN) (hl:k.log.length≤140737488355328):Sp 34 1 [tV 0 k.V] [tV 0 (.tup [.agg [.d (.i ((bB k).1).id),.d (.b ((bB k).1).up),.d (.s ((bB k).1).log),.d (.i ((bB k).1).forced),.d (.sl (aY ((bB k).1).halves))],.c (.d (.b (bB k).2))])]:=by
 refine sb Tryz.func34 rfl (sq (rT [1,2] (s3 (sq (sq (rT [1,2,6] (s1 (xp (cY k hl) (ai rfl ?_)))))))))
 refine s1 (cd rfl (fun c6=> ?_) fun c6=> ?_)
 · have hno: ¬aX k=true:=fE c6
   refine sq (rT [2,3] (s3 (rt ?_)))
   have hr:bB k=(.zero,false):=sI hno
   rw[hr]
   exact rq [] [] rfl qz
 have hok:aX k=true:=dD c6
 have hlg:=cJ hok
 have hK:=dK hok
 have h6:=cV (dP hok)
 have hkb:=iF hok
 have hsk:cO k.log k.forced=true:=(cK hlg.1).2.1
 obtain⟨⟨_,htm,hnx,_⟩,_⟩:=(bW _).1 (dP hok)
 have hrl:=tE (n:=((bY k).1.time+1).toNat) (by omega)
 have hdl:=bU (k:=6) (n:=((bY k).1.time+1).toNat) (by show _<10000000;omega)
 have hw:wrap64 ((bY k).1.time+1)=(bY k).1.time+1:=aH (by omega)
 refine sk (sq (sq (rT [1,2,10] (s3 (cd rfl (fun c10=> ?_) fun c10=> ?_)))))
 · have hu: ¬k.up=true:=fE c10
   refine sq (rT [2,3] (s1 (xp (fJ k (⟨by omega,fun x hx=>by have:=hlg.2.2.2.2.2 x hx;omega⟩)) (ai rfl ?_))))
   refine s2 (rt ?_)
   have hr:=nI hok hu
   refine bG rfl rfl ?_
   rw[hr]<;>rfl
 have hu:k.up=true:=dD c10
 refine sk (sq (rD [2,3] (s2 (xp (fC k hl) (ai rfl ?_)))))
 refine s2 (xp (oO ((bY k).1.time+1) (by omega)) (ai (by rw[hK,hw];rfl) ?_))
 refine ai (by show _≤9223372036854775807;(try simp only[aNh,aNk,aNl]);omega) (xp (sN k (kQ ((bY k).1.time+1).toNat) hok (by omega)) (ai rfl ?_))
 refine s4 (ai (by kernel_rfl) (rt ?_))
 have hr:=pL hok hu
 refine bG rfl rfl ?_
 rw[hr]<;>rfl
theorem eg (k:aN) (hl:k.log.length≤140737488355328):Sp 33 1 [tV 0 k.V] [tV 0 (.tup [.agg [.d (.i ((bB k).1).id),.d (.b ((bB k).1).up),.d (.s ((bB k).1).log),.d (.i ((bB k).1).forced),.d (.sl (aY ((bB k).1).halves))],.c (.d (.b (bB k).2))])]:=by
 refine sb Tryz.func33 rfl (sq (rT [1,2] (s3 (sq (sq (rT [1,2,8] (s1 (xp (gQ k hl) (ai rfl ?_)))))))))
 refine s1 (cd rfl (fun c8=> ?_) fun c8=> ?_)
 · have hno: ¬aX k=true:=fE c8
   refine sq (rT [2,3] (s3 (rt ?_)))
   have hr:bB k=(.zero,false):=sI hno
   rw[hr]
   exact rq [] [] rfl qz
 have hok:aX k=true:=dD c8
 have hlg:=cJ hok
 have hK:=dK hok
 have h6:=cV (dP hok)
 have hkb:=iF hok
 have hsk:cO k.log k.forced=true:=(cK hlg.1).2.1
 obtain⟨⟨_,htm,hnx,_⟩,_⟩:=(bW _).1 (dP hok)
 have hrl:=tE (n:=((bY k).1.time+1).toNat) (by omega)
 have hdl:=bU (k:=6) (n:=((bY k).1.time+1).toNat) (by show _<10000000;omega)
 have hw:wrap64 ((bY k).1.time+1)=(bY k).1.time+1:=aH (by omega)
 refine sk (sq (rT [1,2,4] (s1 (xp (jX k (by omega)) (ai rfl ?_)))))
 refine s6 (sq (sq (rT [1,2,4,22] (s4 (y3 (ai pk (cd rfl (fun c22=> ?_) fun c22=> ?_)))))))
 · have hr0:bB k=(k,false):=by
    by_cases hu:k.up=true
    · rw[hu] at c22
      exact kj hok (of_decide_eq_true (by simpa using c22))
    · exact nI hok hu
   refine sq (rT [2,3] (s1 (xp (eU k (⟨by omega,fun x hx=>by have:=hlg.2.2.2.2.2 x hx;omega⟩)) (ai rfl ?_))))
   refine s2 (rt ?_)
   have hr:=hr0
   refine bG rfl rfl ?_
   rw[hr]<;>rfl
 have hu:k.up=true:=by
  cases hq:k.up with
  |true=>rfl
  |false=>rw[hq] at c22;cases c22
 refine sk (sq (rD [2,3] (s1 (xp (eU k (⟨by omega,fun x hx=>by have:=hlg.2.2.2.2.2 x hx;omega⟩)) (ai rfl ?_)))))
 refine s3 (xp (jR ((bY k).1.time+1) (by omega)) (ai (by rw[hw];rfl) ?_))
 refine ai (by show _≤9223372036854775807;(try simp only[aNh,aNk,aNl]);omega) (xp (qM k (kQ ((bY k).1.time+1).toNat) true hok (by omega)) (ai rfl ?_))
 refine s4 (ai (by kernel_rfl) (rt ?_))
 have hr:=pL hok hu
 refine bG rfl rfl ?_
 rw[hr]<;>rfl
theorem ik (k:aN) (tu til:Int) (tx:List UInt8) (hl:k.log.length≤140737488355328) (htx:tx.length≤140737488355328):Sp 36 4 [tV 0 k.V,tI 1 tu,tI 2 til,tD 3 (.s tx)] [tV 0 (.tup [.agg [.d (.i ((bE k tu til tx).1).id),.d (.b ((bE k tu til tx).1).up),.d (.s ((bE k tu til tx).1).log),.d (.i ((bE k tu til tx).1).forced),.d (.sl (aY ((bE k tu til tx).1).halves))],.c (.d (.i (bE k tu til tx).2))])]:=by
 refine sb Tryz.func36 rfl (sq (rT [1,2,3,4,8] (s3 (sq (sq (rT [1,2,3,4,8,15] (s1 (xp (cY k hl) (ai rfl ?_)))))))))
 refine s1 (cd rfl (fun c15=> ?_) fun c15=> ?_)
 · have hno: ¬aX k=true:=fE c15
   refine sq (rT [8,9] (s3 (rt ?_)))
   have hr:bE k tu til tx=(.zero,0):=tU hno
   rw[hr]
   exact rq [] [] rfl qz
 have hok:aX k=true:=dD c15
 have hlg:=cJ hok
 have hK:=dK hok
 have h6:=cV (dP hok)
 have hkb:=iF hok
 have hsk:cO k.log k.forced=true:=(cK hlg.1).2.1
 obtain⟨⟨_,htm,hnx,_⟩,_⟩:=(bW _).1 (dP hok)
 have hnl:=lR (fP k tu til tx)
 have hrl:=pZ gT (fP k tu til tx)
 have hwo:gT.length=3:=rfl
 refine sk (sq (sq (rT [1,2,3,4,8,19] (s3 (cd rfl (fun c19=> ?_) fun c19=> ?_)))))
 · have hu: ¬k.up=true:=fE c19
   refine sq (rT [8,9] (s1 (xp (fJ k (⟨by omega,fun x hx=>by have:=hlg.2.2.2.2.2 x hx;omega⟩)) (ai rfl ?_))))
   refine s2 (rt ?_)
   have hr:bE k tu til tx=(k,0):=sJ hok hu
   refine bG rfl rfl ?_
   rw[hr]<;>rfl
 have hu:k.up=true:=dD c19
 refine sk (sq (rT [1,2,3,4,8,10] (s1 (xp (fC k hl) (ai rfl ?_)))))
 refine s2 (sq (rD [8,10,11,12] (s8 (xp (kD (fP k tu til tx) htx) (ai (by rw[hK];rfl) ?_)))))
 refine ai (by show _≤9223372036854775807;(try simp only[aNh,aNk,aNl]);omega) (xp (sN k (fG gT (fP k tu til tx)) hok (by omega)) (ai rfl ?_))
 refine s6 (ai (by kernel_rfl) (sq (sq (rT [8,10,11,40] (s2 (cd rfl (fun c40=> ?_) fun c40=> ?_))))))
 · have hq: ¬(cP k (fG gT (fP k tu til tx))).2=true:=fE c40
   have hf:=rF hq
   have hr0:bE k tu til tx=_:=rG hok hq
   refine sq (rT [8,9] (s3 (rt (bG rfl rfl ?_))))
   rw[hf,hr0]
   rfl
 have hq: (cP k (fG gT (fP k tu til tx))).2=true:=dD c40
 refine sk (sq (rT [8,9] (s4 (rt ?_))))
 have hr:=wK hok hu hq
 refine bG rfl rfl ?_
 rw[hr,hK]
 rfl
theorem il (k:aN) (tu til:Int) (tx:List UInt8) (hl:k.log.length≤140737488355328) (htx:tx.length≤140737488355328):Sp 35 4 [tV 0 k.V,tI 1 tu,tI 2 til,tD 3 (.s tx)] [tV 0 (.tup [.agg [.d (.i ((bE k tu til tx).1).id),.d (.b ((bE k tu til tx).1).up),.d (.s ((bE k tu til tx).1).log),.d (.i ((bE k tu til tx).1).forced),.d (.sl (aY ((bE k tu til tx).1).halves))],.c (.d (.i (bE k tu til tx).2))])]:=by
 refine sb Tryz.func35 rfl (sq (rT [1,2,3,4,8] (s3 (sq (sq (rT [1,2,3,4,8,17] (s1 (xp (gQ k hl) (ai rfl ?_)))))))))
 refine s1 (cd rfl (fun c17=> ?_) fun c17=> ?_)
 · have hno: ¬aX k=true:=fE c17
   refine sq (rT [8,9] (s3 (rt ?_)))
   have hr:bE k tu til tx=(.zero,0):=tU hno
   rw[hr]
   exact rq [] [] rfl qz
 have hok:aX k=true:=dD c17
 have hlg:=cJ hok
 have hK:=dK hok
 have h6:=cV (dP hok)
 have hkb:=iF hok
 have hsk:cO k.log k.forced=true:=(cK hlg.1).2.1
 obtain⟨⟨_,htm,hnx,_⟩,_⟩:=(bW _).1 (dP hok)
 have hnl:=lR (fP k tu til tx)
 have hrl:=pZ gT (fP k tu til tx)
 have hwo:gT.length=3:=rfl
 refine sk (sq (rT [1,2,3,4,8,10] (s1 (xp (jX k (by omega)) (ai rfl ?_)))))
 refine s6 (sq (rT [4,8,10,12] (s8 (xp (mJ (fP k tu til tx) htx) (ai rfl ?_)))))
 refine s1 (sq (sq (rT [4,8,10,12,39] (s4 (y2 (ai pk (cd rfl (fun c39=> ?_) fun c39=> ?_)))))))
 · have hr0:bE k tu til tx=(k,0):=by
    by_cases hu:k.up=true
    · rw[hu] at c39
      exact og hok (by simpa using c39)
    · exact sJ hok hu
   refine sq (rT [8,9] (s1 (xp (eU k (⟨by omega,fun x hx=>by have:=hlg.2.2.2.2.2 x hx;omega⟩)) (ai rfl ?_))))
   refine s2 (rt ?_)
   have hr:=hr0
   refine bG rfl rfl ?_
   rw[hr]<;>rfl
 have hu:k.up=true:=by
  cases hq:k.up with
  |true=>rfl
  |false=>rw[hq] at c39;cases c39
 refine sk (sq (rT [4,8,10,13,14] (s1 (xp (eU k (⟨by omega,fun x hx=>by have:=hlg.2.2.2.2.2 x hx;omega⟩)) (ai rfl ?_)))))
 refine s1 (ai (by show _≤9223372036854775807;(try simp only[aNh,aNk,aNl]);omega) (xp (qM k (fG gT (fP k tu til tx)) true hok (by omega)) (ai rfl ?_)))
 refine s6 (sq (sq (rT [4,8,10,13,51] (s2 (cd rfl (fun c51=> ?_) fun c51=> ?_)))))
 · have hq: ¬(cP k (fG gT (fP k tu til tx))).2=true:=fE c51
   have hr0:bE k tu til tx=_:=rG hok hq
   refine sq (rT [8,9] (s1 (xp (eU k (⟨by omega,fun x hx=>by have:=hlg.2.2.2.2.2 x hx;omega⟩)) (ai rfl ?_))))
   refine s2 (rt ?_)
   have hr:=hr0
   refine bG rfl rfl ?_
   rw[hr]<;>rfl
 have hq: (cP k (fG gT (fP k tu til tx))).2=true:=dD c51
 refine sk (sq (rD [8,9] (s5 (ai (by kernel_rfl) (rt ?_)))))
 have hr:=wK hok hu hq
 refine bG rfl rfl ?_
 rw[hr]<;>rfl
theorem im (k:aN) (f n:Int) (hl:k.log.length≤140737488355328):Sp 38 3 [tV 0 k.V,tI 1 f,tI 2 n] [tV 0 (.tup [.agg [.d (.i ((aQ k f n).1).id),.d (.b ((aQ k f n).1).up),.d (.s ((aQ k f n).1).log),.d (.i ((aQ k f n).1).forced),.d (.sl (aY ((aQ k f n).1).halves))],.agg [.d (.i ((aQ k f n).2.1).frm),.d (.i ((aQ k f n).2.1).num),.d (.i ((aQ k f n).2.1).to),.d (.i ((aQ k f n).2.1).til),.d (.s ((aQ k f n).2.1).text)],.c (.d (.b (aQ k f n).2.2))])]:=by
 refine sb Tryz.func38 rfl (sq (rT [1,2,3,6,7] (s4 (sq (sq (rT [1,2,3,6,7,15] (s1 (xp (cY k hl) (ai rfl ?_)))))))))
 refine s1 (cd rfl (fun c15=> ?_) fun c15=> ?_)
 · have hno: ¬aX k=true:=fE c15
   refine sq (rT [6,7,8] (s5 (rt ?_)))
   have hr:aQ k f n=(.zero,.zero,false):=tW hno
   rw[hr]
   exact rq [] [] rfl qz
 have hok:aX k=true:=dD c15
 have hlg:=cJ hok
 have hK:=dK hok
 have h6:=cV (dP hok)
 have hkb:=iF hok
 have hsk:cO k.log k.forced=true:=(cK hlg.1).2.1
 obtain⟨⟨_,htm,hnx,_⟩,_⟩:=(bW _).1 (dP hok)
 refine sk (sq (rT [1,2,3,6,7,9] (s1 (xp (fC k hl) (ai rfl ?_)))))
 refine s2 (sq (rT [1,2,3,6,7,9,10] (s3 (xp (iP (bS k).inbox f n (by rw[hK];have:=h6.1;omega)) (ai rfl ?_)))))
 refine s1 (sq (sq (rT [1,2,3,6,7,9,10,31] (s4 (y2 (ai pk (cd rfl (fun c31=> ?_) fun c31=> ?_)))))))
 · have hcn: ¬(k.up=true∧0≤bA (bY k).1.inbox f n):=by
    rintro⟨hu,hp⟩
    rw[hK,hu,decide_eq_false (show ¬bA (bY k).1.inbox f n<0 by omega)] at c31
    cases c31
   have hr0:=wL hok hcn
   refine sq (rT [6,7,8] (s1 (xp (fJ k (⟨by omega,fun x hx=>by have:=hlg.2.2.2.2.2 x hx;omega⟩)) (ai rfl ?_))))
   refine s4 (rt ?_)
   have hr:=hr0
   refine bG rfl rfl ?_
   rw[hr]<;>rfl
 have hcy:k.up=true∧0≤bA (bY k).1.inbox f n:=by
  have h9:=c31
  rw[hK] at h9
  cases hu:k.up with
  |false=>rw[hu] at h9;cases h9
  |true=>
   rw[hu] at h9
   refine⟨rfl,?_⟩
   by_cases hp:bA (bY k).1.inbox f n<0
   · rw[decide_eq_true hp] at h9;cases h9
   · omega
 obtain⟨j,hj,hjl,hjb⟩:=bi hok hcy.2
 have hg:=aS (l:=(bY k).1.inbox) hjl
 have her:lQ k f n=lH iW ⟨f,n,((bY k).1.inbox.getD j .zero).til⟩:=by rw[lQ,hj,aNf]
 have hrl:=tC (w:=iW) (m:=⟨f,n,((bY k).1.inbox.getD j .zero).til⟩) hjb
 have hwe:iW.length=3:=rfl
 have d1:=bU (k:=6) (n:=f.toNat) (by show _<10000000;omega)
 have d2:=bU (k:=6) (n:=n.toNat) (by show _<10000000;omega)
 have d3:=bU (k:=6) (n:=((bY k).1.inbox.getD j .zero).til.toNat) (by show _<10000000;omega)
 refine sk (sq (rD [6,7,9,10,11,12] (s5 (ai (by rw[hK,hj,aNf,hg];exact⟨⟨by omega,by rw[aE];omega⟩,rfl⟩) (s1 (ai (by rw[hK,hj,aNf,hg];exact⟨aNg rfl,rfl⟩) (xp (pG iW f n ((bY k).1.inbox.getD j .zero).til hjb (by decide)) (ai (by rw[hK,hj,aNf,hg];rfl) ?_))))))))
 refine xp (sN k (lH iW ⟨f,n,((bY k).1.inbox.getD j .zero).til⟩) hok (by omega)) (ai rfl ?_)
 refine s6 (ai (by kernel_rfl) (sq (sq (rT [6,7,9,10,11,49] (s2 (cd rfl (fun c49=> ?_) fun c49=> ?_))))))
 · have hq: ¬(cP k (lQ k f n)).2=true:=by rw[her];exact fE c49
   have hf:=rF hq
   have hr0:=sK hok hcy hq
   rw[her] at hf
   refine sq (rT [6,7,8] (s5 (rt (bG rfl rfl ?_))))
   rw[hf,hr0]
   rfl
 have hq: (cP k (lQ k f n)).2=true:=by rw[her];exact dD c49
 have hr0:=wM hok hcy hq
 rw[her,hj,aNf] at hr0
 refine sk (sq (rD [6,7,8] (s3 (ai (by rw[hK,hj,aNf,hg];exact⟨⟨by omega,by rw[aE];omega⟩,rfl⟩) (ai (by rw[hK,hj,aNf,hg];exact⟨aNg rfl,rfl⟩) (s3 (ai (by kernel_rfl) (rt (bG rfl rfl ?_)))))))))
 rw[hr0,hK,hj,aNf,hg]
 rfl
theorem ip (k:aN) (f n:Int) (hl:k.log.length≤140737488355328):Sp 37 3 [tV 0 k.V,tI 1 f,tI 2 n] [tV 0 (.tup [.agg [.d (.i ((aQ k f n).1).id),.d (.b ((aQ k f n).1).up),.d (.s ((aQ k f n).1).log),.d (.i ((aQ k f n).1).forced),.d (.sl (aY ((aQ k f n).1).halves))],.agg [.d (.i ((aQ k f n).2.1).frm),.d (.i ((aQ k f n).2.1).num),.d (.i ((aQ k f n).2.1).to),.d (.i ((aQ k f n).2.1).til),.d (.s ((aQ k f n).2.1).text)],.c (.d (.b (aQ k f n).2.2))])]:=by
 refine sb Tryz.func37 rfl (sq (rT [1,2,3,6,7] (s4 (sq (sq (rT [1,2,3,6,7,16] (s1 (xp (gQ k hl) (ai rfl ?_)))))))))
 refine s1 (cd rfl (fun c16=> ?_) fun c16=> ?_)
 · have hno: ¬aX k=true:=fE c16
   refine sq (rT [6,7,8] (s5 (rt ?_)))
   have hr:aQ k f n=(.zero,.zero,false):=tW hno
   rw[hr]
   exact rq [] [] rfl qz
 have hok:aX k=true:=dD c16
 have hlg:=cJ hok
 have hK:=dK hok
 have h6:=cV (dP hok)
 have hkb:=iF hok
 have hsk:cO k.log k.forced=true:=(cK hlg.1).2.1
 obtain⟨⟨_,htm,hnx,_⟩,_⟩:=(bW _).1 (dP hok)
 refine sk (sq (rT [1,2,3,6,7,9] (s1 (xp (jX k (by omega)) (ai rfl ?_)))))
 refine s6 (sq (rT [1,2,3,6,7,9,11] (s4 (xp (gH (bY k).1.inbox f n (by have:=h6.1;omega)) (ai rfl ?_)))))
 refine s1 (sq (sq (rT [1,2,3,6,7,9,11,35] (s4 (y2 (ai pk (cd rfl (fun c35=> ?_) fun c35=> ?_)))))))
 · have hcn: ¬(k.up=true∧0≤bA (bY k).1.inbox f n):=by
    rintro⟨hu,hp⟩
    rw[hu,decide_eq_false (show ¬bA (bY k).1.inbox f n<0 by omega)] at c35
    cases c35
   have hr0:=wL hok hcn
   refine sq (rT [6,7,8] (s1 (xp (eU k (⟨by omega,fun x hx=>by have:=hlg.2.2.2.2.2 x hx;omega⟩)) (ai rfl ?_))))
   refine s4 (rt ?_)
   have hr:=hr0
   refine bG rfl rfl ?_
   rw[hr]<;>rfl
 have hcy:k.up=true∧0≤bA (bY k).1.inbox f n:=by
  have h9:=c35
  skip
  cases hu:k.up with
  |false=>rw[hu] at h9;cases h9
  |true=>
   rw[hu] at h9
   refine⟨rfl,?_⟩
   by_cases hp:bA (bY k).1.inbox f n<0
   · rw[decide_eq_true hp] at h9;cases h9
   · omega
 obtain⟨j,hj,hjl,hjb⟩:=bi hok hcy.2
 have hg:=aS (l:=(bY k).1.inbox) hjl
 have her:lQ k f n=lH iW ⟨f,n,((bY k).1.inbox.getD j .zero).til⟩:=by rw[lQ,hj,aNf]
 have hrl:=tC (w:=iW) (m:=⟨f,n,((bY k).1.inbox.getD j .zero).til⟩) hjb
 have hwe:iW.length=3:=rfl
 have d1:=bU (k:=6) (n:=f.toNat) (by show _<10000000;omega)
 have d2:=bU (k:=6) (n:=n.toNat) (by show _<10000000;omega)
 have d3:=bU (k:=6) (n:=((bY k).1.inbox.getD j .zero).til.toNat) (by show _<10000000;omega)
 refine sk (sq (rD [3,6,7,9,11,12,13] (s1 (xp (eU k (⟨by omega,fun x hx=>by have:=hlg.2.2.2.2.2 x hx;omega⟩)) (ai rfl ?_)))))
 refine s5 (ai (by rw[hj,aNf,hg];exact⟨⟨by omega,by rw[aE];omega⟩,rfl⟩) (s1 (ai (by rw[hj,aNf,hg];exact⟨aNg rfl,rfl⟩) (xp (ku f n ((bY k).1.inbox.getD j .zero).til hjb) (ai (by rw[hj,aNf,hg];rfl) ?_)))))
 refine ai (by show _≤9223372036854775807;(try simp only[aNh,aNk,aNl]);omega) (xp (qM k (lH iW ⟨f,n,((bY k).1.inbox.getD j .zero).til⟩) true hok (by omega)) (ai rfl ?_))
 refine s6 (ai (by kernel_rfl) (sq (sq (rT [3,6,7,9,11,12,56] (s2 (cd rfl (fun c56=> ?_) fun c56=> ?_))))))
 · have hq: ¬(cP k (lQ k f n)).2=true:=by rw[her];exact fE c56
   have hr0:=sK hok hcy hq
   refine sq (rT [6,7,8] (s1 (xp (eU k (⟨by omega,fun x hx=>by have:=hlg.2.2.2.2.2 x hx;omega⟩)) (ai rfl ?_))))
   refine s4 (rt ?_)
   have hr:=hr0
   refine bG rfl rfl ?_
   rw[hr]<;>rfl
 have hq: (cP k (lQ k f n)).2=true:=by rw[her];exact dD c56
 have hr0:=wM hok hcy hq
 rw[her,hj,aNf] at hr0
 refine sk (sq (rD [6,7,8] (s4 (ai (by rw[hj,aNf,hg];exact⟨⟨by omega,by rw[aE];omega⟩,rfl⟩) (ai (by rw[hj,aNf,hg];exact⟨aNg rfl,rfl⟩) (s3 (ai (by kernel_rfl) (rt (bG rfl rfl ?_)))))))))
 rw[hr0,hj,aNf,hg]
 rfl
theorem eh (k:aN) (hl:k.log.length≤140737488355328):Sp 32 1 [tV 0 k.V] [tV 0 (.tup [.agg [.d (.i ((aZ k).1).id),.d (.b ((aZ k).1).up),.d (.s ((aZ k).1).log),.d (.i ((aZ k).1).forced),.d (.sl (aY ((aZ k).1).halves))],.c (.d (.b (aZ k).2))])]:=by
 refine sb Tryz.func32 rfl (sq (rT [1,2] (s3 (sq (sq (rT [1,2,9] (s1 (xp (cY k hl) (ai rfl ?_)))))))))
 refine s1 (cd rfl (fun c9=> ?_) fun c9=> ?_)
 · have hno: ¬aX k=true:=fE c9
   refine sq (rT [2,3] (s3 (rt ?_)))
   have hr:aZ k=(.zero,false):=sL hno
   rw[hr]
   exact rq [] [] rfl qz
 have hok:aX k=true:=dD c9
 have hlg:=cJ hok
 have hK:=dK hok
 have h6:=cV (dP hok)
 have hkb:=iF hok
 have hsk:cO k.log k.forced=true:=(cK hlg.1).2.1
 obtain⟨⟨_,htm,hnx,_⟩,_⟩:=(bW _).1 (dP hok)
 have hrs:=iY (k:=(bY k).1)
 refine sk (sq (rT [1,2,4] (s1 (xp (fJ k (⟨by omega,fun x hx=>by have:=hlg.2.2.2.2.2 x hx;omega⟩)) (ai rfl ?_)))))
 refine s2 (sq (sq (rT [1,2,4,15] (s3 (cd rfl (fun c15=> ?_) fun c15=> ?_)))))
 · have hu: ¬k.up=true:=fE c15
   refine sq (rT [2,3] (s3 (rt ?_)))
   have hr:=qH hok hu
   refine bG rfl rfl ?_
   rw[hr]<;>rfl
 have hu:k.up=true:=dD c15
 refine sk (sq (rD [2,4,5,6] (s3 (xp (fC k hl) (ai rfl ?_)))))
 refine xp (qJ (bY k).1 hkb) (ai (by rw[hK];rfl) ?_)
 refine xp (pF k.log k.forced (gG (bY k).1) (by omega) (by have:=hrs.1;omega) (fun r hr=>by have:=hrs.2 r hr;omega)) (ai rfl ?_)
 refine s6 (ai (by kernel_rfl) (sq (rT [2,4,6] (s3 (sq (rT [2,3] (s4 (rt ?_))))))))
 have hr:=yK hok hsk hu
 refine bG rfl rfl ?_
 rw[hr]<;>rfl
theorem ej (k:aN) (hl:k.log.length≤140737488355328):Sp 31 1 [tV 0 k.V] [tV 0 (.tup [.agg [.d (.i ((aZ k).1).id),.d (.b ((aZ k).1).up),.d (.s ((aZ k).1).log),.d (.i ((aZ k).1).forced),.d (.sl (aY ((aZ k).1).halves))],.c (.d (.b (aZ k).2))])]:=by
 refine sb Tryz.func31 rfl (sq (rT [1,2] (s3 (sq (sq (rT [1,2,11] (s1 (xp (gQ k hl) (ai rfl ?_)))))))))
 refine s1 (cd rfl (fun c11=> ?_) fun c11=> ?_)
 · have hno: ¬aX k=true:=fE c11
   refine sq (rT [2,3] (s3 (rt ?_)))
   have hr:aZ k=(.zero,false):=sL hno
   rw[hr]
   exact rq [] [] rfl qz
 have hok:aX k=true:=dD c11
 have hlg:=cJ hok
 have hK:=dK hok
 have h6:=cV (dP hok)
 have hkb:=iF hok
 have hsk:cO k.log k.forced=true:=(cK hlg.1).2.1
 obtain⟨⟨_,htm,hnx,_⟩,_⟩:=(bW _).1 (dP hok)
 have hrs:=iY (k:=(bY k).1)
 refine sk (sq (rT [1,2,4] (s1 (xp (eU k (⟨by omega,fun x hx=>by have:=hlg.2.2.2.2.2 x hx;omega⟩)) (ai rfl ?_)))))
 refine s2 (sq (rT [1,2,4,5] (s1 (xp (jX k (by omega)) (ai rfl ?_)))))
 refine s6 (sq (rD [1,2,4,7,8] (s3 (xp (xF (bY k).1 hkb) (ai rfl ?_)))))
 refine xp (uW k.log k.forced (gG (bY k).1) (by omega) (by have:=hrs.1;omega) (fun r hr=>by have:=hrs.2 r hr;omega)) (ai rfl ?_)
 refine s6 (ai (by kernel_rfl) (sq (sq (rT [2,4,7,34] (s4 (y2 (ai pk (cd rfl (fun c34=> ?_) fun c34=> ?_))))))))
 · have hr0:aZ k=(k,false):=by
    by_cases hu:k.up=true
    · rw[hu] at c34
      exact ae hok (fE c34)
    · exact qH hok hu
   refine sq (rT [2,3] (s3 (rt ?_)))
   have hr:=hr0
   refine bG rfl rfl ?_
   rw[hr]<;>rfl
 have hu:k.up=true:=by
  cases hq:k.up with
  |true=>rfl
  |false=>rw[hq] at c34;cases c34
 have hp: (cM k).2=true:=by
  rw[hu] at c34
  exact dD c34
 refine sk (sq (rT [2,4] (s3 (sq (rT [2,3] (s3 (rt ?_)))))))
 have hr:=af hok hu hp
 refine bG rfl rfl ?_
 rw[hr]<;>rfl
end Go.Proofs.YtmabaopgkimfmaaGreatDoor
namespace Go.Ab
open Int renaming toNat_natCast→aNf
open Nat renaming le_of_ble_eq_true→aNg,zero_le→aNj,le_refl→aNp
open List renaming length_append→aNh,length_cons→aNk,length_nil→aNl,getD_eq_getElem?_getD→aNm,length_take→aNn,getElem?_eq_getElem→aNo,getElem?_eq_some_iff→aNq,mem_map→aNr,mem_cons→aNs,all_eq_true→aNt,range→aNu,length_drop→aNv
open Bool renaming and_eq_true→aNi
open Go Go.RowKit
set_option linter.unusedVariables false
structure rh where
 tm:Int
 ks:List aN
 ls:List Bool
 a:Nat
 b:Nat
 c:Nat
 d:Nat
def rh.ok (W:rh):Prop:=WOk W.ks W.ls W.a W.b W.c
structure rh.of (W W0:rh) (m:Nat):Prop where
 ok:W.ok
 few:W.d≤W0.d+m
theorem rh.of.refl {W:rh} (h:W.ok):W.of W 0:=⟨h,aNp _⟩
theorem rh.of.trans {W1 W2 W0:rh} {m n:Nat} (h:W1.of W0 m) (k:W2.of W1 n):W2.of W0 (m+n):=⟨k.ok,by have:=h.few;have:=k.few;omega⟩
theorem rh.of.le {W W0:rh} {m n:Nat} (h:W.of W0 m) (hn:m≤n):W.of W0 n:=⟨h.ok,by have:=h.few;omega⟩
set_option linter.unusedSimpArgs false
abbrev R1 (x:Int):Prop:= -1≤x∧x≤1001
end Go.Ab
namespace Go.Proofs.YtmabaopgkimfmaaGreatDoor
open Int renaming toNat_natCast→aNf
open Nat renaming le_of_ble_eq_true→aNg,zero_le→aNj,le_refl→aNp
open List renaming length_append→aNh,length_cons→aNk,length_nil→aNl,getD_eq_getElem?_getD→aNm,length_take→aNn,getElem?_eq_getElem→aNo,getElem?_eq_some_iff→aNq,mem_map→aNr,mem_cons→aNs,all_eq_true→aNt,range→aNu,length_drop→aNv
open Bool renaming and_eq_true→aNi
open Go Go.Ab Go.RowKit
set_option linter.unusedVariables false
set_option linter.unusedSimpArgs false
set_option maxRecDepth 9000
theorem ek (k:aN) (keep:Int) (hl:k.log.length≤140737488355328):Sp 16 2 [tV 0 k.V,tI 1 keep] [tV 0 ((bN k keep).V)]:=by
 refine sb Tryz.func16 rfl (sq (rT [1,2,4] (s2 (sq (sq (rT [1,2,4,7] (s1 (xp (gQ k hl) (ai rfl ?_)))))))))
 refine s1 (cd rfl (fun c7=> ?_) fun c7=> ?_)
 · have hno: ¬aX k=true:=fE c7
   refine sq (rT [4] (s2 (rt ?_)))
   have hr:bN k keep= .zero:=aB hno
   refine rq [] [] rfl ?_
   repeat' apply ai
   all_goals try exact qx
   all_goals(first|with_reducible rfl|(rw[hr];done)|(rw[hr];rfl)|rfl)
 have hok:aX k=true:=dD c7
 have hlg:=cJ hok
 refine sk (sq (rD [4] (s5 (xp (ij k.log k.forced keep (by omega)) (ai rfl ?_)))))
 refine s2 (ai (by kernel_rfl) (rt ?_))
 have hr:bN k keep=⟨k.id,false,(eI k.log k.forced keep).1,(eI k.log k.forced keep).2,[]⟩:=aC hok
 refine rq [] [] rfl ?_
 repeat' apply ai
 all_goals try exact qx
 all_goals(first|with_reducible rfl|(rw[hr];done)|(rw[hr];rfl)|rfl)
theorem el (k:aN) (keep:Int) (hl:k.log.length≤140737488355328):Sp 18 2 [tV 0 k.V,tI 1 keep] [tV 0 ((bN k keep).V)]:=by
 refine sb Tryz.func18 rfl (sq (rT [1,2,4] (s2 (sq (sq (rT [1,2,4,7] (s1 (xp (cY k hl) (ai rfl ?_)))))))))
 refine s1 (cd rfl (fun c7=> ?_) fun c7=> ?_)
 · have hno: ¬aX k=true:=fE c7
   refine sq (rT [4] (s2 (rt ?_)))
   have hr:bN k keep= .zero:=aB hno
   refine rq [] [] rfl ?_
   repeat' apply ai
   all_goals try exact qx
   all_goals(first|with_reducible rfl|(rw[hr];done)|(rw[hr];rfl)|rfl)
 have hok:aX k=true:=dD c7
 have hlg:=cJ hok
 refine sk (sq (rD [4] (s5 (xp (uV k.log k.forced keep (by omega)) (ai rfl ?_)))))
 refine s2 (ai (by kernel_rfl) (rt ?_))
 have hr:bN k keep=⟨k.id,false,(eI k.log k.forced keep).1,(eI k.log k.forced keep).2,[]⟩:=aC hok
 refine rq [] [] rfl ?_
 repeat' apply ai
 all_goals try exact qx
 all_goals(first|with_reducible rfl|(rw[hr];done)|(rw[hr];rfl)|rfl)
theorem em (k:aN) (hl:k.log.length≤140737488355328):Sp 22 1 [tV 0 k.V] [tV 0 ((bL k).V)]:=by
 refine sb Tryz.func22 rfl (sq (rT [1,2] (s2 (sq (sq (rT [1,2,5] (s1 (xp (gQ k hl) (ai rfl ?_)))))))))
 refine s1 (cd rfl (fun c5=> ?_) fun c5=> ?_)
 · have hno: ¬aX k=true:=fE c5
   refine sq (rT [2] (s2 (rt ?_)))
   have hr:bL k= .zero:=aB hno
   refine rq [] [] rfl ?_
   repeat' apply ai
   all_goals try exact qx
   all_goals(first|with_reducible rfl|(rw[hr];done)|(rw[hr];rfl)|rfl)
 have hok:aX k=true:=dD c5
 have hlg:=cJ hok
 refine sk (sq (sq (rT [1,2,8] (s2 (cd rfl (fun c8=> ?_) fun c8=> ?_)))))
 · have hu:k.up=true:=c8
   refine sq (rT [2] (s1 (xp (eU k (⟨by omega,fun x hx=>by have:=hlg.2.2.2.2.2 x hx;omega⟩)) (ai rfl ?_))))
   refine s1 (rt ?_)
   have hr:bL k=k:=by rw[bL,aC hok];cases k;simp at hu;simp[hu]
   refine rq [] [] rfl ?_
   repeat' apply ai
   all_goals try exact qx
   all_goals(first|with_reducible rfl|(rw[hr];done)|(rw[hr];rfl)|rfl)
 have hu:k.up=false:=c8
 refine sk (sq (rT [2] (s6 (rt ?_))))
 have hr:=aEa hok hu
 refine rq [] [] rfl ?_
 repeat' apply ai
 all_goals try exact qx
 all_goals(first|with_reducible rfl|(rw[hr];done)|(rw[hr];rfl)|rfl)
theorem en (k:aN) (hl:k.log.length≤140737488355328):Sp 23 1 [tV 0 k.V] [tV 0 ((bL k).V)]:=by
 refine sb Tryz.func23 rfl (sq (rT [1,2] (s2 (sq (sq (rT [1,2,6] (s1 (xp (cY k hl) (ai rfl ?_)))))))))
 refine s1 (cd rfl (fun c6=> ?_) fun c6=> ?_)
 · have hno: ¬aX k=true:=fE c6
   refine sq (rT [2] (s2 (rt ?_)))
   have hr:bL k= .zero:=aB hno
   refine rq [] [] rfl ?_
   repeat' apply ai
   all_goals try exact qx
   all_goals(first|with_reducible rfl|(rw[hr];done)|(rw[hr];rfl)|rfl)
 have hok:aX k=true:=dD c6
 have hlg:=cJ hok
 refine sk (sq (rT [2,3] (s1 (xp (fJ k (⟨by omega,fun x hx=>by have:=hlg.2.2.2.2.2 x hx;omega⟩)) (ai rfl ?_)))))
 refine s2 (sq (rT [2,3] (s2 (sq (rT [2] (s2 (rt ?_)))))))
 have hr:bL k={k with up:=true}:=aC hok
 refine rq [] [] rfl ?_
 repeat' apply ai
 all_goals try exact qx
 all_goals(first|with_reducible rfl|(rw[hr];done)|(rw[hr];rfl)|rfl)
theorem bo (k:aN) (hl:k.log.length≤140737488355328):Sp 24 1 [tV 0 k.V] [tV 0 (.tup [.agg [.d (.i ((aU k).1).id),.d (.b ((aU k).1).up),.d (.s ((aU k).1).log),.d (.i ((aU k).1).forced),.d (.sl (aY ((aU k).1).halves))],.c (.d (.b (aU k).2))])]:=by
 refine sb Tryz.func24 rfl (sq (rT [1,2] (s3 (sq (sq (rT [1,2,7] (s1 (xp (gQ k hl) (ai rfl ?_)))))))))
 refine s1 (cd rfl (fun c7=> ?_) fun c7=> ?_)
 · have hno: ¬aX k=true:=fE c7
   refine sq (rT [2,3] (s3 (rt ?_)))
   have hr:aU k=(.zero,false):=aB hno
   refine rq [] [] rfl ?_
   repeat' apply ai
   all_goals try exact qx
   all_goals(first|with_reducible rfl|(rw[hr];done)|(rw[hr];rfl)|rfl)
 have hok:aX k=true:=dD c7
 have hlg:=cJ hok
 refine sk (sq (rT [1,2,4] (s1 (xp (eU k (⟨by omega,fun x hx=>by have:=hlg.2.2.2.2.2 x hx;omega⟩)) (ai rfl ?_)))))
 refine s2 (sq (sq (rT [1,2,4,23] (s4 (y4 (y4 (ai pk (cd rfl (fun c23=> ?_) fun c23=> ?_))))))))
 · refine sq (rT [2,3] (s3 (rt ?_)))
   have hr:aU k=(k,false):=by rw[aU,aC hok,aC c23]
   refine rq [] [] rfl ?_
   repeat' apply ai
   all_goals try exact qx
   all_goals(first|with_reducible rfl|(rw[hr];done)|(rw[hr];rfl)|rfl)
 refine sk (sq (rT [2,4] (s2 (xp (jT k.log k.forced (by omega)) (ai rfl ?_)))))
 refine s2 (sq (rT [2,3] (s3 (rt ?_))))
 have hr:aU k=(eT k,true):=by rw[aU,aC hok,aB (by rw[c23];decide)]
 refine rq [] [] rfl ?_
 repeat' apply ai
 all_goals try exact qx
 all_goals(first|with_reducible rfl|(rw[hr];done)|(rw[hr];rfl)|rfl)
theorem ksD (id:Int): (cE id).held=[]∧(cE id).marks=[]∧(cE id).inbox=[]:=by
 unfold cE
 split<;>exact⟨rfl,rfl,rfl⟩
theorem aEg {Q:Nat→Prop} (h0:Q 900) (h1:Q 901) (h2:Q 902): ∀j∈[900,901,902],Q j:=by
 intro j hj
 simp only[aNs,List.mem_nil_iff,or_false] at hj
 rcases hj with rfl|rfl|rfl<;>assumption
theorem ep (l:List bF) (e es:Nat):oC (.row e es (aF l)):=by
 intro r hr d hd
 obtain⟨n,_,rfl⟩:=aNr.1 hr
 simp only[bF.row,aNs,List.mem_nil_iff,or_false] at hd
 rcases hd with rfl|rfl|rfl|rfl|rfl<;>trivial
theorem zi (l:List bZ) (e es:Nat):oC (.row e es (aJ l)):=by
 intro r hr d hd
 obtain⟨n,_,rfl⟩:=aNr.1 hr
 simp only[bZ.row,aNs,List.mem_nil_iff,or_false] at hd
 rcases hd with rfl|rfl|rfl<;>trivial
theorem aGi (k:bH×Bool):iC [tV 0 (.tup [.agg [.d (.i (k.1).id),.d (.i (k.1).time),.d (.i (k.1).next),.own 900 (k.1).held.length,.own 901 (k.1).marks.length,.own 902 (k.1).inbox.length],.c (.d (.b k.2))]),oR 900 52 5 (aF (k.1).held),oR 901 162 3 (aJ (k.1).marks),oR 902 52 5 (aF (k.1).inbox)]:=by
 intro p hp
 simp only[aNs,List.mem_nil_iff,or_false] at hp
 rcases hp with rfl|rfl|rfl|rfl
 · simp[oC,zH,zG,vN,pK]
 · exact ep _ _ _
 · exact zi _ _ _
 exact ep _ _ _
end Go.Proofs.YtmabaopgkimfmaaGreatDoor
namespace Go.Ab
open Int renaming toNat_natCast→aNf
open Nat renaming le_of_ble_eq_true→aNg,zero_le→aNj,le_refl→aNp
open List renaming length_append→aNh,length_cons→aNk,length_nil→aNl,getD_eq_getElem?_getD→aNm,length_take→aNn,getElem?_eq_getElem→aNo,getElem?_eq_some_iff→aNq,mem_map→aNr,mem_cons→aNs,all_eq_true→aNt,range→aNu,length_drop→aNv
open Bool renaming and_eq_true→aNi
open Go Go.RowKit
set_option linter.unusedVariables false
set_option linter.unusedSimpArgs false
theorem aIh {l:List bF} {f m:Int} (h: ∀x∈l,¬(x.frm=f∧x.num=m)):bA l f m<0:=by
 rcases jW (mS l f m) l.length 0 with h1|⟨k,h1,_,h2,h3,_⟩
 · rw[bA,h1];decide
 · have hk:k<l.length:=by omega
   unfold mS at h3
   simp only[aNi,beq_iff_eq] at h3
   exact absurd h3 (h _ (dO hk))
theorem aBy {l:List bF} {f m:Int}:bA l f m<0↔ ∀x∈l,¬(x.frm=f∧x.num=m):=⟨fun h x hx=>nb h hx,aIh⟩
section
variable {α:Type}
theorem aGj {p:α→Bool} {n x:α} {l:List α}:x∈pE p n l↔x=n∨x∈l:=by
 unfold pE
 rw[List.mem_append,aNs]
 conv=>rhs;rw[← List.takeWhile_append_dropWhile (p:=p) (l:=l)]
 rw[List.mem_append]
 constructor
 · rintro(h|h|h)<;>simp[h]
 · rintro(h|h|h)<;>simp[h]
end
theorem aBz {l:List bF} {n x:bF}:x∈lD l n↔x=n∨x∈l:=aGj
theorem getD_some {α:Type} {l:List α} {i:Nat} {z:α} (h:i<l.length):l[i]? =some (l.getD i z):=by
 rw[aNm,aNo h];rfl
def Ap (k:bH):Prop:= ∀n∈k.inbox,bA k.held n.frm n.num<0
theorem Ap.nil {k:bH} (h:k.inbox=[]):Ap k:=fun n hn=>by rw[h] at hn;cases hn
theorem Ap.put {k:bH} {n:bF} (h:Ap k) (hn:bA k.inbox n.frm n.num<0) {x:bH} (hx:x.held=lD k.held n) (hi:x.inbox=k.inbox):Ap x:=fun m hm=>by
 rw[hi] at hm
 rw[hx]
 refine aBy.2 fun y hy e=> ?_
 rcases aBz.1 hy with rfl|hy
 · exact aBy.1 hn m hm ⟨e.1.symm,e.2.symm⟩
 · exact aBy.1 (h m hm) y hy e
theorem wQ {k:aN}:aX k=true↔eP k.id=true∧cO k.log k.forced=true∧k.halves.length≤3∧(k.up=true∨k.halves.length=0)∧(bY k).2=true∧(bf k).2=true∧(aNu k.halves.length).all (fX k.halves)=true:=by
 constructor
 · intro h
   unfold aX at h
   simp only[aNi] at h
   obtain⟨⟨⟨h1,h2⟩,h3⟩,h4⟩:=h
   obtain⟨q1,q2,q3,q4⟩:=cK h1
   exact⟨q1,q2,q3,q4,h2,h3,h4⟩
 · rintro⟨q1,q2,q3,q4,h2,h3,h4⟩
   unfold aX hZ
   have q3': ((k.halves.length:Nat):Int)≤3:=by omega
   have q4': (k.up||decide (k.halves.length=0))=true:=by
    rcases q4 with h|h
    · rw[h];rfl
    · rw[decide_eq_true h,Bool.or_true]
   rw[q1,q2,decide_eq_true q3',q4',h2,h3,h4];rfl
theorem we {k:aN} (h:aX k=true):bS k=(bY k).1:=aC h
theorem uc {k:aN} (h:cO k.log k.forced=true):eT k={k with forced:=k.log.length}:=by
 unfold eT gY
 rw[aC h]
theorem wg {l:List UInt8} {f:Int} (h:cO l f=true):cO l l.length=true:=by
 obtain⟨h1,h2,h3,h4⟩:=iO h
 simp only[cO,mR,aNi,aD]
 exact⟨⟨⟨h1,by omega⟩,h3⟩,by rw[aNf,List.take_length,h3]⟩
theorem ud {k:aN} (h:aX k=true):aX (eT k)=true:=by
 obtain⟨q1,q2,q3,q4,h2,h3,h4⟩:=wQ.1 h
 rw[uc q2]
 refine wQ.2 ⟨q1,wg q2,q3,q4,h2,?_,h4⟩
 unfold bf
 simp only
 rw[aNf,List.take_length];exact h2
theorem oz {k:aN} (h:aX k=true):bS (eT k)=bS k:=by
 obtain⟨q1,q2,_⟩:=wQ.1 h
 rw[we (ud h),we h,uc q2];rfl
def KQ (k:aN):Prop:=k.log.length≤20000∧k.halves.length≤100∧ ∀x∈k.halves,x.got.length≤100
theorem KQ.krb {k:aN} (h:KQ k):KRB k:=⟨by have:=h.1;omega,by have:=h.2.1;omega,fun x hx=>by have:=h.2.2 x hx;omega⟩
theorem KQ.log {k:aN} (h:KQ k):k.log.length≤140737488355328:=by have:=h.1;omega
theorem KQ.zero:KQ .zero:=⟨by show(0:Nat)≤_;omega,by show(0:Nat)≤_;omega,fun _ hx=>nomatch hx⟩
theorem kv (l:List UInt8) (f:Int): (gY l f).1.length≤l.length:=by
 unfold gY
 split
 · exact aNp _
 · exact aNj _
structure uX (x k:aN):Prop where
 ok:aX x=true
 time: (bS x).time=(bS k).time
 next: (bS x).next=(bS k).next
theorem uX.refl {k:aN} (h:aX k=true):uX k k:=⟨h,rfl,rfl⟩
theorem uX.trans {a b c:aN} (h:uX a b) (g:uX b c):uX a c:=⟨h.ok,h.time.trans g.time,h.next.trans g.next⟩
theorem uX.halves {k:aN} {l:List bV} (hok:aX k=true) (hu:k.up=true) (hl:l.length≤3) (h:HOk l):uX (gx k l) k:=by
 have h2:=wb hok hu hl h
 have e:bS (gx k l)=bS k:=by rw[we h2,we hok];rfl
 exact⟨h2,by rw[e],by rw[e]⟩
theorem uX.forced {k:aN} (hok:aX k=true):uX (eT k) k:=⟨ud hok,by rw[oz hok],by rw[oz hok]⟩
theorem aLo {f:lL} {a:Int} (hf:co f=true) (hk:f.kind=1) (ha:a=2∨a=3):co (aBv a f)=true∧(aBv a f).src=f.dst∧(aBv a f).dst=f.src:=by
 refine⟨?_,rfl,rfl⟩
 unfold co at hf ⊢
 rw[aC hk] at hf
 simp only[aNi,aD] at hf
 obtain⟨⟨⟨⟨⟨⟨h1,h2⟩,h3⟩,h4⟩,h5⟩,h6⟩,⟨⟨h7,h8⟩,h9⟩,h10⟩:=hf
 have e1: ¬(aBv a f).kind=1:=by show ¬a=1;omega
 have e2: (aBv a f).kind=2∨(aBv a f).kind=3:=ha
 rw[aB e1,aC e2]
 simp only[aNi,aD]
 exact⟨⟨⟨⟨⟨⟨h2,h1⟩,h3⟩,h4⟩,h5⟩,h6⟩,⟨⟨rfl,rfl⟩,rfl⟩,h10⟩
def aCv (k:aN) (f:lL) (r:aN×List lL):Prop:=
 uX r.1 k∧(∀g∈r.2,co g=true∧g.src=k.id∧g.dst=f.src)∧r.2.length≤1
theorem aCv.nil {k x:aN} {f:lL} (h:uX x k):aCv k f (x,[]):=⟨h,fun _ hg=>(nomatch hg),aNj _⟩
theorem aCv.one {k x:aN} {f:lL} {a:Int} (h:uX x k) (hf:co f=true) (hk:f.kind=1) (hd:f.dst=k.id) (ha:a=2∨a=3):aCv k f (x,[aBv a f]):=
 ⟨h,fun g hg=>by rw[List.mem_singleton.1 hg];obtain⟨q1,q2,q3⟩:=aLo hf hk ha;exact⟨q1,q2.trans hd,q3⟩,aNp _⟩
theorem zj {k:aN} {keep:Int} (h:k.log.length≤140737488355328): (bN k keep).log.length≤140737488355328:=by
 unfold bN
 split
 · show(eI k.log k.forced keep).1.length≤_
   unfold eI
   split
   · show(k.log.take _).length≤_
     rw[aNn];omega
   · exact aNj _
 · exact aNj _
theorem zk {k:aN} (h:k.log.length≤140737488355328): (bL k).log.length≤140737488355328:=by
 unfold bL
 split
 · exact h
 · exact aNj _
end Go.Ab
namespace Go.Proofs.YtmabaopgkimfmaaGreatDoor
open Int renaming toNat_natCast→aNf
open Nat renaming le_of_ble_eq_true→aNg,zero_le→aNj,le_refl→aNp
open List renaming length_append→aNh,length_cons→aNk,length_nil→aNl,getD_eq_getElem?_getD→aNm,length_take→aNn,getElem?_eq_getElem→aNo,getElem?_eq_some_iff→aNq,mem_map→aNr,mem_cons→aNs,all_eq_true→aNt,range→aNu,length_drop→aNv
open Bool renaming and_eq_true→aNi
open Go Go.Ab Go.RowKit
set_option linter.unusedVariables false
set_option linter.unusedSimpArgs false
set_option maxRecDepth 9000
theorem bp (k:aN) (hl:k.log.length≤140737488355328):Sp 25 1 [tV 0 k.V] [tV 0 (.tup [.agg [.d (.i ((aU k).1).id),.d (.b ((aU k).1).up),.d (.s ((aU k).1).log),.d (.i ((aU k).1).forced),.d (.sl (aY ((aU k).1).halves))],.c (.d (.b (aU k).2))])]:=by
 refine sb Tryz.func25 rfl (sq (rT [1,2] (s3 (sq (sq (rT [1,2,7] (s1 (xp (cY k hl) (ai rfl ?_)))))))))
 refine s1 (cd rfl (fun c7=> ?_) fun c7=> ?_)
 · have hno: ¬aX k=true:=fE c7
   refine sq (rT [2,3] (s3 (rt ?_)))
   have hr:aU k=(.zero,false):=aB hno
   refine rq [] [] rfl ?_
   repeat' apply ai
   all_goals try exact qx
   all_goals(first|with_reducible rfl|(rw[hr];done)|(rw[hr];rfl)|rfl)
 have hok:aX k=true:=dD c7
 have hlg:=cJ hok
 refine sk (sq (rT [1,2,4] (s1 (xp (fJ k (⟨by omega,fun x hx=>by have:=hlg.2.2.2.2.2 x hx;omega⟩)) (ai rfl ?_)))))
 refine s2 (sq (sq (rT [2,4,23] (s4 (y4 (y4 (ai pk (cd rfl (fun c23=> ?_) fun c23=> ?_))))))))
 · refine sq (rT [2,3] (s3 (rt ?_)))
   have hr:aU k=(k,false):=by rw[aU,aC hok,aC c23]
   refine rq [] [] rfl ?_
   repeat' apply ai
   all_goals try exact qx
   all_goals(first|with_reducible rfl|(rw[hr];done)|(rw[hr];rfl)|rfl)
 refine sk (sq (rT [2,3] (s1 (xp (uC k (by omega)) (ai rfl ?_)))))
 refine s2 (rt ?_)
 have hr:aU k=(eT k,true):=by rw[aU,aC hok,aB (by rw[c23];decide)]
 refine rq [] [] rfl ?_
 repeat' apply ai
 all_goals try exact qx
 all_goals(first|with_reducible rfl|(rw[hr];done)|(rw[hr];rfl)|rfl)
end Go.Proofs.YtmabaopgkimfmaaGreatDoor
namespace Go.Ab
open Int renaming toNat_natCast→aNf
open Nat renaming le_of_ble_eq_true→aNg,zero_le→aNj,le_refl→aNp
open List renaming length_append→aNh,length_cons→aNk,length_nil→aNl,getD_eq_getElem?_getD→aNm,length_take→aNn,getElem?_eq_getElem→aNo,getElem?_eq_some_iff→aNq,mem_map→aNr,mem_cons→aNs,all_eq_true→aNt,range→aNu,length_drop→aNv
open Bool renaming and_eq_true→aNi
open Go Go.RowKit
set_option linter.unusedVariables false
set_option linter.unusedSimpArgs false
section
variable {P:Program} {cx:Cx P} {σ:St} {ι:Nat→Value} {S:Nat→Prop} {a:Act} {w:World}
theorem RW.reobj (h:RW cx σ ι S a w) (σ1:St) (ι1:Nat→Value) (hev: ∀o k,aP σ (.o o)=some k→ ∃k',aP σ1 (.o o)=some k'∧lF (ι o) (ι1 o) k k') (hsl: ∀s,aP σ1 (.t s)=aP σ (.t s))
 (hob: ∀o k,aP σ1 (.o o)=some k→(aP σ (.o o)=some k∧ι1 o=ι o)∨OR σ1 ι1 w S (ι1 o) k) (hmu: ∀o b,jC σ1 ι1 o b→ ∃o',jC σ ι o' b) (hin: ∀o o' b,jC σ1 ι1 o b→jC σ1 ι1 o' b→o=o'):RW cx σ1 ι1 S a w:=by
 have st:mT σ ι S w σ1 ι1 S w:=⟨fun _ h=>h,fun _ _=>rfl,hev⟩
 refine⟨⟨fun s k hk=> ?_,fun o k hk=> ?_,fun o b hm=> ?_,hin,h.vr.sz⟩,h.size,h.defers,h.fr,fun o b hm=> ?_,h.rd,fun o k hk=> ?_⟩
 · rw[hsl] at hk
   exact oU.step st (h.vr.slots s k hk)
 · rcases hob o k hk with⟨h1,h2⟩|h1
   · rw[h2]
     exact OR.step st (fun _ _=>rfl) (h.vr.objs o k h1)
   · exact h1
 · obtain⟨o',ho'⟩:=hmu o b hm
   exact h.vr.mutS o' b ho'
 · obtain⟨o',ho'⟩:=hmu o b hm
   exact h.own o' b ho'
 · obtain⟨k',h1,h2⟩:=h.io o k hk
   obtain⟨k2,h3,h4⟩:=hev o k' h1
   exact⟨k2,h3,lF.trans h2 h4⟩
variable {z j:Nat} {e:TypeId} {es:Nat} {l1 l2:List (Value×List (List D))} {v:Value} {g:List (List D)}
theorem RW.famOut (h:RW cx σ ι S a w) (hz:aP σ (.o z)=some (.zone (eW e es (l1++(v,g)::l2)))) (hj:aP σ (.o j)=none):
 RW cx (kF (kF σ (.o z) (.zone (eW e es (l1++l2)))) (.o j) (.row e es g)) (fun o=>if o=j then v else if o=z then .tuple ((l1++l2).map (·.1)).toArray else ι o) S a w:=by
 have hne:z≠j:=fun e=>by rw[e,hj] at hz;cases hz
 have hR:xg e es (l1++(v,g)::l2) w S (ι z):=h.vr.objs z _ hz
 have hmz: ∀b,(∃x∈l1++(v,g)::l2,uj x.1=some b)→jC σ ι z b:=fun b hb=>⟨⟨_,hz,trivial⟩,(rS hR).2 hb⟩
 have hsub: ∀x∈l1++l2,x∈l1++(v,g)::l2:=fun x hx=>by
  rcases List.mem_append.1 hx with hx|hx
  · exact List.mem_append_left _ hx
  · exact List.mem_append_right _ (List.mem_cons_of_mem _ hx)
 have hvm: (v,g)∈l1++(v,g)::l2:=List.mem_append_right _ (List.mem_cons_self ..)
 have hR2:xg e es (l1++l2) w S (.tuple ((l1++l2).map (·.1)).toArray):=⟨rfl,fun x hx=>hR.2.1 x (hsub x hx),hR.2.2.sublist (List.Sublist.append (List.Sublist.refl _) (List.sublist_cons_self _ _))⟩
 have hOv:OR [] (fun _=>v) w S v (.row e es g):=hR.2.1 (v,g) hvm
 have hlk: ∀o,aP (kF (kF σ (.o z) (.zone (eW e es (l1++l2)))) (.o j) (.row e es g)) (.o o)=if o=j then some (.row e es g) else if o=z then some (.zone (eW e es (l1++l2))) else aP σ (.o o):=fun o=>by
  rw[dX]
  by_cases h1:o=j
  · subst h1;simp
  · rw[aB (by simpa using fun e=>h1 e.symm),aB h1,dX]
    by_cases h2:o=z
    · subst h2;simp
    · rw[aB (by simpa using fun e=>h2 e.symm),aB h2]
 have hmu: ∀o b,jC (kF (kF σ (.o z) (.zone (eW e es (l1++l2)))) (.o j) (.row e es g)) (fun o=>if o=j then v else if o=z then .tuple ((l1++l2).map (·.1)).toArray else ι o) o b→
  (o=j∧uj v=some b)∨(o=z∧ ∃x∈l1++l2,uj x.1=some b)∨(o≠j∧o≠z∧jC σ ι o b):=by
  rintro o b ⟨⟨k,hk,hl⟩,hb⟩
  rw[hlk] at hk
  by_cases h1:o=j
  · subst h1
    dsimp only at hb
    rw[aC rfl] at hb
    exact .inl ⟨rfl,(vL hOv).1 hb⟩
  · rw[aB h1] at hk
    dsimp only at hb
    rw[aB h1] at hb
    by_cases h2:o=z
    · subst h2
      rw[aC rfl] at hb
      exact .inr (.inl ⟨rfl,(rS hR2).1 hb⟩)
    · rw[aB h2] at hk hb
      exact .inr (.inr ⟨h1,h2,⟨k,hk,hl⟩,hb⟩)
 have hdis: ∀b,uj v=some b→ ¬ ∃x∈l1++l2,uj x.1=some b:=fun b hb ⟨x,hx,hxb⟩=>by
  have hp:=List.pairwise_append.1 hR.2.2
  rcases List.mem_append.1 hx with hx|hx
  · exact hp.2.2 x hx (v,g) (List.mem_cons_self ..) b hxb hb
  · exact(List.pairwise_cons.1 hp.2.1).1 x hx b hb hxb
 have hold: ∀o b,jC (kF (kF σ (.o z) (.zone (eW e es (l1++l2)))) (.o j) (.row e es g)) (fun o=>if o=j then v else if o=z then .tuple ((l1++l2).map (·.1)).toArray else ι o) o b→ ∃o',jC σ ι o' b∧(o=j∨o'=o)∧(o=j→o'=z):=fun o b hm=>by
  rcases hmu o b hm with⟨h1,h2⟩|⟨h1,x,hx,h2⟩|⟨h1,h2,h3⟩
  · exact⟨z,hmz b ⟨_,hvm,h2⟩,.inl h1,fun _=>rfl⟩
  · exact⟨z,hmz b ⟨x,hsub x hx,h2⟩,.inr h1.symm,fun _=>rfl⟩
  · exact⟨o,h3,.inr rfl,fun e=>absurd e h1⟩
 refine h.reobj _ _ (fun o k hk=> ?_) (fun s=>by rw[cF _ _ (by simp),cF _ _ (by simp)]) (fun o k hk=> ?_) (fun o b hm=>by obtain⟨o',h1,_⟩:=hold o b hm;exact⟨o',h1⟩) (fun o o' b hm hm'=> ?_)
 · rw[hlk]
   have h1:o≠j:=fun e=>by rw[e,hj] at hk;cases hk
   rw[aB h1]
   by_cases h2:o=z
   · subst h2
     rw[aC rfl]
     rw[hz] at hk;cases hk
     exact⟨_,rfl,rfl,trivial⟩
   · rw[aB h2]
     refine⟨k,hk,?_⟩
     rw[aB h1,aB h2]
     exact lF.refl' _ _
 · rw[hlk] at hk
   by_cases h1:o=j
   · subst h1
     rw[aC rfl] at hk;cases hk
     right
     rw[aC rfl]
     exact aFc hOv
   · rw[aB h1] at hk
     by_cases h2:o=z
     · subst h2
       rw[aC rfl] at hk;cases hk
       right
       rw[aB h1,aC rfl]
       exact hR2
     · rw[aB h2] at hk
       left
       refine⟨hk,?_⟩
       rw[aB h1,aB h2]
 · rcases hmu o b hm with⟨h1,h2⟩|⟨h1,hx⟩|⟨h1,h1',h2⟩
   · rcases hmu o' b hm' with⟨k1,k2⟩|⟨k1,kx⟩|⟨k1,k1',k2⟩
     · exact h1.trans k1.symm
     · exact absurd kx (hdis b h2)
     · exact absurd (h.vr.inj o' z b k2 (hmz b ⟨_,hvm,h2⟩)) k1'
   · rcases hmu o' b hm' with⟨k1,k2⟩|⟨k1,kx⟩|⟨k1,k1',k2⟩
     · exact absurd hx (hdis b k2)
     · exact h1.trans k1.symm
     · obtain⟨x,hx1,hx2⟩:=hx
       exact absurd (h.vr.inj o' z b k2 (hmz b ⟨x,hsub x hx1,hx2⟩)) k1'
   · rcases hmu o' b hm' with⟨k1,k2⟩|⟨k1,x,hx1,hx2⟩|⟨k1,k1',k2⟩
     · exact absurd (h.vr.inj o z b h2 (hmz b ⟨_,hvm,k2⟩)) h1'
     · exact absurd (h.vr.inj o z b h2 (hmz b ⟨x,hsub x hx1,hx2⟩)) h1'
     · exact h.vr.inj o o' b h2 k2
end
section
variable {P:Program} {cx:Cx P} {σ:St} {ι:Nat→Value} {S:Nat→Prop} {a:Act} {w:World}
variable {z j:Nat} {e:TypeId} {es:Nat} {l1 l2:List (Value×List (List D))} {g:List (List D)}
theorem RW.famIn (h:RW cx σ ι S a w) (hz:aP σ (.o z)=some (.zone (eW e es (l1++l2)))) (hj:aP σ (.o j)=some (.row e es g)):
 RW cx (kF (kF σ (.o z) (.zone (eW e es (l1++(ι j,g)::l2)))) (.o j) .dead) (fun o=>if o=z then .tuple ((l1++(ι j,g)::l2).map (·.1)).toArray else ι o) S a w:=by
 have hne:z≠j:=fun e=>by rw[e,hj] at hz;cases hz
 have hR:xg e es (l1++l2) w S (ι z):=h.vr.objs z _ hz
 have hOv:OR σ ι w S (ι j) (.row e es g):=h.vr.objs j _ hj
 have hmz: ∀b,(∃x∈l1++l2,uj x.1=some b)→jC σ ι z b:=fun b hb=>⟨⟨_,hz,trivial⟩,(rS hR).2 hb⟩
 have hmj: ∀b,uj (ι j)=some b→jC σ ι j b:=fun b hb=>⟨⟨_,hj,trivial⟩,(vL hOv).2 hb⟩
 have hdis: ∀b,uj (ι j)=some b→ ∀x∈l1++l2,uj x.1≠some b:=fun b hb x hx hxb=>hne (h.vr.inj z j b (hmz b ⟨x,hx,hxb⟩) (hmj b hb))
 have hall: ∀x∈l1++(ι j,g)::l2,x∈l1++l2∨x=(ι j,g):=fun x hx=>by
  rcases List.mem_append.1 hx with hx|hx
  · exact .inl (List.mem_append_left _ hx)
  · rcases aNs.1 hx with hx|hx
    · exact .inr hx
    · exact .inl (List.mem_append_right _ hx)
 have hR2:xg e es (l1++(ι j,g)::l2) w S (.tuple ((l1++(ι j,g)::l2).map (·.1)).toArray):=by
  refine⟨rfl,fun x hx=> ?_,?_⟩
  · rcases hall x hx with hx|rfl
    · exact hR.2.1 x hx
    · exact aFc hOv
  · have hp:=List.pairwise_append.1 hR.2.2
    refine List.pairwise_append.2 ⟨hp.1,List.pairwise_cons.2 ⟨fun y hy b hb=>hdis b hb y (List.mem_append_right _ hy),hp.2.1⟩,fun x hx y hy b hb=> ?_⟩
    rcases aNs.1 hy with rfl|hy
    · exact fun hb2=>hdis b hb2 x (List.mem_append_left _ hx) hb
    · exact hp.2.2 x hx y hy b hb
 have hlk: ∀o,aP (kF (kF σ (.o z) (.zone (eW e es (l1++(ι j,g)::l2)))) (.o j) .dead) (.o o)=if o=j then some .dead else if o=z then some (.zone (eW e es (l1++(ι j,g)::l2))) else aP σ (.o o):=fun o=>by
  rw[dX]
  by_cases h1:o=j
  · subst h1;simp
  · rw[aB (by simpa using fun e=>h1 e.symm),aB h1,dX]
    by_cases h2:o=z
    · subst h2;simp
    · rw[aB (by simpa using fun e=>h2 e.symm),aB h2]
 have hmu: ∀o b,jC (kF (kF σ (.o z) (.zone (eW e es (l1++(ι j,g)::l2)))) (.o j) .dead) (fun o=>if o=z then .tuple ((l1++(ι j,g)::l2).map (·.1)).toArray else ι o) o b→
  (o=z∧(jC σ ι z b∨jC σ ι j b))∨(o≠j∧o≠z∧jC σ ι o b):=by
  rintro o b ⟨⟨k,hk,hl⟩,hb⟩
  rw[hlk] at hk
  by_cases h1:o=j
  · rw[aC h1] at hk;cases hk;exact hl.elim
  · rw[aB h1] at hk
    by_cases h2:o=z
    · subst h2
      dsimp only at hb
      rw[aC rfl] at hb
      obtain⟨x,hx,hxb⟩:=(rS hR2).1 hb
      rcases hall x hx with hx|rfl
      · exact .inl ⟨rfl,.inl (hmz b ⟨x,hx,hxb⟩)⟩
      · exact .inl ⟨rfl,.inr (hmj b hxb)⟩
    · dsimp only at hb
      rw[aB h2] at hk hb
      exact .inr ⟨h1,h2,⟨k,hk,hl⟩,hb⟩
 refine h.reobj _ _ (fun o k hk=> ?_) (fun s=>by rw[cF _ _ (by simp),cF _ _ (by simp)]) (fun o k hk=> ?_) (fun o b hm=> ?_) (fun o o' b hm hm'=> ?_)
 · rw[hlk]
   by_cases h1:o=j
   · rw[aC h1]
     exact⟨_,rfl,by cases k<;>trivial⟩
   · rw[aB h1]
     by_cases h2:o=z
     · subst h2
       rw[aC rfl]
       rw[hz] at hk;cases hk
       exact⟨_,rfl,rfl,trivial⟩
     · rw[aB h2]
       refine⟨k,hk,?_⟩
       rw[aB h2]
       exact lF.refl' _ _
 · rw[hlk] at hk
   by_cases h1:o=j
   · rw[aC h1] at hk;cases hk
     exact .inr trivial
   · rw[aB h1] at hk
     by_cases h2:o=z
     · subst h2
       rw[aC rfl] at hk;cases hk
       right
       rw[aC rfl]
       exact hR2
     · rw[aB h2] at hk
       left
       refine⟨hk,?_⟩
       rw[aB h2]
 · rcases hmu o b hm with⟨_,h2|h2⟩|⟨_,_,h2⟩
   · exact⟨z,h2⟩
   · exact⟨j,h2⟩
   · exact⟨o,h2⟩
 · rcases hmu o b hm with⟨h1,h2⟩|⟨h1,h1',h2⟩
   · rcases hmu o' b hm' with⟨k1,k2⟩|⟨k1,k1',k2⟩
     · exact h1.trans k1.symm
     · rcases h2 with h2|h2
       · exact absurd (h.vr.inj o' z b k2 h2) k1'
       · exact absurd (h.vr.inj o' j b k2 h2) k1
   · rcases hmu o' b hm' with⟨k1,k2⟩|⟨k1,k1',k2⟩
     · rcases k2 with k2|k2
       · exact absurd (h.vr.inj o z b h2 k2) h1'
       · exact absurd (h.vr.inj o j b h2 k2) h1
     · exact h.vr.inj o o' b h2 k2
end
section
variable {P:Program} {f:FuncId} {n:Nat} {σin σout:St} {rl:List (Nat×Nat)} {bor:List Nat} {σ0:St} {Xs:List V} {Ra:List (cL×Option K)} {robj:List (Nat×K)}
theorem aIi (hs:Spec P f n σin σout) {o:Oper} {c:Call} (ho:o.op= .call c) (hc:c.callee= .value (.func f)) (hn:Xs.length=n)
 (hm:jO (dA 0 Xs++kA robj) σin rl bor) (hk:fZ rl σin σout=true) (hb:bor=[]∨iC σout)
 {cx:Cx P} {σ:St} {ι:Nat→Value} {S:Nat→Prop} {a:Act} {w:World} (hr:bX (oW Ra robj rl σin σout) σ) (hw:RW cx σ ι S a w) (hd: ∀d,o.dst=some d→d<cx.N)
 (hlen:Xs.length=c.args.size) (hargs: ∀(s:Nat) (X:V),Xs[s]? =some X→ ∃x,c.args.toList[s]? =some x∧kZ σ ι w S X (a.eval x))
 (next:Act→World→Prop) (Q:Exit→Act→World→Prop)
 (hnext: ∀ι' S' a' w',(∀j k k',aP σin (.o j)=some k→aP σout (.o j)=some k'→lF (ι (iB rl j)) (ι' (iB rl j)) k k')→RW cx (eV σ (gM rl σin σout o.dst)) ι' S' a' w'→next a' w'):o.wp P a w next Q:=by
 obtain⟨⟨fn,hf,hbody,hname⟩,hcall⟩:=hs
 let args:Array Value:=c.args.map a.eval
 let ν:Nat→Value:=fun i=>(args[i]?).getD undef
 have hsz:args.size=n:=by show(c.args.map a.eval).size=n;rw[Array.size_map,← hn,hlen]
 have hargν: ∀i,i<n→args[i]? =some (ν i):=fun i hi=>by
  show args[i]? =some ((args[i]?).getD undef)
  rw[Array.getElem?_eq_getElem (by omega)];rfl
 have hνr: ∀s X,Xs[s]? =some X→kZ σ ι w S X (ν s):=fun s X hX=>by
  obtain⟨x,h1,h2⟩:=hargs s X hX
  have:ν s=a.eval x:=by
   show((c.args.map a.eval)[s]?).getD undef=a.eval x
   rw[Array.getElem?_toList] at h1
   rw[Array.getElem?_map,h1];rfl
  rw[this];exact h2
 have hlo: ∀o,aP (dA 0 Xs++cT σ) (.o o)=aP σ (.o o):=fun o=>by rw[gZ,lZ]
 have st:mT σ ι S w (dA 0 Xs++cT σ) ι S w:=⟨fun _ h=>h,fun _ _=>rfl,fun o k hk=>⟨k,by rw[hlo];exact hk,lF.refl' _ _⟩⟩
 have hmut: ∀o b,jC (dA 0 Xs++cT σ) ι o b↔jC σ ι o b:=fun o b=>by unfold jC;rw[hlo]
 have hvr0:VR (dA 0 Xs++cT σ) ι ν S w:=by
  refine⟨fun s x hx=> ?_,fun o k hk=>OR.step st (fun _ _=>rfl) (hw.vr.objs o k (by rw[← hlo];exact hk)),fun o b q=>hw.vr.mutS o b ((hmut o b).1 q),fun o o' b q q'=>hw.vr.inj o o' b ((hmut o b).1 q) ((hmut o' b).1 q'),hw.vr.sz⟩
  obtain⟨X,h1,h2⟩:=qD hx
  cases h2
  exact kZ.step st (hνr s _ h1)
 have hsub: ∀l k,aP (dA 0 Xs++kA robj) l=some k→aP (dA 0 Xs++cT σ) l=some k:=fun l k h=>by
  cases l with
  |o o=>
   rw[hlo]
   rw[gZ] at h
   exact hr (.o o,some k) (List.mem_append_left _ (List.mem_append_right _ (aNr.2 ⟨(o,k),vP h,rfl⟩)))
  |t s=>
   obtain⟨X,h1,rfl⟩:=oD h
   have hs:=(aNq.1 h1).1
   rw[nM 0 Xs _ s (aNj _) (by omega)];simp[h1]
 have hvr1:=pU hm hsub hvr0
 have hgb:GB P w fun b=> ∃o,jC σin (fun j=>ι (iB rl j)) o b:=fun w2 h2=>cx.gb w2 (hw.fr.trans h2 fun x hx ⟨o,ho⟩=>by
  rcases hw.own _ x ((hmut _ _).1 (hm.mut hsub ho)) with h3|h3
  · omega
  · exact h3)
 have hcl:=hcall _ ν _ w args hgb hvr1 hsz hargν
 obtain⟨callee,cargs,argTypes⟩:=c
 dsimp only at hc
 subst hc
 have hbd: ∃cd,fn.body=some cd:=by
  cases hq:fn.body with
  |none=>rw[hq] at hbody;cases hbody
  |some cd=>exact⟨cd,rfl⟩
 obtain⟨cd,hbd⟩:=hbd
 have hrun: (execOp a.eval o).run P w= .ok (.enter f args) w:=by
  have h1:=MuLone.run_callFunc_enter (P:=P) hf hname hbd args w
  have e: (execOp a.eval o).run P w=(callFunc f (args++ #[])).run P w:=by
   simp[execOp,ho,resolve,invoke,Deferred.ofValue,args,Act.eval]
  rw[e,Array.append_empty];exact h1
 unfold Oper.wp
 rw[hrun,Oper.upon_enter]
 intro cs
 obtain⟨e,w',fr,⟨v,ι',S',rfl,hpost⟩,hcomes⟩:=hcl cs
 refine⟨_,w',fr,?_,hcomes⟩
 dsimp only
 have hrw:=uy (Ra:=Ra) hm hk hb hr hw hνr hpost
 have hSK: ∀{l:cL} {k:K},aP σout l=some k→(∀b,S' b→(S b∨(bor=[]∧S' b)))∨oC k:=fun{l k} h=>by
  rcases hb with e|hs
  · exact .inl fun b hb=> .inr ⟨e,hb⟩
  · exact .inr (hs (l,k) (pT h))
 have hev: ∀j k k',aP σin (.o j)=some k→aP σout (.o j)=some k'→lF (ι (iB rl j)) (kG rl σout ι' ι (iB rl j)) k k':=fun j k k' h1 h2=>by
  rw[rK hk (dQ h2)]
  exact hpost.io j k k' h1 h2
 cases hdst:o.dst with
 |none=>
  refine hnext (kG rl σout ι' ι) (fun b=>S b∨(bor=[]∧S' b)) _ w' hev ?_
  rw[hdst]
  simp only[gM,xR,List.append_nil]
  exact hrw
 |some d=>
  have hd':=hd d hdst
  cases hq:aP σout (.t 0) with
  |none=>
   refine hnext (kG rl σout ι' ι) (fun b=>S b∨(bor=[]∧S' b)) _ w' hev ?_
   rw[hdst]
   simp only[gM,xR,gN,hq,eV]
   exact hrw.putDead hd' v
  |some k=>
   cases k with
   |v X=>
    refine hnext (kG rl σout ι' ι) (fun b=>S b∨(bor=[]∧S' b)) _ w' hev ?_
    rw[hdst]
    simp only[gM,xR,gN,hq,eV]
    exact hrw.put hd' (uw hk (hSK hq) (hpost.vr.slots 0 (.v X) hq))
   |_=>
    refine hnext (kG rl σout ι' ι) (fun b=>S b∨(bor=[]∧S' b)) _ w' hev ?_
    rw[hdst]
    simp only[gM,xR,gN,hq,eV]
    exact hrw.putDead hd' v
end
theorem pa {l:cL}: ∀{W:List (cL×K)} {σ1 σ2:St},aP σ1 l=aP σ2 l→aP (eV σ1 W) l=aP (eV σ2 W) l
 | [],_,_,h=>h
 |p::r,σ1,σ2,h=>by
  unfold eV
  refine pa ?_
  rw[dX,dX,h]
theorem iq {l:cL}: ∀{W:List (cL×K)} {σ:St},(∀p∈W,p.1≠l)→aP (eV σ W) l=aP σ l
 | [],_,_=>rfl
 |p::r,σ,h=>by
  unfold eV
  rw[iq fun q hq=>h q (List.mem_cons_of_mem _ hq),dX,aB (h p (List.mem_cons_self ..))]
section
variable {P:Program} {cx:Cx P} {σ σ1:St} {ι:Nat→Value} {S:Nat→Prop} {a:Act} {w:World}
theorem RW.same (h:RW cx σ ι S a w) (e: ∀l,aP σ1 l=aP σ l):RW cx σ1 ι S a w:=by
 have hm: ∀o b,jC σ1 ι o b→jC σ ι o b:=fun o b ⟨⟨k,hk,hl⟩,hb⟩=>⟨⟨k,by rw[← e];exact hk,hl⟩,hb⟩
 exact h.reobj σ1 ι (fun o k hk=>⟨k,by rw[e];exact hk,lF.refl' _ _⟩) (fun s=>e _) (fun o k hk=> .inl ⟨by rw[← e];exact hk,rfl⟩) (fun o b hb=>⟨o,hm o b hb⟩) (fun o o' b h1 h2=>h.vr.inj o o' b (hm o b h1) (hm o' b h2))
end
inductive oS (v:Value) (n j:Nat):List V→List V→Prop
 |nil:oS v n j [] []
 |same {X Xs Ys} (h:oS v n j Xs Ys):oS v n j (X::Xs) (X::Ys)
 |fam {Xs Ys} (h:oS v n j Xs Ys):oS v n j (.e (.c (.d (.x v)))::Xs) (.e (.c (.own j n))::Ys)
theorem oS.length {v:Value} {n j:Nat} {Xs Ys:List V} (h:oS v n j Xs Ys):Ys.length=Xs.length:=by
 induction h with
 |nil=>rfl
 |same _ ih=>simp[ih]
 |fam _ ih=>simp[ih]
theorem oS.get {v:Value} {n j:Nat} {Xs Ys:List V} (h:oS v n j Xs Ys): ∀(s:Nat) (Y:V),Ys[s]? =some Y→Xs[s]? =some Y∨(Xs[s]? =some (.e (.c (.d (.x v))))∧Y= .e (.c (.own j n))):=by
 induction h with
 |nil=>intro s Y h;cases h
 |same _ ih=>
  intro s Y h
  cases s with
  |zero=>exact .inl h
  |succ s=>exact ih s Y h
 |fam _ ih=>
  intro s Y h
  cases s with
  |zero=>simp at h;exact .inr ⟨rfl,h.symm⟩
  |succ s=>exact ih s Y h
section
variable {P:Program} {f:FuncId} {n:Nat} {σin σout:St} {rl:List (Nat×Nat)} {bor:List Nat} {σ0:St} {Xs Ys:List V} {Ra:List (cL×Option K)} {robj:List (Nat×K)}
variable {z j i:Nat} {e:TypeId} {es:Nat} {l1 l2:List (Value×List (List D))} {v:Value} {g g':List (List D)}
theorem aIj (hs:Spec P f n σin σout) {o:Oper} {c:Call} (ho:o.op= .call c) (hc:c.callee= .value (.func f)) (hx:kz σ0 c.args.toList=some (Xs,Ra)) (hY:oS v g.length j Xs Ys) (hn:Ys.length=n)
 (hm:jO (dA 0 Ys++kA ((j,.row e es g)::robj)) σin rl bor) (hk:fZ rl σin σout=true) (hb:bor=[]∨iC σout)
 (hi:aP σin (.o i)=some (.row e es g)) (hi':aP σout (.o i)=some (.row e es g')) (hij:iB rl i=j) (hg:g'.length=g.length)
 (hfR: ∀p∈oW Ra robj rl σin σout,p.1≠ .o z∧p.1≠ .o j) (hfW: ∀p∈gM rl σin σout o.dst,p.1≠ .o z):
 xH P o ((.o z,some (.zone (eW e es (l1++(v,g)::l2))))::(.o j,none)::oW Ra robj rl σin σout) (gM rl σin σout o.dst++[(.o z,.zone (eW e es (l1++(v,g')::l2))),(.o j,.dead)]):=by
 intro cx σ ι S a w hr hw hd next Q hnext
 have hz:aP σ (.o z)=some (.zone (eW e es (l1++(v,g)::l2))):=hr _ (List.mem_cons_self ..)
 have hj:aP σ (.o j)=none:=hr (.o j,none) (List.mem_cons_of_mem _ (List.mem_cons_self ..))
 have hne:z≠j:=fun e=>by rw[e,hj] at hz;cases hz
 have hw1:=hw.famOut hz hj
 have hskip: ∀l,l≠ .o z→l≠ .o j→aP (kF (kF σ (.o z) (.zone (eW e es (l1++l2)))) (.o j) (.row e es g)) l=aP σ l:=fun l h1 h2=>by
  rw[cF _ _ (fun e=>h2 e.symm),cF _ _ (fun e=>h1 e.symm)]
 have hj1:aP (kF (kF σ (.o z) (.zone (eW e es (l1++l2)))) (.o j) (.row e es g)) (.o j)=some (.row e es g):=by rw[dX,aC rfl]
 have hr0:bX (oW Ra robj rl σin σout) (kF (kF σ (.o z) (.zone (eW e es (l1++l2)))) (.o j) (.row e es g)):=fun p hp=>by
  rw[hskip _ (hfR p hp).1 (hfR p hp).2]
  exact hr p (List.mem_cons_of_mem _ (List.mem_cons_of_mem _ hp))
 have hr1:bX (oW Ra ((j,.row e es g)::robj) rl σin σout) (kF (kF σ (.o z) (.zone (eW e es (l1++l2)))) (.o j) (.row e es g)):=fun p hp=>by
  rcases List.mem_append.1 hp with hp|hp
  · rcases List.mem_append.1 hp with hp|hp
    · exact hr0 p (List.mem_append_left _ (List.mem_append_left _ hp))
    · rcases aNs.1 hp with rfl|hp
      · exact hj1
      · exact hr0 p (List.mem_append_left _ (List.mem_append_right _ hp))
  · exact hr0 p (List.mem_append_right _ hp)
 obtain⟨hlen,hargs⟩:=zF hw1 hx hr0.left.left
 have hlY:=hY.length
 refine aIi (Ra:=Ra) hs ho hc hn hm hk hb hr1 hw1 hd (by rw[hlY,hlen,Array.length_toList]) (fun s Y hs=> ?_) next Q (fun ι' S' a' w' hev hrw=> ?_)
 · rcases hY.get s Y hs with h|⟨h,rfl⟩
   · exact hargs s Y h
   · obtain⟨x,h1,h2⟩:=hargs s _ h
     refine⟨x,h1,?_⟩
     have h3:DR w S (.x v) (a.eval x):=h2
     generalize a.eval x=u at h3
     cases h3 with
     |x v hv=>exact⟨hv,.inl ⟨e,es,g,hj1,aNp _,fun _=>(aC rfl).symm⟩⟩
 · have hv:ι' j=v:=by
    have h1:=hev i _ _ hi hi'
    rw[hij,aC rfl] at h1
    exact h1.2.2 hg
   have hz2:aP (eV (kF (kF σ (.o z) (.zone (eW e es (l1++l2)))) (.o j) (.row e es g)) (gM rl σin σout o.dst)) (.o z)=some (.zone (eW e es (l1++l2))):=by
    rw[iq hfW,cF _ _ (by simpa using fun e=>hne e.symm),dX,aC rfl]
   have hj2:aP (eV (kF (kF σ (.o z) (.zone (eW e es (l1++l2)))) (.o j) (.row e es g)) (gM rl σin σout o.dst)) (.o j)=some (.row e es g'):=by
    unfold gM
    rw[gN,iq (l:= .o j),← hij,mW hk hi']
    · rfl
    · intro p hp
      cases hd2:o.dst with
      |none=>rw[hd2] at hp;cases hp
      |some d=>rw[hd2] at hp;simp only[xR,List.mem_singleton] at hp;subst hp;simp
   have h4:=hrw.famIn hz2 hj2
   rw[hv] at h4
   refine hnext _ _ _ _ (h4.same fun l=> ?_)
   rw[gN]
   show aP (kF (kF _ _ _) _ _) l=_
   rw[dX,dX,dX,dX]
   by_cases h5: (cL.o j)=l
   · rw[aC h5,aC h5]
   · rw[aB h5,aB h5]
     by_cases h6: (cL.o z)=l
     · rw[aC h6,aC h6]
     · rw[aB h6,aB h6]
       exact pa (hskip l (fun e=>h6 e.symm) (fun e=>h5 e.symm)).symm
end
def aIk (j:Nat) (v:Value):C→C
 | .own o n=>if o=j then .d (.x v) else .own o n
 |c=>c
def aLp (j:Nat) (v:Value):E→E
 | .c c=> .c (aIk j v c)
 | .agg cs=> .agg (cs.map (aIk j v))
def aGk (j:Nat) (v:Value):V→V
 | .e x=> .e (aLp j v x)
 | .tup xs=> .tup (xs.map (aLp j v))
def okC (j m:Nat):C→Bool
 | .own o n=> !(o==j)||n==m
 |_=>true
def okE (j m:Nat):E→Bool
 | .c c=>okC j m c
 | .agg cs=>cs.all (okC j m)
def okV (j m:Nat):V→Bool
 | .e x=>okE j m x
 | .tup xs=>xs.all (okE j m)
section
variable {σ σ':St} {ι ι':Nat→Value} {w:World} {S:Nat→Prop} {j:Nat} {e:TypeId} {es:Nat} {g:List (List D)}
theorem pb (st:mT σ ι S w σ' ι' S w) (hj:aP σ (.o j)=some (.row e es g)) {c:C} {u:Value} (hok:okC j g.length c=true) (h:CR σ ι w S c u):CR σ' ι' w S (aIk j (ι j) c) u:=by
 cases c with
 |own o n=>
  simp only[aIk]
  split
  · rename_i e1
    subst e1
    simp[okC] at hok
    subst hok
    obtain⟨h1,h2⟩:=h
    rcases h2 with⟨e2,es2,rows,hl,hn,hv⟩|hd
    · rw[hj] at hl;cases hl
      have:=hv rfl
      subst this
      exact .x _ h1
    · rw[hj] at hd;cases hd
  · exact CR.step st h
 |_=>exact CR.step st h
theorem pc (st:mT σ ι S w σ' ι' S w) (hj:aP σ (.o j)=some (.row e es g)) {c:E} {u:Value} (hok:okE j g.length c=true) (h:ER σ ι w S c u):ER σ' ι' w S (aLp j (ι j) c) u:=by
 cases c with
 |c c=>exact pb st hj hok h
 |agg cs=>
  obtain⟨vs,rfl,hl,hk⟩:=h
  refine⟨vs,rfl,by rw[List.length_map];exact hl,fun k c u hc hu=> ?_⟩
  rw[List.getElem?_map] at hc
  cases hq:cs[k]? with
  |none=>rw[hq] at hc;cases hc
  |some c0=>
   rw[hq] at hc;cases hc
   exact pb st hj (aNt.1 hok c0 (List.mem_of_getElem? hq)) (hk k c0 u hq hu)
theorem aB0 (st:mT σ ι S w σ' ι' S w) (hj:aP σ (.o j)=some (.row e es g)) {c:V} {u:Value} (hok:okV j g.length c=true) (h:kZ σ ι w S c u):kZ σ' ι' w S (aGk j (ι j) c) u:=by
 cases c with
 |e x=>exact pc st hj hok h
 |tup xs=>
  obtain⟨vs,rfl,hl,hk⟩:=h
  refine⟨vs,rfl,by rw[List.length_map];exact hl,fun k c u hc hu=> ?_⟩
  rw[List.getElem?_map] at hc
  cases hq:xs[k]? with
  |none=>rw[hq] at hc;cases hc
  |some c0=>
   rw[hq] at hc;cases hc
   exact pc st hj (aNt.1 hok c0 (List.mem_of_getElem? hq)) (hk k c0 u hq hu)
end
section
variable {P:Program} {cx:Cx P} {σ:St} {ι:Nat→Value} {S:Nat→Prop} {a:Act} {w:World}
variable {z j s:Nat} {e:TypeId} {es:Nat} {l:List (Value×List (List D))} {g:List (List D)} {X:V}
theorem RW.absorb (h:RW cx σ ι S a w) (hz:aP σ (.o z)=some (.zone (eW e es l))) (hj:aP σ (.o j)=some (.row e es g)) (hs:aP σ (.t s)=some (.v X)) (hok:okV j g.length X=true):
 ∃ι',RW cx (kF (kF (kF σ (.o z) (.zone (eW e es (l++[(ι j,g)])))) (.o j) .dead) (.t s) (.v (aGk j (ι j) X))) ι' S a w:=by
 have hne:z≠j:=fun e=>by rw[e,hj] at hz;cases hz
 have h1:=RW.famIn (l1:=l) (l2:=[]) h (by rw[List.append_nil];exact hz) hj
 have st:mT σ ι S w (kF (kF σ (.o z) (.zone (eW e es (l++[(ι j,g)])))) (.o j) .dead) (fun o=>if o=z then .tuple ((l++[(ι j,g)]).map (·.1)).toArray else ι o) S w:=by
  refine⟨fun _ h=>h,fun _ _=>rfl,fun o k hk=> ?_⟩
  rw[dX]
  by_cases h2: (cL.o j)= .o o
  · rw[aC h2]
    exact⟨_,rfl,by cases k<;>trivial⟩
  · rw[aB h2,dX]
    by_cases h3: (cL.o z)= .o o
    · rw[aC h3]
      cases h3
      rw[hz] at hk;cases hk
      exact⟨_,rfl,rfl,trivial⟩
    · rw[aB h3]
      refine⟨k,hk,?_⟩
      have h4:o≠z:=fun e=>h3 (by rw[e])
      rw[aB h4]
      exact lF.refl' _ _
 refine⟨_,h1.reslot (fun o=>cF _ _ (by simp)) fun t k hk=> ?_⟩
 rw[dX] at hk
 by_cases ht: (cL.t s)= .t t
 · rw[aC ht] at hk
   cases ht;cases hk
   exact aB0 st hj hok (h.vr.slots s _ hs)
 · rw[aB ht] at hk
   exact h1.vr.slots t k hk
end
section
variable {P:Program} {io:List Nat} {f:FuncId} {n:Nat} {σin σout:St} {rl:List (Nat×Nat)} {bor:List Nat} {σ:St} {Xs:List V} {Ra:List (cL×Option K)} {robj:List (Nat×K)}
variable {o:Oper} {R:List (cL×Option K)} {W:List (cL×K)} {z j s:Nat} {e:TypeId} {es:Nat} {l:List (Value×List (List D))} {g:List (List D)} {X:V}
theorem aCw {σ:St} {l:cL} {k:K} (h:wr W l=some k):aP (eV σ W) l=some k:=by rw[iS,h]
theorem xH.absorb (h:xH P o R W) (hj:wr W (.o j)=some (.row e es g)) (hs:wr W (.t s)=some (.v X)) (hz:wr W (.o z)=none) (hok:okV j g.length X=true):
 OpE P o ((.o z,some (.zone (eW e es l)))::R) fun W'=> ∃v,W'=W++[(.o z,.zone (eW e es (l++[(v,g)]))),(.o j,.dead),(.t s,.v (aGk j v X))]:=by
 intro cx σ ι S a w hr hw hd next Q hnext
 refine h cx σ ι S a w (fun p hp=>hr p (List.mem_cons_of_mem _ hp)) hw hd next Q fun ι' S' a' w' hw'=> ?_
 have hz2:aP (eV σ W) (.o z)=some (.zone (eW e es l)):=by
  rw[iS,hz]
  exact hr (.o z,_) (List.mem_cons_self ..)
 obtain⟨ι2,h2⟩:=hw'.absorb hz2 (aCw hj) (aCw hs) hok
 refine hnext _ ⟨ι' j,rfl⟩ ι2 S' a' w' ?_
 rw[gN]
 exact h2
theorem aB1 {k:St→Prop} (z j s:Nat) (hs:Spec P f n σin σout) (ho: ∃c,o.op= .call c∧c.callee= .value (.func f)∧kz σ c.args.toList=some (Xs,Ra)) (hn:Xs.length=n)
 (hm:jO (dA 0 Xs++kA robj) σin rl bor) (hk:fZ rl σin σout=true) (hb:bor=[]∨iC σout) (h1: ∀p∈robj,aP σ (.o p.1)=some p.2) (h2: ∀j∈eJ σin σout,aP σ (.o (iB rl j))=none)
 (hz:aP σ (.o z)=some (.zone (eW e es l))) (hj:wr (gM rl σin σout o.dst) (.o j)=some (.row e es g)) (hX:wr (gM rl σin σout o.dst) (.t s)=some (.v X)) (hz2:wr (gM rl σin σout o.dst) (.o z)=none) (hok:okV j g.length X=true)
 (h: ∀v,mN σ (gM rl σin σout o.dst++[(.o z,.zone (eW e es (l++[(v,g)]))),(.o j,.dead),(.t s,.v (aGk j v X))]) k): ∃σ1,xv io σ σ1∧ ∃R Ws,OpE P o R Ws∧bX R σ1∧ ∀W,Ws W→mN σ1 W k:=by
 obtain⟨c,hc1,hc2,hx⟩:=ho
 refine⟨σ,xv.rfl,_,_,(xU hs hc1 hc2 hx hn hm hk hb).absorb (l:=l) hj hX hz2 hok,fun p hp=> ?_,fun W ⟨v,e⟩=>e▸h v⟩
 rcases aNs.1 hp with rfl|hp
 · exact hz
 · exact vQ hx h1 h2 p hp
end
section
variable {P:Program} {cx:Cx P} {σ:St} {ι:Nat→Value} {S:Nat→Prop} {a:Act} {w:World}
theorem RW.newFam (h:RW cx σ ι S a w) {z:Nat} (e:TypeId) (es:Nat) (hz:aP σ (.o z)=none):
 RW cx (kF σ (.o z) (.zone (eW e es []))) (fun o=>if o=z then .tuple #[] else ι o) S a w:=by
 have hlo: ∀o,aP (kF σ (.o z) (.zone (eW e es []))) (.o o)=if o=z then some (.zone (eW e es [])) else aP σ (.o o):=fun o=>by
  rw[dX]
  by_cases h1:o=z
  · subst h1;simp
  · rw[aB (by simpa using fun e=>h1 e.symm),aB h1]
 have hmu: ∀o b,jC (kF σ (.o z) (.zone (eW e es []))) (fun o=>if o=z then .tuple #[] else ι o) o b→jC σ ι o b:=by
  rintro o b ⟨⟨k,hk,hl⟩,hb⟩
  rw[hlo] at hk
  by_cases h1:o=z
  · dsimp only at hb
    rw[aC h1] at hb
    obtain⟨v,hv,_⟩:=hb
    simp at hv
  · dsimp only at hb
    rw[aB h1] at hk hb
    exact⟨⟨k,hk,hl⟩,hb⟩
 refine h.reobj _ _ (fun o k hk=> ?_) (fun s=>cF _ _ (by simp)) (fun o k hk=> ?_) (fun o b hm=>⟨o,hmu o b hm⟩) (fun o o' b h1 h2=>h.vr.inj o o' b (hmu o b h1) (hmu o' b h2))
 · have h1:o≠z:=fun e1=>by rw[e1,hz] at hk;cases hk
   exact⟨k,by rw[hlo,aB h1];exact hk,by rw[aB h1];exact lF.refl' _ _⟩
 · rw[hlo] at hk
   by_cases h1:o=z
   · rw[aC h1] at hk;cases hk
     right
     rw[aC h1]
     exact⟨rfl,by simp,List.Pairwise.nil⟩
   · rw[aB h1] at hk
     exact .inl ⟨hk,by rw[aB h1]⟩
end
theorem SW.newFam {P:Program} {io:List Nat} {Q:Ex→St→Prop} {σ:St} {c:Code} (z:Nat) (e:TypeId) (es:Nat) (hz:aP σ (.o z)=none) (h:xk σ (.o z) (.zone (eW e es [])) (SW P io c Q)):SW P io c Q σ:=by
 rw[uL] at h
 intro cx ι S a w hio hw hf
 exact h cx _ S a w hio (hw.newFam e es hz) hf
def bV.rowX (h:bV) (v:Value):List D:=[.i h.frm,.i h.num,.i h.to,.i h.til,.i h.size,.x v]
def bM:List bV→List Value→List (List D)
 | [],_=>[]
 |h::hs,[]=>h.row::aY hs
 |h::hs,v::vs=>h.rowX v::bM hs vs
def cS:List bV→List Value→List (Value×List (List D))
 |h::hs,v::vs=>(v,bI h.got)::cS hs vs
 |_,_=>[]
theorem rQ (hs:List bV):bM hs []=aY hs:=by cases hs<;>rfl
theorem bC: ∀(hs:List bV) (vs:List Value),(bM hs vs).length=hs.length
 | [],_=>rfl
 |h::hs,[]=>by simp[bM,aY]
 |h::hs,v::vs=>by simp[bM,bC hs vs]
theorem wR: ∀(hs:List bV) (vs:List Value) (i:Nat),vs.length≤i→i<hs.length→(bM hs vs).getD i []=(hs.getD i .zero).row
 | [],_,i,_,h=>absurd h (Nat.not_lt_zero _)
 |h::hs,[],0,_,_=>rfl
 |h::hs,[],i+1,_,h2=>by
  have h3:=wR hs [] i (aNj _) (by simpa using h2)
  rw[rQ] at h3
  simpa[bM] using h3
 |h::hs,v::vs,0,h1,_=>absurd h1 (by simp)
 |h::hs,v::vs,i+1,h1,h2=>by
  have h3:=wR hs vs i (by simpa using h1) (by simpa using h2)
  simpa[bM] using h3
theorem ue: ∀(hs:List bV) (vs:List Value) (v:Value),vs.length<hs.length→(bM hs vs).set vs.length ((hs.getD vs.length .zero).rowX v)=bM hs (vs++[v])
 | [],_,_,h=>absurd h (Nat.not_lt_zero _)
 |h::hs,[],v,_=>by simp[bM,rQ]
 |h::hs,u::vs,v,h1=>by
  have h3:=ue hs vs v (by simpa using h1)
  simpa[bM] using h3
theorem ir: ∀(hs:List bV) (vs:List Value) (v:Value),vs.length<hs.length→cS hs vs++[(v,bI (hs.getD vs.length .zero).got)]=cS hs (vs++[v])
 | [],_,_,h=>absurd h (Nat.not_lt_zero _)
 |h::hs,[],v,_=>by simp[cS]
 |h::hs,u::vs,v,h1=>by
  have h3:=ir hs vs v (by simpa using h1)
  simpa[cS] using h3
theorem cH: ∀(hs:List bV) (vs:List Value) (l:List (Value×List (List D))),(∀x∈cS hs vs,x∈l)→cf l (bM hs vs) (aY hs)
 | [],_,l,_=>⟨rfl,fun i r r2 h=>by simp[bM] at h⟩
 |h::hs,[],l,_=>by
  refine⟨by simp[bM,aY],fun i r r2 h1 h2=> ?_⟩
  rw[rQ,h2] at h1
  cases h1
  exact⟨rfl,fun k d d2 q1 q2=>by rw[q1] at q2;cases q2;exact .inl rfl⟩
 |h::hs,v::vs,l,hl=>by
  obtain⟨i1,i2⟩:=cH hs vs l (fun x hx=>hl x (List.mem_cons_of_mem _ hx))
  refine⟨by simp only[bM,aY,List.map_cons,aNk] at i1 ⊢; rw[i1],fun i r r2 h1 h2=> ?_⟩
  cases i with
  |zero=>
   simp[bM] at h1;simp[aY] at h2
   subst h1;subst h2
   refine⟨rfl,fun k d d2 q1 q2=> ?_⟩
   match k,q1,q2 with
   |0,q1,q2=>cases q1;cases q2;exact .inl rfl
   |1,q1,q2=>cases q1;cases q2;exact .inl rfl
   |2,q1,q2=>cases q1;cases q2;exact .inl rfl
   |3,q1,q2=>cases q1;cases q2;exact .inl rfl
   |4,q1,q2=>cases q1;cases q2;exact .inl rfl
   |5,q1,q2=>cases q1;cases q2;exact .inr ⟨v,bI h.got,hl _ (List.mem_cons_self ..),rfl,rfl⟩
   |k+6,q1,q2=>simp[bV.rowX] at q1
  |succ i=>exact i2 i r r2 (by simpa[bM] using h1) (by simpa[aY] using h2)
section
variable {P:Program} {f:FuncId} {n:Nat} {σin σout:St} {rl:List (Nat×Nat)} {bor:List Nat} {σ:St} {Xs:List V} {Ra:List (cL×Option K)} {robj:List (Nat×K)}
variable {o:Oper} {c:Call} {e:TypeId} {es:Nat} {l:List (Value×List (List D))} {g:List (List D)} {X:V}
theorem aB2 {k:List (cL×Option K)→List (cL×K)→Prop} (z j s:Nat) (hs:Spec P f n σin σout) (ho:o.op= .call c) (hc:c.callee= .value (.func f)) (hx:kz σ c.args.toList=some (Xs,Ra)) (hn:Xs.length=n)
 (hm:jO (dA 0 Xs++kA robj) σin rl bor) (hk:fZ rl σin σout=true) (hb:bor=[]∨iC σout) (h1: ∀p∈robj,aP σ (.o p.1)=some p.2) (h2: ∀j∈eJ σin σout,aP σ (.o (iB rl j))=none)
 (hz:aP σ (.o z)=some (.zone (eW e es l))) (hj:wr (gM rl σin σout o.dst) (.o j)=some (.row e es g)) (hX:wr (gM rl σin σout o.dst) (.t s)=some (.v X)) (hz2:wr (gM rl σin σout o.dst) (.o z)=none) (hok:okV j g.length X=true)
 (h: ∀v,k ((.o z,some (.zone (eW e es l)))::oW Ra robj rl σin σout) (gM rl σin σout o.dst++[(.o z,.zone (eW e es (l++[(v,g)]))),(.o j,.dead),(.t s,.v (aGk j v X))])): ∃R Ws,OpE P o R Ws∧bX R σ∧(∃W,Ws W)∧ ∀W,Ws W→k R W:=by
 refine⟨_,_,(xU hs ho hc hx hn hm hk hb).absorb (l:=l) hj hX hz2 hok,fun p hp=> ?_,⟨_,undef,rfl⟩,fun W ⟨v,e⟩=>e▸h v⟩
 rcases aNs.1 hp with rfl|hp
 · exact hz
 · exact vQ hx h1 h2 p hp
end
theorem zl (hs:List bV):cS hs []=[]:=by cases hs<;>rfl
theorem aLq {o m n:Nat} (h:n=m):okV o m (.e (.c (.own o n)))=true:=by subst h;simp[okV,okE,okC]
end Go.Ab
namespace Go.Proofs.YtmabaopgkimfmaaGreatDoor
open Int renaming toNat_natCast→aNf
open Nat renaming le_of_ble_eq_true→aNg,zero_le→aNj,le_refl→aNp
open List renaming length_append→aNh,length_cons→aNk,length_nil→aNl,getD_eq_getElem?_getD→aNm,length_take→aNn,getElem?_eq_getElem→aNo,getElem?_eq_some_iff→aNq,mem_map→aNr,mem_cons→aNs,all_eq_true→aNt,range→aNu,length_drop→aNv
open Bool renaming and_eq_true→aNi
open Go Go.Ab Go.RowKit
set_option linter.unusedVariables false
set_option linter.unusedSimpArgs false
set_option maxRecDepth 9000
theorem ri (l:List eO) (hl:l.length≤1000000):Sp 140 1 [tD 0 (.sl (bI l))] [tO 0 0 l.length,oR 0 86 2 (bI l)]:=by
 refine sb Tryz.func140 rfl (sq (rT [0] (s1 (sq (sq (rT [0,6] (s3 (cd rfl (fun c6=> ?_) fun c6=> ?_))))))))
 · refine sq (rT [2] (s1 (SW.nilOwn 2 0 86 2 rfl rfl (rt (rq [] [] rfl ?_)))))
   repeat' apply ai
   all_goals try exact qx
   all_goals(simp[aW] at c6;simp[c6,bI])
 refine sk (sq (rT [0,3] (s2 (ai (by refine⟨rfl,by omega,?_⟩;rw[aW];show((24:Nat):Int)*_≤_;omega) (s1 (sq (rT [3] (s2 (ai (by refine⟨trivial,by simp,qZ l⟩) (sq (rT [2] (s2 (rt (rq [(0,9)] [] rfl ?_))))))))))))))
 repeat' apply ai
 all_goals try exact qx
 all_goals first|(simp[aW];done)|(simp;done)
theorem iQ (k:aN) (hb:k.halves.length≤100000∧ ∀x∈k.halves,x.got.length≤100000):wu 73 1 [tV 0 k.V] (fun s=> ∃vs:List Value,vs.length=k.halves.length∧s=[tV 0 (.e (.agg [.d (.i k.id),.d (.b k.up),.d (.s k.log),.d (.i k.forced),.own 0 k.halves.length])),oR 0 138 6 (bM k.halves vs),(.o 1,.zone (eW 86 2 (cS k.halves vs)))]):=by
 refine zf Tryz.func73 rfl (sq (rT [1,2] (s2 (sq (rT [1,2,3] (s3 (sq (rT [2,3] (s2 (dI (robj:=[]) (rl:=[(0,8)]) (bor:=[]) (yV k.halves (by omega)) rfl rfl rfl rfl ⟨fR rfl rfl trivial,rfl⟩ rfl (.inl rfl) (fun p hp=>nomatch hp) (fun j hj=>by(obtain rfl:j=0:=by simpa[eJ,bO,gW] using hj);rfl) (s2 (sq (sq (SW.newFam 90 86 2 rfl (rT [2,3,12,13] (s2 (ai (by exact aO _) (s1 (bk (SW.loopW (n:=k.halves.length) (fun m q=> ∃vs:List Value,(m=k.halves.length - vs.length∧vs.length≤k.halves.length)∧q=[tP 2 2,tP 3 3,tI 12 (k.halves.length:Nat),tI 13 (vs.length:Nat),oB 2 31 [.d (.i 0),.d (.b false),.d (.s []),.d (.i 0),.nil],oB 3 31 [.d (.i k.id),.d (.b k.up),.d (.s k.log),.d (.i k.forced),.own 8 k.halves.length],oR 8 138 6 (bM k.halves vs),(.o 90,.zone (eW 86 2 (cS k.halves vs)))]) ?_ ?_))))))))))))))))))))
 · refine wq (σ':=[tP 2 2,tP 3 3,tI 12 (k.halves.length:Nat),tI 13 (([]:List Value).length:Nat),oB 2 31 [.d (.i 0),.d (.b false),.d (.s []),.d (.i 0),.nil],oB 3 31 [.d (.i k.id),.d (.b k.up),.d (.s k.log),.d (.i k.forced),.own 8 k.halves.length],oR 8 138 6 (bM k.halves ([]:List Value)),(.o 90,.zone (eW 86 2 (cS k.halves ([]:List Value))))]) [] [] (⟨[],⟨rfl,aNj _⟩,rfl⟩) ?_
   repeat' apply ai
   all_goals first|exact qx|exact(rQ _).symm|(rw[zl];done)|rfl|exact qz
 rintro n s ⟨vs,⟨rfl,hi⟩,rfl⟩
 refine sq (rT [2,3,12,13,14] (s1 (sq (cd rfl (fun c14=> ?_) fun c14=> ?_))))
 · have hi2:vs.length<k.halves.length:=by simpa using c14
   have hg:=wR k.halves vs vs.length (aNp _) hi2
   have hmem:k.halves.getD vs.length .zero∈k.halves:=dO hi2
   refine sk (sq (bk (sq (rT [2,3,4,12,13] (s2 (SW.regDE jE mo [2,3,12,13] 9 (fun _=>none) rfl rfl (by kernel_rfl) ?_))))))
   refine s6 (ai (by exact⟨bC _ _,by omega,by omega⟩) (ai (by exact bC _ _) (ai (by rw[aNf,hg];exact⟨⟨bC _ _,by omega⟩,aNg rfl,rfl⟩) (aB2 (robj:=[]) (rl:=[(0,91)]) (bor:=[]) 90 91 25 (ri (k.halves.getD vs.length .zero).got (by have:=hb.2 _ hmem;omega)) rfl rfl rfl rfl ⟨fR rfl (by rw[aNf,hg];rfl) trivial,rfl⟩ rfl (.inl rfl) (fun p hp=>nomatch hp) (fun j hj=>by(obtain rfl:j=0:=by simpa[eJ,bO,gW] using hj);rfl) rfl rfl rfl rfl (aLq (aW _).symm) ?_))))
   intro v
   have hvl: (vs++[v]).length=vs.length+1:=by simp
   refine ai (by exact⟨bC _ _,by omega,by omega⟩) (s1 (ai (by exact bC _ _) (s1 (ai (by rw[aNf,hg];exact⟨bC _ _,by omega,rfl,aNp _⟩) (s1 (ai (by kernel_rfl) (rT [2,3,12,13] (s2 (wq [] [] (⟨k.halves.length - (vs++[v]).length,by rw[hvl];omega,vs++[v],⟨rfl,by rw[hvl];omega⟩,rfl⟩) ?_)))))))))
   repeat' apply ai
   all_goals first|exact qx|exact aA D.i (by rw[aH (by omega),hvl];omega)|(rw[aNf,hg];exact ue _ _ _ hi2)|(rw[← ir _ _ _ hi2];done)|rfl|exact qz
 have hi3:vs.length=k.halves.length:=by simp at c14;omega
 exact xt (sq (rT [2] (s2 (rt (kH [tV 0 (.e (.agg [.d (.i k.id),.d (.b k.up),.d (.s k.log),.d (.i k.forced),.own 0 k.halves.length])),oR 0 138 6 (bM k.halves vs),(.o 1,.zone (eW 86 2 (cS k.halves vs)))] ⟨vs,hi3,rfl⟩ (fV _ [(0,8),(1,90)] [] rfl (bK rfl (aI rfl (aI rfl (aI rfl (aI rfl (eX rfl rfl rfl aR))))) (dV rfl rfl (fY rfl rfl trivial))) rfl rfl))))))
theorem rj (k:aN) (hl:k.log.length≤140737488355328):wu 23 1 [tV 0 k.V] (fun s=> ∃vs:List Value,vs.length=(bL k).halves.length∧s=[tV 0 (.e (.agg [.d (.i (bL k).id),.d (.b (bL k).up),.d (.s (bL k).log),.d (.i (bL k).forced),.own 0 (bL k).halves.length])),oR 0 138 6 (bM (bL k).halves vs),(.o 1,.zone (eW 86 2 (cS (bL k).halves vs)))]):=by
 refine zf Tryz.func23 rfl (sq (rT [1,2] (s2 (sq (sq (rT [1,2,6] (s1 (xp (cY k hl) (ai rfl ?_)))))))))
 refine s1 (cd rfl (fun c6=> ?_) fun c6=> ?_)
 · have hno: ¬aX k=true:=fE c6
   refine sq (rT [2] (s2 (SW.nilBox 2 8 4 138 6 rfl rfl rfl (SW.newFam 90 86 2 rfl (rt ?_)))))
   have hr:bL k= .zero:=aB hno
   rw[hr]
   exact kH _ ⟨[],rfl,rfl⟩ (fV _ [(0,8),(1,90)] [] rfl (bK rfl (aI rfl (aI rfl (aI rfl (aI rfl (eX rfl rfl rfl aR))))) (dV rfl rfl (fY rfl rfl trivial))) rfl rfl)
 have hok:aX k=true:=dD c6
 have hlg:=cJ hok
 refine sk (sq (rE [2,3] (s1 (dJ (robj:=[]) (rl:=[(0,8),(1,90)]) (bor:=[]) (news:=[0,1]) (iQ k (⟨by omega,fun x hx=>by have:=hlg.2.2.2.2.2 x hx;omega⟩)) rfl rfl rfl rfl ⟨bK rfl (aI rfl (aI rfl (aI rfl (aI rfl (aI rfl aR))))) trivial,rfl⟩ (by rintro _ ⟨vs,hvs,rfl⟩;exact⟨rfl,.inl rfl,fun j hj=>hj⟩) (fun p hp=>nomatch hp) (fun j hj=>by simp at hj;rcases hj with rfl|rfl<;>rfl) ?_))))
 rintro _ ⟨vs,hvs,rfl⟩
 refine s2 (sq (rT [2,3] (s2 (sq (rT [2] (s2 (rt ?_)))))))
 have hr:bL k={k with up:=true}:=aC hok
 rw[hr]
 exact kH _ ⟨vs,hvs,rfl⟩ (fV _ [(0,8),(1,90)] [] rfl (bK rfl (aI rfl (aI rfl (aI rfl (aI rfl (eX rfl rfl rfl aR))))) (dV rfl rfl (fY rfl rfl trivial))) rfl rfl)
theorem bq (k:aN) (rec:List UInt8) (hok:aX k=true) (hrec:rec.length≤900000):wu 90 2 [tV 0 k.V,tD 1 (.s rec)] (fun s=> ∃vs:List Value,vs.length=((cP k rec).1).halves.length∧s=[tV 0 (.tup [.agg [.d (.i ((cP k rec).1).id),.d (.b ((cP k rec).1).up),.d (.s ((cP k rec).1).log),.d (.i ((cP k rec).1).forced),.own 0 ((cP k rec).1).halves.length],.c (.d (.b (cP k rec).2))]),oR 0 138 6 (bM ((cP k rec).1).halves vs),(.o 1,.zone (eW 86 2 (cS ((cP k rec).1).halves vs)))]):=by
 have hlg:=cJ hok
 have hkb:=iF hok
 have hrs:=iY (k:=(bY k).1)
 have hsk:cO k.log k.forced=true:=(cK hlg.1).2.1
 have hll:=od (k:=k) (rec:=rec) (by omega)
 refine zf Tryz.func90 rfl (sq (rT [1,2,4] (s3 (sq (rT [2,4,6,7] (s2 (xp (kb k rec hok hrec) (ai rfl ?_))))))))
 refine s6 (sq (sq (rT [2,4,6,15] (s2 (cd rfl (fun c15=> ?_) fun c15=> ?_)))))
 · have h1: ¬(iX k rec).2=true:=fE c15
   have hr:=oe h1
   refine sq (rE [4,5] (s1 (dJ (robj:=[]) (rl:=[(0,8),(1,90)]) (bor:=[]) (news:=[0,1]) (iQ k (⟨by omega,fun x hx=>by have:=hlg.2.2.2.2.2 x hx;omega⟩)) rfl rfl rfl rfl ⟨bK rfl (aI rfl (aI rfl (aI rfl (aI rfl (aI rfl aR))))) trivial,rfl⟩ (by rintro _ ⟨vs,hvs,rfl⟩;exact⟨rfl,.inl rfl,fun j hj=>hj⟩) (fun p hp=>nomatch hp) (fun j hj=>by simp at hj;rcases hj with rfl|rfl<;>rfl) ?_)))
   rintro _ ⟨vs,hvs,rfl⟩
   refine s2 (rt ?_)
   rw[hr]
   exact kH _ ⟨vs,hvs,rfl⟩ (rq [(0,8),(1,90)] [] rfl qz)
 have h1: (iX k rec).2=true:=dD c15
 have hr:=ka h1
 refine sk (sq (rE [4,5] (s1 (aH7 (xp (uC (iX k rec).1 hll.1) (ai rfl ?_))))))
 refine dJ (robj:=[]) (rl:=[(0,8),(1,90)]) (bor:=[]) (news:=[0,1]) (iQ (eT (iX k rec).1) (by have e: (eT (iX k rec).1).halves=k.halves:=hll.2;rw[e];exact(⟨by omega,fun x hx=>by have:=hlg.2.2.2.2.2 x hx;omega⟩))) rfl rfl rfl rfl ⟨bK rfl (aI rfl (aI rfl (aI rfl (aI rfl (aI rfl aR))))) trivial,rfl⟩ (by rintro _ ⟨vs,hvs,rfl⟩;exact⟨rfl,.inl rfl,fun j hj=>hj⟩) (fun p hp=>nomatch hp) (fun j hj=>by simp at hj;rcases hj with rfl|rfl<;>rfl) ?_
 rintro _ ⟨vs,hvs,rfl⟩
 refine s2 (rt ?_)
 rw[hr]
 exact kH _ ⟨vs,hvs,rfl⟩ (rq [(0,8),(1,90)] [] rfl qz)
theorem rm (k:aN) (hl:k.log.length≤140737488355328):wu 34 1 [tV 0 k.V] (fun s=> ∃vs:List Value,vs.length=((bB k).1).halves.length∧s=[tV 0 (.tup [.agg [.d (.i ((bB k).1).id),.d (.b ((bB k).1).up),.d (.s ((bB k).1).log),.d (.i ((bB k).1).forced),.own 0 ((bB k).1).halves.length],.c (.d (.b (bB k).2))]),oR 0 138 6 (bM ((bB k).1).halves vs),(.o 1,.zone (eW 86 2 (cS ((bB k).1).halves vs)))]):=by
 refine zf Tryz.func34 rfl (sq (rT [1,2] (s3 (sq (sq (rT [1,2,6] (s1 (xp (cY k hl) (ai rfl ?_)))))))))
 refine s1 (cd rfl (fun c6=> ?_) fun c6=> ?_)
 · have hno: ¬aX k=true:=fE c6
   refine sq (rT [2,3] (s3 (SW.nilBox 2 8 4 138 6 rfl rfl rfl (SW.newFam 90 86 2 rfl (rt ?_)))))
   have hr:bB k=(.zero,false):=sI hno
   rw[hr]
   exact kH _ ⟨[],rfl,rfl⟩ (rq [(0,8),(1,90)] [] rfl qz)
 have hok:aX k=true:=dD c6
 have hlg:=cJ hok
 have hK:=dK hok
 have h6:=cV (dP hok)
 have hkb:=iF hok
 have hsk:cO k.log k.forced=true:=(cK hlg.1).2.1
 obtain⟨⟨_,htm,hnx,_⟩,_⟩:=(bW _).1 (dP hok)
 have hrl:=tE (n:=((bY k).1.time+1).toNat) (by omega)
 have hdl:=bU (k:=6) (n:=((bY k).1.time+1).toNat) (by show _<10000000;omega)
 have hw:wrap64 ((bY k).1.time+1)=(bY k).1.time+1:=aH (by omega)
 refine sk (sq (sq (rT [1,2,10] (s3 (cd rfl (fun c10=> ?_) fun c10=> ?_)))))
 · have hu: ¬k.up=true:=fE c10
   refine sq (rE [2,3] (s1 (dJ (robj:=[]) (rl:=[(0,8),(1,90)]) (bor:=[]) (news:=[0,1]) (iQ k (⟨by omega,fun x hx=>by have:=hlg.2.2.2.2.2 x hx;omega⟩)) rfl rfl rfl rfl ⟨bK rfl (aI rfl (aI rfl (aI rfl (aI rfl (aI rfl aR))))) trivial,rfl⟩ (by rintro _ ⟨vs,hvs,rfl⟩;exact⟨rfl,.inl rfl,fun j hj=>hj⟩) (fun p hp=>nomatch hp) (fun j hj=>by simp at hj;rcases hj with rfl|rfl<;>rfl) ?_)))
   rintro _ ⟨vs,hvs,rfl⟩
   refine s2 (rt ?_)
   have hr:=nI hok hu
   rw[hr]
   exact kH _ ⟨vs,hvs,rfl⟩ (rq [(0,8),(1,90)] [] rfl qz)
 have hu:k.up=true:=dD c10
 refine sk (sq (SW.regDE jE mo [2,3] 7 (fun _=>none) rfl rfl (by kernel_rfl) ?_))
 refine s2 (xp (fC k hl) (ai rfl ?_))
 refine s2 (xp (oO ((bY k).1.time+1) (by omega)) (ai (by rw[hK,hw];rfl) ?_))
 refine ai (by show _≤9223372036854775807;(try simp only[aNh,aNk,aNl]);omega) (vg (robj:=[]) (rl:=[(0,8),(1,90)]) (bor:=[]) (news:=[0,1]) (bq k (kQ ((bY k).1.time+1).toNat) hok (by omega)) rfl rfl rfl rfl ⟨bK rfl (aI rfl (aI rfl (aI rfl (aI rfl (aI rfl aR))))) (fR rfl rfl trivial),rfl⟩ (by rintro _ ⟨vs,hvs,rfl⟩;exact⟨rfl,.inl rfl,fun j hj=>hj⟩) (fun p hp=>nomatch hp) (fun j hj=>by simp at hj;rcases hj with rfl|rfl<;>rfl) ⟨_,List.replicate ((cP k (kQ ((bY k).1.time+1).toNat)).1).halves.length undef,List.length_replicate,rfl⟩ ?_)
 rintro _ ⟨vs,hvs,rfl⟩
 refine s8 (ai (by kernel_rfl) (rt ?_))
 have hr:=pL hok hu
 rw[hr]
 exact kH _ ⟨vs,hvs,rfl⟩ (rq [(0,8),(1,90)] [] rfl qz)
theorem aEh (k:aN) (rows:List (List D)) (hl:k.log.length≤140737488355328):Sp 75 1 [tV 0 (.e (.agg [.d (.i (k).id),.d (.b (k).up),.d (.s (k).log),.d (.i (k).forced),.own 0 (k).halves.length])),oR 0 138 6 rows] [tV 0 (.e (.agg [.d (.i (eT k).id),.d (.b (eT k).up),.d (.s (eT k).log),.d (.i (eT k).forced),.own 0 (eT k).halves.length])),oR 0 138 6 rows]:=by
 refine sb Tryz.func75 rfl (sq (rT [1,2] (s2 (sq (rT [1,2] (s2 (xp (tF k.log k.forced hl) (ai rfl ?_))))))))
 exact s2 (sq (rT [2] (s2 (rt (fV _ [] [] rfl (bK rfl (aI rfl (aI rfl (aI rfl (aI rfl (eX rfl rfl rfl aR))))) (dV rfl rfl trivial)) rfl rfl)))))
theorem pd (k:aN) (hl:k.log.length≤140737488355328):wu 25 1 [tV 0 k.V] (fun s=> ∃vs:List Value,vs.length=((aU k).1).halves.length∧s=[tV 0 (.tup [.agg [.d (.i ((aU k).1).id),.d (.b ((aU k).1).up),.d (.s ((aU k).1).log),.d (.i ((aU k).1).forced),.own 0 ((aU k).1).halves.length],.c (.d (.b (aU k).2))]),oR 0 138 6 (bM ((aU k).1).halves vs),(.o 1,.zone (eW 86 2 (cS ((aU k).1).halves vs)))]):=by
 refine zf Tryz.func25 rfl (sq (rT [1,2] (s3 (sq (sq (rT [1,2,7] (s1 (xp (cY k hl) (ai rfl ?_)))))))))
 refine s1 (cd rfl (fun c7=> ?_) fun c7=> ?_)
 · have hno: ¬aX k=true:=fE c7
   refine sq (rT [2,3] (s3 (SW.nilBox 2 88 4 138 6 rfl rfl rfl (SW.newFam 90 86 2 rfl (rt ?_)))))
   have hr:aU k=(.zero,false):=aB hno
   rw[hr]
   exact kH _ ⟨[],rfl,rfl⟩ (rq [(0,88),(1,90)] [] rfl qz)
 have hok:aX k=true:=dD c7
 have hlg:=cJ hok
 refine sk (sq (rE [1,2,4] (s1 (dJ (robj:=[]) (rl:=[(0,88),(1,90)]) (bor:=[]) (news:=[0,1]) (iQ k (⟨by omega,fun x hx=>by have:=hlg.2.2.2.2.2 x hx;omega⟩)) rfl rfl rfl rfl ⟨bK rfl (aI rfl (aI rfl (aI rfl (aI rfl (aI rfl aR))))) trivial,rfl⟩ (by rintro _ ⟨vs,hvs,rfl⟩;exact⟨rfl,.inl rfl,fun j hj=>hj⟩) (fun p hp=>nomatch hp) (fun j hj=>by simp at hj;rcases hj with rfl|rfl<;>rfl) ?_))))
 rintro _ ⟨vs,hvs,rfl⟩
 refine s2 (sq (sq (rT [2,4,23] (s4 (y4 (y4 (ai pk (cd rfl (fun c23=> ?_) fun c23=> ?_))))))))
 · refine sq (rT [2,3] (s3 (rt ?_)))
   have hr:aU k=(k,false):=by rw[aU,aC hok,aC c23]
   rw[hr]
   exact kH _ ⟨vs,hvs,rfl⟩ (rq [(0,88),(1,90)] [] rfl qz)
 refine sk (sq (rT [2,3] (s1 (dI (robj:=[(88,.row 138 6 (bM k.halves vs))]) (rl:=[(0,88)]) (bor:=[]) (aEh k (bM k.halves vs) (by omega)) rfl rfl rfl rfl ⟨bK rfl (aI rfl (aI rfl (aI rfl (aI rfl (eX rfl rfl rfl aR))))) (dV rfl rfl trivial),rfl⟩ rfl (.inl rfl) (aV ⟨rfl,trivial⟩) (fun _ hj=>nomatch hj) (s2 (rt ?_))))))
 have hr:aU k=(eT k,true):=by rw[aU,aC hok,aB (by rw[c23];decide)]
 rw[hr]
 exact kH _ ⟨vs,hvs,rfl⟩ (rq [(0,88),(1,90)] [] rfl qz)
theorem wh (k:aN) (tu til:Int) (tx:List UInt8) (hl:k.log.length≤140737488355328) (htx:tx.length≤140737488355328):wu 36 4 [tV 0 k.V,tI 1 tu,tI 2 til,tD 3 (.s tx)] (fun s=> ∃vs:List Value,vs.length=((bE k tu til tx).1).halves.length∧s=[tV 0 (.tup [.agg [.d (.i ((bE k tu til tx).1).id),.d (.b ((bE k tu til tx).1).up),.d (.s ((bE k tu til tx).1).log),.d (.i ((bE k tu til tx).1).forced),.own 0 ((bE k tu til tx).1).halves.length],.c (.d (.i (bE k tu til tx).2))]),oR 0 138 6 (bM ((bE k tu til tx).1).halves vs),(.o 1,.zone (eW 86 2 (cS ((bE k tu til tx).1).halves vs)))]):=by
 refine zf Tryz.func36 rfl (sq (rT [1,2,3,4,8] (s3 (sq (sq (rT [1,2,3,4,8,15] (s1 (xp (cY k hl) (ai rfl ?_)))))))))
 refine s1 (cd rfl (fun c15=> ?_) fun c15=> ?_)
 · have hno: ¬aX k=true:=fE c15
   refine sq (rT [8,9] (s3 (SW.nilBox 8 88 4 138 6 rfl rfl rfl (SW.newFam 90 86 2 rfl (rt ?_)))))
   have hr:bE k tu til tx=(.zero,0):=tU hno
   rw[hr]
   exact kH _ ⟨[],rfl,rfl⟩ (rq [(0,88),(1,90)] [] rfl qz)
 have hok:aX k=true:=dD c15
 have hlg:=cJ hok
 have hK:=dK hok
 have h6:=cV (dP hok)
 have hkb:=iF hok
 have hsk:cO k.log k.forced=true:=(cK hlg.1).2.1
 obtain⟨⟨_,htm,hnx,_⟩,_⟩:=(bW _).1 (dP hok)
 have hnl:=lR (fP k tu til tx)
 have hrl:=pZ gT (fP k tu til tx)
 have hwo:gT.length=3:=rfl
 refine sk (sq (sq (rT [1,2,3,4,8,19] (s3 (cd rfl (fun c19=> ?_) fun c19=> ?_)))))
 · have hu: ¬k.up=true:=fE c19
   refine sq (rE [8,9] (s1 (dJ (robj:=[]) (rl:=[(0,88),(1,90)]) (bor:=[]) (news:=[0,1]) (iQ k (⟨by omega,fun x hx=>by have:=hlg.2.2.2.2.2 x hx;omega⟩)) rfl rfl rfl rfl ⟨bK rfl (aI rfl (aI rfl (aI rfl (aI rfl (aI rfl aR))))) trivial,rfl⟩ (by rintro _ ⟨vs,hvs,rfl⟩;exact⟨rfl,.inl rfl,fun j hj=>hj⟩) (fun p hp=>nomatch hp) (fun j hj=>by simp at hj;rcases hj with rfl|rfl<;>rfl) ?_)))
   rintro _ ⟨vs,hvs,rfl⟩
   refine s2 (rt ?_)
   have hr:bE k tu til tx=(k,0):=sJ hok hu
   rw[hr]
   exact kH _ ⟨vs,hvs,rfl⟩ (rq [(0,88),(1,90)] [] rfl qz)
 have hu:k.up=true:=dD c19
 refine sk (sq (rT [1,2,3,4,8,10] (s1 (xp (fC k hl) (ai rfl ?_)))))
 refine s2 (sq (SW.regDE jE mo [8,10,11,12] 10 (fun j=>if j=14 then some ([(.o 11,none)],[oB 11 31 [.d (.i 0),.d (.b false),.d (.s []),.d (.i 0),.nil],tP 11 11]) else none) rfl rfl (by kernel_rfl) ?_))
 refine s8 (xp (kD (fP k tu til tx) htx) (ai (by rw[hK];rfl) ?_))
 refine ai (by show _≤9223372036854775807;(try simp only[aNh,aNk,aNl]);omega) (vg (robj:=[]) (rl:=[(0,88),(1,90)]) (bor:=[]) (news:=[0,1]) (bq k (fG gT (fP k tu til tx)) hok (by omega)) rfl rfl rfl rfl ⟨bK rfl (aI rfl (aI rfl (aI rfl (aI rfl (aI rfl aR))))) (fR rfl rfl trivial),rfl⟩ (by rintro _ ⟨vs,hvs,rfl⟩;exact⟨rfl,.inl rfl,fun j hj=>hj⟩) (fun p hp=>nomatch hp) (fun j hj=>by simp at hj;rcases hj with rfl|rfl<;>rfl) ⟨_,List.replicate ((cP k (fG gT (fP k tu til tx))).1).halves.length undef,List.length_replicate,rfl⟩ ?_)
 rintro _ ⟨vs,hvs,rfl⟩
 refine s7 (ai rfl (s4 (ai (by kernel_rfl) (sq (sq (rT [8,10,11,40] (s2 (cd rfl (fun c40=> ?_) fun c40=> ?_))))))))
 · have hq: ¬(cP k (fG gT (fP k tu til tx))).2=true:=fE c40
   have hf:=rF hq
   have hr0:bE k tu til tx=_:=rG hok hq
   refine sq (rT [8,9] (s3 (rt ?_)))
   rw[hr0]
   rw[hf] at hvs
   refine kH _ ⟨vs,hvs,rfl⟩ (rq [(0,88),(1,90)] [] rfl ?_)
   repeat' apply ai
   all_goals try exact qx
   all_goals(first|rfl|(rw[hf]<;>rfl)|(rw[hf];done))
 have hq: (cP k (fG gT (fP k tu til tx))).2=true:=dD c40
 refine sk (sq (rT [8,9] (s4 (rt ?_))))
 have hr:=wK hok hu hq
 rw[hr]
 refine kH _ ⟨vs,hvs,rfl⟩ (rq [(0,88),(1,90)] [] rfl ?_)
 repeat' apply ai
 all_goals try exact qx
 all_goals(first|rfl|(rw[hK]<;>rfl)|(rw[hK];done))
theorem rn (k:aN) (hl:k.log.length≤140737488355328):wu 32 1 [tV 0 k.V] (fun s=> ∃vs:List Value,vs.length=((aZ k).1).halves.length∧s=[tV 0 (.tup [.agg [.d (.i ((aZ k).1).id),.d (.b ((aZ k).1).up),.d (.s ((aZ k).1).log),.d (.i ((aZ k).1).forced),.own 0 ((aZ k).1).halves.length],.c (.d (.b (aZ k).2))]),oR 0 138 6 (bM ((aZ k).1).halves vs),(.o 1,.zone (eW 86 2 (cS ((aZ k).1).halves vs)))]):=by
 refine zf Tryz.func32 rfl (sq (rT [1,2] (s3 (sq (sq (rT [1,2,9] (s1 (xp (cY k hl) (ai rfl ?_)))))))))
 refine s1 (cd rfl (fun c9=> ?_) fun c9=> ?_)
 · have hno: ¬aX k=true:=fE c9
   refine sq (rT [2,3] (s3 (SW.nilBox 2 88 4 138 6 rfl rfl rfl (SW.newFam 90 86 2 rfl (rt ?_)))))
   have hr:aZ k=(.zero,false):=sL hno
   rw[hr]
   exact kH _ ⟨[],rfl,rfl⟩ (rq [(0,88),(1,90)] [] rfl qz)
 have hok:aX k=true:=dD c9
 have hlg:=cJ hok
 have hK:=dK hok
 have h6:=cV (dP hok)
 have hkb:=iF hok
 have hsk:cO k.log k.forced=true:=(cK hlg.1).2.1
 obtain⟨⟨_,htm,hnx,_⟩,_⟩:=(bW _).1 (dP hok)
 have hrs:=iY (k:=(bY k).1)
 refine sk (sq (rE [1,2,4] (s1 (dJ (robj:=[]) (rl:=[(0,88),(1,90)]) (bor:=[]) (news:=[0,1]) (iQ k (⟨by omega,fun x hx=>by have:=hlg.2.2.2.2.2 x hx;omega⟩)) rfl rfl rfl rfl ⟨bK rfl (aI rfl (aI rfl (aI rfl (aI rfl (aI rfl aR))))) trivial,rfl⟩ (by rintro _ ⟨vs,hvs,rfl⟩;exact⟨rfl,.inl rfl,fun j hj=>hj⟩) (fun p hp=>nomatch hp) (fun j hj=>by simp at hj;rcases hj with rfl|rfl<;>rfl) ?_))))
 rintro _ ⟨vs,hvs,rfl⟩
 refine s2 (sq (sq (rT [1,2,4,15] (s3 (cd rfl (fun c15=> ?_) fun c15=> ?_)))))
 · have hu: ¬k.up=true:=fE c15
   refine sq (rT [2,3] (s3 (rt ?_)))
   have hr:=qH hok hu
   rw[hr]
   exact kH _ ⟨vs,hvs,rfl⟩ (rq [(0,88),(1,90)] [] rfl qz)
 have hu:k.up=true:=dD c15
 refine sk (sq (rD [2,4,5,6] (s3 (xp (fC k hl) (ai rfl ?_)))))
 refine xp (qJ (bY k).1 hkb) (ai (by rw[hK];rfl) ?_)
 refine xp (pF k.log k.forced (gG (bY k).1) (by omega) (by have:=hrs.1;omega) (fun r hr=>by have:=hrs.2 r hr;omega)) (ai rfl ?_)
 refine s6 (ai (by kernel_rfl) (sq (rT [2,4,6] (s3 (sq (rT [2,3] (s4 (rt ?_))))))))
 have hr:=yK hok hsk hu
 rw[hr]
 exact kH _ ⟨vs,hvs,rfl⟩ (rq [(0,88),(1,90)] [] rfl qz)
theorem wi (k:aN) (f n:Int) (hl:k.log.length≤140737488355328):wu 38 3 [tV 0 k.V,tI 1 f,tI 2 n] (fun s=> ∃vs:List Value,vs.length=(aQ k f n).1.halves.length∧s=[tV 0 (.tup [.agg [.d (.i ((aQ k f n).1).id),.d (.b ((aQ k f n).1).up),.d (.s ((aQ k f n).1).log),.d (.i ((aQ k f n).1).forced),.own 0 ((aQ k f n).1).halves.length],.agg [.d (.i ((aQ k f n).2.1).frm),.d (.i ((aQ k f n).2.1).num),.d (.i ((aQ k f n).2.1).to),.d (.i ((aQ k f n).2.1).til),.d (.s ((aQ k f n).2.1).text)],.c (.d (.b (aQ k f n).2.2))]),oR 0 138 6 (bM ((aQ k f n).1).halves vs),(.o 1,.zone (eW 86 2 (cS ((aQ k f n).1).halves vs)))]):=by
 refine zf Tryz.func38 rfl (sq (rT [1,2,3,6,7] (s4 (sq (sq (rT [1,2,3,6,7,15] (s1 (xp (cY k hl) (ai rfl ?_)))))))))
 refine s1 (cd rfl (fun c15=> ?_) fun c15=> ?_)
 · have hno: ¬aX k=true:=fE c15
   refine sq (rT [6,7,8] (s5 (SW.nilBox 6 88 4 138 6 rfl rfl rfl (SW.newFam 90 86 2 rfl (rt ?_)))))
   have hr:aQ k f n=(.zero,.zero,false):=tW hno
   rw[hr]
   exact kH _ ⟨[],rfl,rfl⟩ (rq [(0,88),(1,90)] [] rfl qz)
 have hok:aX k=true:=dD c15
 have hlg:=cJ hok
 have hK:=dK hok
 have h6:=cV (dP hok)
 have hkb:=iF hok
 have hsk:cO k.log k.forced=true:=(cK hlg.1).2.1
 obtain⟨⟨_,htm,hnx,_⟩,_⟩:=(bW _).1 (dP hok)
 refine sk (sq (rT [1,2,3,6,7,9] (s1 (xp (fC k hl) (ai rfl ?_)))))
 refine s2 (sq (rT [1,2,3,6,7,9,10] (s3 (xp (iP (bS k).inbox f n (by rw[hK];have:=h6.1;omega)) (ai rfl ?_)))))
 refine s1 (sq (sq (rT [1,2,3,6,7,9,10,31] (s4 (y2 (ai pk (cd rfl (fun c31=> ?_) fun c31=> ?_)))))))
 · have hcn: ¬(k.up=true∧0≤bA (bY k).1.inbox f n):=by
    rintro⟨hu,hp⟩
    rw[hK,hu,decide_eq_false (show ¬bA (bY k).1.inbox f n<0 by omega)] at c31
    cases c31
   have hr0:=wL hok hcn
   refine sq (rE [6,7,8] (s1 (dJ (robj:=[]) (rl:=[(0,88),(1,90)]) (bor:=[]) (news:=[0,1]) (iQ k (⟨by omega,fun x hx=>by have:=hlg.2.2.2.2.2 x hx;omega⟩)) rfl rfl rfl rfl ⟨bK rfl (aI rfl (aI rfl (aI rfl (aI rfl (aI rfl aR))))) trivial,rfl⟩ (by rintro _ ⟨vs,hvs,rfl⟩;exact⟨rfl,.inl rfl,fun j hj=>hj⟩) (fun p hp=>nomatch hp) (fun j hj=>by simp at hj;rcases hj with rfl|rfl<;>rfl) ?_)))
   rintro _ ⟨vs,hvs,rfl⟩
   refine s4 (rt ?_)
   have hr:=hr0
   rw[hr]
   exact kH _ ⟨vs,hvs,rfl⟩ (rq [(0,88),(1,90)] [] rfl qz)
 have hcy:k.up=true∧0≤bA (bY k).1.inbox f n:=by
  have h9:=c31
  rw[hK] at h9
  cases hu:k.up with
  |false=>rw[hu] at h9;cases h9
  |true=>
   rw[hu] at h9
   refine⟨rfl,?_⟩
   by_cases hp:bA (bY k).1.inbox f n<0
   · rw[decide_eq_true hp] at h9;cases h9
   · omega
 obtain⟨j,hj,hjl,hjb⟩:=bi hok hcy.2
 have hg:=aS (l:=(bY k).1.inbox) hjl
 have her:lQ k f n=lH iW ⟨f,n,((bY k).1.inbox.getD j .zero).til⟩:=by rw[lQ,hj,aNf]
 have hrl:=tC (w:=iW) (m:=⟨f,n,((bY k).1.inbox.getD j .zero).til⟩) hjb
 have hwe:iW.length=3:=rfl
 have d1:=bU (k:=6) (n:=f.toNat) (by show _<10000000;omega)
 have d2:=bU (k:=6) (n:=n.toNat) (by show _<10000000;omega)
 have d3:=bU (k:=6) (n:=((bY k).1.inbox.getD j .zero).til.toNat) (by show _<10000000;omega)
 refine sk (sq (SW.regDE jE mo [6,7,9,10,11,12] 9 (fun j=>if j=13 then some ([(.o 11,none)],[oB 11 31 [.d (.i 0),.d (.b false),.d (.s []),.d (.i 0),.nil],tP 11 11]) else none) rfl rfl (by kernel_rfl) ?_))
 refine s5 (ai (by rw[hK,hj,aNf,hg];exact⟨⟨by omega,by rw[aE];omega⟩,rfl⟩) (s1 (ai (by rw[hK,hj,aNf,hg];exact⟨aNg rfl,rfl⟩) (xp (pG iW f n ((bY k).1.inbox.getD j .zero).til hjb (by decide)) (ai (by rw[hK,hj,aNf,hg];rfl) ?_)))))
 refine vg (robj:=[]) (rl:=[(0,88),(1,90)]) (bor:=[]) (news:=[0,1]) (bq k (lH iW ⟨f,n,((bY k).1.inbox.getD j .zero).til⟩) hok (by omega)) rfl rfl rfl rfl ⟨bK rfl (aI rfl (aI rfl (aI rfl (aI rfl (aI rfl aR))))) (fR rfl rfl trivial),rfl⟩ (by rintro _ ⟨vs,hvs,rfl⟩;exact⟨rfl,.inl rfl,fun j hj=>hj⟩) (fun p hp=>nomatch hp) (fun j hj=>by simp at hj;rcases hj with rfl|rfl<;>rfl) ⟨_,List.replicate ((cP k (lH iW ⟨f,n,((bY k).1.inbox.getD j .zero).til⟩)).1).halves.length undef,List.length_replicate,rfl⟩ ?_
 rintro _ ⟨vs,hvs,rfl⟩
 refine s7 (ai rfl (s4 (ai (by kernel_rfl) (sq (sq (rT [6,7,9,10,11,49] (s2 (cd rfl (fun c49=> ?_) fun c49=> ?_))))))))
 · have hq: ¬(cP k (lQ k f n)).2=true:=by rw[her];exact fE c49
   have hf:=rF hq
   have hr0:=sK hok hcy hq
   rw[her] at hf
   refine sq (rT [6,7,8] (s5 (rt ?_)))
   rw[hr0]
   rw[hf] at hvs
   refine kH _ ⟨vs,hvs,rfl⟩ (rq [(0,88),(1,90)] [] rfl ?_)
   repeat' apply ai
   all_goals try exact qx
   all_goals(first|rfl|(rw[hf]<;>rfl)|(rw[hf];done))
 have hq: (cP k (lQ k f n)).2=true:=by rw[her];exact dD c49
 have hr0:=wM hok hcy hq
 rw[her,hj,aNf] at hr0
 refine sk (sq (rD [6,7,8] (s3 (ai (by rw[hK,hj,aNf,hg];exact⟨⟨by omega,by rw[aE];omega⟩,rfl⟩) (ai (by rw[hK,hj,aNf,hg];exact⟨aNg rfl,rfl⟩) (s3 (ai (by kernel_rfl) (rt ?_))))))))
 rw[hr0]
 refine kH _ ⟨vs,hvs,rfl⟩ (rq [(0,88),(1,90)] [] rfl ?_)
 repeat' apply ai
 all_goals try exact qx
 all_goals(first|rfl|(rw[hK,hj,aNf,hg]<;>rfl)|(rw[hK,hj,aNf,hg];done))
theorem ro (k:aN) (keep:Int) (hl:k.log.length≤140737488355328):wu 18 2 [tV 0 k.V,tI 1 keep] (fun s=> ∃vs:List Value,vs.length=(bN k keep).halves.length∧s=[tV 0 (.e (.agg [.d (.i (bN k keep).id),.d (.b (bN k keep).up),.d (.s (bN k keep).log),.d (.i (bN k keep).forced),.own 0 (bN k keep).halves.length])),oR 0 138 6 (bM (bN k keep).halves vs),(.o 1,.zone (eW 86 2 (cS (bN k keep).halves vs)))]):=by
 refine zf Tryz.func18 rfl (sq (rT [1,2,4] (s2 (sq (sq (rT [1,2,4,7] (s1 (xp (cY k hl) (ai rfl ?_)))))))))
 refine s1 (cd rfl (fun c7=> ?_) fun c7=> ?_)
 · have hno: ¬aX k=true:=fE c7
   refine sq (rT [4] (s2 (SW.nilBox 4 88 4 138 6 rfl rfl rfl (SW.newFam 90 86 2 rfl (rt ?_)))))
   have hr:bN k keep= .zero:=aB hno
   rw[hr]
   exact kH _ ⟨[],rfl,rfl⟩ (fV _ [(0,88),(1,90)] [] rfl (bK rfl (aI rfl (aI rfl (aI rfl (aI rfl (eX rfl rfl rfl aR))))) (dV rfl rfl (fY rfl rfl trivial))) rfl rfl)
 have hok:aX k=true:=dD c7
 have hlg:=cJ hok
 refine sk (sq (rD [4] (s5 (xp (uV k.log k.forced keep (by omega)) (ai rfl ?_)))))
 refine s2 (ai (by kernel_rfl) (SW.nilBox 4 88 4 138 6 rfl rfl rfl (SW.newFam 90 86 2 rfl (rt ?_))))
 have hr:bN k keep=⟨k.id,false,(eI k.log k.forced keep).1,(eI k.log k.forced keep).2,[]⟩:=aC hok
 rw[hr]
 exact kH _ ⟨[],rfl,rfl⟩ (fV _ [(0,88),(1,90)] [] rfl (bK rfl (aI rfl (aI rfl (aI rfl (aI rfl (eX rfl rfl rfl aR))))) (dV rfl rfl (fY rfl rfl trivial))) rfl rfl)
end Go.Proofs.YtmabaopgkimfmaaGreatDoor
namespace Go.Ab
open Int renaming toNat_natCast→aNf
open Nat renaming le_of_ble_eq_true→aNg,zero_le→aNj,le_refl→aNp
open List renaming length_append→aNh,length_cons→aNk,length_nil→aNl,getD_eq_getElem?_getD→aNm,length_take→aNn,getElem?_eq_getElem→aNo,getElem?_eq_some_iff→aNq,mem_map→aNr,mem_cons→aNs,all_eq_true→aNt,range→aNu,length_drop→aNv
open Bool renaming and_eq_true→aNi
structure KG (k:aN):Prop where
 log:k.log.length≤140737488355328
 hal:k.halves.length≤100000∧ ∀x∈k.halves,x.got.length≤100000
theorem KG.of {k x:aN} (h:KG k) (hl:x.log.length≤140737488355328) (hh:x.halves=k.halves∨x.halves=[]):KG x:=by
 refine⟨hl,?_⟩
 rcases hh with e|e
 · rw[e];exact h.hal
 · rw[e];exact⟨aNj _,fun _ hx=>nomatch hx⟩
theorem KG.fall {k:aN} (h:KG k) (keep:Int):KG (bN k keep):=h.of (zj h.log) (by unfold bN;split<;>exact .inr rfl)
theorem KG.rise {k:aN} (h:KG k):KG (bL k):=h.of (zk h.log) (by unfold bL;split;exact .inl rfl;exact .inr rfl)
theorem br {k:aN} (h:k.log.length≤140737488355328): (eT k).log.length≤140737488355328:=Nat.le_trans (kv _ _) h
theorem KG.force {k:aN} (h:KG k):KG (aU k).1:=by
 refine h.of ?_ ?_
 · unfold aU
   split
   · split
     · exact h.log
     · exact br h.log
   · exact aNj _
 · unfold aU
   split
   · split<;>exact .inl rfl
   · exact .inr rfl
theorem gR {k:aN} {rec:List UInt8} (h:k.log.length≤140737488355328): (cP k rec).1.log.length≤140737488355328∧(cP k rec).1.halves=k.halves:=by
 obtain⟨h1,h2⟩:=od (rec:=rec) h
 unfold cP
 split
 · exact⟨br h1,h2⟩
 · exact⟨h,rfl⟩
theorem KG.pack {k:aN} (h:KG k):KG (aZ k).1:=by
 refine h.of ?_ ?_
 · unfold aZ
   split
   · split
     · exact sH h.log
     · exact h.log
   · exact aNj _
 · unfold aZ
   split
   · split<;>exact .inl rfl
   · exact .inr rfl
theorem KG.time {k:aN} (h:KG k):KG (bB k).1:=by
 refine h.of ?_ ?_
 · unfold bB
   split
   · split
     · exact(gR h.log).1
     · exact h.log
   · exact aNj _
 · unfold bB
   split
   · split
     · exact .inl (gR h.log).2
     · exact .inl rfl
   · exact .inr rfl
theorem KG.own {k:aN} (h:KG k) (tu til:Int) (tx:List UInt8):KG (bE k tu til tx).1:=by
 refine h.of ?_ ?_
 · unfold bE
   split
   · split
     · split
       · exact(gR h.log).1
       · exact h.log
     · exact h.log
   · exact aNj _
 · unfold bE
   split
   · split
     · split
       · exact .inl (gR h.log).2
       · exact .inl rfl
     · exact .inl rfl
   · exact .inr rfl
theorem KG.eat {k:aN} (h:KG k) (f n:Int):KG (aQ k f n).1:=by
 refine h.of ?_ ?_
 · unfold aQ
   split
   · split
     · split
       · exact(gR h.log).1
       · exact h.log
     · exact h.log
   · exact aNj _
 · unfold aQ
   split
   · split
     · split
       · exact .inl (gR h.log).2
       · exact .inl rfl
     · exact .inl rfl
   · exact .inr rfl
open Go Go.RowKit
set_option linter.unusedVariables false
set_option linter.unusedSimpArgs false
section
variable {P:Program} {f:FuncId} {n:Nat} {σin σout:St} {rl:List (Nat×Nat)} {bor:List Nat} {σ:St} {Xs Ys:List V} {Ra:List (cL×Option K)} {robj:List (Nat×K)}
variable {e:TypeId} {es:Nat} {l l' l1 l2:List (Value×List (List D))} {v:Value} {g g':List (List D)}
theorem aLr {k:List (cL×Option K)→List (cL×K)→Prop} (z j i:Nat) (hs:Spec P f n σin σout) {o:Oper} {c:Call} (ho:o.op= .call c) (hc:c.callee= .value (.func f)) (hx:kz σ c.args.toList=some (Xs,Ra)) (hY:oS v g.length j Xs Ys) (hn:Ys.length=n)
 (hm:jO (dA 0 Ys++kA ((j,.row e es g)::robj)) σin rl bor) (hk:fZ rl σin σout=true) (hb:bor=[]∨iC σout)
 (hi:aP σin (.o i)=some (.row e es g)) (hi':aP σout (.o i)=some (.row e es g')) (hij:iB rl i=j) (hg:g'.length=g.length)
 (hfR: ∀p∈oW Ra robj rl σin σout,p.1≠ .o z∧p.1≠ .o j) (hfW: ∀p∈gM rl σin σout o.dst,p.1≠ .o z)
 (hz:aP σ (.o z)=some (.zone (eW e es l))) (hl:l=l1++(v,g)::l2) (hl':l1++(v,g')::l2=l') (hj:aP σ (.o j)=none) (h1: ∀p∈robj,aP σ (.o p.1)=some p.2) (h2: ∀j∈eJ σin σout,aP σ (.o (iB rl j))=none)
 (h:k ((.o z,some (.zone (eW e es l)))::(.o j,none)::oW Ra robj rl σin σout) (gM rl σin σout o.dst++[(.o z,.zone (eW e es l')),(.o j,.dead)])): ∃R W,xH P o R W∧bX R σ∧k R W:=by
 subst hl;subst hl'
 refine⟨_,_,aIj hs ho hc hx hY hn hm hk hb hi hi' hij hg hfR hfW,fun p hp=> ?_,h⟩
 rcases aNs.1 hp with rfl|hp
 · exact hz
 · rcases aNs.1 hp with rfl|hp
   · exact hj
   · exact vQ hx h1 h2 p hp
end
theorem pf: ∀(hs:List bV) (vs:List Value) (i:Nat),vs.length=hs.length→i<hs.length→ ∃v,vs[i]? =some v∧cS hs vs=cS (hs.take i) (vs.take i)++(v,bI (hs.getD i .zero).got)::cS (hs.drop (i+1)) (vs.drop (i+1))
 | [],_,i,_,h=>absurd h (Nat.not_lt_zero _)
 |h::hs,[],_,h1,_=>by cases h1
 |h::hs,v::vs,0,_,_=>⟨v,rfl,by simp[cS]⟩
 |h::hs,v::vs,i+1,h1,h2=>by
  obtain⟨u,q1,q2⟩:=pf hs vs i (by simpa using h1) (by simpa using h2)
  refine⟨u,by simpa using q1,?_⟩
  simp only[cS,List.take_succ_cons,List.drop_succ_cons,List.cons_append]
  rw[q2]
  simp
open Go Go.RowKit
set_option linter.unusedVariables false
set_option linter.unusedSimpArgs false
def hD:List eO→Int→List eO
 | [],_=>[]
 |_::r,k=>⟨k,oF (k+1)⟩::hD r (k+2)
def kY (h:bV) (k:Int):bV:=⟨k,k+1,k+2,k+3,k+4,hD h.got (k+5)⟩
def mM (h:bV):Int:=5+2*h.got.length
def bQ:List bV→Int→List bV
 | [],_=>[]
 |h::r,k=>kY h k::bQ r (k+mM h)
def aK:List bV→Int
 | []=>0
 |h::r=>mM h+aK r
theorem hH: ∀(l:List eO) (k:Int),(hD l k).length=l.length
 | [],_=>rfl
 |_::r,k=>by simp[hD,hH r]
theorem cB: ∀(l:List bV) (k:Int),(bQ l k).length=l.length
 | [],_=>rfl
 |_::r,k=>by simp[bQ,cB r]
theorem cI: ∀l:List bV,0≤aK l
 | []=>Int.le_refl _
 |h::r=>by have:=cI r;simp only[aK,mM];omega
theorem er: ∀(l:List eO) (k:Int) (i:Nat),i<l.length→(hD l k).getD i .zero=⟨k+2*i,oF (k+2*i+1)⟩
 | [],_,_,h=>absurd h (Nat.not_lt_zero _)
 |_::r,k,0,_=>by simp[hD]
 |_::r,k,i+1,h=>by
  have:=er r (k+2) i (by simpa using h)
  simp only[hD,List.getD_cons_succ,this]
  congr 1<;>first|(push_cast;omega)|(congr 1;push_cast;omega)
theorem oT: ∀(l:List bV) (i:Nat),i<l.length→aK (l.take (i+1))=aK (l.take i)+mM (l.getD i .zero)
 | [],_,h=>absurd h (Nat.not_lt_zero _)
 |h::r,0,_=>by simp[aK]
 |h::r,i+1,q=>by
  have:=oT r i (by simpa using q)
  simp only[List.take_succ_cons,aK,List.getD_cons_succ] at this ⊢
  omega
theorem xG: ∀(l:List bV) (k:Int) (i:Nat),i<l.length→(bQ l k).getD i .zero=kY (l.getD i .zero) (k+aK (l.take i))
 | [],_,_,h=>absurd h (Nat.not_lt_zero _)
 |h::r,k,0,_=>by simp[bQ,aK]
 |h::r,k,i+1,q=>by
  have:=xG r (k+mM h) i (by simpa using q)
  simp only[bQ,List.getD_cons_succ,List.take_succ_cons,aK,this]
  congr 1
  omega
open Go Go.RowKit
set_option linter.unusedVariables false
set_option linter.unusedSimpArgs false
theorem zm {e:TypeId} {es:Nat} {l:List (Value×List (List D))} (h: ∀x∈l,∀r∈x.2,∀d∈r,pK d):oC (.zone (eW e es l)):=by
 intro w S S' p hp
 obtain⟨h1,h2,h3⟩:xg e es l w S p:=hp
 refine⟨h1,fun x hx=> ?_,h3⟩
 rcases h2 x hx with hn|⟨g,off,cap,cur,fz,hp,hh,hfz,q1,q2,q3,q4⟩
 · exact .inl hn
 · refine .inr ⟨g,off,cap,cur,fz,hp,hh,hfz,q1,q2,q3,fun i r hr=>⟨(q4 i r hr).1,fun k d hd=> ?_⟩⟩
   obtain⟨u,hu,hdr⟩:=(q4 i r hr).2 k d hd
   exact⟨u,hu,DR.scalar (h x hx r (List.mem_of_getElem? hr) d (List.mem_of_getElem? hd)) hdr⟩
theorem zn {h:bV} {v:Value}: ∀d∈h.rowX v,pK d:=by
 intro d hd
 simp only[bV.rowX,aNs,List.not_mem_nil,or_false] at hd
 rcases hd with rfl|rfl|rfl|rfl|rfl|rfl<;>trivial
theorem kc: ∀(hs:List bV) (vs:List Value),vs.length=hs.length→ ∀r∈bM hs vs,∀d∈r,pK d
 | [],_,_,r,hr=>by cases hr
 |h::hs,[],e,r,hr=>by cases e
 |h::hs,v::vs,e,r,hr=>by
  rcases aNs.1 hr with rfl|hr
  · exact zn
  · exact kc hs vs (by simpa using e) r hr
theorem aB3 (l:List eO): ∀r∈bI l,∀d∈r,pK d:=by
 intro r hr d hd
 obtain⟨m,_,rfl⟩:=aNr.1 hr
 simp only[eO.row,aNs,List.not_mem_nil,or_false] at hd
 rcases hd with rfl|rfl<;>trivial
theorem kd: ∀(hs:List bV) (vs:List Value),∀x∈cS hs vs,∀r∈x.2,∀d∈r,pK d
 | [],_,x,hx=>by simp[cS] at hx
 |h::hs,[],x,hx=>by simp[cS] at hx
 |h::hs,v::vs,x,hx=>by
  rcases aNs.1 hx with rfl|hx
  · exact aB3 _
  · exact kd hs vs x hx
theorem jY {X:V} {hs:List bV} {vs:List Value} {e e2:TypeId} {es es2 a b:Nat} (hX:gk X=true) (hv:vs.length=hs.length):iC [(.t 0,.v X),(.o a,.row e es (bM hs vs)),(.o b,.zone (eW e2 es2 (cS hs vs)))]:=by
 intro p hp
 simp only[aNs,List.not_mem_nil,or_false] at hp
 rcases hp with rfl|rfl|rfl
 · exact jl hX
 · exact kc hs vs hv
 · exact zm (kd hs vs)
theorem bs: ∀(hs:List bV) (vs:List Value) (i:Nat) (v:Value),vs[i]? =some v→i<hs.length→(bM hs vs).getD i []=(hs.getD i .zero).rowX v
 | [],_,_,_,_,h=>absurd h (Nat.not_lt_zero _)
 |h::hs,[],i,v,hv,_=>by simp at hv
 |h::hs,u::vs,0,v,hv,_=>by simp at hv;subst hv;rfl
 |h::hs,u::vs,i+1,v,hv,hl=>by
  have:=bs hs vs i v (by simpa using hv) (by simpa using hl)
  simpa[bM] using this
theorem wS: ∀(hs:List bV) (vs:List Value) (i:Nat) (v:Value) (x:bV),vs[i]? =some v→i<hs.length→(bM hs vs).set i (x.rowX v)=bM (hs.set i x) vs
 | [],_,_,_,_,_,h=>absurd h (Nat.not_lt_zero _)
 |h::hs,[],i,v,x,hv,_=>by simp at hv
 |h::hs,u::vs,0,v,x,hv,_=>by simp at hv;subst hv;rfl
 |h::hs,u::vs,i+1,v,x,hv,hl=>by
  have:=wS hs vs i v x (by simpa using hv) (by simpa using hl)
  simpa[bM] using this
theorem pg: ∀(hs:List bV) (vs:List Value) (v:Value) (x:bV),vs.length<hs.length→(bM hs vs).set vs.length (x.rowX v)=bM (hs.set vs.length x) (vs++[v])
 | [],_,_,_,h=>absurd h (Nat.not_lt_zero _)
 |h::hs,[],v,x,_=>by simp[bM,rQ]
 |h::hs,u::vs,v,x,h1=>by
  have h3:=pg hs vs v x (by simpa using h1)
  simpa[bM] using h3
theorem ph: ∀(hs:List bV) (vs:List Value) (i:Nat) (v:Value) (x:bV),vs[i]? =some v→i<hs.length→cS (hs.set i x) vs=cS (hs.take i) (vs.take i)++(v,bI x.got)::cS (hs.drop (i+1)) (vs.drop (i+1))
 | [],_,_,_,_,_,h=>absurd h (Nat.not_lt_zero _)
 |h::hs,[],i,v,x,hv,_=>by simp at hv
 |h::hs,u::vs,0,v,x,hv,_=>by simp at hv;subst hv;simp[cS]
 |h::hs,u::vs,i+1,v,x,hv,hl=>by
  have:=ph hs vs i v x (by simpa using hv) (by simpa using hl)
  simp only[List.set_cons_succ,cS,List.take_succ_cons,List.drop_succ_cons,List.cons_append]
  rw[this]
theorem nC {α:Type}: ∀(l:List α) (i:Nat) (z:α),l.set i (l.getD i z)=l
 | [],_,_=>rfl
 |x::r,0,z=>by simp
 |x::r,i+1,z=>by have:=nC r i z;simpa using this
theorem aIm (hs:List bV) (vs:List Value) (i:Nat) (v:Value) (hv:vs[i]? =some v) (hi:i<hs.length):cS hs vs=cS (hs.take i) (vs.take i)++(v,bI (hs.getD i .zero).got)::cS (hs.drop (i+1)) (vs.drop (i+1)):=by
 rw[← ph hs vs i v (hs.getD i .zero) hv hi,nC]
def nU (l:List bV) (i:Nat):List bV:=l.take i++List.replicate (l.length - i) .zero
theorem aB4 (l:List bV):nU l 0=List.replicate l.length .zero:=by simp[nU]
theorem aEi (l:List bV):nU l l.length=l:=by simp[nU]
theorem rJ {l:List bV} {i:Nat} (h:i≤l.length): (nU l i).length=l.length:=by simp[nU];omega
theorem uf: ∀(l:List bV) (i:Nat),i<l.length→(nU l i).set i (l.getD i .zero)=nU l (i+1)
 | [],_,h=>absurd h (Nat.not_lt_zero _)
 |h::r,0,_=>by simp[nU,List.replicate_succ]
 |h::r,i+1,q=>by
  have:=uf r i (by simpa using q)
  simp only[nU] at this ⊢
  simpa using this
theorem aEj {l:List bV} {vs:List Value} (v:Value) (h:vs.length<l.length): (bM (nU l vs.length) vs).set vs.length ((l.getD vs.length .zero).rowX v)=bM (nU l (vs++[v]).length) (vs++[v]):=by
 rw[pg _ _ _ _ (by rw[rJ (by omega)];exact h),uf l _ h,aNh]
 rfl
theorem ug (l:List bV):bM (nU l 0) []=List.replicate l.length bV.zero.row:=by
 rw[rQ,aB4,aY,List.map_replicate]
def eD (l:List bV) (k:Int) (i:Nat):List bV:=bQ (l.take i) k++l.drop i
theorem aB5 (l:List bV) (k:Int):eD l k 0=l:=by simp[eD,bQ]
theorem aEk (l:List bV) (k:Int):eD l k l.length=bQ l k:=by simp[eD]
theorem eu (l:List bV) (k:Int) (i:Nat): (eD l k i).length=l.length:=by simp[eD,cB];omega
theorem pj: ∀(l:List bV) (k:Int) (i:Nat),i<l.length→(eD l k i).getD i .zero=l.getD i .zero
 | [],_,_,h=>absurd h (Nat.not_lt_zero _)
 |h::r,k,0,_=>by simp[eD,bQ]
 |h::r,k,i+1,q=>by
  have:=pj r (k+mM h) i (by simpa using q)
  simp only[eD,List.take_succ_cons,List.drop_succ_cons,bQ,List.cons_append,List.getD_cons_succ] at this ⊢
  exact this
theorem iu: ∀(l:List bV) (k:Int) (i:Nat),i<l.length→(eD l k i).set i (kY (l.getD i .zero) (k+aK (l.take i)))=eD l k (i+1)
 | [],_,_,h=>absurd h (Nat.not_lt_zero _)
 |h::r,k,0,_=>by simp[eD,bQ,aK]
 |h::r,k,i+1,q=>by
  have:=iu r (k+mM h) i (by simpa using q)
  simp only[eD,List.take_succ_cons,List.drop_succ_cons,bQ,List.cons_append,List.getD_cons_succ,aK,List.set_cons_succ] at this ⊢
  rw[← this,show k+(mM h+aK (List.take i r))=k+mM h+aK (List.take i r) by omega]
def iA (l:List eO) (k:Int) (i:Nat):List eO:=hD (l.take i) k++l.drop i
theorem zo (l:List eO) (k:Int):iA l k 0=l:=by simp[iA,hD]
theorem aB6 (l:List eO) (k:Int):iA l k l.length=hD l k:=by simp[iA]
theorem pR (l:List eO) (k:Int) (i:Nat): (iA l k i).length=l.length:=by simp[iA,hH];omega
theorem ke: ∀(l:List eO) (k:Int) (i:Nat),i<l.length→(iA l k i).getD i .zero=l.getD i .zero
 | [],_,_,h=>absurd h (Nat.not_lt_zero _)
 |h::r,k,0,_=>by simp[iA,hD]
 |h::r,k,i+1,q=>by
  have:=ke r (k+2) i (by simpa using q)
  simp only[iA,List.take_succ_cons,List.drop_succ_cons,hD,List.cons_append,List.getD_cons_succ] at this ⊢
  exact this
theorem pn: ∀(l:List eO) (k:Int) (i:Nat),i<l.length→(iA l k i).set i ⟨k+2*i,oF (k+2*i+1)⟩=iA l k (i+1)
 | [],_,_,h=>absurd h (Nat.not_lt_zero _)
 |h::r,k,0,_=>by simp[iA,hD]
 |h::r,k,i+1,q=>by
  have:=pn r (k+2) i (by simpa using q)
  simp only[iA,List.take_succ_cons,List.drop_succ_cons,hD,List.cons_append,List.set_cons_succ] at this ⊢
  rw[← this,show k+2*((i+1:Nat):Int)=k+2+2*i by omega]
theorem kI (l:List eO) (i:Nat) (x:eO): (bI l).set i x.row=bI (l.set i x):=by
 simp[bI,List.map_set]
def kw:List bV→Nat
 | []=>0
 |h::r=>h.got.length+kw r
theorem hF: ∀l:List bV,aK l=5*l.length+2*kw l
 | []=>rfl
 |h::r=>by
  have:=hF r
  simp only[aK,mM,kw,aNk,this]
  push_cast
  omega
theorem uh: ∀(l:List bV) (i:Nat),i<l.length→kw (l.take (i+1))=kw (l.take i)+(l.getD i .zero).got.length
 | [],_,h=>absurd h (Nat.not_lt_zero _)
 |h::r,0,_=>by simp[kw]
 |h::r,i+1,q=>by
  have:=uh r i (by simpa using q)
  simp only[List.take_succ_cons,kw,List.getD_cons_succ] at this ⊢
  omega
theorem ew: ∀(l:List bV) (i:Nat),aK (l.take i)≤aK l
 | [],i=>by simp[aK]
 |h::r,0=>by simpa[aK] using cI (h::r)
 |h::r,i+1=>by have:=ew r i;simp only[List.take_succ_cons,aK];omega
theorem ey {l:List bV} {i:Nat} (h:i<l.length):aK (l.take i)+5+2*((l.getD i .zero).got.length:Int)≤aK l:=by
 have h1:=oT l i h
 have h2:=ew l (i+1)
 simp only[mM] at h1
 omega
theorem aCx {l:List bV}:5*(l.length:Int)≤aK l:=by rw[hF];omega
theorem zp {l:List bV} {vs:List Value} (h:vs.length<l.length): (bM (nU l vs.length) vs).getD vs.length []=bV.zero.row:=by
 rw[wR _ _ _ (aNp _) (by rw[rJ (by omega)];exact h)]
 congr 1
 unfold nU
 rw[aNm,List.getElem?_append_right (by simp;omega),List.getElem?_replicate,aC (by simp;omega)]
 rfl
theorem aEl {l:List bV} {vs:List Value} {v:Value} (h:vs.length<l.length): (bM (nU l vs.length) vs).set vs.length (dC ((bM (nU l vs.length) vs).getD vs.length []) 0 ((l.getD vs.length .zero).rowX v))=bM (nU l (vs++[v]).length) (vs++[v]):=by
 rw[zp h]
 exact aEj v h
def aLs (B:Nat) (k:aN):Prop:=k.log.length≤B∧k.halves.length*64≤B∧ ∀h∈k.halves,h.got.length*24≤B∧ ∀m∈h.got,m.data.length≤B
def KRW (k:aN):Prop:=aLs 140737488355328 k
theorem yX {B:Nat} {k:aN} (hB:B≤140737488355328) (h:aLs B k):KRW k:=⟨by have:=h.1;omega,by have:=h.2.1;omega,fun x hx=>⟨by have:=(h.2.2 x hx).1;omega,fun m hm=>by have:=(h.2.2 x hx).2 m hm;omega⟩⟩
theorem dE {k:aN} (h:KRW k):KRB k:=⟨h.1,h.2.1,fun x hx=>(h.2.2 x hx).1⟩
open Go Go.RowKit
set_option linter.unusedVariables false
set_option linter.unusedSimpArgs false
structure LH (k x:aN):Prop where
 log:x.log.length≤140737488355328
 hal:x.halves=k.halves∨x.halves=[]
theorem LH.krb {k x:aN} (h:LH k x) (hk:KRB k):KRB x:=by
 refine⟨h.log,?_⟩
 rcases h.hal with e|e
 · rw[e];exact hk.2
 · rw[e];exact⟨by simp,fun _ hx=>nomatch hx⟩
theorem LH.cnt {k x:aN} (h:LH k x) {n:Int} (hk:aK k.halves≤n):aK x.halves≤n:=by
 rcases h.hal with e|e
 · rw[e];exact hk
 · rw[e];have:=cI k.halves;simp only[aK];omega
theorem LH.fall {k:aN} (h:KRB k) (keep:Int):LH k (bN k keep):=⟨zj h.1,by unfold bN;split<;>exact .inr rfl⟩
theorem LH.rise {k:aN} (h:KRB k):LH k (bL k):=⟨zk h.1,by unfold bL;split;exact .inl rfl;exact .inr rfl⟩
theorem LH.force {k:aN} (h:KRB k):LH k (aU k).1:=by
 refine⟨?_,?_⟩
 · unfold aU
   split
   · split
     · exact h.1
     · exact br h.1
   · exact aNj _
 · unfold aU
   split
   · split<;>exact .inl rfl
   · exact .inr rfl
theorem LH.pack {k:aN} (h:KRB k):LH k (aZ k).1:=by
 refine⟨?_,?_⟩
 · unfold aZ
   split
   · split
     · exact sH h.1
     · exact h.1
   · exact aNj _
 · unfold aZ
   split
   · split<;>exact .inl rfl
   · exact .inr rfl
theorem LH.time {k:aN} (h:KRB k):LH k (bB k).1:=by
 refine⟨?_,?_⟩
 · unfold bB
   split
   · split
     · exact(gR h.1).1
     · exact h.1
   · exact aNj _
 · unfold bB
   split
   · split
     · exact .inl (gR h.1).2
     · exact .inl rfl
   · exact .inr rfl
theorem LH.own {k:aN} (h:KRB k) (tu til:Int) (tx:List UInt8):LH k (bE k tu til tx).1:=by
 refine⟨?_,?_⟩
 · unfold bE
   split
   · split
     · split
       · exact(gR h.1).1
       · exact h.1
     · exact h.1
   · exact aNj _
 · unfold bE
   split
   · split
     · split
       · exact .inl (gR h.1).2
       · exact .inl rfl
     · exact .inl rfl
   · exact .inr rfl
theorem LH.eat {k:aN} (h:KRB k) (f n:Int):LH k (aQ k f n).1:=by
 refine⟨?_,?_⟩
 · unfold aQ
   split
   · split
     · split
       · exact(gR h.1).1
       · exact h.1
     · exact h.1
   · exact aNj _
 · unfold aQ
   split
   · split
     · split
       · exact .inl (gR h.1).2
       · exact .inl rfl
     · exact .inl rfl
   · exact .inr rfl
open Go Go.RowKit
set_option linter.unusedVariables false
theorem aB7 {P:Program} {ops:Array Oper} {o:Oper} {σ:St} {R:List (cL×Option K)} {W:List (cL×K)} {j s:Nat} {want:Bool} (hg:o.guard=some (j,want)) (hs: (ops[j]?).bind (·.dst)=some s) (hl:gOf want (aP σ (.t s))=some true) (h:xH P o R W):
 ItT P ops o ((.t s,aP σ (.t s))::R,W):=by
 intro cx σ1 ι S a w hr hw hb next Q hn
 have hls:aP σ1 (.t s)=aP σ (.t s):=hr (.t s,aP σ (.t s)) (List.mem_cons_self ..)
 rw[lz hw hg hs (by rw[hls];exact hl),aC rfl]
 exact .inl (h cx σ1 ι S a w (fun p hp=>hr p (List.mem_cons_of_mem _ hp)) hw hb next Q hn)
def aB8 (P:Program) (ops:List Oper):List Oper→St→List zS→(St→List zS→Prop)→Prop
 | [],σ,acc,k=>k σ acc
 |o::os,σ,acc,k=>match o.guard with
  |none=> ∃R W,xH P o R W∧bX R σ∧mN σ W fun σ'=>aB8 P ops os σ' (acc++[nE (R,W)]) k
  |some (j,want)=>match(ops[j]?).bind (·.dst),o.dst with
   |some s,some d=>match gOf want (aP σ (.t s)) with
    |some g=>(g=true→ ∃R W,xH P o R W∧bX R σ∧mN σ W fun σ'=>aB8 P ops os σ' (acc++[nE ((.t s,aP σ (.t s))::R,W)]) k)∧
     (g=false→ ∃X,xk σ (.t d) (.cv s want false X) fun σ'=>aB8 P ops os σ' (acc++[nE ([(.t s,aP σ (.t s))],[(.t d,.cv s want false X)])]) k)
    |none=>False
   |_,_=>False
theorem wT {P:Program} {ops:Array Oper} {k:St→List zS→Prop}: ∀(l:List Oper) (σ:St) (acc:List zS),aB8 P ops.toList l σ acc k→ ∃ts:List kT,wX P ops l ts∧iT ts σ∧k (dM ts σ) (acc++ts.map nE)
 | [],σ,acc,h=>⟨[],trivial,trivial,by simpa[aB8,dM] using h⟩
 |o::os,σ,acc,h=>by
  simp only[aB8] at h
  split at h
  · rename_i hg
    obtain⟨R,W,h1,h2,h3⟩:=h
    rw[jJ] at h3
    obtain⟨ts,q1,q2,q4⟩:=wT os _ _ h3
    exact⟨(R,W)::ts,⟨xM hg h1,q1⟩,⟨h2,q2⟩,by simpa[dM] using q4⟩
  · rename_i j want hg
    split at h<;>try(exact h.elim)
    rename_i s d hs hd
    split at h<;>try(exact h.elim)
    rename_i g hl
    have hs': (ops[j]?).bind (·.dst)=some s:=by simpa using hs
    cases g with
    |true=>
     obtain⟨R,W,h1,h2,h3⟩:=h.1 rfl
     rw[jJ] at h3
     obtain⟨ts,q1,q2,q4⟩:=wT os _ _ h3
     refine⟨((.t s,aP σ (.t s))::R,W)::ts,⟨aB7 hg hs' hl h1,q1⟩,⟨?_,q2⟩,by simpa[dM] using q4⟩
     intro p hp
     rcases aNs.1 hp with rfl|hp
     · rfl
     · exact h2 p hp
    |false=>
     obtain⟨X,h3⟩:=h.2 rfl
     rw[uL] at h3
     obtain⟨ts,q1,q2,q4⟩:=wT os _ _ h3
     have hi:=vb (P:=P) (o:=o) (R:=[]) (X:=X) hg hs' hd hl (by simp) (by simp)
     refine⟨([(.t s,aP σ (.t s))],[(.t d,.cv s want false X)])::ts,⟨hi,q1⟩,⟨?_,by simpa[eV] using q2⟩,by simpa[dM,eV] using q4⟩
     intro p hp
     rw[List.mem_singleton.1 hp]
open Go Go.RowKit
set_option linter.unusedVariables false
theorem SW.regTX {P:Program} {io:List Nat} {Q:Ex→St→Prop} {σ:St} (ks:List Nat) {id:Nat} {ops:Array Oper} (h:aB8 P ops.toList ops.toList σ [] fun σ' _=>rV ks σ' (Q .norm)):SW P io (.region id ops false) Q σ:=by
 intro cx ι S a w hio hw hf
 have hfit: ∀o∈ops.toList,∀d,o.dst=some d→d<cx.N:=fun o ho=>xN (by simpa[qP] using hf) ho
 obtain⟨ts,h1,h2,h5⟩:=wT (ops:=ops) ops.toList σ [] h
 rw[mA] at h5
 exact wp_region_list (rR (Q:=_) ops.toList ts σ ι S a w h1 h2 hw hfit fun ι' S' a' w' hw'=>⟨_,ι',S',h5,hw'.keep ks⟩)
section
variable {P:Program} {cx:Cx P} {σ:St} {ι:Nat→Value} {S:Nat→Prop} {a:Act} {w:World}
end
open Go Go.RowKit
set_option linter.unusedVariables false
set_option linter.unusedSimpArgs false
section
variable {P:Program} {f:FuncId} {n:Nat} {σin:St} {X:V} {o:Oper} {c:Call} {d:Nat} {σ:St} {Xs:List V} {Ra:List (cL×Option K)} {bor:List Nat} {robj:List (Nat×K)}
def po (Ra:List (cL×Option K)) (robj:List (Nat×K)):List (cL×Option K):=Ra++robj.map fun p=>(.o p.1,some p.2)
theorem zq (hs:Spec P f n σin [(.t 0,.v X)]) (ho:o.op= .call c) (hc:c.callee= .value (.func f)) (hd:o.dst=some d) (hx:kz σ c.args.toList=some (Xs,Ra)) (hn:Xs.length=n) (hm:jO (dA 0 Xs++kA robj) σin [] bor) (hob:bO σin=[]) (hX:lB X=true) (hsc:gk X=true):
 xH P o (po Ra robj) [(.t d,.v X)]:=by
 have:=xU (robj:=robj) (rl:=[]) (bor:=bor) hs ho hc hx hn hm (by simp[fZ,bO,kM,hob,rU,oA]) (.inr (aBc hsc))
 have e1:oW Ra robj [] σin [(.t 0,.v X)]=po Ra robj:=by simp[oW,eJ,bO,po]
 have e2:gM [] σin [(.t 0,.v X)] o.dst=[(.t d,.v X)]:=by
  simp[gM,tQ,pJ,kM,hob,hd,xR,aP,mg hX]
 rw[e1,e2] at this
 exact this
theorem pq {σ:St} (hx:kz σ c.args.toList=some (Xs,Ra)) (h1: ∀p∈robj,aP σ (.o p.1)=some p.2):bX (po Ra robj) σ:=by
 refine(pC hx).append fun p hp=> ?_
 obtain⟨q,hq,rfl⟩:=aNr.1 hp
 exact h1 q hq
theorem dZ {k:List (cL×Option K)→List (cL×K)→Prop} (hs:Spec P f n σin [(.t 0,.v X)]) (ho:o.op= .call c) (hc:c.callee= .value (.func f)) (hd:o.dst=some d) (hx:kz σ c.args.toList=some (Xs,Ra)) (hn:Xs.length=n) (hm:jO (dA 0 Xs++kA robj) σin [] bor) (hob:bO σin=[]) (hX:lB X=true) (hsc:gk X=true)
 (h1: ∀p∈robj,aP σ (.o p.1)=some p.2) (h:k (po Ra robj) [(.t d,.v X)]): ∃R W,xH P o R W∧bX R σ∧k R W:=
 ⟨_,_,zq hs ho hc hd hx hn hm hob hX hsc,pq hx h1,h⟩
theorem qA {σ1:St} {g:Bool} {k:List (cL×Option K)→V→Prop} (hs:g=true→Spec P f n σin [(.t 0,.v X)]) (ho:o.op= .call c) (hc:c.callee= .value (.func f)) (hd:o.dst=some d) (hx:kz σ1 c.args.toList=some (Xs,Ra)) (hn:Xs.length=n) (hm:jO (dA 0 Xs++kA robj) σin [] bor) (hob:bO σin=[]) (hX:lB X=true) (hsc:gk X=true)
 (h1: ∀p∈robj,aP σ1 (.o p.1)=some p.2) (hr:g=true→oE σ (po Ra robj)) (h:k (po Ra robj) X): ∃R X,(g=true→xH P o R [(.t d,.v X)]∧bX R σ1)∧(g=true→oE σ R)∧k R X:=
 ⟨_,X,fun hg=>⟨zq (hs hg) ho hc hd hx hn hm hob hX hsc,pq hx h1⟩,hr,h⟩
end
theorem aIn {o m n:Nat} {a b c d e:D} (h:n=m):okV o m (.e (.agg [.d a,.d b,.d c,.d d,.d e,.own o n]))=true:=by
 subst h;simp[okV,okE,okC]
theorem aLt {P:Program} {T:fT} (hT:dL P T) {o:Oper} {σ:St} {t:TypeId} {x:Operand} {d ob n i k es:Nat} {e:TypeId} {rows:List (List D)} {v:Value} {ti:TI} {Rx:List (cL×Option K)} {kk:List (cL×Option K)→List (cL×K)→Prop}
 (ho:o.op= .load t x) (hd:o.dst=some d) (hx:ev σ x=some (.e (.c (.pe ob n i k)),Rx)) (hl:aP σ (.o ob)=some (.row e es rows)) (ht:T t=some ti) (hk:ti.kind.agg=false)
 (h1:rows.length=n∧i<n∧k< (rows.getD i []).length) (hv: (rows.getD i []).getD k (.i 0)= .x v) (h:kk (Rx++[(.o ob,some (.row e es rows))]) [(.t d,.v (Dv (.x v)))]): ∃R W,xH P o R W∧bX R σ∧kk R W:=by
 have hr:iK σ x o.dst (bv T σ t)=some ((rows.length=n∧i<n∧k< (rows.getD i []).length),Rx++[(.o ob,some (.row e es rows))],[(.t d,.v (Dv (.x v)))]):=by
  simp only[iK,hx,hd,bv,ht,hl,hk,hv,if_false,Bool.false_eq_true]
 obtain⟨q1,q2⟩:=fh hT ho _ _ _ hr h1
 exact⟨_,_,q1,q2,h⟩
end Go.Ab
namespace Go.Proofs.YtmabaopgkimfmaaGreatDoor
open Int renaming toNat_natCast→aNf
open Nat renaming le_of_ble_eq_true→aNg,zero_le→aNj,le_refl→aNp
open List renaming length_append→aNh,length_cons→aNk,length_nil→aNl,getD_eq_getElem?_getD→aNm,length_take→aNn,getElem?_eq_getElem→aNo,getElem?_eq_some_iff→aNq,mem_map→aNr,mem_cons→aNs,all_eq_true→aNt,range→aNu,length_drop→aNv
open Bool renaming and_eq_true→aNi
open Go Go.Ab Go.RowKit
set_option linter.unusedVariables false
set_option linter.unusedSimpArgs false
set_option maxRecDepth 9000
theorem zr (l:List eO) (hg:l.length*24≤140737488355328):Sp 186 1 [tD 0 (.sl (bI l))] [tO 0 0 l.length,oR 0 86 2 (bI l)]:=by
 refine sb Tryz.func186 rfl (sq (rT [0] (s1 (sq (rT [0,3] (s2 (ai (by refine⟨rfl,by omega,?_⟩;rw[aW];show((24:Nat):Int)*_≤_;omega) (s1 (sq (sq (rT [0,3,4] (s1 (bk (SW.loopW (n:=l.length) (fun m q=> ∃i:Nat,m=l.length - i∧i≤l.length∧q=[tD 0 (.sl (bI l)),tO 3 7 l.length,tI 4 (i:Nat),oR 7 86 2 (bI ((l.take i)++List.replicate (l.length - i) .zero))]) ?_ ?_))))))))))))))
 · refine wq (σ':=[tD 0 (.sl (bI l)),tO 3 7 l.length,tI 4 (0:Nat),oR 7 86 2 (bI ((l.take 0)++List.replicate (l.length - 0) .zero))]) [] [] (⟨0,rfl,aNj _,rfl⟩) ?_
   repeat' apply ai
   all_goals first|exact qx|rfl|(rw[aW];rfl)|(simp[bI,aW,eO.row,eO.zero];done)|exact qz
 rintro n s ⟨i,rfl,hi,rfl⟩
 refine sq (sq (rT [0,3,4,11] (s4 (cd rfl (fun c11=> ?_) fun c11=> ?_))))
 · have hi2:i<l.length:=by simpa[aW] using c11
   have hgg:=fB (l:=l) hi2
   refine sk (sq (bk (rT [0,3,4] (s4 (ai (by rw[aNf,hgg];exact⟨⟨by omega,by rw[aW];omega⟩,rfl⟩) (ai (by rw[aNf,hgg];exact⟨aNg rfl,rfl⟩) (xp (yT (l.getD i .zero)) (ai (by rw[aNf,hgg];rfl) ?_))))))))
   refine ai (by refine⟨?_,by omega,by omega⟩;simp[aW];omega) (ai (by rw[aNf,bh hi2];exact⟨by simp[aW];omega,by omega,rfl,aNp _⟩) (rT [0,3,4] (s3 (wq [] [] (⟨l.length - (i+1),by omega,i+1,rfl,by omega,rfl⟩) ?_))))
   repeat' apply ai
   all_goals first|exact qx|exact aA D.i (by rw[aH (by omega)];omega)|(rw[aNf];exact dp hi2)|exact qz
 have hi3:i=l.length:=by simp[aW] at c11;omega
 subst hi3
 refine xt (sq (rT [2] (s2 (rt (rq [(0,7)] [] rfl ?_)))))
 repeat' apply ai
 all_goals try exact qx
 all_goals first|rfl|(simp;done)
theorem aEm (h:bV) (hg:h.got.length*24≤140737488355328):Sp 135 1 [tV 0 h.V] [tV 0 (.e (.agg [.d (.i h.frm),.d (.i h.num),.d (.i h.to),.d (.i h.til),.d (.i h.size),.own 0 h.got.length])),oR 0 86 2 (bI h.got)]:=by
 exact sb Tryz.func135 rfl (sq (rT [1,2] (s2 (sq (rT [1,2,3] (s1 (sq (rT [1,2,3] (s4 (sq (rT [1,2,3] (s4 (sq (rT [1,2,3] (s4 (sq (rT [1,2,3] (s4 (sq (rT [1,2,3] (s4 (sq (rT [2,3] (s2 (dI (robj:=[]) (rl:=[(0,60)]) (bor:=[]) (zr h.got hg) rfl rfl rfl rfl ⟨fR rfl rfl trivial,rfl⟩ rfl (.inl rfl) (fun p hp=>nomatch hp) (fun j hj=>by(obtain rfl:j=0:=by simpa[eJ,bO,gW] using hj);rfl) (s2 (sq (rT [2] (s2 (rt (rq [(0,60)] [] rfl qz)))))))))))))))))))))))))))))))
theorem aB9 (l:List bV) (hg:l.length*64≤140737488355328) (hx: ∀h∈l,h.got.length*24≤140737488355328):wu 66 1 [tD 0 (.sl (aY l))] (fun s=> ∃vs:List Value,vs.length=l.length∧s=[tO 0 0 l.length,oR 0 138 6 (bM l vs),(.o 1,.zone (eW 86 2 (cS l vs)))]):=by
 refine zf Tryz.func66 rfl (sq (rT [0] (s1 (sq (rT [0,3] (s2 (ai (by refine⟨rfl,by omega,?_⟩;rw[aO];show((64:Nat):Int)*_≤_;omega) (s1 (sq (sq (rT [0,3,4] (s1 (bk (SW.newFam 90 86 2 rfl (SW.loopW (n:=l.length) (fun m q=> ∃vs:List Value,(m=l.length - vs.length∧vs.length≤l.length)∧q=[tD 0 (.sl (aY l)),tO 3 7 l.length,tI 4 (vs.length:Nat),oR 7 138 6 (bM (nU l vs.length) vs),(.o 90,.zone (eW 86 2 (cS l vs)))]) ?_ ?_)))))))))))))))
 · refine wq (σ':=[tD 0 (.sl (aY l)),tO 3 7 l.length,tI 4 (([]:List Value).length:Nat),oR 7 138 6 (bM (nU l ([]:List Value).length) ([]:List Value)),(.o 90,.zone (eW 86 2 (cS l ([]:List Value))))]) [] [] (⟨[],⟨rfl,aNj _⟩,rfl⟩) ?_
   repeat' apply ai
   all_goals first|exact qx|rfl|(rw[aO];rfl)|(rw[zl];done)|(rw[ug,aO];rfl)|(refine Eq.trans ?_ (ug l).symm;simp[aO,bV.row,bV.zero,bI];done)|exact qz
 rintro n s ⟨vs,⟨rfl,hi⟩,rfl⟩
 refine sq (sq (rT [0,3,4,11] (s4 (cd rfl (fun c11=> ?_) fun c11=> ?_))))
 · have hi2:vs.length<l.length:=by simpa[aO] using c11
   have hgg:=eH (l:=l) hi2
   have hmem:l.getD vs.length .zero∈l:=dO hi2
   refine sk (sq (bk (rE [0,3,4] (s4 (ai (by rw[aNf,hgg];exact⟨⟨by omega,by rw[aO];omega⟩,rfl⟩) (ai (by rw[aNf,hgg];exact⟨aNg rfl,rfl⟩) (aB1 (robj:=[]) (rl:=[(0,91)]) (bor:=[]) 90 91 20 (aEm (l.getD vs.length .zero) (hx _ hmem)) ⟨_,rfl,rfl,rfl⟩ rfl ⟨bK rfl (by rw[aNf,hgg];exact aI rfl (aI rfl (aI rfl (aI rfl (aI rfl (aI rfl aR)))))) trivial,rfl⟩ rfl (.inl rfl) (fun p hp=>nomatch hp) (fun j hj=>by(obtain rfl:j=0:=by simpa[eJ,bO,gW] using hj);rfl) rfl rfl rfl rfl (aIn (aW _).symm) ?_)))))))
   intro v
   have hvl: (vs++[v]).length=vs.length+1:=by simp
   refine ai (by refine⟨?_,by omega,by omega⟩;rw[bC,rJ (by omega)]) (ai (by rw[aNf,zp hi2];exact⟨by rw[bC,rJ (by omega)],by omega,rfl,aNp _⟩) (rT [0,3,4] (s3 (wq [] [] (⟨l.length - (vs++[v]).length,by rw[hvl];omega,vs++[v],⟨rfl,by rw[hvl];omega⟩,rfl⟩) ?_))))
   repeat' apply ai
   all_goals first|exact qx|exact aA D.i (by rw[aH (by omega),hvl];omega)|(rw[aNf];exact aEl hi2)|(rw[← ir _ _ _ hi2];done)|rfl|exact qz
 have hi3:vs.length=l.length:=by simp[aO] at c11;omega
 refine xt (sq (rT [2] (s2 (rt (kH [tO 0 0 l.length,oR 0 138 6 (bM l vs),(.o 1,.zone (eW 86 2 (cS l vs)))] ⟨vs,hi3,rfl⟩ (fV _ [(0,7),(1,90)] [] rfl (gh rfl rfl rfl rfl (dV rfl (by rw[hi3,aEi]) (fY rfl rfl trivial))) rfl rfl))))))
theorem kJ (k:aN) (hk:KRB k):wu 17 1 [tV 0 k.V] (fun s=> ∃vs:List Value,vs.length=k.halves.length∧s=[tV 0 (.e (.agg [.d (.i k.id),.d (.b k.up),.d (.s k.log),.d (.i k.forced),.own 0 k.halves.length])),oR 0 138 6 (bM k.halves vs),(.o 1,.zone (eW 86 2 (cS k.halves vs)))]):=by
 refine zf Tryz.func17 rfl (sq (rT [1,2] (s2 (sq (rT [1,2,3] (s1 (sq (rT [1,2,3] (s4 (sq (rT [1,2,3] (s4 (sq (rT [1,2,3] (s2 (xp (yU k.log k.forced) (ai rfl ?_)))))))))))))))))
 refine s2 (sq (rE [2,3] (s2 (dJ (robj:=[]) (rl:=[(0,60),(1,90)]) (bor:=[]) (news:=[0,1]) (aB9 k.halves hk.2.1 hk.2.2) rfl rfl rfl rfl ⟨fR rfl rfl trivial,rfl⟩ (by rintro _ ⟨vs,hvs,rfl⟩;exact⟨rfl,.inl rfl,fun j hj=>hj⟩) (fun p hp=>nomatch hp) (fun j hj=>by simp at hj;rcases hj with rfl|rfl<;>rfl) ?_))))
 rintro _ ⟨vs,hvs,rfl⟩
 exact s2 (sq (rT [2] (s2 (rt (kH _ ⟨vs,hvs,rfl⟩ (fV _ [(0,60),(1,90)] [] rfl (bK rfl (aI rfl (aI rfl (aI rfl (aI rfl (eX rfl rfl rfl aR))))) (dV rfl rfl (fY rfl rfl trivial))) rfl rfl))))))
theorem aCa (m:eO) (n:Int) (hm:m.data.length≤140737488355328) (hn:0≤n∧n≤1048576):wu 221 2 [tV 0 m.V,tI 1 n] (fun s=> ∃r:Int,(-1≤r∧(0≤r→r+0≤n))∧s=[tI 0 r]):=by
 have hw0:wrap64 (n - (m.data.length:Int))=n - m.data.length:=aH (by omega)
 refine zf Tryz.func221 rfl (sq (rT [1,2] (s2 (sq (rT [1] (s6 (sq (sq (rT [1,11] (s2 (cd rfl (fun c11=> ?_) fun c11=> ?_)))))))))))
 · refine sq (rT [4] (s1 (rt (rY _ ⟨_,?_,rfl⟩ (aT rfl rfl)))))
   exact⟨by omega,fun h=>by omega⟩
 have hc: ¬wrap64 (n - (m.data.length:Int))<0:=by simpa using c11
 rw[hw0] at hc
 refine sk (sq (rT [4] (s2 (rt (rY _ ⟨_,?_,rfl⟩ (aT rfl rfl))))))
 rw[hw0]
 exact⟨by omega,fun h=>by omega⟩
theorem zt (l:List eO) (n:Int) (hg:l.length*24≤140737488355328) (hx: ∀m∈l,m.data.length≤140737488355328) (hn:0≤n∧n≤1048576):wu 182 2 [tD 0 (.sl (bI l)),tI 1 n] (fun s=> ∃r:Int,(-1≤r∧(0≤r→r+(l.length:Nat)≤n))∧s=[tI 0 r]):=by
 have hw0:wrap64 (n - ((bI l).length:Int))=n - l.length:=by rw[aW];exact aH (by omega)
 refine zf Tryz.func182 rfl (sq (rT [0,1] (s1 (sq (rT [0,1] (s5 (sq (sq (rT [0,1,11] (s2 (cd rfl (fun c11=> ?_) fun c11=> ?_)))))))))))
 · refine sq (rT [4] (s1 (rt (rY _ ⟨_,?_,rfl⟩ (aT rfl rfl)))))
   exact⟨by omega,fun h=>by omega⟩
 have hc: ¬wrap64 (n - ((bI l).length:Int))<0:=by simpa using c11
 rw[hw0] at hc
 refine sk (sq (sq (rT [0,1,5] (s1 (bk (SW.loopW (n:=l.length) (fun m q=> ∃(i:Nat) (x:Int),(m=l.length - i∧i≤l.length∧0≤x∧x+(l.length:Nat)+(0:Int)≤n)∧q=[tD 0 (.sl (bI l)),tI 1 x,tI 5 (i:Nat)]) ?_ ?_))))))
 · exact wq (σ':=[tD 0 (.sl (bI l)),tI 1 (wrap64 (n - ((bI l).length:Int))),tI 5 (0:Nat)]) [] [] (⟨0,_,⟨rfl,aNj _,by rw[hw0];omega,by rw[hw0];simp[kw]⟩,rfl⟩) qz
 rintro n s ⟨i,x,⟨rfl,hi,hx0,hxn⟩,rfl⟩
 refine sq (sq (rT [0,1,5,15] (s4 (cd rfl (fun c15=> ?_) fun c15=> ?_))))
 · have hi2:i<l.length:=by simpa[aW] using c15
   have hgg:=fB (l:=l) hi2
   have hmem:l.getD i .zero∈l:=dO hi2
   refine sk (sq (bk (sq (rE [0,1,5] (s2 (ai (by rw[aNf,hgg];exact⟨⟨by omega,by rw[aW];omega⟩,rfl⟩) (ai (by rw[aNf,hgg];exact⟨aNg rfl,rfl⟩) (s1 (dJ (rl:=[]) (bor:=[]) (news:=[]) (robj:=[]) (aCa (l.getD i .zero) x (hx _ hmem) ⟨by omega,by omega⟩) rfl rfl rfl rfl (by refine⟨bK rfl ?_ (fR rfl rfl trivial),rfl⟩;rw[aNf,hgg];exact aI rfl (aI rfl trivial)) (fun σ hσ=>by obtain⟨r,_,rfl⟩:=hσ;exact⟨rfl,.inl rfl,fun j hj=>by simp[eJ,bO] at hj⟩) (fun p hp=>nomatch hp) (fun j hj=>nomatch hj) ?_)))))))))
   rintro σ ⟨r,hr,rfl⟩
   refine s1 (sq (rT [0,1,5,25] (s2 (cd rfl (fun c25=> ?_) fun c25=> ?_))))
   · refine sq (rT [4] (s1 (rt (rY _ ⟨_,?_,rfl⟩ (aT rfl rfl)))))
     exact⟨by omega,fun h=>by omega⟩
   have hc2: ¬r<0:=by simpa using c25
   have hr2:=hr.2 (by omega)
   refine sk (rT [0,1,5] (s3 (wq [] [] (⟨l.length - (i+1),by omega,i+1,r,⟨rfl,by omega,by omega,by omega⟩,rfl⟩) ?_)))
   repeat' apply ai
   all_goals first|exact qx|exact aA D.i (aH (by omega))|exact qz
 have hi3:i=l.length:=by simp[aW] at c15;omega
 refine xt (sq (rT [4] (s2 (rt (rY _ ⟨_,?_,rfl⟩ (aT rfl rfl))))))
 exact⟨by omega,fun h=>by omega⟩
theorem aEn (h:bV) (n:Int) (hg:h.got.length*24≤140737488355328∧ ∀m∈h.got,m.data.length≤140737488355328) (hn:0≤n∧n≤1048576):wu 129 2 [tV 0 h.V,tI 1 n] (fun s=> ∃r:Int,(-1≤r∧(0≤r→r+(h.got.length:Nat)≤n))∧s=[tI 0 r]):=by
 refine zf Tryz.func129 rfl (sq (rT [1,2] (s2 (sq (rE [1] (s3 (dJ (rl:=[]) (bor:=[]) (news:=[]) (robj:=[]) (zt h.got n hg.1 hg.2 hn) rfl rfl rfl rfl (gO rfl) (fun σ hσ=>by obtain⟨r,_,rfl⟩:=hσ;exact⟨rfl,.inl rfl,fun j hj=>by simp[eJ,bO] at hj⟩) (fun p hp=>nomatch hp) (fun j hj=>nomatch hj) ?_)))))))
 rintro σ ⟨r,hr,rfl⟩
 refine s1 (sq (sq (rT [1,10] (s2 (cd rfl (fun c10=> ?_) fun c10=> ?_)))))
 · refine sq (rT [4] (s1 (rt (rY _ ⟨_,?_,rfl⟩ (aT rfl rfl)))))
   exact⟨by omega,fun h=>by omega⟩
 have hc: ¬r<0:=by simpa using c10
 refine sk (sq (rT [4] (s2 (rt (rY _ ⟨_,?_,rfl⟩ (aT rfl rfl))))))
 exact hr
theorem aCb (l:List bV) (n:Int) (hg:l.length*64≤140737488355328) (hx: ∀h∈l,h.got.length*24≤140737488355328∧ ∀m∈h.got,m.data.length≤140737488355328) (hn:0≤n∧n≤1048576):wu 62 2 [tD 0 (.sl (aY l)),tI 1 n] (fun s=> ∃r:Int,(-1≤r∧(0≤r→r+((l.length+kw l:Nat):Int)≤n))∧s=[tI 0 r]):=by
 have hw0:wrap64 (n - ((aY l).length:Int))=n - l.length:=by rw[aO];exact aH (by omega)
 refine zf Tryz.func62 rfl (sq (rT [0,1] (s1 (sq (rT [0,1] (s5 (sq (sq (rT [0,1,11] (s2 (cd rfl (fun c11=> ?_) fun c11=> ?_)))))))))))
 · refine sq (rT [4] (s1 (rt (rY _ ⟨_,?_,rfl⟩ (aT rfl rfl)))))
   exact⟨by omega,fun h=>by omega⟩
 have hc: ¬wrap64 (n - ((aY l).length:Int))<0:=by simpa using c11
 rw[hw0] at hc
 refine sk (sq (sq (rT [0,1,5] (s1 (bk (SW.loopW (n:=l.length) (fun m q=> ∃(i:Nat) (x:Int),(m=l.length - i∧i≤l.length∧0≤x∧x+(l.length:Nat)+((kw (l.take i):Nat):Int)≤n)∧q=[tD 0 (.sl (aY l)),tI 1 x,tI 5 (i:Nat)]) ?_ ?_))))))
 · exact wq (σ':=[tD 0 (.sl (aY l)),tI 1 (wrap64 (n - ((aY l).length:Int))),tI 5 (0:Nat)]) [] [] (⟨0,_,⟨rfl,aNj _,by rw[hw0];omega,by rw[hw0];simp[kw]⟩,rfl⟩) qz
 rintro n s ⟨i,x,⟨rfl,hi,hx0,hxn⟩,rfl⟩
 refine sq (sq (rT [0,1,5,15] (s4 (cd rfl (fun c15=> ?_) fun c15=> ?_))))
 · have hi2:i<l.length:=by simpa[aO] using c15
   have hgg:=eH (l:=l) hi2
   have hmem:l.getD i .zero∈l:=dO hi2
   refine sk (sq (bk (sq (rE [0,1,5] (s2 (ai (by rw[aNf,hgg];exact⟨⟨by omega,by rw[aO];omega⟩,rfl⟩) (ai (by rw[aNf,hgg];exact⟨aNg rfl,rfl⟩) (s1 (dJ (rl:=[]) (bor:=[]) (news:=[]) (robj:=[]) (aEn (l.getD i .zero) x (hx _ hmem) ⟨by omega,by omega⟩) rfl rfl rfl rfl (by refine⟨bK rfl ?_ (fR rfl rfl trivial),rfl⟩;rw[aNf,hgg];exact aI rfl (aI rfl (aI rfl (aI rfl (aI rfl (aI rfl trivial)))))) (fun σ hσ=>by obtain⟨r,_,rfl⟩:=hσ;exact⟨rfl,.inl rfl,fun j hj=>by simp[eJ,bO] at hj⟩) (fun p hp=>nomatch hp) (fun j hj=>nomatch hj) ?_)))))))))
   rintro σ ⟨r,hr,rfl⟩
   refine s1 (sq (rT [0,1,5,25] (s2 (cd rfl (fun c25=> ?_) fun c25=> ?_))))
   · refine sq (rT [4] (s1 (rt (rY _ ⟨_,?_,rfl⟩ (aT rfl rfl)))))
     exact⟨by omega,fun h=>by omega⟩
   have hc2: ¬r<0:=by simpa using c25
   have hr2:=hr.2 (by omega)
   refine sk (rT [0,1,5] (s3 ?_))
   have hwt:=uh l i hi2
   refine wq [] [] (⟨l.length - (i+1),by omega,i+1,r,⟨rfl,by omega,by omega,by rw[hwt];push_cast;omega⟩,rfl⟩) ?_
   repeat' apply ai
   all_goals first|exact qx|exact aA D.i (aH (by omega))|exact qz
 have hi3:i=l.length:=by simp[aO] at c15;omega
 refine xt (sq (rT [4] (s2 (rt (rY _ ⟨_,?_,rfl⟩ (aT rfl rfl))))))
 rw[hi3,List.take_length] at hxn
 exact⟨by omega,fun h=>by push_cast;omega⟩
theorem aCc (l:List UInt8) (f n:Int) (hm:l.length≤140737488355328) (hn:0≤n∧n≤1048576):wu 61 2 [tV 0 (.e (.agg [.d (.s l),.d (.i f)])),tI 1 n] (fun s=> ∃r:Int,(-1≤r∧(0≤r→r+0≤n))∧s=[tI 0 r]):=by
 have hw0:wrap64 (n - (l.length:Int))=n - l.length:=aH (by omega)
 refine zf Tryz.func61 rfl (sq (rT [1,2] (s2 (sq (rT [1] (s6 (sq (sq (rT [1,11] (s2 (cd rfl (fun c11=> ?_) fun c11=> ?_)))))))))))
 · refine sq (rT [4] (s1 (rt (rY _ ⟨_,?_,rfl⟩ (aT rfl rfl)))))
   exact⟨by omega,fun h=>by omega⟩
 have hc: ¬wrap64 (n - (l.length:Int))<0:=by simpa using c11
 rw[hw0] at hc
 refine sk (sq (rT [4] (s2 (rt (rY _ ⟨_,?_,rfl⟩ (aT rfl rfl))))))
 rw[hw0]
 exact⟨by omega,fun h=>by omega⟩
theorem kK (k:aN) (n:Int) (hk:KRW k) (hn:0≤n∧n≤1048576):wu 15 2 [tV 0 k.V,tI 1 n] (fun s=> ∃r:Int,(-1≤r∧(0≤r→r+((k.halves.length+kw k.halves:Nat):Int)≤n))∧s=[tI 0 r]):=by
 refine zf Tryz.func15 rfl (sq (rT [1,2] (s2 (sq (rE [1,2] (s3 (dJ (rl:=[]) (bor:=[]) (news:=[]) (robj:=[]) (aCc k.log k.forced n hk.1 hn) rfl rfl rfl rfl (gO rfl) (fun σ hσ=>by obtain⟨r,_,rfl⟩:=hσ;exact⟨rfl,.inl rfl,fun j hj=>by simp[eJ,bO] at hj⟩) (fun p hp=>nomatch hp) (fun j hj=>nomatch hj) ?_)))))))
 rintro σ ⟨x,hx,rfl⟩
 refine s1 (sq (sq (rT [1,2,10] (s2 (cd rfl (fun c10=> ?_) fun c10=> ?_)))))
 · refine sq (rT [4] (s1 (rt (rY _ ⟨_,?_,rfl⟩ (aT rfl rfl)))))
   exact⟨by omega,fun h=>by omega⟩
 have hc: ¬x<0:=by simpa using c10
 have hx2:=hx.2 (by omega)
 refine sk (sq (rE [1] (s3 (dJ (rl:=[]) (bor:=[]) (news:=[]) (robj:=[]) (aCb k.halves x hk.2.1 hk.2.2 ⟨by omega,by omega⟩) rfl rfl rfl rfl (gO rfl) (fun σ hσ=>by obtain⟨r,_,rfl⟩:=hσ;exact⟨rfl,.inl rfl,fun j hj=>by simp[eJ,bO] at hj⟩) (fun p hp=>nomatch hp) (fun j hj=>nomatch hj) ?_))))
 rintro σ ⟨r,hr,rfl⟩
 refine s1 (sq (sq (rT [1,16] (s2 (cd rfl (fun c16=> ?_) fun c16=> ?_)))))
 · refine sq (rT [4] (s1 (rt (rY _ ⟨_,?_,rfl⟩ (aT rfl rfl)))))
   exact⟨by omega,fun h=>by omega⟩
 have hc2: ¬r<0:=by simpa using c16
 refine sk (sq (rT [4] (s2 (rt (rY _ ⟨_,?_,rfl⟩ (aT rfl rfl))))))
 exact⟨hr.1,fun h=>by have:=hr.2 h;omega⟩
theorem tG (k:Int) (hk:1≤k∧k≤10000000):Sp 103 1 [tI 0 k] [tD 0 (.s (oF k))]:=by
 refine sb Tryz.func103 rfl (sq (rT [0] (s1 (sq (sq (rT [0,5] (s2 (cd rfl (fun c5=> ?_) fun c5=> ?_))))))))
 · simp at c5
   omega
 refine sk (sq (rT [0,3] (s1 (sq (bk (SW.loopW (n:=k.toNat) (fun m s=> ∃(j f:Nat) (o:List UInt8),m=j∧(j≤f∧ye f j o=ye k.toNat k.toNat []∧j≤10000000∧o.length+j≤10000000)∧s=[tI 0 (j:Nat),tD 3 (.s o)]) ?_ ?_))))))
 · refine wq (σ':=[tI 0 (k.toNat:Nat),tD 3 (.s [])]) [] [] (⟨k.toNat,k.toNat,[],rfl,⟨aNp _,rfl,by omega,by simp;omega⟩,rfl⟩) ?_
   repeat' apply ai
   all_goals first|exact qx|(refine aA D.i ?_;omega)|exact rfl|exact qz
 rintro n s ⟨j,f,o,hm,hj,rfl⟩
 refine sq (sq (rT [0,3,7] (s2 (cd rfl (fun c7=> ?_) fun c7=> ?_))))
 · have hj1:0<j:=by simpa using c7
   obtain⟨g,hg1,hg2⟩:=aDk (acc:=o) hj1 hj.1
   refine sk (bk (sq (rT [0,3] (s1 (ai (by decide) (s3 (ai (by exact⟨rfl,aA (fun r=>[r]) (aBd _)⟩) (s1 (ai (by show _≤9223372036854775807;simp[nS];omega) (s1 (rT [0,3] (s1 (ai (by decide) (s1 (wq (σ':=[tI 0 ((j / 10:Nat):Nat),tD 3 (.s (u8 (wrap64 (48+Int.tmod (j:Int) 10))::o))]) [] [] (⟨j / 10,by omega,j / 10,g,_,rfl,⟨hg2,hg1.symm.trans hj.2.1,by omega,by rw[aNk];omega⟩,rfl⟩) ?_)))))))))))))))
   repeat' apply ai
   all_goals first|exact qx|(refine aA D.i ?_;rw[Int.tdiv_eq_ediv_of_nonneg (by omega),aH (by omega)];omega)|(refine aA D.s ?_;exact rfl)|exact qz
 have hj1:j=0:=by simp at c7;omega
 refine xt (sq (rT [2] (s1 (ai (by show _≤9223372036854775807;simp;omega) (s1 (rt (aT rfl (aA D.s ?_))))))))
 subst hj1
 rw[oF,← hj.2.1,aDj]
theorem yY (l:List eO) (k:Int) (i:Nat): (bI (iA l k i)).length=l.length:=by rw[aW,pR]
theorem aEo {l:List eO} {k:Int} {i:Nat} (h:i<l.length): (bI (iA l k i)).getD i []=(l.getD i .zero).row:=by
 rw[fB (by rw[pR];exact h),ke l k i h]
theorem aCd {l:List eO} {i:Nat} {x:eO} (h:i<l.length): (bI (l.set i x)).getD i []=x.row:=by
 rw[fB (by rw[List.length_set];exact h),aNm,List.getElem?_set_self h];rfl
theorem iZ {M:List bV} {vs:List Value} {i:Nat} {v:Value} (hv:vs[i]? =some v) (hi:i<M.length) {c:Nat} {d:D} (H H':bV) (e:dC (H.rowX v) c [d]=H'.rowX v): (bM (M.set i H) vs).set i (dC ((bM (M.set i H) vs).getD i []) c [d])=bM (M.set i H') vs:=by
 rw[bs (M.set i H) vs i v hv (by rw[List.length_set];exact hi),aNm,List.getElem?_set_self hi]
 show(bM (M.set i H) vs).set i (dC (H.rowX v) c [d])=_
 rw[e,wS _ _ _ _ _ hv (by rw[List.length_set];exact hi),List.set_set]
theorem wU {M:List bV} {vs:List Value} {i:Nat} {v:Value} (hv:vs[i]? =some v) (hi:i<M.length) (H:bV): (bM (M.set i H) vs).getD i []=H.rowX v:=by
 rw[bs (M.set i H) vs i v hv (by rw[List.length_set];exact hi),aNm,List.getElem?_set_self hi];rfl
theorem rr (l:List eO) (k:Int) (hk:1≤k) (hc:k+2*(l.length:Int)≤9000000):Sp 137 2 [tO 0 0 (l.length),tI 1 k,oR 0 86 2 (bI l)] [tI 0 (k+2*(l.length:Nat)),oR 0 86 2 (bI (hD l k))]:=by
 refine sb Tryz.func137 rfl (sq (rT [0,1] (s1 (sq (sq (rT [0,1,5] (s1 (bk (SW.loopW (n:=l.length) (fun n s=> ∃(i:Nat),n=l.length - i∧i≤l.length∧s=[tO 0 0 (l.length),tI 1 (k+2*(i:Nat)),tI 5 (i:Nat),oR 0 86 2 (bI (iA l k i))]) ?_ ?_)))))))))
 · refine wq (σ':=[tO 0 0 (l.length),tI 1 (k+2*(0:Nat)),tI 5 (0:Nat),oR 0 86 2 (bI (iA l k 0))]) [] [] (⟨0,rfl,aNj _,rfl⟩) ?_
   repeat' apply ai
   all_goals first|exact qx|rfl|(refine aA D.i ?_;omega)|(rw[zo];done)|exact qz
 rintro n s ⟨i,rfl,hi,rfl⟩
 refine sq (sq (rT [0,1,5,9] (s2 (ai (by exact yY _ _ _) (s1 (cd rfl (fun c9=> ?_) fun c9=> ?_))))))
 · have hi2:i<l.length:=by simpa using c9
   have hg1:=aEo (k:=k) hi2
   have hlm:=yY l k i
   have hg2:=aCd (l:=iA l k i) (x:=⟨k+2*i,(l.getD i .zero).data⟩) (by rw[pR];exact hi2)
   have hlm2: (bI ((iA l k i).set i ⟨k+2*i,(l.getD i .zero).data⟩)).length=l.length:=by rw[aW,List.length_set,pR]
   have hs2: ((iA l k i).set i ⟨k+2*i,(l.getD i .zero).data⟩).set i ⟨k+2*i,oF (k+2*i+1)⟩=iA l k (i+1):=by rw[List.set_set];exact pn l k i hi2
   have hlm3:=yY l k (i+1)
   refine sk (sq (bk (sq (rT [0,1,5] (s3 (ai (by exact⟨hlm,by omega,by omega⟩) (ai (by exact hlm) (ai (by rw[aNf,hg1];exact⟨hlm,by omega,rfl,aNg rfl⟩) (sq (wa [tO 0 0 (l.length),tI 1 (k+2*i),tI 5 (i:Nat),oR 0 86 2 (bI (((iA l k i).set i ⟨k+2*i,(l.getD i .zero).data⟩)))] [] [] ?_ ?_))))))))))
   · repeat' apply ai
     all_goals first|exact qx|exact aA D.i (aH (by omega))|(refine aA D.i ?_;rw[aH (by omega)];omega)|(rw[aNf,hg1];exact kI _ _ ⟨k+2*i,(l.getD i .zero).data⟩)|(rw[aNf,hg2];exact(kI _ _ ⟨k+2*i,oF (k+2*i+1)⟩).trans (aA bI hs2))|omega|exact qz
   refine rT [0,1,5] (s3 (sq (wa [tO 0 0 (l.length),tI 1 (k+2*i+1),tI 5 (i:Nat),oR 0 86 2 (bI (((iA l k i).set i ⟨k+2*i,(l.getD i .zero).data⟩)))] [] [] ?_ ?_)))
   · repeat' apply ai
     all_goals first|exact qx|exact aA D.i (aH (by omega))|(refine aA D.i ?_;rw[aH (by omega)];omega)|(rw[aNf,hg1];exact kI _ _ ⟨k+2*i,(l.getD i .zero).data⟩)|(rw[aNf,hg2];exact(kI _ _ ⟨k+2*i,oF (k+2*i+1)⟩).trans (aA bI hs2))|omega|exact qz
   refine rT [0,1,5] (s3 (xp (tG _ (by omega)) (ai rfl ?_)))
   refine ai (by exact⟨hlm2,by omega,by omega⟩) (ai (by exact hlm2) (ai (by rw[aNf,hg2];exact⟨hlm2,by omega,rfl,aNg rfl⟩) (wa [tO 0 0 (l.length),tI 1 (k+2*i+1),tI 5 (i:Nat),oR 0 86 2 (bI ((iA l k (i+1))))] [] [] ?_ ?_)))
   · repeat' apply ai
     all_goals first|exact qx|exact aA D.i (aH (by omega))|(refine aA D.i ?_;rw[aH (by omega)];omega)|(rw[aNf,hg1];exact kI _ _ ⟨k+2*i,(l.getD i .zero).data⟩)|(rw[aNf,hg2];exact(kI _ _ ⟨k+2*i,oF (k+2*i+1)⟩).trans (aA bI hs2))|omega|exact qz
   refine rT [0,1,5] (s3 (wa [tO 0 0 (l.length),tI 1 (k+2*i+2),tI 5 (i:Nat),oR 0 86 2 (bI ((iA l k (i+1))))] [] [] ?_ ?_))
   · repeat' apply ai
     all_goals first|exact qx|exact aA D.i (aH (by omega))|(refine aA D.i ?_;rw[aH (by omega)];omega)|(rw[aNf,hg1];exact kI _ _ ⟨k+2*i,(l.getD i .zero).data⟩)|(rw[aNf,hg2];exact(kI _ _ ⟨k+2*i,oF (k+2*i+1)⟩).trans (aA bI hs2))|omega|exact qz
   refine rT [0,1,5] (s3 (wq [] [] (⟨l.length - (i+1),by omega,i+1,rfl,by omega,rfl⟩) ?_))
   repeat' apply ai
   all_goals first|exact qx|exact aA D.i (aH (by omega))|(refine aA D.i ?_;(try rw[aH (by omega)]);omega)|exact qz
 refine xt (sq (rT [4] (s2 (rt ?_))))
 have e:i=l.length:=by simp at c9;omega
 subst e
 refine rq [] [] rfl ?_
 repeat' apply ai
 all_goals try exact qx
 all_goals first|with_reducible rfl|(rw[aB6];done)|(simp;done)
theorem wj (l:List bV) (vs:List Value) (k:Int) (hvs:vs.length=l.length) (hk:1≤k) (hc:k+aK l≤9000000):Sp 70 2 [tO 0 0 (l.length),tI 1 k,oR 0 138 6 (bM l vs),(.o 1,.zone (eW 86 2 (cS l vs)))] [tI 0 (k+aK l),oR 0 138 6 (bM (bQ l k) vs),(.o 1,.zone (eW 86 2 (cS (bQ l k) vs)))]:=by
 have hlen5:=aCx (l:=l)
 refine sb Tryz.func70 rfl (sq (rT [0,1] (s1 (sq (sq (rT [0,1,5] (s1 (bk (SW.loopW (n:=l.length) (fun n s=> ∃(i:Nat),n=l.length - i∧i≤l.length∧s=[tO 0 0 (l.length),tI 1 (k+aK (l.take i)),tI 5 (i:Nat),oR 0 138 6 (bM (eD l k i) vs),(.o 1,.zone (eW 86 2 (cS (eD l k i) vs)))]) ?_ ?_)))))))))
 · refine wq (σ':=[tO 0 0 (l.length),tI 1 (k+aK (l.take 0)),tI 5 (0:Nat),oR 0 138 6 (bM (eD l k 0) vs),(.o 1,.zone (eW 86 2 (cS (eD l k 0) vs)))]) [] [] (⟨0,rfl,aNj _,rfl⟩) ?_
   repeat' apply ai
   all_goals first|exact qx|rfl|(refine aA D.i ?_;simp[aK];done)|(rw[aB5];done)|exact qz
 rintro n s ⟨i,rfl,hi,rfl⟩
 refine sq (sq (rT [0,1,5,9] (s2 (ai (by rw[bC,eu]) (s1 (cd rfl (fun c9=> ?_) fun c9=> ?_))))))
 · have hi2:i<l.length:=by simpa using c9
   have hcn:=ey hi2
   have hnn:=cI (l.take i)
   have hct:=oT l i hi2
   have hMl:=eu l k i
   have hMg:=pj l k i hi2
   have hMi:i< (eD l k i).length:=by rw[hMl];exact hi2
   obtain⟨v,hv,_⟩:=pf l vs i hvs hi2
   have hln: ∀x:bV,(bM ((eD l k i).set i x) vs).length=l.length:=fun x=>by rw[bC,List.length_set,hMl]
   have hs0: (eD l k i)=(eD l k i).set i (l.getD i .zero):=by rw[← hMg,nC]
   have hfa:cS (eD l k i) vs=_:=aIm (eD l k i) vs i v hv hMi
   rw[hMg] at hfa
   have hfs:=ph (eD l k i) vs i v (kY (l.getD i .zero) (k+aK (l.take i))) hv hMi
   rw[iu l k i hi2] at hfs
   have hrow:bM ((eD l k i).set i ⟨(k+aK (l.take i)),(k+aK (l.take i))+1,(k+aK (l.take i))+2,(k+aK (l.take i))+3,(k+aK (l.take i))+4,(l.getD i .zero).got⟩) vs=bM (eD l k (i+1)) vs:=by rw[← iu l k i hi2,← wS (eD l k i) vs i v _ hv hMi,← wS (eD l k i) vs i v _ hv hMi];rfl
   refine sk (sq (bk (sq (wa [tO 0 0 (l.length),tI 1 ((k+aK (l.take i))),tI 5 (i:Nat),oR 0 138 6 (bM ((eD l k i).set i (l.getD i .zero)) vs),(.o 1,.zone (eW 86 2 (cS ((eD l k i)) vs)))] [] [] ?_ ?_))))
   · repeat' apply ai
     all_goals first|exact qx|exact aA D.i (aH (by omega))|(refine aA D.i ?_;rw[aH (by omega)];omega)|exact aA (bM · vs) hs0|(rw[aNf];exact iZ hv hMi (l.getD i .zero) (l.getD i .zero) rfl)|omega|exact qz
   refine rT [0,1,5] (s3 (ai (by exact⟨hln _,by omega,by omega⟩) (ai (by exact hln _) (ai (by rw[aNf,wU hv hMi];exact⟨hln _,by omega,rfl,aNg rfl⟩) (sq (wa [tO 0 0 (l.length),tI 1 ((k+aK (l.take i))),tI 5 (i:Nat),oR 0 138 6 (bM ((eD l k i).set i ⟨(k+aK (l.take i)),(l.getD i .zero).num,(l.getD i .zero).to,(l.getD i .zero).til,(l.getD i .zero).size,(l.getD i .zero).got⟩) vs),(.o 1,.zone (eW 86 2 (cS ((eD l k i)) vs)))] [] [] ?_ ?_))))))
   · repeat' apply ai
     all_goals first|exact qx|exact aA D.i (aH (by omega))|(refine aA D.i ?_;rw[aH (by omega)];omega)|exact aA (bM · vs) hs0|(rw[aNf];exact iZ hv hMi (l.getD i .zero) ⟨(k+aK (l.take i)),(l.getD i .zero).num,(l.getD i .zero).to,(l.getD i .zero).til,(l.getD i .zero).size,(l.getD i .zero).got⟩ rfl)|omega|exact qz
   refine rT [0,1,5] (s3 (sq (wa [tO 0 0 (l.length),tI 1 ((k+aK (l.take i))+1),tI 5 (i:Nat),oR 0 138 6 (bM ((eD l k i).set i ⟨(k+aK (l.take i)),(l.getD i .zero).num,(l.getD i .zero).to,(l.getD i .zero).til,(l.getD i .zero).size,(l.getD i .zero).got⟩) vs),(.o 1,.zone (eW 86 2 (cS ((eD l k i)) vs)))] [] [] ?_ ?_)))
   · repeat' apply ai
     all_goals first|exact qx|exact aA D.i (aH (by omega))|(refine aA D.i ?_;rw[aH (by omega)];omega)|exact aA (bM · vs) hs0|(rw[aNf];exact iZ hv hMi (l.getD i .zero) ⟨(k+aK (l.take i)),(l.getD i .zero).num,(l.getD i .zero).to,(l.getD i .zero).til,(l.getD i .zero).size,(l.getD i .zero).got⟩ rfl)|omega|exact qz
   refine rT [0,1,5] (s3 (ai (by exact⟨hln _,by omega,by omega⟩) (ai (by exact hln _) (ai (by rw[aNf,wU hv hMi];exact⟨hln _,by omega,rfl,aNg rfl⟩) (sq (wa [tO 0 0 (l.length),tI 1 ((k+aK (l.take i))+1),tI 5 (i:Nat),oR 0 138 6 (bM ((eD l k i).set i ⟨(k+aK (l.take i)),(k+aK (l.take i))+1,(l.getD i .zero).to,(l.getD i .zero).til,(l.getD i .zero).size,(l.getD i .zero).got⟩) vs),(.o 1,.zone (eW 86 2 (cS ((eD l k i)) vs)))] [] [] ?_ ?_))))))
   · repeat' apply ai
     all_goals first|exact qx|exact aA D.i (aH (by omega))|(refine aA D.i ?_;rw[aH (by omega)];omega)|exact aA (bM · vs) hs0|(rw[aNf];exact iZ hv hMi ⟨(k+aK (l.take i)),(l.getD i .zero).num,(l.getD i .zero).to,(l.getD i .zero).til,(l.getD i .zero).size,(l.getD i .zero).got⟩ ⟨(k+aK (l.take i)),(k+aK (l.take i))+1,(l.getD i .zero).to,(l.getD i .zero).til,(l.getD i .zero).size,(l.getD i .zero).got⟩ rfl)|omega|exact qz
   refine rT [0,1,5] (s3 (sq (wa [tO 0 0 (l.length),tI 1 ((k+aK (l.take i))+2),tI 5 (i:Nat),oR 0 138 6 (bM ((eD l k i).set i ⟨(k+aK (l.take i)),(k+aK (l.take i))+1,(l.getD i .zero).to,(l.getD i .zero).til,(l.getD i .zero).size,(l.getD i .zero).got⟩) vs),(.o 1,.zone (eW 86 2 (cS ((eD l k i)) vs)))] [] [] ?_ ?_)))
   · repeat' apply ai
     all_goals first|exact qx|exact aA D.i (aH (by omega))|(refine aA D.i ?_;rw[aH (by omega)];omega)|exact aA (bM · vs) hs0|(rw[aNf];exact iZ hv hMi ⟨(k+aK (l.take i)),(l.getD i .zero).num,(l.getD i .zero).to,(l.getD i .zero).til,(l.getD i .zero).size,(l.getD i .zero).got⟩ ⟨(k+aK (l.take i)),(k+aK (l.take i))+1,(l.getD i .zero).to,(l.getD i .zero).til,(l.getD i .zero).size,(l.getD i .zero).got⟩ rfl)|omega|exact qz
   refine rT [0,1,5] (s3 (ai (by exact⟨hln _,by omega,by omega⟩) (ai (by exact hln _) (ai (by rw[aNf,wU hv hMi];exact⟨hln _,by omega,rfl,aNg rfl⟩) (sq (wa [tO 0 0 (l.length),tI 1 ((k+aK (l.take i))+2),tI 5 (i:Nat),oR 0 138 6 (bM ((eD l k i).set i ⟨(k+aK (l.take i)),(k+aK (l.take i))+1,(k+aK (l.take i))+2,(l.getD i .zero).til,(l.getD i .zero).size,(l.getD i .zero).got⟩) vs),(.o 1,.zone (eW 86 2 (cS ((eD l k i)) vs)))] [] [] ?_ ?_))))))
   · repeat' apply ai
     all_goals first|exact qx|exact aA D.i (aH (by omega))|(refine aA D.i ?_;rw[aH (by omega)];omega)|exact aA (bM · vs) hs0|(rw[aNf];exact iZ hv hMi ⟨(k+aK (l.take i)),(k+aK (l.take i))+1,(l.getD i .zero).to,(l.getD i .zero).til,(l.getD i .zero).size,(l.getD i .zero).got⟩ ⟨(k+aK (l.take i)),(k+aK (l.take i))+1,(k+aK (l.take i))+2,(l.getD i .zero).til,(l.getD i .zero).size,(l.getD i .zero).got⟩ rfl)|omega|exact qz
   refine rT [0,1,5] (s3 (sq (wa [tO 0 0 (l.length),tI 1 ((k+aK (l.take i))+3),tI 5 (i:Nat),oR 0 138 6 (bM ((eD l k i).set i ⟨(k+aK (l.take i)),(k+aK (l.take i))+1,(k+aK (l.take i))+2,(l.getD i .zero).til,(l.getD i .zero).size,(l.getD i .zero).got⟩) vs),(.o 1,.zone (eW 86 2 (cS ((eD l k i)) vs)))] [] [] ?_ ?_)))
   · repeat' apply ai
     all_goals first|exact qx|exact aA D.i (aH (by omega))|(refine aA D.i ?_;rw[aH (by omega)];omega)|exact aA (bM · vs) hs0|(rw[aNf];exact iZ hv hMi ⟨(k+aK (l.take i)),(k+aK (l.take i))+1,(l.getD i .zero).to,(l.getD i .zero).til,(l.getD i .zero).size,(l.getD i .zero).got⟩ ⟨(k+aK (l.take i)),(k+aK (l.take i))+1,(k+aK (l.take i))+2,(l.getD i .zero).til,(l.getD i .zero).size,(l.getD i .zero).got⟩ rfl)|omega|exact qz
   refine rT [0,1,5] (s3 (ai (by exact⟨hln _,by omega,by omega⟩) (ai (by exact hln _) (ai (by rw[aNf,wU hv hMi];exact⟨hln _,by omega,rfl,aNg rfl⟩) (sq (wa [tO 0 0 (l.length),tI 1 ((k+aK (l.take i))+3),tI 5 (i:Nat),oR 0 138 6 (bM ((eD l k i).set i ⟨(k+aK (l.take i)),(k+aK (l.take i))+1,(k+aK (l.take i))+2,(k+aK (l.take i))+3,(l.getD i .zero).size,(l.getD i .zero).got⟩) vs),(.o 1,.zone (eW 86 2 (cS ((eD l k i)) vs)))] [] [] ?_ ?_))))))
   · repeat' apply ai
     all_goals first|exact qx|exact aA D.i (aH (by omega))|(refine aA D.i ?_;rw[aH (by omega)];omega)|exact aA (bM · vs) hs0|(rw[aNf];exact iZ hv hMi ⟨(k+aK (l.take i)),(k+aK (l.take i))+1,(k+aK (l.take i))+2,(l.getD i .zero).til,(l.getD i .zero).size,(l.getD i .zero).got⟩ ⟨(k+aK (l.take i)),(k+aK (l.take i))+1,(k+aK (l.take i))+2,(k+aK (l.take i))+3,(l.getD i .zero).size,(l.getD i .zero).got⟩ rfl)|omega|exact qz
   refine rT [0,1,5] (s3 (sq (wa [tO 0 0 (l.length),tI 1 ((k+aK (l.take i))+4),tI 5 (i:Nat),oR 0 138 6 (bM ((eD l k i).set i ⟨(k+aK (l.take i)),(k+aK (l.take i))+1,(k+aK (l.take i))+2,(k+aK (l.take i))+3,(l.getD i .zero).size,(l.getD i .zero).got⟩) vs),(.o 1,.zone (eW 86 2 (cS ((eD l k i)) vs)))] [] [] ?_ ?_)))
   · repeat' apply ai
     all_goals first|exact qx|exact aA D.i (aH (by omega))|(refine aA D.i ?_;rw[aH (by omega)];omega)|exact aA (bM · vs) hs0|(rw[aNf];exact iZ hv hMi ⟨(k+aK (l.take i)),(k+aK (l.take i))+1,(k+aK (l.take i))+2,(l.getD i .zero).til,(l.getD i .zero).size,(l.getD i .zero).got⟩ ⟨(k+aK (l.take i)),(k+aK (l.take i))+1,(k+aK (l.take i))+2,(k+aK (l.take i))+3,(l.getD i .zero).size,(l.getD i .zero).got⟩ rfl)|omega|exact qz
   refine rT [0,1,5] (s3 (ai (by exact⟨hln _,by omega,by omega⟩) (ai (by exact hln _) (ai (by rw[aNf,wU hv hMi];exact⟨hln _,by omega,rfl,aNg rfl⟩) (sq (wa [tO 0 0 (l.length),tI 1 ((k+aK (l.take i))+4),tI 5 (i:Nat),oR 0 138 6 (bM ((eD l k i).set i ⟨(k+aK (l.take i)),(k+aK (l.take i))+1,(k+aK (l.take i))+2,(k+aK (l.take i))+3,(k+aK (l.take i))+4,(l.getD i .zero).got⟩) vs),(.o 1,.zone (eW 86 2 (cS ((eD l k i)) vs)))] [] [] ?_ ?_))))))
   · repeat' apply ai
     all_goals first|exact qx|exact aA D.i (aH (by omega))|(refine aA D.i ?_;rw[aH (by omega)];omega)|exact aA (bM · vs) hs0|(rw[aNf];exact iZ hv hMi ⟨(k+aK (l.take i)),(k+aK (l.take i))+1,(k+aK (l.take i))+2,(k+aK (l.take i))+3,(l.getD i .zero).size,(l.getD i .zero).got⟩ ⟨(k+aK (l.take i)),(k+aK (l.take i))+1,(k+aK (l.take i))+2,(k+aK (l.take i))+3,(k+aK (l.take i))+4,(l.getD i .zero).got⟩ rfl)|omega|exact qz
   refine rT [0,1,5] (s3 (wa [tO 0 0 (l.length),tI 1 ((k+aK (l.take i))+5),tI 5 (i:Nat),oR 0 138 6 (bM ((eD l k i).set i ⟨(k+aK (l.take i)),(k+aK (l.take i))+1,(k+aK (l.take i))+2,(k+aK (l.take i))+3,(k+aK (l.take i))+4,(l.getD i .zero).got⟩) vs),(.o 1,.zone (eW 86 2 (cS ((eD l k i)) vs)))] [] [] ?_ ?_))
   · repeat' apply ai
     all_goals first|exact qx|exact aA D.i (aH (by omega))|(refine aA D.i ?_;rw[aH (by omega)];omega)|exact aA (bM · vs) hs0|(rw[aNf];exact iZ hv hMi ⟨(k+aK (l.take i)),(k+aK (l.take i))+1,(k+aK (l.take i))+2,(k+aK (l.take i))+3,(l.getD i .zero).size,(l.getD i .zero).got⟩ ⟨(k+aK (l.take i)),(k+aK (l.take i))+1,(k+aK (l.take i))+2,(k+aK (l.take i))+3,(k+aK (l.take i))+4,(l.getD i .zero).got⟩ rfl)|omega|exact qz
   refine SW.regTX [0,1,5] (sx jE rfl trivial (sx jE rfl trivial (sx jE rfl (by exact⟨hln _,by omega,by omega⟩) (sx jE rfl (by exact hln _) (aLt jE rfl rfl rfl rfl rfl rfl ⟨hln _,by omega,by rw[aNf,wU hv hMi];exact aNg rfl⟩ (by rw[aNf,wU hv hMi];rfl) (sx jE rfl trivial (aLr (robj:=[]) (rl:=[(0,60)]) (bor:=[]) 1 60 0 (rr (l.getD i .zero).got ((k+aK (l.take i))+5) (by omega) (by omega)) rfl rfl rfl (.fam (.same .nil)) rfl ⟨gh rfl rfl (aW _) rfl (fR rfl rfl (dV rfl rfl trivial)),rfl⟩ rfl (.inl rfl) rfl rfl rfl (by rw[aW,aW,hH]) (by simp[oW,eJ,bO,gW]) (by simp[gM,tQ,pJ,kM,bO,gW,xR,iB]) rfl hfa hfs.symm rfl (fun p hp=>nomatch hp) (fun _ hj=>nomatch hj) (sx jE rfl trivial ?_))))))))
   refine wa [tO 0 0 (l.length),tI 1 (k+aK (l.take (i+1))),tI 5 (i:Nat),oR 0 138 6 (bM (eD l k (i+1)) vs),(.o 1,.zone (eW 86 2 (cS (eD l k (i+1)) vs)))] [] [] ?_ ?_
   · repeat' apply ai
     all_goals first|exact qx|(refine aA D.i ?_;rw[hct];simp only[mM];omega)|exact hrow|exact qz
   refine rT [0,1,5] (s3 (wq [] [] (⟨l.length - (i+1),by omega,i+1,rfl,by omega,rfl⟩) ?_))
   repeat' apply ai
   all_goals first|exact qx|exact aA D.i (by rw[aH (by omega)];omega)|exact qz
 refine xt (sq (rT [4] (s2 (rt ?_))))
 have e:i=l.length:=by simp at c9;omega
 subst e
 refine rq [] [] rfl ?_
 repeat' apply ai
 all_goals try exact qx
 all_goals first|with_reducible rfl|(rw[aEk];done)|(rw[List.take_length];done)
theorem dR (id fo:Int) (up:Bool) (lg:List UInt8) (l:List bV) (vs:List Value) (k:Int) (hvs:vs.length=l.length) (hk:1≤k) (hc:k+aK l≤9000000):Sp 20 2 [tV 0 (.e (.agg [.d (.i id),.d (.b up),.d (.s lg),.d (.i fo),.own 0 l.length])),tI 1 k,oR 0 138 6 (bM l vs),(.o 1,.zone (eW 86 2 (cS l vs)))] [tI 0 (k+aK l),oR 0 138 6 (bM (bQ l k) vs),(.o 1,.zone (eW 86 2 (cS (bQ l k) vs)))]:=by
 exact sb Tryz.func20 rfl (sq (rT [1,2] (s2 (sq (rT [1] (s3 (dI (robj:=[(0,.row 138 6 (bM l vs)),(1,.zone (eW 86 2 (cS l vs)))]) (rl:=[]) (bor:=[]) (wj l vs k hvs hk hc) rfl rfl rfl rfl ⟨gh rfl rfl rfl rfl (fR rfl rfl (dV rfl rfl (fY rfl rfl trivial))),rfl⟩ rfl (.inl rfl) (aV ⟨rfl,rfl,trivial⟩) (fun _ hj=>nomatch hj) (s1 (sq (rT [4] (s2 (rt (fV _ [] [] rfl (fR rfl rfl (dV rfl rfl (fY rfl rfl trivial))) rfl rfl)))))))))))))
theorem ru (l:List eO) (k:Int) (hk:1≤k) (hc:k+2*(l.length:Int)≤9000000):Sp 138 2 [tD 0 (.sl (bI (hD l k))),tI 1 k] [tI 0 (k+2*(l.length:Nat))]:=by
 refine sb Tryz.func138 rfl (sq (rT [0,1] (s1 (sq (sq (rT [0,1,5] (s1 (bk (SW.loopW (n:=l.length) (fun n s=> ∃(i:Nat),n=l.length - i∧i≤l.length∧s=[tD 0 (.sl (bI (hD l k))),tI 1 (k+2*(i:Nat)),tI 5 (i:Nat)]) ?_ ?_)))))))))
 · refine wq (σ':=[tD 0 (.sl (bI (hD l k))),tI 1 (k+2*(0:Nat)),tI 5 (0:Nat)]) [] [] (⟨0,rfl,aNj _,rfl⟩) ?_
   repeat' apply ai
   all_goals first|exact qx|rfl|(refine aA D.i ?_;omega)|exact qz
 rintro n s ⟨i,rfl,hi,rfl⟩
 refine sq (sq (rT [0,1,5,9] (s4 (cd rfl (fun c9=> ?_) fun c9=> ?_))))
 · have hi2:i<l.length:=by simpa[aW,hH] using c9
   have hgg: (bI (hD l k)).getD i []=eO.row ⟨k+2*i,oF (k+2*i+1)⟩:=by rw[fB (by rw[hH];exact hi2),er l k i hi2]
   refine sk (sq (bk (sq (sq (rT [0,1,5,18] (s2 (ai (by rw[aNf,hgg];exact⟨⟨by omega,by rw[aW,hH];omega⟩,rfl⟩) (s1 (ai (by rw[aNf,hgg];exact⟨aNg rfl,rfl⟩) (s2 (cd rfl (fun c18=> ?_) fun c18=> ?_)))))))))))
   · rw[aNf,hgg] at c18
     simp[gc,wt,eO.row,bV.row,kY] at c18
   refine sk (sq (rT [0,1,5] (s3 (sq (sq (wa [tD 0 (.sl (bI (hD l k))),tI 1 (k+2*i+1),tI 5 (i:Nat)] [] [] ?_ ?_))))))
   · repeat' apply ai
     all_goals first|exact qx|exact aA D.i (aH (by omega))|(refine aA D.i ?_;(try rw[aH (by omega)]);omega)|exact qz
   refine rD [0,1,5,28] (s2 (ai (by rw[aNf,hgg];exact⟨⟨by omega,by rw[aW,hH];omega⟩,rfl⟩) (s1 (ai (by rw[aNf,hgg];exact⟨aNg rfl,rfl⟩) (s1 (xp (tG _ (by omega)) (ai rfl ?_)))))))
   refine s1 (ai (by kernel_rfl) (cd rfl (fun c28=> ?_) fun c28=> ?_))
   · rw[aNf,hgg] at c28
     simp[gc,wt,eO.row,bV.row,kY] at c28
   refine sk (rT [0,1,5] (s3 (wa [tD 0 (.sl (bI (hD l k))),tI 1 (k+2*i+2),tI 5 (i:Nat)] [] [] ?_ ?_)))
   · repeat' apply ai
     all_goals first|exact qx|exact aA D.i (aH (by omega))|(refine aA D.i ?_;(try rw[aH (by omega)]);omega)|exact qz
   refine rT [0,1,5] (s3 (wq [] [] (⟨l.length - (i+1),by omega,i+1,rfl,by omega,rfl⟩) ?_))
   repeat' apply ai
   all_goals first|exact qx|exact aA D.i (aH (by omega))|(refine aA D.i ?_;(try rw[aH (by omega)]);omega)|exact qz
 have hi3:i=l.length:=by simp[aW,hH] at c9;omega
 refine xt (sq (rT [4] (s2 (rt (aT rfl (aA D.i ?_))))))
 rw[hi3]
theorem wl (l:List bV) (k:Int) (hk:1≤k) (hc:k+aK l≤9000000):Sp 71 2 [tD 0 (.sl (aY (bQ l k))),tI 1 k] [tI 0 (k+aK l)]:=by
 have hlen5:=aCx (l:=l)
 refine sb Tryz.func71 rfl (sq (rT [0,1] (s1 (sq (sq (rT [0,1,5] (s1 (bk (SW.loopW (n:=l.length) (fun n s=> ∃(i:Nat),n=l.length - i∧i≤l.length∧s=[tD 0 (.sl (aY (bQ l k))),tI 1 (k+aK (l.take i)),tI 5 (i:Nat)]) ?_ ?_)))))))))
 · refine wq (σ':=[tD 0 (.sl (aY (bQ l k))),tI 1 (k+aK (l.take 0)),tI 5 (0:Nat)]) [] [] (⟨0,rfl,aNj _,rfl⟩) ?_
   repeat' apply ai
   all_goals first|exact qx|rfl|(refine aA D.i ?_;simp[aK];done)|exact qz
 rintro n s ⟨i,rfl,hi,rfl⟩
 refine sq (sq (rT [0,1,5,9] (s4 (cd rfl (fun c9=> ?_) fun c9=> ?_))))
 · have hi2:i<l.length:=by simpa[aO,cB] using c9
   have hcn:=ey hi2
   have hnn:=cI (l.take i)
   have hct:=oT l i hi2
   have hgg: (aY (bQ l k)).getD i []=(kY (l.getD i .zero) (k+aK (l.take i))).row:=by rw[eH (by rw[cB];exact hi2),xG l k i hi2]
   refine sk (sq (bk (sq (sq (rT [0,1,5,18] (s2 (ai (by rw[aNf,hgg];exact⟨⟨by omega,by rw[aO,cB];omega⟩,rfl⟩) (s1 (ai (by rw[aNf,hgg];exact⟨aNg rfl,rfl⟩) (s2 (cd rfl (fun c18=> ?_) fun c18=> ?_)))))))))))
   · rw[aNf,hgg] at c18
     simp[gc,wt,eO.row,bV.row,kY] at c18
   refine sk (sq (rT [0,1,5] (s3 (sq (sq (wa [tD 0 (.sl (aY (bQ l k))),tI 1 ((k+aK (l.take i))+1),tI 5 (i:Nat)] [] [] ?_ ?_))))))
   · repeat' apply ai
     all_goals first|exact qx|exact aA D.i (aH (by omega))|(refine aA D.i ?_;(try rw[aH (by omega)]);omega)|exact qz
   refine rT [0,1,5,27] (s2 (ai (by rw[aNf,hgg];exact⟨⟨by omega,by rw[aO,cB];omega⟩,rfl⟩) (s1 (ai (by rw[aNf,hgg];exact⟨aNg rfl,rfl⟩) (s2 (cd rfl (fun c27=> ?_) fun c27=> ?_))))))
   · rw[aNf,hgg] at c27
     simp[gc,wt,eO.row,bV.row,kY] at c27
   refine sk (sq (rT [0,1,5] (s3 (sq (sq (wa [tD 0 (.sl (aY (bQ l k))),tI 1 ((k+aK (l.take i))+2),tI 5 (i:Nat)] [] [] ?_ ?_))))))
   · repeat' apply ai
     all_goals first|exact qx|exact aA D.i (aH (by omega))|(refine aA D.i ?_;(try rw[aH (by omega)]);omega)|exact qz
   refine rT [0,1,5,36] (s2 (ai (by rw[aNf,hgg];exact⟨⟨by omega,by rw[aO,cB];omega⟩,rfl⟩) (s1 (ai (by rw[aNf,hgg];exact⟨aNg rfl,rfl⟩) (s2 (cd rfl (fun c36=> ?_) fun c36=> ?_))))))
   · rw[aNf,hgg] at c36
     simp[gc,wt,eO.row,bV.row,kY] at c36
   refine sk (sq (rT [0,1,5] (s3 (sq (sq (wa [tD 0 (.sl (aY (bQ l k))),tI 1 ((k+aK (l.take i))+3),tI 5 (i:Nat)] [] [] ?_ ?_))))))
   · repeat' apply ai
     all_goals first|exact qx|exact aA D.i (aH (by omega))|(refine aA D.i ?_;(try rw[aH (by omega)]);omega)|exact qz
   refine rT [0,1,5,45] (s2 (ai (by rw[aNf,hgg];exact⟨⟨by omega,by rw[aO,cB];omega⟩,rfl⟩) (s1 (ai (by rw[aNf,hgg];exact⟨aNg rfl,rfl⟩) (s2 (cd rfl (fun c45=> ?_) fun c45=> ?_))))))
   · rw[aNf,hgg] at c45
     simp[gc,wt,eO.row,bV.row,kY] at c45
   refine sk (sq (rT [0,1,5] (s3 (sq (sq (wa [tD 0 (.sl (aY (bQ l k))),tI 1 ((k+aK (l.take i))+4),tI 5 (i:Nat)] [] [] ?_ ?_))))))
   · repeat' apply ai
     all_goals first|exact qx|exact aA D.i (aH (by omega))|(refine aA D.i ?_;(try rw[aH (by omega)]);omega)|exact qz
   refine rT [0,1,5,54] (s2 (ai (by rw[aNf,hgg];exact⟨⟨by omega,by rw[aO,cB];omega⟩,rfl⟩) (s1 (ai (by rw[aNf,hgg];exact⟨aNg rfl,rfl⟩) (s2 (cd rfl (fun c54=> ?_) fun c54=> ?_))))))
   · rw[aNf,hgg] at c54
     simp[gc,wt,eO.row,bV.row,kY] at c54
   refine sk (sq (rT [0,1,5] (s3 (sq (wa [tD 0 (.sl (aY (bQ l k))),tI 1 ((k+aK (l.take i))+5),tI 5 (i:Nat)] [] [] ?_ ?_)))))
   · repeat' apply ai
     all_goals first|exact qx|exact aA D.i (aH (by omega))|(refine aA D.i ?_;(try rw[aH (by omega)]);omega)|exact qz
   refine rT [0,1,5] (s2 (ai (by rw[aNf,hgg];exact⟨⟨by omega,by rw[aO,cB];omega⟩,rfl⟩) (s1 (ai (by rw[aNf,hgg];exact⟨aNg rfl,rfl⟩) (s1 (xp (ru (l.getD i .zero).got ((k+aK (l.take i))+5) (by omega) (by omega)) (ai (by rw[aNf,hgg];rfl) ?_)))))))
   refine s1 (sq (rT [0,1,5,65] (s2 (cd rfl (fun c65=> ?_) fun c65=> ?_))))
   · have h9: (k+aK (l.take i))+5+2*((l.getD i .zero).got.length:Nat)<0:=by simpa using c65
     omega
   refine sk (rT [0,1,5] (s3 (wq [] [] (⟨l.length - (i+1),by omega,i+1,rfl,by omega,rfl⟩) ?_)))
   repeat' apply ai
   all_goals first|exact qx|(refine aA D.i ?_;rw[hct];simp only[mM];omega)|exact aA D.i (by rw[aH (by omega)];omega)|exact qz
 have hi3:i=l.length:=by simp[aO,cB] at c9;omega
 refine xt (sq (rT [4] (s2 (rt (aT rfl (aA D.i ?_))))))
 rw[hi3,List.take_length]
theorem eA (id fo:Int) (up:Bool) (lg:List UInt8) (l:List bV) (k:Int) (hk:1≤k) (hc:k+aK l≤9000000):Sp 21 2 [tV 0 (.e (.agg [.d (.i id),.d (.b up),.d (.s lg),.d (.i fo),.d (.sl (aY (bQ l k)))])),tI 1 k] [tI 0 (k+aK l)]:=by
 refine sb Tryz.func21 rfl (sq (rT [1,2] (s2 (sq (rT [1] (s3 (xp (wl l k hk hc) (ai rfl ?_))))))))
 refine s1 (sq (sq (rT [1,10] (s2 (cd rfl (fun c10=> ?_) fun c10=> ?_)))))
 · have h9:k+aK l<0:=by simpa using c10
   have:=cI l
   omega
 refine sk (sq (rT [4] (s2 (rt (aT rfl rfl)))))
theorem uD (k:aN) (hk:KRW k):Sp 4 1 [tV 0 k.V] [tB 0 true]:=by
 refine sb Tryz.func4 rfl (sq (rT [1] (s2 (sq (rT [1,3] (s1 (sq (rE [1,3] (s2 (dJ (rl:=[]) (bor:=[]) (news:=[]) (robj:=[]) (kK k 1048576 hk ⟨by omega,by omega⟩) rfl rfl rfl rfl (gO rfl) (fun σ hσ=>by obtain⟨r,_,rfl⟩:=hσ;exact⟨rfl,.inl rfl,fun j hj=>by simp[eJ,bO] at hj⟩) (fun p hp=>nomatch hp) (fun j hj=>nomatch hj) ?_))))))))))
 rintro σ ⟨r,hr,rfl⟩
 refine s1 (sq (sq (rT [1,15] (s2 (cd rfl (fun c15=> ?_) fun c15=> ?_)))))
 · exact sq (rT [2] (s1 (rt (aT rfl rfl))))
 have hc0: ¬r<0:=by simpa using c15
 have hwt:=hr.2 (by omega)
 have hcx:aK k.halves≤5242880:=by rw[hF];push_cast at hwt;omega
 have hlh:LH k (bL k):= .rise (dE hk)
 have hcg:aK (bL k).halves≤5242880:=hlh.cnt hcx
 have hn0:=cI k.halves
 have hn1:=cI (bL k).halves
 refine sk (sq (rT [1,4] (s1 (xp (cG k (dE hk)) (ai rfl ?_)))))
 refine xp (em k hk.1) (ai rfl ?_)
 refine s2 (sq (rE [1,4,5] (s1 (dJ (robj:=[]) (rl:=[(0,60),(1,90)]) (bor:=[]) (news:=[0,1]) (kJ k (dE hk)) rfl rfl rfl rfl ⟨bK rfl (aI rfl (aI rfl (aI rfl (aI rfl (aI rfl aR))))) trivial,rfl⟩ (by rintro _ ⟨vs,hvs,rfl⟩;exact⟨rfl,.inl rfl,fun j hj=>hj⟩) (fun p hp=>nomatch hp) (fun j hj=>by simp at hj;rcases hj with rfl|rfl<;>rfl) ?_))))
 rintro _ ⟨xs,hxs,rfl⟩
 refine s2 (sq (rE [1,4,5,6] (s1 (dJ (robj:=[(60,.row 138 6 (bM k.halves xs)),(90,.zone (eW 86 2 (cS k.halves xs)))]) (rl:=[(0,61),(1,91)]) (bor:=[60,90]) (news:=[0,1]) (rj k hk.1) rfl rfl rfl rfl ⟨bK rfl (aI rfl (aI rfl (aI rfl (aI rfl (cN (q:=90) rfl rfl rfl rfl (bC _ _) (cH _ _ _ (fun _ h=>h)) rfl aR))))) trivial,rfl⟩ (by rintro _ ⟨vs,hvs,rfl⟩;exact⟨rfl,.inr (jY rfl hvs),fun j hj=>hj⟩) (aV ⟨rfl,rfl,trivial⟩) (fun j hj=>by simp at hj;rcases hj with rfl|rfl<;>rfl) ?_))))
 rintro _ ⟨gs,hgs,rfl⟩
 refine s2 (sq (sq (rT [1,4,5,6,26] (s2 (dZ (bor:=[61,91]) (robj:=[(61,.row 138 6 (bM (bL k).halves gs)),(91,.zone (eW 86 2 (cS (bL k).halves gs)))]) (cA (bL k) (bL k) (hlh.krb (dE hk))) rfl rfl rfl rfl rfl ⟨bK rfl (aI rfl (aI rfl (aI rfl (aI rfl (cN (q:=91) rfl rfl rfl rfl (bC _ _) (cH _ _ _ (fun _ h=>h)) rfl aR))))) (bK rfl (aI rfl (aI rfl (aI rfl (aI rfl (aI rfl aR))))) trivial),rfl⟩ rfl rfl rfl (aV ⟨rfl,rfl,trivial⟩) (s1 (cd rfl (fun c26=> ?_) fun c26=> ?_)))))))
 · simp[gb] at c26
 refine sk (sq (sq (rD [1,4,5,6,31] (s2 (xp (cG k (dE hk)) (ai rfl ?_))))))
 refine dZ (bor:=[60,90]) (robj:=[(60,.row 138 6 (bM (k).halves xs)),(90,.zone (eW 86 2 (cS (k).halves xs)))]) (cA (k) (k) (dE hk)) rfl rfl rfl rfl rfl ⟨bK rfl (aI rfl (aI rfl (aI rfl (aI rfl (cN (q:=90) rfl rfl rfl rfl (bC _ _) (cH _ _ _ (fun _ h=>h)) rfl aR))))) (bK rfl (aI rfl (aI rfl (aI rfl (aI rfl (aI rfl aR))))) trivial),rfl⟩ rfl rfl rfl (aV ⟨rfl,rfl,trivial⟩) (s1 (ai (by kernel_rfl) (cd rfl (fun c31=> ?_) fun c31=> ?_)))
 · simp[gb] at c31
 refine sk (sq (rT [1,4,5,6,7] (s1 (sq (rT [1,4,6,7] (s2 (dI (robj:=[(60,.row 138 6 (bM (k).halves xs)),(90,.zone (eW 86 2 (cS (k).halves xs)))]) (rl:=[(0,60),(1,90)]) (bor:=[]) (dR (k).id (k).forced (k).up (k).log (k).halves xs 1 hxs (by omega) (by omega)) rfl rfl rfl rfl ⟨bK rfl (aI rfl (aI rfl (aI rfl (aI rfl (eX rfl rfl rfl aR))))) (fR rfl rfl (dV rfl rfl (fY rfl rfl trivial))),rfl⟩ rfl (.inl rfl) (aV ⟨rfl,rfl,trivial⟩) (fun _ hj=>nomatch hj) (s1 (sq (sq (rT [1,4,6,42] (s3 (y2 (qA (bor:=[61,91]) (robj:=[(61,.row 138 6 (bM (bL k).halves gs)),(91,.zone (eW 86 2 (cS (bL k).halves gs)))]) (fun h=>cA (bL k) (bL k) (hlh.krb (dE hk))) rfl rfl rfl rfl rfl ⟨bK rfl (aI rfl (aI rfl (aI rfl (aI rfl (cN (q:=91) rfl rfl rfl rfl (bC _ _) (cH _ _ _ (fun _ h=>h)) rfl aR))))) (bK rfl (aI rfl (aI rfl (aI rfl (aI rfl (aI rfl aR))))) trivial),rfl⟩ rfl rfl rfl (aV ⟨rfl,rfl,trivial⟩) rk ?_))))))))))))))
 refine y1 (ai pk (cd rfl (fun c42=> ?_) fun c42=> ?_))
 · simp[gb] at c42
   omega
 refine sk (sq (rT [1,4,6,8] (s1 (sq (rT [1,4,6,8] (s2 (dI (robj:=[(61,.row 138 6 (bM (bL k).halves gs)),(91,.zone (eW 86 2 (cS (bL k).halves gs)))]) (rl:=[(0,61),(1,91)]) (bor:=[]) (dR (bL k).id (bL k).forced (bL k).up (bL k).log (bL k).halves gs 1 hgs (by omega) (by omega)) rfl rfl rfl rfl ⟨bK rfl (aI rfl (aI rfl (aI rfl (aI rfl (eX rfl rfl rfl aR))))) (fR rfl rfl (dV rfl rfl (fY rfl rfl trivial))),rfl⟩ rfl (.inl rfl) (aV ⟨rfl,rfl,trivial⟩) (fun _ hj=>nomatch hj) (s1 (sq (rT [1,4,6,8,9] (s1 (sq (rT [1,4,6,8,9] (s2 (dZ (bor:=[61,91]) (robj:=[(61,.row 138 6 (bM (bQ (bL k).halves 1) gs)),(91,.zone (eW 86 2 (cS (bQ (bL k).halves 1) gs)))]) (eA (bL k).id (bL k).forced (bL k).up (bL k).log (bL k).halves 1 (by omega) (by omega)) rfl rfl rfl rfl rfl ⟨bK rfl (aI rfl (aI rfl (aI rfl (aI rfl (cN (q:=91) rfl rfl rfl rfl (by rw[bC,cB]) (cH _ _ _ (fun _ h=>h)) rfl aR))))) (fR rfl rfl trivial),rfl⟩ rfl rfl rfl (aV ⟨rfl,rfl,trivial⟩) ?_)))))))))))))))
 refine s1 (sq (sq (rT [1,4,6,8,9,50] (s2 (cd rfl (fun c50=> ?_) fun c50=> ?_)))))
 · simp at c50
   omega
 refine sk (sq (sq (rT [1,4,6,8,53] (s3 (cd rfl (fun c53=> ?_) fun c53=> ?_)))))
 · simp at c53
 refine sk (sq (rT [4,6,8,10] (s1 (xp (cG k (dE hk)) (ai rfl ?_)))))
 refine xp (en k hk.1) (ai rfl ?_)
 refine s2 (sq (sq (rT [6,8,60] (s2 (xp (cA (bL k) (bL k) (hlh.krb (dE hk))) (ai rfl ?_))))))
 refine s1 (cd rfl (fun c60=> ?_) fun c60=> ?_)
 · simp[gb] at c60
 refine sk (sq (rT [6,8,9] (s1 (sq (rT [8,9] (s2 (dZ (bor:=[61,91]) (robj:=[(61,.row 138 6 (bM (bQ (bL k).halves 1) gs)),(91,.zone (eW 86 2 (cS (bQ (bL k).halves 1) gs)))]) (eA (bL k).id (bL k).forced (bL k).up (bL k).log (bL k).halves 1 (by omega) (by omega)) rfl rfl rfl rfl rfl ⟨bK rfl (aI rfl (aI rfl (aI rfl (aI rfl (cN (q:=91) rfl rfl rfl rfl (by rw[bC,cB]) (cH _ _ _ (fun _ h=>h)) rfl aR))))) (fR rfl rfl trivial),rfl⟩ rfl rfl rfl (aV ⟨rfl,rfl,trivial⟩) (s1 (sq (sq (rT [8,9,65] (s2 (cd rfl (fun c65=> ?_) fun c65=> ?_)))))))))))))
 · simp at c65
   omega
 refine sk (sq (sq (rT [68] (s3 (cd rfl (fun c68=> ?_) fun c68=> ?_)))))
 · simp at c68
 exact sk (sq (rT [2] (s1 (rt (aT rfl rfl)))))
theorem uE (k:aN) (keep:Int) (hk:KRW k):Sp 3 2 [tV 0 k.V,tI 1 keep] [tB 0 true]:=by
 refine sb Tryz.func3 rfl (sq (rT [1,2] (s2 (sq (rT [1,2,5] (s1 (sq (rE [1,2,5] (s2 (dJ (rl:=[]) (bor:=[]) (news:=[]) (robj:=[]) (kK k 1048576 hk ⟨by omega,by omega⟩) rfl rfl rfl rfl (gO rfl) (fun σ hσ=>by obtain⟨r,_,rfl⟩:=hσ;exact⟨rfl,.inl rfl,fun j hj=>by simp[eJ,bO] at hj⟩) (fun p hp=>nomatch hp) (fun j hj=>nomatch hj) ?_))))))))))
 rintro σ ⟨r,hr,rfl⟩
 refine s1 (sq (sq (rT [1,2,17] (s2 (cd rfl (fun c17=> ?_) fun c17=> ?_)))))
 · exact sq (rT [4] (s1 (rt (aT rfl rfl))))
 have hc0: ¬r<0:=by simpa using c17
 have hwt:=hr.2 (by omega)
 have hcx:aK k.halves≤5242880:=by rw[hF];push_cast at hwt;omega
 have hlh:LH k (bN k keep):= .fall (dE hk) keep
 have hcg:aK (bN k keep).halves≤5242880:=hlh.cnt hcx
 have hn0:=cI k.halves
 have hn1:=cI (bN k keep).halves
 refine sk (sq (rT [1,2,6] (s1 (xp (cG k (dE hk)) (ai rfl ?_)))))
 refine s1 (xp (ek k keep hk.1) (ai rfl ?_))
 refine s2 (sq (rE [1,2,6,7] (s1 (dJ (robj:=[]) (rl:=[(0,60),(1,90)]) (bor:=[]) (news:=[0,1]) (kJ k (dE hk)) rfl rfl rfl rfl ⟨bK rfl (aI rfl (aI rfl (aI rfl (aI rfl (aI rfl aR))))) trivial,rfl⟩ (by rintro _ ⟨vs,hvs,rfl⟩;exact⟨rfl,.inl rfl,fun j hj=>hj⟩) (fun p hp=>nomatch hp) (fun j hj=>by simp at hj;rcases hj with rfl|rfl<;>rfl) ?_))))
 rintro _ ⟨xs,hxs,rfl⟩
 refine s2 (sq (rE [1,2,6,7,8] (s2 (dJ (robj:=[(60,.row 138 6 (bM k.halves xs)),(90,.zone (eW 86 2 (cS k.halves xs)))]) (rl:=[(0,61),(1,91)]) (bor:=[60,90]) (news:=[0,1]) (ro k keep hk.1) rfl rfl rfl rfl ⟨bK rfl (aI rfl (aI rfl (aI rfl (aI rfl (cN (q:=90) rfl rfl rfl rfl (bC _ _) (cH _ _ _ (fun _ h=>h)) rfl aR))))) (fR rfl rfl (trivial)),rfl⟩ (by rintro _ ⟨vs,hvs,rfl⟩;exact⟨rfl,.inr (jY rfl hvs),fun j hj=>hj⟩) (aV ⟨rfl,rfl,trivial⟩) (fun j hj=>by simp at hj;rcases hj with rfl|rfl<;>rfl) ?_))))
 rintro _ ⟨gs,hgs,rfl⟩
 refine s2 (sq (sq (rT [1,2,6,7,8,30] (s2 (dZ (bor:=[61,91]) (robj:=[(61,.row 138 6 (bM (bN k keep).halves gs)),(91,.zone (eW 86 2 (cS (bN k keep).halves gs)))]) (cA (bN k keep) (bN k keep) (hlh.krb (dE hk))) rfl rfl rfl rfl rfl ⟨bK rfl (aI rfl (aI rfl (aI rfl (aI rfl (cN (q:=91) rfl rfl rfl rfl (bC _ _) (cH _ _ _ (fun _ h=>h)) rfl aR))))) (bK rfl (aI rfl (aI rfl (aI rfl (aI rfl (aI rfl aR))))) trivial),rfl⟩ rfl rfl rfl (aV ⟨rfl,rfl,trivial⟩) (s1 (cd rfl (fun c30=> ?_) fun c30=> ?_)))))))
 · simp[gb] at c30
 refine sk (sq (sq (rD [1,2,6,7,8,35] (s2 (xp (cG k (dE hk)) (ai rfl ?_))))))
 refine dZ (bor:=[60,90]) (robj:=[(60,.row 138 6 (bM (k).halves xs)),(90,.zone (eW 86 2 (cS (k).halves xs)))]) (cA (k) (k) (dE hk)) rfl rfl rfl rfl rfl ⟨bK rfl (aI rfl (aI rfl (aI rfl (aI rfl (cN (q:=90) rfl rfl rfl rfl (bC _ _) (cH _ _ _ (fun _ h=>h)) rfl aR))))) (bK rfl (aI rfl (aI rfl (aI rfl (aI rfl (aI rfl aR))))) trivial),rfl⟩ rfl rfl rfl (aV ⟨rfl,rfl,trivial⟩) (s1 (ai (by kernel_rfl) (cd rfl (fun c35=> ?_) fun c35=> ?_)))
 · simp[gb] at c35
 refine sk (sq (rT [1,2,6,7,8,9] (s1 (sq (rT [1,2,6,8,9] (s2 (dI (robj:=[(60,.row 138 6 (bM (k).halves xs)),(90,.zone (eW 86 2 (cS (k).halves xs)))]) (rl:=[(0,60),(1,90)]) (bor:=[]) (dR (k).id (k).forced (k).up (k).log (k).halves xs 1 hxs (by omega) (by omega)) rfl rfl rfl rfl ⟨bK rfl (aI rfl (aI rfl (aI rfl (aI rfl (eX rfl rfl rfl aR))))) (fR rfl rfl (dV rfl rfl (fY rfl rfl trivial))),rfl⟩ rfl (.inl rfl) (aV ⟨rfl,rfl,trivial⟩) (fun _ hj=>nomatch hj) (s1 (sq (sq (rT [1,2,6,8,46] (s3 (y2 (qA (bor:=[61,91]) (robj:=[(61,.row 138 6 (bM (bN k keep).halves gs)),(91,.zone (eW 86 2 (cS (bN k keep).halves gs)))]) (fun h=>cA (bN k keep) (bN k keep) (hlh.krb (dE hk))) rfl rfl rfl rfl rfl ⟨bK rfl (aI rfl (aI rfl (aI rfl (aI rfl (cN (q:=91) rfl rfl rfl rfl (bC _ _) (cH _ _ _ (fun _ h=>h)) rfl aR))))) (bK rfl (aI rfl (aI rfl (aI rfl (aI rfl (aI rfl aR))))) trivial),rfl⟩ rfl rfl rfl (aV ⟨rfl,rfl,trivial⟩) rk ?_))))))))))))))
 refine y1 (ai pk (cd rfl (fun c46=> ?_) fun c46=> ?_))
 · simp[gb] at c46
   omega
 refine sk (sq (rT [1,2,6,8,10] (s1 (sq (rT [1,2,6,8,10] (s2 (dI (robj:=[(61,.row 138 6 (bM (bN k keep).halves gs)),(91,.zone (eW 86 2 (cS (bN k keep).halves gs)))]) (rl:=[(0,61),(1,91)]) (bor:=[]) (dR (bN k keep).id (bN k keep).forced (bN k keep).up (bN k keep).log (bN k keep).halves gs 1 hgs (by omega) (by omega)) rfl rfl rfl rfl ⟨bK rfl (aI rfl (aI rfl (aI rfl (aI rfl (eX rfl rfl rfl aR))))) (fR rfl rfl (dV rfl rfl (fY rfl rfl trivial))),rfl⟩ rfl (.inl rfl) (aV ⟨rfl,rfl,trivial⟩) (fun _ hj=>nomatch hj) (s1 (sq (rT [1,2,6,8,10,11] (s1 (sq (rT [1,2,6,8,10,11] (s2 (dZ (bor:=[61,91]) (robj:=[(61,.row 138 6 (bM (bQ (bN k keep).halves 1) gs)),(91,.zone (eW 86 2 (cS (bQ (bN k keep).halves 1) gs)))]) (eA (bN k keep).id (bN k keep).forced (bN k keep).up (bN k keep).log (bN k keep).halves 1 (by omega) (by omega)) rfl rfl rfl rfl rfl ⟨bK rfl (aI rfl (aI rfl (aI rfl (aI rfl (cN (q:=91) rfl rfl rfl rfl (by rw[bC,cB]) (cH _ _ _ (fun _ h=>h)) rfl aR))))) (fR rfl rfl trivial),rfl⟩ rfl rfl rfl (aV ⟨rfl,rfl,trivial⟩) ?_)))))))))))))))
 refine s1 (sq (sq (rT [1,2,6,8,10,11,54] (s2 (cd rfl (fun c54=> ?_) fun c54=> ?_)))))
 · simp at c54
   omega
 refine sk (sq (sq (rT [1,2,6,8,10,57] (s3 (cd rfl (fun c57=> ?_) fun c57=> ?_)))))
 · simp at c57
 refine sk (sq (rT [6,8,10,12] (s1 (xp (cG k (dE hk)) (ai rfl ?_)))))
 refine s1 (xp (el k keep hk.1) (ai rfl ?_))
 refine s2 (sq (sq (rT [8,10,65] (s2 (xp (cA (bN k keep) (bN k keep) (hlh.krb (dE hk))) (ai rfl ?_))))))
 refine s1 (cd rfl (fun c65=> ?_) fun c65=> ?_)
 · simp[gb] at c65
 refine sk (sq (rT [8,10,11] (s1 (sq (rT [10,11] (s2 (dZ (bor:=[61,91]) (robj:=[(61,.row 138 6 (bM (bQ (bN k keep).halves 1) gs)),(91,.zone (eW 86 2 (cS (bQ (bN k keep).halves 1) gs)))]) (eA (bN k keep).id (bN k keep).forced (bN k keep).up (bN k keep).log (bN k keep).halves 1 (by omega) (by omega)) rfl rfl rfl rfl rfl ⟨bK rfl (aI rfl (aI rfl (aI rfl (aI rfl (cN (q:=91) rfl rfl rfl rfl (by rw[bC,cB]) (cH _ _ _ (fun _ h=>h)) rfl aR))))) (fR rfl rfl trivial),rfl⟩ rfl rfl rfl (aV ⟨rfl,rfl,trivial⟩) (s1 (sq (sq (rT [10,11,70] (s2 (cd rfl (fun c70=> ?_) fun c70=> ?_)))))))))))))
 · simp at c70
   omega
 refine sk (sq (sq (rT [73] (s3 (cd rfl (fun c73=> ?_) fun c73=> ?_)))))
 · simp at c73
 exact sk (sq (rT [4] (s1 (rt (aT rfl rfl)))))
theorem sO (k:aN) (hk:KRW k):Sp 5 1 [tV 0 k.V] [tB 0 true]:=by
 refine sb Tryz.func5 rfl (sq (rT [1] (s2 (sq (rT [1,3] (s1 (sq (rE [1,3] (s2 (dJ (rl:=[]) (bor:=[]) (news:=[]) (robj:=[]) (kK k 1048576 hk ⟨by omega,by omega⟩) rfl rfl rfl rfl (gO rfl) (fun σ hσ=>by obtain⟨r,_,rfl⟩:=hσ;exact⟨rfl,.inl rfl,fun j hj=>by simp[eJ,bO] at hj⟩) (fun p hp=>nomatch hp) (fun j hj=>nomatch hj) ?_))))))))))
 rintro σ ⟨r,hr,rfl⟩
 refine s1 (sq (sq (rT [1,18] (s2 (cd rfl (fun c18=> ?_) fun c18=> ?_)))))
 · exact sq (rT [2] (s1 (rt (aT rfl rfl))))
 have hc0: ¬r<0:=by simpa using c18
 have hwt:=hr.2 (by omega)
 have hcx:aK k.halves≤5242880:=by rw[hF];push_cast at hwt;omega
 have hlh:LH k ((aU k).1):= .force (dE hk)
 have hcg:aK ((aU k).1).halves≤5242880:=hlh.cnt hcx
 have hn0:=cI k.halves
 have hn1:=cI ((aU k).1).halves
 refine sk (sq (rT [1,4,5] (s1 (xp (cG k (dE hk)) (ai rfl ?_)))))
 refine xp (bo k hk.1) (ai rfl ?_)
 refine s6 (sq (rE [1,4,5,6] (s1 (dJ (robj:=[]) (rl:=[(0,60),(1,90)]) (bor:=[]) (news:=[0,1]) (kJ k (dE hk)) rfl rfl rfl rfl ⟨bK rfl (aI rfl (aI rfl (aI rfl (aI rfl (aI rfl aR))))) trivial,rfl⟩ (by rintro _ ⟨vs,hvs,rfl⟩;exact⟨rfl,.inl rfl,fun j hj=>hj⟩) (fun p hp=>nomatch hp) (fun j hj=>by simp at hj;rcases hj with rfl|rfl<;>rfl) ?_))))
 rintro _ ⟨xs,hxs,rfl⟩
 refine s2 (sq (rE [1,4,5,6,7,8] (s1 (dJ (robj:=[(60,.row 138 6 (bM k.halves xs)),(90,.zone (eW 86 2 (cS k.halves xs)))]) (rl:=[(0,61),(1,91)]) (bor:=[60,90]) (news:=[0,1]) (pd k hk.1) rfl rfl rfl rfl ⟨bK rfl (aI rfl (aI rfl (aI rfl (aI rfl (cN (q:=90) rfl rfl rfl rfl (bC _ _) (cH _ _ _ (fun _ h=>h)) rfl aR))))) trivial,rfl⟩ (by rintro _ ⟨vs,hvs,rfl⟩;exact⟨rfl,.inr (jY rfl hvs),fun j hj=>hj⟩) (aV ⟨rfl,rfl,trivial⟩) (fun j hj=>by simp at hj;rcases hj with rfl|rfl<;>rfl) ?_))))
 rintro _ ⟨gs,hgs,rfl⟩
 refine s6 (sq (sq (rT [1,4,5,6,7,8,40] (s2 (dZ (bor:=[61,91]) (robj:=[(61,.row 138 6 (bM ((aU k).1).halves gs)),(91,.zone (eW 86 2 (cS ((aU k).1).halves gs)))]) (cA ((aU k).1) ((aU k).1) (hlh.krb (dE hk))) rfl rfl rfl rfl rfl ⟨bK rfl (aI rfl (aI rfl (aI rfl (aI rfl (cN (q:=91) rfl rfl rfl rfl (bC _ _) (cH _ _ _ (fun _ h=>h)) rfl aR))))) (bK rfl (aI rfl (aI rfl (aI rfl (aI rfl (aI rfl aR))))) trivial),rfl⟩ rfl rfl rfl (aV ⟨rfl,rfl,trivial⟩) (s2 (y3 (ai pk (cd rfl (fun c40=> ?_) fun c40=> ?_)))))))))
 · simp[gb] at c40
 refine sk (sq (sq (rD [1,4,5,6,7,8,45] (s2 (xp (cG k (dE hk)) (ai rfl ?_))))))
 refine dZ (bor:=[60,90]) (robj:=[(60,.row 138 6 (bM (k).halves xs)),(90,.zone (eW 86 2 (cS (k).halves xs)))]) (cA (k) (k) (dE hk)) rfl rfl rfl rfl rfl ⟨bK rfl (aI rfl (aI rfl (aI rfl (aI rfl (cN (q:=90) rfl rfl rfl rfl (bC _ _) (cH _ _ _ (fun _ h=>h)) rfl aR))))) (bK rfl (aI rfl (aI rfl (aI rfl (aI rfl (aI rfl aR))))) trivial),rfl⟩ rfl rfl rfl (aV ⟨rfl,rfl,trivial⟩) (s1 (ai (by kernel_rfl) (cd rfl (fun c45=> ?_) fun c45=> ?_)))
 · simp[gb] at c45
 refine sk (sq (rT [1,4,5,6,7,8,9] (s1 (sq (rT [1,4,5,7,8,9] (s2 (dI (robj:=[(60,.row 138 6 (bM (k).halves xs)),(90,.zone (eW 86 2 (cS (k).halves xs)))]) (rl:=[(0,60),(1,90)]) (bor:=[]) (dR (k).id (k).forced (k).up (k).log (k).halves xs 1 hxs (by omega) (by omega)) rfl rfl rfl rfl ⟨bK rfl (aI rfl (aI rfl (aI rfl (aI rfl (eX rfl rfl rfl aR))))) (fR rfl rfl (dV rfl rfl (fY rfl rfl trivial))),rfl⟩ rfl (.inl rfl) (aV ⟨rfl,rfl,trivial⟩) (fun _ hj=>nomatch hj) (s1 (sq (sq (rT [1,4,5,7,61] (s3 (y2 (qA (bor:=[61,91]) (robj:=[(61,.row 138 6 (bM ((aU k).1).halves gs)),(91,.zone (eW 86 2 (cS ((aU k).1).halves gs)))]) (fun h=>cA ((aU k).1) ((aU k).1) (hlh.krb (dE hk))) rfl rfl rfl rfl rfl ⟨bK rfl (aI rfl (aI rfl (aI rfl (aI rfl (cN (q:=91) rfl rfl rfl rfl (bC _ _) (cH _ _ _ (fun _ h=>h)) rfl aR))))) (bK rfl (aI rfl (aI rfl (aI rfl (aI rfl (aI rfl aR))))) trivial),rfl⟩ rfl rfl rfl (aV ⟨rfl,rfl,trivial⟩) rk ?_))))))))))))))
 refine y1 (ai pk (s1 (y3 (ai pk (cd rfl (fun c61=> ?_) fun c61=> ?_)))))
 · simp[gb] at c61
   omega
 refine sk (sq (rT [1,4,5,7,10] (s1 (sq (rT [1,4,5,7,10] (s2 (dI (robj:=[(61,.row 138 6 (bM ((aU k).1).halves gs)),(91,.zone (eW 86 2 (cS ((aU k).1).halves gs)))]) (rl:=[(0,61),(1,91)]) (bor:=[]) (dR ((aU k).1).id ((aU k).1).forced ((aU k).1).up ((aU k).1).log ((aU k).1).halves gs 1 hgs (by omega) (by omega)) rfl rfl rfl rfl ⟨bK rfl (aI rfl (aI rfl (aI rfl (aI rfl (eX rfl rfl rfl aR))))) (fR rfl rfl (dV rfl rfl (fY rfl rfl trivial))),rfl⟩ rfl (.inl rfl) (aV ⟨rfl,rfl,trivial⟩) (fun _ hj=>nomatch hj) (s1 (sq (rT [1,4,5,7,10,11] (s1 (sq (rT [1,4,5,7,10,11] (s2 (dZ (bor:=[61,91]) (robj:=[(61,.row 138 6 (bM (bQ ((aU k).1).halves 1) gs)),(91,.zone (eW 86 2 (cS (bQ ((aU k).1).halves 1) gs)))]) (eA ((aU k).1).id ((aU k).1).forced ((aU k).1).up ((aU k).1).log ((aU k).1).halves 1 (by omega) (by omega)) rfl rfl rfl rfl rfl ⟨bK rfl (aI rfl (aI rfl (aI rfl (aI rfl (cN (q:=91) rfl rfl rfl rfl (by rw[bC,cB]) (cH _ _ _ (fun _ h=>h)) rfl aR))))) (fR rfl rfl trivial),rfl⟩ rfl rfl rfl (aV ⟨rfl,rfl,trivial⟩) ?_)))))))))))))))
 refine s1 (sq (sq (rT [1,4,5,7,10,11,69] (s2 (cd rfl (fun c69=> ?_) fun c69=> ?_)))))
 · simp at c69
   omega
 refine sk (sq (sq (rT [1,4,5,7,10,72] (s3 (cd rfl (fun c72=> ?_) fun c72=> ?_)))))
 · simp at c72
 refine sk (sq (rT [4,5,7,10,12,13] (s1 (xp (cG k (dE hk)) (ai rfl ?_)))))
 refine xp (bp k hk.1) (ai rfl ?_)
 refine s6 (sq (sq (rT [7,10,87] (s2 (xp (cA ((aU k).1) ((aU k).1) (hlh.krb (dE hk))) (ai rfl ?_))))))
 refine s2 (y3 (ai pk (cd rfl (fun c87=> ?_) fun c87=> ?_)))
 · simp[gb] at c87
 refine sk (sq (rT [7,10,11] (s1 (sq (rT [10,11] (s2 (dZ (bor:=[61,91]) (robj:=[(61,.row 138 6 (bM (bQ ((aU k).1).halves 1) gs)),(91,.zone (eW 86 2 (cS (bQ ((aU k).1).halves 1) gs)))]) (eA ((aU k).1).id ((aU k).1).forced ((aU k).1).up ((aU k).1).log ((aU k).1).halves 1 (by omega) (by omega)) rfl rfl rfl rfl rfl ⟨bK rfl (aI rfl (aI rfl (aI rfl (aI rfl (cN (q:=91) rfl rfl rfl rfl (by rw[bC,cB]) (cH _ _ _ (fun _ h=>h)) rfl aR))))) (fR rfl rfl trivial),rfl⟩ rfl rfl rfl (aV ⟨rfl,rfl,trivial⟩) (s1 (sq (sq (rT [10,11,92] (s2 (cd rfl (fun c92=> ?_) fun c92=> ?_)))))))))))))
 · simp at c92
   omega
 refine sk (sq (sq (rT [95] (s3 (cd rfl (fun c95=> ?_) fun c95=> ?_)))))
 · simp at c95
 exact sk (sq (rT [2] (s1 (rt (aT rfl rfl)))))
theorem uF (k:aN) (hk:KRW k):Sp 7 1 [tV 0 k.V] [tB 0 true]:=by
 refine sb Tryz.func7 rfl (sq (rT [1] (s2 (sq (rT [1,3] (s1 (sq (rE [1,3] (s2 (dJ (rl:=[]) (bor:=[]) (news:=[]) (robj:=[]) (kK k 1048576 hk ⟨by omega,by omega⟩) rfl rfl rfl rfl (gO rfl) (fun σ hσ=>by obtain⟨r,_,rfl⟩:=hσ;exact⟨rfl,.inl rfl,fun j hj=>by simp[eJ,bO] at hj⟩) (fun p hp=>nomatch hp) (fun j hj=>nomatch hj) ?_))))))))))
 rintro σ ⟨r,hr,rfl⟩
 refine s1 (sq (sq (rT [1,18] (s2 (cd rfl (fun c18=> ?_) fun c18=> ?_)))))
 · exact sq (rT [2] (s1 (rt (aT rfl rfl))))
 have hc0: ¬r<0:=by simpa using c18
 have hwt:=hr.2 (by omega)
 have hcx:aK k.halves≤5242880:=by rw[hF];push_cast at hwt;omega
 have hlh:LH k ((aZ k).1):= .pack (dE hk)
 have hcg:aK ((aZ k).1).halves≤5242880:=hlh.cnt hcx
 have hn0:=cI k.halves
 have hn1:=cI ((aZ k).1).halves
 refine sk (sq (rT [1,4,5] (s1 (xp (cG k (dE hk)) (ai rfl ?_)))))
 refine xp (ej k hk.1) (ai rfl ?_)
 refine s6 (sq (rE [1,4,5,6] (s1 (dJ (robj:=[]) (rl:=[(0,60),(1,90)]) (bor:=[]) (news:=[0,1]) (kJ k (dE hk)) rfl rfl rfl rfl ⟨bK rfl (aI rfl (aI rfl (aI rfl (aI rfl (aI rfl aR))))) trivial,rfl⟩ (by rintro _ ⟨vs,hvs,rfl⟩;exact⟨rfl,.inl rfl,fun j hj=>hj⟩) (fun p hp=>nomatch hp) (fun j hj=>by simp at hj;rcases hj with rfl|rfl<;>rfl) ?_))))
 rintro _ ⟨xs,hxs,rfl⟩
 refine s2 (sq (rE [1,4,5,6,7,8] (s1 (dJ (robj:=[(60,.row 138 6 (bM k.halves xs)),(90,.zone (eW 86 2 (cS k.halves xs)))]) (rl:=[(0,61),(1,91)]) (bor:=[60,90]) (news:=[0,1]) (rn k hk.1) rfl rfl rfl rfl ⟨bK rfl (aI rfl (aI rfl (aI rfl (aI rfl (cN (q:=90) rfl rfl rfl rfl (bC _ _) (cH _ _ _ (fun _ h=>h)) rfl aR))))) trivial,rfl⟩ (by rintro _ ⟨vs,hvs,rfl⟩;exact⟨rfl,.inr (jY rfl hvs),fun j hj=>hj⟩) (aV ⟨rfl,rfl,trivial⟩) (fun j hj=>by simp at hj;rcases hj with rfl|rfl<;>rfl) ?_))))
 rintro _ ⟨gs,hgs,rfl⟩
 refine s6 (sq (sq (rT [1,4,5,6,7,8,40] (s2 (dZ (bor:=[61,91]) (robj:=[(61,.row 138 6 (bM ((aZ k).1).halves gs)),(91,.zone (eW 86 2 (cS ((aZ k).1).halves gs)))]) (cA ((aZ k).1) ((aZ k).1) (hlh.krb (dE hk))) rfl rfl rfl rfl rfl ⟨bK rfl (aI rfl (aI rfl (aI rfl (aI rfl (cN (q:=91) rfl rfl rfl rfl (bC _ _) (cH _ _ _ (fun _ h=>h)) rfl aR))))) (bK rfl (aI rfl (aI rfl (aI rfl (aI rfl (aI rfl aR))))) trivial),rfl⟩ rfl rfl rfl (aV ⟨rfl,rfl,trivial⟩) (s2 (y3 (ai pk (cd rfl (fun c40=> ?_) fun c40=> ?_)))))))))
 · simp[gb] at c40
 refine sk (sq (sq (rD [1,4,5,6,7,8,45] (s2 (xp (cG k (dE hk)) (ai rfl ?_))))))
 refine dZ (bor:=[60,90]) (robj:=[(60,.row 138 6 (bM (k).halves xs)),(90,.zone (eW 86 2 (cS (k).halves xs)))]) (cA (k) (k) (dE hk)) rfl rfl rfl rfl rfl ⟨bK rfl (aI rfl (aI rfl (aI rfl (aI rfl (cN (q:=90) rfl rfl rfl rfl (bC _ _) (cH _ _ _ (fun _ h=>h)) rfl aR))))) (bK rfl (aI rfl (aI rfl (aI rfl (aI rfl (aI rfl aR))))) trivial),rfl⟩ rfl rfl rfl (aV ⟨rfl,rfl,trivial⟩) (s1 (ai (by kernel_rfl) (cd rfl (fun c45=> ?_) fun c45=> ?_)))
 · simp[gb] at c45
 refine sk (sq (rT [1,4,5,6,7,8,9] (s1 (sq (rT [1,4,5,7,8,9] (s2 (dI (robj:=[(60,.row 138 6 (bM (k).halves xs)),(90,.zone (eW 86 2 (cS (k).halves xs)))]) (rl:=[(0,60),(1,90)]) (bor:=[]) (dR (k).id (k).forced (k).up (k).log (k).halves xs 1 hxs (by omega) (by omega)) rfl rfl rfl rfl ⟨bK rfl (aI rfl (aI rfl (aI rfl (aI rfl (eX rfl rfl rfl aR))))) (fR rfl rfl (dV rfl rfl (fY rfl rfl trivial))),rfl⟩ rfl (.inl rfl) (aV ⟨rfl,rfl,trivial⟩) (fun _ hj=>nomatch hj) (s1 (sq (sq (rT [1,4,5,7,61] (s3 (y2 (qA (bor:=[61,91]) (robj:=[(61,.row 138 6 (bM ((aZ k).1).halves gs)),(91,.zone (eW 86 2 (cS ((aZ k).1).halves gs)))]) (fun h=>cA ((aZ k).1) ((aZ k).1) (hlh.krb (dE hk))) rfl rfl rfl rfl rfl ⟨bK rfl (aI rfl (aI rfl (aI rfl (aI rfl (cN (q:=91) rfl rfl rfl rfl (bC _ _) (cH _ _ _ (fun _ h=>h)) rfl aR))))) (bK rfl (aI rfl (aI rfl (aI rfl (aI rfl (aI rfl aR))))) trivial),rfl⟩ rfl rfl rfl (aV ⟨rfl,rfl,trivial⟩) rk ?_))))))))))))))
 refine y1 (ai pk (s1 (y3 (ai pk (cd rfl (fun c61=> ?_) fun c61=> ?_)))))
 · simp[gb] at c61
   omega
 refine sk (sq (rT [1,4,5,7,10] (s1 (sq (rT [1,4,5,7,10] (s2 (dI (robj:=[(61,.row 138 6 (bM ((aZ k).1).halves gs)),(91,.zone (eW 86 2 (cS ((aZ k).1).halves gs)))]) (rl:=[(0,61),(1,91)]) (bor:=[]) (dR ((aZ k).1).id ((aZ k).1).forced ((aZ k).1).up ((aZ k).1).log ((aZ k).1).halves gs 1 hgs (by omega) (by omega)) rfl rfl rfl rfl ⟨bK rfl (aI rfl (aI rfl (aI rfl (aI rfl (eX rfl rfl rfl aR))))) (fR rfl rfl (dV rfl rfl (fY rfl rfl trivial))),rfl⟩ rfl (.inl rfl) (aV ⟨rfl,rfl,trivial⟩) (fun _ hj=>nomatch hj) (s1 (sq (rT [1,4,5,7,10,11] (s1 (sq (rT [1,4,5,7,10,11] (s2 (dZ (bor:=[61,91]) (robj:=[(61,.row 138 6 (bM (bQ ((aZ k).1).halves 1) gs)),(91,.zone (eW 86 2 (cS (bQ ((aZ k).1).halves 1) gs)))]) (eA ((aZ k).1).id ((aZ k).1).forced ((aZ k).1).up ((aZ k).1).log ((aZ k).1).halves 1 (by omega) (by omega)) rfl rfl rfl rfl rfl ⟨bK rfl (aI rfl (aI rfl (aI rfl (aI rfl (cN (q:=91) rfl rfl rfl rfl (by rw[bC,cB]) (cH _ _ _ (fun _ h=>h)) rfl aR))))) (fR rfl rfl trivial),rfl⟩ rfl rfl rfl (aV ⟨rfl,rfl,trivial⟩) ?_)))))))))))))))
 refine s1 (sq (sq (rT [1,4,5,7,10,11,69] (s2 (cd rfl (fun c69=> ?_) fun c69=> ?_)))))
 · simp at c69
   omega
 refine sk (sq (sq (rT [1,4,5,7,10,72] (s3 (cd rfl (fun c72=> ?_) fun c72=> ?_)))))
 · simp at c72
 refine sk (sq (rT [4,5,7,10,12,13] (s1 (xp (cG k (dE hk)) (ai rfl ?_)))))
 refine xp (eh k hk.1) (ai rfl ?_)
 refine s6 (sq (sq (rT [7,10,87] (s2 (xp (cA ((aZ k).1) ((aZ k).1) (hlh.krb (dE hk))) (ai rfl ?_))))))
 refine s2 (y3 (ai pk (cd rfl (fun c87=> ?_) fun c87=> ?_)))
 · simp[gb] at c87
 refine sk (sq (rT [7,10,11] (s1 (sq (rT [10,11] (s2 (dZ (bor:=[61,91]) (robj:=[(61,.row 138 6 (bM (bQ ((aZ k).1).halves 1) gs)),(91,.zone (eW 86 2 (cS (bQ ((aZ k).1).halves 1) gs)))]) (eA ((aZ k).1).id ((aZ k).1).forced ((aZ k).1).up ((aZ k).1).log ((aZ k).1).halves 1 (by omega) (by omega)) rfl rfl rfl rfl rfl ⟨bK rfl (aI rfl (aI rfl (aI rfl (aI rfl (cN (q:=91) rfl rfl rfl rfl (by rw[bC,cB]) (cH _ _ _ (fun _ h=>h)) rfl aR))))) (fR rfl rfl trivial),rfl⟩ rfl rfl rfl (aV ⟨rfl,rfl,trivial⟩) (s1 (sq (sq (rT [10,11,92] (s2 (cd rfl (fun c92=> ?_) fun c92=> ?_)))))))))))))
 · simp at c92
   omega
 refine sk (sq (sq (rT [95] (s3 (cd rfl (fun c95=> ?_) fun c95=> ?_)))))
 · simp at c95
 exact sk (sq (rT [2] (s1 (rt (aT rfl rfl)))))
theorem uG (k:aN) (hk:KRW k):Sp 8 1 [tV 0 k.V] [tB 0 true]:=by
 refine sb Tryz.func8 rfl (sq (rT [1] (s2 (sq (rT [1,3] (s1 (sq (rE [1,3] (s2 (dJ (rl:=[]) (bor:=[]) (news:=[]) (robj:=[]) (kK k 1048576 hk ⟨by omega,by omega⟩) rfl rfl rfl rfl (gO rfl) (fun σ hσ=>by obtain⟨r,_,rfl⟩:=hσ;exact⟨rfl,.inl rfl,fun j hj=>by simp[eJ,bO] at hj⟩) (fun p hp=>nomatch hp) (fun j hj=>nomatch hj) ?_))))))))))
 rintro σ ⟨r,hr,rfl⟩
 refine s1 (sq (sq (rT [1,18] (s2 (cd rfl (fun c18=> ?_) fun c18=> ?_)))))
 · exact sq (rT [2] (s1 (rt (aT rfl rfl))))
 have hc0: ¬r<0:=by simpa using c18
 have hwt:=hr.2 (by omega)
 have hcx:aK k.halves≤5242880:=by rw[hF];push_cast at hwt;omega
 have hlh:LH k ((bB k).1):= .time (dE hk)
 have hcg:aK ((bB k).1).halves≤5242880:=hlh.cnt hcx
 have hn0:=cI k.halves
 have hn1:=cI ((bB k).1).halves
 refine sk (sq (rT [1,4,5] (s1 (xp (cG k (dE hk)) (ai rfl ?_)))))
 refine xp (eg k hk.1) (ai rfl ?_)
 refine s6 (sq (rE [1,4,5,6] (s1 (dJ (robj:=[]) (rl:=[(0,60),(1,90)]) (bor:=[]) (news:=[0,1]) (kJ k (dE hk)) rfl rfl rfl rfl ⟨bK rfl (aI rfl (aI rfl (aI rfl (aI rfl (aI rfl aR))))) trivial,rfl⟩ (by rintro _ ⟨vs,hvs,rfl⟩;exact⟨rfl,.inl rfl,fun j hj=>hj⟩) (fun p hp=>nomatch hp) (fun j hj=>by simp at hj;rcases hj with rfl|rfl<;>rfl) ?_))))
 rintro _ ⟨xs,hxs,rfl⟩
 refine s2 (sq (rE [1,4,5,6,7,8] (s1 (dJ (robj:=[(60,.row 138 6 (bM k.halves xs)),(90,.zone (eW 86 2 (cS k.halves xs)))]) (rl:=[(0,61),(1,91)]) (bor:=[60,90]) (news:=[0,1]) (rm k hk.1) rfl rfl rfl rfl ⟨bK rfl (aI rfl (aI rfl (aI rfl (aI rfl (cN (q:=90) rfl rfl rfl rfl (bC _ _) (cH _ _ _ (fun _ h=>h)) rfl aR))))) trivial,rfl⟩ (by rintro _ ⟨vs,hvs,rfl⟩;exact⟨rfl,.inr (jY rfl hvs),fun j hj=>hj⟩) (aV ⟨rfl,rfl,trivial⟩) (fun j hj=>by simp at hj;rcases hj with rfl|rfl<;>rfl) ?_))))
 rintro _ ⟨gs,hgs,rfl⟩
 refine s6 (sq (sq (rT [1,4,5,6,7,8,40] (s2 (dZ (bor:=[61,91]) (robj:=[(61,.row 138 6 (bM ((bB k).1).halves gs)),(91,.zone (eW 86 2 (cS ((bB k).1).halves gs)))]) (cA ((bB k).1) ((bB k).1) (hlh.krb (dE hk))) rfl rfl rfl rfl rfl ⟨bK rfl (aI rfl (aI rfl (aI rfl (aI rfl (cN (q:=91) rfl rfl rfl rfl (bC _ _) (cH _ _ _ (fun _ h=>h)) rfl aR))))) (bK rfl (aI rfl (aI rfl (aI rfl (aI rfl (aI rfl aR))))) trivial),rfl⟩ rfl rfl rfl (aV ⟨rfl,rfl,trivial⟩) (s2 (y3 (ai pk (cd rfl (fun c40=> ?_) fun c40=> ?_)))))))))
 · simp[gb] at c40
 refine sk (sq (sq (rD [1,4,5,6,7,8,45] (s2 (xp (cG k (dE hk)) (ai rfl ?_))))))
 refine dZ (bor:=[60,90]) (robj:=[(60,.row 138 6 (bM (k).halves xs)),(90,.zone (eW 86 2 (cS (k).halves xs)))]) (cA (k) (k) (dE hk)) rfl rfl rfl rfl rfl ⟨bK rfl (aI rfl (aI rfl (aI rfl (aI rfl (cN (q:=90) rfl rfl rfl rfl (bC _ _) (cH _ _ _ (fun _ h=>h)) rfl aR))))) (bK rfl (aI rfl (aI rfl (aI rfl (aI rfl (aI rfl aR))))) trivial),rfl⟩ rfl rfl rfl (aV ⟨rfl,rfl,trivial⟩) (s1 (ai (by kernel_rfl) (cd rfl (fun c45=> ?_) fun c45=> ?_)))
 · simp[gb] at c45
 refine sk (sq (rT [1,4,5,6,7,8,9] (s1 (sq (rT [1,4,5,7,8,9] (s2 (dI (robj:=[(60,.row 138 6 (bM (k).halves xs)),(90,.zone (eW 86 2 (cS (k).halves xs)))]) (rl:=[(0,60),(1,90)]) (bor:=[]) (dR (k).id (k).forced (k).up (k).log (k).halves xs 1 hxs (by omega) (by omega)) rfl rfl rfl rfl ⟨bK rfl (aI rfl (aI rfl (aI rfl (aI rfl (eX rfl rfl rfl aR))))) (fR rfl rfl (dV rfl rfl (fY rfl rfl trivial))),rfl⟩ rfl (.inl rfl) (aV ⟨rfl,rfl,trivial⟩) (fun _ hj=>nomatch hj) (s1 (sq (sq (rT [1,4,5,7,61] (s3 (y2 (qA (bor:=[61,91]) (robj:=[(61,.row 138 6 (bM ((bB k).1).halves gs)),(91,.zone (eW 86 2 (cS ((bB k).1).halves gs)))]) (fun h=>cA ((bB k).1) ((bB k).1) (hlh.krb (dE hk))) rfl rfl rfl rfl rfl ⟨bK rfl (aI rfl (aI rfl (aI rfl (aI rfl (cN (q:=91) rfl rfl rfl rfl (bC _ _) (cH _ _ _ (fun _ h=>h)) rfl aR))))) (bK rfl (aI rfl (aI rfl (aI rfl (aI rfl (aI rfl aR))))) trivial),rfl⟩ rfl rfl rfl (aV ⟨rfl,rfl,trivial⟩) rk ?_))))))))))))))
 refine y1 (ai pk (s1 (y3 (ai pk (cd rfl (fun c61=> ?_) fun c61=> ?_)))))
 · simp[gb] at c61
   omega
 refine sk (sq (rT [1,4,5,7,10] (s1 (sq (rT [1,4,5,7,10] (s2 (dI (robj:=[(61,.row 138 6 (bM ((bB k).1).halves gs)),(91,.zone (eW 86 2 (cS ((bB k).1).halves gs)))]) (rl:=[(0,61),(1,91)]) (bor:=[]) (dR ((bB k).1).id ((bB k).1).forced ((bB k).1).up ((bB k).1).log ((bB k).1).halves gs 1 hgs (by omega) (by omega)) rfl rfl rfl rfl ⟨bK rfl (aI rfl (aI rfl (aI rfl (aI rfl (eX rfl rfl rfl aR))))) (fR rfl rfl (dV rfl rfl (fY rfl rfl trivial))),rfl⟩ rfl (.inl rfl) (aV ⟨rfl,rfl,trivial⟩) (fun _ hj=>nomatch hj) (s1 (sq (rT [1,4,5,7,10,11] (s1 (sq (rT [1,4,5,7,10,11] (s2 (dZ (bor:=[61,91]) (robj:=[(61,.row 138 6 (bM (bQ ((bB k).1).halves 1) gs)),(91,.zone (eW 86 2 (cS (bQ ((bB k).1).halves 1) gs)))]) (eA ((bB k).1).id ((bB k).1).forced ((bB k).1).up ((bB k).1).log ((bB k).1).halves 1 (by omega) (by omega)) rfl rfl rfl rfl rfl ⟨bK rfl (aI rfl (aI rfl (aI rfl (aI rfl (cN (q:=91) rfl rfl rfl rfl (by rw[bC,cB]) (cH _ _ _ (fun _ h=>h)) rfl aR))))) (fR rfl rfl trivial),rfl⟩ rfl rfl rfl (aV ⟨rfl,rfl,trivial⟩) ?_)))))))))))))))
 refine s1 (sq (sq (rT [1,4,5,7,10,11,69] (s2 (cd rfl (fun c69=> ?_) fun c69=> ?_)))))
 · simp at c69
   omega
 refine sk (sq (sq (rT [1,4,5,7,10,72] (s3 (cd rfl (fun c72=> ?_) fun c72=> ?_)))))
 · simp at c72
 refine sk (sq (rT [4,5,7,10,12,13] (s1 (xp (cG k (dE hk)) (ai rfl ?_)))))
 refine xp (ef k hk.1) (ai rfl ?_)
 refine s6 (sq (sq (rT [7,10,87] (s2 (xp (cA ((bB k).1) ((bB k).1) (hlh.krb (dE hk))) (ai rfl ?_))))))
 refine s2 (y3 (ai pk (cd rfl (fun c87=> ?_) fun c87=> ?_)))
 · simp[gb] at c87
 refine sk (sq (rT [7,10,11] (s1 (sq (rT [10,11] (s2 (dZ (bor:=[61,91]) (robj:=[(61,.row 138 6 (bM (bQ ((bB k).1).halves 1) gs)),(91,.zone (eW 86 2 (cS (bQ ((bB k).1).halves 1) gs)))]) (eA ((bB k).1).id ((bB k).1).forced ((bB k).1).up ((bB k).1).log ((bB k).1).halves 1 (by omega) (by omega)) rfl rfl rfl rfl rfl ⟨bK rfl (aI rfl (aI rfl (aI rfl (aI rfl (cN (q:=91) rfl rfl rfl rfl (by rw[bC,cB]) (cH _ _ _ (fun _ h=>h)) rfl aR))))) (fR rfl rfl trivial),rfl⟩ rfl rfl rfl (aV ⟨rfl,rfl,trivial⟩) (s1 (sq (sq (rT [10,11,92] (s2 (cd rfl (fun c92=> ?_) fun c92=> ?_)))))))))))))
 · simp at c92
   omega
 refine sk (sq (sq (rT [95] (s3 (cd rfl (fun c95=> ?_) fun c95=> ?_)))))
 · simp at c95
 exact sk (sq (rT [2] (s1 (rt (aT rfl rfl)))))
theorem uY (k:aN) (tu til:Int) (tx:List UInt8) (hk:KRW k) (htx:tx.length≤140737488355328):Sp 9 4 [tV 0 k.V,tI 1 tu,tI 2 til,tD 3 (.s tx)] [tB 0 true]:=by
 refine sb Tryz.func9 rfl (sq (rT [1,2,3,4] (s2 (sq (sq (rT [1,2,3,4,22] (s3 (cd rfl (fun c22=> ?_) fun c22=> ?_))))))))
 · exact sq (rT [8] (s1 (rt (aT rfl rfl))))
 refine sk (sq (rT [1,2,3,4,9] (s1 (sq (rE [1,2,3,4,9] (s2 (dJ (rl:=[]) (bor:=[]) (news:=[]) (robj:=[]) (kK k 1048576 hk ⟨by omega,by omega⟩) rfl rfl rfl rfl (gO rfl) (fun σ hσ=>by obtain⟨r,_,rfl⟩:=hσ;exact⟨rfl,.inl rfl,fun j hj=>by simp[eJ,bO] at hj⟩) (fun p hp=>nomatch hp) (fun j hj=>nomatch hj) ?_)))))))
 rintro σ ⟨r,hr,rfl⟩
 refine s1 (sq (sq (rT [1,2,3,4,27] (s2 (cd rfl (fun c27=> ?_) fun c27=> ?_)))))
 · exact sq (rT [8] (s1 (rt (aT rfl rfl))))
 have hc0: ¬r<0:=by simpa using c27
 have hwt:=hr.2 (by omega)
 have hcx:aK k.halves≤5242880:=by rw[hF];push_cast at hwt;omega
 have hlh:LH k ((bE k tu til tx).1):= .own (dE hk) tu til tx
 have hcg:aK ((bE k tu til tx).1).halves≤5242880:=hlh.cnt hcx
 have hn0:=cI k.halves
 have hn1:=cI ((bE k tu til tx).1).halves
 refine sk (sq (rT [1,2,3,4,10,11] (s1 (xp (cG k (dE hk)) (ai rfl ?_)))))
 refine s3 (xp (il k tu til tx hk.1 htx) (ai rfl ?_))
 refine s6 (sq (rE [1,2,3,4,10,11,12] (s1 (dJ (robj:=[]) (rl:=[(0,60),(1,90)]) (bor:=[]) (news:=[0,1]) (kJ k (dE hk)) rfl rfl rfl rfl ⟨bK rfl (aI rfl (aI rfl (aI rfl (aI rfl (aI rfl aR))))) trivial,rfl⟩ (by rintro _ ⟨vs,hvs,rfl⟩;exact⟨rfl,.inl rfl,fun j hj=>hj⟩) (fun p hp=>nomatch hp) (fun j hj=>by simp at hj;rcases hj with rfl|rfl<;>rfl) ?_))))
 rintro _ ⟨xs,hxs,rfl⟩
 refine s2 (sq (rE [1,2,3,4,10,11,12,13,14] (s4 (dJ (robj:=[(60,.row 138 6 (bM k.halves xs)),(90,.zone (eW 86 2 (cS k.halves xs)))]) (rl:=[(0,61),(1,91)]) (bor:=[60,90]) (news:=[0,1]) (wh k tu til tx hk.1 htx) rfl rfl rfl rfl ⟨bK rfl (aI rfl (aI rfl (aI rfl (aI rfl (cN (q:=90) rfl rfl rfl rfl (bC _ _) (cH _ _ _ (fun _ h=>h)) rfl aR))))) (fR rfl rfl (fR rfl rfl (fR rfl rfl (trivial)))),rfl⟩ (by rintro _ ⟨vs,hvs,rfl⟩;exact⟨rfl,.inr (jY rfl hvs),fun j hj=>hj⟩) (aV ⟨rfl,rfl,trivial⟩) (fun j hj=>by simp at hj;rcases hj with rfl|rfl<;>rfl) ?_))))
 rintro _ ⟨gs,hgs,rfl⟩
 refine s6 (sq (sq (rT [1,2,3,4,10,11,12,13,14,55] (s2 (dZ (bor:=[61,91]) (robj:=[(61,.row 138 6 (bM ((bE k tu til tx).1).halves gs)),(91,.zone (eW 86 2 (cS ((bE k tu til tx).1).halves gs)))]) (cA ((bE k tu til tx).1) ((bE k tu til tx).1) (hlh.krb (dE hk))) rfl rfl rfl rfl rfl ⟨bK rfl (aI rfl (aI rfl (aI rfl (aI rfl (cN (q:=91) rfl rfl rfl rfl (bC _ _) (cH _ _ _ (fun _ h=>h)) rfl aR))))) (bK rfl (aI rfl (aI rfl (aI rfl (aI rfl (aI rfl aR))))) trivial),rfl⟩ rfl rfl rfl (aV ⟨rfl,rfl,trivial⟩) (s2 (y3 (ai pk (cd rfl (fun c55=> ?_) fun c55=> ?_)))))))))
 · simp[gb] at c55
 refine sk (sq (sq (rD [1,2,3,4,10,11,12,13,14,60] (s2 (xp (cG k (dE hk)) (ai rfl ?_))))))
 refine dZ (bor:=[60,90]) (robj:=[(60,.row 138 6 (bM (k).halves xs)),(90,.zone (eW 86 2 (cS (k).halves xs)))]) (cA (k) (k) (dE hk)) rfl rfl rfl rfl rfl ⟨bK rfl (aI rfl (aI rfl (aI rfl (aI rfl (cN (q:=90) rfl rfl rfl rfl (bC _ _) (cH _ _ _ (fun _ h=>h)) rfl aR))))) (bK rfl (aI rfl (aI rfl (aI rfl (aI rfl (aI rfl aR))))) trivial),rfl⟩ rfl rfl rfl (aV ⟨rfl,rfl,trivial⟩) (s1 (ai (by kernel_rfl) (cd rfl (fun c60=> ?_) fun c60=> ?_)))
 · simp[gb] at c60
 refine sk (sq (rT [1,2,3,4,10,11,12,13,14,15] (s1 (sq (rT [1,2,3,4,10,11,13,14,15] (s2 (dI (robj:=[(60,.row 138 6 (bM (k).halves xs)),(90,.zone (eW 86 2 (cS (k).halves xs)))]) (rl:=[(0,60),(1,90)]) (bor:=[]) (dR (k).id (k).forced (k).up (k).log (k).halves xs 1 hxs (by omega) (by omega)) rfl rfl rfl rfl ⟨bK rfl (aI rfl (aI rfl (aI rfl (aI rfl (eX rfl rfl rfl aR))))) (fR rfl rfl (dV rfl rfl (fY rfl rfl trivial))),rfl⟩ rfl (.inl rfl) (aV ⟨rfl,rfl,trivial⟩) (fun _ hj=>nomatch hj) (s1 (sq (sq (rT [1,2,3,4,10,11,13,76] (s3 (y2 (qA (bor:=[61,91]) (robj:=[(61,.row 138 6 (bM ((bE k tu til tx).1).halves gs)),(91,.zone (eW 86 2 (cS ((bE k tu til tx).1).halves gs)))]) (fun h=>cA ((bE k tu til tx).1) ((bE k tu til tx).1) (hlh.krb (dE hk))) rfl rfl rfl rfl rfl ⟨bK rfl (aI rfl (aI rfl (aI rfl (aI rfl (cN (q:=91) rfl rfl rfl rfl (bC _ _) (cH _ _ _ (fun _ h=>h)) rfl aR))))) (bK rfl (aI rfl (aI rfl (aI rfl (aI rfl (aI rfl aR))))) trivial),rfl⟩ rfl rfl rfl (aV ⟨rfl,rfl,trivial⟩) rk ?_))))))))))))))
 refine y1 (ai pk (s1 (y3 (ai pk (cd rfl (fun c76=> ?_) fun c76=> ?_)))))
 · simp[gb] at c76
   omega
 refine sk (sq (rT [1,2,3,4,10,11,13,16] (s1 (sq (rT [1,2,3,4,10,11,13,16] (s2 (dI (robj:=[(61,.row 138 6 (bM ((bE k tu til tx).1).halves gs)),(91,.zone (eW 86 2 (cS ((bE k tu til tx).1).halves gs)))]) (rl:=[(0,61),(1,91)]) (bor:=[]) (dR ((bE k tu til tx).1).id ((bE k tu til tx).1).forced ((bE k tu til tx).1).up ((bE k tu til tx).1).log ((bE k tu til tx).1).halves gs 1 hgs (by omega) (by omega)) rfl rfl rfl rfl ⟨bK rfl (aI rfl (aI rfl (aI rfl (aI rfl (eX rfl rfl rfl aR))))) (fR rfl rfl (dV rfl rfl (fY rfl rfl trivial))),rfl⟩ rfl (.inl rfl) (aV ⟨rfl,rfl,trivial⟩) (fun _ hj=>nomatch hj) (s1 (sq (rT [1,2,3,4,10,11,13,16,17] (s1 (sq (rT [1,2,3,4,10,11,13,16,17] (s2 (dZ (bor:=[61,91]) (robj:=[(61,.row 138 6 (bM (bQ ((bE k tu til tx).1).halves 1) gs)),(91,.zone (eW 86 2 (cS (bQ ((bE k tu til tx).1).halves 1) gs)))]) (eA ((bE k tu til tx).1).id ((bE k tu til tx).1).forced ((bE k tu til tx).1).up ((bE k tu til tx).1).log ((bE k tu til tx).1).halves 1 (by omega) (by omega)) rfl rfl rfl rfl rfl ⟨bK rfl (aI rfl (aI rfl (aI rfl (aI rfl (cN (q:=91) rfl rfl rfl rfl (by rw[bC,cB]) (cH _ _ _ (fun _ h=>h)) rfl aR))))) (fR rfl rfl trivial),rfl⟩ rfl rfl rfl (aV ⟨rfl,rfl,trivial⟩) ?_)))))))))))))))
 refine s1 (sq (sq (rT [1,2,3,4,10,11,13,16,17,84] (s2 (cd rfl (fun c84=> ?_) fun c84=> ?_)))))
 · simp at c84
   omega
 refine sk (sq (sq (rT [1,2,3,4,10,11,13,16,87] (s3 (cd rfl (fun c87=> ?_) fun c87=> ?_)))))
 · simp at c87
 refine sk (sq (rT [10,11,13,16,18,19] (s1 (xp (cG k (dE hk)) (ai rfl ?_)))))
 refine s3 (xp (ik k tu til tx hk.1 htx) (ai rfl ?_))
 refine s6 (sq (sq (rT [13,16,105] (s2 (xp (cA ((bE k tu til tx).1) ((bE k tu til tx).1) (hlh.krb (dE hk))) (ai rfl ?_))))))
 refine s2 (y3 (ai pk (cd rfl (fun c105=> ?_) fun c105=> ?_)))
 · simp[gb] at c105
 refine sk (sq (rT [13,16,17] (s1 (sq (rT [16,17] (s2 (dZ (bor:=[61,91]) (robj:=[(61,.row 138 6 (bM (bQ ((bE k tu til tx).1).halves 1) gs)),(91,.zone (eW 86 2 (cS (bQ ((bE k tu til tx).1).halves 1) gs)))]) (eA ((bE k tu til tx).1).id ((bE k tu til tx).1).forced ((bE k tu til tx).1).up ((bE k tu til tx).1).log ((bE k tu til tx).1).halves 1 (by omega) (by omega)) rfl rfl rfl rfl rfl ⟨bK rfl (aI rfl (aI rfl (aI rfl (aI rfl (cN (q:=91) rfl rfl rfl rfl (by rw[bC,cB]) (cH _ _ _ (fun _ h=>h)) rfl aR))))) (fR rfl rfl trivial),rfl⟩ rfl rfl rfl (aV ⟨rfl,rfl,trivial⟩) (s1 (sq (sq (rT [16,17,110] (s2 (cd rfl (fun c110=> ?_) fun c110=> ?_)))))))))))))
 · simp at c110
   omega
 refine sk (sq (sq (rT [113] (s3 (cd rfl (fun c113=> ?_) fun c113=> ?_)))))
 · simp at c113
 exact sk (sq (rT [8] (s1 (rt (aT rfl rfl)))))
theorem yZ (l:List bF) (hl:l.length≤1000000):Sp 211 1 [tD 0 (.sl (aF l))] [tO 0 0 l.length,oR 0 52 5 (aF l)]:=by
 refine sb Tryz.func211 rfl (sq (rT [0] (s1 (sq (sq (rT [0,6] (s3 (cd rfl (fun c6=> ?_) fun c6=> ?_))))))))
 · refine sq (rT [2] (s1 (SW.nilOwn 2 0 52 5 rfl rfl (rt (rq [] [] rfl ?_)))))
   repeat' apply ai
   all_goals try exact qx
   all_goals(simp[aE] at c6;simp[c6,aF])
 refine sk (sq (rT [0,3] (s2 (ai (by refine⟨rfl,by omega,?_⟩;rw[aE];show((48:Nat):Int)*_≤_;omega) (s1 (sq (rT [3] (s2 (ai (by refine⟨trivial,by simp,dY l⟩) (sq (rT [2] (s2 (rt (rq [(0,9)] [] rfl ?_))))))))))))))
 repeat' apply ai
 all_goals try exact qx
 all_goals first|(simp[aE];done)|(simp;done)
theorem pr (l:List bZ) (hl:l.length≤1000000):Sp 212 1 [tD 0 (.sl (aJ l))] [tO 0 0 l.length,oR 0 162 3 (aJ l)]:=by
 refine sb Tryz.func212 rfl (sq (rT [0] (s1 (sq (sq (rT [0,6] (s3 (cd rfl (fun c6=> ?_) fun c6=> ?_))))))))
 · refine sq (rT [2] (s1 (SW.nilOwn 2 0 162 3 rfl rfl (rt (rq [] [] rfl ?_)))))
   repeat' apply ai
   all_goals try exact qx
   all_goals(simp[aG] at c6;simp[c6,aJ])
 refine sk (sq (rT [0,3] (s2 (ai (by refine⟨rfl,by omega,?_⟩;rw[aG];show((24:Nat):Int)*_≤_;omega) (s1 (sq (rT [3] (s2 (ai (by refine⟨trivial,by simp,iN l⟩) (sq (rT [2] (s2 (rt (rq [(0,9)] [] rfl ?_))))))))))))))
 repeat' apply ai
 all_goals try exact qx
 all_goals first|(simp[aG];done)|(simp;done)
theorem uZ (k:bH) (hb:k.held.length≤1000000∧k.marks.length≤1000000∧k.inbox.length≤1000000):Sp 171 1 [tV 0 k.V] [tV 0 (.e (.agg [.d (.i (k).id),.d (.i (k).time),.d (.i (k).next),.own 900 (k).held.length,.own 901 (k).marks.length,.own 902 (k).inbox.length])),oR 900 52 5 (aF (k).held),oR 901 162 3 (aJ (k).marks),oR 902 52 5 (aF (k).inbox)]:=by
 refine sb Tryz.func171 rfl (sq (rT [1,2] (s2 (sq (rT [1,2,3] (s3 (sq (rT [1,2,3] (s2 (dI (robj:=[]) (rl:=[(0,900)]) (bor:=[]) (yZ k.held hb.1) rfl rfl rfl rfl ⟨fR rfl rfl trivial,rfl⟩ rfl (.inl rfl) (fun p hp=>nomatch hp) (fun j hj=>by(obtain rfl:j=0:=by simpa[eJ,bO,gW] using hj);rfl) (s2 (sq (rT [1,2,3] (s2 (dI (robj:=[]) (rl:=[(0,901)]) (bor:=[]) (pr k.marks hb.2.1) rfl rfl rfl rfl ⟨fR rfl rfl trivial,rfl⟩ rfl (.inl rfl) (fun p hp=>nomatch hp) (fun j hj=>by(obtain rfl:j=0:=by simpa[eJ,bO,gW] using hj);rfl) (s2 (sq (rT [2,3] (s2 (dI (robj:=[]) (rl:=[(0,902)]) (bor:=[]) (yZ k.inbox hb.2.2) rfl rfl rfl rfl ⟨fR rfl rfl trivial,rfl⟩ rfl (.inl rfl) (fun p hp=>nomatch hp) (fun j hj=>by(obtain rfl:j=0:=by simpa[eJ,bO,gW] using hj);rfl) ?_))))))))))))))))))))
 refine s2 (sq (rT [2] (s2 (rt (rq [] [] rfl ?_)))))
 repeat' apply ai
 all_goals first|exact qx|exact aE _|exact aG _|exact(aE _).symm|exact(aG _).symm|rfl|(simp[aE,aG];done)|exact qz
theorem pu (k:bH) (rec:List UInt8) (hk:KB k) (hr:rec.length≤900000):Sp 113 2 [tV 0 k.V,tD 1 (.s rec)] [tV 0 (.tup [.agg [.d (.i ((cR k rec).1).id),.d (.i ((cR k rec).1).time),.d (.i ((cR k rec).1).next),.own 900 ((cR k rec).1).held.length,.own 901 ((cR k rec).1).marks.length,.own 902 ((cR k rec).1).inbox.length],.c (.d (.b (cR k rec).2))]),oR 900 52 5 (aF ((cR k rec).1).held),oR 901 162 3 (aJ ((cR k rec).1).marks),oR 902 52 5 (aF ((cR k rec).1).inbox)]:=by
 refine sb Tryz.func113 rfl (sq (rT [1,2,4] (s3 (sq (sq (rT [1,2,4,10] (s1 (xp (nB k hk.2.1 hk.2.2) (ai rfl ?_)))))))))
 refine s1 (cd rfl (fun c10=> ?_) fun c10=> ?_)
 · refine sq (rT [4,5] (s3 (SW.nilBox 4 900 3 52 5 rfl rfl rfl (SW.nilBox 4 901 4 162 3 rfl rfl rfl (SW.nilBox 4 902 5 52 5 rfl rfl rfl (rt ?_))))))
   have hr:cR k rec=(.zero,false):=aB (by simpa using c10)
   rw[hr]
   refine rq [] [] rfl ?_
   repeat' apply ai
   all_goals first|exact qx|exact aE _|exact aG _|exact(aE _).symm|exact(aG _).symm|rfl|(simp[aE,aG];done)|exact qz
 have hok:dG k=true:=by simpa using c10
 refine sk (sq (rT [2,4,6,7] (s1 (xp (nJ k (by have:=hk.1;omega)) (ai rfl ?_)))))
 refine s1 (xp (ed k rec hk.1 hr) (ai rfl ?_))
 refine s6 (sq (sq (rT [2,4,6,25] (s3 (y1 (xc (fun h=>nB (eQ k rec).1 (rN (cV hok) (by omega)).2.1 (rN (cV hok) (by omega)).2.2) (ai rfl (ai rk ?_))))))))
 refine y1 (ai pk (cd rfl (fun c25=> ?_) fun c25=> ?_))
 · refine sq (rT [4,5] (s1 (dI (robj:=[]) (rl:=[]) (bor:=[]) (uZ k (by have:=hk.1;omega)) rfl rfl rfl rfl ⟨bK rfl (aI rfl (aI rfl (aI rfl (aI rfl (aI rfl (aI rfl aR)))))) trivial,rfl⟩ rfl (.inl rfl) (fun p hp=>nomatch hp) (aEg rfl rfl rfl) (s2 (rt ?_)))))
   have hr:cR k rec=(k,false):=(aC hok).trans (aB (by intro h;rw[aNi] at h;rw[h.1,h.2] at c25;cases c25))
   rw[hr]
   refine rq [] [] rfl ?_
   repeat' apply ai
   all_goals first|exact qx|exact aE _|exact aG _|exact(aE _).symm|exact(aG _).symm|rfl|(simp[aE,aG];done)|exact qz
 refine sk (sq (rT [4,5] (s1 (dI (robj:=[]) (rl:=[]) (bor:=[]) (uZ (eQ k rec).1 (by have:=(rN (cV hok) (show rec.length≤1000000 by omega)).1;omega)) rfl rfl rfl rfl ⟨bK rfl (aI rfl (aI rfl (aI rfl (aI rfl (aI rfl (aI rfl aR)))))) trivial,rfl⟩ rfl (.inl rfl) (fun p hp=>nomatch hp) (aEg rfl rfl rfl) (s2 (rt ?_))))))
 have hr:cR k rec=((eQ k rec).1,true):=(aC hok).trans (aC (by simpa using c25))
 rw[hr]
 refine rq [] [] rfl ?_
 repeat' apply ai
 all_goals first|exact qx|exact aE _|exact aG _|exact(aE _).symm|exact(aG _).symm|rfl|(simp[aE,aG];done)|exact qz
theorem ez (id:Int):Sp 112 1 [tI 0 id] [tV 0 (.e (.agg [.d (.i (cE id).id),.d (.i (cE id).time),.d (.i (cE id).next),.nil,.nil,.nil]))]:=by
 refine sb Tryz.func112 rfl (sq (rT [0,2] (s1 (sq (sq (rT [0,2,5] (s1 (xp (fN _) (ai rfl ?_)))))))))
 refine s1 (cd rfl (fun c5=> ?_) fun c5=> ?_)
 · have hr:cE id= .zero:=aB (by simpa using c5)
   refine sq (rT [2] (s2 (rt ?_)))
   rw[hr]
   refine rq [] [] rfl ?_
   repeat' apply ai
   all_goals first|exact qx|exact aE _|exact aG _|exact(aE _).symm|exact(aG _).symm|rfl|(simp[aE,aG];done)|exact qz
 have hr:cE id=⟨id,0,1,[],[],[]⟩:=aC (by simpa using c5)
 refine sk (sq (rT [2] (s3 (rt ?_))))
 rw[hr]
 refine rq [] [] rfl ?_
 repeat' apply ai
 all_goals first|exact qx|exact aE _|exact aG _|exact(aE _).symm|exact(aG _).symm|rfl|(simp[aE,aG];done)|exact qz
theorem pv (id:Int) (l:List (List UInt8)) (hl:l.length≤900000) (hx: ∀x∈l,x.length≤900000):Sp 50 2 [tI 0 id,tD 1 (.sl (bT l))] [tV 0 (.tup [.agg [.d (.i ((cX id l).1).id),.d (.i ((cX id l).1).time),.d (.i ((cX id l).1).next),.own 900 ((cX id l).1).held.length,.own 901 ((cX id l).1).marks.length,.own 902 ((cX id l).1).inbox.length],.c (.d (.b (cX id l).2))]),oR 900 52 5 (aF ((cX id l).1).held),oR 901 162 3 (aJ ((cX id l).1).marks),oR 902 52 5 (aF ((cX id l).1).inbox)]:=by
 refine sb Tryz.func50 rfl (sq (rT [0,1,4] (s2 (sq (sq (rT [0,1,4,13] (s1 (xp (fN _) (ai rfl ?_)))))))))
 refine s1 (cd rfl (fun c13=> ?_) fun c13=> ?_)
 · refine sq (rT [4,5] (s3 (SW.nilBox 4 900 3 52 5 rfl rfl rfl (SW.nilBox 4 901 4 162 3 rfl rfl rfl (SW.nilBox 4 902 5 52 5 rfl rfl rfl (rt ?_))))))
   have hr:cX id l=(.zero,false):=aB (by simpa using c13)
   rw[hr]
   refine rq [] [] rfl ?_
   repeat' apply ai
   all_goals first|exact qx|exact aE _|exact aG _|exact(aE _).symm|exact(aG _).symm|rfl|(simp[aE,aG];done)|exact qz
 have hnode:eP id=true:=by simpa using c13
 refine sk (sq (rT [1,4,6] (s1 (xp (ez id) (ai rfl ?_)))))
 refine s2 (sq (sq (rT [4,6,17,18,19] (s3 (bk (SW.nilBox 6 900 3 52 5 rfl rfl rfl (SW.nilBox 6 901 4 162 3 rfl rfl rfl (SW.nilBox 6 902 5 52 5 rfl rfl rfl (SW.loopW (n:=l.length) (fun m s=> ∃(i:Nat) (q:bH),m=l.length - i∧i≤l.length∧K6 q∧lN (cE id) l=lN q (l.drop i)∧s=[tP 4 4,tP 6 6,tD 17 (.sl (bT l)),tI 18 (l.length:Nat),tI 19 (i:Nat),oB 4 44 [.d (.i 0),.d (.i 0),.d (.i 0),.nil,.nil,.nil],oB 6 44 [.d (.i (q).id),.d (.i (q).time),.d (.i (q).next),.own 900 (q).held.length,.own 901 (q).marks.length,.own 902 (q).inbox.length],oR 900 52 5 (aF (q).held),oR 901 162 3 (aJ (q).marks),oR 902 52 5 (aF (q).inbox)]) ?_ ?_)))))))))
 · refine wq (σ':=[tP 4 4,tP 6 6,tD 17 (.sl (bT l)),tI 18 (l.length:Nat),tI 19 (0:Nat),oB 4 44 [.d (.i 0),.d (.i 0),.d (.i 0),.nil,.nil,.nil],oB 6 44 [.d (.i ((cE id)).id),.d (.i ((cE id)).time),.d (.i ((cE id)).next),.own 900 ((cE id)).held.length,.own 901 ((cE id)).marks.length,.own 902 ((cE id)).inbox.length],oR 900 52 5 (aF ((cE id)).held),oR 901 162 3 (aJ ((cE id)).marks),oR 902 52 5 (aF ((cE id)).inbox)]) [] [] (⟨0,cE id,rfl,aNj _,wD id,rfl,rfl⟩) ?_
   repeat' apply ai
   all_goals first|exact qx|rfl|(rw[aL];done)|(rw[(ksD id).1];rfl)|(rw[(ksD id).2.1];rfl)|(rw[(ksD id).2.2];rfl)|exact qz
 rintro n s ⟨i,q,rfl,hi,hq,hgo,rfl⟩
 refine sq (rT [4,6,17,18,19,20] (s1 (sq (cd rfl (fun c20=> ?_) fun c20=> ?_))))
 · have hi2:i<l.length:=by simpa using c20
   have hg:=gB (l:=l) hi2
   have hmem:l.getD i []∈l:=dO hi2
   refine sk (sq (bk (sq (rT [4,6,8,17,18,19] (ai (by rw[aNf,hg];exact⟨⟨by omega,by rw[aL];omega⟩,rfl⟩) (ai (by rw[aNf,hg];exact⟨aNg rfl,rfl⟩) (s1 (sq (wa [tP 4 4,tP 6 6,tD 8 (.s (l.getD i [])),tD 17 (.sl (bT l)),tI 18 (l.length:Nat),tI 19 (i:Nat),oB 4 44 [.d (.i 0),.d (.i 0),.d (.i 0),.nil,.nil,.nil],oB 6 44 [.d (.i (q).id),.d (.i (q).time),.d (.i (q).next),.own 900 (q).held.length,.own 901 (q).marks.length,.own 902 (q).inbox.length],oR 900 52 5 (aF (q).held),oR 901 162 3 (aJ (q).marks),oR 902 52 5 (aF (q).inbox)] [] [] ?_ ?_)))))))))
   · repeat' apply ai
     all_goals first|exact qx|(rw[aNf,hg];rfl)|exact qz
   refine rT [4,6,9,10,17,18,19] (s2 (dI (robj:=[(900,.row 52 5 (aF (q).held)),(901,.row 162 3 (aJ (q).marks)),(902,.row 52 5 (aF (q).inbox))]) (rl:=[(900,910),(901,911),(902,912)]) (bor:=[900,901,902]) (pu q (l.getD i []) hq.seven.big (hx _ hmem)) rfl rfl rfl rfl ⟨bK rfl (aI rfl (aI rfl (aI rfl (gJ rfl rfl (aE _) rfl (gJ rfl rfl (aG _) rfl (gJ rfl rfl (aE _) rfl aR)))))) (fR rfl rfl trivial),rfl⟩ rfl (.inr (aGi _)) (aV ⟨rfl,rfl,rfl,trivial⟩) (aEg rfl rfl rfl) (s6 (sq (sq (rT [4,6,9,17,18,19,30] (s2 (cd rfl (fun c30=> ?_) fun c30=> ?_))))))))
   · have hno: (cR q (l.getD i [])).2=false:=by simpa using c30
     rw[List.drop_eq_getElem_cons hi2,lN,show l[i]=l.getD i [] by rw[aNm,aNo hi2];rfl,hno] at hgo
     refine sq (rT [4,5] (s3 (SW.nilBox 4 920 3 52 5 rfl rfl rfl (SW.nilBox 4 921 4 162 3 rfl rfl rfl (SW.nilBox 4 922 5 52 5 rfl rfl rfl (rt ?_))))))
     have hr:cX id l=(.zero,false):=(aC hnode).trans (hgo.trans (aB (by simp)))
     rw[hr]
     refine rq [(900,920),(901,921),(902,922)] [] rfl ?_
     repeat' apply ai
     all_goals first|exact qx|exact aE _|exact aG _|exact(aE _).symm|exact(aG _).symm|rfl|(simp[aE,aG];done)|exact qz
   have hno: (cR q (l.getD i [])).2=true:=by simpa using c30
   rw[List.drop_eq_getElem_cons hi2,lN,show l[i]=l.getD i [] by rw[aNm,aNo hi2];rfl,aC hno] at hgo
   refine sk (rT [4,6,17,18,19] (s2 (rT [4,6,17,18,19] (s2 (wq [(900,910),(901,911),(902,912)] [] (⟨l.length - (i+1),by omega,i+1,(cR q (l.getD i [])).1,rfl,by omega,gq,hgo,rfl⟩) ?_)))))
   repeat' apply ai
   all_goals first|exact qx|exact aE _|exact aG _|exact(aE _).symm|exact(aG _).symm|exact aA D.i (aH (by omega))|rfl|(simp[aE,aG];done)|exact qz
 have hi3:i=l.length:=by simp at c20;omega
 subst hi3
 refine xt (sq (rT [4,5] (s3 (rt ?_))))
 have hr:cX id l=(q,true):=(aC hnode).trans (hgo.trans (by rw[List.drop_length];rfl))
 rw[hr]
 refine rq [] [] rfl ?_
 repeat' apply ai
 all_goals first|exact qx|exact aE _|exact aG _|exact(aE _).symm|exact(aG _).symm|rfl|(simp[aE,aG];done)|exact qz
theorem ky (id:Int) (s:List UInt8) (hl:s.length≤900000):Sp 77 2 [tI 0 id,tD 1 (.s s)] [tV 0 (.tup [.agg [.d (.i ((cX id (bR s).1).1).id),.d (.i ((cX id (bR s).1).1).time),.d (.i ((cX id (bR s).1).1).next),.own 900 ((cX id (bR s).1).1).held.length,.own 901 ((cX id (bR s).1).1).marks.length,.own 902 ((cX id (bR s).1).1).inbox.length],.c (.d (.b (cX id (bR s).1).2))]),oR 900 52 5 (aF ((cX id (bR s).1).1).held),oR 901 162 3 (aJ ((cX id (bR s).1).1).marks),oR 902 52 5 (aF ((cX id (bR s).1).1).inbox)]:=by
 refine sb Tryz.func77 rfl (sq (rT [0,1,4] (s2 (sq (rT [0,4,6] (s1 (xp (jS s (by omega)) (ai rfl ?_))))))))
 refine s5 (sq (rT [4,5] (s2 (dI (robj:=[]) (rl:=[]) (bor:=[]) (pv id (bR s).1 (lP s hl).1 (lP s hl).2) rfl rfl rfl rfl ⟨fR rfl rfl (fR rfl rfl trivial),rfl⟩ rfl (.inl rfl) (fun p hp=>nomatch hp) (aEg rfl rfl rfl) (s4 (rt (rq [] [] rfl ?_)))))))
 repeat' apply ai
 all_goals first|exact qx|exact aE _|exact aG _|exact(aE _).symm|exact(aG _).symm|rfl|(simp[aE,aG];done)|exact qz
theorem fa (k:aN) (hl:k.log.length≤140737488355328):Sp 27 1 [tV 0 k.V] [tV 0 (.e (.agg [.d (.i ((bS k)).id),.d (.i ((bS k)).time),.d (.i ((bS k)).next),.own 900 ((bS k)).held.length,.own 901 ((bS k)).marks.length,.own 902 ((bS k)).inbox.length])),oR 900 52 5 (aF ((bS k)).held),oR 901 162 3 (aJ ((bS k)).marks),oR 902 52 5 (aF ((bS k)).inbox)]:=by
 refine sb Tryz.func27 rfl (sq (rT [1,2] (s2 (sq (sq (rT [1,2,7] (s1 (xp (cY k hl) (ai rfl ?_)))))))))
 refine s1 (cd rfl (fun c7=> ?_) fun c7=> ?_)
 · have hno: ¬aX k=true:=by simpa using c7
   have hk:bS k= .zero:=aB hno
   refine sq (rT [2] (s2 (SW.nilBox 2 900 3 52 5 rfl rfl rfl (SW.nilBox 2 901 4 162 3 rfl rfl rfl (SW.nilBox 2 902 5 52 5 rfl rfl rfl (rt ?_))))))
   rw[hk]
   refine rq [] [] rfl ?_
   repeat' apply ai
   all_goals first|exact qx|exact aE _|exact aG _|exact(aE _).symm|exact(aG _).symm|rfl|(simp[aE,aG];done)|exact qz
 have hok:aX k=true:=by simpa using c7
 have hk:=dK hok
 have hlg:=(cJ hok).2.1
 refine sk (sq (rT [2,3] (s5 (dI (robj:=[]) (rl:=[]) (bor:=[]) (ky k.id k.log (by omega)) rfl rfl rfl rfl ⟨fR rfl rfl (fR rfl rfl trivial),rfl⟩ rfl (.inl rfl) (fun p hp=>nomatch hp) (aEg rfl rfl rfl) (s6 (sq (rT [2] (s2 (rt ?_)))))))))
 rw[hk]
 refine rq [] [] rfl ?_
 repeat' apply ai
 all_goals first|exact qx|exact aE _|exact aG _|exact(aE _).symm|exact(aG _).symm|rfl|(simp[aE,aG];done)|exact qz
end Go.Proofs.YtmabaopgkimfmaaGreatDoor
namespace Go.Ab
open Int renaming toNat_natCast→aNf
open Nat renaming le_of_ble_eq_true→aNg,zero_le→aNj,le_refl→aNp
open List renaming length_append→aNh,length_cons→aNk,length_nil→aNl,getD_eq_getElem?_getD→aNm,length_take→aNn,getElem?_eq_getElem→aNo,getElem?_eq_some_iff→aNq,mem_map→aNr,mem_cons→aNs,all_eq_true→aNt,range→aNu,length_drop→aNv
open Bool renaming and_eq_true→aNi
open Go Go.RowKit
set_option linter.unusedVariables false
set_option linter.unusedSimpArgs false
section
variable {α:Type} (f:Int→α) (n:Int)
def fO:List α→Int→List α
 | [],_=>[]
 |_::r,k=>f k::fO r (k+n)
theorem cW: ∀(l:List α) (k:Int),(fO f n l k).length=l.length
 | [],_=>rfl
 |_::r,k=>by simp[fO,cW r]
theorem zu (i:Nat):n*((i+1:Nat):Int)=n+n*i:=by
 rw[show((i+1:Nat):Int)=(i:Int)+1 by omega,Int.mul_add,Int.mul_one,Int.add_comm]
theorem bt (z:α): ∀(l:List α) (k:Int) (i:Nat),i<l.length→(fO f n l k).getD i z=f (k+n*i)
 | [],_,_,h=>absurd h (Nat.not_lt_zero _)
 |_::r,k,0,_=>by simp[fO]
 |_::r,k,i+1,h=>by
  have:=bt z r (k+n) i (by simpa using h)
  rw[zu,← Int.add_assoc]
  simpa only[fO,List.getD_cons_succ] using this
def iJ (l:List α) (k:Int) (i:Nat):List α:=fO f n (l.take i) k++l.drop i
theorem ui (l:List α) (k:Int):iJ f n l k 0=l:=by simp[iJ,fO]
theorem zw (l:List α) (k:Int):iJ f n l k l.length=fO f n l k:=by simp[iJ]
theorem tH (l:List α) (k:Int) (i:Nat): (iJ f n l k i).length=l.length:=by simp[iJ,cW];omega
theorem iv (z:α): ∀(l:List α) (k:Int) (i:Nat),i<l.length→(iJ f n l k i).getD i z=l.getD i z
 | [],_,_,h=>absurd h (Nat.not_lt_zero _)
 |h::r,k,0,_=>by simp[iJ,fO]
 |h::r,k,i+1,q=>by
  have:=iv z r (k+n) i (by simpa using q)
  simp only[iJ,List.take_succ_cons,List.drop_succ_cons,fO,List.cons_append,List.getD_cons_succ] at this ⊢
  exact this
theorem pw: ∀(l:List α) (k:Int) (i:Nat),i<l.length→(iJ f n l k i).set i (f (k+n*i))=iJ f n l k (i+1)
 | [],_,_,h=>absurd h (Nat.not_lt_zero _)
 |h::r,k,0,_=>by simp[iJ,fO]
 |h::r,k,i+1,q=>by
  have:=pw r (k+n) i (by simpa using q)
  simp only[iJ,List.take_succ_cons,List.drop_succ_cons,fO,List.cons_append,List.set_cons_succ] at this ⊢
  rw[← this,zu,Int.add_assoc]
end
theorem wm {α:Type} {row:α→List D} {M:List α} {i:Nat} (hi:i<M.length) (x:α): ((M.set i x).map row).getD i []=row x:=by
 rw[aNm,List.getElem?_map,List.getElem?_set_self hi];rfl
theorem gI {α:Type} {row:α→List D} {M:List α} {i:Nat} (hi:i<M.length) {c:Nat} {d:D} (x x':α) (e:dC (row x) c [d]=row x'): ((M.set i x).map row).set i (dC (((M.set i x).map row).getD i []) c [d])=(M.set i x').map row:=by
 rw[wm hi,e,← List.map_set,List.set_set]
theorem zx {α:Type} {row:α→List D} {M:List α} {i n:Nat} (h:M.length=n) (x:α): ((M.set i x).map row).length=n:=by
 rw[List.length_map,List.length_set];exact h
def eL (k:Int):bF:=⟨k,k+1,k+2,k+3,oF (k+4)⟩
def gV (k:Int):bZ:=⟨k,k+1,k+2⟩
end Go.Ab
namespace Go.Proofs.YtmabaopgkimfmaaGreatDoor
open Int renaming toNat_natCast→aNf
open Nat renaming le_of_ble_eq_true→aNg,zero_le→aNj,le_refl→aNp
open List renaming length_append→aNh,length_cons→aNk,length_nil→aNl,getD_eq_getElem?_getD→aNm,length_take→aNn,getElem?_eq_getElem→aNo,getElem?_eq_some_iff→aNq,mem_map→aNr,mem_cons→aNs,all_eq_true→aNt,range→aNu,length_drop→aNv
open Bool renaming and_eq_true→aNi
open Go Go.Ab Go.RowKit
set_option linter.unusedVariables false
set_option linter.unusedSimpArgs false
set_option maxRecDepth 9000
theorem fb (l:List bF) (k:Int) (hk:1≤k) (hc:k+5*(l.length:Int)≤9000000):Sp 80 2 [tO 0 0 (l.length),tI 1 k,oR 0 52 5 (aF l)] [tI 0 (k+5*(l.length:Nat)),oR 0 52 5 (aF (fO eL 5 l k))]:=by
 refine sb Tryz.func80 rfl (sq (rT [0,1] (s1 (sq (sq (rT [0,1,5] (s1 (bk (SW.loopW (n:=l.length) (fun n s=> ∃(i:Nat),n=l.length - i∧i≤l.length∧s=[tO 0 0 (l.length),tI 1 (k+5*(i:Nat)),tI 5 (i:Nat),oR 0 52 5 (aF (iJ eL 5 l k i))]) ?_ ?_)))))))))
 · refine wq (σ':=[tO 0 0 (l.length),tI 1 (k+5*(0:Nat)),tI 5 (0:Nat),oR 0 52 5 (aF (iJ eL 5 l k 0))]) [] [] (⟨0,rfl,aNj _,rfl⟩) ?_
   repeat' apply ai
   all_goals first|exact qx|rfl|(refine aA D.i ?_;omega)|(rw[ui];done)|exact qz
 rintro n s ⟨i,rfl,hi,rfl⟩
 refine sq (sq (rT [0,1,5,9] (s2 (ai (by rw[aE,tH]) (s1 (cd rfl (fun c9=> ?_) fun c9=> ?_))))))
 · have hi2:i<l.length:=by simpa using c9
   have hMl:=tH eL 5 l k i
   have hMi:i< (iJ eL 5 l k i).length:=by rw[hMl];exact hi2
   have hs0: (iJ eL 5 l k i)=(iJ eL 5 l k i).set i (l.getD i .zero):=by rw[← iv eL 5 .zero l k i hi2,nC]
   have hset: (iJ eL 5 l k i).set i (eL (k+5*(i:Int)))=iJ eL 5 l k (i+1):=pw eL 5 l k i hi2
   have hat: ∀x:bF,(aF ((iJ eL 5 l k i).set i x)).getD i []=x.row:=fun x=>wm hMi x
   have hln: ∀x:bF,(aF ((iJ eL 5 l k i).set i x)).length=l.length:=fun x=>zx hMl x
   refine sk (sq (bk (sq (wa [tO 0 0 (l.length),tI 1 ((k+5*(i:Int))),tI 5 (i:Nat),oR 0 52 5 (aF ((iJ eL 5 l k i).set i ⟨(l.getD i .zero).frm,(l.getD i .zero).num,(l.getD i .zero).to,(l.getD i .zero).til,(l.getD i .zero).text⟩))] [] [] ?_ ?_))))
   · repeat' apply ai
     all_goals first|exact qx|exact aA D.i (aH (by omega))|(refine aA D.i ?_;rw[aH (by omega)];omega)|exact aA aF hs0|omega|exact qz
   refine rT [0,1,5] (s3 (ai (by exact⟨hln _,by omega,by omega⟩) (ai (by exact hln _) (ai (by rw[aNf,hat];exact⟨hln _,by omega,rfl,aNg rfl⟩) (sq (wa [tO 0 0 (l.length),tI 1 ((k+5*(i:Int))),tI 5 (i:Nat),oR 0 52 5 (aF ((iJ eL 5 l k i).set i ⟨(k+5*(i:Int)),(l.getD i .zero).num,(l.getD i .zero).to,(l.getD i .zero).til,(l.getD i .zero).text⟩))] [] [] ?_ ?_))))))
   · repeat' apply ai
     all_goals first|exact qx|exact aA D.i (aH (by omega))|(refine aA D.i ?_;rw[aH (by omega)];omega)|exact aA aF hs0|(rw[aNf];exact gI hMi (⟨(l.getD i .zero).frm,(l.getD i .zero).num,(l.getD i .zero).to,(l.getD i .zero).til,(l.getD i .zero).text⟩:bF) ⟨(k+5*(i:Int)),(l.getD i .zero).num,(l.getD i .zero).to,(l.getD i .zero).til,(l.getD i .zero).text⟩ rfl)|omega|exact qz
   refine rT [0,1,5] (s3 (sq (wa [tO 0 0 (l.length),tI 1 ((k+5*(i:Int))+1),tI 5 (i:Nat),oR 0 52 5 (aF ((iJ eL 5 l k i).set i ⟨(k+5*(i:Int)),(l.getD i .zero).num,(l.getD i .zero).to,(l.getD i .zero).til,(l.getD i .zero).text⟩))] [] [] ?_ ?_)))
   · repeat' apply ai
     all_goals first|exact qx|exact aA D.i (aH (by omega))|(refine aA D.i ?_;rw[aH (by omega)];omega)|exact aA aF hs0|(rw[aNf];exact gI hMi (⟨(l.getD i .zero).frm,(l.getD i .zero).num,(l.getD i .zero).to,(l.getD i .zero).til,(l.getD i .zero).text⟩:bF) ⟨(k+5*(i:Int)),(l.getD i .zero).num,(l.getD i .zero).to,(l.getD i .zero).til,(l.getD i .zero).text⟩ rfl)|omega|exact qz
   refine rT [0,1,5] (s3 (ai (by exact⟨hln _,by omega,by omega⟩) (ai (by exact hln _) (ai (by rw[aNf,hat];exact⟨hln _,by omega,rfl,aNg rfl⟩) (sq (wa [tO 0 0 (l.length),tI 1 ((k+5*(i:Int))+1),tI 5 (i:Nat),oR 0 52 5 (aF ((iJ eL 5 l k i).set i ⟨(k+5*(i:Int)),(k+5*(i:Int))+1,(l.getD i .zero).to,(l.getD i .zero).til,(l.getD i .zero).text⟩))] [] [] ?_ ?_))))))
   · repeat' apply ai
     all_goals first|exact qx|exact aA D.i (aH (by omega))|(refine aA D.i ?_;rw[aH (by omega)];omega)|exact aA aF hs0|(rw[aNf];exact gI hMi (⟨(k+5*(i:Int)),(l.getD i .zero).num,(l.getD i .zero).to,(l.getD i .zero).til,(l.getD i .zero).text⟩:bF) ⟨(k+5*(i:Int)),(k+5*(i:Int))+1,(l.getD i .zero).to,(l.getD i .zero).til,(l.getD i .zero).text⟩ rfl)|omega|exact qz
   refine rT [0,1,5] (s3 (sq (wa [tO 0 0 (l.length),tI 1 ((k+5*(i:Int))+2),tI 5 (i:Nat),oR 0 52 5 (aF ((iJ eL 5 l k i).set i ⟨(k+5*(i:Int)),(k+5*(i:Int))+1,(l.getD i .zero).to,(l.getD i .zero).til,(l.getD i .zero).text⟩))] [] [] ?_ ?_)))
   · repeat' apply ai
     all_goals first|exact qx|exact aA D.i (aH (by omega))|(refine aA D.i ?_;rw[aH (by omega)];omega)|exact aA aF hs0|(rw[aNf];exact gI hMi (⟨(k+5*(i:Int)),(l.getD i .zero).num,(l.getD i .zero).to,(l.getD i .zero).til,(l.getD i .zero).text⟩:bF) ⟨(k+5*(i:Int)),(k+5*(i:Int))+1,(l.getD i .zero).to,(l.getD i .zero).til,(l.getD i .zero).text⟩ rfl)|omega|exact qz
   refine rT [0,1,5] (s3 (ai (by exact⟨hln _,by omega,by omega⟩) (ai (by exact hln _) (ai (by rw[aNf,hat];exact⟨hln _,by omega,rfl,aNg rfl⟩) (sq (wa [tO 0 0 (l.length),tI 1 ((k+5*(i:Int))+2),tI 5 (i:Nat),oR 0 52 5 (aF ((iJ eL 5 l k i).set i ⟨(k+5*(i:Int)),(k+5*(i:Int))+1,(k+5*(i:Int))+2,(l.getD i .zero).til,(l.getD i .zero).text⟩))] [] [] ?_ ?_))))))
   · repeat' apply ai
     all_goals first|exact qx|exact aA D.i (aH (by omega))|(refine aA D.i ?_;rw[aH (by omega)];omega)|exact aA aF hs0|(rw[aNf];exact gI hMi (⟨(k+5*(i:Int)),(k+5*(i:Int))+1,(l.getD i .zero).to,(l.getD i .zero).til,(l.getD i .zero).text⟩:bF) ⟨(k+5*(i:Int)),(k+5*(i:Int))+1,(k+5*(i:Int))+2,(l.getD i .zero).til,(l.getD i .zero).text⟩ rfl)|omega|exact qz
   refine rT [0,1,5] (s3 (sq (wa [tO 0 0 (l.length),tI 1 ((k+5*(i:Int))+3),tI 5 (i:Nat),oR 0 52 5 (aF ((iJ eL 5 l k i).set i ⟨(k+5*(i:Int)),(k+5*(i:Int))+1,(k+5*(i:Int))+2,(l.getD i .zero).til,(l.getD i .zero).text⟩))] [] [] ?_ ?_)))
   · repeat' apply ai
     all_goals first|exact qx|exact aA D.i (aH (by omega))|(refine aA D.i ?_;rw[aH (by omega)];omega)|exact aA aF hs0|(rw[aNf];exact gI hMi (⟨(k+5*(i:Int)),(k+5*(i:Int))+1,(l.getD i .zero).to,(l.getD i .zero).til,(l.getD i .zero).text⟩:bF) ⟨(k+5*(i:Int)),(k+5*(i:Int))+1,(k+5*(i:Int))+2,(l.getD i .zero).til,(l.getD i .zero).text⟩ rfl)|omega|exact qz
   refine rT [0,1,5] (s3 (ai (by exact⟨hln _,by omega,by omega⟩) (ai (by exact hln _) (ai (by rw[aNf,hat];exact⟨hln _,by omega,rfl,aNg rfl⟩) (sq (wa [tO 0 0 (l.length),tI 1 ((k+5*(i:Int))+3),tI 5 (i:Nat),oR 0 52 5 (aF ((iJ eL 5 l k i).set i ⟨(k+5*(i:Int)),(k+5*(i:Int))+1,(k+5*(i:Int))+2,(k+5*(i:Int))+3,(l.getD i .zero).text⟩))] [] [] ?_ ?_))))))
   · repeat' apply ai
     all_goals first|exact qx|exact aA D.i (aH (by omega))|(refine aA D.i ?_;rw[aH (by omega)];omega)|exact aA aF hs0|(rw[aNf];exact gI hMi (⟨(k+5*(i:Int)),(k+5*(i:Int))+1,(k+5*(i:Int))+2,(l.getD i .zero).til,(l.getD i .zero).text⟩:bF) ⟨(k+5*(i:Int)),(k+5*(i:Int))+1,(k+5*(i:Int))+2,(k+5*(i:Int))+3,(l.getD i .zero).text⟩ rfl)|omega|exact qz
   refine rT [0,1,5] (s3 (sq (wa [tO 0 0 (l.length),tI 1 ((k+5*(i:Int))+4),tI 5 (i:Nat),oR 0 52 5 (aF ((iJ eL 5 l k i).set i ⟨(k+5*(i:Int)),(k+5*(i:Int))+1,(k+5*(i:Int))+2,(k+5*(i:Int))+3,(l.getD i .zero).text⟩))] [] [] ?_ ?_)))
   · repeat' apply ai
     all_goals first|exact qx|exact aA D.i (aH (by omega))|(refine aA D.i ?_;rw[aH (by omega)];omega)|exact aA aF hs0|(rw[aNf];exact gI hMi (⟨(k+5*(i:Int)),(k+5*(i:Int))+1,(k+5*(i:Int))+2,(l.getD i .zero).til,(l.getD i .zero).text⟩:bF) ⟨(k+5*(i:Int)),(k+5*(i:Int))+1,(k+5*(i:Int))+2,(k+5*(i:Int))+3,(l.getD i .zero).text⟩ rfl)|omega|exact qz
   refine rT [0,1,5] (s3 (xp (tG _ (by omega)) (ai rfl ?_)))
   refine ai (by exact⟨hln _,by omega,by omega⟩) (ai (by exact hln _) (ai (by rw[aNf,hat];exact⟨hln _,by omega,rfl,aNg rfl⟩) (wa [tO 0 0 (l.length),tI 1 ((k+5*(i:Int))+4),tI 5 (i:Nat),oR 0 52 5 (aF ((iJ eL 5 l k i).set i ⟨(k+5*(i:Int)),(k+5*(i:Int))+1,(k+5*(i:Int))+2,(k+5*(i:Int))+3,oF ((k+5*(i:Int))+4)⟩))] [] [] ?_ ?_)))
   · repeat' apply ai
     all_goals first|exact qx|exact aA D.i (aH (by omega))|(refine aA D.i ?_;rw[aH (by omega)];omega)|exact aA aF hs0|(rw[aNf];exact gI hMi (⟨(k+5*(i:Int)),(k+5*(i:Int))+1,(k+5*(i:Int))+2,(k+5*(i:Int))+3,(l.getD i .zero).text⟩:bF) ⟨(k+5*(i:Int)),(k+5*(i:Int))+1,(k+5*(i:Int))+2,(k+5*(i:Int))+3,oF ((k+5*(i:Int))+4)⟩ rfl)|omega|exact qz
   refine rT [0,1,5] (s3 (wa [tO 0 0 (l.length),tI 1 ((k+5*(i:Int))+5),tI 5 (i:Nat),oR 0 52 5 (aF (iJ eL 5 l k (i+1)))] [] [] ?_ ?_))
   · repeat' apply ai
     all_goals first|exact qx|exact aA D.i (aH (by omega))|(refine aA D.i ?_;rw[aH (by omega)];omega)|exact aA aF hset|exact qz
   refine rT [0,1,5] (s3 (wq [] [] (⟨l.length - (i+1),by omega,i+1,rfl,by omega,rfl⟩) ?_))
   repeat' apply ai
   all_goals first|exact qx|exact aA D.i (aH (by omega))|(refine aA D.i ?_;(try rw[aH (by omega)]);omega)|exact qz
 refine xt (sq (rT [4] (s2 (rt ?_))))
 have e:i=l.length:=by simp at c9;omega
 subst e
 refine rq [] [] rfl ?_
 repeat' apply ai
 all_goals try exact qx
 all_goals first|with_reducible rfl|(rw[zw];done)|(simp;done)
theorem fd (l:List bF) (k:Int) (hk:1≤k) (hc:k+5*(l.length:Int)≤9000000):Sp 82 2 [tD 0 (.sl (aF (fO eL 5 l k))),tI 1 k] [tI 0 (k+5*(l.length:Nat))]:=by
 refine sb Tryz.func82 rfl (sq (rT [0,1] (s1 (sq (sq (rT [0,1,5] (s1 (bk (SW.loopW (n:=l.length) (fun n s=> ∃(i:Nat),n=l.length - i∧i≤l.length∧s=[tD 0 (.sl (aF (fO eL 5 l k))),tI 1 (k+5*(i:Nat)),tI 5 (i:Nat)]) ?_ ?_)))))))))
 · refine wq (σ':=[tD 0 (.sl (aF (fO eL 5 l k))),tI 1 (k+5*(0:Nat)),tI 5 (0:Nat)]) [] [] (⟨0,rfl,aNj _,rfl⟩) ?_
   repeat' apply ai
   all_goals first|exact qx|rfl|(refine aA D.i ?_;omega)|exact qz
 rintro n s ⟨i,rfl,hi,rfl⟩
 refine sq (sq (rT [0,1,5,9] (s4 (cd rfl (fun c9=> ?_) fun c9=> ?_))))
 · have hi2:i<l.length:=by simpa[aE,cW] using c9
   have hgg: (aF (fO eL 5 l k)).getD i []=bF.row (eL (k+5*(i:Int))):=by rw[aS (by rw[cW];exact hi2),bt eL 5 .zero l k i hi2]
   refine sk (sq (bk (sq (sq (rT [0,1,5,18] (s2 (ai (by rw[aNf,hgg];exact⟨⟨by omega,by rw[aE,cW];omega⟩,rfl⟩) (s1 (ai (by rw[aNf,hgg];exact⟨aNg rfl,rfl⟩) (s2 (cd rfl (fun c18=> ?_) fun c18=> ?_)))))))))))
   · rw[aNf,hgg] at c18
     simp[gc,wt,bF.row,eL] at c18
   refine sk (sq (rT [0,1,5] (s3 (sq (sq (wa [tD 0 (.sl (aF (fO eL 5 l k))),tI 1 ((k+5*(i:Int))+1),tI 5 (i:Nat)] [] [] ?_ ?_))))))
   · repeat' apply ai
     all_goals first|exact qx|exact aA D.i (aH (by omega))|(refine aA D.i ?_;(try rw[aH (by omega)]);omega)|exact qz
   refine rT [0,1,5,27] (s2 (ai (by rw[aNf,hgg];exact⟨⟨by omega,by rw[aE,cW];omega⟩,rfl⟩) (s1 (ai (by rw[aNf,hgg];exact⟨aNg rfl,rfl⟩) (s2 (cd rfl (fun c27=> ?_) fun c27=> ?_))))))
   · rw[aNf,hgg] at c27
     simp[gc,wt,bF.row,eL] at c27
   refine sk (sq (rT [0,1,5] (s3 (sq (sq (wa [tD 0 (.sl (aF (fO eL 5 l k))),tI 1 ((k+5*(i:Int))+2),tI 5 (i:Nat)] [] [] ?_ ?_))))))
   · repeat' apply ai
     all_goals first|exact qx|exact aA D.i (aH (by omega))|(refine aA D.i ?_;(try rw[aH (by omega)]);omega)|exact qz
   refine rT [0,1,5,36] (s2 (ai (by rw[aNf,hgg];exact⟨⟨by omega,by rw[aE,cW];omega⟩,rfl⟩) (s1 (ai (by rw[aNf,hgg];exact⟨aNg rfl,rfl⟩) (s2 (cd rfl (fun c36=> ?_) fun c36=> ?_))))))
   · rw[aNf,hgg] at c36
     simp[gc,wt,bF.row,eL] at c36
   refine sk (sq (rT [0,1,5] (s3 (sq (sq (wa [tD 0 (.sl (aF (fO eL 5 l k))),tI 1 ((k+5*(i:Int))+3),tI 5 (i:Nat)] [] [] ?_ ?_))))))
   · repeat' apply ai
     all_goals first|exact qx|exact aA D.i (aH (by omega))|(refine aA D.i ?_;(try rw[aH (by omega)]);omega)|exact qz
   refine rT [0,1,5,45] (s2 (ai (by rw[aNf,hgg];exact⟨⟨by omega,by rw[aE,cW];omega⟩,rfl⟩) (s1 (ai (by rw[aNf,hgg];exact⟨aNg rfl,rfl⟩) (s2 (cd rfl (fun c45=> ?_) fun c45=> ?_))))))
   · rw[aNf,hgg] at c45
     simp[gc,wt,bF.row,eL] at c45
   refine sk (sq (rT [0,1,5] (s3 (sq (sq (wa [tD 0 (.sl (aF (fO eL 5 l k))),tI 1 ((k+5*(i:Int))+4),tI 5 (i:Nat)] [] [] ?_ ?_))))))
   · repeat' apply ai
     all_goals first|exact qx|exact aA D.i (aH (by omega))|(refine aA D.i ?_;(try rw[aH (by omega)]);omega)|exact qz
   refine rD [0,1,5,55] (s2 (ai (by rw[aNf,hgg];exact⟨⟨by omega,by rw[aE,cW];omega⟩,rfl⟩) (s1 (ai (by rw[aNf,hgg];exact⟨aNg rfl,rfl⟩) (s1 (xp (tG _ (by omega)) (ai rfl ?_)))))))
   refine s1 (ai (by kernel_rfl) (cd rfl (fun c55=> ?_) fun c55=> ?_))
   · rw[aNf,hgg] at c55
     simp[gc,wt,bF.row,eL] at c55
   refine sk (rT [0,1,5] (s3 (wa [tD 0 (.sl (aF (fO eL 5 l k))),tI 1 ((k+5*(i:Int))+5),tI 5 (i:Nat)] [] [] ?_ ?_)))
   · repeat' apply ai
     all_goals first|exact qx|exact aA D.i (aH (by omega))|(refine aA D.i ?_;(try rw[aH (by omega)]);omega)|exact qz
   refine rT [0,1,5] (s3 (wq [] [] (⟨l.length - (i+1),by omega,i+1,rfl,by omega,rfl⟩) ?_))
   repeat' apply ai
   all_goals first|exact qx|exact aA D.i (aH (by omega))|(refine aA D.i ?_;(try rw[aH (by omega)]);omega)|exact qz
 have hi3:i=l.length:=by simp[aE,cW] at c9;omega
 refine xt (sq (rT [4] (s2 (rt (aT rfl (aA D.i ?_))))))
 rw[hi3]
theorem wn (l:List bZ) (k:Int) (hk:1≤k) (hc:k+3*(l.length:Int)≤9000000):Sp 81 2 [tO 0 0 (l.length),tI 1 k,oR 0 162 3 (aJ l)] [tI 0 (k+3*(l.length:Nat)),oR 0 162 3 (aJ (fO gV 3 l k))]:=by
 refine sb Tryz.func81 rfl (sq (rT [0,1] (s1 (sq (sq (rT [0,1,5] (s1 (bk (SW.loopW (n:=l.length) (fun n s=> ∃(i:Nat),n=l.length - i∧i≤l.length∧s=[tO 0 0 (l.length),tI 1 (k+3*(i:Nat)),tI 5 (i:Nat),oR 0 162 3 (aJ (iJ gV 3 l k i))]) ?_ ?_)))))))))
 · refine wq (σ':=[tO 0 0 (l.length),tI 1 (k+3*(0:Nat)),tI 5 (0:Nat),oR 0 162 3 (aJ (iJ gV 3 l k 0))]) [] [] (⟨0,rfl,aNj _,rfl⟩) ?_
   repeat' apply ai
   all_goals first|exact qx|rfl|(refine aA D.i ?_;omega)|(rw[ui];done)|exact qz
 rintro n s ⟨i,rfl,hi,rfl⟩
 refine sq (sq (rT [0,1,5,9] (s2 (ai (by rw[aG,tH]) (s1 (cd rfl (fun c9=> ?_) fun c9=> ?_))))))
 · have hi2:i<l.length:=by simpa using c9
   have hMl:=tH gV 3 l k i
   have hMi:i< (iJ gV 3 l k i).length:=by rw[hMl];exact hi2
   have hs0: (iJ gV 3 l k i)=(iJ gV 3 l k i).set i (l.getD i .zero):=by rw[← iv gV 3 .zero l k i hi2,nC]
   have hset: (iJ gV 3 l k i).set i (gV (k+3*(i:Int)))=iJ gV 3 l k (i+1):=pw gV 3 l k i hi2
   have hat: ∀x:bZ,(aJ ((iJ gV 3 l k i).set i x)).getD i []=x.row:=fun x=>wm hMi x
   have hln: ∀x:bZ,(aJ ((iJ gV 3 l k i).set i x)).length=l.length:=fun x=>zx hMl x
   refine sk (sq (bk (sq (wa [tO 0 0 (l.length),tI 1 ((k+3*(i:Int))),tI 5 (i:Nat),oR 0 162 3 (aJ ((iJ gV 3 l k i).set i ⟨(l.getD i .zero).frm,(l.getD i .zero).num,(l.getD i .zero).til⟩))] [] [] ?_ ?_))))
   · repeat' apply ai
     all_goals first|exact qx|exact aA D.i (aH (by omega))|(refine aA D.i ?_;rw[aH (by omega)];omega)|exact aA aJ hs0|omega|exact qz
   refine rT [0,1,5] (s3 (ai (by exact⟨hln _,by omega,by omega⟩) (ai (by exact hln _) (ai (by rw[aNf,hat];exact⟨hln _,by omega,rfl,aNg rfl⟩) (sq (wa [tO 0 0 (l.length),tI 1 ((k+3*(i:Int))),tI 5 (i:Nat),oR 0 162 3 (aJ ((iJ gV 3 l k i).set i ⟨(k+3*(i:Int)),(l.getD i .zero).num,(l.getD i .zero).til⟩))] [] [] ?_ ?_))))))
   · repeat' apply ai
     all_goals first|exact qx|exact aA D.i (aH (by omega))|(refine aA D.i ?_;rw[aH (by omega)];omega)|exact aA aJ hs0|(rw[aNf];exact gI hMi (⟨(l.getD i .zero).frm,(l.getD i .zero).num,(l.getD i .zero).til⟩:bZ) ⟨(k+3*(i:Int)),(l.getD i .zero).num,(l.getD i .zero).til⟩ rfl)|omega|exact qz
   refine rT [0,1,5] (s3 (sq (wa [tO 0 0 (l.length),tI 1 ((k+3*(i:Int))+1),tI 5 (i:Nat),oR 0 162 3 (aJ ((iJ gV 3 l k i).set i ⟨(k+3*(i:Int)),(l.getD i .zero).num,(l.getD i .zero).til⟩))] [] [] ?_ ?_)))
   · repeat' apply ai
     all_goals first|exact qx|exact aA D.i (aH (by omega))|(refine aA D.i ?_;rw[aH (by omega)];omega)|exact aA aJ hs0|(rw[aNf];exact gI hMi (⟨(l.getD i .zero).frm,(l.getD i .zero).num,(l.getD i .zero).til⟩:bZ) ⟨(k+3*(i:Int)),(l.getD i .zero).num,(l.getD i .zero).til⟩ rfl)|omega|exact qz
   refine rT [0,1,5] (s3 (ai (by exact⟨hln _,by omega,by omega⟩) (ai (by exact hln _) (ai (by rw[aNf,hat];exact⟨hln _,by omega,rfl,aNg rfl⟩) (sq (wa [tO 0 0 (l.length),tI 1 ((k+3*(i:Int))+1),tI 5 (i:Nat),oR 0 162 3 (aJ ((iJ gV 3 l k i).set i ⟨(k+3*(i:Int)),(k+3*(i:Int))+1,(l.getD i .zero).til⟩))] [] [] ?_ ?_))))))
   · repeat' apply ai
     all_goals first|exact qx|exact aA D.i (aH (by omega))|(refine aA D.i ?_;rw[aH (by omega)];omega)|exact aA aJ hs0|(rw[aNf];exact gI hMi (⟨(k+3*(i:Int)),(l.getD i .zero).num,(l.getD i .zero).til⟩:bZ) ⟨(k+3*(i:Int)),(k+3*(i:Int))+1,(l.getD i .zero).til⟩ rfl)|omega|exact qz
   refine rT [0,1,5] (s3 (sq (wa [tO 0 0 (l.length),tI 1 ((k+3*(i:Int))+2),tI 5 (i:Nat),oR 0 162 3 (aJ ((iJ gV 3 l k i).set i ⟨(k+3*(i:Int)),(k+3*(i:Int))+1,(l.getD i .zero).til⟩))] [] [] ?_ ?_)))
   · repeat' apply ai
     all_goals first|exact qx|exact aA D.i (aH (by omega))|(refine aA D.i ?_;rw[aH (by omega)];omega)|exact aA aJ hs0|(rw[aNf];exact gI hMi (⟨(k+3*(i:Int)),(l.getD i .zero).num,(l.getD i .zero).til⟩:bZ) ⟨(k+3*(i:Int)),(k+3*(i:Int))+1,(l.getD i .zero).til⟩ rfl)|omega|exact qz
   refine rT [0,1,5] (s3 (ai (by exact⟨hln _,by omega,by omega⟩) (ai (by exact hln _) (ai (by rw[aNf,hat];exact⟨hln _,by omega,rfl,aNg rfl⟩) (wa [tO 0 0 (l.length),tI 1 ((k+3*(i:Int))+2),tI 5 (i:Nat),oR 0 162 3 (aJ ((iJ gV 3 l k i).set i ⟨(k+3*(i:Int)),(k+3*(i:Int))+1,(k+3*(i:Int))+2⟩))] [] [] ?_ ?_)))))
   · repeat' apply ai
     all_goals first|exact qx|exact aA D.i (aH (by omega))|(refine aA D.i ?_;rw[aH (by omega)];omega)|exact aA aJ hs0|(rw[aNf];exact gI hMi (⟨(k+3*(i:Int)),(k+3*(i:Int))+1,(l.getD i .zero).til⟩:bZ) ⟨(k+3*(i:Int)),(k+3*(i:Int))+1,(k+3*(i:Int))+2⟩ rfl)|omega|exact qz
   refine rT [0,1,5] (s3 (wa [tO 0 0 (l.length),tI 1 ((k+3*(i:Int))+3),tI 5 (i:Nat),oR 0 162 3 (aJ (iJ gV 3 l k (i+1)))] [] [] ?_ ?_))
   · repeat' apply ai
     all_goals first|exact qx|exact aA D.i (aH (by omega))|(refine aA D.i ?_;rw[aH (by omega)];omega)|exact aA aJ hset|exact qz
   refine rT [0,1,5] (s3 (wq [] [] (⟨l.length - (i+1),by omega,i+1,rfl,by omega,rfl⟩) ?_))
   repeat' apply ai
   all_goals first|exact qx|exact aA D.i (aH (by omega))|(refine aA D.i ?_;(try rw[aH (by omega)]);omega)|exact qz
 refine xt (sq (rT [4] (s2 (rt ?_))))
 have e:i=l.length:=by simp at c9;omega
 subst e
 refine rq [] [] rfl ?_
 repeat' apply ai
 all_goals try exact qx
 all_goals first|with_reducible rfl|(rw[zw];done)|(simp;done)
theorem wo (l:List bZ) (k:Int) (hk:1≤k) (hc:k+3*(l.length:Int)≤9000000):Sp 83 2 [tD 0 (.sl (aJ (fO gV 3 l k))),tI 1 k] [tI 0 (k+3*(l.length:Nat))]:=by
 refine sb Tryz.func83 rfl (sq (rT [0,1] (s1 (sq (sq (rT [0,1,5] (s1 (bk (SW.loopW (n:=l.length) (fun n s=> ∃(i:Nat),n=l.length - i∧i≤l.length∧s=[tD 0 (.sl (aJ (fO gV 3 l k))),tI 1 (k+3*(i:Nat)),tI 5 (i:Nat)]) ?_ ?_)))))))))
 · refine wq (σ':=[tD 0 (.sl (aJ (fO gV 3 l k))),tI 1 (k+3*(0:Nat)),tI 5 (0:Nat)]) [] [] (⟨0,rfl,aNj _,rfl⟩) ?_
   repeat' apply ai
   all_goals first|exact qx|rfl|(refine aA D.i ?_;omega)|exact qz
 rintro n s ⟨i,rfl,hi,rfl⟩
 refine sq (sq (rT [0,1,5,9] (s4 (cd rfl (fun c9=> ?_) fun c9=> ?_))))
 · have hi2:i<l.length:=by simpa[aG,cW] using c9
   have hgg: (aJ (fO gV 3 l k)).getD i []=bZ.row (gV (k+3*(i:Int))):=by rw[bP (by rw[cW];exact hi2),bt gV 3 .zero l k i hi2]
   refine sk (sq (bk (sq (sq (rT [0,1,5,18] (s2 (ai (by rw[aNf,hgg];exact⟨⟨by omega,by rw[aG,cW];omega⟩,rfl⟩) (s1 (ai (by rw[aNf,hgg];exact⟨aNg rfl,rfl⟩) (s2 (cd rfl (fun c18=> ?_) fun c18=> ?_)))))))))))
   · rw[aNf,hgg] at c18
     simp[gc,wt,bZ.row,gV] at c18
   refine sk (sq (rT [0,1,5] (s3 (sq (sq (wa [tD 0 (.sl (aJ (fO gV 3 l k))),tI 1 ((k+3*(i:Int))+1),tI 5 (i:Nat)] [] [] ?_ ?_))))))
   · repeat' apply ai
     all_goals first|exact qx|exact aA D.i (aH (by omega))|(refine aA D.i ?_;(try rw[aH (by omega)]);omega)|exact qz
   refine rT [0,1,5,27] (s2 (ai (by rw[aNf,hgg];exact⟨⟨by omega,by rw[aG,cW];omega⟩,rfl⟩) (s1 (ai (by rw[aNf,hgg];exact⟨aNg rfl,rfl⟩) (s2 (cd rfl (fun c27=> ?_) fun c27=> ?_))))))
   · rw[aNf,hgg] at c27
     simp[gc,wt,bZ.row,gV] at c27
   refine sk (sq (rT [0,1,5] (s3 (sq (sq (wa [tD 0 (.sl (aJ (fO gV 3 l k))),tI 1 ((k+3*(i:Int))+2),tI 5 (i:Nat)] [] [] ?_ ?_))))))
   · repeat' apply ai
     all_goals first|exact qx|exact aA D.i (aH (by omega))|(refine aA D.i ?_;(try rw[aH (by omega)]);omega)|exact qz
   refine rT [0,1,5,36] (s2 (ai (by rw[aNf,hgg];exact⟨⟨by omega,by rw[aG,cW];omega⟩,rfl⟩) (s1 (ai (by rw[aNf,hgg];exact⟨aNg rfl,rfl⟩) (s2 (cd rfl (fun c36=> ?_) fun c36=> ?_))))))
   · rw[aNf,hgg] at c36
     simp[gc,wt,bZ.row,gV] at c36
   refine sk (rT [0,1,5] (s3 (wa [tD 0 (.sl (aJ (fO gV 3 l k))),tI 1 ((k+3*(i:Int))+3),tI 5 (i:Nat)] [] [] ?_ ?_)))
   · repeat' apply ai
     all_goals first|exact qx|exact aA D.i (aH (by omega))|(refine aA D.i ?_;(try rw[aH (by omega)]);omega)|exact qz
   refine rT [0,1,5] (s3 (wq [] [] (⟨l.length - (i+1),by omega,i+1,rfl,by omega,rfl⟩) ?_))
   repeat' apply ai
   all_goals first|exact qx|exact aA D.i (aH (by omega))|(refine aA D.i ?_;(try rw[aH (by omega)]);omega)|exact qz
 have hi3:i=l.length:=by simp[aG,cW] at c9;omega
 refine xt (sq (rT [4] (s2 (rt (aT rfl (aA D.i ?_))))))
 rw[hi3]
theorem rv (a b:bZ):Sp 142 2 [tV 0 a.V,tV 1 b.V] [tB 0 (decide (a=b))]:=by
 refine sb Tryz.func142 rfl (sq (rT [2,3] (s3 (sq (sq (rT [2,3,9] (s5 (cd rfl (fun c9=> ?_) fun c9=> ?_))))))))
 · refine sq (rT [4] (s1 (rt (aT rfl (aA D.b ?_)))))
   cases a;cases b;simp_all
 refine sk (sq (sq (rT [2,3,14] (s5 (cd rfl (fun c14=> ?_) fun c14=> ?_)))))
 · refine sq (rT [4] (s1 (rt (aT rfl (aA D.b ?_)))))
   cases a;cases b;simp_all
 refine sk (sq (sq (rT [19] (s5 (cd rfl (fun c19=> ?_) fun c19=> ?_)))))
 · refine sq (rT [4] (s1 (rt (aT rfl (aA D.b ?_)))))
   cases a;cases b;simp_all
 refine sk (sq (rT [4] (s1 (rt (aT rfl (aA D.b ?_))))))
 cases a;cases b;simp_all
theorem px (a b:List bZ) (hg:a.length*24≤140737488355328):Sp 79 2 [tD 0 (.sl (aJ a)),tD 1 (.sl (aJ b))] [tB 0 (decide (a=b))]:=by
 refine sb Tryz.func79 rfl (sq (rT [0,1] (s1 (sq (sq (rT [0,1,10] (s5 (cd rfl (fun c10=> ?_) fun c10=> ?_))))))))
 · refine sq (rT [4] (s1 (rt (aT rfl (aA D.b ?_)))))
   symm
   apply decide_eq_false
   intro e
   rw[e] at c10
   simp at c10
 have hlen:a.length=b.length:=by simp[aG] at c10;omega
 refine sk (sq (sq (rT [0,1,5] (s1 (bk (SW.loopW (n:=a.length) (fun m q=> ∃i:Nat,m=a.length - i∧i≤a.length∧(∀j,j<i→a.getD j .zero=b.getD j .zero)∧q=[tD 0 (.sl (aJ a)),tD 1 (.sl (aJ b)),tI 5 (i:Nat)]) ?_ ?_))))))
 · exact wq (σ':=[tD 0 (.sl (aJ a)),tD 1 (.sl (aJ b)),tI 5 (0:Nat)]) [] [] (⟨0,rfl,aNj _,fun j h=>absurd h (by omega),rfl⟩) qz
 rintro n s ⟨i,rfl,hi,hk,rfl⟩
 refine sq (sq (rT [0,1,5,14] (s4 (cd rfl (fun c14=> ?_) fun c14=> ?_))))
 · have hi2:i<a.length:=by simpa[aG] using c14
   have hga:=bP (l:=a) hi2
   have hgb:=bP (l:=b) (i:=i) (by omega)
   refine sk (sq (bk (sq (rD [0,1,5,26] (s2 (ai (by rw[aNf,hga];exact⟨⟨by omega,by rw[aG];omega⟩,rfl⟩) (ai (by rw[aNf,hga];exact⟨aNg rfl,rfl⟩) (s2 (ai (by rw[aNf,hgb];exact⟨⟨by omega,by rw[aG];omega⟩,rfl⟩) (ai (by rw[aNf,hgb];exact⟨aNg rfl,rfl⟩) (xp (rv (a.getD i .zero) (b.getD i .zero)) (ai (by rw[aNf,hga,hgb];rfl) ?_))))))))))))
   refine s1 (ai (by kernel_rfl) (cd rfl (fun c26=> ?_) fun c26=> ?_))
   · refine sq (rT [4] (s1 (rt (aT rfl (aA D.b ?_)))))
     exact(decide_eq_false (wH (z:=bZ.zero) (j:=i) (by simpa using c26))).symm
   refine sk (rT [0,1,5] (s3 ?_))
   have hs:a.getD i .zero=b.getD i .zero:=by simpa using c26
   refine wq [] [] (⟨a.length - (i+1),by omega,i+1,rfl,by omega,fun j h=>by by_cases e:j=i;exact e▸hs;exact hk j (by omega),rfl⟩) ?_
   repeat' apply ai
   all_goals first|exact qx|exact aA D.i (aH (by omega))|exact qz
 have hi3:i=a.length:=by simp[aG] at c14;omega
 refine xt (sq (rT [4] (s1 (rt (aT rfl (aA D.b ?_))))))
 subst hi3
 exact(decide_eq_true (wG (z:=bZ.zero) hlen hk)).symm
theorem uH (a b:bH) (ha:a.held.length≤1000000∧a.marks.length≤1000000∧a.inbox.length≤1000000):Sp 28 2 [tV 0 a.V,tV 1 b.V] [tB 0 (decide (a=b))]:=by
 refine sb Tryz.func28 rfl (sq (rT [2,3] (s3 (sq (sq (rT [2,3,9] (s5 (cd rfl (fun c9=> ?_) fun c9=> ?_))))))))
 · refine sq (rT [4] (s1 (rt (aT rfl (aA D.b ?_)))))
   cases a;cases b;first|(simp_all;done)|(simp_all;grind)
 refine sk (sq (sq (rT [2,3,14] (s5 (cd rfl (fun c14=> ?_) fun c14=> ?_)))))
 · refine sq (rT [4] (s1 (rt (aT rfl (aA D.b ?_)))))
   cases a;cases b;first|(simp_all;done)|(simp_all;grind)
 refine sk (sq (sq (rT [2,3,19] (s5 (cd rfl (fun c19=> ?_) fun c19=> ?_)))))
 · refine sq (rT [4] (s1 (rt (aT rfl (aA D.b ?_)))))
   cases a;cases b;first|(simp_all;done)|(simp_all;grind)
 refine sk (sq (sq (rT [2,3,25] (s4 (xp (yW a.held b.held (by omega)) (ai rfl ?_))))))
 refine s1 (cd rfl (fun c25=> ?_) fun c25=> ?_)
 · refine sq (rT [4] (s1 (rt (aT rfl (aA D.b ?_)))))
   cases a;cases b;first|(simp_all;done)|(simp_all;grind)
 refine sk (sq (sq (rT [2,3,31] (s4 (xp (px a.marks b.marks (by omega)) (ai rfl ?_))))))
 refine s1 (cd rfl (fun c31=> ?_) fun c31=> ?_)
 · refine sq (rT [4] (s1 (rt (aT rfl (aA D.b ?_)))))
   cases a;cases b;first|(simp_all;done)|(simp_all;grind)
 refine sk (sq (sq (rT [37] (s4 (xp (yW a.inbox b.inbox (by omega)) (ai rfl ?_))))))
 refine s1 (cd rfl (fun c37=> ?_) fun c37=> ?_)
 · refine sq (rT [4] (s1 (rt (aT rfl (aA D.b ?_)))))
   cases a;cases b;first|(simp_all;done)|(simp_all;grind)
 refine sk (sq (rT [4] (s1 (rt (aT rfl (aA D.b ?_))))))
 cases a;cases b;first|(simp_all;done)|(simp_all;grind)
theorem zy (k:bH) (m:Int) (hm:1≤m) (hc:m+5*(k.held.length:Nat)+3*(k.marks.length:Nat)+5*(k.inbox.length:Nat)≤9000000):Sp 29 2 [tV 0 (.e (.agg [.d (.i (k).id),.d (.i (k).time),.d (.i (k).next),.own 900 (k).held.length,.own 901 (k).marks.length,.own 902 (k).inbox.length])),tI 1 m,oR 900 52 5 (aF (k).held),oR 901 162 3 (aJ (k).marks),oR 902 52 5 (aF (k).inbox)] [tI 0 ((m+5*(k.held.length:Nat)+3*(k.marks.length:Nat))+5*(k.inbox.length:Nat)),oR 900 52 5 (aF (fO eL 5 k.held m)),oR 901 162 3 (aJ (fO gV 3 k.marks (m+5*(k.held.length:Nat)))),oR 902 52 5 (aF (fO eL 5 k.inbox (m+5*(k.held.length:Nat)+3*(k.marks.length:Nat))))]:=by
 refine sb Tryz.func29 rfl (sq (rT [1,2] (s2 (sq (rT [1,2] (s3 (dI (robj:=[(900,.row 52 5 (aF k.held))]) (rl:=[(0,900)]) (bor:=[]) (fb k.held m (by omega) (by omega)) rfl rfl rfl rfl ⟨gh rfl rfl rfl rfl (fR rfl rfl (dV rfl rfl trivial)),rfl⟩ rfl (.inl rfl) (aV ⟨rfl,trivial⟩) (fun _ hj=>nomatch hj) (s1 (sq (rT [1,2] (s3 (dI (robj:=[(901,.row 162 3 (aJ k.marks))]) (rl:=[(0,901)]) (bor:=[]) (wn k.marks (m+5*(k.held.length:Nat)) (by omega) (by omega)) rfl rfl rfl rfl ⟨gh rfl rfl rfl rfl (fR rfl rfl (dV rfl rfl trivial)),rfl⟩ rfl (.inl rfl) (aV ⟨rfl,trivial⟩) (fun _ hj=>nomatch hj) (s1 (sq (rT [1] (s3 (dI (robj:=[(902,.row 52 5 (aF k.inbox))]) (rl:=[(0,902)]) (bor:=[]) (fb k.inbox (m+5*(k.held.length:Nat)+3*(k.marks.length:Nat)) (by omega) (by omega)) rfl rfl rfl rfl ⟨gh rfl rfl rfl rfl (fR rfl rfl (dV rfl rfl trivial)),rfl⟩ rfl (.inl rfl) (aV ⟨rfl,trivial⟩) (fun _ hj=>nomatch hj) ?_)))))))))))))))))
 exact s1 (sq (rT [4] (s2 (rt (fV _ [] [] rfl (fR rfl rfl (dV rfl rfl (dV rfl rfl (dV rfl rfl trivial)))) rfl rfl)))))
theorem kf (k:bH) (m:Int) (hm:1≤m) (hc:m+5*(k.held.length:Nat)+3*(k.marks.length:Nat)+5*(k.inbox.length:Nat)≤9000000):Sp 30 2 [tV 0 (.e (.agg [.d (.i k.id),.d (.i k.time),.d (.i k.next),.d (.sl (aF (fO eL 5 k.held m))),.d (.sl (aJ (fO gV 3 k.marks (m+5*(k.held.length:Nat))))),.d (.sl (aF (fO eL 5 k.inbox (m+5*(k.held.length:Nat)+3*(k.marks.length:Nat)))))])),tI 1 m] [tI 0 ((m+5*(k.held.length:Nat)+3*(k.marks.length:Nat))+5*(k.inbox.length:Nat))]:=by
 refine sb Tryz.func30 rfl (sq (rT [1,2] (s2 (sq (rT [1,2] (s3 (xp (fd k.held m (by omega) (by omega)) (ai rfl ?_))))))))
 refine s1 (sq (sq (rT [1,2,10] (s2 (cd rfl (fun c10=> ?_) fun c10=> ?_)))))
 · have h9: (m+5*(k.held.length:Nat))<0:=by simpa using c10
   omega
 refine sk (sq (rT [1,2] (s3 (xp (wo k.marks (m+5*(k.held.length:Nat)) (by omega) (by omega)) (ai rfl ?_)))))
 refine s1 (sq (sq (rT [1,2,16] (s2 (cd rfl (fun c16=> ?_) fun c16=> ?_)))))
 · have h9: (m+5*(k.held.length:Nat)+3*(k.marks.length:Nat))<0:=by simpa using c16
   omega
 refine sk (sq (rT [1] (s3 (xp (fd k.inbox (m+5*(k.held.length:Nat)+3*(k.marks.length:Nat)) (by omega) (by omega)) (ai rfl ?_)))))
 refine s1 (sq (sq (rT [1,22] (s2 (cd rfl (fun c22=> ?_) fun c22=> ?_)))))
 · have h9: (m+5*(k.held.length:Nat)+3*(k.marks.length:Nat))+5*(k.inbox.length:Nat)<0:=by simpa using c22
   omega
 exact sk (sq (rT [4] (s2 (rt (aT rfl rfl)))))
theorem aGm (k:bH):iC [tV 0 (.e (.agg [.d (.i (k).id),.d (.i (k).time),.d (.i (k).next),.own 900 (k).held.length,.own 901 (k).marks.length,.own 902 (k).inbox.length])),oR 900 52 5 (aF (k).held),oR 901 162 3 (aJ (k).marks),oR 902 52 5 (aF (k).inbox)]:=by
 intro p hp
 simp only[aNs,List.mem_nil_iff,or_false] at hp
 rcases hp with rfl|rfl|rfl|rfl
 · simp[oC,zH,zG,vN,pK]
 · exact ep _ _ _
 · exact zi _ _ _
 exact ep _ _ _
theorem aEp (k:aN): (bS k).held.length≤6∧(bS k).marks.length≤12∧(bS k).inbox.length≤6:=by
 by_cases hok:aX k=true
 · have h6:=(cV (dP hok)).1
   rw[dK hok]
   omega
 rw[wI hok]
 exact⟨aNj _,aNj _,aNj _⟩
theorem fe (k:aN) (hl:k.log.length≤140737488355328):Sp 26 1 [tV 0 k.V] [tV 0 ((bS k).V)]:=by
 refine sb Tryz.func26 rfl (sq (rT [1,2] (s2 (sq (sq (rT [1,2,7] (s1 (xp (gQ k hl) (ai rfl ?_)))))))))
 refine s1 (cd rfl (fun c7=> ?_) fun c7=> ?_)
 · have hr:bS k= .zero:=wI (by simpa using c7)
   refine sq (rT [2] (s2 (rt (fV _ [] [] rfl ?_ rfl rfl))))
   rw[hr]
   refine qs ?_
   repeat' first|exact qx|apply ai
   all_goals rfl
 have hok:aX k=true:=by simpa using c7
 have hr:bS k=_:=dK hok
 have hlg:=(cJ hok).2.1
 refine sk (sq (rT [2,3] (s1 (xp (jX k (by omega)) (ai rfl ?_)))))
 refine s6 (sq (rT [2] (s2 (rt (bG rfl rfl ?_)))))
 first|(rw[hr];done)|(rw[hr];rfl)
theorem vA (k:aN) (hk:KRW k):Sp 6 1 [tV 0 k.V] [tB 0 true]:=by
 refine sb Tryz.func6 rfl (sq (rT [1] (s2 (sq (rT [1,3] (s1 (sq (rE [1,3] (s2 (dJ (rl:=[]) (bor:=[]) (news:=[]) (robj:=[]) (kK k 1048576 hk ⟨by omega,by omega⟩) rfl rfl rfl rfl (gO rfl) (fun σ hσ=>by obtain⟨r,_,rfl⟩:=hσ;exact⟨rfl,.inl rfl,fun j hj=>by simp[eJ,bO] at hj⟩) (fun p hp=>nomatch hp) (fun j hj=>nomatch hj) ?_))))))))))
 rintro σ ⟨r,hr,rfl⟩
 refine s1 (sq (sq (rT [1,15] (s2 (cd rfl (fun c15=> ?_) fun c15=> ?_)))))
 · exact sq (rT [2] (s1 (rt (aT rfl rfl))))
 have hc0: ¬r<0:=by simpa using c15
 have hwt:=hr.2 (by omega)
 have hcx:aK k.halves≤5242880:=by rw[hF];push_cast at hwt;omega
 have hn0:=cI k.halves
 have hsm:=aEp k
 refine sk (sq (rT [1,4] (s1 (xp (cG k (dE hk)) (ai rfl ?_)))))
 refine xp (fe k hk.1) (ai rfl ?_)
 refine s2 (sq (rE [1,4,5] (s1 (dJ (robj:=[]) (rl:=[(0,60),(1,90)]) (bor:=[]) (news:=[0,1]) (kJ k (dE hk)) rfl rfl rfl rfl ⟨bK rfl (aI rfl (aI rfl (aI rfl (aI rfl (aI rfl aR))))) trivial,rfl⟩ (by rintro _ ⟨vs,hvs,rfl⟩;exact⟨rfl,.inl rfl,fun j hj=>hj⟩) (fun p hp=>nomatch hp) (fun j hj=>by simp at hj;rcases hj with rfl|rfl<;>rfl) ?_))))
 rintro _ ⟨xs,hxs,rfl⟩
 refine s2 (sq (rT [1,4,5,6] (s1 (dI (robj:=[(60,.row 138 6 (bM k.halves xs)),(90,.zone (eW 86 2 (cS k.halves xs)))]) (rl:=[]) (bor:=[60,90]) (fa k hk.1) rfl rfl rfl rfl ⟨bK rfl (aI rfl (aI rfl (aI rfl (aI rfl (cN (q:=90) rfl rfl rfl rfl (bC _ _) (cH _ _ _ (fun _ h=>h)) rfl aR))))) trivial,rfl⟩ rfl (.inr (aGm _)) (aV ⟨rfl,rfl,trivial⟩) (aEg rfl rfl rfl) (s2 (sq (sq (rT [1,4,5,6,26] (s2 (dZ (bor:=[900,901,902]) (robj:=[(900,.row 52 5 (aF (bS k).held)),(901,.row 162 3 (aJ (bS k).marks)),(902,.row 52 5 (aF (bS k).inbox))]) (uH (bS k) (bS k) (by omega)) rfl rfl rfl rfl rfl ⟨bK rfl (aI rfl (aI rfl (aI rfl (gJ rfl rfl (aE _) rfl (gJ rfl rfl (aG _) rfl (gJ rfl rfl (aE _) rfl aR)))))) (bK rfl (aI rfl (aI rfl (aI rfl (aI rfl (aI rfl (aI rfl aR)))))) trivial),rfl⟩ rfl rfl rfl (aV ⟨rfl,rfl,rfl,trivial⟩) ?_))))))))))
 refine s1 (cd rfl (fun c26=> ?_) fun c26=> ?_)
 · simp[gb] at c26
 refine sk (sq (sq (rD [1,4,5,6,31] (s2 (xp (cG k (dE hk)) (ai rfl ?_))))))
 refine dZ (bor:=[60,90]) (robj:=[(60,.row 138 6 (bM (k).halves xs)),(90,.zone (eW 86 2 (cS (k).halves xs)))]) (cA (k) (k) (dE hk)) rfl rfl rfl rfl rfl ⟨bK rfl (aI rfl (aI rfl (aI rfl (aI rfl (cN (q:=90) rfl rfl rfl rfl (bC _ _) (cH _ _ _ (fun _ h=>h)) rfl aR))))) (bK rfl (aI rfl (aI rfl (aI rfl (aI rfl (aI rfl aR))))) trivial),rfl⟩ rfl rfl rfl (aV ⟨rfl,rfl,trivial⟩) (s1 (ai (by kernel_rfl) (cd rfl (fun c31=> ?_) fun c31=> ?_)))
 · simp[gb] at c31
 refine sk (sq (rT [1,4,5,6,7] (s1 (sq (rT [1,4,6,7] (s2 (dI (robj:=[(60,.row 138 6 (bM (k).halves xs)),(90,.zone (eW 86 2 (cS (k).halves xs)))]) (rl:=[(0,60),(1,90)]) (bor:=[]) (dR (k).id (k).forced (k).up (k).log (k).halves xs 1 hxs (by omega) (by omega)) rfl rfl rfl rfl ⟨bK rfl (aI rfl (aI rfl (aI rfl (aI rfl (eX rfl rfl rfl aR))))) (fR rfl rfl (dV rfl rfl (fY rfl rfl trivial))),rfl⟩ rfl (.inl rfl) (aV ⟨rfl,rfl,trivial⟩) (fun _ hj=>nomatch hj) (s1 (sq (sq (rT [1,4,6,42] (s3 (y2 (qA (bor:=[900,901,902]) (robj:=[(900,.row 52 5 (aF (bS k).held)),(901,.row 162 3 (aJ (bS k).marks)),(902,.row 52 5 (aF (bS k).inbox))]) (fun h=>uH (bS k) (bS k) (by omega)) rfl rfl rfl rfl rfl ⟨bK rfl (aI rfl (aI rfl (aI rfl (gJ rfl rfl (aE _) rfl (gJ rfl rfl (aG _) rfl (gJ rfl rfl (aE _) rfl aR)))))) (bK rfl (aI rfl (aI rfl (aI rfl (aI rfl (aI rfl (aI rfl aR)))))) trivial),rfl⟩ rfl rfl rfl (aV ⟨rfl,rfl,rfl,trivial⟩) rk ?_))))))))))))))
 refine y1 (ai pk (cd rfl (fun c42=> ?_) fun c42=> ?_))
 · simp[gb] at c42
   omega
 refine sk (sq (rT [1,4,6,8] (s1 (sq (rT [1,4,6,8] (s2 (dI (robj:=[(900,.row 52 5 (aF (bS k).held)),(901,.row 162 3 (aJ (bS k).marks)),(902,.row 52 5 (aF (bS k).inbox))]) (rl:=[]) (bor:=[]) (zy (bS k) 1 (by omega) (by omega)) rfl rfl rfl rfl ⟨bK rfl (aI rfl (aI rfl (aI rfl (eX rfl rfl rfl (eX rfl rfl rfl (eX rfl rfl rfl aR)))))) (fR rfl rfl (dV rfl rfl (dV rfl rfl (dV rfl rfl trivial)))),rfl⟩ rfl (.inl rfl) (aV ⟨rfl,rfl,rfl,trivial⟩) (fun _ hj=>nomatch hj) (s1 (sq (rT [1,4,6,8,9] (s1 (sq (rT [1,4,6,8,9] (s2 (dZ (bor:=[900,901,902]) (robj:=[(900,.row 52 5 (aF (fO eL 5 (bS k).held 1))),(901,.row 162 3 (aJ (fO gV 3 (bS k).marks (1+5*((bS k).held.length:Nat))))),(902,.row 52 5 (aF (fO eL 5 (bS k).inbox (1+5*((bS k).held.length:Nat)+3*((bS k).marks.length:Nat)))))]) (kf (bS k) 1 (by omega) (by omega)) rfl rfl rfl rfl rfl ⟨bK rfl (aI rfl (aI rfl (aI rfl (gJ rfl rfl (by rw[aE,cW]) rfl (gJ rfl rfl (by rw[aG,cW]) rfl (gJ rfl rfl (by rw[aE,cW]) rfl aR)))))) (fR rfl rfl trivial),rfl⟩ rfl rfl rfl (aV ⟨rfl,rfl,rfl,trivial⟩) ?_)))))))))))))))
 refine s1 (sq (sq (rT [1,4,6,8,9,50] (s2 (cd rfl (fun c50=> ?_) fun c50=> ?_)))))
 · simp at c50
   omega
 refine sk (sq (sq (rT [1,4,6,8,53] (s3 (cd rfl (fun c53=> ?_) fun c53=> ?_)))))
 · simp at c53
 refine sk (sq (rT [4,6,8,10] (s1 (xp (cG k (dE hk)) (ai rfl ?_)))))
 refine xp (fC k hk.1) (ai rfl ?_)
 refine s2 (sq (sq (rT [6,8,60] (s2 (xp (uH (bS k) (bS k) (by omega)) (ai rfl ?_))))))
 refine s1 (cd rfl (fun c60=> ?_) fun c60=> ?_)
 · simp[gb] at c60
 refine sk (sq (rT [6,8,9] (s1 (sq (rT [8,9] (s2 (dZ (bor:=[900,901,902]) (robj:=[(900,.row 52 5 (aF (fO eL 5 (bS k).held 1))),(901,.row 162 3 (aJ (fO gV 3 (bS k).marks (1+5*((bS k).held.length:Nat))))),(902,.row 52 5 (aF (fO eL 5 (bS k).inbox (1+5*((bS k).held.length:Nat)+3*((bS k).marks.length:Nat)))))]) (kf (bS k) 1 (by omega) (by omega)) rfl rfl rfl rfl rfl ⟨bK rfl (aI rfl (aI rfl (aI rfl (gJ rfl rfl (by rw[aE,cW]) rfl (gJ rfl rfl (by rw[aG,cW]) rfl (gJ rfl rfl (by rw[aE,cW]) rfl aR)))))) (fR rfl rfl trivial),rfl⟩ rfl rfl rfl (aV ⟨rfl,rfl,rfl,trivial⟩) (s1 (sq (sq (rT [8,9,65] (s2 (cd rfl (fun c65=> ?_) fun c65=> ?_)))))))))))))
 · simp at c65
   omega
 refine sk (sq (sq (rT [68] (s3 (cd rfl (fun c68=> ?_) fun c68=> ?_)))))
 · simp at c68
 exact sk (sq (rT [2] (s1 (rt (aT rfl rfl)))))
theorem vB (k:aN) (f n:Int) (hk:KRW k):Sp 10 3 [tV 0 k.V,tI 1 f,tI 2 n] [tB 0 true]:=by
 refine sb Tryz.func10 rfl (sq (rT [1,2,3] (s2 (sq (rT [1,2,3,7] (s1 (sq (rE [1,2,3,7] (s2 (dJ (rl:=[]) (bor:=[]) (news:=[]) (robj:=[]) (kK k 1048576 hk ⟨by omega,by omega⟩) rfl rfl rfl rfl (gO rfl) (fun σ hσ=>by obtain⟨r,_,rfl⟩:=hσ;exact⟨rfl,.inl rfl,fun j hj=>by simp[eJ,bO] at hj⟩) (fun p hp=>nomatch hp) (fun j hj=>nomatch hj) ?_))))))))))
 rintro σ ⟨r,hr,rfl⟩
 refine s1 (sq (sq (rT [1,2,3,25] (s2 (cd rfl (fun c25=> ?_) fun c25=> ?_)))))
 · exact sq (rT [6] (s1 (rt (aT rfl rfl))))
 have hc0: ¬r<0:=by simpa using c25
 have hwt:=hr.2 (by omega)
 have hcx:aK k.halves≤5242880:=by rw[hF];push_cast at hwt;omega
 have hlh:LH k ((aQ k f n).1):= .eat (dE hk) f n
 have hcg:aK ((aQ k f n).1).halves≤5242880:=hlh.cnt hcx
 have hn0:=cI k.halves
 have hn1:=cI ((aQ k f n).1).halves
 refine sk (sq (rT [1,2,3,8,9,10] (s1 (xp (cG k (dE hk)) (ai rfl ?_)))))
 refine s2 (xp (ip k f n hk.1) (ai rfl ?_))
 refine s9 (sq (rE [1,2,3,8,9,10,11] (s1 (dJ (robj:=[]) (rl:=[(0,60),(1,90)]) (bor:=[]) (news:=[0,1]) (kJ k (dE hk)) rfl rfl rfl rfl ⟨bK rfl (aI rfl (aI rfl (aI rfl (aI rfl (aI rfl aR))))) trivial,rfl⟩ (by rintro _ ⟨vs,hvs,rfl⟩;exact⟨rfl,.inl rfl,fun j hj=>hj⟩) (fun p hp=>nomatch hp) (fun j hj=>by simp at hj;rcases hj with rfl|rfl<;>rfl) ?_))))
 rintro _ ⟨xs,hxs,rfl⟩
 refine s2 (sq (rE [1,2,3,8,9,10,11,12,13,14] (s3 (dJ (robj:=[(60,.row 138 6 (bM k.halves xs)),(90,.zone (eW 86 2 (cS k.halves xs)))]) (rl:=[(0,61),(1,91)]) (bor:=[60,90]) (news:=[0,1]) (wi k f n hk.1) rfl rfl rfl rfl ⟨bK rfl (aI rfl (aI rfl (aI rfl (aI rfl (cN (q:=90) rfl rfl rfl rfl (bC _ _) (cH _ _ _ (fun _ h=>h)) rfl aR))))) (fR rfl rfl (fR rfl rfl (trivial))),rfl⟩ (by rintro _ ⟨vs,hvs,rfl⟩;exact⟨rfl,.inr (jY rfl hvs),fun j hj=>hj⟩) (aV ⟨rfl,rfl,trivial⟩) (fun j hj=>by simp at hj;rcases hj with rfl|rfl<;>rfl) ?_))))
 rintro _ ⟨gs,hgs,rfl⟩
 refine s9 (sq (sq (wa [tP 3 3,tP 8 8,tP 9 9,tP 11 11,tP 12 12,tP 13 13,tI 1 f,tI 2 n,tB 10 (aQ k f n).2.2,tB 14 (aQ k f n).2.2,oB 3 26 [.d (.i (k).id),.d (.b (k).up),.d (.s (k).log),.d (.i (k).forced),.d (.sl (aY (k).halves))],oB 8 31 [.d (.i ((aQ k f n).1).id),.d (.b ((aQ k f n).1).up),.d (.s ((aQ k f n).1).log),.d (.i ((aQ k f n).1).forced),.d (.sl (aY ((aQ k f n).1).halves))],oB 9 52 [.d (.i ((aQ k f n).2.1).frm),.d (.i ((aQ k f n).2.1).num),.d (.i ((aQ k f n).2.1).to),.d (.i ((aQ k f n).2.1).til),.d (.s ((aQ k f n).2.1).text)],oB 11 31 [.d (.i (k).id),.d (.b (k).up),.d (.s (k).log),.d (.i (k).forced),.own 60 k.halves.length],oB 12 31 [.d (.i ((aQ k f n).1).id),.d (.b ((aQ k f n).1).up),.d (.s ((aQ k f n).1).log),.d (.i ((aQ k f n).1).forced),.own 61 ((aQ k f n).1).halves.length],oB 13 52 [.d (.i ((aQ k f n).2.1).frm),.d (.i ((aQ k f n).2.1).num),.d (.i ((aQ k f n).2.1).to),.d (.i ((aQ k f n).2.1).til),.d (.s ((aQ k f n).2.1).text)],oR 60 138 6 (bM k.halves xs),(.o 90,.zone (eW 86 2 (cS k.halves xs))),oR 61 138 6 (bM ((aQ k f n).1).halves gs),(.o 91,.zone (eW 86 2 (cS ((aQ k f n).1).halves gs)))] [] [] ?_ ?_)))
 · repeat' apply ai
   all_goals first|exact qx|rfl|exact qz
 refine rT [1,2,3,8,9,10,11,12,13,14,59] (s2 (dZ (bor:=[61,91]) (robj:=[(61,.row 138 6 (bM ((aQ k f n).1).halves gs)),(91,.zone (eW 86 2 (cS ((aQ k f n).1).halves gs)))]) (cA ((aQ k f n).1) ((aQ k f n).1) (hlh.krb (dE hk))) rfl rfl rfl rfl rfl ⟨bK rfl (aI rfl (aI rfl (aI rfl (aI rfl (cN (q:=91) rfl rfl rfl rfl (bC _ _) (cH _ _ _ (fun _ h=>h)) rfl aR))))) (bK rfl (aI rfl (aI rfl (aI rfl (aI rfl (aI rfl aR))))) trivial),rfl⟩ rfl rfl rfl (aV ⟨rfl,rfl,trivial⟩) ?_))
 refine s2 (y2 (xc (fun h=>(pQ ((aQ k f n).2.1) ((aQ k f n).2.1))) (ai rfl (ai rk ?_))))
 refine y1 (ai pk (s1 (y3 (ai pk (cd rfl (fun c59=> ?_) fun c59=> ?_)))))
 · simp[gb] at c59
 refine sk (sq (sq (rD [1,2,3,8,9,10,11,12,13,14,64] (s2 (xp (cG k (dE hk)) (ai rfl ?_))))))
 refine dZ (bor:=[60,90]) (robj:=[(60,.row 138 6 (bM (k).halves xs)),(90,.zone (eW 86 2 (cS (k).halves xs)))]) (cA (k) (k) (dE hk)) rfl rfl rfl rfl rfl ⟨bK rfl (aI rfl (aI rfl (aI rfl (aI rfl (cN (q:=90) rfl rfl rfl rfl (bC _ _) (cH _ _ _ (fun _ h=>h)) rfl aR))))) (bK rfl (aI rfl (aI rfl (aI rfl (aI rfl (aI rfl aR))))) trivial),rfl⟩ rfl rfl rfl (aV ⟨rfl,rfl,trivial⟩) ?_
 refine s1 (ai (by kernel_rfl) (cd rfl (fun c64=> ?_) fun c64=> ?_))
 · simp[gb] at c64
 refine sk (sq (rT [1,2,3,8,9,10,11,12,13,14,15] (s1 (sq (rT [1,2,3,8,9,10,12,13,14,15] (s2 (dI (robj:=[(60,.row 138 6 (bM (k).halves xs)),(90,.zone (eW 86 2 (cS (k).halves xs)))]) (rl:=[(0,60),(1,90)]) (bor:=[]) (dR (k).id (k).forced (k).up (k).log (k).halves xs 1 hxs (by omega) (by omega)) rfl rfl rfl rfl ⟨bK rfl (aI rfl (aI rfl (aI rfl (aI rfl (eX rfl rfl rfl aR))))) (fR rfl rfl (dV rfl rfl (fY rfl rfl trivial))),rfl⟩ rfl (.inl rfl) (aV ⟨rfl,rfl,trivial⟩) (fun _ hj=>nomatch hj) (s1 (sq (sq (rT [1,2,3,8,9,10,12,86] (s3 (y2 (qA (bor:=[61,91]) (robj:=[(61,.row 138 6 (bM ((aQ k f n).1).halves gs)),(91,.zone (eW 86 2 (cS ((aQ k f n).1).halves gs)))]) (fun h=>cA ((aQ k f n).1) ((aQ k f n).1) (hlh.krb (dE hk))) rfl rfl rfl rfl rfl ⟨bK rfl (aI rfl (aI rfl (aI rfl (aI rfl (cN (q:=91) rfl rfl rfl rfl (bC _ _) (cH _ _ _ (fun _ h=>h)) rfl aR))))) (bK rfl (aI rfl (aI rfl (aI rfl (aI rfl (aI rfl aR))))) trivial),rfl⟩ rfl rfl rfl (aV ⟨rfl,rfl,trivial⟩) rk ?_))))))))))))))
 refine y1 (ai pk (s1 (y2 (xc (fun h=>(pQ ((aQ k f n).2.1) ((aQ k f n).2.1))) (ai rfl (ai rk ?_))))))
 refine y1 (ai pk (s1 (y3 (ai pk (cd rfl (fun c86=> ?_) fun c86=> ?_)))))
 · simp[gb] at c86
   omega
 refine sk (sq (rT [1,2,3,8,9,10,12,16] (s1 (sq (rT [1,2,3,8,9,10,12,16] (s2 (dI (robj:=[(61,.row 138 6 (bM ((aQ k f n).1).halves gs)),(91,.zone (eW 86 2 (cS ((aQ k f n).1).halves gs)))]) (rl:=[(0,61),(1,91)]) (bor:=[]) (dR ((aQ k f n).1).id ((aQ k f n).1).forced ((aQ k f n).1).up ((aQ k f n).1).log ((aQ k f n).1).halves gs 1 hgs (by omega) (by omega)) rfl rfl rfl rfl ⟨bK rfl (aI rfl (aI rfl (aI rfl (aI rfl (eX rfl rfl rfl aR))))) (fR rfl rfl (dV rfl rfl (fY rfl rfl trivial))),rfl⟩ rfl (.inl rfl) (aV ⟨rfl,rfl,trivial⟩) (fun _ hj=>nomatch hj) (s1 (sq (rT [1,2,3,8,9,10,12,16,17] (s1 (sq (rT [1,2,3,8,9,10,12,16,17] (s2 (dZ (bor:=[61,91]) (robj:=[(61,.row 138 6 (bM (bQ ((aQ k f n).1).halves 1) gs)),(91,.zone (eW 86 2 (cS (bQ ((aQ k f n).1).halves 1) gs)))]) (eA ((aQ k f n).1).id ((aQ k f n).1).forced ((aQ k f n).1).up ((aQ k f n).1).log ((aQ k f n).1).halves 1 (by omega) (by omega)) rfl rfl rfl rfl rfl ⟨bK rfl (aI rfl (aI rfl (aI rfl (aI rfl (cN (q:=91) rfl rfl rfl rfl (by rw[bC,cB]) (cH _ _ _ (fun _ h=>h)) rfl aR))))) (fR rfl rfl trivial),rfl⟩ rfl rfl rfl (aV ⟨rfl,rfl,trivial⟩) ?_)))))))))))))))
 refine s1 (sq (sq (rT [1,2,3,8,9,10,12,16,17,94] (s2 (cd rfl (fun c94=> ?_) fun c94=> ?_)))))
 · simp at c94
   omega
 refine sk (sq (sq (rT [1,2,3,8,9,10,12,16,97] (s3 (cd rfl (fun c97=> ?_) fun c97=> ?_)))))
 · simp at c97
 refine sk (sq (rT [8,9,10,12,16,18,19,20] (s1 (xp (cG k (dE hk)) (ai rfl ?_)))))
 refine s2 (xp (im k f n hk.1) (ai rfl ?_))
 refine s9 (sq (sq (rT [12,16,121] (s2 (xp (cA ((aQ k f n).1) ((aQ k f n).1) (hlh.krb (dE hk))) (ai rfl ?_))))))
 refine s2 (y2 (xc (fun h=>(pQ ((aQ k f n).2.1) ((aQ k f n).2.1))) (ai rfl (ai rk ?_))))
 refine y1 (ai pk (s1 (y3 (ai pk (cd rfl (fun c121=> ?_) fun c121=> ?_)))))
 · simp[gb] at c121
 refine sk (sq (rT [12,16,17] (s1 (sq (rT [16,17] (s2 (dZ (bor:=[61,91]) (robj:=[(61,.row 138 6 (bM (bQ ((aQ k f n).1).halves 1) gs)),(91,.zone (eW 86 2 (cS (bQ ((aQ k f n).1).halves 1) gs)))]) (eA ((aQ k f n).1).id ((aQ k f n).1).forced ((aQ k f n).1).up ((aQ k f n).1).log ((aQ k f n).1).halves 1 (by omega) (by omega)) rfl rfl rfl rfl rfl ⟨bK rfl (aI rfl (aI rfl (aI rfl (aI rfl (cN (q:=91) rfl rfl rfl rfl (by rw[bC,cB]) (cH _ _ _ (fun _ h=>h)) rfl aR))))) (fR rfl rfl trivial),rfl⟩ rfl rfl rfl (aV ⟨rfl,rfl,trivial⟩) (s1 (sq (sq (rT [16,17,126] (s2 (cd rfl (fun c126=> ?_) fun c126=> ?_)))))))))))))
 · simp at c126
   omega
 refine sk (sq (sq (rT [129] (s3 (cd rfl (fun c129=> ?_) fun c129=> ?_)))))
 · simp at c129
 exact sk (sq (rT [6] (s1 (rt (aT rfl rfl)))))
theorem rx {n B:Nat} {r:List D} (h:oL tab B (n+2) 222 r): ∃m:eO,r=m.row∧m.data.length≤B:=by
 obtain⟨hl,hf⟩:=h
 match r,hl with
 | [a0,a1],_=>
 obtain⟨x0,e0,w0⟩:=hf (0,3) (by decide)
 obtain⟨x1,e1,w1⟩:=hf (1,9) (by decide)
 cases e0
 cases e1
 exact⟨⟨x0,x1⟩,rfl,w1⟩
theorem py {n B:Nat} {r:List D} (h:oL tab B (n+4) 154 r): ∃x:bV,r=x.row∧(x.got.length*24≤B∧ ∀m∈x.got,m.data.length≤B):=by
 obtain⟨hl,hf⟩:=h
 match r,hl with
 | [a0,a1,a2,a3,a4,a5],_=>
 obtain⟨x0,e0,w0⟩:=hf (0,3) (by decide)
 obtain⟨x1,e1,w1⟩:=hf (1,3) (by decide)
 obtain⟨x2,e2,w2⟩:=hf (2,3) (by decide)
 obtain⟨x3,e3,w3⟩:=hf (3,3) (by decide)
 obtain⟨x4,e4,w4⟩:=hf (4,3) (by decide)
 obtain⟨rows,e5,w5,hr⟩:=hf (5,152) (by decide)
 cases e0
 cases e1
 cases e2
 cases e3
 cases e4
 cases e5
 obtain⟨l,rfl,hm⟩:=bg (f:=eO.row) fun r hr'=>rx (hr r hr')
 refine⟨⟨x0,x1,x2,x3,x4,l⟩,rfl,?_,hm⟩
 have w5: (l.map eO.row).length*24≤B:=w5
 simpa using w5
theorem iR {n B:Nat} {ds:List D} (h:oL tab B (n+6) 26 ds): ∃k:aN,ds=k.row∧aLs B k:=by
 obtain⟨hl,hf⟩:=h
 match ds,hl with
 | [a0,a1,a2,a3,a4],_=>
 obtain⟨x0,e0,w0⟩:=hf (0,3) (by decide)
 obtain⟨x1,e1⟩:=hf (1,4) (by decide)
 obtain⟨_,hs⟩:=hf (2,23) (by decide)
 obtain⟨x2,e2,w2⟩:=hs (0,9) (by decide)
 obtain⟨x3,e3,w3⟩:=hs (1,3) (by decide)
 obtain⟨rows,e4,w4,hr⟩:=hf (4,24) (by decide)
 cases e0
 cases e1
 cases e2
 cases e3
 cases e4
 obtain⟨l,rfl,hg⟩:=bg (f:=bV.row) fun r hr'=>py (hr r hr')
 refine⟨⟨x0,x1,x2,x3,l⟩,rfl,w2,?_,hg⟩
 have w4: (l.map bV.row).length*64≤B:=w4
 simpa using w4
theorem aCe {B:Nat} {ds:List D} (h:oL tab B 8 9 ds): ∃l:List UInt8,ds=[.s l]∧l.length≤B:=h
end Go.Proofs.YtmabaopgkimfmaaGreatDoor
namespace Go.Ab
open Int renaming toNat_natCast→aNf
open Nat renaming le_of_ble_eq_true→aNg,zero_le→aNj,le_refl→aNp
open List renaming length_append→aNh,length_cons→aNk,length_nil→aNl,getD_eq_getElem?_getD→aNm,length_take→aNn,getElem?_eq_getElem→aNo,getElem?_eq_some_iff→aNq,mem_map→aNr,mem_cons→aNs,all_eq_true→aNt,range→aNu,length_drop→aNv
open Bool renaming and_eq_true→aNi
open Go Go.RowKit
set_option linter.unusedVariables false
theorem aGn {P:Program} {w w':World} {name:String} {cs:Array Value} (h:w.var? P name=some cs) (hf:Fr (fun _=>False) w w'):w'.var? P name=some cs:=by
 unfold World.var? at h ⊢
 cases hg:P.globalNamed name with
 |none=>rw[hg] at h;cases h
 |some g=>
  rw[hg] at h
  simp only[Option.bind_some] at h ⊢
  cases hh:w.heap[g]? with
  |none=>rw[hh] at h;cases h
  |some o=>
   have hlt:g<w.heap.size:=(Array.getElem?_eq_some_iff.1 hh).1
   rw[hf.block g hlt (fun h=>h),hh]
   rw[hh] at h
   exact h
theorem tJ {P:Program} {w:World} {name:String} {g:Nat} {cs:Array Value} {t:TypeId} {v:Value} (hg:P.globalNamed name=some g) (hh:w.heap[g]? =some (.cells cs t)) (hs:cs.size=1) (hc:w.cell? ⟨g,0,none⟩=some v):w.var? P name=some #[v]:=by
 have e:cs= #[v]:=by
  have h1:w.cell? ⟨g,0,none⟩=cs[0]?:=by rw[cell_of_row w g 0 cs t (0,0) hh]
  rw[hc] at h1
  apply Array.ext
  · simpa using hs
  · intro i h2 h3
    have:i=0:=by have:i<1:=by simpa using h3
                 omega
    subst this
    rw[Array.getElem?_eq_getElem h2] at h1
    exact(Option.some.inj h1).symm
 subst e
 unfold World.var?
 rw[hg]
 simp only[Option.bind_some]
 rw[hh]
theorem kg {P:Program} {w:World} (h1:Lib.TabIs P w "internal/strconv.uint64pow10" .u64 Lib.pow10Tab) (h2: ∃m,w.var? P "internal/bytealg.MaxLen" =some #[.int .i64 m]):GB P w fun _=>False:=fun w' hf=>⟨aGn h1 hf,h2.imp fun m hm=>aGn hm hf⟩
end Go.Ab
