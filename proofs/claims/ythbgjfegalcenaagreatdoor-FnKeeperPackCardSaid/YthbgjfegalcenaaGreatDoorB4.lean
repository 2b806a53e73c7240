/- Plain functions, and contracts of the functions that the law reaches. -/
import Derived.Test.YthbgjfegalcenaaGreatDoorB3
namespace Go.Proofs.YthbgjfegalcenaaGreatDoor
open Int renaming toNat_natCast→aWz
open List renaming length_append→aW0,length_nil→aW2,length_cons→aW3,length_take→aW5,getD_eq_getElem?_getD→aW7,getElem?_eq_getElem→aW8,length_drop→aW9,getElem?_eq_some_iff→aXb,range→aXc,mem_map→aXd,all_eq_true→aXe,take_length→aXf
open Nat renaming le_of_ble_eq_true→aW1,zero_le→aW6,le_refl→aXa
open Bool renaming and_eq_true→aW4
open Go Go.Ab Go.RowKit
set_option linter.unusedVariables false
set_option linter.unusedSimpArgs false
set_option maxRecDepth 9000
set_option maxHeartbeats 6400000 in
theorem na (k:aH) (f:cH) (hl:k.log.length≤140737488355328):Sp 218 2 [tV 0 k.V,tV 1 f.V] [tV 0 (.tup [.agg [.d (.i ((dC k f).1).id),.d (.b ((dC k f).1).up),.d (.s ((dC k f).1).log),.d (.i ((dC k f).1).forced),.d (.sl (aX ((dC k f).1).halves))],.c (.d (.sl (nE (dC k f).2)))])]:=by
 refine sb Tryz.func218 rfl (sq (rT [2,3,4] (s4 (sq (rT [2,3,4,6] (s2 (sq (sq (rT [2,3,4,6,18] (s1 (xp (eL k hl) (ai rfl ?_))))))))))))
 refine s1 (cd rfl (fun c18=> ?_) fun c18=> ?_)
 · have hno: ¬aT k=true:=oN c18
   refine sq (rT [4,5] (s4 (rt ?_)))
   have hr:dC k f=(.zero,[]):=yd hno
   refine rq [] [15] rfl ?_
   repeat' apply ai
   all_goals try exact qx
   all_goals(first|with_reducible rfl|(rw[hr];done)|(rw[hr];rfl)|exact aG _|rfl)
 have hok:aT k=true:=iY c18
 have hlg:=eQ hok
 have hK:=kL hok
 have h6:=eK (gU hok)
 have hkb:=qW hok
 have hsk:dP k.log k.forced=true:=(fL hlg.1).2.1
 obtain⟨⟨_,htm,hnx,_⟩,_⟩:=(cC _).1 (gU hok)
 refine sk (sq (rT [2,3,4,6,7] (s1 (bE (robj:=[]) (rl:=[(0,22)]) (bor:=[]) (jk k (⟨by omega,fun x hx=>by have:=hlg.2.2.2.2.2 x hx;omega⟩)) rfl rfl rfl rfl ⟨dN rfl (aD rfl (aD rfl (aD rfl (aD rfl (aD rfl aL))))) trivial,rfl⟩ rfl (.inl rfl) (fun p hp=>nomatch hp) (fun j hj=>by(obtain rfl:j=0:=by simpa[jV,cA,iH] using hj);rfl) (s2 (sq (sq (rT [2,3,4,6,7,37] (s4 (y1 (xc (fun h=>(ee f)) (ai rfl (ai rk ?_)))))))))))))
 refine y1 (ai pk (s1 (y4 (y1 (ai pk (cd rfl (fun c37=> ?_) fun c37=> ?_))))))
 · have hnot: ¬(k.up&&eM f&&f.dst==k.id)=true:=by intro h;simp at h;simp[h.1.1,h.1.2,h.2] at c37
   refine sq (rT [4,5] (s4 (rt ?_)))
   have hr:dC k f=(k,[]):=ye hok hnot
   refine rq [] [22,15] rfl ?_
   repeat' apply ai
   all_goals try exact qx
   all_goals(first|with_reducible rfl|(rw[hr];done)|(rw[hr];rfl)|exact aG _|rfl)
 have hgo: (k.up&&eM f&&f.dst==k.id)=true:=by simp at c37;simp[c37]
 have hu:k.up=true:=by simp at hgo;exact hgo.1.1
 have hf:eM f=true:=by simp at hgo;exact hgo.1.2
 refine sk (sq (sq (rT [2,3,4,6,7,42] (s3 (cd rfl (fun c42=> ?_) fun c42=> ?_)))))
 · have hkd:f.kind=1:=by simpa using c42
   have hhh:=sg hok hu hf hkd
   refine sq (rT [4,8,9] (s2 (bE (robj:=[(22,.row 85 6 (aX k.halves))]) (rl:=[(0,22)]) (bor:=[]) (td k f hok hu hf hkd) rfl rfl rfl rfl ⟨dN rfl (aD rfl (aD rfl (aD rfl (aD rfl (bP rfl rfl rfl aL))))) (dN rfl (aD rfl (aD rfl (aD rfl (aD rfl (aD rfl (aD rfl (aD rfl (aD rfl (aD rfl (aD rfl aL)))))))))) (bV rfl rfl trivial)),rfl⟩ rfl (.inl rfl) (aK ⟨rfl,trivial⟩) (fun _ hj=>nomatch hj) (s6 (sq (rT [4,5] (s1 (xp (gH (dY k f).1 ⟨by have:=hhh.2;omega,fun x hx=>by have:=aKr hhh.1 x hx;omega⟩) (ai rfl ?_)))))))))
   refine s3 (rt ?_)
   have hr:dC k f=dY k f:=jg hok hgo hkd
   refine rq [] [] rfl ?_
   repeat' apply ai
   all_goals try exact qx
   all_goals(first|with_reducible rfl|(rw[hr];done)|(rw[hr];rfl)|exact aG _|rfl)
 have hkd: ¬f.kind=1:=by simpa using c42
 have hfs:=lX hf
 refine sk (sq (rT [3,4,6,7,10] (s1 (xp (hZ k (by omega)) (ai rfl ?_)))))
 refine s6 (sq (rT [3,4,6,7,10,12] (s6 (xp (gG (bC k).1.held f.frm f.num (by have:=h6.1.1;omega)) (ai rfl ?_)))))
 refine s1 (sq (sq (rD [3,4,6,7,92] (s4 (y2 (ai pk (s1 (y3 (ai (fun h=>(by simp[gb] at h;obtain⟨j,hj,hjl,_⟩:=sD hok (f:=f.frm) (n:=f.num) (by omega);rw[hj,aWz,aR hjl];exact⟨⟨by omega,by rw[aB];omega⟩,rfl⟩)) (ai rk (y1 (ai (fun h=>(by simp[gb] at h;obtain⟨j,hj,hjl,_⟩:=sD hok (f:=f.frm) (n:=f.num) (by omega);rw[hj,aWz,aR hjl];exact⟨aW1 rfl,rfl⟩)) (ai rk (y3 (ai pk (s1 (y3 (ai (fun h=>(by simp[gb] at h;obtain⟨j,hj,hjl,_⟩:=sD hok (f:=f.frm) (n:=f.num) (by omega);rw[hj,aWz,aR hjl];exact⟨⟨by omega,by rw[aB];omega⟩,rfl⟩)) (ai rk (y1 (ai (fun h=>(by simp[gb] at h;obtain⟨j,hj,hjl,_⟩:=sD hok (f:=f.frm) (n:=f.num) (by omega);rw[hj,aWz,aR hjl];exact⟨aW1 rfl,rfl⟩)) (ai rk (y3 (ai pk (ai (by kernel_rfl) (cd rfl (fun c92=> ?_) fun c92=> ?_))))))))))))))))))))))))))
 · have hno: ¬dj k f=true:=aPi hok c92
   refine sq (rT [4,5] (s4 (rt ?_)))
   have hr:dC k f=(k,[]):=pf hok hgo hkd hno
   refine rq [] [22,15] rfl ?_
   repeat' apply ai
   all_goals try exact qx
   all_goals(first|with_reducible rfl|(rw[hr];done)|(rw[hr];rfl)|exact aG _|rfl)
 have hyes:dj k f=true:=aMv hok c92
 refine sk (sq (wa [tP 3 3,tP 4 4,tP 7 7,tO 6 15 0,oB 2 27 [.d (.i (k).id),.d (.b (k).up),.d (.s (k).log),.d (.i (k).forced),.d (.sl (aX (k).halves))],oB 3 63 [.d (.i f.kind),.d (.i f.src),.d (.i f.dst),.d (.i f.frm),.d (.i f.num),.d (.i f.to),.d (.i f.til),.d (.i f.size),.d (.i f.mix),.d (.s f.data)],oB 4 27 [.d (.i 0),.d (.b false),.d (.s []),.d (.i 0),.nil],oB 7 27 [.d (.i (k).id),.d (.b (k).up),.d (.s (k).log),.d (.i (k).forced),.d (.sl (aX (k).halves))],oR 15 63 10 []] [] [22] ?_ ?_))
 · repeat' apply ai
   all_goals first|exact qx|exact aG _|rfl|exact qz
 have q1:=bS (k:=6) (n:=f.frm.toNat) (by simp;omega)
 have q2:=bS (k:=6) (n:=f.num.toNat) (by simp;omega)
 have q3:=bS (k:=6) (n:=f.til.toNat) (by simp;omega)
 have hll: (pd f).length≤100:=by simp[pd,kV,nP];omega
 refine rD [4,6,13] (s7 (xp (bq f.frm f.num f.til (by have:=hfs;omega)) (ai rfl ?_)))
 refine ai (by show _≤9223372036854775807;(try simp only[aW0,aW3,aW2]);omega) (xp (mY k (pd f) false hok (by omega)) (ai rfl ?_))
 refine s6 (ai (by kernel_rfl) (sq (rT [4,5] (s4 (rt ?_)))))
 have hr:dC k f=((fX k (pd f) false).1,[]):=yf hok hgo hkd hyes
 refine rq [] [15] rfl ?_
 repeat' apply ai
 all_goals try exact qx
 all_goals(first|with_reducible rfl|(rw[hr];done)|(rw[hr];rfl)|exact aG _|rfl)
set_option maxHeartbeats 1600000 in
theorem rL (k:aH) (keep:Int) (hl:k.log.length≤140737488355328):Sp 26 2 [tV 0 k.V,tI 1 keep] [tV 0 ((bZ k keep).V)]:=by
 refine sb Tryz.func26 rfl (sq (rT [1,2,4] (s2 (sq (sq (rT [1,2,4,7] (s1 (xp (eL k hl) (ai rfl ?_)))))))))
 refine s1 (cd rfl (fun c7=> ?_) fun c7=> ?_)
 · have hno: ¬aT k=true:=oN c7
   refine sq (rT [4] (s2 (rt ?_)))
   have hr:bZ k keep= .zero:=if_neg hno
   refine rq [] [] rfl ?_
   repeat' apply ai
   all_goals try exact qx
   all_goals(first|with_reducible rfl|(rw[hr];done)|(rw[hr];rfl)|rfl)
 have hok:aT k=true:=iY c7
 have hlg:=eQ hok
 refine sk (sq (rD [4] (s5 (xp (qa k.log k.forced keep (by omega)) (ai rfl ?_)))))
 refine s2 (ai (by kernel_rfl) (rt ?_))
 have hr:bZ k keep=⟨k.id,false,(fG k.log k.forced keep).1,(fG k.log k.forced keep).2,[]⟩:=if_pos hok
 refine rq [] [] rfl ?_
 repeat' apply ai
 all_goals try exact qx
 all_goals(first|with_reducible rfl|(rw[hr];done)|(rw[hr];rfl)|rfl)
set_option maxHeartbeats 1600000 in
theorem rM (k:aH) (keep:Int) (hl:k.log.length≤140737488355328):Sp 27 2 [tV 0 k.V,tI 1 keep] [tV 0 ((bZ k keep).V)]:=by
 refine sb Tryz.func27 rfl (sq (rT [1,2,4] (s2 (sq (sq (rT [1,2,4,7] (s1 (xp (iV k hl) (ai rfl ?_)))))))))
 refine s1 (cd rfl (fun c7=> ?_) fun c7=> ?_)
 · have hno: ¬aT k=true:=oN c7
   refine sq (rT [4] (s2 (rt ?_)))
   have hr:bZ k keep= .zero:=if_neg hno
   refine rq [] [] rfl ?_
   repeat' apply ai
   all_goals try exact qx
   all_goals(first|with_reducible rfl|(rw[hr];done)|(rw[hr];rfl)|rfl)
 have hok:aT k=true:=iY c7
 have hlg:=eQ hok
 refine sk (sq (rD [4] (s5 (xp (pz k.log k.forced keep (by omega)) (ai rfl ?_)))))
 refine s2 (ai (by kernel_rfl) (rt ?_))
 have hr:bZ k keep=⟨k.id,false,(fG k.log k.forced keep).1,(fG k.log k.forced keep).2,[]⟩:=if_pos hok
 refine rq [] [] rfl ?_
 repeat' apply ai
 all_goals try exact qx
 all_goals(first|with_reducible rfl|(rw[hr];done)|(rw[hr];rfl)|rfl)
set_option maxHeartbeats 1600000 in
theorem wV (k:aH) (hl:k.log.length≤140737488355328):Sp 29 1 [tV 0 k.V] [tV 0 ((cS k).V)]:=by
 refine sb Tryz.func29 rfl (sq (rT [1,2] (s2 (sq (sq (rT [1,2,5] (s1 (xp (eL k hl) (ai rfl ?_)))))))))
 refine s1 (cd rfl (fun c5=> ?_) fun c5=> ?_)
 · have hno: ¬aT k=true:=oN c5
   refine sq (rT [2] (s2 (rt ?_)))
   have hr:cS k= .zero:=if_neg hno
   refine rq [] [] rfl ?_
   repeat' apply ai
   all_goals try exact qx
   all_goals(first|with_reducible rfl|(rw[hr];done)|(rw[hr];rfl)|rfl)
 have hok:aT k=true:=iY c5
 have hlg:=eQ hok
 refine sk (sq (sq (rT [1,2,8] (s2 (cd rfl (fun c8=> ?_) fun c8=> ?_)))))
 · have hu:k.up=true:=c8
   refine sq (rT [2] (s1 (xp (gH k (⟨by omega,fun x hx=>by have:=hlg.2.2.2.2.2 x hx;omega⟩)) (ai rfl ?_))))
   refine s1 (rt ?_)
   have hr:cS k=k:=by rw[cS,if_pos hok];cases k;simp at hu;simp[hu]
   refine rq [] [] rfl ?_
   repeat' apply ai
   all_goals try exact qx
   all_goals(first|with_reducible rfl|(rw[hr];done)|(rw[hr];rfl)|rfl)
 have hu:k.up=false:=c8
 refine sk (sq (rT [2] (s6 (rt ?_))))
 have hr:=aMh hok hu
 refine rq [] [] rfl ?_
 repeat' apply ai
 all_goals try exact qx
 all_goals(first|with_reducible rfl|(rw[hr];done)|(rw[hr];rfl)|rfl)
set_option maxHeartbeats 1600000 in
theorem wW (k:aH) (hl:k.log.length≤140737488355328):Sp 30 1 [tV 0 k.V] [tV 0 ((cS k).V)]:=by
 refine sb Tryz.func30 rfl (sq (rT [1,2] (s2 (sq (sq (rT [1,2,6] (s1 (xp (iV k hl) (ai rfl ?_)))))))))
 refine s1 (cd rfl (fun c6=> ?_) fun c6=> ?_)
 · have hno: ¬aT k=true:=oN c6
   refine sq (rT [2] (s2 (rt ?_)))
   have hr:cS k= .zero:=if_neg hno
   refine rq [] [] rfl ?_
   repeat' apply ai
   all_goals try exact qx
   all_goals(first|with_reducible rfl|(rw[hr];done)|(rw[hr];rfl)|rfl)
 have hok:aT k=true:=iY c6
 have hlg:=eQ hok
 refine sk (sq (rT [2,3] (s1 (xp (rI k (⟨by omega,fun x hx=>by have:=hlg.2.2.2.2.2 x hx;omega⟩)) (ai rfl ?_)))))
 refine s2 (sq (rT [2,3] (s2 (sq (rT [2] (s2 (rt ?_)))))))
 have hr:cS k={k with up:=true}:=if_pos hok
 refine rq [] [] rfl ?_
 repeat' apply ai
 all_goals try exact qx
 all_goals(first|with_reducible rfl|(rw[hr];done)|(rw[hr];rfl)|rfl)
set_option maxHeartbeats 1600000 in
theorem vW (k:aH) (hl:k.log.length≤140737488355328):Sp 32 1 [tV 0 k.V] [tV 0 (.tup [.agg [.d (.i ((bX k).1).id),.d (.b ((bX k).1).up),.d (.s ((bX k).1).log),.d (.i ((bX k).1).forced),.d (.sl (aX ((bX k).1).halves))],.c (.d (.b (bX k).2))])]:=by
 refine sb Tryz.func32 rfl (sq (rT [1,2] (s3 (sq (sq (rT [1,2,7] (s1 (xp (eL k hl) (ai rfl ?_)))))))))
 refine s1 (cd rfl (fun c7=> ?_) fun c7=> ?_)
 · have hno: ¬aT k=true:=oN c7
   refine sq (rT [2,3] (s3 (rt ?_)))
   have hr:bX k=(.zero,false):=if_neg hno
   refine rq [] [] rfl ?_
   repeat' apply ai
   all_goals try exact qx
   all_goals(first|with_reducible rfl|(rw[hr];done)|(rw[hr];rfl)|rfl)
 have hok:aT k=true:=iY c7
 have hlg:=eQ hok
 refine sk (sq (rT [1,2,4] (s1 (xp (gH k (⟨by omega,fun x hx=>by have:=hlg.2.2.2.2.2 x hx;omega⟩)) (ai rfl ?_)))))
 refine s2 (sq (sq (rT [1,2,4,23] (s4 (y4 (y4 (ai pk (cd rfl (fun c23=> ?_) fun c23=> ?_))))))))
 · refine sq (rT [2,3] (s3 (rt ?_)))
   have hr:bX k=(k,false):=by rw[bX,if_pos hok,if_pos c23]
   refine rq [] [] rfl ?_
   repeat' apply ai
   all_goals try exact qx
   all_goals(first|with_reducible rfl|(rw[hr];done)|(rw[hr];rfl)|rfl)
 refine sk (sq (rT [2,4] (s2 (xp (iT k.log k.forced (by omega)) (ai rfl ?_)))))
 refine s2 (sq (rT [2,3] (s3 (rt ?_))))
 have hr:bX k=(jY k,true):=by rw[bX,if_pos hok,if_neg (by rw[c23];decide)]
 refine rq [] [] rfl ?_
 repeat' apply ai
 all_goals try exact qx
 all_goals(first|with_reducible rfl|(rw[hr];done)|(rw[hr];rfl)|rfl)
set_option maxHeartbeats 1600000 in
theorem eg (a:Nat) (l:List cH) (ha:a≤30) (hl:l.length≤1000) (hp: ∀f∈l,FP f):Sp 219 2 [tV 0 (.e (.c (ps 804 4 (a)))),tD 1 (.sl (nE l)),(.o 804,aM 210 4 fO)] [tV 0 (.e (.c (ps 804 4 (gr a l.length)))),(.o 804,aM 210 4 fO)]:=by
 refine sb Tryz.func219 rfl (sq (rT [0,1] (s1 (sq (sq (rT [0,1,5] (s1 (bk (SW.loopW (n:=l.length) (fun m q=> ∃i:Nat,m=l.length - i∧(i≤l.length∧a+i≤30)∧q=[tV 0 (.e (.c (ps 804 4 (a+i)))),tD 1 (.sl (nE l)),tI 5 (i:Nat),(.o 804,aM 210 4 fO)]) ?_ ?_)))))))))
 · exact wq (σ':=[tV 0 (.e (.c (ps 804 4 (a+0)))),tD 1 (.sl (nE l)),tI 5 (0:Nat),(.o 804,aM 210 4 fO)]) [] [] (⟨0,rfl,⟨aW6 _,ha⟩,rfl⟩) qz
 rintro n s ⟨i,rfl,hi,rfl⟩
 refine sq (sq (rT [0,1,5,14] (s5 (y1 (aEe cX rfl rfl rfl rfl rfl rk (y1 (ai pk (cd rfl (fun c14=> ?_) fun c14=> ?_))))))))
 · have hi2:i<l.length∧a+i<30:=by simp[lR] at c14;omega
   have hg:=yh (l:=l) hi2.1
   have hfp:=hp _ (dG (z:=cH.zero) hi2.1)
   refine sk (sq (bk (rD [0,1,5] (s3 (ai (by rw[aWz,hg];exact⟨⟨by omega,by rw[lR];omega⟩,rfl⟩) (s1 (ai (by rw[aWz,hg];exact⟨aW1 rfl,rfl⟩) (s2 (ai (by rw[aWz,hg];exact⟨⟨by omega,by rw[lR];omega⟩,rfl⟩) (s1 (ai (by rw[aWz,hg];exact⟨aW1 rfl,rfl⟩) (s2 (ai (by rw[aWz,hg];exact⟨⟨by omega,by rw[lR];omega⟩,rfl⟩) (ai (by rw[aWz,hg];exact⟨aW1 rfl,rfl⟩) (bE (robj:=[]) (rl:=[(0,32)]) (bor:=[]) (sI (l.getD i .zero)) rfl rfl rfl rfl ⟨dN rfl (by rw[aWz,hg];exact(aD rfl (aD rfl (aD rfl (aD rfl (aD rfl (aD rfl (aD rfl (aD rfl (aD rfl (aD rfl aL))))))))))) trivial,rfl⟩ rfl (.inl rfl) (fun p hp=>nomatch hp) (fun j hj=>by(obtain rfl:j=0:=by simpa[jV,cA,iH] using hj);rfl) ?_)))))))))))))))
   refine ai (by exact⟨aS _,by rw[cI]⟩) (s2 (oe (m:=1) (z:=[.i 0,.i 0,.s [],.b false]) cX rfl rfl rfl rfl rfl rfl rfl rfl yg (kl cX (by decide) rfl rfl rfl (fun r hr=> ?_) rfl) ?_ ?_))
   · rw[List.mem_singleton.1 hr,aWz,hg]
     exact⟨rfl,⟨_,_,_,_⟩,rfl,hfp.1,by have:=aAa (l.getD i .zero);show(jP (aA (pS (l.getD i .zero)))).length≤1000;rw[cI];omega⟩
   · show(a+i+1)*40≤_;omega
   refine s1 (ai (by kernel_rfl) (rT [0,1,5] (s3 (wq [] [] (⟨l.length - (i+1),by omega,i+1,rfl,by omega,rfl⟩) ?_))))
   repeat' apply ai
   all_goals first|exact qx|exact congrArg D.i (by rw[aC (by omega)];omega)|omega|exact qz
 have hi3:i=l.length∨a+i=30:=by simp[lR] at c14;omega
 refine xt (sq (rT [4] (s2 (rt (eC _ [] [] rfl (aOj rfl rfl ?_ rfl (aY rfl rfl trivial)) rfl rfl)))))
 unfold gr;omega
theorem yz (a b:Int):Sp 216 2 [tI 0 a,tI 1 b] [tI 0 (dm a b)]:=by
 refine sb Tryz.func216 rfl (sq (rT [0,1] (s1 (sq (sq (rT [0,1,7] (s3 (cd rfl (fun c7=> ?_) fun c7=> ?_))))))))
 · refine sq (rT [4] (s2 (rt (bJ rfl (congrArg D.i ?_)))))
   simp[dm] at *; omega
 refine sk (sq (rT [4] (s2 (rt (bJ rfl (congrArg D.i ?_))))))
 simp[dm] at *; omega
set_option maxHeartbeats 3200000 in
theorem aA4 (tm:Int) (ks:List aH) (ls:List Bool) (a b c:Nat) (e:EvR) (hw:zt ks ls a b c) (htx:e.text.length≤1000) (hat:0≤e.at_∧e.at_≤3):nj 220 2 [tV 0 (.e (.agg [.d (.i (tm)),.own 802 4,.own 803 3,ps 804 4 (a),ps 805 5 (b),ps 806 5 (c)])),(.t 1,.v e.V),oR 802 27 5 (aI ks),oR 803 4 1 (aN ls),(.o 804,aM 210 4 fO),(.o 805,aM 58 5 cN),(.o 806,aM 58 5 cN)] (fun s=> ∃(tm:Int) (ks:List aH) (ls:List Bool) (a b c:Nat) (ok:Bool),zt ks ls a b c∧s=[tV 0 (.tup [.agg [.d (.i (tm)),.own 802 4,.own 803 3,ps 804 4 (a),ps 805 5 (b),ps 806 5 (c)],.c (.d (.b (ok)))]),oR 802 27 5 (aI ks),oR 803 4 1 (aN ls),(.o 804,aM 210 4 fO),(.o 805,aM 58 5 cN),(.o 806,aM 58 5 cN)]):=by
 obtain⟨i,hi,hil⟩:=ap hat
 have hks:=hw.at hil
 refine pj Tryz.func220 rfl (sq (rT [2,3,4] (s4 (sq (sq (rT [2,3,4,11] (s2 (ip cX rfl rfl rfl rfl rfl (s1 (cd rfl (fun c11=> ?_) fun c11=> ?_))))))))))
 · refine sq (rT [4,5] (s3 (rt (cU [tV 0 (.tup [.agg [.d (.i (tm)),.own 802 4,.own 803 3,ps 804 4 (a),ps 805 5 (b),ps 806 5 (c)],.c (.d (.b (false)))]),oR 802 27 5 (aI ks),oR 803 4 1 (aN ls),(.o 804,aM 210 4 fO),(.o 805,aM 58 5 cN),(.o 806,aM 58 5 cN)] ⟨tm,ks,ls,a,b,c,false,hw,rfl⟩ (rq [] [] rfl ?_)))))
   repeat' apply ai
   all_goals try exact qx
   all_goals(first|with_reducible rfl|(rw[hi,aWz];exact bK (by rw[hw.four];exact hil))|rfl)
 have hb6:b<6:=by simp at c11;omega
 refine sk (sq (rD [2,3,4,6,7] (s4 (ai (by rw[hi];exact⟨by rw[bI];exact hw.four,by omega,by omega⟩) (ai (by rw[hi,aWz,cG (by rw[hw.four];exact hil)];exact⟨⟨by rw[bI];exact hw.four,hil⟩,aW1 rfl,rfl⟩) (s6 (xp (qf (ks.getD i .zero) e.dst e.til e.text (by have:=hks.1;omega) (by omega)) (ai (by rw[hi,aWz,cG (by rw[hw.four];exact hil)];rfl) ?_))))))))
 refine s6 (ai (by kernel_rfl) (sq (sq (rT [2,3,4,6,7,30] (s2 (cd rfl (fun c30=> ?_) fun c30=> ?_))))))
 · refine sq (rT [4,5] (s3 (rt (cU [tV 0 (.tup [.agg [.d (.i (tm)),.own 802 4,.own 803 3,ps 804 4 (a),ps 805 5 (b),ps 806 5 (c)],.c (.d (.b (false)))]),oR 802 27 5 (aI ks),oR 803 4 1 (aN ls),(.o 804,aM 210 4 fO),(.o 805,aM 58 5 cN),(.o 806,aM 58 5 cN)] ⟨tm,ks,ls,a,b,c,false,hw,rfl⟩ (rq [] [] rfl ?_)))))
   repeat' apply ai
   all_goals try exact qx
   all_goals(first|with_reducible rfl|(rw[hi,aWz];exact bK (by rw[hw.four];exact hil))|rfl)
 refine sk (sq (rT [2,3,4,7] (s5 (ai (by rw[hi];exact⟨by rw[bI];exact hw.four,by omega,by omega⟩) (ai (by rw[hi,aWz,cG (by rw[hw.four];exact hil)];exact⟨by rw[bI];exact hw.four,hil,rfl,aW1 rfl⟩) (sq (wa [tP 2 2,tP 3 3,tP 4 4,tI 7 ((dX (ks.getD i .zero) e.dst e.til e.text).2),oB 2 99 [.d (.i (tm)),.own 802 4,.own 803 3,ps 804 4 (a),ps 805 5 (b),ps 806 5 (c)],oB 3 157 [.d (.i e.kind),.d (.i e.at_),.d (.i e.frm),.d (.i e.num),.d (.i e.word),.d (.i e.mix),.d (.i e.keep),.d (.i e.dst),.d (.i e.til),.d (.s e.text)],oB 4 99 [.d (.i 0),.nil,.nil,.nil,.nil,.nil],oB 6 27 [.d (.i (((dX (ks.getD i .zero) e.dst e.til e.text).1)).id),.d (.b (((dX (ks.getD i .zero) e.dst e.til e.text).1)).up),.d (.s (((dX (ks.getD i .zero) e.dst e.til e.text).1)).log),.d (.i (((dX (ks.getD i .zero) e.dst e.til e.text).1)).forced),.d (.sl (aX (((dX (ks.getD i .zero) e.dst e.til e.text).1)).halves))],oR 802 27 5 (aI (ks.set i (dX (ks.getD i .zero) e.dst e.til e.text).1)),oR 803 4 1 (aN ls),(.o 804,aM 210 4 fO),(.o 805,aM 58 5 cN),(.o 806,aM 58 5 cN)] [] [] ?_ ?_)))))))
 · repeat' apply ai
   all_goals first|exact qx|(rw[hi,aWz];exact bK (k:=(dX (ks.getD i .zero) e.dst e.til e.text).1) (by rw[hw.four];exact hil))|rfl|exact qz
 refine rT [2,4] (s9 (s4 (oe (m:=1) (z:=[.i 0,.i 0,.i 0,.i 0,.s []]) cX rfl rfl rfl rfl rfl rfl rfl rfl aG3 (kl cX (by decide) rfl rfl rfl (fun r hr=> ?_) rfl) ?_ ?_)))
 · rw[List.mem_singleton.1 hr]
   exact⟨rfl,⟨_,_,_,_,_⟩,rfl,by show e.text.length≤1000000;omega⟩
 · have:=hw.rb;show(_+1)*48≤_;omega
 refine s2 (sq (rT [4,5] (s3 (rt (cU [tV 0 (.tup [.agg [.d (.i (tm)),.own 802 4,.own 803 3,ps 804 4 (a),ps 805 5 ((b+1)),ps 806 5 (c)],.c (.d (.b (true)))]),oR 802 27 5 (aI (ks.set i (dX (ks.getD i .zero) e.dst e.til e.text).1)),oR 803 4 1 (aN ls),(.o 804,aM 210 4 fO),(.o 805,aM 58 5 cN),(.o 806,aM 58 5 cN)] ⟨tm,(ks.set i (dX (ks.getD i .zero) e.dst e.til e.text).1),ls,a,(b+1),c,true,((hw.set (aMw hks) i).to hw.ra (by omega) hw.rc),rfl⟩ (rq [] [] rfl ?_))))))
 repeat' apply ai
 all_goals try exact qx
 all_goals(first|with_reducible rfl|(rw[hi,aWz];exact bK (by rw[hw.four];exact hil))|rfl)
set_option maxHeartbeats 6400000 in
theorem qj (tm:Int) (ks:List aH) (ls:List Bool) (a b c:Nat) (e:EvR) (hw:zt ks ls a b c) (htx:e.text.length≤1000) (hat:0≤e.at_∧e.at_≤3):nj 205 2 [tV 0 (.e (.agg [.d (.i (tm)),.own 802 4,.own 803 3,ps 804 4 (a),ps 805 5 (b),ps 806 5 (c)])),(.t 1,.v e.V),oR 802 27 5 (aI ks),oR 803 4 1 (aN ls),(.o 804,aM 210 4 fO),(.o 805,aM 58 5 cN),(.o 806,aM 58 5 cN)] (fun s=> ∃(tm:Int) (ks:List aH) (ls:List Bool) (a b c:Nat) (ok:Bool),zt ks ls a b c∧s=[tV 0 (.tup [.agg [.d (.i (tm)),.own 802 4,.own 803 3,ps 804 4 (a),ps 805 5 (b),ps 806 5 (c)],.c (.d (.b (ok)))]),oR 802 27 5 (aI ks),oR 803 4 1 (aN ls),(.o 804,aM 210 4 fO),(.o 805,aM 58 5 cN),(.o 806,aM 58 5 cN)]):=by
 obtain⟨i,hi,hil⟩:=ap hat
 have hks:=hw.at hil
 refine pj Tryz.func205 rfl (sq (rT [2,3,4] (s4 (sq (rT [2,3,4,6] (s4 (ai (by rw[hi];exact⟨by rw[bI];exact hw.four,by omega,by omega⟩) (ai (by rw[hi,aWz,cG (by rw[hw.four];exact hil)];exact⟨⟨by rw[bI];exact hw.four,hil⟩,aW1 rfl,rfl⟩) (s2 (sq (wa [tP 2 2,tP 3 3,tP 4 4,tP 6 6,oB 2 99 [.d (.i (tm)),.own 802 4,.own 803 3,ps 804 4 (a),ps 805 5 (b),ps 806 5 (c)],oB 3 157 [.d (.i e.kind),.d (.i e.at_),.d (.i e.frm),.d (.i e.num),.d (.i e.word),.d (.i e.mix),.d (.i e.keep),.d (.i e.dst),.d (.i e.til),.d (.s e.text)],oB 4 99 [.d (.i 0),.nil,.nil,.nil,.nil,.nil],oB 6 27 [.d (.i ((ks.getD i .zero)).id),.d (.b ((ks.getD i .zero)).up),.d (.s ((ks.getD i .zero)).log),.d (.i ((ks.getD i .zero)).forced),.d (.sl (aX ((ks.getD i .zero)).halves))],oR 802 27 5 (aI ks),oR 803 4 1 (aN ls),(.o 804,aM 210 4 fO),(.o 805,aM 58 5 cN),(.o 806,aM 58 5 cN)] [] [] ?_ ?_)))))))))))
 · repeat' apply ai
   all_goals first|exact qx|(rw[hi,aWz,cG (by rw[hw.four];exact hil)];rfl)|exact qz
 refine rT [2,3,4,6,7] (s1 (SW.midW (fun q=> ∃(ks2:List aH) (ok2:Bool),zt ks2 ls a b c∧q=[tP 2 2,tP 4 4,tB 7 ok2,oB 2 99 [.d (.i (tm)),.own 802 4,.own 803 3,ps 804 4 (a),ps 805 5 (b),ps 806 5 (c)],oB 3 157 [.d (.i e.kind),.d (.i e.at_),.d (.i e.frm),.d (.i e.num),.d (.i e.word),.d (.i e.mix),.d (.i e.keep),.d (.i e.dst),.d (.i e.til),.d (.s e.text)],oB 4 99 [.d (.i 0),.nil,.nil,.nil,.nil,.nil],oR 802 27 5 (aI ks2),oR 803 4 1 (aN ls),(.o 804,aM 210 4 fO),(.o 805,aM 58 5 cN),(.o 806,aM 58 5 cN)]) ?_ ?_))
 · refine sq (rT [2,3,4,6,7,20] (s2 (bk (sq (rT [2,3,4,6,7,20,21] (s2 (cd rfl (fun c21=> ?_) fun c21=> ?_)))))))
   · refine sq (rE [4,5] (s2 (cQ (robj:=[(802,.row 27 5 (aI ks)),(803,.row 4 1 (aN ls)),(804,aM 210 4 fO),(805,aM 58 5 cN),(806,aM 58 5 cN)]) (rl:=[]) (bor:=[]) (news:=[]) (aA4 tm ks ls a b c e hw htx hat) rfl rfl rfl rfl ⟨dN rfl (aD rfl (bP rfl rfl rfl (bP rfl rfl rfl (bH rfl rfl rfl (bH rfl rfl rfl (bH rfl rfl rfl aL)))))) (dN rfl (aD rfl (aD rfl (aD rfl (aD rfl (aD rfl (aD rfl (aD rfl (aD rfl (aD rfl (aD rfl aL)))))))))) (bV rfl rfl (bV rfl rfl (aY rfl rfl (aY rfl rfl (aY rfl rfl trivial)))))),rfl⟩ (by rintro _ ⟨tm2,ks2,ls2,a2,b2,c2,ok2,hw2,rfl⟩;exact⟨rfl,.inl rfl,fun j hj=>nomatch hj⟩) (aK ⟨rfl,rfl,rfl,rfl,rfl,trivial⟩) (fun j hj=>nomatch hj) ?_)))
     rintro _ ⟨tm2,ks2,ls2,a2,b2,c2,ok2,hw2,rfl⟩
     refine s4 (rt (cU [tV 0 (.tup [.agg [.d (.i (tm2)),.own 802 4,.own 803 3,ps 804 4 (a2),ps 805 5 (b2),ps 806 5 (c2)],.c (.d (.b (ok2)))]),oR 802 27 5 (aI ks2),oR 803 4 1 (aN ls2),(.o 804,aM 210 4 fO),(.o 805,aM 58 5 cN),(.o 806,aM 58 5 cN)] ⟨tm2,ks2,ls2,a2,b2,c2,ok2,hw2,rfl⟩ (rq [] [] rfl ?_)))
     repeat' apply ai
     all_goals try exact qx
     all_goals(first|with_reducible rfl|(rw[hi,aWz];exact bK (by rw[hw.four];exact hil))|rfl)
   refine sq (rT [2,3,4,6,7,20,28] (s2 (cd rfl (fun c28=> ?_) fun c28=> ?_)))
   · refine rD [2,4,7] (s5 (xp (my (ks.getD i .zero) (by have:=hks.1;omega)) (ai rfl ?_)))
     refine s3 (ai (by rw[hi];exact⟨by rw[bI];exact hw.four,by omega,by omega⟩) (ai (by rw[hi,aWz,cG (by rw[hw.four];exact hil)];exact⟨by rw[bI];exact hw.four,hil,rfl,aW1 rfl⟩) (s1 (ai (by kernel_rfl) ?_))))
     first
     |(refine wq [] [] (⟨(ks.set i (eA (ks.getD i .zero)).1),(eA (ks.getD i .zero)).2,(hw.set (am hks) i),rfl⟩) ?_
       repeat' apply ai
       all_goals try exact qx
       all_goals(first|with_reducible rfl|(rw[hi,aWz];exact bK (by rw[hw.four];exact hil))|rfl))
     |(refine wq [] [] (⟨(ks.set i (bU (ks.getD i .zero)).1),(bU (ks.getD i .zero)).2,(hw.set (ao hks) i),rfl⟩) ?_
       repeat' apply ai
       all_goals try exact qx
       all_goals(first|with_reducible rfl|(rw[hi,aWz];exact bK (by rw[hw.four];exact hil))|rfl))
     |(refine wq [] [] (⟨(ks.set i (bX (ks.getD i .zero)).1),(bX (ks.getD i .zero)).2,(hw.set (wR hks) i),rfl⟩) ?_
       repeat' apply ai
       all_goals try exact qx
       all_goals(first|with_reducible rfl|(rw[hi,aWz];exact bK (by rw[hw.four];exact hil))|rfl))
     |(refine wq [] [] (⟨ks,false,hw,rfl⟩) ?_
       repeat' apply ai
       all_goals try exact qx
       all_goals(first|with_reducible rfl|(rw[hi,aWz];exact bK (by rw[hw.four];exact hil))|rfl))
   refine sq (rT [2,3,4,6,7,20,40] (s2 (cd rfl (fun c40=> ?_) fun c40=> ?_)))
   · refine sq (rT [2,4,8,9] (s7 (xp (qc (ks.getD i .zero) e.frm e.num e.mix (by have:=hks.1;omega)) (ai rfl ?_))))
     refine s6 (sq (sq (rT [2,4,8,9,53] (s1 (cd rfl (fun c53=> ?_) fun c53=> ?_)))))
     · refine rE [2,4,9] (s4 (zF 57 57 rfl rfl rfl (by rfl) (iA (bE (robj:=[(804,aM 210 4 fO)]) (rl:=[]) (bor:=[]) (eg a [(eO (ks.getD i .zero) e.frm e.num e.mix).1] hw.ra (by simp) (fun f hf=>by rw[List.mem_singleton.1 hf];exact aU3 c53)) rfl rfl rfl rfl ⟨aOj rfl rfl rfl rfl (cJ rfl rfl (aY rfl rfl trivial)),rfl⟩ rfl (.inl rfl) (aK ⟨rfl,trivial⟩) (fun j hj=>nomatch hj) (s2 (sq (rT [4,5] (s4 (rt ?_)))))))))
       first
       |(refine cU [tV 0 (.tup [.agg [.d (.i (tm)),.own 802 4,.own 803 3,ps 804 4 ((gr a 1)),ps 805 5 (b),ps 806 5 (c)],.c (.d (.b ((eO (ks.getD i .zero) e.frm e.num e.mix).2)))]),oR 802 27 5 (aI ks),oR 803 4 1 (aN ls),(.o 804,aM 210 4 fO),(.o 805,aM 58 5 cN),(.o 806,aM 58 5 cN)] ⟨tm,ks,ls,(gr a 1),b,c,(eO (ks.getD i .zero) e.frm e.num e.mix).2,(hw.to (yi hw.ra) hw.rb hw.rc),rfl⟩ (rq [] [] rfl ?_)
         repeat' apply ai
         all_goals try exact qx
         all_goals(first|with_reducible rfl|(rw[hi,aWz];exact bK (by rw[hw.four];exact hil))|rfl))
       |(refine cU [tV 0 (.tup [.agg [.d (.i (tm)),.own 802 4,.own 803 3,ps 804 4 (a),ps 805 5 (b),ps 806 5 (c)],.c (.d (.b ((eO (ks.getD i .zero) e.frm e.num e.mix).2)))]),oR 802 27 5 (aI ks),oR 803 4 1 (aN ls),(.o 804,aM 210 4 fO),(.o 805,aM 58 5 cN),(.o 806,aM 58 5 cN)] ⟨tm,ks,ls,a,b,c,(eO (ks.getD i .zero) e.frm e.num e.mix).2,hw,rfl⟩ (rq [] [] rfl ?_)
         repeat' apply ai
         all_goals try exact qx
         all_goals(first|with_reducible rfl|(rw[hi,aWz];exact bK (by rw[hw.four];exact hil))|rfl))
     refine sk (sq (rT [4,5] (s4 (rt ?_))))
     first
     |(refine cU [tV 0 (.tup [.agg [.d (.i (tm)),.own 802 4,.own 803 3,ps 804 4 ((gr a 1)),ps 805 5 (b),ps 806 5 (c)],.c (.d (.b ((eO (ks.getD i .zero) e.frm e.num e.mix).2)))]),oR 802 27 5 (aI ks),oR 803 4 1 (aN ls),(.o 804,aM 210 4 fO),(.o 805,aM 58 5 cN),(.o 806,aM 58 5 cN)] ⟨tm,ks,ls,(gr a 1),b,c,(eO (ks.getD i .zero) e.frm e.num e.mix).2,(hw.to (yi hw.ra) hw.rb hw.rc),rfl⟩ (rq [] [] rfl ?_)
       repeat' apply ai
       all_goals try exact qx
       all_goals(first|with_reducible rfl|(rw[hi,aWz];exact bK (by rw[hw.four];exact hil))|rfl))
     |(refine cU [tV 0 (.tup [.agg [.d (.i (tm)),.own 802 4,.own 803 3,ps 804 4 (a),ps 805 5 (b),ps 806 5 (c)],.c (.d (.b ((eO (ks.getD i .zero) e.frm e.num e.mix).2)))]),oR 802 27 5 (aI ks),oR 803 4 1 (aN ls),(.o 804,aM 210 4 fO),(.o 805,aM 58 5 cN),(.o 806,aM 58 5 cN)] ⟨tm,ks,ls,a,b,c,(eO (ks.getD i .zero) e.frm e.num e.mix).2,hw,rfl⟩ (rq [] [] rfl ?_)
       repeat' apply ai
       all_goals try exact qx
       all_goals(first|with_reducible rfl|(rw[hi,aWz];exact bK (by rw[hw.four];exact hil))|rfl))
   refine sq (rT [2,3,4,6,7,20,62] (s2 (cd rfl (fun c62=> ?_) fun c62=> ?_)))
   · refine sq (rD [2,4,6] (s7 (xp (rL (ks.getD i .zero) e.keep (by have:=hks.1;omega)) (ai rfl ?_))))
     refine ai (by rw[hi];exact⟨by rw[bI];exact hw.four,by omega,by omega⟩) (ai (by rw[hi,aWz,cG (by rw[hw.four];exact hil)];exact⟨by rw[bI];exact hw.four,hil,rfl,aW1 rfl⟩) (ai (by kernel_rfl) (sq (rD [4,5] (s5 (ai (by kernel_rfl) (rt (cU [tV 0 (.tup [.agg [.d (.i (tm)),.own 802 4,.own 803 3,ps 804 4 (a),ps 805 5 (b),ps 806 5 (c)],.c (.d (.b ((ks.getD i .zero).up)))]),oR 802 27 5 (aI (ks.set i (bZ (ks.getD i .zero) e.keep))),oR 803 4 1 (aN ls),(.o 804,aM 210 4 fO),(.o 805,aM 58 5 cN),(.o 806,aM 58 5 cN)] ⟨tm,(ks.set i (bZ (ks.getD i .zero) e.keep)),ls,a,b,c,(ks.getD i .zero).up,(hw.set (aJh hks) i),rfl⟩ (rq [] [] rfl ?_)))))))))
     repeat' apply ai
     all_goals try exact qx
     all_goals(first|with_reducible rfl|(rw[hi,aWz];exact bK (k:=(bZ (ks.getD i .zero) e.keep)) (by rw[hw.four];exact hil))|rfl)
   refine sq (rT [2,3,4,6,7,20,76] (s2 (cd rfl (fun c76=> ?_) fun c76=> ?_)))
   · refine sq (rD [2,4,6] (s5 (xp (wV (ks.getD i .zero) (by have:=hks.1;omega)) (ai rfl ?_))))
     refine ai (by rw[hi];exact⟨by rw[bI];exact hw.four,by omega,by omega⟩) (ai (by rw[hi,aWz,cG (by rw[hw.four];exact hil)];exact⟨by rw[bI];exact hw.four,hil,rfl,aW1 rfl⟩) (ai (by kernel_rfl) (sq (rD [4,5] (s6 (ai (by kernel_rfl) (rt (cU [tV 0 (.tup [.agg [.d (.i (tm)),.own 802 4,.own 803 3,ps 804 4 (a),ps 805 5 (b),ps 806 5 (c)],.c (.d (.b ((!(ks.getD i .zero).up))))]),oR 802 27 5 (aI (ks.set i (cS (ks.getD i .zero)))),oR 803 4 1 (aN ls),(.o 804,aM 210 4 fO),(.o 805,aM 58 5 cN),(.o 806,aM 58 5 cN)] ⟨tm,(ks.set i (cS (ks.getD i .zero))),ls,a,b,c,(!(ks.getD i .zero).up),(hw.set (aJi hks) i),rfl⟩ (rq [] [] rfl ?_)))))))))
     repeat' apply ai
     all_goals try exact qx
     all_goals(first|with_reducible rfl|(rw[hi,aWz];exact bK (k:=(cS (ks.getD i .zero))) (by rw[hw.four];exact hil))|rfl)
   refine sq (rT [2,3,4,6,7,20,89] (s2 (cd rfl (fun c89=> ?_) fun c89=> ?_)))
   · refine sq (rT [2,3,4,10,11,12] (s5 (xp (qg (ks.getD i .zero) e.frm e.num (by have:=hks.1;omega)) (ai rfl ?_))))
     refine s9 (sq (sq (wa [tP 2 2,tP 3 3,tP 4 4,tP 10 10,tP 11 11,tB 12 ((cO (ks.getD i .zero) e.frm e.num).2.2),oB 2 99 [.d (.i (tm)),.own 802 4,.own 803 3,ps 804 4 (a),ps 805 5 (b),ps 806 5 (c)],oB 3 157 [.d (.i e.kind),.d (.i e.at_),.d (.i e.frm),.d (.i e.num),.d (.i e.word),.d (.i e.mix),.d (.i e.keep),.d (.i e.dst),.d (.i e.til),.d (.s e.text)],oB 4 99 [.d (.i 0),.nil,.nil,.nil,.nil,.nil],oB 10 27 [.d (.i (((cO (ks.getD i .zero) e.frm e.num).1)).id),.d (.b (((cO (ks.getD i .zero) e.frm e.num).1)).up),.d (.s (((cO (ks.getD i .zero) e.frm e.num).1)).log),.d (.i (((cO (ks.getD i .zero) e.frm e.num).1)).forced),.d (.sl (aX (((cO (ks.getD i .zero) e.frm e.num).1)).halves))],oB 11 58 [.d (.i (cO (ks.getD i .zero) e.frm e.num).2.1.frm),.d (.i (cO (ks.getD i .zero) e.frm e.num).2.1.num),.d (.i (cO (ks.getD i .zero) e.frm e.num).2.1.to),.d (.i (cO (ks.getD i .zero) e.frm e.num).2.1.til),.d (.s (cO (ks.getD i .zero) e.frm e.num).2.1.text)],oR 802 27 5 (aI ks),oR 803 4 1 (aN ls),(.o 804,aM 210 4 fO),(.o 805,aM 58 5 cN),(.o 806,aM 58 5 cN)] [] [] qz (rT [2,3,4,10,11,107] (s2 (y2 (aEe cX rfl rfl rfl rfl rfl rk ?_)))))))
     refine y1 (ai pk (cd rfl (fun c107=> ?_) fun c107=> ?_))
     · have hc6:c<6:=by simp at c107;omega
       refine sq (rT [2,4,11] (s5 (ai (by rw[hi];exact⟨by rw[bI];exact hw.four,by omega,by omega⟩) (ai (by rw[hi,aWz,cG (by rw[hw.four];exact hil)];exact⟨by rw[bI];exact hw.four,hil,rfl,aW1 rfl⟩) (sq (wa [tP 2 2,tP 4 4,tP 11 11,oB 2 99 [.d (.i (tm)),.own 802 4,.own 803 3,ps 804 4 (a),ps 805 5 (b),ps 806 5 (c)],oB 3 157 [.d (.i e.kind),.d (.i e.at_),.d (.i e.frm),.d (.i e.num),.d (.i e.word),.d (.i e.mix),.d (.i e.keep),.d (.i e.dst),.d (.i e.til),.d (.s e.text)],oB 4 99 [.d (.i 0),.nil,.nil,.nil,.nil,.nil],oB 11 58 [.d (.i (cO (ks.getD i .zero) e.frm e.num).2.1.frm),.d (.i (cO (ks.getD i .zero) e.frm e.num).2.1.num),.d (.i (cO (ks.getD i .zero) e.frm e.num).2.1.to),.d (.i (cO (ks.getD i .zero) e.frm e.num).2.1.til),.d (.s (cO (ks.getD i .zero) e.frm e.num).2.1.text)],oR 802 27 5 (aI (ks.set i (cO (ks.getD i .zero) e.frm e.num).1)),oR 803 4 1 (aN ls),(.o 804,aM 210 4 fO),(.o 805,aM 58 5 cN),(.o 806,aM 58 5 cN)] [] [] ?_ ?_))))))
       · repeat' apply ai
         all_goals first|exact qx|(rw[hi,aWz];exact bK (k:=(cO (ks.getD i .zero) e.frm e.num).1) (by rw[hw.four];exact hil))|rfl|exact qz
       refine rT [2,4] (s4 (oe (m:=1) (z:=[.i 0,.i 0,.i 0,.i 0,.s []]) cX rfl rfl rfl rfl rfl rfl rfl rfl aG3 (kl cX (by decide) rfl rfl rfl (fun r hr=> ?_) rfl) ?_ ?_))
       · rw[List.mem_singleton.1 hr]
         exact⟨rfl,⟨_,_,_,_,_⟩,rfl,by exact aPk hks⟩
       · have:=hw.rc;show(_+1)*48≤_;omega
       refine s2 (sq (rT [4,5] (s3 (rt (cU [tV 0 (.tup [.agg [.d (.i (tm)),.own 802 4,.own 803 3,ps 804 4 (a),ps 805 5 (b),ps 806 5 ((c+1))],.c (.d (.b (true)))]),oR 802 27 5 (aI (ks.set i (cO (ks.getD i .zero) e.frm e.num).1)),oR 803 4 1 (aN ls),(.o 804,aM 210 4 fO),(.o 805,aM 58 5 cN),(.o 806,aM 58 5 cN)] ⟨tm,(ks.set i (cO (ks.getD i .zero) e.frm e.num).1),ls,a,b,(c+1),true,((hw.set (aMx hks) i).to hw.ra hw.rb (by omega)),rfl⟩ (rq [] [] rfl ?_))))))
       repeat' apply ai
       all_goals try exact qx
       all_goals(first|with_reducible rfl|(rw[hi,aWz];exact bK (by rw[hw.four];exact hil))|rfl)
     refine sk (sq (rT [4,5] (s3 (rt (cU [tV 0 (.tup [.agg [.d (.i (tm)),.own 802 4,.own 803 3,ps 804 4 (a),ps 805 5 (b),ps 806 5 (c)],.c (.d (.b (false)))]),oR 802 27 5 (aI ks),oR 803 4 1 (aN ls),(.o 804,aM 210 4 fO),(.o 805,aM 58 5 cN),(.o 806,aM 58 5 cN)] ⟨tm,ks,ls,a,b,c,false,hw,rfl⟩ (rq [] [] rfl ?_))))))
     repeat' apply ai
     all_goals try exact qx
     all_goals(first|with_reducible rfl|(rw[hi,aWz];exact bK (by rw[hw.four];exact hil))|rfl)
   refine sq (rT [2,3,4,6,7,20,122] (s2 (cd rfl (fun c122=> ?_) fun c122=> ?_)))
   · refine rD [2,4,7] (s5 (xp (wT (ks.getD i .zero) (by have:=hks.1;omega)) (ai rfl ?_)))
     refine s3 (ai (by rw[hi];exact⟨by rw[bI];exact hw.four,by omega,by omega⟩) (ai (by rw[hi,aWz,cG (by rw[hw.four];exact hil)];exact⟨by rw[bI];exact hw.four,hil,rfl,aW1 rfl⟩) (s1 (ai (by kernel_rfl) ?_))))
     first
     |(refine wq [] [] (⟨(ks.set i (eA (ks.getD i .zero)).1),(eA (ks.getD i .zero)).2,(hw.set (am hks) i),rfl⟩) ?_
       repeat' apply ai
       all_goals try exact qx
       all_goals(first|with_reducible rfl|(rw[hi,aWz];exact bK (by rw[hw.four];exact hil))|rfl))
     |(refine wq [] [] (⟨(ks.set i (bU (ks.getD i .zero)).1),(bU (ks.getD i .zero)).2,(hw.set (ao hks) i),rfl⟩) ?_
       repeat' apply ai
       all_goals try exact qx
       all_goals(first|with_reducible rfl|(rw[hi,aWz];exact bK (by rw[hw.four];exact hil))|rfl))
     |(refine wq [] [] (⟨(ks.set i (bX (ks.getD i .zero)).1),(bX (ks.getD i .zero)).2,(hw.set (wR hks) i),rfl⟩) ?_
       repeat' apply ai
       all_goals try exact qx
       all_goals(first|with_reducible rfl|(rw[hi,aWz];exact bK (by rw[hw.four];exact hil))|rfl))
     |(refine wq [] [] (⟨ks,false,hw,rfl⟩) ?_
       repeat' apply ai
       all_goals try exact qx
       all_goals(first|with_reducible rfl|(rw[hi,aWz];exact bK (by rw[hw.four];exact hil))|rfl))
   refine sq (rT [2,3,4,6,7,134] (s2 (cd rfl (fun c134=> ?_) fun c134=> ?_)))
   · refine rD [2,4,7] (s5 (xp (vW (ks.getD i .zero) (by have:=hks.1;omega)) (ai rfl ?_)))
     refine s3 (ai (by rw[hi];exact⟨by rw[bI];exact hw.four,by omega,by omega⟩) (ai (by rw[hi,aWz,cG (by rw[hw.four];exact hil)];exact⟨by rw[bI];exact hw.four,hil,rfl,aW1 rfl⟩) (s1 (ai (by kernel_rfl) ?_))))
     first
     |(refine wq [] [] (⟨(ks.set i (eA (ks.getD i .zero)).1),(eA (ks.getD i .zero)).2,(hw.set (am hks) i),rfl⟩) ?_
       repeat' apply ai
       all_goals try exact qx
       all_goals(first|with_reducible rfl|(rw[hi,aWz];exact bK (by rw[hw.four];exact hil))|rfl))
     |(refine wq [] [] (⟨(ks.set i (bU (ks.getD i .zero)).1),(bU (ks.getD i .zero)).2,(hw.set (ao hks) i),rfl⟩) ?_
       repeat' apply ai
       all_goals try exact qx
       all_goals(first|with_reducible rfl|(rw[hi,aWz];exact bK (by rw[hw.four];exact hil))|rfl))
     |(refine wq [] [] (⟨(ks.set i (bX (ks.getD i .zero)).1),(bX (ks.getD i .zero)).2,(hw.set (wR hks) i),rfl⟩) ?_
       repeat' apply ai
       all_goals try exact qx
       all_goals(first|with_reducible rfl|(rw[hi,aWz];exact bK (by rw[hw.four];exact hil))|rfl))
     |(refine wq [] [] (⟨ks,false,hw,rfl⟩) ?_
       repeat' apply ai
       all_goals try exact qx
       all_goals(first|with_reducible rfl|(rw[hi,aWz];exact bK (by rw[hw.four];exact hil))|rfl))
   refine sk ?_
   first
   |(refine wq [] [] (⟨(ks.set i (eA (ks.getD i .zero)).1),(eA (ks.getD i .zero)).2,(hw.set (am hks) i),rfl⟩) ?_
     repeat' apply ai
     all_goals try exact qx
     all_goals(first|with_reducible rfl|(rw[hi,aWz];exact bK (by rw[hw.four];exact hil))|rfl))
   |(refine wq [] [] (⟨(ks.set i (bU (ks.getD i .zero)).1),(bU (ks.getD i .zero)).2,(hw.set (ao hks) i),rfl⟩) ?_
     repeat' apply ai
     all_goals try exact qx
     all_goals(first|with_reducible rfl|(rw[hi,aWz];exact bK (by rw[hw.four];exact hil))|rfl))
   |(refine wq [] [] (⟨(ks.set i (bX (ks.getD i .zero)).1),(bX (ks.getD i .zero)).2,(hw.set (wR hks) i),rfl⟩) ?_
     repeat' apply ai
     all_goals try exact qx
     all_goals(first|with_reducible rfl|(rw[hi,aWz];exact bK (by rw[hw.four];exact hil))|rfl))
   |(refine wq [] [] (⟨ks,false,hw,rfl⟩) ?_
     repeat' apply ai
     all_goals try exact qx
     all_goals(first|with_reducible rfl|(rw[hi,aWz];exact bK (by rw[hw.four];exact hil))|rfl))
 rintro s ⟨ks2,ok2,hw2,rfl⟩
 refine sq (rT [4,5] (s4 (rt (cU [tV 0 (.tup [.agg [.d (.i (tm)),.own 802 4,.own 803 3,ps 804 4 (a),ps 805 5 (b),ps 806 5 (c)],.c (.d (.b (ok2)))]),oR 802 27 5 (aI ks2),oR 803 4 1 (aN ls),(.o 804,aM 210 4 fO),(.o 805,aM 58 5 cN),(.o 806,aM 58 5 cN)] ⟨tm,ks2,ls,a,b,c,ok2,hw2,rfl⟩ (rq [] [] rfl ?_)))))
 repeat' apply ai
 all_goals try exact qx
 all_goals(first|with_reducible rfl|(rw[hi,aWz];exact bK (by rw[hw.four];exact hil))|rfl)
set_option maxHeartbeats 6400000 in
theorem te (tm:Int) (ks:List aH) (ls:List Bool) (a b c:Nat) (e:EvR) (hw:zt ks ls a b c) (htx:e.text.length≤1000):nj 204 2 [tV 0 (.e (.agg [.d (.i (tm)),.own 802 4,.own 803 3,ps 804 4 (a),ps 805 5 (b),ps 806 5 (c)])),(.t 1,.v e.V),oR 802 27 5 (aI ks),oR 803 4 1 (aN ls),(.o 804,aM 210 4 fO),(.o 805,aM 58 5 cN),(.o 806,aM 58 5 cN)] (fun s=> ∃(tm:Int) (ks:List aH) (ls:List Bool) (a b c:Nat) (ok:Bool),zt ks ls a b c∧s=[tV 0 (.tup [.agg [.d (.i (tm)),.own 802 4,.own 803 3,ps 804 4 (a),ps 805 5 (b),ps 806 5 (c)],.c (.d (.b (ok)))]),oR 802 27 5 (aI ks),oR 803 4 1 (aN ls),(.o 804,aM 210 4 fO),(.o 805,aM 58 5 cN),(.o 806,aM 58 5 cN)]):=by
 refine pj Tryz.func204 rfl (sq (rT [2,3,4] (s4 (sq (sq (rT [2,3,4,19] (s4 (ip cX rfl rfl rfl rfl rfl (s1 (xp (dM _ _ _) (ai rfl ?_)))))))))))
 refine s1 (cd rfl (fun c19=> ?_) fun c19=> ?_)
 · refine sq (rT [4,5] (s3 (rt (cU [tV 0 (.tup [.agg [.d (.i (tm)),.own 802 4,.own 803 3,ps 804 4 (a),ps 805 5 (b),ps 806 5 (c)],.c (.d (.b (false)))]),oR 802 27 5 (aI ks),oR 803 4 1 (aN ls),(.o 804,aM 210 4 fO),(.o 805,aM 58 5 cN),(.o 806,aM 58 5 cN)] ⟨tm,ks,ls,a,b,c,false,hw,rfl⟩ (rq [] [] rfl ?_)))))
   repeat' apply ai
   all_goals try exact qx
   all_goals(first|with_reducible rfl|(rw[hi,aWz];exact bK (by rw[hw.four];exact hil))|rfl)
 have hwd0:0≤e.word∧e.word≤(a:Int) - 1:=by rw[aC (by have:=hw.ra;omega)] at c19;simp[iK] at c19;omega
 refine sk (sq ?_)
 obtain⟨wi,hwi,hwl⟩: ∃wi:Nat,e.word=(wi:Int)∧wi<a:=⟨e.word.toNat,by omega,by omega⟩
 have hwd:0≤e.word∧e.word< (a:Int):=by omega
 refine rE [2,3,4,6] (s4 (iA (aIh cX rfl rfl rfl rfl rfl rfl rfl rfl hwd (aOg cX rfl rfl rfl rfl rfl rfl (aW1 rfl) ?_))))
 rintro _ _ ⟨p,rfl,hpp⟩
 refine s2 (sq (sq (rT [2,3,4,6,29] (s3 (cd rfl (fun c29=> ?_) fun c29=> ?_)))))
 · refine sq (sq (rT [2,3,4,6,47] (s3 (y4 (y2 (xc (fun h=>(dM _ _ _)) (ai rfl (ai rk ?_))))))))
   refine y1 (ai pk (s1 (y2 (xc (fun h=>(dM _ _ _)) (ai rfl (ai rk ?_))))))
   refine y1 (ai pk (cd rfl (fun c47=> ?_) fun c47=> ?_))
   · refine sq (rT [4,5] (s3 (rt (cU [tV 0 (.tup [.agg [.d (.i (tm)),.own 802 4,.own 803 3,ps 804 4 (a),ps 805 5 (b),ps 806 5 (c)],.c (.d (.b (false)))]),oR 802 27 5 (aI ks),oR 803 4 1 (aN ls),(.o 804,aM 210 4 fO),(.o 805,aM 58 5 cN),(.o 806,aM 58 5 cN)] ⟨tm,ks,ls,a,b,c,false,hw,rfl⟩ (rq [] [] rfl ?_)))))
     repeat' apply ai
     all_goals try exact qx
     all_goals(first|with_reducible rfl|(rw[hi,aWz];exact bK (by rw[hw.four];exact hil))|rfl)
   have hpl:=hpp.2
   have hmx:0≤e.mix∧e.mix≤(p.data.length:Int) - 1:=by rw[aC (by omega)] at c47;simp[gb,iK] at c47;omega
   refine sk (sq (rT [2,3,4,7] (s2 (ai (by omega) (s1 (sq ?_))))))
   obtain⟨i,hi,hil⟩: ∃i:Nat,e.mix=(i:Int)∧i<p.data.length:=⟨e.mix.toNat,by omega,by omega⟩
   have hgb:=jJ (l:=p.data) (i:=i) hil
   refine rD [2,3,4,7] (s6 (ai (aWt (by omega) (by omega) rfl) (ai (by rw[hi,aWz,hgb,aS];exact⟨⟨rfl,hil⟩,aXa _,rfl⟩) (s4 (ai (aWt (by omega) (by omega) rfl) (ai (by rw[hi,aWz,hgb,aS];exact⟨rfl,hil,rfl,aXa _⟩) (ai (by kernel_rfl) (sq (wa [tP 2 2,tP 3 3,tP 4 4,tO 7 51 p.data.length,oB 2 99 [.d (.i (tm)),.own 802 4,.own 803 3,ps 804 4 (a),ps 805 5 (b),ps 806 5 (c)],oB 3 157 [.d (.i e.kind),.d (.i e.at_),.d (.i e.frm),.d (.i e.num),.d (.i e.word),.d (.i e.mix),.d (.i e.keep),.d (.i e.dst),.d (.i e.til),.d (.s e.text)],oB 4 99 [.d (.i 0),.nil,.nil,.nil,.nil,.nil],oR 802 27 5 (aI ks),oR 803 4 1 (aN ls),(.o 804,aM 210 4 fO),(.o 805,aM 58 5 cN),(.o 806,aM 58 5 cN),oR 51 5 1 (aA ((p.data.set i (u8 (nk ((p.data.getD i 0).toNat:Int) (jA e.keep))))))] [] [] ?_ ?_)))))))))
   · repeat' apply ai
     all_goals first|exact qx|(rw[List.length_set];done)|(simp[aS];done)|(rw[hi,aWz,hgb];refine Eq.trans ?_ (aOt hil (ir _ _));rw[hgb];rfl)|exact qz
   refine rT [2,3,4] (s5 (ai (by exact⟨by first|exact aS _|(simp[aS];done),by rw[cI]⟩) (aIh cX rfl rfl rfl rfl rfl rfl rfl rfl hwd (aOe cX rfl rfl rfl rfl rfl (aFi cX rfl rfl rfl rfl rfl rfl rfl rfl rfl (aW1 rfl) ?_ ?_)))))
   · rintro r hr ⟨q,rfl,hq⟩
     exact⟨⟨q.frm,q.to,(p.data.set i (u8 (nk ((p.data.getD i 0).toNat:Int) (jA e.keep)))),q.done⟩,congrArg (fun z=>[D.i q.frm,D.i q.to,D.s z,D.b q.done]) (cI _),hq.1,by show((p.data.set i (u8 (nk ((p.data.getD i 0).toNat:Int) (jA e.keep))))).length≤1000;rw[List.length_set];exact hpp.2⟩
   refine sq (rT [2,4] (s4 (aIh cX rfl rfl rfl rfl rfl rfl rfl rfl hwd (aOe cX rfl rfl rfl rfl rfl (aFi cX rfl rfl rfl rfl rfl rfl rfl rfl rfl (aW1 rfl) ?_ ?_)))))
   · rintro r hr ⟨q,rfl,hq⟩
     exact⟨⟨q.frm,q.to,q.data,true⟩,rfl,hq⟩
   refine sq (rT [4,5] (s3 (rt (cU [tV 0 (.tup [.agg [.d (.i (tm)),.own 802 4,.own 803 3,ps 804 4 (a),ps 805 5 (b),ps 806 5 (c)],.c (.d (.b (true)))]),oR 802 27 5 (aI ks),oR 803 4 1 (aN ls),(.o 804,aM 210 4 fO),(.o 805,aM 58 5 cN),(.o 806,aM 58 5 cN)] ⟨tm,ks,ls,a,b,c,true,hw,rfl⟩ (rq [] [] rfl ?_)))))
   repeat' apply ai
   all_goals try exact qx
   all_goals(first|with_reducible rfl|(rw[hi,aWz];exact bK (by rw[hw.four];exact hil))|rfl)
 refine sk (sq (sq ?_))
 obtain⟨q,hq,hql⟩: ∃q:Nat,dm p.frm p.to=(q:Int)∧q<3:=by have h9:=aEb hpp.1;exact⟨(dm p.frm p.to).toNat,by omega,by omega⟩
 refine rD [2,3,4,6,94] (s4 (y4 (y2 (xc (fun h=>(yz p.frm p.to)) (ai rfl (ai rk ?_))))))
 refine ai (fun h=>(by rw[hq];exact⟨by rw[cW];exact hw.three,by omega,by omega⟩)) (ai rk (ai (fun h=>(by rw[hq,aWz,lJ (by rw[hw.three];exact hql)];exact⟨⟨by rw[cW];exact hw.three,hql⟩,aW1 rfl,rfl⟩)) (ai rk (y1 (ai pk (ai (by kernel_rfl) (cd rfl (fun c94=> ?_) fun c94=> ?_)))))))
 · refine sq (rT [4,5] (s3 (rt (cU [tV 0 (.tup [.agg [.d (.i (tm)),.own 802 4,.own 803 3,ps 804 4 (a),ps 805 5 (b),ps 806 5 (c)],.c (.d (.b (false)))]),oR 802 27 5 (aI ks),oR 803 4 1 (aN ls),(.o 804,aM 210 4 fO),(.o 805,aM 58 5 cN),(.o 806,aM 58 5 cN)] ⟨tm,ks,ls,a,b,c,false,hw,rfl⟩ (rq [] [] rfl ?_)))))
   repeat' apply ai
   all_goals try exact qx
   all_goals(first|with_reducible rfl|(rw[hi,aWz];exact bK (by rw[hw.four];exact hil))|rfl)
 refine sk (SW.midL (fun a2:Nat=>zt ks ls a2 b c) (fun a2=>[tP 2 2,tP 3 3,tP 4 4,tP 6 6,oB 2 99 [.d (.i (tm)),.own 802 4,.own 803 3,ps 804 4 (a2),ps 805 5 (b),ps 806 5 (c)],oB 3 157 [.d (.i e.kind),.d (.i e.at_),.d (.i e.frm),.d (.i e.num),.d (.i e.word),.d (.i e.mix),.d (.i e.keep),.d (.i e.dst),.d (.i e.til),.d (.s e.text)],oB 4 99 [.d (.i 0),.nil,.nil,.nil,.nil,.nil],oB 6 210 [.d (.i p.frm),.d (.i p.to),.d (.s p.data),.d (.b p.done)],oR 802 27 5 (aI ks),oR 803 4 1 (aN ls),(.o 804,aM 210 4 fO),(.o 805,aM 58 5 cN),(.o 806,aM 58 5 cN)]) ?_ ?_)
 · refine sq (rT [2,3,4,6,103] (s4 (y3 (ai pk (cd rfl (fun c103=> ?_) fun c103=> ?_)))))
   · refine SW.newPool 88 210 4 fO rfl (rX [2,3,4,6] (aRd (j:=88) cX rfl rfl rfl rfl rfl rfl (sx cX rfl vc (sx cX rfl vc (sx cX rfl vc (sx cX rfl vc (aFj (m:=wi) cX rfl rfl rfl rfl rfl rfl rfl rfl rfl (by rw[hwi];refine⟨?_,?_⟩<;>first|trivial|(simp[qp,eY,gI]<;>omega)) (by rw[hwi];simp[eY,gI]) ?_)))))))
     refine oe (m:=wi) (z:=[.i 0,.i 0,.s [],.b false]) cX rfl rfl rfl rfl rfl rfl rfl rfl yg (aFl cX (by decide) rfl rfl rfl) (by show(0+wi)*40≤_;have:=hw.ra;omega) (sx cX rfl vc (sx cX rfl vc (sx cX rfl vc (sx cX rfl vc (sx cX rfl vc (aFj (m:=a - (wi+1)) cX rfl rfl rfl rfl rfl rfl rfl rfl rfl (by rw[hwi,aC (by have:=hw.ra;omega)];simp[qp,eY,gI]<;>omega) (by rw[hwi,aC (by have:=hw.ra;omega)];simp[eY,gI]<;>omega) (oe (m:=a - (wi+1)) (z:=[.i 0,.i 0,.s [],.b false]) cX rfl rfl rfl rfl rfl rfl rfl rfl yg (aFl cX (by decide) rfl rfl rfl) (by show(0+wi+(a - (wi+1)))*40≤_;have:=hw.ra;omega) (sx cX rfl vc (sx cX rfl vc (⟨by kernel_rfl,?_⟩))))))))))
     first
     |(refine⟨(0+wi+(a - (wi+1))),(hw.to (by have:=hw.ra;omega) hw.rb hw.rc),?_⟩
       refine aG5 804 88 rfl rfl (by decide) (by rfl) (ms (wq [] [] rfl ?_))
       repeat' apply ai
       all_goals try exact qx
       all_goals(first|with_reducible rfl|omega))
     |(refine⟨a,hw,?_⟩
       refine ms (wq [] [] rfl ?_)
       repeat' apply ai
       all_goals try exact qx
       all_goals(first|with_reducible rfl|omega))
   refine sk ?_
   first
   |(refine⟨(0+wi+(a - (wi+1))),(hw.to (by have:=hw.ra;omega) hw.rb hw.rc),?_⟩
     refine aG5 804 88 rfl rfl (by decide) (by rfl) (ms (wq [] [] rfl ?_))
     repeat' apply ai
     all_goals try exact qx
     all_goals(first|with_reducible rfl|omega))
   |(refine⟨a,hw,?_⟩
     refine ms (wq [] [] rfl ?_)
     repeat' apply ai
     all_goals try exact qx
     all_goals(first|with_reducible rfl|omega))
 rintro a2 hw2
 refine sq (sq (rT [2,4,6,121] (s3 (cd rfl (fun c121=> ?_) fun c121=> ?_))))
 · refine sq (rT [4,5] (s3 (rt (cU [tV 0 (.tup [.agg [.d (.i (tm)),.own 802 4,.own 803 3,ps 804 4 (a2),ps 805 5 (b),ps 806 5 (c)],.c (.d (.b (true)))]),oR 802 27 5 (aI ks),oR 803 4 1 (aN ls),(.o 804,aM 210 4 fO),(.o 805,aM 58 5 cN),(.o 806,aM 58 5 cN)] ⟨tm,ks,ls,a2,b,c,true,hw2,rfl⟩ (rq [] [] rfl ?_)))))
   repeat' apply ai
   all_goals try exact qx
   all_goals(first|with_reducible rfl|(rw[hi,aWz];exact bK (by rw[hw.four];exact hil))|rfl)
 refine sk (sq (rT [2,4,6,8,9] (s2 (ai (by have:=hpp.2;omega) (bE (robj:=[(126,.row 5 1 (aA (p.data)))]) (rl:=[]) (bor:=[126]) (jl p.data) rfl rfl rfl rfl ⟨eW rfl rfl rfl (by first|exact aS _|(simp[aS,aDg];done)) rfl (trivial),rfl⟩ rfl (.inr (aIm rfl)) (aK ⟨rfl,trivial⟩) (fun _ hj=>nomatch hj) (s6 (sq (sq (rT [2,4,6,8,145] (s3 (y4 (y1 (ai pk (s1 (y4 (y1 (ai pk (cd rfl (fun c145=> ?_) fun c145=> ?_))))))))))))))))))
 · refine sq (rT [4,5] (s3 (rt (cU [tV 0 (.tup [.agg [.d (.i (tm)),.own 802 4,.own 803 3,ps 804 4 (a2),ps 805 5 (b),ps 806 5 (c)],.c (.d (.b (true)))]),oR 802 27 5 (aI ks),oR 803 4 1 (aN ls),(.o 804,aM 210 4 fO),(.o 805,aM 58 5 cN),(.o 806,aM 58 5 cN)] ⟨tm,ks,ls,a2,b,c,true,hw2,rfl⟩ (rq [] [] rfl ?_)))))
   repeat' apply ai
   all_goals try exact qx
   all_goals(first|with_reducible rfl|(rw[hi,aWz];exact bK (by rw[hw.four];exact hil))|rfl)
 refine sk (sq ?_)
 obtain⟨i,hi,hil⟩:=ap hpp.1.2.1
 have hks:=hw2.at hil
 refine rD [2,4,6,10,11] (s4 (ai (by rw[hi];exact⟨by rw[bI];exact hw.four,by omega,by omega⟩) (ai (by rw[hi,aWz,cG (by rw[hw.four];exact hil)];exact⟨⟨by rw[bI];exact hw.four,hil⟩,aW1 rfl,rfl⟩) (s1 (xp (na (ks.getD i .zero) (gW p.data) (by have:=hks.1;omega)) (ai (by rw[hi,aWz,cG (by rw[hw2.four];exact hil)];rfl) ?_))))))
 refine s6 (ai (by kernel_rfl) (sq (rT [2,4,11] (s5 (ai (by rw[hi];exact⟨by rw[bI];exact hw.four,by omega,by omega⟩) (ai (by rw[hi,aWz,cG (by rw[hw.four];exact hil)];exact⟨by rw[bI];exact hw.four,hil,rfl,aW1 rfl⟩) (sq (wa [tP 2 2,tP 4 4,tD 11 (.sl (nE (dC (ks.getD i .zero) (gW p.data)).2)),oB 2 99 [.d (.i (tm)),.own 802 4,.own 803 3,ps 804 4 (a2),ps 805 5 (b),ps 806 5 (c)],oB 3 157 [.d (.i e.kind),.d (.i e.at_),.d (.i e.frm),.d (.i e.num),.d (.i e.word),.d (.i e.mix),.d (.i e.keep),.d (.i e.dst),.d (.i e.til),.d (.s e.text)],oB 4 99 [.d (.i 0),.nil,.nil,.nil,.nil,.nil],oR 802 27 5 (aI (ks.set i (dC (ks.getD i .zero) (gW p.data)).1)),oR 803 4 1 (aN ls),(.o 804,aM 210 4 fO),(.o 805,aM 58 5 cN),(.o 806,aM 58 5 cN)] [] [] ?_ ?_))))))))
 · repeat' apply ai
   all_goals first|exact qx|(rw[hi,aWz];exact bK (k:=(dC (ks.getD i .zero) (gW p.data)).1) (by rw[hw.four];exact hil))|rfl|exact qz
 refine rT [2,4] (s3 (bE (robj:=[(804,aM 210 4 fO)]) (rl:=[]) (bor:=[]) (eg a2 (dC (ks.getD i .zero) (gW p.data)).2 hw2.ra (by have:=(aKs (k:=(ks.getD i .zero)) (f:=gW p.data)).2;omega) aKs.1) rfl rfl rfl rfl ⟨aOj rfl rfl rfl rfl (cJ rfl rfl (aY rfl rfl trivial)),rfl⟩ rfl (.inl rfl) (aK ⟨rfl,trivial⟩) (fun j hj=>nomatch hj) (s2 (sq (rT [4,5] (s3 (rt (cU [tV 0 (.tup [.agg [.d (.i (tm)),.own 802 4,.own 803 3,ps 804 4 ((gr a2 (dC (ks.getD i .zero) (gW p.data)).2.length)),ps 805 5 (b),ps 806 5 (c)],.c (.d (.b (true)))]),oR 802 27 5 (aI (ks.set i (dC (ks.getD i .zero) (gW p.data)).1)),oR 803 4 1 (aN ls),(.o 804,aM 210 4 fO),(.o 805,aM 58 5 cN),(.o 806,aM 58 5 cN)] ⟨tm,(ks.set i (dC (ks.getD i .zero) (gW p.data)).1),ls,(gr a2 (dC (ks.getD i .zero) (gW p.data)).2.length),b,c,true,((hw2.set (aJj hks) i).to (yi hw2.ra) hw2.rb hw2.rc),rfl⟩ ?_))))))))
 refine rq [] [] rfl ?_
 repeat' apply ai
 all_goals try exact qx
 all_goals(first|with_reducible rfl|(rw[hi,aWz];exact bK (k:=(dC (ks.getD i .zero) (gW p.data)).1) (by rw[hw.four];exact hil))|rfl)
set_option maxHeartbeats 3200000 in
theorem aEm (tm:Int) (ks:List aH) (ls:List Bool) (a b c:Nat) (e:EvR) (hw:zt ks ls a b c) (htx:e.text.length≤1000):nj 180 2 [tV 0 (.e (.agg [.d (.i (tm)),.own 802 4,.own 803 3,ps 804 4 (a),ps 805 5 (b),ps 806 5 (c)])),(.t 1,.v e.V),oR 802 27 5 (aI ks),oR 803 4 1 (aN ls),(.o 804,aM 210 4 fO),(.o 805,aM 58 5 cN),(.o 806,aM 58 5 cN)] (fun s=> ∃(tm:Int) (ks:List aH) (ls:List Bool) (a b c:Nat) (ok:Bool),zt ks ls a b c∧s=[tV 0 (.tup [.agg [.d (.i (tm)),.own 802 4,.own 803 3,ps 804 4 (a),ps 805 5 (b),ps 806 5 (c)],.c (.d (.b (ok)))]),oR 802 27 5 (aI ks),oR 803 4 1 (aN ls),(.o 804,aM 210 4 fO),(.o 805,aM 58 5 cN),(.o 806,aM 58 5 cN)]):=by
 refine pj Tryz.func180 rfl (sq (rT [2,3,4] (s4 (sq (rT [2,3,4] (s5 (sq (bk (sq (wa [tP 2 2,tP 3 3,tP 4 4,oB 2 99 [.d (.i ((wrap64 (tm+1)))),.own 802 4,.own 803 3,ps 804 4 (a),ps 805 5 (b),ps 806 5 (c)],oB 3 157 [.d (.i e.kind),.d (.i e.at_),.d (.i e.frm),.d (.i e.num),.d (.i e.word),.d (.i e.mix),.d (.i e.keep),.d (.i e.dst),.d (.i e.til),.d (.s e.text)],oB 4 99 [.d (.i 0),.nil,.nil,.nil,.nil,.nil],oR 802 27 5 (aI ks),oR 803 4 1 (aN ls),(.o 804,aM 210 4 fO),(.o 805,aM 58 5 cN),(.o 806,aM 58 5 cN)] [] [] qz (rT [2,3,4,10] (s4 (y3 (ai pk (s1 (y3 (ai pk (s1 (cd rfl (fun c10=> ?_) fun c10=> ?_)))))))))))))))))))
 · refine sq (rE [4,5] (s2 (cQ (robj:=[(802,.row 27 5 (aI ks)),(803,.row 4 1 (aN ls)),(804,aM 210 4 fO),(805,aM 58 5 cN),(806,aM 58 5 cN)]) (rl:=[]) (bor:=[]) (news:=[]) (te (wrap64 (tm+1)) ks ls a b c e hw htx) rfl rfl rfl rfl ⟨dN rfl (aD rfl (bP rfl rfl rfl (bP rfl rfl rfl (bH rfl rfl rfl (bH rfl rfl rfl (bH rfl rfl rfl aL)))))) (dN rfl (aD rfl (aD rfl (aD rfl (aD rfl (aD rfl (aD rfl (aD rfl (aD rfl (aD rfl (aD rfl aL)))))))))) (bV rfl rfl (bV rfl rfl (aY rfl rfl (aY rfl rfl (aY rfl rfl trivial)))))),rfl⟩ (by rintro _ ⟨tm2,ks2,ls2,a2,b2,c2,ok2,hw2,rfl⟩;exact⟨rfl,.inl rfl,fun j hj=>nomatch hj⟩) (aK ⟨rfl,rfl,rfl,rfl,rfl,trivial⟩) (fun j hj=>nomatch hj) ?_)))
   rintro _ ⟨tm2,ks2,ls2,a2,b2,c2,ok2,hw2,rfl⟩
   refine s4 (rt (cU [tV 0 (.tup [.agg [.d (.i (tm2)),.own 802 4,.own 803 3,ps 804 4 (a2),ps 805 5 (b2),ps 806 5 (c2)],.c (.d (.b (ok2)))]),oR 802 27 5 (aI ks2),oR 803 4 1 (aN ls2),(.o 804,aM 210 4 fO),(.o 805,aM 58 5 cN),(.o 806,aM 58 5 cN)] ⟨tm2,ks2,ls2,a2,b2,c2,ok2,hw2,rfl⟩ (rq [] [] rfl ?_)))
   repeat' apply ai
   all_goals try exact qx
   all_goals(first|with_reducible rfl|(rw[hi,aWz];exact bK (by rw[hw.four];exact hil))|rfl)
 refine sq (rT [2,3,4,29] (s4 (y3 (ai pk (s1 (cd rfl (fun c29=> ?_) fun c29=> ?_))))))
 · refine sq (sq (rD [2,3,4,57] (s4 (ai (by exact(cW ls).trans hw.three) (s1 (xp (dM _ _ _) (ai rfl ?_)))))))
   refine s2 (y4 (ai (fun h=>(by obtain⟨i,hi,hil⟩: ∃i:Nat,e.at_=(i:Int)∧i<3:=(by simp[gb,iK,cW,hw.three,wrap64] at h;exact⟨e.at_.toNat,by omega,by omega⟩);rw[hi];exact⟨by rw[cW];exact hw.three,by omega,by omega⟩)) (ai rk (ai (fun h=>(by obtain⟨i,hi,hil⟩: ∃i:Nat,e.at_=(i:Int)∧i<3:=(by simp[gb,iK,cW,hw.three,wrap64] at h;exact⟨e.at_.toNat,by omega,by omega⟩);rw[hi,aWz,lJ (by rw[hw.three];exact hil)];exact⟨⟨by rw[cW];exact hw.three,hil⟩,aW1 rfl,rfl⟩)) (ai rk (y4 (ai pk (ai (by kernel_rfl) (cd rfl (fun c57=> ?_) fun c57=> ?_)))))))))
   · refine sq (rT [4,5] (s3 (rt (cU [tV 0 (.tup [.agg [.d (.i ((wrap64 (tm+1)))),.own 802 4,.own 803 3,ps 804 4 (a),ps 805 5 (b),ps 806 5 (c)],.c (.d (.b (false)))]),oR 802 27 5 (aI ks),oR 803 4 1 (aN ls),(.o 804,aM 210 4 fO),(.o 805,aM 58 5 cN),(.o 806,aM 58 5 cN)] ⟨(wrap64 (tm+1)),ks,ls,a,b,c,false,hw,rfl⟩ (rq [] [] rfl ?_)))))
     repeat' apply ai
     all_goals try exact qx
     all_goals(first|with_reducible rfl|(rw[hi,aWz];exact bK (by rw[hw.four];exact hil))|rfl)
   have hat3:0≤e.at_∧e.at_≤2:=by simp[gb,iK,cW,hw.three,wrap64] at c57;omega
   refine sk (sq ?_)
   obtain⟨i,hi,hil⟩: ∃i:Nat,e.at_=(i:Int)∧i<3:=⟨e.at_.toNat,by omega,by omega⟩
   refine rT [2,4] (s7 (ai (by rw[hi];exact⟨by rw[cW];exact hw.three,by omega,by omega⟩) (ai (by rw[hi,aWz,lJ (by rw[hw.three];exact hil)];exact⟨by rw[cW];exact hw.three,hil,rfl,aW1 rfl⟩) (sq (rT [4,5] (s3 (rt (cU [tV 0 (.tup [.agg [.d (.i ((wrap64 (tm+1)))),.own 802 4,.own 803 3,ps 804 4 (a),ps 805 5 (b),ps 806 5 (c)],.c (.d (.b (true)))]),oR 802 27 5 (aI ks),oR 803 4 1 (aN (ls.set i (e.kind==9))),(.o 804,aM 210 4 fO),(.o 805,aM 58 5 cN),(.o 806,aM 58 5 cN)] ⟨(wrap64 (tm+1)),ks,(ls.set i (e.kind==9)),a,b,c,true,(hw.links (by rw[List.length_set];exact hw.three)),rfl⟩ (rq [] [] rfl ?_)))))))))
   repeat' apply ai
   all_goals try exact qx
   all_goals(first|with_reducible rfl|(rw[hi,aWz];exact aEf (by rw[hw.three];exact hil))|rfl)
 refine sq (rT [2,3,4,68] (s2 (xp (dF _) (ai rfl ?_))))
 refine s2 (cd rfl (fun c68=> ?_) fun c68=> ?_)
 · refine sq (rT [4,5] (s3 (rt (cU [tV 0 (.tup [.agg [.d (.i ((wrap64 (tm+1)))),.own 802 4,.own 803 3,ps 804 4 (a),ps 805 5 (b),ps 806 5 (c)],.c (.d (.b (false)))]),oR 802 27 5 (aI ks),oR 803 4 1 (aN ls),(.o 804,aM 210 4 fO),(.o 805,aM 58 5 cN),(.o 806,aM 58 5 cN)] ⟨(wrap64 (tm+1)),ks,ls,a,b,c,false,hw,rfl⟩ (rq [] [] rfl ?_)))))
   repeat' apply ai
   all_goals try exact qx
   all_goals(first|with_reducible rfl|(rw[hi,aWz];exact bK (by rw[hw.four];exact hil))|rfl)
 have hat:0≤e.at_∧e.at_≤3:=by simp[eN,iK] at c68;omega
 refine sk (sq (rE [4,5] (s2 (cQ (robj:=[(802,.row 27 5 (aI ks)),(803,.row 4 1 (aN ls)),(804,aM 210 4 fO),(805,aM 58 5 cN),(806,aM 58 5 cN)]) (rl:=[]) (bor:=[]) (news:=[]) (qj (wrap64 (tm+1)) ks ls a b c e hw htx hat) rfl rfl rfl rfl ⟨dN rfl (aD rfl (bP rfl rfl rfl (bP rfl rfl rfl (bH rfl rfl rfl (bH rfl rfl rfl (bH rfl rfl rfl aL)))))) (dN rfl (aD rfl (aD rfl (aD rfl (aD rfl (aD rfl (aD rfl (aD rfl (aD rfl (aD rfl (aD rfl aL)))))))))) (bV rfl rfl (bV rfl rfl (aY rfl rfl (aY rfl rfl (aY rfl rfl trivial)))))),rfl⟩ (by rintro _ ⟨tm2,ks2,ls2,a2,b2,c2,ok2,hw2,rfl⟩;exact⟨rfl,.inl rfl,fun j hj=>nomatch hj⟩) (aK ⟨rfl,rfl,rfl,rfl,rfl,trivial⟩) (fun j hj=>nomatch hj) ?_))))
 rintro _ ⟨tm2,ks2,ls2,a2,b2,c2,ok2,hw2,rfl⟩
 refine s4 (rt (cU [tV 0 (.tup [.agg [.d (.i (tm2)),.own 802 4,.own 803 3,ps 804 4 (a2),ps 805 5 (b2),ps 806 5 (c2)],.c (.d (.b (ok2)))]),oR 802 27 5 (aI ks2),oR 803 4 1 (aN ls2),(.o 804,aM 210 4 fO),(.o 805,aM 58 5 cN),(.o 806,aM 58 5 cN)] ⟨tm2,ks2,ls2,a2,b2,c2,ok2,hw2,rfl⟩ (rq [] [] rfl ?_)))
 repeat' apply ai
 all_goals try exact qx
 all_goals(first|with_reducible rfl|(rw[hi,aWz];exact bK (by rw[hw.four];exact hil))|rfl)
set_option maxHeartbeats 3200000 in
theorem fu (l:List UInt8) (p:Int) (W:fJ) (e:EvR) (hW:W.ok) (htx:e.text.length≤1000) (hd:W.d≤100000):nj 148 2 [tP 0 800,(.t 1,.v e.V),oB 800 124 [.pt 801 0,.d (.i (W.tm)),.own 802 4,.own 803 3,ps 804 4 (W.a),ps 805 5 (W.b),ps 806 5 (W.c),ps 807 10 (W.d)],oB 801 137 [.d (.sl (aA l)),.d (.i (p))],oR 802 27 5 (aI W.ks),oR 803 4 1 (aN W.ls),(.o 804,aM 210 4 fO),(.o 805,aM 58 5 cN),(.o 806,aM 58 5 cN),(.o 807,aM 157 10 jX)] (fun s=> ∃(W2:fJ) (ok:Bool),W2.of W 1∧s=[tB 0 ok,oB 800 124 [.pt 801 0,.d (.i (W2.tm)),.own 802 4,.own 803 3,ps 804 4 (W2.a),ps 805 5 (W2.b),ps 806 5 (W2.c),ps 807 10 (W2.d)],oB 801 137 [.d (.sl (aA l)),.d (.i (p))],oR 802 27 5 (aI W2.ks),oR 803 4 1 (aN W2.ls),(.o 804,aM 210 4 fO),(.o 805,aM 58 5 cN),(.o 806,aM 58 5 cN),(.o 807,aM 157 10 jX)]):=by
 refine pj Tryz.func148 rfl (sq (rT [0,3] (s2 (sq (SW.regDE cX mo [0,3,5,6] 5 (fun i=>if i=9 then some ([(.o 5,none)],[oB 5 99 [.d (.i 0),.nil,.nil,.nil,.nil,.nil],tP 5 5]) else none) rfl rfl (by kernel_rfl) ?_)))))
 refine s5 (er (robj:=[(802,.row 27 5 (aI W.ks)),(803,.row 4 1 (aN W.ls)),(804,aM 210 4 fO),(805,aM 58 5 cN),(806,aM 58 5 cN)]) (rl:=[]) (bor:=[]) (news:=[]) (aEm W.tm W.ks W.ls W.a W.b W.c e hW htx) rfl rfl rfl rfl ⟨dN rfl (aD rfl (bP rfl rfl rfl (bP rfl rfl rfl (bH rfl rfl rfl (bH rfl rfl rfl (bH rfl rfl rfl aL)))))) (dN rfl (aD rfl (aD rfl (aD rfl (aD rfl (aD rfl (aD rfl (aD rfl (aD rfl (aD rfl (aD rfl aL)))))))))) (bV rfl rfl (bV rfl rfl (aY rfl rfl (aY rfl rfl (aY rfl rfl trivial)))))),rfl⟩ (by rintro _ ⟨tm2,ks2,ls2,a2,b2,c2,ok2,hw2,rfl⟩;exact⟨rfl,.inl rfl,fun j hj=>nomatch hj⟩) (aK ⟨rfl,rfl,rfl,rfl,rfl,trivial⟩) (fun j hj=>nomatch hj) ⟨_,W.tm,W.ks,W.ls,W.a,W.b,W.c,false,hW,rfl⟩ ?_)
 rintro _ ⟨tm2,ks2,ls2,a2,b2,c2,ok2,hw2,rfl⟩
 refine s7 (ai rfl (s4 (ai (by kernel_rfl) (sq (sq (rT [0,3,5,6,16] (s1 (cd rfl (fun c16=> ?_) fun c16=> ?_))))))))
 · refine sq (rT [0,3,6] (s5 (rX [6] (sx cX rfl vc (sx cX rfl vc (sx cX rfl vc (sx cX rfl vc (sx cX rfl vc (sx cX rfl vc (sx cX rfl vc (oe (m:=1) (z:=[.i 0,.i 0,.i 0,.i 0,.i 0,.i 0,.i 0,.i 0,.i 0,.s []]) cX rfl rfl rfl rfl rfl rfl rfl rfl trivial (kl cX (by decide) rfl rfl rfl (fun r hr=>⟨by rw[List.mem_singleton.1 hr];rfl,trivial⟩) rfl) (by show(_+1)*88≤_;omega) (sx cX rfl vc (sx cX rfl vc (sx cX rfl ⟨by kernel_rfl,aW1 (by kernel_rfl)⟩ (⟨by kernel_rfl,?_⟩)))))))))))))))
   refine sq (rT [4] (s2 (rt ?_)))
   first
   |(refine cU [tB 0 (ok2),oB 800 124 [.pt 801 0,.d (.i ((fJ.mk tm2 ks2 ls2 a2 b2 c2 (W.d+1)).tm)),.own 802 4,.own 803 3,ps 804 4 ((fJ.mk tm2 ks2 ls2 a2 b2 c2 (W.d+1)).a),ps 805 5 ((fJ.mk tm2 ks2 ls2 a2 b2 c2 (W.d+1)).b),ps 806 5 ((fJ.mk tm2 ks2 ls2 a2 b2 c2 (W.d+1)).c),ps 807 10 ((fJ.mk tm2 ks2 ls2 a2 b2 c2 (W.d+1)).d)],oB 801 137 [.d (.sl (aA l)),.d (.i (p))],oR 802 27 5 (aI (fJ.mk tm2 ks2 ls2 a2 b2 c2 (W.d+1)).ks),oR 803 4 1 (aN (fJ.mk tm2 ks2 ls2 a2 b2 c2 (W.d+1)).ls),(.o 804,aM 210 4 fO),(.o 805,aM 58 5 cN),(.o 806,aM 58 5 cN),(.o 807,aM 157 10 jX)] ⟨(fJ.mk tm2 ks2 ls2 a2 b2 c2 (W.d+1)),ok2,⟨hw2,aXa _⟩,rfl⟩ (rq [] [] rfl ?_)
     repeat' apply ai
     all_goals try exact qx
     all_goals(first|with_reducible rfl|(rfl)))
   |(refine cU [tB 0 (ok2),oB 800 124 [.pt 801 0,.d (.i ((fJ.mk W.tm ks2 ls2 W.a W.b W.c W.d).tm)),.own 802 4,.own 803 3,ps 804 4 ((fJ.mk W.tm ks2 ls2 W.a W.b W.c W.d).a),ps 805 5 ((fJ.mk W.tm ks2 ls2 W.a W.b W.c W.d).b),ps 806 5 ((fJ.mk W.tm ks2 ls2 W.a W.b W.c W.d).c),ps 807 10 ((fJ.mk W.tm ks2 ls2 W.a W.b W.c W.d).d)],oB 801 137 [.d (.sl (aA l)),.d (.i (p))],oR 802 27 5 (aI (fJ.mk W.tm ks2 ls2 W.a W.b W.c W.d).ks),oR 803 4 1 (aN (fJ.mk W.tm ks2 ls2 W.a W.b W.c W.d).ls),(.o 804,aM 210 4 fO),(.o 805,aM 58 5 cN),(.o 806,aM 58 5 cN),(.o 807,aM 157 10 jX)] ⟨(fJ.mk W.tm ks2 ls2 W.a W.b W.c W.d),ok2,⟨hw2.to hW.ra hW.rb hW.rc,by show W.d≤_;omega⟩,rfl⟩ (rq [] [] rfl ?_)
     repeat' apply ai
     all_goals try exact qx
     all_goals(first|with_reducible rfl|(rfl)))
 refine sk (sq (rT [4] (s2 (rt ?_))))
 first
 |(refine cU [tB 0 (ok2),oB 800 124 [.pt 801 0,.d (.i ((fJ.mk tm2 ks2 ls2 a2 b2 c2 (W.d+1)).tm)),.own 802 4,.own 803 3,ps 804 4 ((fJ.mk tm2 ks2 ls2 a2 b2 c2 (W.d+1)).a),ps 805 5 ((fJ.mk tm2 ks2 ls2 a2 b2 c2 (W.d+1)).b),ps 806 5 ((fJ.mk tm2 ks2 ls2 a2 b2 c2 (W.d+1)).c),ps 807 10 ((fJ.mk tm2 ks2 ls2 a2 b2 c2 (W.d+1)).d)],oB 801 137 [.d (.sl (aA l)),.d (.i (p))],oR 802 27 5 (aI (fJ.mk tm2 ks2 ls2 a2 b2 c2 (W.d+1)).ks),oR 803 4 1 (aN (fJ.mk tm2 ks2 ls2 a2 b2 c2 (W.d+1)).ls),(.o 804,aM 210 4 fO),(.o 805,aM 58 5 cN),(.o 806,aM 58 5 cN),(.o 807,aM 157 10 jX)] ⟨(fJ.mk tm2 ks2 ls2 a2 b2 c2 (W.d+1)),ok2,⟨hw2,aXa _⟩,rfl⟩ (rq [] [] rfl ?_)
   repeat' apply ai
   all_goals try exact qx
   all_goals(first|with_reducible rfl|(rfl)))
 |(refine cU [tB 0 (ok2),oB 800 124 [.pt 801 0,.d (.i ((fJ.mk W.tm ks2 ls2 W.a W.b W.c W.d).tm)),.own 802 4,.own 803 3,ps 804 4 ((fJ.mk W.tm ks2 ls2 W.a W.b W.c W.d).a),ps 805 5 ((fJ.mk W.tm ks2 ls2 W.a W.b W.c W.d).b),ps 806 5 ((fJ.mk W.tm ks2 ls2 W.a W.b W.c W.d).c),ps 807 10 ((fJ.mk W.tm ks2 ls2 W.a W.b W.c W.d).d)],oB 801 137 [.d (.sl (aA l)),.d (.i (p))],oR 802 27 5 (aI (fJ.mk W.tm ks2 ls2 W.a W.b W.c W.d).ks),oR 803 4 1 (aN (fJ.mk W.tm ks2 ls2 W.a W.b W.c W.d).ls),(.o 804,aM 210 4 fO),(.o 805,aM 58 5 cN),(.o 806,aM 58 5 cN),(.o 807,aM 157 10 jX)] ⟨(fJ.mk W.tm ks2 ls2 W.a W.b W.c W.d),ok2,⟨hw2.to hW.ra hW.rb hW.rc,by show W.d≤_;omega⟩,rfl⟩ (rq [] [] rfl ?_)
   repeat' apply ai
   all_goals try exact qx
   all_goals(first|with_reducible rfl|(rfl)))
set_option maxHeartbeats 3200000 in
theorem aU4 (l:List UInt8) (p:Int) (W:fJ) (hp:0≤p∧p≤900000) (hl:l.length≤2000) (hW:W.ok) (hd:W.d≤99000):nj 99 1 [tP 0 800,oB 800 124 [.pt 801 0,.d (.i (W.tm)),.own 802 4,.own 803 3,ps 804 4 (W.a),ps 805 5 (W.b),ps 806 5 (W.c),ps 807 10 (W.d)],oB 801 137 [.d (.sl (aA l)),.d (.i (p))],oR 802 27 5 (aI W.ks),oR 803 4 1 (aN W.ls),(.o 804,aM 210 4 fO),(.o 805,aM 58 5 cN),(.o 806,aM 58 5 cN),(.o 807,aM 157 10 jX)] (fun s=> ∃(i:Int) (n:bA) (ok:Bool) (q:Int),(p≤q∧q≤p+2∧0≤i∧i≤3)∧s=[tV 0 (.tup [.c (.d (.i i)),.agg [.d (.i n.frm),.d (.i n.num),.d (.i n.to),.d (.i n.til),.d (.s n.text)],.c (.d (.b ok))]),oB 800 124 [.pt 801 0,.d (.i (W.tm)),.own 802 4,.own 803 3,ps 804 4 (W.a),ps 805 5 (W.b),ps 806 5 (W.c),ps 807 10 (W.d)],oB 801 137 [.d (.sl (aA l)),.d (.i (q))],oR 802 27 5 (aI W.ks),oR 803 4 1 (aN W.ls),(.o 804,aM 210 4 fO),(.o 805,aM 58 5 cN),(.o 806,aM 58 5 cN),(.o 807,aM 157 10 jX)]):=by
 refine pj Tryz.func99 rfl (sq (rT [0,3] (s3 (sq (rT [0,3,5] (s4 (bE (robj:=[(801,.box 137 [.d (.sl (aA (l))),.d (.i (p))])]) (rl:=[(0,801)]) (bor:=[]) (cL (l) (p) _ (by omega) hl) rfl rfl rfl rfl ⟨bR rfl rfl rfl rfl (cJ rfl rfl (aU rfl (aD rfl (aD rfl aL)) trivial)),rfl⟩ rfl (.inl rfl) (aK ⟨rfl,trivial⟩) (fun _ hj=>nomatch hj) (s1 (sq (sq (rT [0,3,5,6] (s1 (bk ?_)))))))))))))
 obtain⟨i0,hi0,hil0⟩:=ap (show 0≤bL l p 4∧bL l p 4≤3 by have:=cD l (p:=p) (n:=4) (by omega) (by omega);omega)
 refine SW.loopW (n:=4) (fun n s=> ∃i m:Nat,n=4 - m∧(i<4∧m≤4)∧s=[tP 0 800,tP 3 3,tI 5 (i:Nat),tI 6 (m:Nat),oB 800 124 [.pt 801 0,.d (.i (W.tm)),.own 802 4,.own 803 3,ps 804 4 (W.a),ps 805 5 (W.b),ps 806 5 (W.c),ps 807 10 (W.d)],oB 801 137 [.d (.sl (aA l)),.d (.i ((p+1)))],oR 802 27 5 (aI W.ks),oR 803 4 1 (aN W.ls),(.o 804,aM 210 4 fO),(.o 805,aM 58 5 cN),(.o 806,aM 58 5 cN),(.o 807,aM 157 10 jX),oB 3 58 [.d (.i bA.zero.frm),.d (.i bA.zero.num),.d (.i bA.zero.to),.d (.i bA.zero.til),.d (.s bA.zero.text)]]) ?_ ?_
 · refine wq [] [] (⟨i0,0,rfl,⟨hil0,by omega⟩,rfl⟩) ?_
   repeat' apply ai
   all_goals first|exact qx|exact congrArg D.i hi0|rfl|exact qz
 rintro n s ⟨i,m,rfl,him,rfl⟩
 refine sq (sq (rT [0,3,5,6,15] (s2 (cd rfl (fun c15=> ?_) fun c15=> ?_))))
 · have hm4:m<4:=by simp at c15;omega
   refine sk (sq (bk (sq (rT [0,3,5,6,7] (s6 (ai (by exact⟨by rw[bI];exact hW.four,by omega,by omega⟩) (ai (by rw[aWz,cG (by rw[hW.four];omega)];exact⟨⟨by rw[bI];exact hW.four,by omega⟩,aW1 rfl,rfl⟩) (xp (hZ (W.ks.getD i .zero) (by have:=(hW.at (show i<4 by omega)).1;omega)) (ai (by rw[aWz,cG (by rw[hW.four];omega)];rfl) ?_)))))))))
   refine s6 (sq (sq (rT [0,3,5,6,7,33] (s4 (cd rfl (fun c33=> ?_) fun c33=> ?_)))))
   · refine sq ?_
     have hn0:0< (bC (W.ks.getD i .zero)).1.held.length:=by have h9:=of_decide_eq_true c33;rw[aB] at h9;omega
     obtain⟨j,hj,hjl⟩: ∃j:Nat,bL l (p+1) ((aE (bC (W.ks.getD i .zero)).1.held).length:Int)=(j:Int)∧j< (bC (W.ks.getD i .zero)).1.held.length:=by have:=cD l (p:=p+1) (n:=((aE (bC (W.ks.getD i .zero)).1.held).length:Int)) (by omega) (by rw[aB];omega);rw[aB] at *; exact⟨(bL l (p+1) ((bC (W.ks.getD i .zero)).1.held.length:Int)).toNat,by omega,by omega⟩
     refine rD [2,3,4] (s9 (s1 (bE (robj:=[(801,.box 137 [.d (.sl (aA (l))),.d (.i ((p+1)))])]) (rl:=[(0,801)]) (bor:=[]) (cL (l) ((p+1)) _ (by omega) hl) rfl rfl rfl rfl ⟨bR rfl rfl rfl rfl (cJ rfl rfl (aU rfl (aD rfl (aD rfl aL)) trivial)),rfl⟩ rfl (.inl rfl) (aK ⟨rfl,trivial⟩) (fun _ hj=>nomatch hj) (ai (by rw[hj,aWz,aR hjl];exact⟨⟨by omega,by rw[aB];omega⟩,rfl⟩) (ai (by rw[hj,aWz,aR hjl];exact⟨aW1 rfl,rfl⟩) (s3 (ai (by kernel_rfl) (rt (cU [tV 0 (.tup [.c (.d (.i (i:Nat))),.agg [.d (.i ((bC (W.ks.getD i .zero)).1.held.getD j .zero).frm),.d (.i ((bC (W.ks.getD i .zero)).1.held.getD j .zero).num),.d (.i ((bC (W.ks.getD i .zero)).1.held.getD j .zero).to),.d (.i ((bC (W.ks.getD i .zero)).1.held.getD j .zero).til),.d (.s ((bC (W.ks.getD i .zero)).1.held.getD j .zero).text)],.c (.d (.b true))]),oB 800 124 [.pt 801 0,.d (.i (W.tm)),.own 802 4,.own 803 3,ps 804 4 (W.a),ps 805 5 (W.b),ps 806 5 (W.c),ps 807 10 (W.d)],oB 801 137 [.d (.sl (aA l)),.d (.i ((p+1+1)))],oR 802 27 5 (aI W.ks),oR 803 4 1 (aN W.ls),(.o 804,aM 210 4 fO),(.o 805,aM 58 5 cN),(.o 806,aM 58 5 cN),(.o 807,aM 157 10 jX)] ⟨(i:Nat),(bC (W.ks.getD i .zero)).1.held.getD j .zero,true,p+1+1,⟨by omega,by omega,by omega,by omega⟩,rfl⟩ ?_)))))))))
     refine rq [] [] rfl ?_
     repeat' apply ai
     all_goals try exact qx
     all_goals(first|with_reducible rfl|((rw[hj,aWz,aR hjl];rfl)))
   refine sk (rT [0,3,5,6] (s2 (ai (by decide) (s1 (rT [0,3,5,6] (s3 (wq [] [] (⟨4 - (m+1),by omega,(i+1) % 4,m+1,rfl,⟨by omega,by omega⟩,rfl⟩) ?_)))))))
   repeat' apply ai
   all_goals first|exact qx|(refine congrArg D.i ?_;rw[aC (by omega)];omega)|(refine congrArg D.i ?_;rw[aC (n:=(i:Int)+1) (by omega),Int.tmod_eq_emod_of_nonneg (by omega)];omega)|exact qz
 refine xt (sq (rT [2,3,4] (s4 (rt (cU [tV 0 (.tup [.c (.d (.i 0)),.agg [.d (.i bA.zero.frm),.d (.i bA.zero.num),.d (.i bA.zero.to),.d (.i bA.zero.til),.d (.s bA.zero.text)],.c (.d (.b false))]),oB 800 124 [.pt 801 0,.d (.i (W.tm)),.own 802 4,.own 803 3,ps 804 4 (W.a),ps 805 5 (W.b),ps 806 5 (W.c),ps 807 10 (W.d)],oB 801 137 [.d (.sl (aA l)),.d (.i ((p+1)))],oR 802 27 5 (aI W.ks),oR 803 4 1 (aN W.ls),(.o 804,aM 210 4 fO),(.o 805,aM 58 5 cN),(.o 806,aM 58 5 cN),(.o 807,aM 157 10 jX)] ⟨0,.zero,false,p+1,⟨by omega,by omega,by omega,by omega⟩,rfl⟩ (rq [] [] rfl ?_))))))
 repeat' apply ai
 all_goals try exact qx
 all_goals(first|with_reducible rfl|(rfl))
set_option maxHeartbeats 3200000 in
theorem aTd (l:List UInt8) (p:Int) (W:fJ) (hp:0≤p∧p≤900000) (hl:l.length≤2000) (hW:W.ok) (hd:W.d≤99000):nj 139 1 [tP 0 800,oB 800 124 [.pt 801 0,.d (.i (W.tm)),.own 802 4,.own 803 3,ps 804 4 (W.a),ps 805 5 (W.b),ps 806 5 (W.c),ps 807 10 (W.d)],oB 801 137 [.d (.sl (aA l)),.d (.i (p))],oR 802 27 5 (aI W.ks),oR 803 4 1 (aN W.ls),(.o 804,aM 210 4 fO),(.o 805,aM 58 5 cN),(.o 806,aM 58 5 cN),(.o 807,aM 157 10 jX)] (fun s=> ∃(W2:fJ) (q:Int),(W2.of W 1∧p≤q∧q≤p+10)∧s=[oB 800 124 [.pt 801 0,.d (.i (W2.tm)),.own 802 4,.own 803 3,ps 804 4 (W2.a),ps 805 5 (W2.b),ps 806 5 (W2.c),ps 807 10 (W2.d)],oB 801 137 [.d (.sl (aA l)),.d (.i (q))],oR 802 27 5 (aI W2.ks),oR 803 4 1 (aN W2.ls),(.o 804,aM 210 4 fO),(.o 805,aM 58 5 cN),(.o 806,aM 58 5 cN),(.o 807,aM 157 10 jX)]):=by
 have hall: ∀y∈([[97],[104,101,108,108,111],[97,32,108,111,110,103,101,114,32,109,101,115,115,97,103,101],[97,98,99,100],[49,50,51,52,53,54,55,56],[106,117,115,116,32,116,119,101,110,116,121,45,102,111,117,114,32,98,121,116,101,115,32,33,33],[109,105,120,101,100,32,98,108,111,99,107,115]]:List (List UInt8)),y.length≤60:=by decide
 refine pj Tryz.func139 rfl (sq (rT [0,2] (s4 (bE (robj:=[(801,.box 137 [.d (.sl (aA (l))),.d (.i (p))])]) (rl:=[(0,801)]) (bor:=[]) (cL (l) (p) _ (by omega) hl) rfl rfl rfl rfl ⟨bR rfl rfl rfl rfl (cJ rfl rfl (aU rfl (aD rfl (aD rfl aL)) trivial)),rfl⟩ rfl (.inl rfl) (aK ⟨rfl,trivial⟩) (fun _ hj=>nomatch hj) (s1 (sq ?_))))))
 obtain⟨i,hi,hil⟩:=ap (show 0≤bL l p 4∧bL l p 4≤3 by have:=cD l (p:=p) (n:=4) (by omega) (by omega);omega)
 refine rE [0,2,3] (s4 (ai (by exact⟨by simp,by decide⟩) (zF 15 15 rfl rfl rfl rfl (cQ (robj:=[(801,.box 137 [.d (.sl (aA (l))),.d (.i (p+1))])]) (rl:=[(0,801)]) (bor:=[]) (news:=[]) (aM5 (l) (p+1) (([[97],[104,101,108,108,111],[97,32,108,111,110,103,101,114,32,109,101,115,115,97,103,101],[97,98,99,100],[49,50,51,52,53,54,55,56],[106,117,115,116,32,116,119,101,110,116,121,45,102,111,117,114,32,98,121,116,101,115,32,33,33],[109,105,120,101,100,32,98,108,111,99,107,115]]:List (List UInt8))) (by simp) (by omega) hl) rfl rfl rfl rfl ⟨bR rfl rfl rfl rfl (cJ rfl rfl (aU rfl (aD rfl (aD rfl aL)) trivial)),rfl⟩ (by rintro _ ⟨x,hx,rfl⟩;exact⟨rfl,.inl rfl,fun j hj=>nomatch hj⟩) (aK ⟨rfl,trivial⟩) (fun j hj=>nomatch hj) ?_))))
 rintro _ ⟨x,hx,rfl⟩
 refine s1 (SW.midW (fun q=> ∃x2:List UInt8,x2.length≤60∧q=[tP 0 800,tI 2 (i:Nat),tD 3 (.s x2),oB 800 124 [.pt 801 0,.d (.i (W.tm)),.own 802 4,.own 803 3,ps 804 4 (W.a),ps 805 5 (W.b),ps 806 5 (W.c),ps 807 10 (W.d)],oB 801 137 [.d (.sl (aA l)),.d (.i ((p+1+1)))],oR 802 27 5 (aI W.ks),oR 803 4 1 (aN W.ls),(.o 804,aM 210 4 fO),(.o 805,aM 58 5 cN),(.o 806,aM 58 5 cN),(.o 807,aM 157 10 jX)]) ?_ ?_)
 · refine sq (rT [0,2,3,19] (s3 (cd rfl (fun c19=> ?_) fun c19=> ?_)))
   · refine rT [0,2,3] (s1 (ai (by simp[qp,eY,gI] at *; omega) (s1 ?_)))
     first
     |(refine wq (σ':=[tP 0 800,tI 2 (i:Nat),tD 3 (.s (x.take 24)),oB 800 124 [.pt 801 0,.d (.i (W.tm)),.own 802 4,.own 803 3,ps 804 4 (W.a),ps 805 5 (W.b),ps 806 5 (W.c),ps 807 10 (W.d)],oB 801 137 [.d (.sl (aA l)),.d (.i ((p+1+1)))],oR 802 27 5 (aI W.ks),oR 803 4 1 (aN W.ls),(.o 804,aM 210 4 fO),(.o 805,aM 58 5 cN),(.o 806,aM 58 5 cN),(.o 807,aM 157 10 jX)]) [] [] (⟨_,by rw[aW5];omega,rfl⟩) ?_
       repeat' apply ai
       all_goals try exact qx
       all_goals first|with_reducible rfl|exact congrArg D.i hi|rfl)
     |(refine wq (σ':=[tP 0 800,tI 2 (i:Nat),tD 3 (.s x),oB 800 124 [.pt 801 0,.d (.i (W.tm)),.own 802 4,.own 803 3,ps 804 4 (W.a),ps 805 5 (W.b),ps 806 5 (W.c),ps 807 10 (W.d)],oB 801 137 [.d (.sl (aA l)),.d (.i ((p+1+1)))],oR 802 27 5 (aI W.ks),oR 803 4 1 (aN W.ls),(.o 804,aM 210 4 fO),(.o 805,aM 58 5 cN),(.o 806,aM 58 5 cN),(.o 807,aM 157 10 jX)]) [] [] (⟨_,hall x hx,rfl⟩) ?_
       repeat' apply ai
       all_goals try exact qx
       all_goals first|with_reducible rfl|exact congrArg D.i hi|rfl)
   refine sk ?_
   first
   |(refine wq (σ':=[tP 0 800,tI 2 (i:Nat),tD 3 (.s (x.take 24)),oB 800 124 [.pt 801 0,.d (.i (W.tm)),.own 802 4,.own 803 3,ps 804 4 (W.a),ps 805 5 (W.b),ps 806 5 (W.c),ps 807 10 (W.d)],oB 801 137 [.d (.sl (aA l)),.d (.i ((p+1+1)))],oR 802 27 5 (aI W.ks),oR 803 4 1 (aN W.ls),(.o 804,aM 210 4 fO),(.o 805,aM 58 5 cN),(.o 806,aM 58 5 cN),(.o 807,aM 157 10 jX)]) [] [] (⟨_,by rw[aW5];omega,rfl⟩) ?_
     repeat' apply ai
     all_goals try exact qx
     all_goals first|with_reducible rfl|exact congrArg D.i hi|rfl)
   |(refine wq (σ':=[tP 0 800,tI 2 (i:Nat),tD 3 (.s x),oB 800 124 [.pt 801 0,.d (.i (W.tm)),.own 802 4,.own 803 3,ps 804 4 (W.a),ps 805 5 (W.b),ps 806 5 (W.c),ps 807 10 (W.d)],oB 801 137 [.d (.sl (aA l)),.d (.i ((p+1+1)))],oR 802 27 5 (aI W.ks),oR 803 4 1 (aN W.ls),(.o 804,aM 210 4 fO),(.o 805,aM 58 5 cN),(.o 806,aM 58 5 cN),(.o 807,aM 157 10 jX)]) [] [] (⟨_,hall x hx,rfl⟩) ?_
     repeat' apply ai
     all_goals try exact qx
     all_goals first|with_reducible rfl|exact congrArg D.i hi|rfl)
 rintro s ⟨x2,hx2,rfl⟩
 refine sq (rT [0,2,3,4] (s6 (ai (by exact⟨by rw[bI];exact hW.four,by omega,by omega⟩) (ai (by rw[aWz,cG (by rw[hW.four];omega)];exact⟨⟨by rw[bI];exact hW.four,by omega⟩,aW1 rfl,rfl⟩) (xp (hZ (W.ks.getD i .zero) (by have:=(hW.at (show i<4 by omega)).1;omega)) (ai (by rw[aWz,cG (by rw[hW.four];omega)];rfl) ?_))))))
 refine s6 (SW.regDE cX mo [] 18 (fun _=>none) rfl rfl (by kernel_rfl) ?_)
 refine s6 (bE (robj:=[(801,.box 137 [.d (.sl (aA (l))),.d (.i (p+1+1))])]) (rl:=[(0,801)]) (bor:=[]) (cL (l) (p+1+1) _ (by omega) hl) rfl rfl rfl rfl ⟨bR rfl rfl rfl rfl (cJ rfl rfl (aU rfl (aD rfl (aD rfl aL)) trivial)),rfl⟩ rfl (.inl rfl) (aK ⟨rfl,trivial⟩) (fun _ hj=>nomatch hj) (s7 (bE (robj:=[(801,.box 137 [.d (.sl (aA (l))),.d (.i (p+1+1+1))])]) (rl:=[(0,801)]) (bor:=[]) (cL (l) (p+1+1+1) _ (by omega) hl) rfl rfl rfl rfl ⟨bR rfl rfl rfl rfl (cJ rfl rfl (aU rfl (aD rfl (aD rfl aL)) trivial)),rfl⟩ rfl (.inl rfl) (aK ⟨rfl,trivial⟩) (fun _ hj=>nomatch hj) (s3 (er (robj:=[(800,.box 124 [.pt 801 0,.d (.i (W.tm)),.own 802 4,.own 803 3,ps 804 4 (W.a),ps 805 5 (W.b),ps 806 5 (W.c),ps 807 10 (W.d)]),(801,.box 137 [.d (.sl (aA l)),.d (.i (p+1+1+1+1))]),(802,.row 27 5 (aI W.ks)),(803,.row 4 1 (aN W.ls)),(804,aM 210 4 fO),(805,aM 58 5 cN),(806,aM 58 5 cN),(807,aM 157 10 jX)]) (rl:=[]) (bor:=[]) (news:=[]) (fu l (p+1+1+1+1) W ⟨1,i,0,0,0,0,0,bL l (p+1+1) 4,wrap64 (wrap64 ((bC (W.ks.getD i .zero)).1.time+1)+bL l (p+1+1+1) 12),x2⟩ hW (by show x2.length≤1000;omega) (by omega)) rfl rfl rfl rfl ⟨bR rfl rfl rfl rfl (dN rfl (aD rfl (aD rfl (aD rfl (aD rfl (aD rfl (aD rfl (aD rfl (aD rfl (aD rfl (aD rfl aL)))))))))) (aU rfl (eJ rfl rfl rfl (aD rfl (bP rfl rfl rfl (bP rfl rfl rfl (bH rfl rfl rfl (bH rfl rfl rfl (bH rfl rfl rfl (bH rfl rfl rfl aL)))))))) (aU rfl (aD rfl (aD rfl aL)) (bV rfl rfl (bV rfl rfl (aY rfl rfl (aY rfl rfl (aY rfl rfl (aY rfl rfl trivial))))))))),rfl⟩ (by rintro _ ⟨W2,ok2,hw2,rfl⟩;exact⟨rfl,.inl rfl,fun j hj=>nomatch hj⟩) (aK ⟨rfl,rfl,rfl,rfl,rfl,rfl,rfl,rfl,trivial⟩) (fun j hj=>nomatch hj) ⟨_,W,false,(fJ.of.refl hW).le (by omega),rfl⟩ ?_)))))
 rintro _ ⟨W2,ok2,hw2,rfl⟩
 refine ai (by kernel_rfl) (cU [oB 800 124 [.pt 801 0,.d (.i (W2.tm)),.own 802 4,.own 803 3,ps 804 4 (W2.a),ps 805 5 (W2.b),ps 806 5 (W2.c),ps 807 10 (W2.d)],oB 801 137 [.d (.sl (aA l)),.d (.i ((p+1+1+1+1)))],oR 802 27 5 (aI W2.ks),oR 803 4 1 (aN W2.ls),(.o 804,aM 210 4 fO),(.o 805,aM 58 5 cN),(.o 806,aM 58 5 cN),(.o 807,aM 157 10 jX)] ⟨W2,p+1+1+1+1,⟨hw2,by omega,by omega⟩,rfl⟩ (rq [] [] rfl ?_))
 repeat' apply ai
 all_goals try exact qx
 all_goals(first|with_reducible rfl|(rfl))
set_option maxHeartbeats 6400000 in
theorem nb (l:List UInt8) (p:Int) (W:fJ) (n:Nat) (r:Int) (hp:0≤p∧p≤900000) (hl:l.length≤2000) (hW:W.ok) (hd:W.d≤99000) (hn:n≤40):nj 109 3 [tP 0 800,tI 1 (n:Nat),tI 2 r,oB 800 124 [.pt 801 0,.d (.i (W.tm)),.own 802 4,.own 803 3,ps 804 4 (W.a),ps 805 5 (W.b),ps 806 5 (W.c),ps 807 10 (W.d)],oB 801 137 [.d (.sl (aA l)),.d (.i (p))],oR 802 27 5 (aI W.ks),oR 803 4 1 (aN W.ls),(.o 804,aM 210 4 fO),(.o 805,aM 58 5 cN),(.o 806,aM 58 5 cN),(.o 807,aM 157 10 jX)] (fun s=> ∃(W2:fJ) (q:Int),(W2.of W (3*n)∧p≤q∧q≤p+8*n)∧s=[oB 800 124 [.pt 801 0,.d (.i (W2.tm)),.own 802 4,.own 803 3,ps 804 4 (W2.a),ps 805 5 (W2.b),ps 806 5 (W2.c),ps 807 10 (W2.d)],oB 801 137 [.d (.sl (aA l)),.d (.i (q))],oR 802 27 5 (aI W2.ks),oR 803 4 1 (aN W2.ls),(.o 804,aM 210 4 fO),(.o 805,aM 58 5 cN),(.o 806,aM 58 5 cN),(.o 807,aM 157 10 jX)]):=by
 refine pj Tryz.func109 rfl (sq (rT [0,1,2,6] (s1 (bk (SW.loopW (n:=n) (fun x s=> ∃(i:Nat) (V:fJ) (q:Int),x=n - i∧(i≤n∧V.of W (3*i)∧p≤q∧q≤p+8*i)∧s=[tP 0 800,tI 1 (n:Nat),tI 2 r,tI 6 (i:Nat),oB 800 124 [.pt 801 0,.d (.i (V.tm)),.own 802 4,.own 803 3,ps 804 4 (V.a),ps 805 5 (V.b),ps 806 5 (V.c),ps 807 10 (V.d)],oB 801 137 [.d (.sl (aA l)),.d (.i (q))],oR 802 27 5 (aI V.ks),oR 803 4 1 (aN V.ls),(.o 804,aM 210 4 fO),(.o 805,aM 58 5 cN),(.o 806,aM 58 5 cN),(.o 807,aM 157 10 jX)]) ?_ ?_)))))
 · exact wq [] [] (⟨0,W,p,rfl,⟨by omega,fJ.of.refl hW,by omega,by omega⟩,rfl⟩) qz
 rintro n s ⟨i,V,q,rfl,⟨hin,hV,hq⟩,rfl⟩
 refine sq (sq (rT [0,1,2,6,19] (s4 (y4 (y1 (aEe cX rfl rfl rfl rfl rfl rk (y1 (ai pk (cd rfl (fun c19=> ?_) fun c19=> ?_)))))))))
 · have hi2:i<n:=by have h9:=c19;simp only[gb,aW4,decide_eq_true_eq] at h9;omega
   have hVd:=hV.few
   have hVo:V.ok:=hV.ok
   try simp only[fJ.ok] at hVo
   refine sk (sq (bk (sq (rT [0,1,2,6,7] (s3 (SW.midW (fun s=> ∃(k w m kp q3:Int),(q≤q3∧q3≤q+5)∧s=[tP 0 800,tI 1 (n:Nat),tI 2 r,tI 6 (i:Nat),tP 7 7,oB 800 124 [.pt 801 0,.d (.i (V.tm)),.own 802 4,.own 803 3,ps 804 4 (V.a),ps 805 5 (V.b),ps 806 5 (V.c),ps 807 10 (V.d)],oB 801 137 [.d (.sl (aA l)),.d (.i (q3))],oR 802 27 5 (aI V.ks),oR 803 4 1 (aN V.ls),(.o 804,aM 210 4 fO),(.o 805,aM 58 5 cN),(.o 806,aM 58 5 cN),(.o 807,aM 157 10 jX),oB 7 157 [.d (.i (k)),.d (.i 0),.d (.i 0),.d (.i 0),.d (.i (w)),.d (.i (m)),.d (.i (kp)),.d (.i 0),.d (.i 0),.d (.s [])]]) ?_ ?_))))))
   · refine SW.midW (fun s=> ∃(cb:Bool) (q2:Int),(q≤q2∧q2≤q+1)∧s=[tP 0 800,tI 1 (n:Nat),tI 2 r,tI 6 (i:Nat),tP 7 7,tB 33 cb,oB 800 124 [.pt 801 0,.d (.i (V.tm)),.own 802 4,.own 803 3,ps 804 4 (V.a),ps 805 5 (V.b),ps 806 5 (V.c),ps 807 10 (V.d)],oB 801 137 [.d (.sl (aA l)),.d (.i (q2))],oR 802 27 5 (aI V.ks),oR 803 4 1 (aN V.ls),(.o 804,aM 210 4 fO),(.o 805,aM 58 5 cN),(.o 806,aM 58 5 cN),(.o 807,aM 157 10 jX),oB 7 157 [.d (.i (4)),.d (.i 0),.d (.i 0),.d (.i 0),.d (.i (0)),.d (.i (0)),.d (.i (0)),.d (.i 0),.d (.i 0),.d (.s [])]]) ?_ ?_
     · refine rF [0,1,2,6,7,33] (s1 (s1 (s1 (ai (fun h1=> ?_) (fun h1=> ?_)))))
       · refine s1 (ai (fun _=> ?_) (fun h=>absurd h (by rw[h1];simp)))
         refine s1 (ai (fun _=> ?_) (fun h=>absurd h (by rw[h1];simp)))
         refine s1 (ai (fun _=> ?_) (fun h=>absurd h (by rw[h1];simp)))
         refine s1 (ai (fun _=> ?_) (fun h=>absurd h (by rw[h1];simp)))
         refine s1 (ai (fun _=> ?_) (fun h=>absurd h (by rw[h1];simp)))
         refine iA (bE (robj:=[(801,.box 137 [.d (.sl (aA (l))),.d (.i (q))])]) (rl:=[(0,801)]) (bor:=[]) (cL (l) (q) _ (by omega) hl) rfl rfl rfl rfl ⟨bR rfl rfl rfl rfl (cJ rfl rfl (aU rfl (aD rfl (aD rfl aL)) trivial)),rfl⟩ rfl (.inl rfl) (aK ⟨rfl,trivial⟩) (fun _ hj=>nomatch hj) (ai (fun _=> ?_) (fun h=>absurd h (by rw[h1];simp))))
         exact s1 (ai pk (wq [] [] ⟨?c1,q+1,⟨by omega,by omega⟩,rfl⟩ qz))
       refine⟨I 0,?_⟩
       refine ai (fun h=>absurd h (by rw[h1];simp)) (fun _=>⟨I 0,?_⟩)
       refine ai (fun h=>absurd h (by rw[h1];simp)) (fun _=>⟨I 0,?_⟩)
       refine ai (fun h=>absurd h (by rw[h1];simp)) (fun _=>⟨I 0,?_⟩)
       refine ai (fun h=>absurd h (by rw[h1];simp)) (fun _=>⟨I 0,?_⟩)
       refine ai (fun h=>absurd h (by rw[h1];simp)) (fun _=>⟨I 0,?_⟩)
       refine ai (fun h=>absurd h (by rw[h1];simp)) (fun _=>⟨B false,?_⟩)
       exact ai (by constructor<;>intro h<;>first|trivial|exact absurd (h1.symm.trans h:false=true) (by decide)) (wq [] [] ⟨?d1,q,⟨by omega,by omega⟩,rfl⟩ qz)
     rintro s ⟨cb,q2,hq2,rfl⟩
     refine cd rfl (fun c33=> ?_) fun c33=> ?_
     · refine sq (rT [0,1,2,6,7,38] (s4 (bE (robj:=[(801,.box 137 [.d (.sl (aA (l))),.d (.i (q2))])]) (rl:=[(0,801)]) (bor:=[]) (cL (l) (q2) _ (by omega) hl) rfl rfl rfl rfl ⟨bR rfl rfl rfl rfl (cJ rfl rfl (aU rfl (aD rfl (aD rfl aL)) trivial)),rfl⟩ rfl (.inl rfl) (aK ⟨rfl,trivial⟩) (fun _ hj=>nomatch hj) (bk (sq (rT [0,1,2,6,7,38,51] (s2 (cd rfl (fun c51=> ?_) fun c51=> ?_))))))))
       · refine rT [0,1,2,6,7] (s2 ?_)
         first
         |(exact wq [] [] ⟨5,0,0,0,(q2+1),⟨by omega,by omega⟩,rfl⟩ qz)
         |(exact wq [] [] ⟨4,0,0,1,(q2+1),⟨by omega,by omega⟩,rfl⟩ qz)
         |(exact wq [] [] ⟨4,(bL l (q2+1) (V.a:Int)),0,0,(q2+1+1),⟨by omega,by omega⟩,rfl⟩ qz)
         |(exact wq [] [] ⟨6,(bL l (q2+1) (V.a:Int)),(bL l (q2+1+1) 17),(wrap64 (1+(bL l (q2+1+1+1) 255))),(q2+1+1+1+1),⟨by omega,by omega⟩,rfl⟩ qz)
         |(exact wq [] [] ⟨4,0,0,0,q2,⟨by omega,by omega⟩,rfl⟩ qz)
       refine sq (rT [0,1,2,6,7,38,54] (s2 (cd rfl (fun c54=> ?_) fun c54=> ?_)))
       · refine rT [0,1,2,6,7] (s2 ?_)
         first
         |(exact wq [] [] ⟨5,0,0,0,(q2+1),⟨by omega,by omega⟩,rfl⟩ qz)
         |(exact wq [] [] ⟨4,0,0,1,(q2+1),⟨by omega,by omega⟩,rfl⟩ qz)
         |(exact wq [] [] ⟨4,(bL l (q2+1) (V.a:Int)),0,0,(q2+1+1),⟨by omega,by omega⟩,rfl⟩ qz)
         |(exact wq [] [] ⟨6,(bL l (q2+1) (V.a:Int)),(bL l (q2+1+1) 17),(wrap64 (1+(bL l (q2+1+1+1) 255))),(q2+1+1+1+1),⟨by omega,by omega⟩,rfl⟩ qz)
         |(exact wq [] [] ⟨4,0,0,0,q2,⟨by omega,by omega⟩,rfl⟩ qz)
       refine sq (rT [0,1,2,6,7,57] (s2 (cd rfl (fun c57=> ?_) fun c57=> ?_)))
       · refine sq (rT [0,1,2,6,7] (s2 (sq (rD [0,1,2,6,7] (s9 (ip cX rfl rfl rfl rfl rfl (bE (robj:=[(801,.box 137 [.d (.sl (aA (l))),.d (.i (q2+1))])]) (rl:=[(0,801)]) (bor:=[]) (cL (l) (q2+1) _ (by omega) hl) rfl rfl rfl rfl ⟨bR rfl rfl rfl rfl (cJ rfl rfl (aU rfl (aD rfl (aD rfl aL)) trivial)),rfl⟩ rfl (.inl rfl) (aK ⟨rfl,trivial⟩) (fun _ hj=>nomatch hj) (s2 (ai (by kernel_rfl) (sq (rT [0,1,2,6,7] (s4 (bE (robj:=[(801,.box 137 [.d (.sl (aA (l))),.d (.i (q2+1+1))])]) (rl:=[(0,801)]) (bor:=[]) (cL (l) (q2+1+1) _ (by omega) hl) rfl rfl rfl rfl ⟨bR rfl rfl rfl rfl (cJ rfl rfl (aU rfl (aD rfl (aD rfl aL)) trivial)),rfl⟩ rfl (.inl rfl) (aK ⟨rfl,trivial⟩) (fun _ hj=>nomatch hj) (s2 (rT [0,1,2,6,7] (s4 (bE (robj:=[(801,.box 137 [.d (.sl (aA (l))),.d (.i (q2+1+1+1))])]) (rl:=[(0,801)]) (bor:=[]) (cL (l) (q2+1+1+1) _ (by omega) hl) rfl rfl rfl rfl ⟨bR rfl rfl rfl rfl (cJ rfl rfl (aU rfl (aD rfl (aD rfl aL)) trivial)),rfl⟩ rfl (.inl rfl) (aK ⟨rfl,trivial⟩) (fun _ hj=>nomatch hj) ?_)))))))))))))))))
         refine s3 ?_
         first
         |(exact wq [] [] ⟨5,0,0,0,(q2+1),⟨by omega,by omega⟩,rfl⟩ qz)
         |(exact wq [] [] ⟨4,0,0,1,(q2+1),⟨by omega,by omega⟩,rfl⟩ qz)
         |(exact wq [] [] ⟨4,(bL l (q2+1) (V.a:Int)),0,0,(q2+1+1),⟨by omega,by omega⟩,rfl⟩ qz)
         |(exact wq [] [] ⟨6,(bL l (q2+1) (V.a:Int)),(bL l (q2+1+1) 17),(wrap64 (1+(bL l (q2+1+1+1) 255))),(q2+1+1+1+1),⟨by omega,by omega⟩,rfl⟩ qz)
         |(exact wq [] [] ⟨4,0,0,0,q2,⟨by omega,by omega⟩,rfl⟩ qz)
       refine rD [0,1,2,6,7] (s9 (ip cX rfl rfl rfl rfl rfl (bE (robj:=[(801,.box 137 [.d (.sl (aA (l))),.d (.i (q2+1))])]) (rl:=[(0,801)]) (bor:=[]) (cL (l) (q2+1) _ (by omega) hl) rfl rfl rfl rfl ⟨bR rfl rfl rfl rfl (cJ rfl rfl (aU rfl (aD rfl (aD rfl aL)) trivial)),rfl⟩ rfl (.inl rfl) (aK ⟨rfl,trivial⟩) (fun _ hj=>nomatch hj) (s2 (ai (by kernel_rfl) ?_)))))
       first
       |(exact wq [] [] ⟨5,0,0,0,(q2+1),⟨by omega,by omega⟩,rfl⟩ qz)
       |(exact wq [] [] ⟨4,0,0,1,(q2+1),⟨by omega,by omega⟩,rfl⟩ qz)
       |(exact wq [] [] ⟨4,(bL l (q2+1) (V.a:Int)),0,0,(q2+1+1),⟨by omega,by omega⟩,rfl⟩ qz)
       |(exact wq [] [] ⟨6,(bL l (q2+1) (V.a:Int)),(bL l (q2+1+1) 17),(wrap64 (1+(bL l (q2+1+1+1) 255))),(q2+1+1+1+1),⟨by omega,by omega⟩,rfl⟩ qz)
       |(exact wq [] [] ⟨4,0,0,0,q2,⟨by omega,by omega⟩,rfl⟩ qz)
     refine sk ?_
     first
     |(exact wq [] [] ⟨5,0,0,0,(q2+1),⟨by omega,by omega⟩,rfl⟩ qz)
     |(exact wq [] [] ⟨4,0,0,1,(q2+1),⟨by omega,by omega⟩,rfl⟩ qz)
     |(exact wq [] [] ⟨4,(bL l (q2+1) (V.a:Int)),0,0,(q2+1+1),⟨by omega,by omega⟩,rfl⟩ qz)
     |(exact wq [] [] ⟨6,(bL l (q2+1) (V.a:Int)),(bL l (q2+1+1) 17),(wrap64 (1+(bL l (q2+1+1+1) 255))),(q2+1+1+1+1),⟨by omega,by omega⟩,rfl⟩ qz)
     |(exact wq [] [] ⟨4,0,0,0,q2,⟨by omega,by omega⟩,rfl⟩ qz)
   rintro s ⟨k,w,m,kp,q3,hq3,rfl⟩
   refine SW.midW (fun s=> ∃V3:fJ,V3.of V 2∧s=[tP 0 800,tI 1 (n:Nat),tI 2 r,tI 6 (i:Nat),tP 7 7,oB 800 124 [.pt 801 0,.d (.i (V3.tm)),.own 802 4,.own 803 3,ps 804 4 (V3.a),ps 805 5 (V3.b),ps 806 5 (V3.c),ps 807 10 (V3.d)],oB 801 137 [.d (.sl (aA l)),.d (.i (q3))],oR 802 27 5 (aI V3.ks),oR 803 4 1 (aN V3.ls),(.o 804,aM 210 4 fO),(.o 805,aM 58 5 cN),(.o 806,aM 58 5 cN),(.o 807,aM 157 10 jX),oB 7 157 [.d (.i (k)),.d (.i 0),.d (.i 0),.d (.i 0),.d (.i (w)),.d (.i (m)),.d (.i (kp)),.d (.i 0),.d (.i 0),.d (.s [])]]) ?_ ?_
   · refine sq (rE [0,1,2,6,7,88] (s2 (cQ (robj:=[(800,.box 124 [.pt 801 0,.d (.i (V.tm)),.own 802 4,.own 803 3,ps 804 4 (V.a),ps 805 5 (V.b),ps 806 5 (V.c),ps 807 10 (V.d)]),(801,.box 137 [.d (.sl (aA l)),.d (.i (q3))]),(802,.row 27 5 (aI V.ks)),(803,.row 4 1 (aN V.ls)),(804,aM 210 4 fO),(805,aM 58 5 cN),(806,aM 58 5 cN),(807,aM 157 10 jX)]) (rl:=[]) (bor:=[]) (news:=[]) (fu l (q3) V ⟨k,0,0,0,w,m,kp,0,0,[]⟩ hV.ok (by simp) (by omega)) rfl rfl rfl rfl ⟨bR rfl rfl rfl rfl (dN rfl (aD rfl (aD rfl (aD rfl (aD rfl (aD rfl (aD rfl (aD rfl (aD rfl (aD rfl (aD rfl aL)))))))))) (aU rfl (eJ rfl rfl rfl (aD rfl (bP rfl rfl rfl (bP rfl rfl rfl (bH rfl rfl rfl (bH rfl rfl rfl (bH rfl rfl rfl (bH rfl rfl rfl aL)))))))) (aU rfl (aD rfl (aD rfl aL)) (bV rfl rfl (bV rfl rfl (aY rfl rfl (aY rfl rfl (aY rfl rfl (aY rfl rfl trivial))))))))),rfl⟩ (by rintro _ ⟨W2,ok2,hw2,rfl⟩;exact⟨rfl,.inl rfl,fun j hj=>nomatch hj⟩) (aK ⟨rfl,rfl,rfl,rfl,rfl,rfl,rfl,rfl,trivial⟩) (fun j hj=>nomatch hj) ?_)))
     rintro _ ⟨W2,ok2,hw2,rfl⟩
     refine s1 (cd rfl (fun c88=> ?_) fun c88=> ?_)
     · refine rE [0,1,2,6,7] (s2 (cQ (robj:=[(800,.box 124 [.pt 801 0,.d (.i (W2.tm)),.own 802 4,.own 803 3,ps 804 4 (W2.a),ps 805 5 (W2.b),ps 806 5 (W2.c),ps 807 10 (W2.d)]),(801,.box 137 [.d (.sl (aA l)),.d (.i (q3))]),(802,.row 27 5 (aI W2.ks)),(803,.row 4 1 (aN W2.ls)),(804,aM 210 4 fO),(805,aM 58 5 cN),(806,aM 58 5 cN),(807,aM 157 10 jX)]) (rl:=[]) (bor:=[]) (news:=[]) (fu l (q3) W2 ⟨5,0,0,0,0,0,0,0,0,[]⟩ hw2.ok (by simp) (by have:=hw2.few;omega)) rfl rfl rfl rfl ⟨bR rfl rfl rfl rfl (dN rfl (aD rfl (aD rfl (aD rfl (aD rfl (aD rfl (aD rfl (aD rfl (aD rfl (aD rfl (aD rfl aL)))))))))) (aU rfl (eJ rfl rfl rfl (aD rfl (bP rfl rfl rfl (bP rfl rfl rfl (bH rfl rfl rfl (bH rfl rfl rfl (bH rfl rfl rfl (bH rfl rfl rfl aL)))))))) (aU rfl (aD rfl (aD rfl aL)) (bV rfl rfl (bV rfl rfl (aY rfl rfl (aY rfl rfl (aY rfl rfl (aY rfl rfl trivial))))))))),rfl⟩ (by rintro _ ⟨W25,ok25,hw25,rfl⟩;exact⟨rfl,.inl rfl,fun j hj=>nomatch hj⟩) (aK ⟨rfl,rfl,rfl,rfl,rfl,rfl,rfl,rfl,trivial⟩) (fun j hj=>nomatch hj) ?_))
       rintro _ ⟨W25,ok25,hw25,rfl⟩
       first
       |(exact wq [] [] ⟨W25,(hw2.trans hw25),rfl⟩ qz)
       |(exact wq [] [] ⟨W2,(hw2.le (by omega)),rfl⟩ qz)
     refine sk ?_
     first
     |(exact wq [] [] ⟨W25,(hw2.trans hw25),rfl⟩ qz)
     |(exact wq [] [] ⟨W2,(hw2.le (by omega)),rfl⟩ qz)
   rintro s ⟨V3,hV3,rfl⟩
   have hV3d:=hV3.few
   refine SW.midW (fun s=> ∃(cb:Bool) (q4:Int),(q3≤q4∧q4≤q3+1)∧s=[tP 0 800,tI 1 (n:Nat),tI 2 r,tI 6 (i:Nat),tP 7 7,tB 102 cb,oB 800 124 [.pt 801 0,.d (.i (V3.tm)),.own 802 4,.own 803 3,ps 804 4 (V3.a),ps 805 5 (V3.b),ps 806 5 (V3.c),ps 807 10 (V3.d)],oB 801 137 [.d (.sl (aA l)),.d (.i (q4))],oR 802 27 5 (aI V3.ks),oR 803 4 1 (aN V3.ls),(.o 804,aM 210 4 fO),(.o 805,aM 58 5 cN),(.o 806,aM 58 5 cN),(.o 807,aM 157 10 jX),oB 7 157 [.d (.i (k)),.d (.i 0),.d (.i 0),.d (.i 0),.d (.i (w)),.d (.i (m)),.d (.i (kp)),.d (.i 0),.d (.i 0),.d (.s [])]]) ?_ ?_
   · refine rF [0,1,2,6,7,102] (s1 (s1 (s1 (s1 (ai (fun h1=> ?_) (fun h1=> ?_))))))
     · refine s1 (ai (fun _=> ?_) (fun h=>absurd h (by rw[h1];simp)))
       refine s1 (ai (fun _=> ?_) (fun h=>absurd h (by rw[h1];simp)))
       refine s1 (ai (fun _=> ?_) (fun h=>absurd h (by rw[h1];simp)))
       refine s1 (ai (fun _=> ?_) (fun h=>absurd h (by rw[h1];simp)))
       refine iA (bE (robj:=[(801,.box 137 [.d (.sl (aA (l))),.d (.i (q3))])]) (rl:=[(0,801)]) (bor:=[]) (cL (l) (q3) _ (by omega) hl) rfl rfl rfl rfl ⟨bR rfl rfl rfl rfl (cJ rfl rfl (aU rfl (aD rfl (aD rfl aL)) trivial)),rfl⟩ rfl (.inl rfl) (aK ⟨rfl,trivial⟩) (fun _ hj=>nomatch hj) (ai (fun _=> ?_) (fun h=>absurd h (by rw[h1];simp))))
       exact s1 (ai pk (wq [] [] ⟨?c2,q3+1,⟨by omega,by omega⟩,rfl⟩ qz))
     refine⟨I 0,?_⟩
     refine ai (fun h=>absurd h (by rw[h1];simp)) (fun _=>⟨I 0,?_⟩)
     refine ai (fun h=>absurd h (by rw[h1];simp)) (fun _=>⟨I 0,?_⟩)
     refine ai (fun h=>absurd h (by rw[h1];simp)) (fun _=>⟨I 0,?_⟩)
     refine ai (fun h=>absurd h (by rw[h1];simp)) (fun _=>⟨I 0,?_⟩)
     refine ai (fun h=>absurd h (by rw[h1];simp)) (fun _=>⟨B false,?_⟩)
     exact ai (by constructor<;>intro h<;>first|trivial|exact absurd (h1.symm.trans h:false=true) (by decide)) (wq [] [] ⟨?d2,q3,⟨by omega,by omega⟩,rfl⟩ qz)
   rintro s ⟨cb2,q4,hq4,rfl⟩
   refine cd rfl (fun c102=> ?_) fun c102=> ?_
   · refine sq (rT [0,1,2,6,7] (s4 (bE (robj:=[(801,.box 137 [.d (.sl (aA (l))),.d (.i (q4))])]) (rl:=[(0,801)]) (bor:=[]) (cL (l) (q4) _ (by omega) hl) rfl rfl rfl rfl ⟨bR rfl rfl rfl rfl (cJ rfl rfl (aU rfl (aD rfl (aD rfl aL)) trivial)),rfl⟩ rfl (.inl rfl) (aK ⟨rfl,trivial⟩) (fun _ hj=>nomatch hj) (s2 (sq (rT [0,1,2,6,7] (s4 (bE (robj:=[(801,.box 137 [.d (.sl (aA (l))),.d (.i (q4+1))])]) (rl:=[(0,801)]) (bor:=[]) (cL (l) (q4+1) _ (by omega) hl) rfl rfl rfl rfl ⟨bR rfl rfl rfl rfl (cJ rfl rfl (aU rfl (aD rfl (aD rfl aL)) trivial)),rfl⟩ rfl (.inl rfl) (aK ⟨rfl,trivial⟩) (fun _ hj=>nomatch hj) (s3 (rE [0,1,2,6] (s2 (cQ (robj:=[(800,.box 124 [.pt 801 0,.d (.i (V3.tm)),.own 802 4,.own 803 3,ps 804 4 (V3.a),ps 805 5 (V3.b),ps 806 5 (V3.c),ps 807 10 (V3.d)]),(801,.box 137 [.d (.sl (aA l)),.d (.i (q4+1+1))]),(802,.row 27 5 (aI V3.ks)),(803,.row 4 1 (aN V3.ls)),(804,aM 210 4 fO),(805,aM 58 5 cN),(806,aM 58 5 cN),(807,aM 157 10 jX)]) (rl:=[]) (bor:=[]) (news:=[]) (fu l (q4+1+1) V3 ⟨k,0,0,0,w,(bL l (q4) 17),(wrap64 (1+(bL l (q4+1) 255))),0,0,[]⟩ hV3.ok (by simp) (by omega)) rfl rfl rfl rfl ⟨bR rfl rfl rfl rfl (dN rfl (aD rfl (aD rfl (aD rfl (aD rfl (aD rfl (aD rfl (aD rfl (aD rfl (aD rfl (aD rfl aL)))))))))) (aU rfl (eJ rfl rfl rfl (aD rfl (bP rfl rfl rfl (bP rfl rfl rfl (bH rfl rfl rfl (bH rfl rfl rfl (bH rfl rfl rfl (bH rfl rfl rfl aL)))))))) (aU rfl (aD rfl (aD rfl aL)) (bV rfl rfl (bV rfl rfl (aY rfl rfl (aY rfl rfl (aY rfl rfl (aY rfl rfl trivial))))))))),rfl⟩ (by rintro _ ⟨W24,ok24,hw24,rfl⟩;exact⟨rfl,.inl rfl,fun j hj=>nomatch hj⟩) (aK ⟨rfl,rfl,rfl,rfl,rfl,rfl,rfl,rfl,trivial⟩) (fun j hj=>nomatch hj) ?_))))))))))))
     rintro _ ⟨W24,ok24,hw24,rfl⟩
     refine rT [0,1,2,6] (s3 ?_)
     first
     |(refine wq [] [] ⟨n - (i+1),by omega,i+1,W24,(q4+1+1),rfl,⟨by omega,((hV.trans (hV3.trans hw24)).le (by omega)),by omega,by omega⟩,rfl⟩ ?_
       repeat' apply ai
       all_goals try exact qx
       all_goals first|with_reducible rfl|exact congrArg D.i (aC (by omega))|rfl)
     |(refine wq [] [] ⟨n - (i+1),by omega,i+1,V3,q4,rfl,⟨by omega,((hV.trans hV3).le (by omega)),by omega,by omega⟩,rfl⟩ ?_
       repeat' apply ai
       all_goals try exact qx
       all_goals first|with_reducible rfl|exact congrArg D.i (aC (by omega))|rfl)
   refine sk (rT [0,1,2,6] (s3 ?_))
   first
   |(refine wq [] [] ⟨n - (i+1),by omega,i+1,W24,(q4+1+1),rfl,⟨by omega,((hV.trans (hV3.trans hw24)).le (by omega)),by omega,by omega⟩,rfl⟩ ?_
     repeat' apply ai
     all_goals try exact qx
     all_goals first|with_reducible rfl|exact congrArg D.i (aC (by omega))|rfl)
   |(refine wq [] [] ⟨n - (i+1),by omega,i+1,V3,q4,rfl,⟨by omega,((hV.trans hV3).le (by omega)),by omega,by omega⟩,rfl⟩ ?_
     repeat' apply ai
     all_goals try exact qx
     all_goals first|with_reducible rfl|exact congrArg D.i (aC (by omega))|rfl)
 refine xt (cU [oB 800 124 [.pt 801 0,.d (.i (V.tm)),.own 802 4,.own 803 3,ps 804 4 (V.a),ps 805 5 (V.b),ps 806 5 (V.c),ps 807 10 (V.d)],oB 801 137 [.d (.sl (aA l)),.d (.i (q))],oR 802 27 5 (aI V.ks),oR 803 4 1 (aN V.ls),(.o 804,aM 210 4 fO),(.o 805,aM 58 5 cN),(.o 806,aM 58 5 cN),(.o 807,aM 157 10 jX)] ⟨V,q,⟨hV.le (by omega),by omega,by omega⟩,rfl⟩ (rq [] [] rfl ?_))
 repeat' apply ai
 all_goals try exact qx
 all_goals(first|with_reducible rfl|(rfl))
set_option maxHeartbeats 3200000 in
theorem nc (l:List UInt8) (p:Int) (W:fJ) (n:Nat) (r:Int) (hp:0≤p∧p≤890000) (hl:l.length≤2000) (hW:W.ok) (hd:W.d≤98000) (hn:n≤7):nj 108 3 [tP 0 800,tI 1 (n:Nat),tI 2 r,oB 800 124 [.pt 801 0,.d (.i (W.tm)),.own 802 4,.own 803 3,ps 804 4 (W.a),ps 805 5 (W.b),ps 806 5 (W.c),ps 807 10 (W.d)],oB 801 137 [.d (.sl (aA l)),.d (.i (p))],oR 802 27 5 (aI W.ks),oR 803 4 1 (aN W.ls),(.o 804,aM 210 4 fO),(.o 805,aM 58 5 cN),(.o 806,aM 58 5 cN),(.o 807,aM 157 10 jX)] (fun s=> ∃(W2:fJ) (q:Int),(W2.of W 40∧p≤q∧q≤p+100)∧s=[oB 800 124 [.pt 801 0,.d (.i (W2.tm)),.own 802 4,.own 803 3,ps 804 4 (W2.a),ps 805 5 (W2.b),ps 806 5 (W2.c),ps 807 10 (W2.d)],oB 801 137 [.d (.sl (aA l)),.d (.i (q))],oR 802 27 5 (aI W2.ks),oR 803 4 1 (aN W2.ls),(.o 804,aM 210 4 fO),(.o 805,aM 58 5 cN),(.o 806,aM 58 5 cN),(.o 807,aM 157 10 jX)]):=by
 refine pj Tryz.func108 rfl (sq (rE [0,1,2,6,7,8] (s1 (cQ (robj:=[(800,.box 124 [.pt 801 0,.d (.i (W.tm)),.own 802 4,.own 803 3,ps 804 4 (W.a),ps 805 5 (W.b),ps 806 5 (W.c),ps 807 10 (W.d)]),(801,.box 137 [.d (.sl (aA l)),.d (.i (p))]),(802,.row 27 5 (aI W.ks)),(803,.row 4 1 (aN W.ls)),(804,aM 210 4 fO),(805,aM 58 5 cN),(806,aM 58 5 cN),(807,aM 157 10 jX)]) (rl:=[]) (bor:=[]) (news:=[]) (aU4 l p W (by omega) hl hW (by omega)) rfl rfl rfl rfl ⟨bR rfl rfl rfl rfl (aU rfl (eJ rfl rfl rfl (aD rfl (bP rfl rfl rfl (bP rfl rfl rfl (bH rfl rfl rfl (bH rfl rfl rfl (bH rfl rfl rfl (bH rfl rfl rfl aL)))))))) (aU rfl (aD rfl (aD rfl aL)) (bV rfl rfl (bV rfl rfl (aY rfl rfl (aY rfl rfl (aY rfl rfl (aY rfl rfl trivial)))))))),rfl⟩ (by rintro _ ⟨i0,n1,ok1,q1,hq1,rfl⟩;exact⟨rfl,.inl rfl,fun j hj=>nomatch hj⟩) (aK ⟨rfl,rfl,rfl,rfl,rfl,rfl,rfl,rfl,trivial⟩) (fun j hj=>nomatch hj) ?_))))
 rintro _ ⟨i0,n1,ok1,q1,hq1,rfl⟩
 refine s8 (sq (sq (rT [0,1,2,6,7,18] (s2 (cd rfl (fun c18=> ?_) fun c18=> ?_)))))
 · refine rt (cU [oB 800 124 [.pt 801 0,.d (.i (W.tm)),.own 802 4,.own 803 3,ps 804 4 (W.a),ps 805 5 (W.b),ps 806 5 (W.c),ps 807 10 (W.d)],oB 801 137 [.d (.sl (aA l)),.d (.i (q1))],oR 802 27 5 (aI W.ks),oR 803 4 1 (aN W.ls),(.o 804,aM 210 4 fO),(.o 805,aM 58 5 cN),(.o 806,aM 58 5 cN),(.o 807,aM 157 10 jX)] ⟨W,q1,⟨(fJ.of.refl hW).le (by omega),by omega,by omega⟩,rfl⟩ (rq [] [] rfl ?_))
   repeat' apply ai
   all_goals try exact qx
   all_goals(first|with_reducible rfl|(rfl))
 refine sk (sq (rD [0,1,2,6,7,9] (s4 (bE (robj:=[(801,.box 137 [.d (.sl (aA (l))),.d (.i (q1))])]) (rl:=[(0,801)]) (bor:=[]) (cL (l) (q1) _ (by omega) hl) rfl rfl rfl rfl ⟨bR rfl rfl rfl rfl (cJ rfl rfl (aU rfl (aD rfl (aD rfl aL)) trivial)),rfl⟩ rfl (.inl rfl) (aK ⟨rfl,trivial⟩) (fun _ hj=>nomatch hj) (s4 (bE (robj:=[(801,.box 137 [.d (.sl (aA (l))),.d (.i (q1+1))])]) (rl:=[(0,801)]) (bor:=[]) (cL (l) (q1+1) _ (by omega) hl) rfl rfl rfl rfl ⟨bR rfl rfl rfl rfl (cJ rfl rfl (aU rfl (aD rfl (aD rfl aL)) trivial)),rfl⟩ rfl (.inl rfl) (aK ⟨rfl,trivial⟩) (fun _ hj=>nomatch hj) (s2 (ai (by kernel_rfl) (sq (sq (rT [0,1,2,6,7,9,10] (s1 (bk ?_)))))))))))))
 obtain⟨m9,hm9⟩: ∃m9:Int,m9=wrap64 (bL l q1 2*bL l (q1+1) 40):=⟨_,rfl⟩
 refine SW.loopW (n:=n) (fun x s=> ∃(i:Nat) (V:fJ),x=n - i∧(i≤n∧V.of W i)∧s=[tP 0 800,tI 1 (n:Nat),tI 2 r,tI 10 (i:Nat),tI 6 i0,tP 7 7,tI 9 m9,oB 800 124 [.pt 801 0,.d (.i (V.tm)),.own 802 4,.own 803 3,ps 804 4 (V.a),ps 805 5 (V.b),ps 806 5 (V.c),ps 807 10 (V.d)],oB 801 137 [.d (.sl (aA l)),.d (.i (q1+1+1))],oR 802 27 5 (aI V.ks),oR 803 4 1 (aN V.ls),(.o 804,aM 210 4 fO),(.o 805,aM 58 5 cN),(.o 806,aM 58 5 cN),(.o 807,aM 157 10 jX),oB 7 58 [.d (.i n1.frm),.d (.i n1.num),.d (.i n1.to),.d (.i n1.til),.d (.s n1.text)]]) ?_ ?_
 · refine wq [] [] (⟨0,W,rfl,⟨by omega,fJ.of.refl hW⟩,rfl⟩) ?_
   repeat' apply ai
   all_goals first|exact qx|exact congrArg D.i hm9.symm|rfl|exact qz
 rintro n s ⟨i,V,rfl,⟨hin,hV⟩,rfl⟩
 have hVd:=hV.few
 refine sq (sq (rT [0,1,2,6,7,9,10,32] (s3 (cd rfl (fun c32=> ?_) fun c32=> ?_))))
 · have hi2:i<n:=by simp at c32;omega
   refine sk (sq (bk (rE [0,1,2,6,7,9,10] (s9 (s1 (cQ (robj:=[(800,.box 124 [.pt 801 0,.d (.i (V.tm)),.own 802 4,.own 803 3,ps 804 4 (V.a),ps 805 5 (V.b),ps 806 5 (V.c),ps 807 10 (V.d)]),(801,.box 137 [.d (.sl (aA l)),.d (.i (q1+1+1))]),(802,.row 27 5 (aI V.ks)),(803,.row 4 1 (aN V.ls)),(804,aM 210 4 fO),(805,aM 58 5 cN),(806,aM 58 5 cN),(807,aM 157 10 jX)]) (rl:=[]) (bor:=[]) (news:=[]) (fu l (q1+1+1) V ⟨3,i0,n1.frm,n1.num,0,wrap64 (m9+i),0,0,0,[]⟩ hV.ok (by simp) (by omega)) rfl rfl rfl rfl ⟨bR rfl rfl rfl rfl (dN rfl (aD rfl (aD rfl (aD rfl (aD rfl (aD rfl (aD rfl (aD rfl (aD rfl (aD rfl (aD rfl aL)))))))))) (aU rfl (eJ rfl rfl rfl (aD rfl (bP rfl rfl rfl (bP rfl rfl rfl (bH rfl rfl rfl (bH rfl rfl rfl (bH rfl rfl rfl (bH rfl rfl rfl aL)))))))) (aU rfl (aD rfl (aD rfl aL)) (bV rfl rfl (bV rfl rfl (aY rfl rfl (aY rfl rfl (aY rfl rfl (aY rfl rfl trivial))))))))),rfl⟩ (by rintro _ ⟨W2,ok2,hw2,rfl⟩;exact⟨rfl,.inl rfl,fun j hj=>nomatch hj⟩) (aK ⟨rfl,rfl,rfl,rfl,rfl,rfl,rfl,rfl,trivial⟩) (fun j hj=>nomatch hj) ?_))))))
   rintro _ ⟨W2,ok2,hw2,rfl⟩
   refine rT [0,1,2,6,7,9,10] (s3 (wq [] [] (⟨n - (i+1),by omega,i+1,W2,rfl,⟨by omega,hV.trans hw2⟩,rfl⟩) ?_))
   repeat' apply ai
   all_goals first|exact qx|exact congrArg D.i (aC (by omega))|rfl|exact qz
 refine xt ?_
 obtain⟨m,hm,hml⟩: ∃m:Nat,bL l (q1+1+1) (wrap64 ((n:Int)+4))=(m:Int)∧m≤10:=by have:=cD l (p:=q1+1+1) (n:=wrap64 ((n:Int)+4)) (by omega) (by rw[aC (by omega)];omega);rw[aC (n:=(n:Int)+4) (by omega)] at *; exact⟨(bL l (q1+1+1) ((n:Int)+4)).toNat,by omega,by omega⟩
 refine rE [] (s7 (iA (bE (robj:=[(801,.box 137 [.d (.sl (aA (l))),.d (.i (q1+1+1))])]) (rl:=[(0,801)]) (bor:=[]) (cL (l) (q1+1+1) _ (by omega) hl) rfl rfl rfl rfl ⟨bR rfl rfl rfl rfl (cJ rfl rfl (aU rfl (aD rfl (aD rfl aL)) trivial)),rfl⟩ rfl (.inl rfl) (aK ⟨rfl,trivial⟩) (fun _ hj=>nomatch hj) (s1 (cQ (robj:=[(800,.box 124 [.pt 801 0,.d (.i (V.tm)),.own 802 4,.own 803 3,ps 804 4 (V.a),ps 805 5 (V.b),ps 806 5 (V.c),ps 807 10 (V.d)]),(801,.box 137 [.d (.sl (aA l)),.d (.i (q1+1+1+1))]),(802,.row 27 5 (aI V.ks)),(803,.row 4 1 (aN V.ls)),(804,aM 210 4 fO),(805,aM 58 5 cN),(806,aM 58 5 cN),(807,aM 157 10 jX)]) (rl:=[]) (bor:=[]) (news:=[]) (nb l (q1+1+1+1) V m r (by omega) hl hV.ok (by omega) (by omega)) rfl rfl rfl rfl ⟨bR rfl rfl rfl rfl (cJ rfl (congrArg D.i hm) (cJ rfl rfl (aU rfl (eJ rfl rfl rfl (aD rfl (bP rfl rfl rfl (bP rfl rfl rfl (bH rfl rfl rfl (bH rfl rfl rfl (bH rfl rfl rfl (bH rfl rfl rfl aL)))))))) (aU rfl (aD rfl (aD rfl aL)) (bV rfl rfl (bV rfl rfl (aY rfl rfl (aY rfl rfl (aY rfl rfl (aY rfl rfl trivial)))))))))),rfl⟩ (by rintro _ ⟨W2,q2,hw2,rfl⟩;exact⟨rfl,.inl rfl,fun j hj=>nomatch hj⟩) (aK ⟨rfl,rfl,rfl,rfl,rfl,rfl,rfl,rfl,trivial⟩) (fun j hj=>nomatch hj) ?_)))))
 rintro _ ⟨W2,q2,hw2,rfl⟩
 refine cU [oB 800 124 [.pt 801 0,.d (.i (W2.tm)),.own 802 4,.own 803 3,ps 804 4 (W2.a),ps 805 5 (W2.b),ps 806 5 (W2.c),ps 807 10 (W2.d)],oB 801 137 [.d (.sl (aA l)),.d (.i (q2))],oR 802 27 5 (aI W2.ks),oR 803 4 1 (aN W2.ls),(.o 804,aM 210 4 fO),(.o 805,aM 58 5 cN),(.o 806,aM 58 5 cN),(.o 807,aM 157 10 jX)] ⟨W2,q2,⟨(hV.trans hw2.1).le (by omega),by omega,by omega⟩,rfl⟩ (rq [] [] rfl ?_)
 repeat' apply ai
 all_goals try exact qx
 all_goals(first|with_reducible rfl|(rfl))
set_option maxHeartbeats 6400000 in
theorem aU5 (l:List UInt8) (p:Int) (W:fJ) (hp:0≤p∧p≤880000) (hl:l.length≤2000) (hW:W.ok) (hd:W.d≤97000):nj 173 1 [tP 0 800,oB 800 124 [.pt 801 0,.d (.i (W.tm)),.own 802 4,.own 803 3,ps 804 4 (W.a),ps 805 5 (W.b),ps 806 5 (W.c),ps 807 10 (W.d)],oB 801 137 [.d (.sl (aA l)),.d (.i (p))],oR 802 27 5 (aI W.ks),oR 803 4 1 (aN W.ls),(.o 804,aM 210 4 fO),(.o 805,aM 58 5 cN),(.o 806,aM 58 5 cN),(.o 807,aM 157 10 jX)] (fun s=> ∃(W2:fJ) (q:Int),(W2.of W 500∧p≤q∧q≤p+1000)∧s=[oB 800 124 [.pt 801 0,.d (.i (W2.tm)),.own 802 4,.own 803 3,ps 804 4 (W2.a),ps 805 5 (W2.b),ps 806 5 (W2.c),ps 807 10 (W2.d)],oB 801 137 [.d (.sl (aA l)),.d (.i (q))],oR 802 27 5 (aI W2.ks),oR 803 4 1 (aN W2.ls),(.o 804,aM 210 4 fO),(.o 805,aM 58 5 cN),(.o 806,aM 58 5 cN),(.o 807,aM 157 10 jX)]):=by
 refine pj Tryz.func173 rfl (sq (rE [0] (s1 (cQ (robj:=[(800,.box 124 [.pt 801 0,.d (.i (W.tm)),.own 802 4,.own 803 3,ps 804 4 (W.a),ps 805 5 (W.b),ps 806 5 (W.c),ps 807 10 (W.d)]),(801,.box 137 [.d (.sl (aA l)),.d (.i (p))]),(802,.row 27 5 (aI W.ks)),(803,.row 4 1 (aN W.ls)),(804,aM 210 4 fO),(805,aM 58 5 cN),(806,aM 58 5 cN),(807,aM 157 10 jX)]) (rl:=[]) (bor:=[]) (news:=[]) (nb l p W 40 0 (by omega) hl hW (by omega) (by omega)) rfl rfl rfl rfl ⟨bR rfl rfl rfl rfl (cJ rfl rfl (cJ rfl rfl (aU rfl (eJ rfl rfl rfl (aD rfl (bP rfl rfl rfl (bP rfl rfl rfl (bH rfl rfl rfl (bH rfl rfl rfl (bH rfl rfl rfl (bH rfl rfl rfl aL)))))))) (aU rfl (aD rfl (aD rfl aL)) (bV rfl rfl (bV rfl rfl (aY rfl rfl (aY rfl rfl (aY rfl rfl (aY rfl rfl trivial)))))))))),rfl⟩ (by rintro _ ⟨W1,q1,hw1,rfl⟩;exact⟨rfl,.inl rfl,fun j hj=>nomatch hj⟩) (aK ⟨rfl,rfl,rfl,rfl,rfl,rfl,rfl,rfl,trivial⟩) (fun j hj=>nomatch hj) ?_))))
 rintro _ ⟨W1,q1,hw1,rfl⟩
 refine sq (rE [0] (s1 (cQ (robj:=[(800,.box 124 [.pt 801 0,.d (.i (W1.tm)),.own 802 4,.own 803 3,ps 804 4 (W1.a),ps 805 5 (W1.b),ps 806 5 (W1.c),ps 807 10 (W1.d)]),(801,.box 137 [.d (.sl (aA l)),.d (.i (q1))]),(802,.row 27 5 (aI W1.ks)),(803,.row 4 1 (aN W1.ls)),(804,aM 210 4 fO),(805,aM 58 5 cN),(806,aM 58 5 cN),(807,aM 157 10 jX)]) (rl:=[]) (bor:=[]) (news:=[]) (nc l q1 W1 6 0 (by omega) hl hw1.1.ok (by have:=hw1.1.few;omega) (by omega)) rfl rfl rfl rfl ⟨bR rfl rfl rfl rfl (cJ rfl rfl (cJ rfl rfl (aU rfl (eJ rfl rfl rfl (aD rfl (bP rfl rfl rfl (bP rfl rfl rfl (bH rfl rfl rfl (bH rfl rfl rfl (bH rfl rfl rfl (bH rfl rfl rfl aL)))))))) (aU rfl (aD rfl (aD rfl aL)) (bV rfl rfl (bV rfl rfl (aY rfl rfl (aY rfl rfl (aY rfl rfl (aY rfl rfl trivial)))))))))),rfl⟩ (by rintro _ ⟨W2,q2,hw2,rfl⟩;exact⟨rfl,.inl rfl,fun j hj=>nomatch hj⟩) (aK ⟨rfl,rfl,rfl,rfl,rfl,rfl,rfl,rfl,trivial⟩) (fun j hj=>nomatch hj) ?_)))
 rintro _ ⟨W2,q2,hw2,rfl⟩
 refine sq (sq (rT [0,2] (s1 (bk ?_))))
 have hw1d:=hw1.1.few
 have hw2d:=hw2.1.few
 refine SW.loopW (n:=2) (fun x s=> ∃(i:Nat) (V:fJ) (q:Int),x=2 - i∧(i≤2∧V.of W (160+30*i)∧p≤q∧q≤p+420+i)∧s=[tP 0 800,tI 2 (i:Nat),oB 800 124 [.pt 801 0,.d (.i (V.tm)),.own 802 4,.own 803 3,ps 804 4 (V.a),ps 805 5 (V.b),ps 806 5 (V.c),ps 807 10 (V.d)],oB 801 137 [.d (.sl (aA l)),.d (.i (q))],oR 802 27 5 (aI V.ks),oR 803 4 1 (aN V.ls),(.o 804,aM 210 4 fO),(.o 805,aM 58 5 cN),(.o 806,aM 58 5 cN),(.o 807,aM 157 10 jX)]) ?_ ?_
 · exact wq [] [] (⟨0,W2,q2,rfl,⟨by omega,(hw1.1.trans hw2.1).le (by omega),by omega,by omega⟩,rfl⟩) qz
 rintro n s ⟨i,V,q,rfl,⟨hi2,hV,hq⟩,rfl⟩
 have hVd:=hV.few
 have hpv:=cD l (p:=q) (n:=2) (by omega) (by omega)
 refine sq (sq (rT [0,2,20] (s5 (bE (robj:=[(801,.box 137 [.d (.sl (aA (l))),.d (.i (q))])]) (rl:=[(0,801)]) (bor:=[]) (cL (l) (q) _ (by omega) hl) rfl rfl rfl rfl ⟨bR rfl rfl rfl rfl (cJ rfl rfl (aU rfl (aD rfl (aD rfl aL)) trivial)),rfl⟩ rfl (.inl rfl) (aK ⟨rfl,trivial⟩) (fun _ hj=>nomatch hj) (s2 (cd rfl (fun c20=> ?_) fun c20=> ?_))))))
 · have hi1:i<2:=by rw[aC (by omega)] at c20;simp at c20;omega
   refine sk (sq (bk (sq (rT [0,2,3] (s5 (ip cX rfl rfl rfl rfl rfl (s1 (sq (rT [0,2,3,4] (s1 (bk ?_)))))))))))
   obtain⟨a3,ha3,ha30⟩: ∃a3:Nat,a3=V.a∧a3≤30:=⟨_,rfl,hV.ok.ra⟩
   refine SW.loopW (n:=a3) (fun x s=> ∃(j:Nat) (U:fJ),x=a3 - j∧(j≤a3∧U.of V j)∧s=[tP 0 800,tI 2 (i:Nat),tI 3 (a3:Nat),tI 4 (j:Nat),oB 800 124 [.pt 801 0,.d (.i (U.tm)),.own 802 4,.own 803 3,ps 804 4 (U.a),ps 805 5 (U.b),ps 806 5 (U.c),ps 807 10 (U.d)],oB 801 137 [.d (.sl (aA l)),.d (.i (q+1))],oR 802 27 5 (aI U.ks),oR 803 4 1 (aN U.ls),(.o 804,aM 210 4 fO),(.o 805,aM 58 5 cN),(.o 806,aM 58 5 cN),(.o 807,aM 157 10 jX)]) ?_ ?_
   · refine wq [] [] (⟨0,V,rfl,⟨by omega,fJ.of.refl hV.ok⟩,rfl⟩) ?_
     repeat' apply ai
     all_goals first|exact qx|rfl|(rw[ha3])|exact qz
   rintro n s ⟨j,U,rfl,⟨hj,hU⟩,rfl⟩
   have hUd:=hU.few
   refine sq (sq (rT [0,2,3,4,31] (s3 (cd rfl (fun c31=> ?_) fun c31=> ?_))))
   · have hj2:j<a3:=by simp at c31;omega
     refine sk (sq (bk (rE [0,2,3,4] (s3 (cQ (robj:=[(800,.box 124 [.pt 801 0,.d (.i (U.tm)),.own 802 4,.own 803 3,ps 804 4 (U.a),ps 805 5 (U.b),ps 806 5 (U.c),ps 807 10 (U.d)]),(801,.box 137 [.d (.sl (aA l)),.d (.i (q+1))]),(802,.row 27 5 (aI U.ks)),(803,.row 4 1 (aN U.ls)),(804,aM 210 4 fO),(805,aM 58 5 cN),(806,aM 58 5 cN),(807,aM 157 10 jX)]) (rl:=[]) (bor:=[]) (news:=[]) (fu l (q+1) U ⟨4,0,0,0,j,0,1,0,0,[]⟩ hU.ok (by simp) (by omega)) rfl rfl rfl rfl ⟨bR rfl rfl rfl rfl (dN rfl (aD rfl (aD rfl (aD rfl (aD rfl (aD rfl (aD rfl (aD rfl (aD rfl (aD rfl (aD rfl aL)))))))))) (aU rfl (eJ rfl rfl rfl (aD rfl (bP rfl rfl rfl (bP rfl rfl rfl (bH rfl rfl rfl (bH rfl rfl rfl (bH rfl rfl rfl (bH rfl rfl rfl aL)))))))) (aU rfl (aD rfl (aD rfl aL)) (bV rfl rfl (bV rfl rfl (aY rfl rfl (aY rfl rfl (aY rfl rfl (aY rfl rfl trivial))))))))),rfl⟩ (by rintro _ ⟨W3,ok3,hw3,rfl⟩;exact⟨rfl,.inl rfl,fun j hj=>nomatch hj⟩) (aK ⟨rfl,rfl,rfl,rfl,rfl,rfl,rfl,rfl,trivial⟩) (fun j hj=>nomatch hj) ?_)))))
     rintro _ ⟨W3,ok3,hw3,rfl⟩
     refine rT [0,2,3,4] (s3 (wq [] [] (⟨a3 - (j+1),by omega,j+1,W3,rfl,⟨by omega,hU.trans hw3⟩,rfl⟩) ?_))
     repeat' apply ai
     all_goals first|exact qx|exact congrArg D.i (aC (by omega))|rfl|exact qz
   have hj3:j=a3:=by simp at c31;omega
   refine xt (rT [0,2] (s3 (wq [] [] (⟨2 - (i+1),by omega,i+1,U,q+1,rfl,⟨by omega,(hV.trans hU).le (by omega),by omega,by omega⟩,rfl⟩) ?_)))
   repeat' apply ai
   all_goals first|exact qx|exact congrArg D.i (aC (by omega))|rfl|exact qz
 refine xt (sq (rT [0,5] (s4 (bE (robj:=[(801,.box 137 [.d (.sl (aA (l))),.d (.i (q+1))])]) (rl:=[(0,801)]) (bor:=[]) (cL (l) (q+1) _ (by omega) hl) rfl rfl rfl rfl ⟨bR rfl rfl rfl rfl (cJ rfl rfl (aU rfl (aD rfl (aD rfl aL)) trivial)),rfl⟩ rfl (.inl rfl) (aK ⟨rfl,trivial⟩) (fun _ hj=>nomatch hj) (s1 (SW.midW (fun s=> ∃(V2:fJ) (q4:Int),(V2.of V 10∧q≤q4∧q4≤q+5)∧s=[tP 0 800,oB 800 124 [.pt 801 0,.d (.i (V2.tm)),.own 802 4,.own 803 3,ps 804 4 (V2.a),ps 805 5 (V2.b),ps 806 5 (V2.c),ps 807 10 (V2.d)],oB 801 137 [.d (.sl (aA l)),.d (.i (q4))],oR 802 27 5 (aI V2.ks),oR 803 4 1 (aN V2.ls),(.o 804,aM 210 4 fO),(.o 805,aM 58 5 cN),(.o 806,aM 58 5 cN),(.o 807,aM 157 10 jX)]) ?_ ?_))))))
 · refine sq (rT [0,5,47] (s4 (bE (robj:=[(801,.box 137 [.d (.sl (aA (l))),.d (.i (q+1+1))])]) (rl:=[(0,801)]) (bor:=[]) (cL (l) (q+1+1) _ (by omega) hl) rfl rfl rfl rfl ⟨bR rfl rfl rfl rfl (cJ rfl rfl (aU rfl (aD rfl (aD rfl aL)) trivial)),rfl⟩ rfl (.inl rfl) (aK ⟨rfl,trivial⟩) (fun _ hj=>nomatch hj) (bk (sq (rT [0,5,47,48] (s2 (cd rfl (fun c48=> ?_) fun c48=> ?_))))))))
   · refine sq (rE [0,5] (s6 (iA (bE (robj:=[(801,.box 137 [.d (.sl (aA (l))),.d (.i (q+1+1+1))])]) (rl:=[(0,801)]) (bor:=[]) (cL (l) (q+1+1+1) _ (by omega) hl) rfl rfl rfl rfl ⟨bR rfl rfl rfl rfl (cJ rfl rfl (aU rfl (aD rfl (aD rfl aL)) trivial)),rfl⟩ rfl (.inl rfl) (aK ⟨rfl,trivial⟩) (fun _ hj=>nomatch hj) (s1 (cQ (robj:=[(800,.box 124 [.pt 801 0,.d (.i (V.tm)),.own 802 4,.own 803 3,ps 804 4 (V.a),ps 805 5 (V.b),ps 806 5 (V.c),ps 807 10 (V.d)]),(801,.box 137 [.d (.sl (aA l)),.d (.i (q+1+1+1+1))]),(802,.row 27 5 (aI V.ks)),(803,.row 4 1 (aN V.ls)),(804,aM 210 4 fO),(805,aM 58 5 cN),(806,aM 58 5 cN),(807,aM 157 10 jX)]) (rl:=[]) (bor:=[]) (news:=[]) (fu l (q+1+1+1+1) V ⟨7,bL l (q+1) 4,0,0,0,0,bL l (q+1+1+1) 40,0,0,[]⟩ hV.ok (by simp) (by omega)) rfl rfl rfl rfl ⟨bR rfl rfl rfl rfl (dN rfl (aD rfl (aD rfl (aD rfl (aD rfl (aD rfl (aD rfl (aD rfl (aD rfl (aD rfl (aD rfl aL)))))))))) (aU rfl (eJ rfl rfl rfl (aD rfl (bP rfl rfl rfl (bP rfl rfl rfl (bH rfl rfl rfl (bH rfl rfl rfl (bH rfl rfl rfl (bH rfl rfl rfl aL)))))))) (aU rfl (aD rfl (aD rfl aL)) (bV rfl rfl (bV rfl rfl (aY rfl rfl (aY rfl rfl (aY rfl rfl (aY rfl rfl trivial))))))))),rfl⟩ (by rintro _ ⟨W3,ok3,hw3,rfl⟩;exact⟨rfl,.inl rfl,fun j hj=>nomatch hj⟩) (aK ⟨rfl,rfl,rfl,rfl,rfl,rfl,rfl,rfl,trivial⟩) (fun j hj=>nomatch hj) ?_))))))
     rintro _ ⟨W3,ok3,hw3,rfl⟩
     refine rE [0] (s3 (cQ (robj:=[(800,.box 124 [.pt 801 0,.d (.i (W3.tm)),.own 802 4,.own 803 3,ps 804 4 (W3.a),ps 805 5 (W3.b),ps 806 5 (W3.c),ps 807 10 (W3.d)]),(801,.box 137 [.d (.sl (aA l)),.d (.i (q+1+1+1+1))]),(802,.row 27 5 (aI W3.ks)),(803,.row 4 1 (aN W3.ls)),(804,aM 210 4 fO),(805,aM 58 5 cN),(806,aM 58 5 cN),(807,aM 157 10 jX)]) (rl:=[]) (bor:=[]) (news:=[]) (fu l (q+1+1+1+1) W3 ⟨8,bL l (q+1) 4,0,0,0,0,0,0,0,[]⟩ hw3.ok (by simp) (by have:=hw3.few;omega)) rfl rfl rfl rfl ⟨bR rfl rfl rfl rfl (dN rfl (aD rfl (aD rfl (aD rfl (aD rfl (aD rfl (aD rfl (aD rfl (aD rfl (aD rfl (aD rfl aL)))))))))) (aU rfl (eJ rfl rfl rfl (aD rfl (bP rfl rfl rfl (bP rfl rfl rfl (bH rfl rfl rfl (bH rfl rfl rfl (bH rfl rfl rfl (bH rfl rfl rfl aL)))))))) (aU rfl (aD rfl (aD rfl aL)) (bV rfl rfl (bV rfl rfl (aY rfl rfl (aY rfl rfl (aY rfl rfl (aY rfl rfl trivial))))))))),rfl⟩ (by rintro _ ⟨W4,ok4,hw4,rfl⟩;exact⟨rfl,.inl rfl,fun j hj=>nomatch hj⟩) (aK ⟨rfl,rfl,rfl,rfl,rfl,rfl,rfl,rfl,trivial⟩) (fun j hj=>nomatch hj) ?_))
     rintro _ ⟨W4,ok4,hw4,rfl⟩
     first
     |(exact wq [] [] ⟨W4,q+1+1+1+1,⟨(hw3.trans hw4).le (by omega),by omega,by omega⟩,rfl⟩ qz)
     |(exact wq [] [] ⟨U,q+1+1+1+1,⟨hU.le (by omega),by omega,by omega⟩,rfl⟩ qz)
     |(exact wq [] [] ⟨V,q+1+1+1,⟨(fJ.of.refl hV.ok).le (by omega),by omega,by omega⟩,rfl⟩ qz)
   refine sq (rT [0,5,63] (s2 (cd rfl (fun c63=> ?_) fun c63=> ?_)))
   · refine sq (rT [0,5,6] (s4 (bE (robj:=[(801,.box 137 [.d (.sl (aA (l))),.d (.i (q+1+1+1))])]) (rl:=[(0,801)]) (bor:=[]) (cL (l) (q+1+1+1) _ (by omega) hl) rfl rfl rfl rfl ⟨bR rfl rfl rfl rfl (cJ rfl rfl (aU rfl (aD rfl (aD rfl aL)) trivial)),rfl⟩ rfl (.inl rfl) (aK ⟨rfl,trivial⟩) (fun _ hj=>nomatch hj) (s1 (bk ?_)))))
     obtain⟨k0,hk0,hk9⟩: ∃k0:Nat,bL l (q+1+1+1) 9=(k0:Int)∧k0≤8:=by have:=cD l (p:=q+1+1+1) (n:=9) (by omega) (by omega);exact⟨(bL l (q+1+1+1) 9).toNat,by omega,by omega⟩
     obtain⟨x5,hx5⟩: ∃x5:Int,x5=bL l (q+1) 4:=⟨_,rfl⟩
     refine SW.loopW (n:=k0) (fun x s=> ∃(U:fJ),(x≤k0∧U.of V (k0 - x))∧s=[tP 0 800,tI 5 x5,tI 6 (x:Nat),oB 800 124 [.pt 801 0,.d (.i (U.tm)),.own 802 4,.own 803 3,ps 804 4 (U.a),ps 805 5 (U.b),ps 806 5 (U.c),ps 807 10 (U.d)],oB 801 137 [.d (.sl (aA l)),.d (.i (q+1+1+1+1))],oR 802 27 5 (aI U.ks),oR 803 4 1 (aN U.ls),(.o 804,aM 210 4 fO),(.o 805,aM 58 5 cN),(.o 806,aM 58 5 cN),(.o 807,aM 157 10 jX)]) ?_ ?_
     · refine wq [] [] (⟨V,⟨by omega,(fJ.of.refl hV.ok).le (by omega)⟩,rfl⟩) ?_
       repeat' apply ai
       all_goals first|exact qx|exact congrArg D.i hk0|exact congrArg D.i hx5.symm|rfl|exact qz
     rintro n s ⟨U,⟨hx,hU⟩,rfl⟩
     have hUd:=hU.few
     refine sq (sq (rT [0,5,6,71] (s2 (cd rfl (fun c71=> ?_) fun c71=> ?_))))
     · have hn0:0<n:=by simp at c71;omega
       refine sk (sq (bk (rE [0,5,6] (s3 (cQ (robj:=[(800,.box 124 [.pt 801 0,.d (.i (U.tm)),.own 802 4,.own 803 3,ps 804 4 (U.a),ps 805 5 (U.b),ps 806 5 (U.c),ps 807 10 (U.d)]),(801,.box 137 [.d (.sl (aA l)),.d (.i (q+1+1+1+1))]),(802,.row 27 5 (aI U.ks)),(803,.row 4 1 (aN U.ls)),(804,aM 210 4 fO),(805,aM 58 5 cN),(806,aM 58 5 cN),(807,aM 157 10 jX)]) (rl:=[]) (bor:=[]) (news:=[]) (fu l (q+1+1+1+1) U ⟨2,x5,0,0,0,0,0,0,0,[]⟩ hU.ok (by simp) (by omega)) rfl rfl rfl rfl ⟨bR rfl rfl rfl rfl (dN rfl (aD rfl (aD rfl (aD rfl (aD rfl (aD rfl (aD rfl (aD rfl (aD rfl (aD rfl (aD rfl aL)))))))))) (aU rfl (eJ rfl rfl rfl (aD rfl (bP rfl rfl rfl (bP rfl rfl rfl (bH rfl rfl rfl (bH rfl rfl rfl (bH rfl rfl rfl (bH rfl rfl rfl aL)))))))) (aU rfl (aD rfl (aD rfl aL)) (bV rfl rfl (bV rfl rfl (aY rfl rfl (aY rfl rfl (aY rfl rfl (aY rfl rfl trivial))))))))),rfl⟩ (by rintro _ ⟨W3,ok3,hw3,rfl⟩;exact⟨rfl,.inl rfl,fun j hj=>nomatch hj⟩) (aK ⟨rfl,rfl,rfl,rfl,rfl,rfl,rfl,rfl,trivial⟩) (fun j hj=>nomatch hj) ?_)))))
       rintro _ ⟨W3,ok3,hw3,rfl⟩
       refine rT [0,5,6] (s3 (wq [] [] (⟨n - 1,by omega,W3,⟨by omega,(hU.trans hw3).le (by omega)⟩,rfl⟩) ?_))
       repeat' apply ai
       all_goals first|exact qx|(refine congrArg D.i ?_;rw[aC (by omega)];omega)|rfl|exact qz
     refine xt ?_
     first
     |(exact wq [] [] ⟨W4,q+1+1+1+1,⟨(hw3.trans hw4).le (by omega),by omega,by omega⟩,rfl⟩ qz)
     |(exact wq [] [] ⟨U,q+1+1+1+1,⟨hU.le (by omega),by omega,by omega⟩,rfl⟩ qz)
     |(exact wq [] [] ⟨V,q+1+1+1,⟨(fJ.of.refl hV.ok).le (by omega),by omega,by omega⟩,rfl⟩ qz)
   refine sk ?_
   first
   |(exact wq [] [] ⟨W4,q+1+1+1+1,⟨(hw3.trans hw4).le (by omega),by omega,by omega⟩,rfl⟩ qz)
   |(exact wq [] [] ⟨U,q+1+1+1+1,⟨hU.le (by omega),by omega,by omega⟩,rfl⟩ qz)
   |(exact wq [] [] ⟨V,q+1+1+1,⟨(fJ.of.refl hV.ok).le (by omega),by omega,by omega⟩,rfl⟩ qz)
 rintro s ⟨V2,q4,⟨hV2,hq4⟩,rfl⟩
 have hV2d:=hV2.few
 refine sq (rT [0,7] (s5 (ip cX rfl rfl rfl rfl rfl (s1 (sq (rE [0,7] (s1 (cQ (robj:=[(800,.box 124 [.pt 801 0,.d (.i (V2.tm)),.own 802 4,.own 803 3,ps 804 4 (V2.a),ps 805 5 (V2.b),ps 806 5 (V2.c),ps 807 10 (V2.d)]),(801,.box 137 [.d (.sl (aA l)),.d (.i (q4))]),(802,.row 27 5 (aI V2.ks)),(803,.row 4 1 (aN V2.ls)),(804,aM 210 4 fO),(805,aM 58 5 cN),(806,aM 58 5 cN),(807,aM 157 10 jX)]) (rl:=[]) (bor:=[]) (news:=[]) (nc l q4 V2 6 0 (by omega) hl hV2.ok (by omega) (by omega)) rfl rfl rfl rfl ⟨bR rfl rfl rfl rfl (cJ rfl rfl (cJ rfl rfl (aU rfl (eJ rfl rfl rfl (aD rfl (bP rfl rfl rfl (bP rfl rfl rfl (bH rfl rfl rfl (bH rfl rfl rfl (bH rfl rfl rfl (bH rfl rfl rfl aL)))))))) (aU rfl (aD rfl (aD rfl aL)) (bV rfl rfl (bV rfl rfl (aY rfl rfl (aY rfl rfl (aY rfl rfl (aY rfl rfl trivial)))))))))),rfl⟩ (by rintro _ ⟨V3,q7,hw7,rfl⟩;exact⟨rfl,.inl rfl,fun j hj=>nomatch hj⟩) (aK ⟨rfl,rfl,rfl,rfl,rfl,rfl,rfl,rfl,trivial⟩) (fun j hj=>nomatch hj) ?_))))))))
 rintro _ ⟨V3,q7,hw7,rfl⟩
 refine sq (sq (rT [0,7,8] (s1 (bk ?_))))
 obtain⟨a7,ha7⟩: ∃a7:Nat,a7=V2.a:=⟨_,rfl⟩
 have hw7d:=hw7.1.few
 refine SW.loopW (n:=12) (fun x s=> ∃(i:Nat) (U:fJ),x=12 - i∧(i≤12∧U.of V3 i)∧s=[tP 0 800,tI 7 (a7:Nat),tI 8 (i:Nat),oB 800 124 [.pt 801 0,.d (.i (U.tm)),.own 802 4,.own 803 3,ps 804 4 (U.a),ps 805 5 (U.b),ps 806 5 (U.c),ps 807 10 (U.d)],oB 801 137 [.d (.sl (aA l)),.d (.i (q7))],oR 802 27 5 (aI U.ks),oR 803 4 1 (aN U.ls),(.o 804,aM 210 4 fO),(.o 805,aM 58 5 cN),(.o 806,aM 58 5 cN),(.o 807,aM 157 10 jX)]) ?_ ?_
 · refine wq [] [] (⟨0,V3,rfl,⟨by omega,fJ.of.refl hw7.1.ok⟩,rfl⟩) ?_
   repeat' apply ai
   all_goals first|exact qx|rfl|(rw[ha7])|exact qz
 rintro n s ⟨i7,U,rfl,⟨hi7,hU⟩,rfl⟩
 have hUd:=hU.few
 refine sq (sq (rT [0,7,8,97] (s3 (y4 (y1 (aEe cX rfl rfl rfl rfl rfl rk (y2 (ai pk (cd rfl (fun c97=> ?_) fun c97=> ?_)))))))))
 · have hi12:i7<12:=by have h9:=c97;simp only[gb,aW4,decide_eq_true_eq] at h9;omega
   refine sk (sq (bk (rE [0,7,8] (s3 (cQ (robj:=[(800,.box 124 [.pt 801 0,.d (.i (U.tm)),.own 802 4,.own 803 3,ps 804 4 (U.a),ps 805 5 (U.b),ps 806 5 (U.c),ps 807 10 (U.d)]),(801,.box 137 [.d (.sl (aA l)),.d (.i (q7))]),(802,.row 27 5 (aI U.ks)),(803,.row 4 1 (aN U.ls)),(804,aM 210 4 fO),(805,aM 58 5 cN),(806,aM 58 5 cN),(807,aM 157 10 jX)]) (rl:=[]) (bor:=[]) (news:=[]) (fu l q7 U ⟨4,0,0,0,a7,0,0,0,0,[]⟩ hU.ok (by simp) (by omega)) rfl rfl rfl rfl ⟨bR rfl rfl rfl rfl (dN rfl (aD rfl (aD rfl (aD rfl (aD rfl (aD rfl (aD rfl (aD rfl (aD rfl (aD rfl (aD rfl aL)))))))))) (aU rfl (eJ rfl rfl rfl (aD rfl (bP rfl rfl rfl (bP rfl rfl rfl (bH rfl rfl rfl (bH rfl rfl rfl (bH rfl rfl rfl (bH rfl rfl rfl aL)))))))) (aU rfl (aD rfl (aD rfl aL)) (bV rfl rfl (bV rfl rfl (aY rfl rfl (aY rfl rfl (aY rfl rfl (aY rfl rfl trivial))))))))),rfl⟩ (by rintro _ ⟨W3,ok3,hw3,rfl⟩;exact⟨rfl,.inl rfl,fun j hj=>nomatch hj⟩) (aK ⟨rfl,rfl,rfl,rfl,rfl,rfl,rfl,rfl,trivial⟩) (fun j hj=>nomatch hj) ?_)))))
   rintro _ ⟨W3,ok3,hw3,rfl⟩
   refine rT [0,7,8] (s3 (wq [] [] (⟨12 - (i7+1),by omega,i7+1,W3,rfl,⟨by omega,hU.trans hw3⟩,rfl⟩) ?_))
   repeat' apply ai
   all_goals first|exact qx|exact congrArg D.i (aC (by omega))|rfl|exact qz
 refine xt (rE [] (s1 (cQ (robj:=[(800,.box 124 [.pt 801 0,.d (.i (U.tm)),.own 802 4,.own 803 3,ps 804 4 (U.a),ps 805 5 (U.b),ps 806 5 (U.c),ps 807 10 (U.d)]),(801,.box 137 [.d (.sl (aA l)),.d (.i (q7))]),(802,.row 27 5 (aI U.ks)),(803,.row 4 1 (aN U.ls)),(804,aM 210 4 fO),(805,aM 58 5 cN),(806,aM 58 5 cN),(807,aM 157 10 jX)]) (rl:=[]) (bor:=[]) (news:=[]) (nb l q7 U 40 0 (by omega) hl hU.ok (by omega) (by omega)) rfl rfl rfl rfl ⟨bR rfl rfl rfl rfl (cJ rfl rfl (cJ rfl rfl (aU rfl (eJ rfl rfl rfl (aD rfl (bP rfl rfl rfl (bP rfl rfl rfl (bH rfl rfl rfl (bH rfl rfl rfl (bH rfl rfl rfl (bH rfl rfl rfl aL)))))))) (aU rfl (aD rfl (aD rfl aL)) (bV rfl rfl (bV rfl rfl (aY rfl rfl (aY rfl rfl (aY rfl rfl (aY rfl rfl trivial)))))))))),rfl⟩ (by rintro _ ⟨W9,q9,hw9,rfl⟩;exact⟨rfl,.inl rfl,fun j hj=>nomatch hj⟩) (aK ⟨rfl,rfl,rfl,rfl,rfl,rfl,rfl,rfl,trivial⟩) (fun j hj=>nomatch hj) ?_)))
 rintro _ ⟨W9,q9,hw9,rfl⟩
 refine cU [oB 800 124 [.pt 801 0,.d (.i (W9.tm)),.own 802 4,.own 803 3,ps 804 4 (W9.a),ps 805 5 (W9.b),ps 806 5 (W9.c),ps 807 10 (W9.d)],oB 801 137 [.d (.sl (aA l)),.d (.i (q9))],oR 802 27 5 (aI W9.ks),oR 803 4 1 (aN W9.ls),(.o 804,aM 210 4 fO),(.o 805,aM 58 5 cN),(.o 806,aM 58 5 cN),(.o 807,aM 157 10 jX)] ⟨W9,q9,⟨(hV.trans (hV2.trans (hw7.1.trans (hU.trans hw9.1)))).le (by omega),by omega,by omega⟩,rfl⟩ (rq [] [] rfl ?_)
 repeat' apply ai
 all_goals try exact qx
 all_goals(first|with_reducible rfl|(rfl))
set_option maxHeartbeats 6400000 in
theorem aU6 (l:List UInt8) (p:Int) (W:fJ) (r:Int) (hp:0≤p∧p≤870000) (hl:l.length≤2000) (hW:W.ok) (hd:W.d≤96000):nj 140 2 [tP 0 800,tI 1 r,oB 800 124 [.pt 801 0,.d (.i (W.tm)),.own 802 4,.own 803 3,ps 804 4 (W.a),ps 805 5 (W.b),ps 806 5 (W.c),ps 807 10 (W.d)],oB 801 137 [.d (.sl (aA l)),.d (.i (p))],oR 802 27 5 (aI W.ks),oR 803 4 1 (aN W.ls),(.o 804,aM 210 4 fO),(.o 805,aM 58 5 cN),(.o 806,aM 58 5 cN),(.o 807,aM 157 10 jX)] (fun s=> ∃(W2:fJ) (q:Int),(W2.of W 520∧p≤q∧q≤p+1200)∧s=[oB 800 124 [.pt 801 0,.d (.i (W2.tm)),.own 802 4,.own 803 3,ps 804 4 (W2.a),ps 805 5 (W2.b),ps 806 5 (W2.c),ps 807 10 (W2.d)],oB 801 137 [.d (.sl (aA l)),.d (.i (q))],oR 802 27 5 (aI W2.ks),oR 803 4 1 (aN W2.ls),(.o 804,aM 210 4 fO),(.o 805,aM 58 5 cN),(.o 806,aM 58 5 cN),(.o 807,aM 157 10 jX)]):=by
 refine pj Tryz.func140 rfl (sq (rT [0,1,4] (s4 (bE (robj:=[(801,.box 137 [.d (.sl (aA (l))),.d (.i (p))])]) (rl:=[(0,801)]) (bor:=[]) (cL (l) (p) _ (by omega) hl) rfl rfl rfl rfl ⟨bR rfl rfl rfl rfl (cJ rfl rfl (aU rfl (aD rfl (aD rfl aL)) trivial)),rfl⟩ rfl (.inl rfl) (aK ⟨rfl,trivial⟩) (fun _ hj=>nomatch hj) (s1 (sq ?_))))))
 obtain⟨i,hi,hil⟩:=ap (show 0≤bL l p 4∧bL l p 4≤3 by have:=cD l (p:=p) (n:=4) (by omega) (by omega);omega)
 obtain⟨v,hv⟩: ∃v:Int,v=bL l (p+1) 24:=⟨_,rfl⟩
 refine rT [0,1,4,18] (s4 (bE (robj:=[(801,.box 137 [.d (.sl (aA (l))),.d (.i (p+1))])]) (rl:=[(0,801)]) (bor:=[]) (cL (l) (p+1) _ (by omega) hl) rfl rfl rfl rfl ⟨bR rfl rfl rfl rfl (cJ rfl rfl (aU rfl (aD rfl (aD rfl aL)) trivial)),rfl⟩ rfl (.inl rfl) (aK ⟨rfl,trivial⟩) (fun _ hj=>nomatch hj) (bk (SW.midW (fun s=> ∃cb:Bool,s=[tP 0 800,tI 1 r,tI 4 (i:Nat),tI 18 v,tB 27 cb,oB 800 124 [.pt 801 0,.d (.i (W.tm)),.own 802 4,.own 803 3,ps 804 4 (W.a),ps 805 5 (W.b),ps 806 5 (W.c),ps 807 10 (W.d)],oB 801 137 [.d (.sl (aA l)),.d (.i (p+1+1))],oR 802 27 5 (aI W.ks),oR 803 4 1 (aN W.ls),(.o 804,aM 210 4 fO),(.o 805,aM 58 5 cN),(.o 806,aM 58 5 cN),(.o 807,aM 157 10 jX)]) ?_ ?_))))
 · refine sq (rT [0,1,4,18,27] (s2 (cd rfl (fun c27=> ?_) fun c27=> ?_)))
   · refine sk (wq [] [] ⟨?c1,rfl⟩ ?_)
     repeat' apply ai
     all_goals try exact qx
     try any_goals first|with_reducible rfl|exact congrArg D.i hi|exact congrArg D.i hv.symm|rfl
   refine sq (rT [0,1,4,18,27] (s2 (cd rfl (fun c27=> ?_) fun c27=> ?_)))
   · refine sk (wq [] [] ⟨?c2,rfl⟩ ?_)
     repeat' apply ai
     all_goals try exact qx
     try any_goals first|with_reducible rfl|exact congrArg D.i hi|exact congrArg D.i hv.symm|rfl
   refine rT [0,1,4,18,27] (s2 (wq [] [] ⟨?c3,rfl⟩ ?_))
   repeat' apply ai
   all_goals try exact qx
   try any_goals first|with_reducible rfl|exact congrArg D.i hi|exact congrArg D.i hv.symm|rfl
 rintro s ⟨cb27,rfl⟩
 refine cd rfl (fun c27=> ?_) fun c27=> ?_
 · refine rE [] (s1 (cQ (robj:=[(800,.box 124 [.pt 801 0,.d (.i (W.tm)),.own 802 4,.own 803 3,ps 804 4 (W.a),ps 805 5 (W.b),ps 806 5 (W.c),ps 807 10 (W.d)]),(801,.box 137 [.d (.sl (aA l)),.d (.i (p+1+1))]),(802,.row 27 5 (aI W.ks)),(803,.row 4 1 (aN W.ls)),(804,aM 210 4 fO),(805,aM 58 5 cN),(806,aM 58 5 cN),(807,aM 157 10 jX)]) (rl:=[]) (bor:=[]) (news:=[]) (aTd l (p+1+1) W (by omega) hl hW (by omega)) rfl rfl rfl rfl ⟨bR rfl rfl rfl rfl (aU rfl (eJ rfl rfl rfl (aD rfl (bP rfl rfl rfl (bP rfl rfl rfl (bH rfl rfl rfl (bH rfl rfl rfl (bH rfl rfl rfl (bH rfl rfl rfl aL)))))))) (aU rfl (aD rfl (aD rfl aL)) (bV rfl rfl (bV rfl rfl (aY rfl rfl (aY rfl rfl (aY rfl rfl (aY rfl rfl trivial)))))))),rfl⟩ (by rintro _ ⟨W2,q2,hw2,rfl⟩;exact⟨rfl,.inl rfl,fun j hj=>nomatch hj⟩) (aK ⟨rfl,rfl,rfl,rfl,rfl,rfl,rfl,rfl,trivial⟩) (fun j hj=>nomatch hj) ?_))
   rintro _ ⟨W2,q2,hw2,rfl⟩
   refine cU [oB 800 124 [.pt 801 0,.d (.i (W2.tm)),.own 802 4,.own 803 3,ps 804 4 (W2.a),ps 805 5 (W2.b),ps 806 5 (W2.c),ps 807 10 (W2.d)],oB 801 137 [.d (.sl (aA l)),.d (.i (q2))],oR 802 27 5 (aI W2.ks),oR 803 4 1 (aN W2.ls),(.o 804,aM 210 4 fO),(.o 805,aM 58 5 cN),(.o 806,aM 58 5 cN),(.o 807,aM 157 10 jX)] ⟨W2,q2,⟨(hw2.1).le (by omega),by omega,by omega⟩,rfl⟩ (rq [] [] rfl ?_)
   repeat' apply ai
   all_goals try exact qx
   all_goals(first|with_reducible rfl|(rfl))
 refine SW.midW (fun s=> ∃cb:Bool,s=[tP 0 800,tI 1 r,tI 4 (i:Nat),tI 18 v,tB 33 cb,oB 800 124 [.pt 801 0,.d (.i (W.tm)),.own 802 4,.own 803 3,ps 804 4 (W.a),ps 805 5 (W.b),ps 806 5 (W.c),ps 807 10 (W.d)],oB 801 137 [.d (.sl (aA l)),.d (.i (p+1+1))],oR 802 27 5 (aI W.ks),oR 803 4 1 (aN W.ls),(.o 804,aM 210 4 fO),(.o 805,aM 58 5 cN),(.o 806,aM 58 5 cN),(.o 807,aM 157 10 jX)]) ?_ ?_
 · refine sq (rT [0,1,4,18,33] (s2 (cd rfl (fun c33=> ?_) fun c33=> ?_)))
   · refine sk (wq [] [] ⟨?c4,rfl⟩ ?_)
     repeat' apply ai
     all_goals try exact qx
     try any_goals first|with_reducible rfl|exact congrArg D.i hi|exact congrArg D.i hv.symm|rfl
   refine sq (rT [0,1,4,18,33] (s2 (cd rfl (fun c33=> ?_) fun c33=> ?_)))
   · refine sk (wq [] [] ⟨?c5,rfl⟩ ?_)
     repeat' apply ai
     all_goals try exact qx
     try any_goals first|with_reducible rfl|exact congrArg D.i hi|exact congrArg D.i hv.symm|rfl
   refine sq (rT [0,1,4,18,33] (s2 (cd rfl (fun c33=> ?_) fun c33=> ?_)))
   · refine sk (wq [] [] ⟨?c6,rfl⟩ ?_)
     repeat' apply ai
     all_goals try exact qx
     try any_goals first|with_reducible rfl|exact congrArg D.i hi|exact congrArg D.i hv.symm|rfl
   refine sq (rT [0,1,4,18,33] (s2 (cd rfl (fun c33=> ?_) fun c33=> ?_)))
   · refine sk (wq [] [] ⟨?c7,rfl⟩ ?_)
     repeat' apply ai
     all_goals try exact qx
     try any_goals first|with_reducible rfl|exact congrArg D.i hi|exact congrArg D.i hv.symm|rfl
   refine sq (rT [0,1,4,18,33] (s2 (cd rfl (fun c33=> ?_) fun c33=> ?_)))
   · refine sk (wq [] [] ⟨?c8,rfl⟩ ?_)
     repeat' apply ai
     all_goals try exact qx
     try any_goals first|with_reducible rfl|exact congrArg D.i hi|exact congrArg D.i hv.symm|rfl
   refine rT [0,1,4,18,33] (s2 (wq [] [] ⟨?c9,rfl⟩ ?_))
   repeat' apply ai
   all_goals try exact qx
   try any_goals first|with_reducible rfl|exact congrArg D.i hi|exact congrArg D.i hv.symm|rfl
 rintro s ⟨cb33,rfl⟩
 refine cd rfl (fun c33=> ?_) fun c33=> ?_
 · refine rE [] (s5 (iA (bE (robj:=[(801,.box 137 [.d (.sl (aA (l))),.d (.i (p+1+1))])]) (rl:=[(0,801)]) (bor:=[]) (cL (l) (p+1+1) _ (by omega) hl) rfl rfl rfl rfl ⟨bR rfl rfl rfl rfl (cJ rfl rfl (aU rfl (aD rfl (aD rfl aL)) trivial)),rfl⟩ rfl (.inl rfl) (aK ⟨rfl,trivial⟩) (fun _ hj=>nomatch hj) ?_)))
   obtain⟨m7,hm7,hbm7⟩: ∃m7:Nat,wrap64 (1+bL l (p+1+1) 7)=(m7:Int)∧1≤m7∧m7≤7:=by have:=cD l (p:=p+1+1) (n:=7) (by omega) (by omega);rw[aC (by omega)];exact⟨(1+bL l (p+1+1) 7).toNat,by omega,by omega,by omega⟩
   refine s2 (cQ (robj:=[(800,.box 124 [.pt 801 0,.d (.i (W.tm)),.own 802 4,.own 803 3,ps 804 4 (W.a),ps 805 5 (W.b),ps 806 5 (W.c),ps 807 10 (W.d)]),(801,.box 137 [.d (.sl (aA l)),.d (.i (p+1+1+1))]),(802,.row 27 5 (aI W.ks)),(803,.row 4 1 (aN W.ls)),(804,aM 210 4 fO),(805,aM 58 5 cN),(806,aM 58 5 cN),(807,aM 157 10 jX)]) (rl:=[]) (bor:=[]) (news:=[]) (nc l (p+1+1+1) W m7 r (by omega) hl hW (by omega) (by omega)) rfl rfl rfl rfl ⟨bR rfl rfl rfl rfl (cJ rfl (congrArg D.i hm7) (cJ rfl rfl (aU rfl (eJ rfl rfl rfl (aD rfl (bP rfl rfl rfl (bP rfl rfl rfl (bH rfl rfl rfl (bH rfl rfl rfl (bH rfl rfl rfl (bH rfl rfl rfl aL)))))))) (aU rfl (aD rfl (aD rfl aL)) (bV rfl rfl (bV rfl rfl (aY rfl rfl (aY rfl rfl (aY rfl rfl (aY rfl rfl trivial)))))))))),rfl⟩ (by rintro _ ⟨W2,q2,hw2,rfl⟩;exact⟨rfl,.inl rfl,fun j hj=>nomatch hj⟩) (aK ⟨rfl,rfl,rfl,rfl,rfl,rfl,rfl,rfl,trivial⟩) (fun j hj=>nomatch hj) ?_)
   rintro _ ⟨W2,q2,hw2,rfl⟩
   refine cU [oB 800 124 [.pt 801 0,.d (.i (W2.tm)),.own 802 4,.own 803 3,ps 804 4 (W2.a),ps 805 5 (W2.b),ps 806 5 (W2.c),ps 807 10 (W2.d)],oB 801 137 [.d (.sl (aA l)),.d (.i (q2))],oR 802 27 5 (aI W2.ks),oR 803 4 1 (aN W2.ls),(.o 804,aM 210 4 fO),(.o 805,aM 58 5 cN),(.o 806,aM 58 5 cN),(.o 807,aM 157 10 jX)] ⟨W2,q2,⟨(hw2.1).le (by omega),by omega,by omega⟩,rfl⟩ (rq [] [] rfl ?_)
   repeat' apply ai
   all_goals try exact qx
   all_goals(first|with_reducible rfl|(rfl))
 refine SW.midW (fun s=> ∃cb:Bool,s=[tP 0 800,tI 1 r,tI 4 (i:Nat),tI 18 v,tB 49 cb,oB 800 124 [.pt 801 0,.d (.i (W.tm)),.own 802 4,.own 803 3,ps 804 4 (W.a),ps 805 5 (W.b),ps 806 5 (W.c),ps 807 10 (W.d)],oB 801 137 [.d (.sl (aA l)),.d (.i (p+1+1))],oR 802 27 5 (aI W.ks),oR 803 4 1 (aN W.ls),(.o 804,aM 210 4 fO),(.o 805,aM 58 5 cN),(.o 806,aM 58 5 cN),(.o 807,aM 157 10 jX)]) ?_ ?_
 · refine sq (rT [0,1,4,18,49] (s2 (cd rfl (fun c49=> ?_) fun c49=> ?_)))
   · refine sk (wq [] [] ⟨?c10,rfl⟩ ?_)
     repeat' apply ai
     all_goals try exact qx
     try any_goals first|with_reducible rfl|exact congrArg D.i hi|exact congrArg D.i hv.symm|rfl
   refine rT [0,1,4,18,49] (s2 (wq [] [] ⟨?c11,rfl⟩ ?_))
   repeat' apply ai
   all_goals try exact qx
   try any_goals first|with_reducible rfl|exact congrArg D.i hi|exact congrArg D.i hv.symm|rfl
 rintro s ⟨cb49,rfl⟩
 refine cd rfl (fun c49=> ?_) fun c49=> ?_
 · refine rE [] (s5 (iA (bE (robj:=[(801,.box 137 [.d (.sl (aA (l))),.d (.i (p+1+1))])]) (rl:=[(0,801)]) (bor:=[]) (cL (l) (p+1+1) _ (by omega) hl) rfl rfl rfl rfl ⟨bR rfl rfl rfl rfl (cJ rfl rfl (aU rfl (aD rfl (aD rfl aL)) trivial)),rfl⟩ rfl (.inl rfl) (aK ⟨rfl,trivial⟩) (fun _ hj=>nomatch hj) ?_)))
   obtain⟨m7,hm7,hbm7⟩: ∃m7:Nat,wrap64 (1+bL l (p+1+1) 20)=(m7:Int)∧1≤m7∧m7≤20:=by have:=cD l (p:=p+1+1) (n:=20) (by omega) (by omega);rw[aC (by omega)];exact⟨(1+bL l (p+1+1) 20).toNat,by omega,by omega,by omega⟩
   refine s2 (cQ (robj:=[(800,.box 124 [.pt 801 0,.d (.i (W.tm)),.own 802 4,.own 803 3,ps 804 4 (W.a),ps 805 5 (W.b),ps 806 5 (W.c),ps 807 10 (W.d)]),(801,.box 137 [.d (.sl (aA l)),.d (.i (p+1+1+1))]),(802,.row 27 5 (aI W.ks)),(803,.row 4 1 (aN W.ls)),(804,aM 210 4 fO),(805,aM 58 5 cN),(806,aM 58 5 cN),(807,aM 157 10 jX)]) (rl:=[]) (bor:=[]) (news:=[]) (nb l (p+1+1+1) W m7 r (by omega) hl hW (by omega) (by omega)) rfl rfl rfl rfl ⟨bR rfl rfl rfl rfl (cJ rfl (congrArg D.i hm7) (cJ rfl rfl (aU rfl (eJ rfl rfl rfl (aD rfl (bP rfl rfl rfl (bP rfl rfl rfl (bH rfl rfl rfl (bH rfl rfl rfl (bH rfl rfl rfl (bH rfl rfl rfl aL)))))))) (aU rfl (aD rfl (aD rfl aL)) (bV rfl rfl (bV rfl rfl (aY rfl rfl (aY rfl rfl (aY rfl rfl (aY rfl rfl trivial)))))))))),rfl⟩ (by rintro _ ⟨W2,q2,hw2,rfl⟩;exact⟨rfl,.inl rfl,fun j hj=>nomatch hj⟩) (aK ⟨rfl,rfl,rfl,rfl,rfl,rfl,rfl,rfl,trivial⟩) (fun j hj=>nomatch hj) ?_)
   rintro _ ⟨W2,q2,hw2,rfl⟩
   refine cU [oB 800 124 [.pt 801 0,.d (.i (W2.tm)),.own 802 4,.own 803 3,ps 804 4 (W2.a),ps 805 5 (W2.b),ps 806 5 (W2.c),ps 807 10 (W2.d)],oB 801 137 [.d (.sl (aA l)),.d (.i (q2))],oR 802 27 5 (aI W2.ks),oR 803 4 1 (aN W2.ls),(.o 804,aM 210 4 fO),(.o 805,aM 58 5 cN),(.o 806,aM 58 5 cN),(.o 807,aM 157 10 jX)] ⟨W2,q2,⟨(hw2.1).le (by omega),by omega,by omega⟩,rfl⟩ (rq [] [] rfl ?_)
   repeat' apply ai
   all_goals try exact qx
   all_goals(first|with_reducible rfl|(rfl))
 refine SW.midW (fun s=> ∃cb:Bool,s=[tP 0 800,tI 4 (i:Nat),tI 18 v,tB 61 cb,oB 800 124 [.pt 801 0,.d (.i (W.tm)),.own 802 4,.own 803 3,ps 804 4 (W.a),ps 805 5 (W.b),ps 806 5 (W.c),ps 807 10 (W.d)],oB 801 137 [.d (.sl (aA l)),.d (.i (p+1+1))],oR 802 27 5 (aI W.ks),oR 803 4 1 (aN W.ls),(.o 804,aM 210 4 fO),(.o 805,aM 58 5 cN),(.o 806,aM 58 5 cN),(.o 807,aM 157 10 jX)]) ?_ ?_
 · refine sq (rT [0,4,18,61] (s2 (cd rfl (fun c61=> ?_) fun c61=> ?_)))
   · refine sk (wq [] [] ⟨?c12,rfl⟩ ?_)
     repeat' apply ai
     all_goals try exact qx
     try any_goals first|with_reducible rfl|exact congrArg D.i hi|exact congrArg D.i hv.symm|rfl
   refine rT [0,4,18,61] (s2 (wq [] [] ⟨?c13,rfl⟩ ?_))
   repeat' apply ai
   all_goals try exact qx
   try any_goals first|with_reducible rfl|exact congrArg D.i hi|exact congrArg D.i hv.symm|rfl
 rintro s ⟨cb61,rfl⟩
 refine cd rfl (fun c61=> ?_) fun c61=> ?_
 · refine rE [] (s3 (cQ (robj:=[(800,.box 124 [.pt 801 0,.d (.i (W.tm)),.own 802 4,.own 803 3,ps 804 4 (W.a),ps 805 5 (W.b),ps 806 5 (W.c),ps 807 10 (W.d)]),(801,.box 137 [.d (.sl (aA l)),.d (.i (p+1+1))]),(802,.row 27 5 (aI W.ks)),(803,.row 4 1 (aN W.ls)),(804,aM 210 4 fO),(805,aM 58 5 cN),(806,aM 58 5 cN),(807,aM 157 10 jX)]) (rl:=[]) (bor:=[]) (news:=[]) (fu l (p+1+1) W ⟨2,i,0,0,0,0,0,0,0,[]⟩ hW (by simp) (by omega)) rfl rfl rfl rfl ⟨bR rfl rfl rfl rfl (dN rfl (aD rfl (aD rfl (aD rfl (aD rfl (aD rfl (aD rfl (aD rfl (aD rfl (aD rfl (aD rfl aL)))))))))) (aU rfl (eJ rfl rfl rfl (aD rfl (bP rfl rfl rfl (bP rfl rfl rfl (bH rfl rfl rfl (bH rfl rfl rfl (bH rfl rfl rfl (bH rfl rfl rfl aL)))))))) (aU rfl (aD rfl (aD rfl aL)) (bV rfl rfl (bV rfl rfl (aY rfl rfl (aY rfl rfl (aY rfl rfl (aY rfl rfl trivial))))))))),rfl⟩ (by rintro _ ⟨W2,ok2,hw2,rfl⟩;exact⟨rfl,.inl rfl,fun j hj=>nomatch hj⟩) (aK ⟨rfl,rfl,rfl,rfl,rfl,rfl,rfl,rfl,trivial⟩) (fun j hj=>nomatch hj) ?_))
   rintro _ ⟨W2,ok2,hw2,rfl⟩
   refine cU [oB 800 124 [.pt 801 0,.d (.i (W2.tm)),.own 802 4,.own 803 3,ps 804 4 (W2.a),ps 805 5 (W2.b),ps 806 5 (W2.c),ps 807 10 (W2.d)],oB 801 137 [.d (.sl (aA l)),.d (.i ((p+1+1)))],oR 802 27 5 (aI W2.ks),oR 803 4 1 (aN W2.ls),(.o 804,aM 210 4 fO),(.o 805,aM 58 5 cN),(.o 806,aM 58 5 cN),(.o 807,aM 157 10 jX)] ⟨W2,(p+1+1),⟨(hw2).le (by omega),by omega,by omega⟩,rfl⟩ (rq [] [] rfl ?_)
   repeat' apply ai
   all_goals try exact qx
   all_goals(first|with_reducible rfl|(rfl))
 refine sq (rT [0,4,18,68] (s2 (cd rfl (fun c68=> ?_) fun c68=> ?_)))
 · refine rE [] (s6 (iA (bE (robj:=[(801,.box 137 [.d (.sl (aA (l))),.d (.i (p+1+1))])]) (rl:=[(0,801)]) (bor:=[]) (cL (l) (p+1+1) _ (by omega) hl) rfl rfl rfl rfl ⟨bR rfl rfl rfl rfl (cJ rfl rfl (aU rfl (aD rfl (aD rfl aL)) trivial)),rfl⟩ rfl (.inl rfl) (aK ⟨rfl,trivial⟩) (fun _ hj=>nomatch hj) (s1 (cQ (robj:=[(800,.box 124 [.pt 801 0,.d (.i (W.tm)),.own 802 4,.own 803 3,ps 804 4 (W.a),ps 805 5 (W.b),ps 806 5 (W.c),ps 807 10 (W.d)]),(801,.box 137 [.d (.sl (aA l)),.d (.i (p+1+1+1))]),(802,.row 27 5 (aI W.ks)),(803,.row 4 1 (aN W.ls)),(804,aM 210 4 fO),(805,aM 58 5 cN),(806,aM 58 5 cN),(807,aM 157 10 jX)]) (rl:=[]) (bor:=[]) (news:=[]) (fu l (p+1+1+1) W ⟨7,i,0,0,0,0,bL l (p+1+1) 50,0,0,[]⟩ hW (by simp) (by omega)) rfl rfl rfl rfl ⟨bR rfl rfl rfl rfl (dN rfl (aD rfl (aD rfl (aD rfl (aD rfl (aD rfl (aD rfl (aD rfl (aD rfl (aD rfl (aD rfl aL)))))))))) (aU rfl (eJ rfl rfl rfl (aD rfl (bP rfl rfl rfl (bP rfl rfl rfl (bH rfl rfl rfl (bH rfl rfl rfl (bH rfl rfl rfl (bH rfl rfl rfl aL)))))))) (aU rfl (aD rfl (aD rfl aL)) (bV rfl rfl (bV rfl rfl (aY rfl rfl (aY rfl rfl (aY rfl rfl (aY rfl rfl trivial))))))))),rfl⟩ (by rintro _ ⟨W2,ok2,hw2,rfl⟩;exact⟨rfl,.inl rfl,fun j hj=>nomatch hj⟩) (aK ⟨rfl,rfl,rfl,rfl,rfl,rfl,rfl,rfl,trivial⟩) (fun j hj=>nomatch hj) ?_)))))
   rintro _ ⟨W2,ok2,hw2,rfl⟩
   refine cU [oB 800 124 [.pt 801 0,.d (.i (W2.tm)),.own 802 4,.own 803 3,ps 804 4 (W2.a),ps 805 5 (W2.b),ps 806 5 (W2.c),ps 807 10 (W2.d)],oB 801 137 [.d (.sl (aA l)),.d (.i ((p+1+1+1)))],oR 802 27 5 (aI W2.ks),oR 803 4 1 (aN W2.ls),(.o 804,aM 210 4 fO),(.o 805,aM 58 5 cN),(.o 806,aM 58 5 cN),(.o 807,aM 157 10 jX)] ⟨W2,(p+1+1+1),⟨(hw2).le (by omega),by omega,by omega⟩,rfl⟩ (rq [] [] rfl ?_)
   repeat' apply ai
   all_goals try exact qx
   all_goals(first|with_reducible rfl|(rfl))
 refine SW.midW (fun s=> ∃cb:Bool,s=[tP 0 800,tI 4 (i:Nat),tI 18 v,tB 79 cb,oB 800 124 [.pt 801 0,.d (.i (W.tm)),.own 802 4,.own 803 3,ps 804 4 (W.a),ps 805 5 (W.b),ps 806 5 (W.c),ps 807 10 (W.d)],oB 801 137 [.d (.sl (aA l)),.d (.i (p+1+1))],oR 802 27 5 (aI W.ks),oR 803 4 1 (aN W.ls),(.o 804,aM 210 4 fO),(.o 805,aM 58 5 cN),(.o 806,aM 58 5 cN),(.o 807,aM 157 10 jX)]) ?_ ?_
 · refine sq (rT [0,4,18,79] (s2 (cd rfl (fun c79=> ?_) fun c79=> ?_)))
   · refine sk (wq [] [] ⟨?c14,rfl⟩ ?_)
     repeat' apply ai
     all_goals try exact qx
     try any_goals first|with_reducible rfl|exact congrArg D.i hi|exact congrArg D.i hv.symm|rfl
   refine rT [0,4,18,79] (s2 (wq [] [] ⟨?c15,rfl⟩ ?_))
   repeat' apply ai
   all_goals try exact qx
   try any_goals first|with_reducible rfl|exact congrArg D.i hi|exact congrArg D.i hv.symm|rfl
 rintro s ⟨cb79,rfl⟩
 refine cd rfl (fun c79=> ?_) fun c79=> ?_
 · refine rE [] (s3 (cQ (robj:=[(800,.box 124 [.pt 801 0,.d (.i (W.tm)),.own 802 4,.own 803 3,ps 804 4 (W.a),ps 805 5 (W.b),ps 806 5 (W.c),ps 807 10 (W.d)]),(801,.box 137 [.d (.sl (aA l)),.d (.i (p+1+1))]),(802,.row 27 5 (aI W.ks)),(803,.row 4 1 (aN W.ls)),(804,aM 210 4 fO),(805,aM 58 5 cN),(806,aM 58 5 cN),(807,aM 157 10 jX)]) (rl:=[]) (bor:=[]) (news:=[]) (fu l (p+1+1) W ⟨8,i,0,0,0,0,0,0,0,[]⟩ hW (by simp) (by omega)) rfl rfl rfl rfl ⟨bR rfl rfl rfl rfl (dN rfl (aD rfl (aD rfl (aD rfl (aD rfl (aD rfl (aD rfl (aD rfl (aD rfl (aD rfl (aD rfl aL)))))))))) (aU rfl (eJ rfl rfl rfl (aD rfl (bP rfl rfl rfl (bP rfl rfl rfl (bH rfl rfl rfl (bH rfl rfl rfl (bH rfl rfl rfl (bH rfl rfl rfl aL)))))))) (aU rfl (aD rfl (aD rfl aL)) (bV rfl rfl (bV rfl rfl (aY rfl rfl (aY rfl rfl (aY rfl rfl (aY rfl rfl trivial))))))))),rfl⟩ (by rintro _ ⟨W2,ok2,hw2,rfl⟩;exact⟨rfl,.inl rfl,fun j hj=>nomatch hj⟩) (aK ⟨rfl,rfl,rfl,rfl,rfl,rfl,rfl,rfl,trivial⟩) (fun j hj=>nomatch hj) ?_))
   rintro _ ⟨W2,ok2,hw2,rfl⟩
   refine cU [oB 800 124 [.pt 801 0,.d (.i (W2.tm)),.own 802 4,.own 803 3,ps 804 4 (W2.a),ps 805 5 (W2.b),ps 806 5 (W2.c),ps 807 10 (W2.d)],oB 801 137 [.d (.sl (aA l)),.d (.i ((p+1+1)))],oR 802 27 5 (aI W2.ks),oR 803 4 1 (aN W2.ls),(.o 804,aM 210 4 fO),(.o 805,aM 58 5 cN),(.o 806,aM 58 5 cN),(.o 807,aM 157 10 jX)] ⟨W2,(p+1+1),⟨(hw2).le (by omega),by omega,by omega⟩,rfl⟩ (rq [] [] rfl ?_)
   repeat' apply ai
   all_goals try exact qx
   all_goals(first|with_reducible rfl|(rfl))
 refine sq (rT [0,4,18,86] (s2 (cd rfl (fun c86=> ?_) fun c86=> ?_)))
 · refine SW.regDE cX mo [] 13 (fun _=>none) rfl rfl (by kernel_rfl) ?_
   refine s5 (bE (robj:=[(801,.box 137 [.d (.sl (aA (l))),.d (.i (p+1+1))])]) (rl:=[(0,801)]) (bor:=[]) (cL (l) (p+1+1) _ (by omega) hl) rfl rfl rfl rfl ⟨bR rfl rfl rfl rfl (cJ rfl rfl (aU rfl (aD rfl (aD rfl aL)) trivial)),rfl⟩ rfl (.inl rfl) (aK ⟨rfl,trivial⟩) (fun _ hj=>nomatch hj) (s5 (bE (robj:=[(801,.box 137 [.d (.sl (aA (l))),.d (.i (p+1+1+1))])]) (rl:=[(0,801)]) (bor:=[]) (cL (l) (p+1+1+1) _ (by omega) hl) rfl rfl rfl rfl ⟨bR rfl rfl rfl rfl (cJ rfl rfl (aU rfl (aD rfl (aD rfl aL)) trivial)),rfl⟩ rfl (.inl rfl) (aK ⟨rfl,trivial⟩) (fun _ hj=>nomatch hj) (s1 (er (robj:=[(800,.box 124 [.pt 801 0,.d (.i (W.tm)),.own 802 4,.own 803 3,ps 804 4 (W.a),ps 805 5 (W.b),ps 806 5 (W.c),ps 807 10 (W.d)]),(801,.box 137 [.d (.sl (aA l)),.d (.i (p+1+1+1+1))]),(802,.row 27 5 (aI W.ks)),(803,.row 4 1 (aN W.ls)),(804,aM 210 4 fO),(805,aM 58 5 cN),(806,aM 58 5 cN),(807,aM 157 10 jX)]) (rl:=[]) (bor:=[]) (news:=[]) (fu l (p+1+1+1+1) W ⟨wrap64 (9+bL l (p+1+1) 2),bL l (p+1+1+1) 3,0,0,0,0,0,0,0,[]⟩ hW (by simp) (by omega)) rfl rfl rfl rfl ⟨bR rfl rfl rfl rfl (dN rfl (aD rfl (aD rfl (aD rfl (aD rfl (aD rfl (aD rfl (aD rfl (aD rfl (aD rfl (aD rfl aL)))))))))) (aU rfl (eJ rfl rfl rfl (aD rfl (bP rfl rfl rfl (bP rfl rfl rfl (bH rfl rfl rfl (bH rfl rfl rfl (bH rfl rfl rfl (bH rfl rfl rfl aL)))))))) (aU rfl (aD rfl (aD rfl aL)) (bV rfl rfl (bV rfl rfl (aY rfl rfl (aY rfl rfl (aY rfl rfl (aY rfl rfl trivial))))))))),rfl⟩ (by rintro _ ⟨W2,ok2,hw2,rfl⟩;exact⟨rfl,.inl rfl,fun j hj=>nomatch hj⟩) (aK ⟨rfl,rfl,rfl,rfl,rfl,rfl,rfl,rfl,trivial⟩) (fun j hj=>nomatch hj) ⟨_,W,false,(fJ.of.refl hW).le (by omega),rfl⟩ ?_)))))
   rintro _ ⟨W2,ok2,hw2,rfl⟩
   refine ai (by kernel_rfl) (cU [oB 800 124 [.pt 801 0,.d (.i (W2.tm)),.own 802 4,.own 803 3,ps 804 4 (W2.a),ps 805 5 (W2.b),ps 806 5 (W2.c),ps 807 10 (W2.d)],oB 801 137 [.d (.sl (aA l)),.d (.i ((p+1+1+1+1)))],oR 802 27 5 (aI W2.ks),oR 803 4 1 (aN W2.ls),(.o 804,aM 210 4 fO),(.o 805,aM 58 5 cN),(.o 806,aM 58 5 cN),(.o 807,aM 157 10 jX)] ⟨W2,(p+1+1+1+1),⟨(hw2).le (by omega),by omega,by omega⟩,rfl⟩ (rq [] [] rfl ?_))
   repeat' apply ai
   all_goals try exact qx
   all_goals(first|with_reducible rfl|(rfl))
 refine SW.midW (fun s=> ∃cb:Bool,s=[tP 0 800,tI 4 (i:Nat),tI 18 v,tB 102 cb,oB 800 124 [.pt 801 0,.d (.i (W.tm)),.own 802 4,.own 803 3,ps 804 4 (W.a),ps 805 5 (W.b),ps 806 5 (W.c),ps 807 10 (W.d)],oB 801 137 [.d (.sl (aA l)),.d (.i (p+1+1))],oR 802 27 5 (aI W.ks),oR 803 4 1 (aN W.ls),(.o 804,aM 210 4 fO),(.o 805,aM 58 5 cN),(.o 806,aM 58 5 cN),(.o 807,aM 157 10 jX)]) ?_ ?_
 · refine sq (rT [0,4,18,102] (s2 (cd rfl (fun c102=> ?_) fun c102=> ?_)))
   · refine sk (wq [] [] ⟨?c16,rfl⟩ ?_)
     repeat' apply ai
     all_goals try exact qx
     try any_goals first|with_reducible rfl|exact congrArg D.i hi|exact congrArg D.i hv.symm|rfl
   refine rT [0,4,18,102] (s2 (wq [] [] ⟨?c17,rfl⟩ ?_))
   repeat' apply ai
   all_goals try exact qx
   try any_goals first|with_reducible rfl|exact congrArg D.i hi|exact congrArg D.i hv.symm|rfl
 rintro s ⟨cb102,rfl⟩
 refine cd rfl (fun c102=> ?_) fun c102=> ?_
 · refine sq (rT [0,4,5] (s6 (ai (by exact⟨by rw[bI];exact hW.four,by omega,by omega⟩) (ai (by rw[aWz,cG (by rw[hW.four];omega)];exact⟨⟨by rw[bI];exact hW.four,by omega⟩,aW1 rfl,rfl⟩) (xp (hZ (W.ks.getD i .zero) (by have:=(hW.at (show i<4 by omega)).1;omega)) (ai (by rw[aWz,cG (by rw[hW.four];omega)];rfl) ?_))))))
   refine s6 (sq (rT [0,4,5,120] (s4 (cd rfl (fun c120=> ?_) fun c120=> ?_))))
   · refine sq ?_
     have hn0:0< (bC (W.ks.getD i .zero)).1.inbox.length:=by have h9:=of_decide_eq_true c120;rw[aB] at h9;omega
     obtain⟨j,hj,hjl⟩: ∃j:Nat,bL l (p+1+1) ((aE (bC (W.ks.getD i .zero)).1.inbox).length:Int)=(j:Int)∧j< (bC (W.ks.getD i .zero)).1.inbox.length:=by have:=cD l (p:=p+1+1) (n:=((aE (bC (W.ks.getD i .zero)).1.inbox).length:Int)) (by omega) (by rw[aB];omega);rw[aB] at *; exact⟨(bL l (p+1+1) ((bC (W.ks.getD i .zero)).1.inbox.length:Int)).toNat,by omega,by omega⟩
     refine rD [0,4,7] (s9 (bE (robj:=[(801,.box 137 [.d (.sl (aA (l))),.d (.i (p+1+1))])]) (rl:=[(0,801)]) (bor:=[]) (cL (l) (p+1+1) _ (by omega) hl) rfl rfl rfl rfl ⟨bR rfl rfl rfl rfl (cJ rfl rfl (aU rfl (aD rfl (aD rfl aL)) trivial)),rfl⟩ rfl (.inl rfl) (aK ⟨rfl,trivial⟩) (fun _ hj=>nomatch hj) (ai (by rw[hj,aWz,aR hjl];exact⟨⟨by omega,by rw[aB];omega⟩,rfl⟩) (ai (by rw[hj,aWz,aR hjl];exact⟨aW1 rfl,rfl⟩) (s2 (ai (by kernel_rfl) (wa [tP 0 800,tI 4 (i:Nat),tP 7 7,oB 800 124 [.pt 801 0,.d (.i (W.tm)),.own 802 4,.own 803 3,ps 804 4 (W.a),ps 805 5 (W.b),ps 806 5 (W.c),ps 807 10 (W.d)],oB 801 137 [.d (.sl (aA l)),.d (.i (p+1+1+1))],oR 802 27 5 (aI W.ks),oR 803 4 1 (aN W.ls),(.o 804,aM 210 4 fO),(.o 805,aM 58 5 cN),(.o 806,aM 58 5 cN),(.o 807,aM 157 10 jX),oB 7 58 [.d (.i ((bC (W.ks.getD i .zero)).1.inbox.getD j .zero).frm),.d (.i ((bC (W.ks.getD i .zero)).1.inbox.getD j .zero).num),.d (.i ((bC (W.ks.getD i .zero)).1.inbox.getD j .zero).to),.d (.i ((bC (W.ks.getD i .zero)).1.inbox.getD j .zero).til),.d (.s ((bC (W.ks.getD i .zero)).1.inbox.getD j .zero).text)]] [] [] ?_ ?_)))))))
     · repeat' apply ai
       all_goals first|exact qx|((rw[hj,aWz,aR hjl];rfl))|exact qz
     refine rE [] (s7 (cQ (robj:=[(800,.box 124 [.pt 801 0,.d (.i (W.tm)),.own 802 4,.own 803 3,ps 804 4 (W.a),ps 805 5 (W.b),ps 806 5 (W.c),ps 807 10 (W.d)]),(801,.box 137 [.d (.sl (aA l)),.d (.i (p+1+1+1))]),(802,.row 27 5 (aI W.ks)),(803,.row 4 1 (aN W.ls)),(804,aM 210 4 fO),(805,aM 58 5 cN),(806,aM 58 5 cN),(807,aM 157 10 jX)]) (rl:=[]) (bor:=[]) (news:=[]) (fu l (p+1+1+1) W ⟨11,i,((bC (W.ks.getD i .zero)).1.inbox.getD j .zero).frm,((bC (W.ks.getD i .zero)).1.inbox.getD j .zero).num,0,0,0,0,0,[]⟩ hW (by simp) (by omega)) rfl rfl rfl rfl ⟨bR rfl rfl rfl rfl (dN rfl (aD rfl (aD rfl (aD rfl (aD rfl (aD rfl (aD rfl (aD rfl (aD rfl (aD rfl (aD rfl aL)))))))))) (aU rfl (eJ rfl rfl rfl (aD rfl (bP rfl rfl rfl (bP rfl rfl rfl (bH rfl rfl rfl (bH rfl rfl rfl (bH rfl rfl rfl (bH rfl rfl rfl aL)))))))) (aU rfl (aD rfl (aD rfl aL)) (bV rfl rfl (bV rfl rfl (aY rfl rfl (aY rfl rfl (aY rfl rfl (aY rfl rfl trivial))))))))),rfl⟩ (by rintro _ ⟨W2,ok2,hw2,rfl⟩;exact⟨rfl,.inl rfl,fun j hj=>nomatch hj⟩) (aK ⟨rfl,rfl,rfl,rfl,rfl,rfl,rfl,rfl,trivial⟩) (fun j hj=>nomatch hj) ?_))
     rintro _ ⟨W2,ok2,hw2,rfl⟩
     first
     |(refine cU [oB 800 124 [.pt 801 0,.d (.i (W2.tm)),.own 802 4,.own 803 3,ps 804 4 (W2.a),ps 805 5 (W2.b),ps 806 5 (W2.c),ps 807 10 (W2.d)],oB 801 137 [.d (.sl (aA l)),.d (.i ((p+1+1+1)))],oR 802 27 5 (aI W2.ks),oR 803 4 1 (aN W2.ls),(.o 804,aM 210 4 fO),(.o 805,aM 58 5 cN),(.o 806,aM 58 5 cN),(.o 807,aM 157 10 jX)] ⟨W2,(p+1+1+1),⟨(hw2).le (by omega),by omega,by omega⟩,rfl⟩ (rq [] [] rfl ?_)
       repeat' apply ai
       all_goals try exact qx
       all_goals(first|with_reducible rfl|(rfl)))
     |(refine cU [oB 800 124 [.pt 801 0,.d (.i (W.tm)),.own 802 4,.own 803 3,ps 804 4 (W.a),ps 805 5 (W.b),ps 806 5 (W.c),ps 807 10 (W.d)],oB 801 137 [.d (.sl (aA l)),.d (.i ((p+1+1)))],oR 802 27 5 (aI W.ks),oR 803 4 1 (aN W.ls),(.o 804,aM 210 4 fO),(.o 805,aM 58 5 cN),(.o 806,aM 58 5 cN),(.o 807,aM 157 10 jX)] ⟨W,(p+1+1),⟨(fJ.of.refl hW).le (by omega),by omega,by omega⟩,rfl⟩ (rq [] [] rfl ?_)
       repeat' apply ai
       all_goals try exact qx
       all_goals(first|with_reducible rfl|(rfl)))
   refine sk ?_
   first
   |(refine cU [oB 800 124 [.pt 801 0,.d (.i (W2.tm)),.own 802 4,.own 803 3,ps 804 4 (W2.a),ps 805 5 (W2.b),ps 806 5 (W2.c),ps 807 10 (W2.d)],oB 801 137 [.d (.sl (aA l)),.d (.i ((p+1+1+1)))],oR 802 27 5 (aI W2.ks),oR 803 4 1 (aN W2.ls),(.o 804,aM 210 4 fO),(.o 805,aM 58 5 cN),(.o 806,aM 58 5 cN),(.o 807,aM 157 10 jX)] ⟨W2,(p+1+1+1),⟨(hw2).le (by omega),by omega,by omega⟩,rfl⟩ (rq [] [] rfl ?_)
     repeat' apply ai
     all_goals try exact qx
     all_goals(first|with_reducible rfl|(rfl)))
   |(refine cU [oB 800 124 [.pt 801 0,.d (.i (W.tm)),.own 802 4,.own 803 3,ps 804 4 (W.a),ps 805 5 (W.b),ps 806 5 (W.c),ps 807 10 (W.d)],oB 801 137 [.d (.sl (aA l)),.d (.i ((p+1+1)))],oR 802 27 5 (aI W.ks),oR 803 4 1 (aN W.ls),(.o 804,aM 210 4 fO),(.o 805,aM 58 5 cN),(.o 806,aM 58 5 cN),(.o 807,aM 157 10 jX)] ⟨W,(p+1+1),⟨(fJ.of.refl hW).le (by omega),by omega,by omega⟩,rfl⟩ (rq [] [] rfl ?_)
     repeat' apply ai
     all_goals try exact qx
     all_goals(first|with_reducible rfl|(rfl)))
 refine sq (rT [0,4,18,141] (s2 (cd rfl (fun c141=> ?_) fun c141=> ?_)))
 · refine rE [] (s5 (iA (bE (robj:=[(801,.box 137 [.d (.sl (aA (l))),.d (.i (p+1+1))])]) (rl:=[(0,801)]) (bor:=[]) (cL (l) (p+1+1) _ (by omega) hl) rfl rfl rfl rfl ⟨bR rfl rfl rfl rfl (cJ rfl rfl (aU rfl (aD rfl (aD rfl aL)) trivial)),rfl⟩ rfl (.inl rfl) (aK ⟨rfl,trivial⟩) (fun _ hj=>nomatch hj) (s3 (cQ (robj:=[(800,.box 124 [.pt 801 0,.d (.i (W.tm)),.own 802 4,.own 803 3,ps 804 4 (W.a),ps 805 5 (W.b),ps 806 5 (W.c),ps 807 10 (W.d)]),(801,.box 137 [.d (.sl (aA l)),.d (.i (p+1+1+1))]),(802,.row 27 5 (aI W.ks)),(803,.row 4 1 (aN W.ls)),(804,aM 210 4 fO),(805,aM 58 5 cN),(806,aM 58 5 cN),(807,aM 157 10 jX)]) (rl:=[]) (bor:=[]) (news:=[]) (fu l (p+1+1+1) W ⟨wrap64 (12+bL l (p+1+1) 2),i,0,0,0,0,0,0,0,[]⟩ hW (by simp) (by omega)) rfl rfl rfl rfl ⟨bR rfl rfl rfl rfl (dN rfl (aD rfl (aD rfl (aD rfl (aD rfl (aD rfl (aD rfl (aD rfl (aD rfl (aD rfl (aD rfl aL)))))))))) (aU rfl (eJ rfl rfl rfl (aD rfl (bP rfl rfl rfl (bP rfl rfl rfl (bH rfl rfl rfl (bH rfl rfl rfl (bH rfl rfl rfl (bH rfl rfl rfl aL)))))))) (aU rfl (aD rfl (aD rfl aL)) (bV rfl rfl (bV rfl rfl (aY rfl rfl (aY rfl rfl (aY rfl rfl (aY rfl rfl trivial))))))))),rfl⟩ (by rintro _ ⟨W2,ok2,hw2,rfl⟩;exact⟨rfl,.inl rfl,fun j hj=>nomatch hj⟩) (aK ⟨rfl,rfl,rfl,rfl,rfl,rfl,rfl,rfl,trivial⟩) (fun j hj=>nomatch hj) ?_)))))
   rintro _ ⟨W2,ok2,hw2,rfl⟩
   refine cU [oB 800 124 [.pt 801 0,.d (.i (W2.tm)),.own 802 4,.own 803 3,ps 804 4 (W2.a),ps 805 5 (W2.b),ps 806 5 (W2.c),ps 807 10 (W2.d)],oB 801 137 [.d (.sl (aA l)),.d (.i ((p+1+1+1)))],oR 802 27 5 (aI W2.ks),oR 803 4 1 (aN W2.ls),(.o 804,aM 210 4 fO),(.o 805,aM 58 5 cN),(.o 806,aM 58 5 cN),(.o 807,aM 157 10 jX)] ⟨W2,(p+1+1+1),⟨(hw2).le (by omega),by omega,by omega⟩,rfl⟩ (rq [] [] rfl ?_)
   repeat' apply ai
   all_goals try exact qx
   all_goals(first|with_reducible rfl|(rfl))
 refine SW.midW (fun s=> ∃cb:Bool,s=[tP 0 800,tB 153 cb,oB 800 124 [.pt 801 0,.d (.i (W.tm)),.own 802 4,.own 803 3,ps 804 4 (W.a),ps 805 5 (W.b),ps 806 5 (W.c),ps 807 10 (W.d)],oB 801 137 [.d (.sl (aA l)),.d (.i (p+1+1))],oR 802 27 5 (aI W.ks),oR 803 4 1 (aN W.ls),(.o 804,aM 210 4 fO),(.o 805,aM 58 5 cN),(.o 806,aM 58 5 cN),(.o 807,aM 157 10 jX)]) ?_ ?_
 · refine sq (rT [0,18,153] (s2 (cd rfl (fun c153=> ?_) fun c153=> ?_)))
   · refine sk (wq [] [] ⟨?c18,rfl⟩ ?_)
     repeat' apply ai
     all_goals try exact qx
     try any_goals first|with_reducible rfl|exact congrArg D.i hi|exact congrArg D.i hv.symm|rfl
   refine sq (rT [0,18,153] (s2 (cd rfl (fun c153=> ?_) fun c153=> ?_)))
   · refine sk (wq [] [] ⟨?c19,rfl⟩ ?_)
     repeat' apply ai
     all_goals try exact qx
     try any_goals first|with_reducible rfl|exact congrArg D.i hi|exact congrArg D.i hv.symm|rfl
   refine rT [0,153] (s2 (wq [] [] ⟨?c20,rfl⟩ ?_))
   repeat' apply ai
   all_goals try exact qx
   try any_goals first|with_reducible rfl|exact congrArg D.i hi|exact congrArg D.i hv.symm|rfl
 rintro s ⟨cb153,rfl⟩
 refine cd rfl (fun c153=> ?_) fun c153=> ?_
 · refine rE [] (s1 (cQ (robj:=[(800,.box 124 [.pt 801 0,.d (.i (W.tm)),.own 802 4,.own 803 3,ps 804 4 (W.a),ps 805 5 (W.b),ps 806 5 (W.c),ps 807 10 (W.d)]),(801,.box 137 [.d (.sl (aA l)),.d (.i (p+1+1))]),(802,.row 27 5 (aI W.ks)),(803,.row 4 1 (aN W.ls)),(804,aM 210 4 fO),(805,aM 58 5 cN),(806,aM 58 5 cN),(807,aM 157 10 jX)]) (rl:=[]) (bor:=[]) (news:=[]) (aU5 l (p+1+1) W (by omega) hl hW (by omega)) rfl rfl rfl rfl ⟨bR rfl rfl rfl rfl (aU rfl (eJ rfl rfl rfl (aD rfl (bP rfl rfl rfl (bP rfl rfl rfl (bH rfl rfl rfl (bH rfl rfl rfl (bH rfl rfl rfl (bH rfl rfl rfl aL)))))))) (aU rfl (aD rfl (aD rfl aL)) (bV rfl rfl (bV rfl rfl (aY rfl rfl (aY rfl rfl (aY rfl rfl (aY rfl rfl trivial)))))))),rfl⟩ (by rintro _ ⟨W2,q2,hw2,rfl⟩;exact⟨rfl,.inl rfl,fun j hj=>nomatch hj⟩) (aK ⟨rfl,rfl,rfl,rfl,rfl,rfl,rfl,rfl,trivial⟩) (fun j hj=>nomatch hj) ?_))
   rintro _ ⟨W2,q2,hw2,rfl⟩
   refine cU [oB 800 124 [.pt 801 0,.d (.i (W2.tm)),.own 802 4,.own 803 3,ps 804 4 (W2.a),ps 805 5 (W2.b),ps 806 5 (W2.c),ps 807 10 (W2.d)],oB 801 137 [.d (.sl (aA l)),.d (.i (q2))],oR 802 27 5 (aI W2.ks),oR 803 4 1 (aN W2.ls),(.o 804,aM 210 4 fO),(.o 805,aM 58 5 cN),(.o 806,aM 58 5 cN),(.o 807,aM 157 10 jX)] ⟨W2,q2,⟨(hw2.1).le (by omega),by omega,by omega⟩,rfl⟩ (rq [] [] rfl ?_)
   repeat' apply ai
   all_goals try exact qx
   all_goals(first|with_reducible rfl|(rfl))
 refine sq (rT [0,8] (s1 (bk (SW.loopW (n:=4) (fun x s=> ∃(i:Nat) (V:fJ) (q:Int),x=4 - i∧(i≤4∧V.of W (100*i)∧p≤q∧q≤p+2+260*i)∧s=[tP 0 800,tI 8 (i:Nat),oB 800 124 [.pt 801 0,.d (.i (V.tm)),.own 802 4,.own 803 3,ps 804 4 (V.a),ps 805 5 (V.b),ps 806 5 (V.c),ps 807 10 (V.d)],oB 801 137 [.d (.sl (aA l)),.d (.i (q))],oR 802 27 5 (aI V.ks),oR 803 4 1 (aN V.ls),(.o 804,aM 210 4 fO),(.o 805,aM 58 5 cN),(.o 806,aM 58 5 cN),(.o 807,aM 157 10 jX)]) ?_ ?_))))
 · exact wq [] [] (⟨0,W,p+1+1,rfl,⟨by omega,fJ.of.refl hW,by omega,by omega⟩,rfl⟩) qz
 rintro n s ⟨i,V,q,rfl,⟨hi4,hV,hq⟩,rfl⟩
 have hVd:=hV.few
 refine sq (sq (rT [0,8,20] (s2 (cd rfl (fun c20=> ?_) fun c20=> ?_))))
 · have hi5:i<4:=by simp at c20;omega
   refine sk (sq (bk (sq (rE [0,8] (s1 (cQ (robj:=[(800,.box 124 [.pt 801 0,.d (.i (V.tm)),.own 802 4,.own 803 3,ps 804 4 (V.a),ps 805 5 (V.b),ps 806 5 (V.c),ps 807 10 (V.d)]),(801,.box 137 [.d (.sl (aA l)),.d (.i (q))]),(802,.row 27 5 (aI V.ks)),(803,.row 4 1 (aN V.ls)),(804,aM 210 4 fO),(805,aM 58 5 cN),(806,aM 58 5 cN),(807,aM 157 10 jX)]) (rl:=[]) (bor:=[]) (news:=[]) (nc l q V 7 0 (by omega) hl hV.ok (by omega) (by omega)) rfl rfl rfl rfl ⟨bR rfl rfl rfl rfl (cJ rfl rfl (cJ rfl rfl (aU rfl (eJ rfl rfl rfl (aD rfl (bP rfl rfl rfl (bP rfl rfl rfl (bH rfl rfl rfl (bH rfl rfl rfl (bH rfl rfl rfl (bH rfl rfl rfl aL)))))))) (aU rfl (aD rfl (aD rfl aL)) (bV rfl rfl (bV rfl rfl (aY rfl rfl (aY rfl rfl (aY rfl rfl (aY rfl rfl trivial)))))))))),rfl⟩ (by rintro _ ⟨W3,q3,hw3,rfl⟩;exact⟨rfl,.inl rfl,fun j hj=>nomatch hj⟩) (aK ⟨rfl,rfl,rfl,rfl,rfl,rfl,rfl,rfl,trivial⟩) (fun j hj=>nomatch hj) ?_))))))
   rintro _ ⟨W3,q3,hw3,rfl⟩
   refine rE [0,8] (s1 (cQ (robj:=[(800,.box 124 [.pt 801 0,.d (.i (W3.tm)),.own 802 4,.own 803 3,ps 804 4 (W3.a),ps 805 5 (W3.b),ps 806 5 (W3.c),ps 807 10 (W3.d)]),(801,.box 137 [.d (.sl (aA l)),.d (.i (q3))]),(802,.row 27 5 (aI W3.ks)),(803,.row 4 1 (aN W3.ls)),(804,aM 210 4 fO),(805,aM 58 5 cN),(806,aM 58 5 cN),(807,aM 157 10 jX)]) (rl:=[]) (bor:=[]) (news:=[]) (nb l q3 W3 20 0 (by omega) hl hw3.1.ok (by have:=hw3.1.few;omega) (by omega)) rfl rfl rfl rfl ⟨bR rfl rfl rfl rfl (cJ rfl rfl (cJ rfl rfl (aU rfl (eJ rfl rfl rfl (aD rfl (bP rfl rfl rfl (bP rfl rfl rfl (bH rfl rfl rfl (bH rfl rfl rfl (bH rfl rfl rfl (bH rfl rfl rfl aL)))))))) (aU rfl (aD rfl (aD rfl aL)) (bV rfl rfl (bV rfl rfl (aY rfl rfl (aY rfl rfl (aY rfl rfl (aY rfl rfl trivial)))))))))),rfl⟩ (by rintro _ ⟨W4,q4,hw4,rfl⟩;exact⟨rfl,.inl rfl,fun j hj=>nomatch hj⟩) (aK ⟨rfl,rfl,rfl,rfl,rfl,rfl,rfl,rfl,trivial⟩) (fun j hj=>nomatch hj) ?_))
   rintro _ ⟨W4,q4,hw4,rfl⟩
   refine rT [0,8] (s3 (wq [] [] (⟨4 - (i+1),by omega,i+1,W4,q4,rfl,⟨by omega,(hV.trans (hw3.1.trans hw4.1)).le (by omega),by omega,by omega⟩,rfl⟩) ?_))
   repeat' apply ai
   all_goals first|exact qx|exact congrArg D.i (aC (by omega))|rfl|exact qz
 refine xt (cU [oB 800 124 [.pt 801 0,.d (.i (V.tm)),.own 802 4,.own 803 3,ps 804 4 (V.a),ps 805 5 (V.b),ps 806 5 (V.c),ps 807 10 (V.d)],oB 801 137 [.d (.sl (aA l)),.d (.i (q))],oR 802 27 5 (aI V.ks),oR 803 4 1 (aN V.ls),(.o 804,aM 210 4 fO),(.o 805,aM 58 5 cN),(.o 806,aM 58 5 cN),(.o 807,aM 157 10 jX)] ⟨V,q,⟨(hV).le (by omega),by omega,by omega⟩,rfl⟩ (rq [] [] rfl ?_))
 repeat' apply ai
 all_goals try exact qx
 all_goals(first|with_reducible rfl|(rfl))
theorem jm (n:Int):Sp 23 1 [tI 0 n] [tV 0 (.e (.agg [.d (.i ((dU n)).id),.d (.b ((dU n)).up),.d (.s ((dU n)).log),.d (.i ((dU n)).forced),.d (.sl (aX ((dU n)).halves))]))]:=by
 refine sb Tryz.func23 rfl (sq (rT [0,2] (s1 (sq (sq (rT [0,2,5] (s1 (xp (iN _) (ai rfl ?_)))))))))
 refine s1 (cd rfl (fun c5=> ?_) fun c5=> ?_)
 · refine sq (rT [2] (s2 (rt ?_)))
   have hk:dU n= .zero:=by unfold dU;rw[if_neg];intro h;rw[h] at c5;simp at c5
   refine rq [] [] rfl ?_
   repeat' apply ai
   all_goals try exact qx
   all_goals(rw[hk];try rfl)
 refine sk (sq (rT [2] (s3 (rt ?_))))
 have hk:dU n=⟨n,true,[],0,[]⟩:=by unfold dU;rw[if_pos];simpa using c5
 refine rq [] [] rfl ?_
 repeat' apply ai
 all_goals try exact qx
 all_goals(rw[hk];try rfl)
theorem vX (n:Int):Sp 24 1 [tI 0 n] [tV 0 (.e (.agg [.d (.i ((dU n)).id),.d (.b ((dU n)).up),.d (.s ((dU n)).log),.d (.i ((dU n)).forced),.d (.sl (aX ((dU n)).halves))]))]:=by
 refine sb Tryz.func24 rfl (sq (rT [0,2] (s1 (sq (sq (rT [0,2,5] (s1 (xp (dF _) (ai rfl ?_)))))))))
 refine s1 (cd rfl (fun c5=> ?_) fun c5=> ?_)
 · refine sq (rT [2] (s2 (rt ?_)))
   have hk:dU n= .zero:=by unfold dU;rw[if_neg];intro h;rw[h] at c5;simp at c5
   refine rq [] [] rfl ?_
   repeat' apply ai
   all_goals try exact qx
   all_goals(rw[hk];try rfl)
 refine sk (sq (rT [2] (s3 (rt ?_))))
 have hk:dU n=⟨n,true,[],0,[]⟩:=by unfold dU;rw[if_pos];simpa using c5
 refine rq [] [] rfl ?_
 repeat' apply ai
 all_goals try exact qx
 all_goals(rw[hk];try rfl)
set_option maxHeartbeats 1600000 in
theorem nd:Sp 138 0 [] [tV 0 (.e (.agg [.d (.i (0)),.own 802 4,.own 803 3,ps 804 4 (0),ps 805 5 (0),ps 806 5 (0)])),oR 802 27 5 (aI (rJ 4)),oR 803 4 1 (aN (yes 3)),(.o 804,aM 210 4 fO),(.o 805,aM 58 5 cN),(.o 806,aM 58 5 cN)]:=by
 refine sb Tryz.func138 rfl (sq (rT [0] (s1 (sq (rT [0,1] (s3 (sq (sq (SW.nilBox 1 802 1 27 5 rfl rfl rfl (SW.nilBox 1 803 2 4 1 rfl rfl rfl (rT [0,1,2] (s1 (bk (SW.loopW (n:=4) (fun m s=> ∃i:Nat,m=4 - i∧i≤4∧s=[tP 0 0,tP 1 1,tI 2 (i:Nat),oB 0 99 [.d (.i 0),.nil,.nil,.nil,.nil,.nil],oB 1 99 [.d (.i 0),.own 802 (i),.own 803 0,.nil,.nil,.nil],oR 802 27 5 (aI (rJ (i))),oR 803 4 1 []]) ?_ ?_))))))))))))))
 · refine wq [] [] (⟨0,rfl,by omega,rfl⟩) ?_
   repeat' apply ai
   all_goals first|exact qx|exact congrArg D.i (aC (by omega))|(simp[bI,lS,cW,sJ];done)|exact rK _|exact uT _|rfl|exact qz
 rintro n s ⟨i,rfl,hi,rfl⟩
 refine sq (sq (rT [0,1,2,6] (s2 (cd rfl (fun c6=> ?_) fun c6=> ?_))))
 · have hi2:i<4:=by simp at c6;omega
   refine sk (sq (bk (rD [0,1,2] (s3 (xp (vX _) (ai rfl ?_))))))
   refine s1 (ai (by refine⟨rfl,(bI _).trans (lS _),by simp,?_⟩;show(_+1)*64≤_;omega) (s2 (ai (by kernel_rfl) (rT [0,1,2] (s3 (wq [] [] (⟨4 - (i+1),by omega,i+1,rfl,by omega,rfl⟩) ?_))))))
   repeat' apply ai
   all_goals first|exact qx|exact congrArg D.i (aC (by omega))|(simp[bI,lS,cW,sJ];done)|exact rK _|exact uT _|rfl|exact qz
 have hi4:i=4:=by simp at c6;omega
 subst hi4
 refine xt (sq (sq (rT [0,1,3] (s1 (bk (SW.loopW (n:=3) (fun m s=> ∃j:Nat,m=3 - j∧j≤3∧s=[tP 0 0,tP 1 1,tI 3 (j:Nat),oB 0 99 [.d (.i 0),.nil,.nil,.nil,.nil,.nil],oB 1 99 [.d (.i 0),.own 802 4,.own 803 (j),.nil,.nil,.nil],oR 802 27 5 (aI (rJ 4)),oR 803 4 1 (aN (yes (j)))]) ?_ ?_))))))
 · refine wq [] [] (⟨0,rfl,by omega,rfl⟩) ?_
   repeat' apply ai
   all_goals first|exact qx|exact congrArg D.i (aC (by omega))|(simp[bI,lS,cW,sJ];done)|exact rK _|exact uT _|rfl|exact qz
 rintro n s ⟨j,rfl,hj,rfl⟩
 refine sq (sq (rT [0,1,3,18] (s3 (cd rfl (fun c18=> ?_) fun c18=> ?_))))
 · have hj2:j<3:=by rw[aC (by omega)] at c18;simp at c18;omega
   refine sk (sq (bk (rT [0,1,3] (s3 (ai (by refine⟨rfl,(cW _).trans (sJ _),by simp,?_⟩;show(_+1)*1≤_;omega) (s2 (rT [0,1,3] (s3 (wq [] [] (⟨3 - (j+1),by omega,j+1,rfl,by omega,rfl⟩) ?_)))))))))
   repeat' apply ai
   all_goals first|exact qx|exact congrArg D.i (aC (by omega))|(simp[bI,lS,cW,sJ];done)|exact rK _|exact uT _|rfl|exact qz
 have hj4:j=3:=by rw[aC (by omega)] at c18;simp at c18;omega
 subst hj4
 refine xt (sq (SW.newPool 804 210 4 fO rfl (SW.newPool 805 58 5 cN rfl (SW.newPool 806 58 5 cN rfl (rT [0] (s2 (rt (rq [] [] rfl ?_))))))))
 repeat' apply ai
 all_goals try exact qx
 all_goals first|with_reducible rfl|rfl
set_option maxHeartbeats 3200000 in
theorem aU7 (l:List UInt8) (p:Int) (n:Nat) (hp:0≤p∧p≤700000) (hl:l.length≤2000) (hn:1≤n∧n≤100):nj 98 2 [tP 0 801,tI 1 (n:Nat),oB 801 137 [.d (.sl (aA l)),.d (.i (p))]] (fun s=> ∃(W:fJ) (q:Int),(W.of fN 60000∧p≤q∧q≤p+20+1200*n)∧s=[tP 0 800,oB 800 124 [.pt 801 0,.d (.i (W.tm)),.own 802 4,.own 803 3,ps 804 4 (W.a),ps 805 5 (W.b),ps 806 5 (W.c),ps 807 10 (W.d)],oB 801 137 [.d (.sl (aA l)),.d (.i (q))],oR 802 27 5 (aI W.ks),oR 803 4 1 (aN W.ls),(.o 804,aM 210 4 fO),(.o 805,aM 58 5 cN),(.o 806,aM 58 5 cN),(.o 807,aM 157 10 jX)]):=by
 refine pj Tryz.func98 rfl (sq (rT [0,1] (s1 (sq (rT [0,1,5] (s1 (bE (robj:=[]) (rl:=[]) (bor:=[]) nd rfl rfl rfl rfl ⟨trivial,rfl⟩ rfl (.inl rfl) (fun p hp=>nomatch hp) (fun j hj=>by simp[jV,cA,iH] at hj;rcases hj with rfl|rfl|rfl|rfl|rfl<;>rfl) (s3 (SW.midW (fun s=> ∃r:Int,s=[tP 0 801,tI 1 (n:Nat),tP 5 800,tI 6 r,oB 800 124 [.pt 801 0,.d (.i (fN.tm)),.own 802 4,.own 803 3,ps 804 4 (fN.a),ps 805 5 (fN.b),ps 806 5 (fN.c),ps 807 10 (fN.d)],oB 801 137 [.d (.sl (aA l)),.d (.i (p+1))],oR 802 27 5 (aI fN.ks),oR 803 4 1 (aN fN.ls),(.o 804,aM 210 4 fO),(.o 805,aM 58 5 cN),(.o 806,aM 58 5 cN),(.o 807,aM 157 10 jX)]) ?_ ?_)))))))))
 · have hpv:=cD l (p:=p) (n:=5) (by omega) (by omega)
   refine SW.newPool 807 157 10 jX rfl (wa [tP 0 801,tI 1 (n:Nat),tP 5 800,oB 800 124 [.pt 801 0,.d (.i (fN.tm)),.own 802 4,.own 803 3,ps 804 4 (fN.a),ps 805 5 (fN.b),ps 806 5 (fN.c),ps 807 10 (fN.d)],oB 801 137 [.d (.sl (aA l)),.d (.i (p))],oR 802 27 5 (aI fN.ks),oR 803 4 1 (aN fN.ls),(.o 804,aM 210 4 fO),(.o 805,aM 58 5 cN),(.o 806,aM 58 5 cN),(.o 807,aM 157 10 jX)] [(800,11)] [] qz (rT [0,1,5,6] (s2 (bE (robj:=[(801,.box 137 [.d (.sl (aA (l))),.d (.i (p))])]) (rl:=[(0,801)]) (bor:=[]) (cL (l) (p) _ (by omega) hl) rfl rfl rfl rfl ⟨bR rfl rfl rfl rfl (cJ rfl rfl (aU rfl (aD rfl (aD rfl aL)) trivial)),rfl⟩ rfl (.inl rfl) (aK ⟨rfl,trivial⟩) (fun _ hj=>nomatch hj) ?_))))
   refine ai ⟨rfl,hpv.1,hpv.2⟩ (ai (aDk (l:=[0,0,3,6,12]) (by simp;omega) rfl) (s1 (wq [] [] ⟨?r1,rfl⟩ ?_)))
   repeat' apply ai
   all_goals try exact qx
   try any_goals rfl
 rintro s ⟨r,rfl⟩
 refine sq (rE [0,1,5,6] (s1 (cQ (robj:=[(800,.box 124 [.pt 801 0,.d (.i (fN.tm)),.own 802 4,.own 803 3,ps 804 4 (fN.a),ps 805 5 (fN.b),ps 806 5 (fN.c),ps 807 10 (fN.d)]),(801,.box 137 [.d (.sl (aA l)),.d (.i (p+1))]),(802,.row 27 5 (aI fN.ks)),(803,.row 4 1 (aN fN.ls)),(804,aM 210 4 fO),(805,aM 58 5 cN),(806,aM 58 5 cN),(807,aM 157 10 jX)]) (rl:=[]) (bor:=[]) (news:=[]) (aTd l (p+1) fN (by omega) hl aG7 (by decide)) rfl rfl rfl rfl ⟨bR rfl rfl rfl rfl (aU rfl (eJ rfl rfl rfl (aD rfl (bP rfl rfl rfl (bP rfl rfl rfl (bH rfl rfl rfl (bH rfl rfl rfl (bH rfl rfl rfl (bH rfl rfl rfl aL)))))))) (aU rfl (aD rfl (aD rfl aL)) (bV rfl rfl (bV rfl rfl (aY rfl rfl (aY rfl rfl (aY rfl rfl (aY rfl rfl trivial)))))))),rfl⟩ (by rintro _ ⟨W1,q1,hw1,rfl⟩;exact⟨rfl,.inl rfl,fun j hj=>nomatch hj⟩) (aK ⟨rfl,rfl,rfl,rfl,rfl,rfl,rfl,rfl,trivial⟩) (fun j hj=>nomatch hj) ?_)))
 rintro _ ⟨W1,q1,hw1,rfl⟩
 refine sq (sq (rT [5,6,7] (s2 (bE (robj:=[(801,.box 137 [.d (.sl (aA (l))),.d (.i (q1))])]) (rl:=[(0,801)]) (bor:=[]) (cL (l) (q1) _ (by omega) hl) rfl rfl rfl rfl ⟨bR rfl rfl rfl rfl (cJ rfl rfl (aU rfl (aD rfl (aD rfl aL)) trivial)),rfl⟩ rfl (.inl rfl) (aK ⟨rfl,trivial⟩) (fun _ hj=>nomatch hj) (s1 (bk ?_))))))
 have hw1d:=hw1.1.few
 have hs0:fN.d=0:=rfl
 obtain⟨k0,hk0,hkn⟩: ∃k0:Nat,bL l q1 (n:Int)=(k0:Int)∧k0<n:=by have:=cD l (p:=q1) (n:=(n:Int)) (by omega) (by omega);exact⟨(bL l q1 (n:Int)).toNat,by omega,by omega⟩
 refine SW.loopW (n:=k0) (fun x s=> ∃(V:fJ) (q:Int),(x≤k0∧V.of fN (1+520*(k0 - x))∧p≤q∧q≤p+12+1200*(k0 - x:Nat))∧s=[tP 5 800,tI 6 r,tI 7 (x:Nat),oB 800 124 [.pt 801 0,.d (.i (V.tm)),.own 802 4,.own 803 3,ps 804 4 (V.a),ps 805 5 (V.b),ps 806 5 (V.c),ps 807 10 (V.d)],oB 801 137 [.d (.sl (aA l)),.d (.i (q))],oR 802 27 5 (aI V.ks),oR 803 4 1 (aN V.ls),(.o 804,aM 210 4 fO),(.o 805,aM 58 5 cN),(.o 806,aM 58 5 cN),(.o 807,aM 157 10 jX)]) ?_ ?_
 · refine wq [] [] (⟨W1,q1+1,⟨by omega,hw1.1.le (by omega),by omega,by omega⟩,rfl⟩) ?_
   repeat' apply ai
   all_goals first|exact qx|exact congrArg D.i hk0|rfl|exact qz
 rintro n s ⟨V,q,⟨hx,hV,hq⟩,rfl⟩
 have hVd:=hV.few
 refine sq (sq (rT [5,6,7,23] (s2 (cd rfl (fun c23=> ?_) fun c23=> ?_))))
 · have hn0:0<n:=by simp at c23;omega
   refine sk (sq (bk (rE [5,6,7] (s2 (cQ (robj:=[(800,.box 124 [.pt 801 0,.d (.i (V.tm)),.own 802 4,.own 803 3,ps 804 4 (V.a),ps 805 5 (V.b),ps 806 5 (V.c),ps 807 10 (V.d)]),(801,.box 137 [.d (.sl (aA l)),.d (.i (q))]),(802,.row 27 5 (aI V.ks)),(803,.row 4 1 (aN V.ls)),(804,aM 210 4 fO),(805,aM 58 5 cN),(806,aM 58 5 cN),(807,aM 157 10 jX)]) (rl:=[]) (bor:=[]) (news:=[]) (aU6 l q V r (by omega) hl hV.ok (by omega)) rfl rfl rfl rfl ⟨bR rfl rfl rfl rfl (cJ rfl rfl (aU rfl (eJ rfl rfl rfl (aD rfl (bP rfl rfl rfl (bP rfl rfl rfl (bH rfl rfl rfl (bH rfl rfl rfl (bH rfl rfl rfl (bH rfl rfl rfl aL)))))))) (aU rfl (aD rfl (aD rfl aL)) (bV rfl rfl (bV rfl rfl (aY rfl rfl (aY rfl rfl (aY rfl rfl (aY rfl rfl trivial))))))))),rfl⟩ (by rintro _ ⟨W3,q3,hw3,rfl⟩;exact⟨rfl,.inl rfl,fun j hj=>nomatch hj⟩) (aK ⟨rfl,rfl,rfl,rfl,rfl,rfl,rfl,rfl,trivial⟩) (fun j hj=>nomatch hj) ?_)))))
   rintro _ ⟨W3,q3,hw3,rfl⟩
   refine rT [5,6,7] (s3 (wq [] [] (⟨n - 1,by omega,W3,q3,⟨by omega,(hV.trans hw3.1).le (by omega),by omega,by omega⟩,rfl⟩) ?_))
   repeat' apply ai
   all_goals first|exact qx|(refine congrArg D.i ?_;rw[aC (by omega)];omega)|rfl|exact qz
 refine xt (sq (rT [4] (s2 (rt (cU [tP 0 800,oB 800 124 [.pt 801 0,.d (.i (V.tm)),.own 802 4,.own 803 3,ps 804 4 (V.a),ps 805 5 (V.b),ps 806 5 (V.c),ps 807 10 (V.d)],oB 801 137 [.d (.sl (aA l)),.d (.i (q))],oR 802 27 5 (aI V.ks),oR 803 4 1 (aN V.ls),(.o 804,aM 210 4 fO),(.o 805,aM 58 5 cN),(.o 806,aM 58 5 cN),(.o 807,aM 157 10 jX)] ⟨V,q,⟨hV.le (by omega),by omega,by omega⟩,rfl⟩ (rq [] [] rfl ?_))))))
 repeat' apply ai
 all_goals try exact qx
 all_goals(first|with_reducible rfl|(rfl))
theorem ksD (id:Int): (cE id).held=[]∧(cE id).marks=[]∧(cE id).inbox=[]:=by
 unfold cE
 split<;>exact⟨rfl,rfl,rfl⟩
theorem aPo {Q:Nat→Prop} (h0:Q 900) (h1:Q 901) (h2:Q 902): ∀j∈[900,901,902],Q j:=by
 intro j hj
 simp only[List.mem_cons,List.mem_nil_iff,or_false] at hj
 rcases hj with rfl|rfl|rfl<;>assumption
theorem aG8 (l:List bA) (e es:Nat):wD (.row e es (aE l)):=by
 intro r hr d hd
 obtain⟨n,_,rfl⟩:=aXd.1 hr
 simp only[bA.row,List.mem_cons,List.mem_nil_iff,or_false] at hd
 rcases hd with rfl|rfl|rfl|rfl|rfl<;>trivial
theorem aPp (l:List cB) (e es:Nat):wD (.row e es (aO l)):=by
 intro r hr d hd
 obtain⟨n,_,rfl⟩:=aXd.1 hr
 simp only[cB.row,List.mem_cons,List.mem_nil_iff,or_false] at hd
 rcases hd with rfl|rfl|rfl<;>trivial
theorem aPq (k:bB×Bool):mM [tV 0 (.tup [.agg [.d (.i (k.1).id),.d (.i (k.1).time),.d (.i (k.1).next),.own 900 (k.1).held.length,.own 901 (k.1).marks.length,.own 902 (k.1).inbox.length],.c (.d (.b k.2))]),oR 900 58 5 (aE (k.1).held),oR 901 112 3 (aO (k.1).marks),oR 902 58 5 (aE (k.1).inbox)]:=by
 intro p hp
 simp only[List.mem_cons,List.mem_nil_iff,or_false] at hp
 rcases hp with rfl|rfl|rfl|rfl
 · simp[wD,kc,kb,ep,th]
 · exact aG8 _ _ _
 · exact aPp _ _ _
 exact aG8 _ _ _
theorem za (k:bB) (hb:k.held.length≤1000000∧k.marks.length≤1000000∧k.inbox.length≤1000000):Sp 161 1 [tV 0 k.V] [tV 0 (.e (.agg [.d (.i (k).id),.d (.i (k).time),.d (.i (k).next),.own 900 (k).held.length,.own 901 (k).marks.length,.own 902 (k).inbox.length])),oR 900 58 5 (aE (k).held),oR 901 112 3 (aO (k).marks),oR 902 58 5 (aE (k).inbox)]:=by
 refine sb Tryz.func161 rfl (sq (rT [1,2] (s2 (sq (rT [1,2] (ai (by simp) (s2 (ai (by refine⟨trivial,rfl,?_,?_⟩<;>first|exact eU _|exact iL _|(simp only[aB,aF,aW2,Nat.zero_add];show _*48≤_;omega)) (s2 (sq (rT [1,2] (ai (by simp) (s2 (ai (by refine⟨trivial,rfl,?_,?_⟩<;>first|exact eU _|exact iL _|(simp only[aB,aF,aW2,Nat.zero_add];show _*24≤_;omega)) (s2 (sq (rT [1,2] (ai (by simp) (s2 (ai (by refine⟨trivial,rfl,?_,?_⟩<;>first|exact eU _|exact iL _|(simp only[aB,aF,aW2,Nat.zero_add];show _*48≤_;omega)) (s2 (sq (rT [2] (s2 (rt (rq [(900,3),(901,8),(902,13)] [] rfl ?_))))))))))))))))))))))))))
 repeat' apply ai
 all_goals first|exact qx|exact aB _|exact aF _|exact(aB _).symm|exact(aF _).symm|rfl|(simp[aB,aF];done)|exact qz
set_option maxHeartbeats 1600000 in
theorem zb (k:bB) (rec:List UInt8) (hk:KB k) (hr:rec.length≤900000):Sp 116 2 [tV 0 k.V,tD 1 (.s rec)] [tV 0 (.tup [.agg [.d (.i ((iB k rec).1).id),.d (.i ((iB k rec).1).time),.d (.i ((iB k rec).1).next),.own 900 ((iB k rec).1).held.length,.own 901 ((iB k rec).1).marks.length,.own 902 ((iB k rec).1).inbox.length],.c (.d (.b (iB k rec).2))]),oR 900 58 5 (aE ((iB k rec).1).held),oR 901 112 3 (aO ((iB k rec).1).marks),oR 902 58 5 (aE ((iB k rec).1).inbox)]:=by
 refine sb Tryz.func116 rfl (sq (rT [1,2,4] (s3 (sq (sq (rT [1,2,4,10] (s1 (xp (oX k hk.1 hk.2.1 hk.2.2) (ai rfl ?_)))))))))
 refine s1 (cd rfl (fun c10=> ?_) fun c10=> ?_)
 · refine sq (rT [4,5] (s3 (SW.nilBox 4 900 3 58 5 rfl rfl rfl (SW.nilBox 4 901 4 112 3 rfl rfl rfl (SW.nilBox 4 902 5 58 5 rfl rfl rfl (rt ?_))))))
   have hr:iB k rec=(.zero,false):=if_neg (by simpa using c10)
   rw[hr]
   refine rq [] [] rfl ?_
   repeat' apply ai
   all_goals first|exact qx|exact aB _|exact aF _|exact(aB _).symm|exact(aF _).symm|rfl|(simp[aB,aF];done)|exact qz
 have hok:dJ k=true:=by simpa using c10
 refine sk (sq (rT [2,4,6,7] (s1 (xp (rC k (by have:=hk.1;omega)) (ai rfl ?_)))))
 refine s1 (xp (gw k rec hk.1 hr) (ai rfl ?_))
 refine s6 (sq (sq (rT [2,4,6,25] (s3 (y1 (xc (fun h=>oX (gD k rec).1 (pT (eK hok) (by omega)).big.1 (pT (eK hok) (by omega)).2.1 (pT (eK hok) (by omega)).2.2) (ai rfl (ai rk ?_))))))))
 refine y1 (ai pk (cd rfl (fun c25=> ?_) fun c25=> ?_))
 · refine sq (rT [4,5] (s1 (bE (robj:=[]) (rl:=[]) (bor:=[]) (za k (by have:=hk.1;omega)) rfl rfl rfl rfl ⟨dN rfl (aD rfl (aD rfl (aD rfl (aD rfl (aD rfl (aD rfl aL)))))) trivial,rfl⟩ rfl (.inl rfl) (fun p hp=>nomatch hp) (aPo rfl rfl rfl) (s2 (rt ?_)))))
   have hr:iB k rec=(k,false):=(if_pos hok).trans (if_neg (by intro h;rw[aW4] at h;rw[h.1,h.2] at c25;cases c25))
   rw[hr]
   refine rq [] [] rfl ?_
   repeat' apply ai
   all_goals first|exact qx|exact aB _|exact aF _|exact(aB _).symm|exact(aF _).symm|rfl|(simp[aB,aF];done)|exact qz
 refine sk (sq (rT [4,5] (s1 (bE (robj:=[]) (rl:=[]) (bor:=[]) (za (gD k rec).1 (by have:=(pT (eK hok) (show rec.length≤1000000 by omega)).1;omega)) rfl rfl rfl rfl ⟨dN rfl (aD rfl (aD rfl (aD rfl (aD rfl (aD rfl (aD rfl aL)))))) trivial,rfl⟩ rfl (.inl rfl) (fun p hp=>nomatch hp) (aPo rfl rfl rfl) (s2 (rt ?_))))))
 have hr:iB k rec=((gD k rec).1,true):=(if_pos hok).trans (if_pos (by simpa using c25))
 rw[hr]
 refine rq [] [] rfl ?_
 repeat' apply ai
 all_goals first|exact qx|exact aB _|exact aF _|exact(aB _).symm|exact(aF _).symm|rfl|(simp[aB,aF];done)|exact qz
theorem aM7 (k:bB) (rec:List UInt8) (hk:KB k) (hr:rec.length≤900000):Ab.Spec Tryz.prog 116 2 [(.t 0,.v (k.V)),(.t 1,.v (Dv (.s rec)))] [(.t 0,.v (.tup [.agg [.d (.i ((dA k rec).1).id),.d (.i ((dA k rec).1).time),.d (.i ((dA k rec).1).next),.own 900 ((dA k rec).1).held.length,.own 901 ((dA k rec).1).marks.length,.own 902 ((dA k rec).1).inbox.length],.c (.d (.b (dA k rec).2))])),(.o 900,.row 58 5 (aE ((dA k rec).1).held)),(.o 901,.row 112 3 (aO ((dA k rec).1).marks)),(.o 902,.row 58 5 (aE ((dA k rec).1).inbox))]:=fj k rec▸zb k rec hk hr
theorem aEn (id:Int):Sp 115 1 [tI 0 id] [tV 0 (.e (.agg [.d (.i (cE id).id),.d (.i (cE id).time),.d (.i (cE id).next),.nil,.nil,.nil]))]:=by
 refine sb Tryz.func115 rfl (sq (rT [0,2] (s1 (sq (sq (rT [0,2,5] (s1 (xp (dF _) (ai rfl ?_)))))))))
 refine s1 (cd rfl (fun c5=> ?_) fun c5=> ?_)
 · have hr:cE id= .zero:=if_neg (by simpa using c5)
   refine sq (rT [2] (s2 (rt ?_)))
   rw[hr]
   refine rq [] [] rfl ?_
   repeat' apply ai
   all_goals first|exact qx|exact aB _|exact aF _|exact(aB _).symm|exact(aF _).symm|rfl|(simp[aB,aF];done)|exact qz
 have hr:cE id=⟨id,0,1,[],[],[]⟩:=if_pos (by simpa using c5)
 refine sk (sq (rT [2] (s3 (rt ?_))))
 rw[hr]
 refine rq [] [] rfl ?_
 repeat' apply ai
 all_goals first|exact qx|exact aB _|exact aF _|exact(aB _).symm|exact(aF _).symm|rfl|(simp[aB,aF];done)|exact qz
set_option maxHeartbeats 1600000 in
theorem aM8 (id:Int) (l:List (List UInt8)) (hl:l.length≤900000) (hx: ∀x∈l,x.length≤900000):Sp 70 2 [tI 0 id,tD 1 (.sl (aV l))] [tV 0 (.tup [.agg [.d (.i ((dS id l).1).id),.d (.i ((dS id l).1).time),.d (.i ((dS id l).1).next),.own 900 ((dS id l).1).held.length,.own 901 ((dS id l).1).marks.length,.own 902 ((dS id l).1).inbox.length],.c (.d (.b (dS id l).2))]),oR 900 58 5 (aE ((dS id l).1).held),oR 901 112 3 (aO ((dS id l).1).marks),oR 902 58 5 (aE ((dS id l).1).inbox)]:=by
 refine sb Tryz.func70 rfl (sq (rT [0,1,4] (s2 (sq (rT [0,1,4,6] (s1 (xp (aEn id) (ai rfl ?_))))))))
 refine s2 (sq (sq (rT [1,4,6,14] (s1 (xp (dF _) (ai rfl ?_))))))
 refine s1 (cd rfl (fun c14=> ?_) fun c14=> ?_)
 · refine sq (rT [4,5] (s3 (SW.nilBox 4 900 3 58 5 rfl rfl rfl (SW.nilBox 4 901 4 112 3 rfl rfl rfl (SW.nilBox 4 902 5 58 5 rfl rfl rfl (rt ?_))))))
   have hr:dS id l=(.zero,false):=if_neg (by simpa using c14)
   have hz:cE id= .zero:=if_neg (by simpa using c14)
   rw[hr]
   refine rq [] [] rfl ?_
   repeat' apply ai
   all_goals first|exact qx|(rw[hz];done)|(rw[hz];rfl)|rfl|exact qz
 have hnode:eN id=true:=by simpa using c14
 refine sk (sq (sq (rT [1,4,6,7] (s1 (bk (SW.nilBox 6 900 3 58 5 rfl rfl rfl (SW.nilBox 6 901 4 112 3 rfl rfl rfl (SW.nilBox 6 902 5 58 5 rfl rfl rfl (SW.loopW (n:=l.length) (fun m s=> ∃(i:Nat) (q:bB),m=l.length - i∧i≤l.length∧K6 q∧gE (cE id) l=gE q (l.drop i)∧s=[tD 1 (.sl (aV l)),tP 4 4,tP 6 6,tI 7 (i:Nat),oB 4 32 [.d (.i 0),.d (.i 0),.d (.i 0),.nil,.nil,.nil],oB 6 32 [.d (.i (q).id),.d (.i (q).time),.d (.i (q).next),.own 900 (q).held.length,.own 901 (q).marks.length,.own 902 (q).inbox.length],oR 900 58 5 (aE (q).held),oR 901 112 3 (aO (q).marks),oR 902 58 5 (aE (q).inbox)]) ?_ ?_)))))))))
 · refine wq (σ':=[tD 1 (.sl (aV l)),tP 4 4,tP 6 6,tI 7 (0:Nat),oB 4 32 [.d (.i 0),.d (.i 0),.d (.i 0),.nil,.nil,.nil],oB 6 32 [.d (.i ((cE id)).id),.d (.i ((cE id)).time),.d (.i ((cE id)).next),.own 900 ((cE id)).held.length,.own 901 ((cE id)).marks.length,.own 902 ((cE id)).inbox.length],oR 900 58 5 (aE ((cE id)).held),oR 901 112 3 (aO ((cE id)).marks),oR 902 58 5 (aE ((cE id)).inbox)]) [] [] (⟨0,cE id,rfl,aW6 _,zR id,rfl,rfl⟩) ?_
   repeat' apply ai
   all_goals first|exact qx|rfl|(rw[(ksD id).1];rfl)|(rw[(ksD id).2.1];rfl)|(rw[(ksD id).2.2];rfl)|exact qz
 rintro n s ⟨i,q,rfl,hi,hq,hgo,rfl⟩
 refine sq (sq (rT [1,4,6,7,19] (s4 (cd rfl (fun c19=> ?_) fun c19=> ?_))))
 · have hi2:i<l.length:=by simpa[aJ] using c19
   have hg:=fB (l:=l) hi2
   have hmem:l.getD i []∈l:=dG hi2
   have es:toS (((aV l).getD (i:Int).toNat []).getD 0 (.i 0))=l.getD i []:=by rw[aWz,hg];rfl
   refine sk (sq (bk (sq (rD [1,4,6,7,8,9] (s3 (ai (by rw[aWz,hg];exact⟨⟨by omega,by rw[aJ];omega⟩,rfl⟩) (ai (by rw[aWz,hg];exact⟨aW1 rfl,rfl⟩) (bE (robj:=[(900,.row 58 5 (aE (q).held)),(901,.row 112 3 (aO (q).marks)),(902,.row 58 5 (aE (q).inbox))]) (rl:=[(900,910),(901,911),(902,912)]) (bor:=[900,901,902]) (aM7 q (l.getD i []) hq.seven.big (hx _ hmem)) rfl rfl rfl rfl ⟨dN rfl (aD rfl (aD rfl (aD rfl (rZ rfl rfl (aB _) rfl (rZ rfl rfl (aF _) rfl (rZ rfl rfl (aB _) rfl aL)))))) (cJ rfl (by rw[aWz,hg];rfl) trivial),rfl⟩ rfl (.inr (aPq _)) (aK ⟨rfl,rfl,rfl,trivial⟩) (aPo rfl rfl rfl) (s6 (ai (by kernel_rfl) (sq (sq (rT [1,4,6,7,8,32] (s2 (cd rfl (fun c32=> ?_) fun c32=> ?_)))))))))))))))
   · have hno: (dA q (l.getD i [])).2=false:=by simpa using c32
     rw[List.drop_eq_getElem_cons hi2,gE,show l[i]=l.getD i [] by rw[aW7,aW8 hi2];rfl,hno] at hgo
     refine sq (rT [4,5] (s3 (SW.nilBox 4 920 3 58 5 rfl rfl rfl (SW.nilBox 4 921 4 112 3 rfl rfl rfl (SW.nilBox 4 922 5 58 5 rfl rfl rfl (rt ?_))))))
     have hr:dS id l=(.zero,false):=(if_pos hnode).trans (hgo.trans (if_neg (by simp)))
     rw[hr]
     refine rq [(900,920),(901,921),(902,922)] [] rfl ?_
     repeat' apply ai
     all_goals first|exact qx|exact aB _|exact aF _|exact(aB _).symm|exact(aF _).symm|rfl|(simp[aB,aF];done)|exact qz
   have hno: (dA q (l.getD i [])).2=true:=by simpa using c32
   rw[List.drop_eq_getElem_cons hi2,gE,show l[i]=l.getD i [] by rw[aW7,aW8 hi2];rfl,if_pos hno] at hgo
   refine sk (rT [1,4,6,7] (s2 (rT [1,4,6,7] (s3 (wq [(900,910),(901,911),(902,912)] [] (⟨l.length - (i+1),by omega,i+1,(dA q (l.getD i [])).1,rfl,by omega,ou,hgo,rfl⟩) ?_)))))
   repeat' apply ai
   all_goals first|exact qx|exact aB _|exact aF _|exact(aB _).symm|exact(aF _).symm|exact congrArg D.i (aC (by omega))|rfl|(simp[aB,aF];done)|exact qz
 have hi3:i=l.length:=by simp[aJ] at c19;omega
 subst hi3
 refine xt (sq (rT [4,5] (s3 (rt ?_))))
 have hr:dS id l=(q,true):=(if_pos hnode).trans (hgo.trans (by rw[List.drop_length];rfl))
 rw[hr]
 refine rq [] [] rfl ?_
 repeat' apply ai
 all_goals first|exact qx|exact aB _|exact aF _|exact(aB _).symm|exact(aF _).symm|rfl|(simp[aB,aF];done)|exact qz
set_option maxHeartbeats 800000 in
theorem aM9 (k:aH) (hl:k.log.length≤900000):Sp 59 1 [tV 0 k.V] [tV 0 (.tup [.agg [.d (.i ((bC k).1).id),.d (.i ((bC k).1).time),.d (.i ((bC k).1).next),.own 900 ((bC k).1).held.length,.own 901 ((bC k).1).marks.length,.own 902 ((bC k).1).inbox.length],.c (.d (.b (bC k).2))]),oR 900 58 5 (aE ((bC k).1).held),oR 901 112 3 (aO ((bC k).1).marks),oR 902 58 5 (aE ((bC k).1).inbox)]:=by
 refine sb Tryz.func59 rfl (sq (rT [1,2] (s3 (sq (rT [1,2,4] (s3 (xp (fQ k.log (by omega)) (ai rfl ?_))))))))
 refine s5 (sq (rT [2,3] (s3 (bE (robj:=[]) (rl:=[]) (bor:=[]) (aM8 k.id (bD k.log).1 (jF k.log hl).1 (jF k.log hl).2) rfl rfl rfl rfl ⟨cJ rfl rfl (cJ rfl rfl trivial),rfl⟩ rfl (.inl rfl) (fun p hp=>nomatch hp) (aPo rfl rfl rfl) (s4 (rt (rq [] [] rfl ?_)))))))
 repeat' apply ai
 all_goals first|exact qx|exact aB _|exact aF _|exact(aB _).symm|exact(aF _).symm|rfl|(simp[aB,aF];done)|exact qz
theorem aEo (k:aH) (hl:k.log.length≤900000):Sp 15 1 [tV 0 k.V] [tV 0 (.e (.agg [.d (.i ((bM k)).id),.d (.i ((bM k)).time),.d (.i ((bM k)).next),.own 900 ((bM k)).held.length,.own 901 ((bM k)).marks.length,.own 902 ((bM k)).inbox.length])),oR 900 58 5 (aE ((bM k)).held),oR 901 112 3 (aO ((bM k)).marks),oR 902 58 5 (aE ((bM k)).inbox)]:=by
 refine sb Tryz.func15 rfl (sq (rT [1,2] (s2 (sq (sq (rT [1,2,7] (s1 (xp (eL k (by omega)) (ai rfl ?_)))))))))
 refine s1 (cd rfl (fun c7=> ?_) fun c7=> ?_)
 · refine sq (rT [2] (s2 (SW.nilBox 2 900 3 58 5 rfl rfl rfl (SW.nilBox 2 901 4 112 3 rfl rfl rfl (SW.nilBox 2 902 5 58 5 rfl rfl rfl (rt ?_))))))
   have hno: ¬aT k=true:=by simpa using c7
   have hk:bM k= .zero:=if_neg hno
   rw[hk]
   refine rq [] [] rfl ?_
   repeat' apply ai
   all_goals first|exact qx|exact aB _|exact aF _|exact(aB _).symm|exact(aF _).symm|rfl|(simp[aB,aF];done)|exact qz
 refine sk (sq (rT [2,3] (s1 (bE (robj:=[]) (rl:=[]) (bor:=[]) (aM9 k hl) rfl rfl rfl rfl ⟨dN rfl (aD rfl (aD rfl (aD rfl (aD rfl (aD rfl aL))))) trivial,rfl⟩ rfl (.inl rfl) (fun p hp=>nomatch hp) (aPo rfl rfl rfl) (s6 (sq (rT [2] (s2 (rt ?_)))))))))
 have hyes:aT k=true:=by simpa using c7
 have hk:=kL hyes
 rw[hk]
 refine rq [] [] rfl ?_
 repeat' apply ai
 all_goals first|exact qx|exact aB _|exact aF _|exact(aB _).symm|exact(aF _).symm|rfl|(simp[aB,aF];done)|exact qz
end Go.Proofs.YthbgjfegalcenaaGreatDoor
namespace Go.Ab
open Int renaming toNat_natCast→aWz
open List renaming length_append→aW0,length_nil→aW2,length_cons→aW3,length_take→aW5,getD_eq_getElem?_getD→aW7,getElem?_eq_getElem→aW8,length_drop→aW9,getElem?_eq_some_iff→aXb,range→aXc,mem_map→aXd,all_eq_true→aXe,take_length→aXf
open Nat renaming le_of_ble_eq_true→aW1,zero_le→aW6,le_refl→aXa
open Bool renaming and_eq_true→aW4
open Go Go.RowKit
set_option linter.unusedVariables false
set_option linter.unusedSimpArgs false
theorem aCp {n:bA} (h:eP n=true):eD (gB n)=(n,true):=aB1 _ n h (by unfold gB;rw[if_pos h])
theorem aJl {n:bA} (h: ¬eP n=true):gB n=[]:=by unfold gB;rw[if_neg h]
theorem zc {k:bB} {w:List UInt8} {n:bA} (hw: ∀b∈w,b≠32) (h1: (w==jH||w==jL)=false) (h2: (w==kE||w==gK||w==gY||w==fR)=true):eS k (eH w n)=if eP n then gC k w n else(k,false):=by
 have e:eH w n=w++32::gB n:=by simp[eH]
 obtain⟨q1,q2,q3⟩:=mQ (w:=w) (r:=gB n) hw
 rw[e]
 by_cases hn:eP n=true
 · rw[if_pos hn,aB4 q3 (by rw[q1];exact h1) (by rw[q1];exact h2) (by rw[q2,aCp hn]),q1,q2,aCp hn]
 · rw[if_neg hn,sB q3 (by rw[q1];exact h1) (by rw[q1];exact h2) (by rw[q2,aJl hn];rfl)]
theorem aR0 {l:List bA} {f m:Int} (h: ∀x∈l,¬(x.frm=f∧x.num=m)):aW l f m<0:=by
 rcases hG (oQ l f m) l.length 0 with h1|⟨k,h1,_,h2,h3,_⟩
 · rw[aW,h1];decide
 · have hk:k<l.length:=by omega
   unfold oQ at h3
   simp only[aW4,beq_iff_eq] at h3
   exact absurd h3 (h _ (dG hk))
theorem aPr {l:List cB} {f m:Int} (h: ∀x∈l,¬(x.frm=f∧x.num=m)):gR l f m<0:=by
 rcases hG (sA l f m) l.length 0 with h1|⟨k,h1,_,h2,h3,_⟩
 · rw[gR,h1];decide
 · have hk:k<l.length:=by omega
   unfold sA at h3
   simp only[aW4,beq_iff_eq] at h3
   exact absurd h3 (h _ (dG hk))
theorem jn {l:List bA} {f m:Int}:aW l f m<0↔ ∀x∈l,¬(x.frm=f∧x.num=m):=⟨fun h x hx=>wc h hx,aR0⟩
theorem aEp {l:List cB} {f m:Int}:gR l f m<0↔ ∀x∈l,¬(x.frm=f∧x.num=m):=⟨fun h x hx=>wd h hx,aPr⟩
section
variable {α:Type}
theorem aPs {p:α→Bool} {n x:α} {l:List α}:x∈qO p n l↔x=n∨x∈l:=by
 unfold qO
 rw[List.mem_append,List.mem_cons]
 conv=>rhs;rw[← List.takeWhile_append_dropWhile (p:=p) (l:=l)]
 rw[List.mem_append]
 constructor
 · rintro(h|h|h)<;>simp[h]
 · rintro(h|h|h)<;>simp[h]
def Srt (lt:α→α→Prop) (l:List α):Prop:=l.Pairwise lt
theorem zd {p:α→Bool} {n:α}: ∀{l:List α},(∀x∈l,p x=true)→qO p n l=l++[n]
 | [],_=>rfl
 |a::l,h=>by
  have ih:=zd (n:=n) (l:=l) fun x hx=>h x (List.mem_cons_of_mem _ hx)
  unfold qO at ih ⊢
  rw[List.takeWhile_cons_of_pos (h a (List.mem_cons_self ..)),List.dropWhile_cons_of_pos (h a (List.mem_cons_self ..)),List.cons_append,ih];rfl
theorem aR1 {l:List α} {i:Nat} {x:α} (h:x∈gX l i): ∃j,j≠i∧l[j]? =some x:=by
 unfold gX at h
 rcases List.mem_append.1 h with h|h
 · obtain⟨j,hj⟩:=List.mem_iff_getElem?.1 h
   rw[List.getElem?_take] at hj
   split at hj
   · exact⟨j,by omega,hj⟩
   · cases hj
 · obtain⟨j,hj⟩:=List.mem_iff_getElem?.1 h
   rw[List.getElem?_drop] at hj
   exact⟨i+1+j,by omega,hj⟩
end
def ltN (a b:bA):Prop:=cF a.frm a.num b.frm b.num=true
def ltM (a b:cB):Prop:=cF a.frm a.num b.frm b.num=true
theorem ze {a b c d:Int}:cF a b c d=true↔a<c∨a=c∧b<d:=by simp[cF]
theorem zf {a b:Int}: ¬cF a b a b=true:=by rw[ze];omega
theorem aCq {a b c d e f:Int} (h1:cF a b c d=true) (h2:cF c d e f=true):cF a b e f=true:=by rw[ze] at *; omega
theorem aG9 {l:List bA}:kB l=true↔(∀x∈l,eP x=true)∧Srt ltN l:=by
 constructor
 · intro h
   refine⟨fun x hx=>tG h hx,?_⟩
   have hs: ∀i,i+1<l.length→ltN (l.getD i .zero) (l.getD (i+1) .zero):=fun i hi=>by
    have h1:=aXe.1 h (i+1) (List.mem_range.2 hi)
    unfold lP at h1
    simp only[aW4,Bool.or_eq_true,beq_iff_eq] at h1
    rcases h1.2 with h2|h2
    · omega
    · exact h2
   have key: ∀d i,i+d+1<l.length→ltN (l.getD i .zero) (l.getD (i+d+1) .zero):=by
    intro d
    induction d with
    |zero=>intro i hi;exact hs i hi
    |succ d ih=>intro i hi;exact aCq (ih i (by omega)) (hs _ (by omega))
   refine List.pairwise_iff_getElem.2 fun i j hi hj hij=> ?_
   have:=key (j - i - 1) i (by omega)
   rw[show i+(j - i - 1)+1=j by omega,aW7,aW7,aW8 hi,aW8 hj] at this
   exact this
 · rintro⟨h1,h2⟩
   refine aXe.2 fun i hi=> ?_
   have hi:=List.mem_range.1 hi
   unfold lP
   simp only[aW4,Bool.or_eq_true,beq_iff_eq]
   refine⟨h1 _ (dG hi),?_⟩
   by_cases e:i=0
   · exact .inl e
   · refine .inr ?_
     have:=List.pairwise_iff_getElem.1 h2 (i - 1) i (by omega) hi (by omega)
     rw[aW7,aW7,aW8 hi,aW8 (by omega)]
     exact this
theorem aHa {l:List cB}:oC l=true↔(∀x∈l,lK x=true)∧Srt ltM l:=by
 constructor
 · intro h
   refine⟨fun x hx=>wK h hx,?_⟩
   have hs: ∀i,i+1<l.length→ltM (l.getD i .zero) (l.getD (i+1) .zero):=fun i hi=>by
    have h1:=aXe.1 h (i+1) (List.mem_range.2 hi)
    unfold mO at h1
    simp only[aW4,Bool.or_eq_true,beq_iff_eq] at h1
    rcases h1.2 with h2|h2
    · omega
    · exact h2
   have key: ∀d i,i+d+1<l.length→ltM (l.getD i .zero) (l.getD (i+d+1) .zero):=by
    intro d
    induction d with
    |zero=>intro i hi;exact hs i hi
    |succ d ih=>intro i hi;exact aCq (ih i (by omega)) (hs _ (by omega))
   refine List.pairwise_iff_getElem.2 fun i j hi hj hij=> ?_
   have:=key (j - i - 1) i (by omega)
   rw[show i+(j - i - 1)+1=j by omega,aW7,aW7,aW8 hi,aW8 hj] at this
   exact this
 · rintro⟨h1,h2⟩
   refine aXe.2 fun i hi=> ?_
   have hi:=List.mem_range.1 hi
   unfold mO
   simp only[aW4,Bool.or_eq_true,beq_iff_eq]
   refine⟨h1 _ (dG hi),?_⟩
   by_cases e:i=0
   · exact .inl e
   · refine .inr ?_
     have:=List.pairwise_iff_getElem.1 h2 (i - 1) i (by omega) hi (by omega)
     rw[aW7,aW7,aW8 hi,aW8 (by omega)]
     exact this
theorem nV {k:bB}:dJ k=true↔(eN k.id=true∧(0≤k.time∧k.time≤999)∧(1≤k.next∧k.next≤100)∧k.held.length≤6∧k.marks.length≤12∧k.inbox.length≤6)∧
 ((∀x∈k.held,eP x=true)∧Srt ltN k.held)∧((∀x∈k.marks,lK x=true)∧Srt ltM k.marks)∧((∀x∈k.inbox,eP x=true)∧Srt ltN k.inbox)∧
 (∀n∈k.held,¬(n.frm=k.id∧k.next≤n.num)∧k.time<n.til∧cw k.id n=true∧gR k.marks n.frm n.num<0)∧
 (∀m∈k.marks,¬(m.frm=k.id∧k.next≤m.num)∧k.time<m.til)∧
 (∀n∈k.inbox,¬(n.frm=k.id∧k.next≤n.num)∧n.to=k.id∧ ¬(k.time<n.til∧gR k.marks n.frm n.num<0)):=by
 have key: ∀{α:Type} {z:α} {l:List α} {P:Nat→Bool} {R:α→Prop},(∀i,P i=true↔R (l.getD i z))→((aXc l.length).all P=true↔ ∀x∈l,R x):=by
  intro α z l P R h
  constructor
  · intro h1 x hx
    obtain⟨i,hi⟩:=List.mem_iff_getElem?.1 hx
    have hlt:=(aXb.1 hi).1
    have:=(h i).1 (aXe.1 h1 i (List.mem_range.2 hlt))
    rw[aW7,hi] at this
    exact this
  · intro h1
    exact aXe.2 fun i hi=>(h i).2 (h1 _ (dG (List.mem_range.1 hi)))
 unfold dJ
 simp only[aW4,aG9,aHa,decide_eq_true_eq,iK]
 rw[key (z:=bA.zero) (l:=k.held) (P:=tS k) (R:=fun n=> ¬(n.frm=k.id∧k.next≤n.num)∧k.time<n.til∧cw k.id n=true∧gR k.marks n.frm n.num<0) (fun i=>by
  unfold tS
  simp only[aW4,Bool.not_eq_true',Bool.and_eq_false_iff,beq_eq_false_iff_ne,decide_eq_true_eq,decide_eq_false_iff_not]
  constructor
  · rintro⟨⟨⟨h1,h2⟩,h3⟩,h4⟩;exact⟨fun h=>by rcases h1 with h1|h1;exact h1 h.1;exact h1 h.2,h2,h3,h4⟩
  · rintro⟨h1,h2,h3,h4⟩;exact⟨⟨⟨by by_cases e: (k.held.getD i bA.zero).frm=k.id;exact .inr fun h=>h1 ⟨e,h⟩;exact .inl e,h2⟩,h3⟩,h4⟩),
  key (z:=cB.zero) (l:=k.marks) (P:=xG k) (R:=fun m=> ¬(m.frm=k.id∧k.next≤m.num)∧k.time<m.til) (fun i=>by
   unfold xG
   simp only[aW4,Bool.not_eq_true',Bool.and_eq_false_iff,beq_eq_false_iff_ne,decide_eq_true_eq,decide_eq_false_iff_not]
   constructor
   · rintro⟨h1,h2⟩;exact⟨fun h=>by rcases h1 with h1|h1;exact h1 h.1;exact h1 h.2,h2⟩
   · rintro⟨h1,h2⟩;exact⟨by by_cases e: (k.marks.getD i cB.zero).frm=k.id;exact .inr fun h=>h1 ⟨e,h⟩;exact .inl e,h2⟩),
  key (z:=bA.zero) (l:=k.inbox) (P:=sQ k) (R:=fun n=> ¬(n.frm=k.id∧k.next≤n.num)∧n.to=k.id∧ ¬(k.time<n.til∧gR k.marks n.frm n.num<0)) (fun i=>by
   unfold sQ
   simp only[aW4,Bool.not_eq_true',Bool.and_eq_false_iff,beq_eq_false_iff_ne,decide_eq_true_eq,decide_eq_false_iff_not,beq_iff_eq]
   constructor
   · rintro⟨⟨h1,h2⟩,h3⟩;exact⟨fun h=>by rcases h1 with h1|h1;exact h1 h.1;exact h1 h.2,h2,fun h=>by rcases h3 with h3|h3;exact h3 h.1;exact h3 h.2⟩
   · rintro⟨h1,h2,h3⟩;exact⟨⟨by by_cases e: (k.inbox.getD i bA.zero).frm=k.id;exact .inr fun h=>h1 ⟨e,h⟩;exact .inl e,h2⟩,by by_cases e:k.time< (k.inbox.getD i bA.zero).til;exact .inr fun h=>h3 ⟨e,h⟩;exact .inl e⟩)]
 constructor
 · rintro⟨⟨⟨⟨⟨⟨⟨⟨⟨⟨⟨a1,a2⟩,a3⟩,a4⟩,a5⟩,a6⟩,a7⟩,a8⟩,a9⟩,b1⟩,b2⟩,b3⟩;exact⟨⟨a1,a2,a3,a4,a5,a6⟩,a7,a8,a9,b1,b2,b3⟩
 · rintro⟨⟨a1,a2,a3,a4,a5,a6⟩,a7,a8,a9,b1,b2,b3⟩;exact⟨⟨⟨⟨⟨⟨⟨⟨⟨⟨⟨a1,a2⟩,a3⟩,a4⟩,a5⟩,a6⟩,a7⟩,a8⟩,a9⟩,b1⟩,b2⟩,b3⟩
theorem zg {l:List bA} {n x:bA}:x∈kC l n↔x=n∨x∈l:=aPs
theorem aJm {k:bB} {x:bB×Bool} (h1:x.2=true) (h2:dJ x.1=true):mA k x=(x.1,true):=by
 unfold mA;rw[if_pos (by rw[h1,h2];rfl)]
theorem tK {k:bB} {rec:List UInt8} (hk:dJ k=true) (h1: (eS k rec).2=true) (h2:dJ (eS k rec).1=true):dA k rec=((eS k rec).1,true):=by
 rw[ah hk,aJm h1 h2]
theorem aJn {k:bB} {n:bA} (h: (iI k n).2=true): (bf k n=true∧(k.held.length:Int)+k.marks.length+1≤12)∧
 (iI k n).1=if n.to==k.id then{k with inbox:=kC k.inbox n,marks:=qN k.marks ⟨n.frm,n.num,n.til⟩} else{k with held:=kC k.held n}:=by
 unfold iI at h ⊢
 split at h
 · rename_i hx
   rw[if_pos hx]
   simp only[aW4,decide_eq_true_eq] at hx
   exact⟨hx,rfl⟩
 · cases h
theorem aHb {k:bB} {n:bA} (h:bf k n=true):eP n=true∧k.time<n.til∧aW k.held n.frm n.num<0∧aW k.inbox n.frm n.num<0∧gR k.marks n.frm n.num<0:=by
 unfold bf at h
 simp only[aW4,decide_eq_true_eq] at h
 exact⟨h.1.1.1.1,h.1.1.1.2,h.1.1.2,h.1.2,h.2⟩
theorem aJo (k:bB) {w:List UInt8} {m:cB} (hm:lK m=true) (hw: ∀b∈w,b≠32) (h1: (w==jH||w==jL)=false) (h2: (w==kE||w==gK||w==gY||w==fR)=false) (h3: (w==nP||w==mS||w==iD)=true):eS k (kV w m)=iX k w m:=by
 have e:kV w m=w++32::wJ m:=by simp[kV,wJ]
 obtain⟨q1,q2,q3⟩:=mQ (w:=w) (r:=wJ m) hw
 obtain⟨l1,l2,l3,_⟩:=aCa hm
 rw[e,aB5 q3 (by rw[q1];exact h1) (by rw[q1];exact h2) (by rw[q1];exact h3) (by rw[q2,l1,l2];rfl),q1,q2,l3]
theorem aJp (k:bB) {n:Nat} (hn:n<100000):eS k (pC n)=lF k jL n:=by
 have e:pC n=jL++32::jZ n:=by simp[pC]
 obtain⟨h1,h2,h3⟩:=mQ (w:=jL) (r:=jZ n) (by decide)
 rw[e,vv h3 (by rw[h1];rfl) (by rw[h2,mR hn];rfl),h1,h2,sC (mR hn)]
theorem getD_some {α:Type} {l:List α} {i:Nat} {z:α} (h:i<l.length):l[i]? =some (l.getD i z):=by
 rw[aW7,aW8 h];rfl
theorem aR2 {l m:List cB} {f n:Int} (h:gR m f n<0) (hs: ∀x∈l,x∈m):gR l f n<0:=aEp.2 fun x hx=>aEp.1 h x (hs x hx)
theorem aR3 {l m:List bA} {f n:Int} (h:aW m f n<0) (hs: ∀x∈l,x∈m):aW l f n<0:=jn.2 fun x hx=>jn.1 h x (hs x hx)
theorem nW: ∀{rs ts:List (List UInt8)} {k k2:bB},gE k rs=(k2,true)→gE k (rs++ts)=gE k2 ts
 | [],ts,k,k2,h=>by simp only[gE,Prod.mk.injEq,and_true] at h;rw[h];rfl
 |r::rs,ts,k,k2,h=>by
  simp only[gE,List.cons_append] at h ⊢
  split at h
  · rename_i hx
    rw[if_pos hx];exact nW h
  · cases h
theorem vY {k k2:bB} {r:List UInt8} (h:dA k r=(k2,true)):gE k [r]=(k2,true):=by
 simp only[gE];rw[h,if_pos rfl]
theorem sL {k:bB} (hk:dJ k=true) {h i:List bA} {m:List cB} (hh:h.Sublist k.held) (hm:m.Sublist k.marks) (hi:i.Sublist k.inbox) (hc:i=[]∨m=k.marks):dJ ⟨k.id,k.time,k.next,h,m,i⟩=true:=by
 obtain⟨⟨k1,k2,k3,k4,k5,k6⟩,⟨n1,s1⟩,⟨n2,s2⟩,⟨n3,s3⟩,c1,c2,c3⟩:=nV.1 hk
 refine nV.2 ⟨⟨k1,k2,k3,Nat.le_trans hh.length_le k4,Nat.le_trans hm.length_le k5,Nat.le_trans hi.length_le k6⟩,⟨fun x hx=>n1 x (hh.subset hx),s1.sublist hh⟩,⟨fun x hx=>n2 x (hm.subset hx),s2.sublist hm⟩,⟨fun x hx=>n3 x (hi.subset hx),s3.sublist hi⟩,
  fun n hn=> ?_,fun x hx=>c2 x (hm.subset hx),fun n hn=> ?_⟩
 · obtain⟨q1,q2,q3,q4⟩:=c1 n (hh.subset hn)
   exact⟨q1,q2,q3,aR2 q4 fun x hx=>hm.subset hx⟩
 · rcases hc with rfl|rfl
   · cases hn
   · exact c3 n (hi.subset hn)
theorem aPt {α:Type} {lt:α→α→Prop} {l:List α} (h:Srt lt l) {i:Nat} {z:α} (hi:i<l.length): ∀x∈l.take i,lt x (l.getD i z):=by
 intro x hx
 obtain⟨j,hj⟩:=List.mem_iff_getElem?.1 hx
 rw[List.getElem?_take] at hj
 split at hj
 · rename_i hji
   obtain⟨hj1,hj2⟩:=aXb.1 hj
   have:=List.pairwise_iff_getElem.1 h j i hj1 hi hji
   rw[hj2] at this
   rw[aW7,aW8 hi];exact this
 · cases hj
theorem zh {l:List bA} (h:Srt ltN l) {i:Nat} (hi:i<l.length):kC (l.take i) (l.getD i .zero)=l.take (i+1)∧aW (l.take i) (l.getD i .zero).frm (l.getD i .zero).num<0:=by
 have hp:=aPt h (z:=bA.zero) hi
 refine⟨by rw[yH,zd fun x hx=>hp x hx,eR (z:=bA.zero) hi],jn.2 fun x hx e=> ?_⟩
 have:=hp x hx
 rw[ltN,e.1,e.2] at this
 exact zf this
theorem aJq {l:List cB} (h:Srt ltM l) {i:Nat} (hi:i<l.length):qN (l.take i) (l.getD i .zero)=l.take (i+1)∧gR (l.take i) (l.getD i .zero).frm (l.getD i .zero).num<0:=by
 have hp:=aPt h (z:=cB.zero) hi
 refine⟨by rw[fe,zd fun x hx=>hp x hx,eR (z:=cB.zero) hi],aEp.2 fun x hx e=> ?_⟩
 have:=hp x hx
 rw[ltM,e.1,e.2] at this
 exact zf this
theorem fo {α:Type} {l:List α}: ([]:List α).Sublist l:=List.nil_sublist _
theorem zi {k:bB} (hk:dJ k=true): ∀i,i≤k.marks.length→gE ⟨k.id,k.time,k.next,[],[],[]⟩ ((k.marks.take i).map (kV iD))=(⟨k.id,k.time,k.next,[],k.marks.take i,[]⟩,true)
 |0,_=>rfl
 |i+1,hi=>by
  have ih:=zi hk i (by omega)
  obtain⟨_,_,⟨n2,s2⟩,_⟩:=nV.1 hk
  rw[eR (z:=cB.zero) (show i<k.marks.length by omega),List.map_append,nW ih]
  refine vY ?_
  have hm:=n2 _ (dG (z:=cB.zero) (show i<k.marks.length by omega))
  obtain⟨e1,e2⟩:=aJq s2 (show i<k.marks.length by omega)
  have hd:eS ⟨k.id,k.time,k.next,[],k.marks.take i,[]⟩ (kV iD (k.marks.getD i .zero))=(⟨k.id,k.time,k.next,[],k.marks.take (i+1),[]⟩,true):=by
   rw[aJo _ hm (by decide) rfl rfl rfl]
   unfold iX
   rw[if_neg (by rw[show(iD==nP)=false by decide];simp),if_neg (by rw[show(iD==mS)=false by decide];simp),if_pos (by rw[decide_eq_true e2];rfl),e1]
  rw[tK (sL hk fo (List.take_sublist _ _) fo (.inl rfl)) (by rw[hd]) (by rw[hd];exact sL hk fo (List.take_sublist _ _) fo (.inl rfl)),hd,← eR (z:=cB.zero) (show i<k.marks.length by omega)]
theorem aPu {x:bB} {n:bA} (hn:eP n=true) (h1:aW x.held n.frm n.num<0) (h2:aW x.inbox n.frm n.num<0):eS x (eH gY n)=({x with held:=kC x.held n},true):=by
 rw[zc (by decide) rfl rfl,if_pos hn]
 unfold gC
 rw[if_neg (by rw[show(gY==kE)=false by decide];simp),if_neg (by rw[show(gY==gK)=false by decide];simp),if_neg (by simp;omega),if_pos (by decide)]
theorem aNa {x:bB} {n:bA} (hn:eP n=true) (h1:aW x.held n.frm n.num<0) (h2:aW x.inbox n.frm n.num<0):eS x (eH fR n)=({x with inbox:=kC x.inbox n},true):=by
 rw[zc (by decide) rfl rfl,if_pos hn]
 unfold gC
 rw[if_neg (by rw[show(fR==kE)=false by decide];simp),if_neg (by rw[show(fR==gK)=false by decide];simp),if_neg (by simp;omega),if_neg (by decide),if_pos (by decide)]
theorem aCr {k:bB} (hk:dJ k=true): ∀i,i≤k.held.length→gE ⟨k.id,k.time,k.next,[],k.marks,[]⟩ ((k.held.take i).map (eH gY))=(⟨k.id,k.time,k.next,k.held.take i,k.marks,[]⟩,true)
 |0,_=>rfl
 |i+1,hi=>by
  have ih:=aCr hk i (by omega)
  obtain⟨_,⟨n1,s1⟩,_⟩:=nV.1 hk
  rw[eR (z:=bA.zero) (show i<k.held.length by omega),List.map_append,nW ih]
  refine vY ?_
  obtain⟨e1,e2⟩:=zh s1 (show i<k.held.length by omega)
  have hd:=aPu (x:=⟨k.id,k.time,k.next,k.held.take i,k.marks,[]⟩) (n1 _ (dG (z:=bA.zero) (show i<k.held.length by omega))) e2 (jn.2 fun x hx=>nomatch hx)
  rw[e1] at hd
  rw[tK (sL hk (List.take_sublist _ _) (List.Sublist.refl _) fo (.inl rfl)) (by rw[hd]) (by rw[hd];exact sL hk (List.take_sublist _ _) (List.Sublist.refl _) fo (.inl rfl)),hd,← eR (z:=bA.zero) (show i<k.held.length by omega)]
def Ap (k:bB):Prop:= ∀n∈k.inbox,aW k.held n.frm n.num<0
theorem Ap.nil {k:bB} (h:k.inbox=[]):Ap k:=fun n hn=>by rw[h] at hn;cases hn
theorem Ap.less {k x:bB} (h:Ap k) (hi: ∀n∈x.inbox,n∈k.inbox) (hh: ∀n∈x.held,n∈k.held):Ap x:=fun n hn=>aR3 (h n (hi n hn)) hh
theorem aKv {α:Type} {l:List α} {i:Nat} {x:α} (h:x∈gX l i):x∈l:=by
 obtain⟨j,_,hj⟩:=aR1 h
 exact List.mem_iff_getElem?.2 ⟨j,hj⟩
theorem Ap.put {k:bB} {n:bA} (h:Ap k) (hn:aW k.inbox n.frm n.num<0) {x:bB} (hx:x.held=kC k.held n) (hi:x.inbox=k.inbox):Ap x:=fun m hm=>by
 rw[hi] at hm
 rw[hx]
 refine jn.2 fun y hy e=> ?_
 rcases zg.1 hy with rfl|hy
 · exact jn.1 hn m hm ⟨e.1.symm,e.2.symm⟩
 · exact jn.1 (h m hm) y hy e
theorem Ap.come {k:bB} {n:bA} (h:Ap k) (hn:aW k.held n.frm n.num<0) {x:bB} (hx:x.inbox=kC k.inbox n) (hi:x.held=k.held):Ap x:=fun m hm=>by
 rw[hx] at hm
 rw[hi]
 rcases zg.1 hm with rfl|hm
 · exact hn
 · exact h m hm
theorem aCs {k:bB} (h:Ap k) (n:bA):Ap (iI k n).1:=by
 by_cases h1: (iI k n).2=true
 · obtain⟨⟨q1,_⟩,q2⟩:=aJn h1
   obtain⟨_,_,q3,q4,_⟩:=aHb q1
   rw[q2]
   split
   · exact h.come q3 rfl rfl
   · exact h.put q4 rfl rfl
 · unfold iI at h1 ⊢
   split
   · rename_i hx;rw[if_pos hx] at h1;exact absurd rfl h1
   · exact h
theorem aNb {k:bB} (h:Ap k) (rec:List UInt8):Ap (eS k rec).1:=by
 have hnum: ∀w n,Ap (lF k w n).1:=fun w n=>by
  unfold lF
  split
  · exact h.less (fun m hm=>hm) fun m hm=>(List.mem_filter.1 hm).1
  · split
    · exact h.less (fun m hm=>hm) fun m hm=>hm
    · exact h
 have hnote: ∀w n,Ap (gC k w n).1:=fun w n=>by
  unfold gC
  split
  · exact aCs (h.less (x:={k with next:=wrap64 (k.next+1)}) (fun m hm=>hm) fun m hm=>hm) n
  · split
    · exact aCs h n
    · split
      · exact h
      · rename_i h3
        simp only[Bool.or_eq_true,decide_eq_true_eq,not_or,Int.not_le] at h3
        split
        · exact h.put h3.2 rfl rfl
        · split
          · exact h.come h3.1 rfl rfl
          · exact h
 have hmark: ∀w m,Ap (iX k w m).1:=fun w m=>by
  unfold iX
  split
  · exact h.less (fun m hm=>hm) fun m hm=>aKv hm
  · split
    · exact h.less (fun m hm=>aKv hm) fun m hm=>hm
    · split
      · exact h.less (fun m hm=>hm) fun m hm=>hm
      · exact h
 unfold eS
 repeat' split
 all_goals first|exact hnum _ _|exact hnote _ _|exact hmark _ _|exact h
theorem aNc {k:bB} (h:Ap k) (rec:List UInt8):Ap (dA k rec).1:=by
 unfold dA
 split
 · unfold mA
   split
   · exact aNb h rec
   · exact h
 · exact Ap.nil rfl
theorem aCt: ∀{rs:List (List UInt8)} {k:bB},Ap k→Ap (gE k rs).1
 | [],k,h=>h
 |r::rs,k,h=>by
  unfold gE
  split
  · exact aCt (aNc h r)
  · exact Ap.nil rfl
theorem tf (id:Int): (cE id).inbox=[]:=by
 unfold cE
 split<;>rfl
theorem aNd (id:Int) (rs:List (List UInt8)):Ap (dS id rs).1:=by
 unfold dS
 split
 · exact aCt (Ap.nil (tf id))
 · exact Ap.nil rfl
theorem zj {k:bB} (hk:dJ k=true) (ha:Ap k): ∀i,i≤k.inbox.length→gE ⟨k.id,k.time,k.next,k.held,k.marks,[]⟩ ((k.inbox.take i).map (eH fR))=(⟨k.id,k.time,k.next,k.held,k.marks,k.inbox.take i⟩,true)
 |0,_=>rfl
 |i+1,hi=>by
  have ih:=zj hk ha i (by omega)
  obtain⟨_,_,_,⟨n3,s3⟩,_⟩:=nV.1 hk
  have hm:=dG (z:=bA.zero) (show i<k.inbox.length by omega)
  rw[eR (z:=bA.zero) (show i<k.inbox.length by omega),List.map_append,nW ih]
  refine vY ?_
  obtain⟨e1,e2⟩:=zh s3 (show i<k.inbox.length by omega)
  have hd:=aNa (x:=⟨k.id,k.time,k.next,k.held,k.marks,k.inbox.take i⟩) (n3 _ hm) (ha _ hm) e2
  rw[e1] at hd
  rw[tK (sL hk (List.Sublist.refl _) (List.Sublist.refl _) (List.take_sublist _ _) (.inr rfl)) (by rw[hd]) (by rw[hd];exact sL hk (List.Sublist.refl _) (List.Sublist.refl _) (List.take_sublist _ _) (.inr rfl)),hd,← eR (z:=bA.zero) (show i<k.inbox.length by omega)]
theorem wX {id t n:Int} (h1:eN id=true) (h2:0≤t∧t≤999) (h3:1≤n∧n≤100):dJ ⟨id,t,n,[],[],[]⟩=true:=
 nV.2 ⟨⟨h1,h2,h3,by simp,by simp,by simp⟩,⟨fun x hx=>(nomatch hx),List.Pairwise.nil⟩,⟨fun x hx=>(nomatch hx),List.Pairwise.nil⟩,⟨fun x hx=>(nomatch hx),List.Pairwise.nil⟩,fun x hx=>(nomatch hx),fun x hx=>(nomatch hx),fun x hx=>(nomatch hx)⟩
theorem aNe {id t:Int} (h1:eN id=true) (h2:0≤t∧t≤999):gE ⟨id,0,1,[],[],[]⟩ (if 0<t then [lL t.toNat] else [])=(⟨id,t,1,[],[],[]⟩,true):=by
 split
 · rename_i h
   refine vY ?_
   have e: ((t.toNat:Nat):Int)=t:=by omega
   have hd:eS ⟨id,0,1,[],[],[]⟩ (lL t.toNat)=(⟨id,t,1,[],[],[]⟩,true):=by
    rw[xr _ (by omega),e]
    unfold lF
    rw[if_pos (by simpa using h)];rfl
   rw[tK (wX h1 (by omega) (by omega)) (by rw[hd]) (by rw[hd];exact wX h1 h2 (by omega)),hd]
 · rename_i h
   have:t=0:=by omega
   subst this;rfl
theorem aNf {id t n:Int} (h1:eN id=true) (h2:0≤t∧t≤999) (h3:1≤n∧n≤100):gE ⟨id,t,1,[],[],[]⟩ (if 1<n then [pC n.toNat] else [])=(⟨id,t,n,[],[],[]⟩,true):=by
 split
 · rename_i h
   refine vY ?_
   have e: ((n.toNat:Nat):Int)=n:=by omega
   have hd:eS ⟨id,t,1,[],[],[]⟩ (pC n.toNat)=(⟨id,t,n,[],[],[]⟩,true):=by
    rw[aJp _ (by omega),e]
    unfold lF
    rw[if_neg (by rw[show(jL==jH)=false by decide];simp),if_pos (by simpa using h)]
   rw[tK (wX h1 h2 (by omega)) (by rw[hd]) (by rw[hd];exact wX h1 h2 h3),hd]
 · rename_i h
   have:n=1:=by omega
   subst this;rfl
theorem aPv {k:bB} (hk:dJ k=true) (ha:Ap k):dS k.id (eE k)=(k,true):=by
 obtain⟨⟨h1,h2,h3,_⟩,_⟩:=nV.1 hk
 have e0:dS k.id (eE k)=gE ⟨k.id,0,1,[],[],[]⟩ (iz k):=by
  unfold dS eE cE
  rw[if_pos h1,if_pos hk,if_pos h1]
 have hm:=zi hk k.marks.length (aXa _)
 have hh:=aCr hk k.held.length (aXa _)
 have hi:=zj hk ha k.inbox.length (aXa _)
 rw[aXf] at hm hh hi
 rw[e0]
 unfold iz
 rw[List.append_assoc,List.append_assoc,List.append_assoc,nW (aNe h1 h2),nW (aNf h1 h2 h3),nW hm,nW hh,hi]
theorem av {s s':List UInt8} {n j:Nat} (e:s'.take n=s.take n) (h:j<n):s'.getD j 0=s.getD j 0:=by
 have:=congrArg (fun l=>l[j]?) e
 simp only[List.getElem?_take,h,if_true] at this
 rw[aW7,aW7,this]
theorem aCu {s s':List UInt8} {n m:Nat} (e:s'.take n=s.take n) (h:m≤n):s'.take m=s.take m:=by
 have:=congrArg (List.take m) e
 rwa [List.take_take,List.take_take,Nat.min_eq_left h] at this
theorem aCv {s s' r:List UInt8} {n:Nat} (h:iC s=some (r,n)) (e:s'.take n=s.take n) (hl:n≤s'.length):iC s'=some (r,n):=by
 unfold iC at h
 split at h
 · cases h
 · rename_i i hi
   obtain⟨q1,q2,q3,q4,q5⟩:=wH hi
   split at h
   · cases h
   · rename_i m hm
     split at h
     · rename_i hc
       cases h
       obtain⟨c1,c2,c3,c4⟩:=hc
       have hi':uJ s'=some i:=ez q1 q2 (by omega) (by rw[av e (by omega)];exact q4) fun j h1 h2=>by rw[av e (by omega)];exact q5 j h1 h2
       unfold iC
       rw[hi']
       simp only
       rw[aCu e (show i≤i+2+m by omega),hm]
       simp only
       rw[if_pos ⟨c1,c2,hl,by rw[av e (by omega)];exact c4⟩,aCu e (show i+1+m≤i+2+m by omega)]
     · cases h
theorem aJr {rec t:List UInt8} (h:kK rec=true):iC (fW rec++t)=some (rec,(fW rec).length):=by
 have h1: (1:Int)≤rec.length∧(rec.length:Int)≤60:=by simpa[kK,iK] using h
 have hl:=aGe (n:=rec.length) (by omega)
 have e:fW rec++t=jZ rec.length++(58::(rec++59::t)):=by simp[fW]
 have hlen: (fW rec).length=(jZ rec.length).length+2+rec.length:=by simp only[fW,aW0,aW3,aW2];omega
 generalize hd:jZ rec.length=d at*
 have hdd: ∀b∈d,gN b=true:=by rw[← hd];exact zH _
 have hat: ∀j,j<d.length→(d++(58::(rec++59::t))).getD j 0≠58:=fun j hj=>by
  rw[aW7,List.getElem?_append_left hj,aW8 hj]
  have:=hdd _ (List.getElem_mem hj)
  intro e9
  simp only[Option.getD_some] at e9
  rw[e9] at this
  exact absurd this (by decide)
 have hc:uJ (d++(58::(rec++59::t)))=some d.length:=ez (aW6 _) (by omega) (by simp) (by rw[aW7,List.getElem?_append_right (aXa _)];simp) fun j _ hj=>hat j hj
 have ht: (d++(58::(rec++59::t))).take d.length=d:=List.take_left' rfl
 have hn:jN d=some rec.length:=by rw[← hd];exact mR (by omega)
 unfold iC
 rw[e,hc]
 simp only
 rw[ht,hn]
 simp only
 have hg: (d++(58::(rec++59::t))).getD (d.length+1+rec.length) 0=59:=by
  rw[aW7,List.getElem?_append_right (by omega),show d.length+1+rec.length - d.length=rec.length+1 by omega,List.getElem?_cons_succ,List.getElem?_append_right (aXa _)]
  simp
 rw[if_pos ⟨by omega,by omega,by simp only[aW0,aW3];omega,hg⟩]
 have hcut: ((d++(58::(rec++59::t))).take (d.length+1+rec.length)).drop (d.length+1)=rec:=by
  rw[show d++(58::(rec++59::t))=(d++[58])++(rec++59::t) by simp,show d.length+1+rec.length=(d++[58]).length+rec.length by simp,List.take_append,List.take_of_length_le (by simp),Nat.add_sub_cancel_left,List.take_left' rfl,show d.length+1=(d++[58]).length by simp,List.drop_left' rfl]
 rw[hcut,hlen]
theorem oJ: ∀{recs:List (List UInt8)},recs.all kK=true→bD (dE recs)=(recs,(dE recs).length)
 | [],_=>by rw[aGg,fD nD];rfl
 |r::rs,h=>by
  simp only[List.all_cons,aW4] at h
  have e:dE (r::rs)=fW r++dE rs:=by simp[dE]
  rw[e,jK (aJr h.1),List.drop_left' rfl,oJ h.2,aW0]
theorem nf: ∀(f:Nat) {l:List UInt8} {n:Nat},(l.take n).length≤f→((bD (l.take n)).1 <+: (bD l).1)∧bD (l.take (bD (l.take n)).2)=bD (l.take n)
 |0,l,n,hf=>by
  have e:l.take n=[]:=List.eq_nil_of_length_eq_zero (by omega)
  rw[e,fD nD]
  exact⟨List.nil_prefix,by rw[List.take_zero,fD nD]⟩
 |f+1,l,n,hf=>by
  cases hr:iC (l.take n) with
  |none=>
   rw[fD hr]
   exact⟨List.nil_prefix,by rw[List.take_zero,fD nD]⟩
  |some p=>
   obtain⟨r,c⟩:=p
   have hs:=pL hr
   have hc:c≤n∧c≤l.length:=by have:=hs.2.1;rw[aW5] at this;omega
   have h2:iC l=some (r,c):=aCv hr (by rw[List.take_take,Nat.min_eq_left hc.1]) hc.2
   have ed: (l.take n).drop c=(l.drop c).take (n - c):=by rw[List.drop_take]
   obtain⟨i1,i2⟩:=nf f (l:=l.drop c) (n:=n - c) (by rw[← ed,aW9];omega)
   have i3:=(qM _ ((l.drop c).take (n - c)) (aXa _)).1
   rw[aW5,aW9] at i3
   rw[jK hr,jK h2,ed]
   simp only
   refine⟨(List.cons_prefix_cons).2 ⟨rfl,i1⟩,?_⟩
   have h3:iC (l.take (c+(bD ((l.drop c).take (n - c))).2))=some (r,c):=aCv h2 (by rw[List.take_take,Nat.min_eq_left (by omega)]) (by rw[aW5];omega)
   rw[jK h3,List.drop_take,Nat.add_sub_cancel_left,i2]
theorem zk: ∀{rs ts:List (List UInt8)} {k:bB},(gE k (rs++ts)).2=true→(gE k rs).2=true
 | [],ts,k,h=>rfl
 |r::rs,ts,k,h=>by
  rw[List.cons_append] at h
  unfold gE at h ⊢
  split at h
  · rename_i hx
    rw[if_pos hx];exact zk h
  · cases h
theorem aJs {id:Int} {rs ts:List (List UInt8)} (hp:rs <+: ts) (h: (dS id ts).2=true): (dS id rs).2=true:=by
 obtain⟨us,rfl⟩:=hp
 unfold dS at h ⊢
 split at h
 · rename_i hx
   rw[if_pos hx];exact zk h
 · cases h
theorem fY {k:aH}:aT k=true↔eN k.id=true∧dP k.log k.forced=true∧k.halves.length≤3∧(k.up=true∨k.halves.length=0)∧(bC k).2=true∧(zU k).2=true∧(aXc k.halves.length).all (iF k.halves)=true:=by
 constructor
 · intro h
   unfold aT at h
   simp only[aW4] at h
   obtain⟨⟨⟨h1,h2⟩,h3⟩,h4⟩:=h
   obtain⟨q1,q2,q3,q4⟩:=fL h1
   exact⟨q1,q2,q3,q4,h2,h3,h4⟩
 · rintro⟨q1,q2,q3,q4,h2,h3,h4⟩
   unfold aT jW
   have q3': ((k.halves.length:Nat):Int)≤3:=by omega
   have q4': (k.up||decide (k.halves.length=0))=true:=by
    rcases q4 with h|h
    · rw[h];rfl
    · rw[decide_eq_true h,Bool.or_true]
   rw[q1,q2,decide_eq_true q3',q4',h2,h3,h4];rfl
theorem pN {k:aH} (h:aT k=true):bM k=(bC k).1:=if_pos h
theorem aKw {k:aH} (h:aT k=true):bC k=(bM k,true):=Prod.ext (pN h).symm (fY.1 h).2.2.2.2.1
theorem aU9 {k:aH} (h:aT k=true): (bM k).id=k.id:=by rw[pN h];exact aG4 h
theorem aVa {k:aH} (h:aT k=true):dJ (bM k)=true:=by rw[pN h];exact gU h
theorem aVb {k:aH} (h:aT k=true):Ap (bM k):=by rw[pN h];exact aNd _ _
theorem aR4 {k:aH} (h:aT k=true):aT {k with up:=true}=true:=by
 obtain⟨q1,q2,q3,_,h2,h3,h4⟩:=fY.1 h
 exact fY.2 ⟨q1,q2,q3,.inl rfl,h2,h3,h4⟩
theorem aHc {k:aH} (h:aT k=true):bM (cS k)=bM k:=by
 have e:cS k={k with up:=true}:=if_pos h
 rw[e,pN (aR4 h),pN h];rfl
theorem fp (l:List UInt8) (f keep:Int): (bD (l.take (iG l f keep))).2=iG l f keep∧(bD (l.take (iG l f keep))).1 <+: (bD l).1∧(l.take (iG l f keep)).length=iG l f keep:=by
 obtain⟨h1,h2⟩:=nf _ (l:=l) (n:=(gF l f keep).toNat) (aXa _)
 have h3:bD (l.take (iG l f keep))=bD (l.take (gF l f keep).toNat):=h2
 refine⟨by rw[h3];rfl,by rw[h3];exact h1,?_⟩
 rw[aW5]
 have:=iy l f keep
 omega
theorem aJt {l:List UInt8} {f keep:Int} (h:dP l f=true):dP (l.take (iG l f keep)) (iG l f keep)=true:=by
 obtain⟨h1,h2,h3,h4⟩:=iM h
 obtain⟨r1,r2,r3⟩:=fp l f keep
 have:=iy l f keep
 simp only[dP,iK,aW4,decide_eq_true_eq]
 refine⟨⟨⟨by omega,by omega⟩,by rw[r1,r3]⟩,?_⟩
 rw[aWz,List.take_take,Nat.min_self,r1]
theorem uU {k:aH} (h:aT k=true) (keep:Int):bZ k keep=⟨k.id,false,k.log.take (iG k.log k.forced keep),iG k.log k.forced keep,[]⟩:=by
 obtain⟨_,q2,_⟩:=fY.1 h
 unfold bZ fG
 rw[if_pos h,if_pos q2]
theorem tp {k:aH} (h:aT k=true) (keep:Int):aT (bZ k keep)=true:=by
 obtain⟨q1,q2,q3,_,h2,h3,h4⟩:=fY.1 h
 obtain⟨r1,r2,r3⟩:=fp k.log k.forced keep
 have e: (dS k.id (bD (k.log.take (iG k.log k.forced keep))).1).2=true:=aJs r2 h2
 rw[uU h]
 refine fY.2 ⟨q1,aJt q2,by simp,.inr rfl,e,?_,rfl⟩
 unfold zU
 simp only
 rw[aWz,List.take_take,Nat.min_self];exact e
theorem aJu {k:aH} (h:aT k=true) (keep:Int):bZ (bZ k keep) keep=bZ k keep:=by
 have hf:=tp h keep
 obtain⟨r1,r2,r3⟩:=fp k.log k.forced keep
 rw[uU hf,uU h] at*
 generalize iG k.log k.forced keep=L at*
 generalize k.log.take L=m at*
 have e:iG m (L:Int) keep=L:=by
  have ea:gF m (L:Int) keep=L:=by
   unfold gF
   rw[r3,if_neg (by omega)];omega
  unfold iG
  rw[ea,aWz,List.take_of_length_le (by omega),r1]
 simp only
 rw[e,List.take_of_length_le (by omega)]
theorem sj {k:aH} (h:aT k=true) (hf:k.forced=k.log.length) (keep:Int):bM (cS (bZ k keep))=bM k:=by
 obtain⟨q1,q2,q3,_,h2,h3,h4⟩:=fY.1 h
 obtain⟨_,_,s3,_⟩:=iM q2
 rw[aHc (tp h keep),pN (tp h keep),pN h,uU h]
 have ea:gF k.log k.forced keep=k.log.length:=by
  unfold gF
  rw[hf,if_neg (by omega)];omega
 have e:iG k.log k.forced keep=k.log.length:=by
  unfold iG
  rw[ea,aWz,aXf,s3]
 unfold bC
 simp only
 rw[e,aXf]
theorem qk {k:aH} (h:dP k.log k.forced=true):jY k={k with forced:=k.log.length}:=by
 unfold jY eT
 rw[if_pos h]
theorem aEq {l:List UInt8} {f:Int} (h:dP l f=true):dP l l.length=true:=by
 obtain⟨h1,h2,h3,h4⟩:=iM h
 simp only[dP,iK,aW4,decide_eq_true_eq]
 exact⟨⟨⟨h1,by omega⟩,h3⟩,by rw[aWz,aXf,h3]⟩
theorem ql {k:aH} (h:aT k=true):aT (jY k)=true:=by
 obtain⟨q1,q2,q3,q4,h2,h3,h4⟩:=fY.1 h
 rw[qk q2]
 refine fY.2 ⟨q1,aEq q2,q3,q4,h2,?_,h4⟩
 unfold zU
 simp only
 rw[aWz,aXf];exact h2
theorem jo {k:aH} (h:aT k=true):bM (jY k)=bM k:=by
 obtain⟨q1,q2,_⟩:=fY.1 h
 rw[pN (ql h),pN h,qk q2];rfl
theorem aEr (n:bA): (gB n).length≤35:=by
 by_cases h:eP n=true
 · obtain⟨p1,p2,p3,p4,p5⟩:=lZ h
   have q1:=bS (k:=0) (n:=n.frm.toNat) (by simp;omega)
   have q2:=bS (k:=1) (n:=n.num.toNat) (by simp;omega)
   have q3:=bS (k:=0) (n:=n.to.toNat) (by simp;omega)
   have q4:=bS (k:=2) (n:=n.til.toNat) (by simp;omega)
   rw[gB,if_pos h]
   simp only[kQ,aW0,aW3,aW2];omega
 · rw[gB,if_neg h];simp
theorem ng {r:List UInt8} (h1:1≤r.length) (h2:r.length≤60):kK r=true:=by
 simp only[kK,iK,aW4,decide_eq_true_eq];omega
theorem zl {w:List UInt8} {n:bA} (h:w.length≤5):kK (eH w n)=true:=by
 have:=aEr n
 exact ng (by simp only[eH,aW0,aW3,aW2];omega) (by simp only[eH,aW0,aW3,aW2];omega)
theorem aJv {n:Nat} (h:n≤1000000):kK (lL n)=true:=
 ng (by simp only[lL,aW0,aW3,aW2];omega) (by have:=dg h;omega)
theorem aJw {n:Nat} (h:n≤1000000):kK (pC n)=true:=
 ng (by simp only[pC,aW0,aW3,aW2];omega) (by have:=se h;omega)
theorem aJx {w:List UInt8} {m:cB} (hw:w.length≤5) (h: (0≤m.frm∧m.frm≤1000000)∧(0≤m.num∧m.num≤1000000)∧(0≤m.til∧m.til≤1000000)):kK (kV w m)=true:=
 ng (by simp only[kV,aW0,aW3,aW2];omega) (by have:=df (w:=w) h;omega)
theorem sm {k:bB}: (eE k).all kK=true:=by
 by_cases hk:dJ k=true
 · obtain⟨⟨_,ht,hn,_⟩,⟨n1,_⟩,⟨n2,_⟩,⟨n3,_⟩,_⟩:=nV.1 hk
   refine aXe.2 fun r hr=> ?_
   unfold eE at hr
   rw[if_pos hk] at hr
   unfold iz at hr
   simp only[List.mem_append,aXd] at hr
   rcases hr with(((hr|hr)|⟨m,hm,rfl⟩)|⟨n,hm,rfl⟩)|⟨n,hm,rfl⟩
   · split at hr
     · rw[List.mem_singleton.1 hr];exact aJv (by omega)
     · cases hr
   · split at hr
     · rw[List.mem_singleton.1 hr];exact aJw (by omega)
     · cases hr
   · have:=qR (n2 m hm)
     exact aJx (by decide) (by omega)
   · exact zl (by decide)
   · exact zl (by decide)
 · unfold eE;rw[if_neg hk];rfl
theorem sn: ∀{recs:List (List UInt8)},recs.all kK=true→(dE recs).length≤64*recs.length
 | [],_=>by simp[dE]
 |r::rs,h=>by
  simp only[List.all_cons,aW4] at h
  have e:dE (r::rs)=fW r++dE rs:=by simp[dE]
  have:=aGf h.1
  have ih:=sn h.2
  rw[e,aW0,aW3];omega
theorem aJy (k:bB): (dE (eE k)).length≤1664:=by
 have h1:=sn (sm (k:=k))
 have h2:=(nR (k:=k)).1
 omega
theorem aEs {recs:List (List UInt8)} (h:recs.all kK=true) (hl: (dE recs).length≤2400):dP (dE recs) (dE recs).length=true:=by
 have:=oJ h
 simp only[dP,iK,aW4,decide_eq_true_eq]
 exact⟨⟨⟨hl,by omega⟩,by rw[this]⟩,by rw[aWz,aXf,this]⟩
def tq (k:aH) (keep:Int):bB:=bM (cS (bZ k keep))
theorem aPw {k:aH} (hok:aT k=true) (h: (bU k).2=true):aT (bU k).1=true∧bM (bU k).1=bM k∧tq (bU k).1 0=bM k∧(bD (bU k).1.log).1=eE (bM k)∧(bU k).1.halves=k.halves:=by
 obtain⟨q1,q2,q3,q4,h2,h3,h4⟩:=fY.1 hok
 have hpk: (eE (bM k)).all kK=true∧(dE (eE (bM k))).length≤2400:=⟨sm,by have:=aJy (bM k);omega⟩
 have sp:=aEs hpk.1 hpk.2
 have hback:dS k.id (bD (dE (eE (bM k)))).1=(bM k,true):=by
  rw[oJ hpk.1,← aU9 hok];exact aPv (aVa hok) (aVb hok)
 have hu:k.up=true:=Classical.byContradiction fun hn=>by
  unfold bU at h
  rw[if_pos hok,if_neg (by simp[hn])] at h
  cases h
 have e:bU k=(kG k (dE (eE (bM k)),((dE (eE (bM k))).length:Int)),true):=by
  unfold bU
  rw[if_pos hok,← pN hok,xK q2 hpk,hu];rfl
 have hk:bC (kG k (dE (eE (bM k)),((dE (eE (bM k))).length:Int)))=(bM k,true):=hback
 have ho:aT (kG k (dE (eE (bM k)),((dE (eE (bM k))).length:Int)))=true:=fY.2 ⟨q1,sp,q3,q4,by rw[hk],by unfold zU kG;simp only;rw[aWz,aXf,hback],h4⟩
 rw[e]
 refine⟨ho,by rw[pN ho,hk],?_,?_,rfl⟩
 · unfold tq
   rw[sj ho rfl,pN ho,hk]
 · show(bD (dE _)).1=_
   rw[oJ hpk.1]
def KQ (k:aH):Prop:=k.log.length≤20000∧k.halves.length≤100∧ ∀x∈k.halves,x.got.length≤100
theorem jr.kq {k:aH} (h:jr k):KQ k:=⟨by have:=h.1;omega,by have:=h.2.1;omega,fun x hx=>by have:=h.2.2 x hx;omega⟩
theorem KQ.log {k:aH} (h:KQ k):k.log.length≤140737488355328:=by have:=h.1;omega
theorem KQ.idd {k:aH} (h:KQ k) (i:Int):KQ {k with id:=i}:=h
theorem KQ.upp {k:aH} (h:KQ k) (b:Bool):KQ {k with up:=b}:=h
theorem KQ.frc {k:aH} (h:KQ k) (f:Int):KQ {k with forced:=f}:=h
theorem KQ.shelf {k:aH} (h:KQ k) {l:List UInt8} (hl:l.length≤20000) (f:Int):KQ {k with log:=l,forced:=f}:=⟨hl,h.2⟩
theorem KQ.lgg {k:aH} (h:KQ k) {l:List UInt8} (hl:l.length≤20000):KQ {k with log:=l}:=⟨hl,h.2⟩
theorem KQ.half {k:aH} (h:jr k) {x:dT} (hx:x.got.length≤100):KQ {k with halves:=k.halves++[x]}:=
 ⟨by have:=h.1;show k.log.length≤_;omega,by have:=h.2.1;show(k.halves++[x]).length≤_;simp;omega,fun y hy=>by
  rcases List.mem_append.1 hy with hy|hy
  · have:=h.2.2 y hy;omega
  · rw[List.mem_singleton.1 hy];exact hx⟩
theorem KQ.zero:KQ .zero:=⟨by show(0:Nat)≤_;omega,by show(0:Nat)≤_;omega,fun _ hx=>nomatch hx⟩
theorem tZ (l:List UInt8) (f:Int): (eT l f).1.length≤l.length:=by
 unfold eT
 split
 · exact aXa _
 · exact aW6 _
theorem aKx {k:aH} (h:KQ k) (keep:Int):KQ (bZ k keep):=by
 unfold bZ
 split
 · rename_i hok
   have hlg:=eQ hok
   refine⟨?_,by show(0:Nat)≤_;omega,fun _ hx=>nomatch hx⟩
   show(fG k.log k.forced keep).1.length≤20000
   unfold fG
   split
   · show(k.log.take _).length≤_
     have:=h.1
     rw[aW5];omega
   · show(0:Nat)≤_;omega
 · exact KQ.zero
theorem aPx {k:aH} (h:aT k=true) (keep:Int): (bZ k keep).up=false∧(bZ k keep).halves=[]∧(bD (bZ k keep).log).1.length≤(bD k.log).1.length∧
 dS k.id ((bD k.log).1.take (bD (bZ k keep).log).1.length)=(bM (bZ k keep),true)∧aT (bZ k keep)=true:=by
 have hf:=tp h keep
 obtain⟨r1,r2,r3⟩:=fp k.log k.forced keep
 have e2:=aKw hf
 refine⟨by rw[uU h],by rw[uU h],by rw[uU h];exact r2.length_le,?_,hf⟩
 have e3: (bD (bZ k keep).log).1=(bD k.log).1.take (bD (bZ k keep).log).1.length:=by
  rw[uU h];exact List.prefix_iff_eq_take.1 r2
 rw[← e3,← e2,uU h]
 rfl
theorem aPy {k:aH} (h:aT k=true): (cS k).up=true∧bM (cS k)=bM k∧(cS k).log=k.log∧(cS k).forced=k.forced∧(k.up=true∨(cS k).halves=[]):=by
 have h4:=(fY.1 h).2.2.2.1
 have e:cS k={k with up:=true}:=by unfold cS;rw[if_pos h]
 refine⟨by rw[e],aHc h,by rw[e],by rw[e],?_⟩
 rcases h4 with h4|h4
 · exact .inl h4
 · exact .inr (by rw[e];exact List.length_eq_zero_iff.1 h4)
theorem aNg {k:aH} (h: (bX k).2=true):aT k=true∧(bX k).1.log=k.log∧bM (cS (bZ (bX k).1 0))=bM k∧(bX k).1.halves=k.halves:=by
 unfold bX at h ⊢
 split at h
 · rename_i hok
   rw[if_pos hok]
   split at h
   · cases h
   · rename_i hc
     rw[if_neg hc]
     have q2:=(fY.1 hok).2.1
     have e:=qk q2
     refine⟨hok,by rw[e],?_,by rw[e]⟩
     show bM (cS (bZ (jY k) 0))=_
     rw[sj (ql hok) (by rw[e]) 0,jo hok]
 · cases h
theorem nX {l:List UInt8} {f:Int} {rec:List UInt8} (h:l.length≤2400): (aZ l f rec).1.1.length≤2400:=by
 unfold aZ
 split
 · split
   · rename_i hc
     simp only[aW4,decide_eq_true_eq] at hc
     show(l++fW rec).length≤_
     rw[aW0];omega
   · exact h
 · show(0:Nat)≤_;omega
theorem so {l:List UInt8} {f:Int} {rec:List UInt8} (h:l.length≤20000): (aZ l f rec).1.1.length≤20000:=by
 unfold aZ
 split
 · split
   · rename_i hc
     simp only[aW4,decide_eq_true_eq] at hc
     show(l++fW rec).length≤_
     rw[aW0];omega
   · exact h
 · show(0:Nat)≤_;omega
structure yP (x k:aH):Prop where
 ok:aT x=true
 time: (bM x).time=(bM k).time
 next: (bM x).next=(bM k).next
theorem yP.refl {k:aH} (h:aT k=true):yP k k:=⟨h,rfl,rfl⟩
theorem yP.trans {a b c:aH} (h:yP a b) (g:yP b c):yP a c:=⟨h.ok,h.time.trans g.time,h.next.trans g.next⟩
theorem yP.halves {k:aH} {l:List dT} (hok:aT k=true) (hu:k.up=true) (hl:l.length≤3) (h:HOk l):yP (eB k l) k:=by
 have h2:=ml hok hu hl h
 have e:bM (eB k l)=bM k:=by rw[pN h2,pN hok];rfl
 exact⟨h2,by rw[e],by rw[e]⟩
theorem yP.forced {k:aH} (hok:aT k=true):yP (jY k) k:=⟨ql hok,by rw[jo hok],by rw[jo hok]⟩
theorem aVc {f:cH} {a:Int} (hf:eM f=true) (hk:f.kind=1) (ha:a=2∨a=3):eM (bx a f)=true∧(bx a f).src=f.dst∧(bx a f).dst=f.src:=by
 refine⟨?_,rfl,rfl⟩
 unfold eM at hf ⊢
 rw[if_pos hk] at hf
 simp only[aW4,decide_eq_true_eq] at hf
 obtain⟨⟨⟨⟨⟨⟨h1,h2⟩,h3⟩,h4⟩,h5⟩,h6⟩,⟨⟨h7,h8⟩,h9⟩,h10⟩:=hf
 have e1: ¬(bx a f).kind=1:=by show ¬a=1;omega
 have e2: (bx a f).kind=2∨(bx a f).kind=3:=ha
 rw[if_neg e1,if_pos e2]
 simp only[aW4,decide_eq_true_eq]
 exact⟨⟨⟨⟨⟨⟨h2,h1⟩,h3⟩,h4⟩,h5⟩,h6⟩,⟨⟨rfl,rfl⟩,rfl⟩,h10⟩
def aKy (k:aH) (f:cH) (r:aH×List cH):Prop:=
 yP r.1 k∧(∀g∈r.2,eM g=true∧g.src=k.id∧g.dst=f.src)∧r.2.length≤1
theorem aKy.nil {k x:aH} {f:cH} (h:yP x k):aKy k f (x,[]):=⟨h,fun _ hg=>(nomatch hg),aW6 _⟩
theorem aKy.one {k x:aH} {f:cH} {a:Int} (h:yP x k) (hf:eM f=true) (hk:f.kind=1) (hd:f.dst=k.id) (ha:a=2∨a=3):aKy k f (x,[bx a f]):=
 ⟨h,fun g hg=>by rw[List.mem_singleton.1 hg];obtain⟨q1,q2,q3⟩:=aVc hf hk ha;exact⟨q1,q2.trans hd,q3⟩,aXa _⟩
theorem zm {k:aH} {keep:Int} (h:k.log.length≤140737488355328): (bZ k keep).log.length≤140737488355328:=by
 unfold bZ
 split
 · show(fG k.log k.forced keep).1.length≤_
   unfold fG
   split
   · show(k.log.take _).length≤_
     rw[aW5];omega
   · exact aW6 _
 · exact aW6 _
theorem aHd {k:aH} (h:k.log.length≤140737488355328): (cS k).log.length≤140737488355328:=by
 unfold cS
 split
 · exact h
 · exact aW6 _
end Go.Ab
namespace Go.Proofs.YthbgjfegalcenaaGreatDoor
open Int renaming toNat_natCast→aWz
open List renaming length_append→aW0,length_nil→aW2,length_cons→aW3,length_take→aW5,getD_eq_getElem?_getD→aW7,getElem?_eq_getElem→aW8,length_drop→aW9,getElem?_eq_some_iff→aXb,range→aXc,mem_map→aXd,all_eq_true→aXe,take_length→aXf
open Nat renaming le_of_ble_eq_true→aW1,zero_le→aW6,le_refl→aXa
open Bool renaming and_eq_true→aW4
open Go Go.Ab Go.RowKit
set_option linter.unusedVariables false
set_option linter.unusedSimpArgs false
set_option maxRecDepth 9000
theorem tL {B:Nat} {ds:List D} (h:vS tab B 8 22 ds): ∃l:List UInt8,ds=[.sl (aA l)]∧l.length≤B:=by
 obtain⟨rows,rfl,h1,h2⟩:=h
 have h3: ∀r∈rows,r=[.u (Ab.byteOf r).toNat]:=fun r hr=>by
  obtain⟨n,rfl,hn⟩:=h2 r hr
  simp[Lit.wf,IntKind.min,IntKind.max,IntKind.signed,IntKind.bits] at hn
  simp[Ab.byteOf]
  omega
 refine⟨jP rows,?_,?_⟩
 · congr 2
   unfold jP aA
   rw[List.map_map]
   conv=>lhs;rw[← List.map_id rows]
   exact List.map_congr_left fun r hr=>h3 r hr
 have h1:rows.length*1≤B:=h1
 simpa[jP] using h1
theorem zn (l:List (List UInt8)) (hl:l.length≤100000):Sp 39 2 [tD 0 (.sl (aV l)),tD 1 (.sl (aV l))] [tB 0 true]:=by
 refine sb Tryz.func39 rfl (sq (rT [0,1] (s1 (sq (sq (rT [0,1,10] (s5 (cd rfl (fun c10=> ?_) fun c10=> ?_))))))))
 · simp at c10
 refine sk (sq (sq (rT [0,1,5] (s1 (bk (SW.loopW (n:=l.length) (fun n s=> ∃i:Nat,n=l.length - i∧i≤l.length∧s=[tD 0 (.sl (aV l)),tD 1 (.sl (aV l)),tI 5 (i:Nat)]) ?_ ?_))))))
 · exact wq (σ':=[tD 0 (.sl (aV l)),tD 1 (.sl (aV l)),tI 5 (0:Nat)]) [] [] (⟨0,rfl,aW6 _,rfl⟩) qz
 rintro n s ⟨i,rfl,hi,rfl⟩
 refine sq (sq (rT [0,1,5,14] (s4 (cd rfl (fun c14=> ?_) fun c14=> ?_))))
 · have hi2:i<l.length:=by simpa[aJ] using c14
   have hg:=fB (l:=l) hi2
   refine sk (sq (bk (sq (rD [0,1,5,25] (s2 (ai (by rw[aWz,hg];exact⟨⟨by omega,by rw[aJ];omega⟩,rfl⟩) (ai (by rw[aWz,hg];exact⟨aW1 rfl,rfl⟩) (s2 (ai (by rw[aWz,hg];exact⟨⟨by omega,by rw[aJ];omega⟩,rfl⟩) (ai (by rw[aWz,hg];exact⟨aW1 rfl,rfl⟩) (s1 (ai (by kernel_rfl) (cd rfl (fun c25=> ?_) fun c25=> ?_)))))))))))))
   · exact absurd c25 (by simp)
   refine sk (rT [0,1,5] (s3 (wq [] [] (⟨l.length - (i+1),by omega,i+1,rfl,by omega,rfl⟩) ?_)))
   repeat' apply ai
   all_goals first|exact qx|exact congrArg D.i (aC (by omega))|rfl|exact qz
 refine xt (sq (rT [4] (s1 (rt (bJ rfl ?_)))))
 rfl
set_option maxHeartbeats 3200000 in
theorem uA (l:List dT) (hl:l.length≤100000∧ ∀x∈l,x.got.length≤100000):Sp 35 2 [tD 0 (.sl (aX l)),tD 1 (.sl (aX l))] [tB 0 true]:=by
 refine sb Tryz.func35 rfl (sq (rT [0,1] (s1 (sq (sq (rT [0,1,11] (s5 (cd rfl (fun c11=> ?_) fun c11=> ?_))))))))
 · simp at c11
 refine sk (sq (sq (rT [0,1,5] (s1 (bk (SW.loopW (n:=l.length) (fun n s=> ∃i:Nat,n=l.length - i∧i≤l.length∧s=[tD 0 (.sl (aX l)),tD 1 (.sl (aX l)),tI 5 (i:Nat)]) ?_ ?_))))))
 · exact wq (σ':=[tD 0 (.sl (aX l)),tD 1 (.sl (aX l)),tI 5 (0:Nat)]) [] [] (⟨0,rfl,aW6 _,rfl⟩) qz
 rintro n s ⟨i,rfl,hi,rfl⟩
 refine sq (sq (rT [0,1,5,15] (s4 (cd rfl (fun c15=> ?_) fun c15=> ?_))))
 · have hi2:i<l.length:=by simpa[aG] using c15
   have hg:=gJ (l:=l) hi2
   have hmem:l.getD i .zero∈l:=dG hi2
   have hgl:=hl.2 _ hmem
   have hsl: (aQ9 ((List.drop 5 ((aX l).getD (Int.toNat (i:Int)) [])).getD 0 (.i 0)))=cM (l.getD i .zero).got:=by rw[aWz,hg];rfl
   refine sk (sq (bk (sq (sq (rD [0,1,5,95] (s2 (ai (by rw[aWz,hg];exact⟨⟨by omega,by rw[aG];omega⟩,rfl⟩) (s1 (ai (by rw[aWz,hg];exact⟨aW1 rfl,rfl⟩) (s2 (ai (by rw[aWz,hg];exact⟨⟨by omega,by rw[aG];omega⟩,rfl⟩) (s1 (ai (by rw[aWz,hg];exact⟨aW1 rfl,rfl⟩) (s2 (y2 (ai (fun h=>(by rw[aWz,hg];exact⟨⟨by omega,by rw[aG];omega⟩,rfl⟩)) (ai rk (y1 (ai (fun h=>(by rw[aWz,hg];exact⟨aW1 rfl,rfl⟩)) (ai rk (y2 (ai (fun h=>(by rw[aWz,hg];exact⟨⟨by omega,by rw[aG];omega⟩,rfl⟩)) (ai rk (y1 (ai (fun h=>(by rw[aWz,hg];exact⟨aW1 rfl,rfl⟩)) (ai rk (y1 (ai pk (s1 (y2 (ai (fun h=>(by rw[aWz,hg];exact⟨⟨by omega,by rw[aG];omega⟩,rfl⟩)) (ai rk (y1 (ai (fun h=>(by rw[aWz,hg];exact⟨aW1 rfl,rfl⟩)) (ai rk (y2 (ai (fun h=>(by rw[aWz,hg];exact⟨⟨by omega,by rw[aG];omega⟩,rfl⟩)) (ai rk (y1 (ai (fun h=>(by rw[aWz,hg];exact⟨aW1 rfl,rfl⟩)) (ai rk (y1 (ai pk (s1 (y2 (ai (fun h=>(by rw[aWz,hg];exact⟨⟨by omega,by rw[aG];omega⟩,rfl⟩)) (ai rk (y1 (ai (fun h=>(by rw[aWz,hg];exact⟨aW1 rfl,rfl⟩)) (ai rk (y2 (ai (fun h=>(by rw[aWz,hg];exact⟨⟨by omega,by rw[aG];omega⟩,rfl⟩)) (ai rk (y1 (ai (fun h=>(by rw[aWz,hg];exact⟨aW1 rfl,rfl⟩)) (ai rk (y1 (ai pk (s1 (y2 (ai (fun h=>(by rw[aWz,hg];exact⟨⟨by omega,by rw[aG];omega⟩,rfl⟩)) (ai rk (y1 (ai (fun h=>(by rw[aWz,hg];exact⟨aW1 rfl,rfl⟩)) (ai rk (y2 (ai (fun h=>(by rw[aWz,hg];exact⟨⟨by omega,by rw[aG];omega⟩,rfl⟩)) (ai rk (y1 (ai (fun h=>(by rw[aWz,hg];exact⟨aW1 rfl,rfl⟩)) (ai rk (y1 (ai pk (s1 (y2 (ai (fun h=>(by rw[aWz,hg];exact⟨⟨by omega,by rw[aG];omega⟩,rfl⟩)) (ai rk (y1 (ai (fun h=>(by rw[aWz,hg];exact⟨aW1 rfl,rfl⟩)) (ai rk (y3 (ai (fun h=>(by rw[aWz,hg];exact⟨⟨by omega,by rw[aG];omega⟩,rfl⟩)) (ai rk (y1 (ai (fun h=>(by rw[aWz,hg];exact⟨aW1 rfl,rfl⟩)) (ai rk (y2 (ai pk (ai (by kernel_rfl) (cd rfl (fun c95=> ?_) fun c95=> ?_))))))))))))))))))))))))))))))))))))))))))))))))))))))))))))))))))))))))))))))))))))))))))
   · exact absurd c95 (by simp[gb])
   refine sk (sq (rT [0,1,5,6] (s1 (bk (SW.loopW (n:=(l.getD i .zero).got.length) (fun n s=> ∃k:Nat,n=(l.getD i .zero).got.length - k∧k≤(l.getD i .zero).got.length∧s=[tD 0 (.sl (aX l)),tD 1 (.sl (aX l)),tI 5 (i:Nat),tI 6 (k:Nat)]) ?_ ?_)))))
   · exact wq (σ':=[tD 0 (.sl (aX l)),tD 1 (.sl (aX l)),tI 5 (i:Nat),tI 6 (0:Nat)]) [] [] (⟨0,rfl,aW6 _,rfl⟩) qz
   rintro n s ⟨k,rfl,hk,rfl⟩
   refine sq (sq (rT [0,1,5,6,103] (s3 (ai (by rw[aWz,hg];exact⟨⟨by omega,by rw[aG];omega⟩,rfl⟩) (s1 (ai (by rw[aWz,hg];exact⟨aW1 rfl,rfl⟩) (s2 (cd rfl (fun c103=> ?_) fun c103=> ?_))))))))
   · have hk2:k< (l.getD i .zero).got.length:=by rw[hsl,bG] at c103;simpa using c103
     have hg2:=mB (l:=(l.getD i .zero).got) hk2
     refine sk (sq (bk (sq (rD [0,1,5,6,122] (s2 (ai (by rw[aWz,hg];exact⟨⟨by omega,by rw[aG];omega⟩,rfl⟩) (s1 (ai (by rw[aWz,hg];exact⟨aW1 rfl,rfl⟩) (s1 (ai (by rw[hsl,aWz,hg2];exact⟨⟨by omega,by rw[bG];omega⟩,rfl⟩) (ai (by rw[hsl,aWz,hg2];exact⟨aW1 rfl,rfl⟩) (s2 (ai (by rw[aWz,hg];exact⟨⟨by omega,by rw[aG];omega⟩,rfl⟩) (s1 (ai (by rw[aWz,hg];exact⟨aW1 rfl,rfl⟩) (s1 (ai (by rw[hsl,aWz,hg2];exact⟨⟨by omega,by rw[bG];omega⟩,rfl⟩) (ai (by rw[hsl,aWz,hg2];exact⟨aW1 rfl,rfl⟩) (aIo cX (kT aQb.zero ((aQ9 ((List.drop 5 ((aX l).getD (Int.toNat (i:Int)) [])).getD 0 (.i 0))).getD (Int.toNat (k:Int)) []) 0) (kT aQb.zero ((aQ9 ((List.drop 5 ((aX l).getD (Int.toNat (i:Int)) [])).getD 0 (.i 0))).getD (Int.toNat (k:Int)) []) 0) rfl rfl rfl (by kernel_rfl) (by kernel_rfl) (by kernel_rfl) (by kernel_rfl) rfl rfl ?_)))))))))))))))))))
     refine ai (by kernel_rfl) (cd rfl (fun c122=> ?_) fun c122=> ?_)
     · exact absurd c122 (by simp[bu,eqD,kT,aC7])
     refine sk (rT [0,1,5,6] (s3 (wq [] [] (⟨(l.getD i .zero).got.length - (k+1),by omega,k+1,rfl,by omega,rfl⟩) ?_)))
     repeat' apply ai
     all_goals first|exact qx|exact congrArg D.i (aC (by omega))|rfl|exact qz
   refine xt (rT [0,1,5] (s3 (wq [] [] (⟨l.length - (i+1),by omega,i+1,rfl,by omega,rfl⟩) ?_)))
   repeat' apply ai
   all_goals first|exact qx|exact congrArg D.i (aC (by omega))|rfl|exact qz
 refine xt (sq (rT [4] (s1 (rt (bJ rfl ?_)))))
 rfl
set_option maxHeartbeats 1600000 in
theorem gP (k:aH) (hk:k.halves.length≤100000∧ ∀x∈k.halves,x.got.length≤100000):Sp 22 2 [tV 0 k.V,tV 1 k.V] [tB 0 true]:=by
 refine sb Tryz.func22 rfl (sq (rT [2,3] (s3 (sq (rT [4] (s6 (y4 (y1 (ai pk (s1 (y4 (aKg cX [.s k.log,.i k.forced] [.s k.log,.i k.forced] rfl rfl rfl (by kernel_rfl) (by kernel_rfl) (by kernel_rfl) (by kernel_rfl) rfl rfl rk (ai pk (s1 (y4 (xc (fun h=>uA k.halves hk) (ai rfl (ai rk ?_))))))))))))))))))
 refine ai pk (s1 (rt (bJ rfl (congrArg D.b ?_))))
 simp[bu,eqD]
set_option maxHeartbeats 1600000 in
theorem jp (k:aH) (hl:k.log.length≤140737488355328):Sp 33 1 [tV 0 k.V] [tV 0 (.tup [.agg [.d (.i ((bX k).1).id),.d (.b ((bX k).1).up),.d (.s ((bX k).1).log),.d (.i ((bX k).1).forced),.d (.sl (aX ((bX k).1).halves))],.c (.d (.b (bX k).2))])]:=by
 refine sb Tryz.func33 rfl (sq (rT [1,2] (s3 (sq (sq (rT [1,2,7] (s1 (xp (iV k hl) (ai rfl ?_)))))))))
 refine s1 (cd rfl (fun c7=> ?_) fun c7=> ?_)
 · have hno: ¬aT k=true:=oN c7
   refine sq (rT [2,3] (s3 (rt ?_)))
   have hr:bX k=(.zero,false):=if_neg hno
   refine rq [] [] rfl ?_
   repeat' apply ai
   all_goals try exact qx
   all_goals(first|with_reducible rfl|(rw[hr];done)|(rw[hr];rfl)|rfl)
 have hok:aT k=true:=iY c7
 have hlg:=eQ hok
 refine sk (sq (rT [1,2,4] (s1 (xp (rI k (⟨by omega,fun x hx=>by have:=hlg.2.2.2.2.2 x hx;omega⟩)) (ai rfl ?_)))))
 refine s2 (sq (sq (rT [2,4,23] (s4 (y4 (y4 (ai pk (cd rfl (fun c23=> ?_) fun c23=> ?_))))))))
 · refine sq (rT [2,3] (s3 (rt ?_)))
   have hr:bX k=(k,false):=by rw[bX,if_pos hok,if_pos c23]
   refine rq [] [] rfl ?_
   repeat' apply ai
   all_goals try exact qx
   all_goals(first|with_reducible rfl|(rw[hr];done)|(rw[hr];rfl)|rfl)
 refine sk (sq (rT [2,3] (s1 (xp (aA1 k (by omega)) (ai rfl ?_)))))
 refine s2 (rt ?_)
 have hr:bX k=(jY k,true):=by rw[bX,if_pos hok,if_neg (by rw[c23];decide)]
 refine rq [] [] rfl ?_
 repeat' apply ai
 all_goals try exact qx
 all_goals(first|with_reducible rfl|(rw[hr];done)|(rw[hr];rfl)|rfl)
theorem nh (k:aH) (hl:k.log.length≤900000):Ab.Spec Tryz.prog 15 1 [(.t 0,.v k.V)] [(.t 0,.v (bM k).V)]:=
 Spec.told (rl:=[]) (bor:=[900,901,902]) (aEo k hl) (dN rfl (aD rfl (aD rfl (aD rfl (rZ rfl rfl (aB _) rfl (rZ rfl rfl (aF _) rfl (rZ rfl rfl (aB _) rfl aL)))))) trivial) rfl rfl
set_option maxHeartbeats 800000 in
theorem gz (k:aH) (hl:k.log.length≤140737488355328):Sp 34 1 [tV 0 k.V] [tV 0 ((tq k 0).V)]:=by
 refine sb Tryz.func34 rfl (sq (rT [1,2] (s2 (sq (rT [2] (s1 (xp (rM k 0 hl) (ai rfl ?_))))))))
 refine xp (wW (bZ k 0) (zm hl)) (ai rfl ?_)
 refine xp (fM (cS (bZ k 0)) (aHd (zm hl))) (ai rfl ?_)
 exact s1 (rt (rq [] [] rfl qz))
theorem aTf (l:List UInt8) (p:Int) (rs:List (List UInt8)) (hr:1≤rs.length) (hp:0≤p∧p≤1000000) (hl:l.length≤2000):Sp 134 2 [tP 0 0,tO 1 5 rs.length,oB 0 137 [.d (.sl (aA l)),.d (.i (p))],oR 5 9 1 (aV (rs))] [tD 0 (.s (rs.getD (bL l p (rs.length:Int)).toNat [])),oB 0 137 [.d (.sl (aA l)),.d (.i (p+1))],oR 5 9 1 (aV (rs))]:=by
 have hv:=cD l (p:=p) (n:=(rs.length:Int)) hp (by omega)
 refine sb Tryz.func134 rfl (sq (rT [0,1] (s1 (sq (rT [4] (s3 (ai (by exact aJ _) (bE (robj:=[(0,.box 137 [.d (.sl (aA (l))),.d (.i (p))])]) (rl:=[(0,0)]) (bor:=[]) (cL (l) (p) _ (by omega) hl) rfl rfl rfl rfl ⟨bR rfl rfl rfl rfl (cJ rfl rfl (aU rfl (aD rfl (aD rfl aL)) trivial)),rfl⟩ rfl (.inl rfl) (aK ⟨rfl,trivial⟩) (fun _ hj=>nomatch hj) (ai (by exact⟨aJ _,hv.1,hv.2⟩) (ai (oldS (by omega) rfl) (s1 (rt (rq [] [] rfl ?_)))))))))))))
 repeat' apply ai
 all_goals try exact qx
 all_goals first|with_reducible rfl|(rw[fB (by omega)];rfl)|rfl
set_option maxHeartbeats 1600000 in
theorem zo (l:List UInt8) (p:Int) (tx:List UInt8) (hp:0≤p∧p≤790000) (hl:l.length≤2000) (htx:tx.length≤10000):nj 163 2 [tP 0 0,tD 1 (.s tx),oB 0 137 [.d (.sl (aA l)),.d (.i (p))]] (fun s=> ∃(x:List UInt8) (q:Int),(p≤q∧q≤p+10∧x.length≤2*tx.length+1)∧s=[tD 0 (.s x),oB 0 137 [.d (.sl (aA l)),.d (.i (q))]]):=by
 have hall1: ∀y∈([[32],[48],[45],[49],[120],[58],[59]]:List (List UInt8)),y.length≤1:=by decide
 have hall2: ∀y∈([[57],[45],[59],[32],[10]]:List (List UInt8)),y.length≤1:=by decide
 refine pj Tryz.func163 rfl (sq (rT [0,1] (s1 (sq (SW.midW (fun s=> ∃(cb:Bool) (q2:Int),(p≤q2∧q2≤p+1∧(cb=false→1≤tx.length))∧s=[tP 0 0,tD 1 (.s tx),tB 13 cb,oB 0 137 [.d (.sl (aA l)),.d (.i (q2))]]) ?_ ?_)))))
 · refine rF [0,1,13] (s1 (s1 (s1 (s1 (ai (fun h1=> ?_) (fun h1=> ?_))))))
   · refine s1 (ai (fun _=> ?_) (fun h=>absurd h (by rw[h1];simp)))
     refine iA (bE (robj:=[(0,.box 137 [.d (.sl (aA (l))),.d (.i (p))])]) (rl:=[(0,0)]) (bor:=[]) (cL (l) (p) _ (by omega) hl) rfl rfl rfl rfl ⟨bR rfl rfl rfl rfl (cJ rfl rfl (aU rfl (aD rfl (aD rfl aL)) trivial)),rfl⟩ rfl (.inl rfl) (aK ⟨rfl,trivial⟩) (fun _ hj=>nomatch hj) (ai (fun _=> ?_) (fun h=>absurd h (by rw[h1];simp))))
     refine s1 (ai pk (wq [] [] ⟨?c1,p+1,⟨by omega,by omega,?e1⟩,rfl⟩ ?_))
     repeat' apply ai
     all_goals try exact qx
     all_goals try rfl
     all_goals(intro _;have h2: ¬tx=[]:=(by simpa[gb] using h1);have:=List.length_pos_iff.2 h2;omega)
   refine⟨I 0,?_⟩
   refine ai (fun h=>absurd h (by rw[h1];simp)) (fun _=>⟨I 0,?_⟩)
   refine ai (fun h=>absurd h (by rw[h1];simp)) (fun _=>⟨B false,?_⟩)
   refine ai (by constructor<;>intro h<;>first|trivial|(simp[gb,h] at h1;done)) (wq [] [] ⟨?d1,p,⟨by omega,by omega,?f1⟩,rfl⟩ ?_)
   repeat' apply ai
   all_goals try exact qx
   all_goals try rfl
   all_goals(intro h;have h2:tx=[]:=(by simpa[gb] using h1);simp[h2] at h)
 rintro s ⟨cb,q2,hq2,rfl⟩
 refine cd rfl (fun c13=> ?_) fun c13=> ?_
 · refine sq (rT [4] (s2 (rt (cU _ ⟨?za2,q2,⟨by omega,by omega,?zn2⟩,rfl⟩ (eC _ [] [] rfl ?_ rfl rfl)))))
   all_goals try(refine qs ?_;(repeat' first|exact qx|apply ai))
   try any_goals with_reducible rfl
   try any_goals rfl
   all_goals((try simp only[aW0,aW5,aW9]);omega)
 have htl:=hq2.2.2 c13
 refine sk (sq ?_)
 obtain⟨i,hi,hil⟩: ∃i:Nat,bL l q2 (tx.length:Int)=(i:Int)∧i<tx.length:=by have:=cD l (p:=q2) (n:=(tx.length:Int)) (by omega) (by omega);exact⟨(bL l q2 (tx.length:Int)).toNat,by omega,by omega⟩
 refine rT [0,1,5] (s3 (bE (robj:=[(0,.box 137 [.d (.sl (aA (l))),.d (.i (q2))])]) (rl:=[(0,0)]) (bor:=[]) (cL (l) (q2) _ (by omega) hl) rfl rfl rfl rfl ⟨bR rfl rfl rfl rfl (cJ rfl rfl (aU rfl (aD rfl (aD rfl aL)) trivial)),rfl⟩ rfl (.inl rfl) (aK ⟨rfl,trivial⟩) (fun _ hj=>nomatch hj) (s1 (sq (sq (wa [tP 0 0,tD 1 (.s tx),tI 5 (i:Nat),oB 0 137 [.d (.sl (aA l)),.d (.i (q2+1))]] [] [] ?_ ?_))))))
 · repeat' apply ai
   all_goals first|exact qx|exact congrArg D.i hi|rfl|exact qz
 have hwi:wrap64 ((i:Int)+1)=(i:Int)+1:=aC (by omega)
 refine rT [0,1,5,20] (s1 (bE (robj:=[(0,.box 137 [.d (.sl (aA (l))),.d (.i (q2+1))])]) (rl:=[(0,0)]) (bor:=[]) (cL (l) (q2+1) _ (by omega) hl) rfl rfl rfl rfl ⟨bR rfl rfl rfl rfl (cJ rfl rfl (aU rfl (aD rfl (aD rfl aL)) trivial)),rfl⟩ rfl (.inl rfl) (aK ⟨rfl,trivial⟩) (fun _ hj=>nomatch hj) (bk (sq (rT [0,1,5,20,21] (ai (by first|trivial|(show _≤9223372036854775807;(try simp only[aW0,aW3,aW2,aW5,aW9]);omega)) (s1 (cd rfl (fun c21=> ?_) fun c21=> ?_))))))))
 · refine sq (rD [4] (s2 (ai (by(try rw[hwi]);simp[qp,eY,gI] at *; omega) (s2 (ai (by first|trivial|(show _≤9223372036854775807;(try simp only[aW0,aW3,aW2,aW5,aW9]);omega)) (ai (by(try rw[hwi]);simp[qp,eY,gI] at *; omega) (ai (by first|trivial|(show _≤9223372036854775807;(try simp only[aW0,aW3,aW2,aW5,aW9]);omega)) (s1 (ai (by kernel_rfl) (rt (cU _ ⟨?za3,q2+1+1,⟨by omega,by omega,?zn3⟩,rfl⟩ (eC _ [] [] rfl ?_ rfl rfl))))))))))))
   all_goals try(refine qs ?_;(repeat' first|exact qx|apply ai))
   try any_goals with_reducible rfl
   try any_goals rfl
   all_goals((try simp only[aW0,aW5,aW9]);omega)
 refine sq (rT [0,1,5,20,31] (ai (by first|trivial|(show _≤9223372036854775807;(try simp only[aW0,aW3,aW2,aW5,aW9]);omega)) (s1 (cd rfl (fun c31=> ?_) fun c31=> ?_))))
 · refine sq ?_
   have ho:=hall1 (([[32],[48],[45],[49],[120],[58],[59]]:List (List UInt8)).getD (bL l (q2+1+1) (([[32],[48],[45],[49],[120],[58],[59]]:List (List UInt8)).length:Int)).toNat []) (dG (by have:=cD l (p:=q2+1+1) (n:=7) (by omega) (by omega);simp;omega))
   have ho2:=ho
   simp only[aW3,aW2] at ho2
   refine rD [4] (s2 (ai (by(try rw[hwi]);simp[qp,eY,gI] at *; omega) (s1 (ai (by exact⟨by simp,by decide⟩) (bE (robj:=[(0,.box 137 [.d (.sl (aA l)),.d (.i (q2+1+1))]),(37,.row 9 1 (aV ([[32],[48],[45],[49],[120],[58],[59]]:List (List UInt8))))]) (rl:=[(0,0),(5,37)]) (bor:=[]) (aTf l (q2+1+1) ([[32],[48],[45],[49],[120],[58],[59]]:List (List UInt8)) (by simp) (by omega) hl) rfl rfl rfl rfl ⟨bR rfl rfl rfl rfl (jD rfl rfl rfl rfl (aU rfl (aD rfl (aD rfl aL)) (bV rfl rfl trivial))),rfl⟩ rfl (.inl rfl) (aK ⟨rfl,rfl,trivial⟩) (fun j hj=>nomatch hj) (ai (by first|trivial|(show _≤9223372036854775807;(try simp only[aW0,aW3,aW2,aW5,aW9]);omega)) (s2 (ai (by(try rw[hwi]);simp[qp,eY,gI] at *; omega) (ai (by first|trivial|(show _≤9223372036854775807;(try simp only[aW0,aW3,aW2,aW5,aW9]);omega)) (s1 (ai (by kernel_rfl) (rt (cU _ ⟨?za4,q2+1+1+1,⟨by omega,by omega,?zn4⟩,rfl⟩ (eC _ [] [] rfl ?_ rfl rfl))))))))))))))
   all_goals try(refine qs ?_;(repeat' first|exact qx|apply ai))
   try any_goals with_reducible rfl
   try any_goals rfl
   all_goals((try simp only[aW0,aW5,aW9]);omega)
 refine sq (rT [0,1,5,20,44] (ai (by first|trivial|(show _≤9223372036854775807;(try simp only[aW0,aW3,aW2,aW5,aW9]);omega)) (s1 (cd rfl (fun c44=> ?_) fun c44=> ?_))))
 · refine sq ?_
   have ho:=hall2 (([[57],[45],[59],[32],[10]]:List (List UInt8)).getD (bL l (q2+1+1) (([[57],[45],[59],[32],[10]]:List (List UInt8)).length:Int)).toNat []) (dG (by have:=cD l (p:=q2+1+1) (n:=5) (by omega) (by omega);simp;omega))
   have ho2:=ho
   simp only[aW3,aW2] at ho2
   refine rD [4] (s2 (ai (by(try rw[hwi]);simp[qp,eY,gI] at *; omega) (s1 (ai (by exact⟨by simp,by decide⟩) (bE (robj:=[(0,.box 137 [.d (.sl (aA l)),.d (.i (q2+1+1))]),(50,.row 9 1 (aV ([[57],[45],[59],[32],[10]]:List (List UInt8))))]) (rl:=[(0,0),(5,50)]) (bor:=[]) (aTf l (q2+1+1) ([[57],[45],[59],[32],[10]]:List (List UInt8)) (by simp) (by omega) hl) rfl rfl rfl rfl ⟨bR rfl rfl rfl rfl (jD rfl rfl rfl rfl (aU rfl (aD rfl (aD rfl aL)) (bV rfl rfl trivial))),rfl⟩ rfl (.inl rfl) (aK ⟨rfl,rfl,trivial⟩) (fun j hj=>nomatch hj) (ai (by first|trivial|(show _≤9223372036854775807;(try simp only[aW0,aW3,aW2,aW5,aW9]);omega)) (s2 (ai (by first|trivial|(show _≤9223372036854775807;(try simp only[aW0,aW3,aW2,aW5,aW9]);omega)) (ai (by(try rw[hwi]);simp[qp,eY,gI] at *; omega) (ai (by first|trivial|(show _≤9223372036854775807;(try simp only[aW0,aW3,aW2,aW5,aW9]);omega)) (s1 (ai (by kernel_rfl) (rt (cU _ ⟨?za5,q2+1+1+1,⟨by omega,by omega,?zn5⟩,rfl⟩ (eC _ [] [] rfl ?_ rfl rfl)))))))))))))))
   all_goals try(refine qs ?_;(repeat' first|exact qx|apply ai))
   try any_goals with_reducible rfl
   try any_goals rfl
   all_goals((try simp only[aW0,aW5,aW9]);omega)
 refine sq (rT [1,5,58] (ai (by first|trivial|(show _≤9223372036854775807;(try simp only[aW0,aW3,aW2,aW5,aW9]);omega)) (s1 (cd rfl (fun c58=> ?_) fun c58=> ?_))))
 · refine sq (rT [4] (s2 (ai (by first|trivial|(show _≤9223372036854775807;(try simp only[aW0,aW3,aW2,aW5,aW9]);omega)) (s1 (rt (cU _ ⟨?za6,q2+1+1,⟨by omega,by omega,?zn6⟩,rfl⟩ (eC _ [] [] rfl ?_ rfl rfl)))))))
   all_goals try(refine qs ?_;(repeat' first|exact qx|apply ai))
   try any_goals with_reducible rfl
   try any_goals rfl
   all_goals((try simp only[aW0,aW5,aW9]);omega)
 refine sk (sq (rT [4] (s2 (ai (by(try rw[hwi]);simp[qp,eY,gI] at *; omega) (s1 (rt (cU _ ⟨?za7,q2+1+1,⟨by omega,by omega,?zn7⟩,rfl⟩ (eC _ [] [] rfl ?_ rfl rfl))))))))
 all_goals try(refine qs ?_;(repeat' first|exact qx|apply ai))
 try any_goals with_reducible rfl
 try any_goals rfl
 all_goals((try simp only[aW0,aW5,aW9]);omega)
set_option maxHeartbeats 3200000 in
theorem tg (l:List UInt8) (p:Int) (hp:0≤p∧p≤780000) (hl:l.length≤2000):nj 119 1 [tP 0 0,oB 0 137 [.d (.sl (aA l)),.d (.i (p))]] (fun s=> ∃(lg:List UInt8) (fr q:Int),(lg.length≤20000∧p≤q∧q≤p+1500)∧s=[tV 0 (.e (.agg [.d (.s lg),.d (.i fr)])),oB 0 137 [.d (.sl (aA l)),.d (.i (q))]]):=by
 refine pj Tryz.func119 rfl (sq (rT [0,2] (s1 (sq (rT [0,2,3] (s3 (sq (sq (rT [0,2,3,4] (s1 (bE (robj:=[(0,.box 137 [.d (.sl (aA (l))),.d (.i (p))])]) (rl:=[(0,0)]) (bor:=[]) (cL (l) (p) _ (by omega) hl) rfl rfl rfl rfl ⟨bR rfl rfl rfl rfl (cJ rfl rfl (aU rfl (aD rfl (aD rfl aL)) trivial)),rfl⟩ rfl (.inl rfl) (aK ⟨rfl,trivial⟩) (fun _ hj=>nomatch hj) (s1 (bk ?_)))))))))))))
 obtain⟨n0,hn0,hn9⟩: ∃n0:Nat,bL l p 9=(n0:Int)∧n0≤8:=by have:=cD l (p:=p) (n:=9) (by omega) (by omega);exact⟨(bL l p 9).toNat,by omega,by omega⟩
 refine SW.loopW (n:=n0) (fun x s=> ∃(lg:List UInt8) (fr q:Int),(x≤n0∧lg.length≤2400∧p+1≤q∧q≤p+1+131*(n0 - x:Nat))∧s=[tP 0 0,tP 2 2,tP 3 3,tI 4 (x:Nat),oB 0 137 [.d (.sl (aA l)),.d (.i (q))],oB 2 24 [.d (.s ([])),.d (.i (0))],oB 3 24 [.d (.s (lg)),.d (.i (fr))]]) ?_ ?_
 · refine wq [] [] ⟨[],0,p+1,⟨by omega,by simp,by omega,by omega⟩,rfl⟩ ?_
   repeat' apply ai
   all_goals try exact qx
   all_goals try rfl
   all_goals exact congrArg D.i hn0
 rintro n s ⟨lg,fr,q,⟨hxn,hlg,hq⟩,rfl⟩
 refine sq (sq (rT [0,2,3,4,10] (s1 (ai (by first|trivial|(show _≤9223372036854775807;(try simp only[aW0,aW3,aW2,aW5,aW9]);omega)) (cd rfl (fun c10=> ?_) fun c10=> ?_)))))
 · have hn1:0<n:=by simp at c10;omega
   refine sk (sq (bk (sq (SW.regDE cX mo [0,2,3,4] 2 (fun _=>none) rfl rfl (by kernel_rfl) ?_))))
   refine s2 (er (robj:=[(0,.box 137 [.d (.sl (aA l)),.d (.i (q))])]) (rl:=[(0,0)]) (bor:=[]) (news:=[]) (gy l q (by omega) hl) rfl rfl rfl rfl ⟨bR rfl rfl rfl rfl (aU rfl (aD rfl (aD rfl aL)) trivial),rfl⟩ (by rintro _ ⟨x,q9,hx,rfl⟩;exact⟨rfl,.inl rfl,fun j hj=>nomatch hj⟩) (aK ⟨rfl,trivial⟩) (fun j hj=>nomatch hj) ⟨_,[],q,⟨by omega,by omega,by simp⟩,rfl⟩ ?_)
   rintro _ ⟨x,q9,hx,rfl⟩
   refine xp (mX lg fr x (by omega) (by omega)) (ai rfl ?_)
   refine s1 (s8 (ai (by kernel_rfl) (sq (rT [0,2,3,4,22] (s1 (bE (robj:=[(0,.box 137 [.d (.sl (aA (l))),.d (.i (q9))])]) (rl:=[(0,0)]) (bor:=[]) (cL (l) (q9) _ (by omega) hl) rfl rfl rfl rfl ⟨bR rfl rfl rfl rfl (cJ rfl rfl (aU rfl (aD rfl (aD rfl aL)) trivial)),rfl⟩ rfl (.inl rfl) (aK ⟨rfl,trivial⟩) (fun _ hj=>nomatch hj) (ai (by first|trivial|(show _≤9223372036854775807;(try simp only[aW0,aW3,aW2,aW5,aW9]);omega)) (cd rfl (fun c22=> ?_) fun c22=> ?_))))))))
   · refine rT [0,2,3,4] (s1 (xp (iT (aZ lg fr x).1.1 (aZ lg fr x).1.2 (by have:=nX (f:=fr) (rec:=x) hlg;omega)) (ai rfl ?_)))
     refine s1 (rT [0,2,3,4] (s1 (ai (by first|trivial|(show _≤9223372036854775807;(try simp only[aW0,aW3,aW2,aW5,aW9]);omega)) (s1 ?_))))
     first
     |(refine wq (σ':=[tP 0 0,tP 2 2,tP 3 3,tI 4 (n - 1:Nat),oB 0 137 [.d (.sl (aA l)),.d (.i ((q9+1)))],oB 2 24 [.d (.s ([])),.d (.i (0))],oB 3 24 [.d (.s ((eT (aZ lg fr x).1.1 (aZ lg fr x).1.2).1)),.d (.i ((eT (aZ lg fr x).1.1 (aZ lg fr x).1.2).2))]]) [] [] (⟨n - 1,by omega,(eT (aZ lg fr x).1.1 (aZ lg fr x).1.2).1,(eT (aZ lg fr x).1.1 (aZ lg fr x).1.2).2,q9+1,⟨by omega,Nat.le_trans (tZ _ _) (nX hlg),by omega,by omega⟩,rfl⟩) ?_
       repeat' apply ai
       all_goals first|exact qx|(refine congrArg D.i ?_;rw[aC (by omega)];omega)|rfl|exact qz)
     |(refine wq [] [] (⟨n - 1,by omega,(aZ lg fr x).1.1,(aZ lg fr x).1.2,q9+1,⟨by omega,nX hlg,by omega,by omega⟩,rfl⟩) ?_
       repeat' apply ai
       all_goals first|exact qx|(refine congrArg D.i ?_;rw[aC (by omega)];omega)|rfl|exact qz)
   refine sk (rT [0,2,3,4] (s1 (ai (by first|trivial|(show _≤9223372036854775807;(try simp only[aW0,aW3,aW2,aW5,aW9]);omega)) (s1 ?_))))
   first
   |(refine wq (σ':=[tP 0 0,tP 2 2,tP 3 3,tI 4 (n - 1:Nat),oB 0 137 [.d (.sl (aA l)),.d (.i ((q9+1)))],oB 2 24 [.d (.s ([])),.d (.i (0))],oB 3 24 [.d (.s ((eT (aZ lg fr x).1.1 (aZ lg fr x).1.2).1)),.d (.i ((eT (aZ lg fr x).1.1 (aZ lg fr x).1.2).2))]]) [] [] (⟨n - 1,by omega,(eT (aZ lg fr x).1.1 (aZ lg fr x).1.2).1,(eT (aZ lg fr x).1.1 (aZ lg fr x).1.2).2,q9+1,⟨by omega,Nat.le_trans (tZ _ _) (nX hlg),by omega,by omega⟩,rfl⟩) ?_
     repeat' apply ai
     all_goals first|exact qx|(refine congrArg D.i ?_;rw[aC (by omega)];omega)|rfl|exact qz)
   |(refine wq [] [] (⟨n - 1,by omega,(aZ lg fr x).1.1,(aZ lg fr x).1.2,q9+1,⟨by omega,nX hlg,by omega,by omega⟩,rfl⟩) ?_
     repeat' apply ai
     all_goals first|exact qx|(refine congrArg D.i ?_;rw[aC (by omega)];omega)|rfl|exact qz)
 refine xt (SW.midW (fun s=> ∃(lh:List UInt8) (fg q2:Int),(lh.length≤20000∧q≤q2∧q2≤q+100)∧s=[tP 2 2,tP 3 3,oB 0 137 [.d (.sl (aA l)),.d (.i (q2))],oB 2 24 [.d (.s ([])),.d (.i (0))],oB 3 24 [.d (.s (lh)),.d (.i (fg))]]) ?_ ?_)
 · refine sq (rT [0,2,3,26] (s1 (bE (robj:=[(0,.box 137 [.d (.sl (aA (l))),.d (.i (q))])]) (rl:=[(0,0)]) (bor:=[]) (cL (l) (q) _ (by omega) hl) rfl rfl rfl rfl ⟨bR rfl rfl rfl rfl (cJ rfl rfl (aU rfl (aD rfl (aD rfl aL)) trivial)),rfl⟩ rfl (.inl rfl) (aK ⟨rfl,trivial⟩) (fun _ hj=>nomatch hj) (bk (sq (rT [0,2,3,26,27] (ai (by first|trivial|(show _≤9223372036854775807;(try simp only[aW0,aW3,aW2,aW5,aW9]);omega)) (s1 (cd rfl (fun c27=> ?_) fun c27=> ?_)))))))))
   · refine rE [2,3] (s3 (cQ (robj:=[(0,.box 137 [.d (.sl (aA l)),.d (.i (q+1))])]) (rl:=[(0,0)]) (bor:=[]) (news:=[]) (zo l (q+1) lg (by omega) hl (by omega)) rfl rfl rfl rfl ⟨bR rfl rfl rfl rfl (cJ rfl rfl (aU rfl (aD rfl (aD rfl aL)) trivial)),rfl⟩ (by rintro _ ⟨y,q4,hy,rfl⟩;exact⟨rfl,.inl rfl,fun j hj=>nomatch hj⟩) (aK ⟨rfl,trivial⟩) (fun j hj=>nomatch hj) ?_))
     rintro _ ⟨y,q4,hy,rfl⟩
     refine s2 ?_
     first
     |(exact wq [] [] (⟨y,fr,q4,⟨by omega,by omega,by omega⟩,rfl⟩) qz)
     |(exact wq [] [] (⟨lh,fr,(q5+1),⟨by omega,by omega,by omega⟩,rfl⟩) qz)
     |(exact wq [] [] (⟨lg,fr,(q+1),⟨by omega,by omega,by omega⟩,rfl⟩) qz)
     |(exact wq [] [] (⟨lg,?fz8,q+1+1+1,⟨by omega,by omega,by omega⟩,rfl⟩) qz)
   refine sq (rT [0,2,3,26,34] (ai (by first|trivial|(show _≤9223372036854775807;(try simp only[aW0,aW3,aW2,aW5,aW9]);omega)) (s1 (cd rfl (fun c34=> ?_) fun c34=> ?_))))
   · have hv:=cD l (p:=q+1+1) (n:=3) (by omega) (by omega)
     refine rD [2,3] (s3 (ai (by first|trivial|(show _≤9223372036854775807;(try simp only[aW0,aW3,aW2,aW5,aW9]);omega)) (s4 (ai (by first|trivial|(show _≤9223372036854775807;(try simp only[aW0,aW3,aW2,aW5,aW9]);omega)) (bE (robj:=[(0,.box 137 [.d (.sl (aA (l))),.d (.i (q+1))])]) (rl:=[(0,0)]) (bor:=[]) (cL (l) (q+1) _ (by omega) hl) rfl rfl rfl rfl ⟨bR rfl rfl rfl rfl (cJ rfl rfl (aU rfl (aD rfl (aD rfl aL)) trivial)),rfl⟩ rfl (.inl rfl) (aK ⟨rfl,trivial⟩) (fun _ hj=>nomatch hj) (ai (by exact⟨by simp,aW1 rfl⟩) (s1 (bE (robj:=[(0,.box 137 [.d (.sl (aA (l))),.d (.i (q+1+1))])]) (rl:=[(0,0)]) (bor:=[]) (cL (l) (q+1+1) _ (by omega) hl) rfl rfl rfl rfl ⟨bR rfl rfl rfl rfl (cJ rfl rfl (aU rfl (aD rfl (aD rfl aL)) trivial)),rfl⟩ rfl (.inl rfl) (aK ⟨rfl,trivial⟩) (fun _ hj=>nomatch hj) ?_))))))))
     refine ai ⟨rfl,hv.1,hv.2⟩ (ai (aDk (l:=[-1,wrap64 (((lg.length:Nat):Int)+1),bL l (q+1) (wrap64 (((lg.length:Nat):Int)+1))]) (by simp;omega) rfl) (s2 (ai (by kernel_rfl) ?_)))
     first
     |(exact wq [] [] (⟨y,fr,q4,⟨by omega,by omega,by omega⟩,rfl⟩) qz)
     |(exact wq [] [] (⟨lh,fr,(q5+1),⟨by omega,by omega,by omega⟩,rfl⟩) qz)
     |(exact wq [] [] (⟨lg,fr,(q+1),⟨by omega,by omega,by omega⟩,rfl⟩) qz)
     |(exact wq [] [] (⟨lg,?fz9,q+1+1+1,⟨by omega,by omega,by omega⟩,rfl⟩) qz)
   refine sq (rT [0,2,3,52] (ai (by first|trivial|(show _≤9223372036854775807;(try simp only[aW0,aW3,aW2,aW5,aW9]);omega)) (s1 (cd rfl (fun c52=> ?_) fun c52=> ?_))))
   · refine sq (rT [0,2,3,5] (s1 (bk (SW.loopW (n:=41) (fun x s=> ∃(i:Nat) (lh:List UInt8) (q5:Int),x=41 - i∧(i≤40∧lh.length≤2400+70*i∧q+1≤q5∧q5≤q+1+2*i)∧s=[tP 0 0,tP 2 2,tP 3 3,tI 5 (i:Nat),oB 0 137 [.d (.sl (aA l)),.d (.i (q5))],oB 2 24 [.d (.s ([])),.d (.i (0))],oB 3 24 [.d (.s (lh)),.d (.i (fr))]]) ?_ ?_))))
     · refine wq [] [] ⟨0,lg,q+1,rfl,⟨by omega,by omega,by omega,by omega⟩,rfl⟩ ?_
       repeat' apply ai
       all_goals try exact qx
       all_goals try rfl
     rintro n s ⟨i,lh,q5,rfl,⟨hi,hlh,hq5⟩,rfl⟩
     have hp2:=cD l (p:=q5) (n:=3) (by omega) (by omega)
     refine sq (sq (rT [0,2,3,5,58] (s2 (bE (robj:=[(0,.box 137 [.d (.sl (aA (l))),.d (.i (q5))])]) (rl:=[(0,0)]) (bor:=[]) (cL (l) (q5) _ (by omega) hl) rfl rfl rfl rfl ⟨bR rfl rfl rfl rfl (cJ rfl rfl (aU rfl (aD rfl (aD rfl aL)) trivial)),rfl⟩ rfl (.inl rfl) (aK ⟨rfl,trivial⟩) (fun _ hj=>nomatch hj) (ai (by first|trivial|(show _≤9223372036854775807;(try simp only[aW0,aW3,aW2,aW5,aW9]);omega)) (ai (by first|trivial|(show _≤9223372036854775807;(try simp only[aW0,aW3,aW2,aW5,aW9]);omega)) (cd rfl (fun c58=> ?_) fun c58=> ?_)))))))
     · have hi3:i<40:=by have h9:=of_decide_eq_true c58;rw[aC (by omega)] at h9;omega
       refine sk (sq (bk (SW.regDE cX mo [0,2,3,5] 5 (fun _=>none) rfl rfl (by kernel_rfl) ?_)))
       refine s3 (bE (robj:=[(0,.box 137 [.d (.sl (aA (l))),.d (.i (q5+1))])]) (rl:=[(0,0)]) (bor:=[]) (cL (l) (q5+1) _ (by omega) hl) rfl rfl rfl rfl ⟨bR rfl rfl rfl rfl (cJ rfl rfl (aU rfl (aD rfl (aD rfl aL)) trivial)),rfl⟩ rfl (.inl rfl) (aK ⟨rfl,trivial⟩) (fun _ hj=>nomatch hj) (ai (by first|trivial|(show _≤9223372036854775807;(try simp only[aW0,aW3,aW2,aW5,aW9]);omega)) ?_))
       have hp3:=cD l (p:=q5+1) (n:=3) (by omega) (by omega)
       refine er (robj:=[]) (rl:=[]) (bor:=[]) (news:=[]) (oZ [102] (wrap64 (58+bL l (q5+1) 3)) rfl (by rw[aC (by omega)];omega)) rfl rfl rfl rfl ⟨cJ rfl rfl (cJ rfl rfl trivial),rfl⟩ (by rintro _ ⟨x1,hx1,rfl⟩;exact⟨rfl,.inl rfl,fun j hj=>nomatch hj⟩) (fun p hp=>nomatch hp) (fun j hj=>nomatch hj) ⟨_,[],by simp,rfl⟩ ?_
       rintro _ ⟨x1,hx1,rfl⟩
       rw[aC (n:=58+bL l (q5+1) 3) (by omega)] at hx1
       have hst:=pU (rec:=x1) (by omega)
       refine xp (oY x1 (by omega)) (ai rfl ?_)
       refine s1 (ai (by first|trivial|(show _≤9223372036854775807;(try simp only[aW0,aW3,aW2,aW5,aW9]);omega)) (s5 (ai (by kernel_rfl) (rT [0,2,3,5] (s1 (ai (by first|trivial|(show _≤9223372036854775807;(try simp only[aW0,aW3,aW2,aW5,aW9]);omega)) (s1 (wq [] [] ⟨41 - (i+1),by omega,i+1,lh++fW x1,q5+1+1,rfl,⟨by omega,by rw[aW0];omega,by omega,by omega⟩,rfl⟩ ?_))))))))
       repeat' apply ai
       all_goals try exact qx
       all_goals try rfl
       all_goals exact congrArg D.i (aC (by omega))
     refine xt ?_
     first
     |(exact wq [] [] (⟨y,fr,q4,⟨by omega,by omega,by omega⟩,rfl⟩) qz)
     |(exact wq [] [] (⟨lh,fr,(q5+1),⟨by omega,by omega,by omega⟩,rfl⟩) qz)
     |(exact wq [] [] (⟨lg,fr,(q+1),⟨by omega,by omega,by omega⟩,rfl⟩) qz)
     |(exact wq [] [] (⟨lg,?fz10,q+1+1+1,⟨by omega,by omega,by omega⟩,rfl⟩) qz)
   refine sk ?_
   first
   |(exact wq [] [] (⟨y,fr,q4,⟨by omega,by omega,by omega⟩,rfl⟩) qz)
   |(exact wq [] [] (⟨lh,fr,(q5+1),⟨by omega,by omega,by omega⟩,rfl⟩) qz)
   |(exact wq [] [] (⟨lg,fr,(q+1),⟨by omega,by omega,by omega⟩,rfl⟩) qz)
   |(exact wq [] [] (⟨lg,?fz11,q+1+1+1,⟨by omega,by omega,by omega⟩,rfl⟩) qz)
 rintro s ⟨lh,fg,q2,hq2,rfl⟩
 exact sq (rT [2] (s2 (rt (cU [tV 0 (.e (.agg [.d (.s lh),.d (.i fg)])),oB 0 137 [.d (.sl (aA l)),.d (.i (q2))]] ⟨lh,fg,q2,⟨by omega,by omega,by omega⟩,rfl⟩ (rq [] [] rfl qz)))))
end Go.Proofs.YthbgjfegalcenaaGreatDoor
namespace Go.Ab
open Int renaming toNat_natCast→aWz
open List renaming length_append→aW0,length_nil→aW2,length_cons→aW3,length_take→aW5,getD_eq_getElem?_getD→aW7,getElem?_eq_getElem→aW8,length_drop→aW9,getElem?_eq_some_iff→aXb,range→aXc,mem_map→aXd,all_eq_true→aXe,take_length→aXf
open Nat renaming le_of_ble_eq_true→aW1,zero_le→aW6,le_refl→aXa
open Bool renaming and_eq_true→aW4
open Go Go.RowKit
theorem aR5 {P:Program} {T:hD} (hT:dR P T) {o:Oper} {σ:St} {t:TypeId} {len:Nat} {parts:Array (Nat×Operand)} {d oo n:Nat} {e:TypeId} {es:Nat} {rows:List (List D)} {R:List (dH×Option K)} {p:Prop} {k:List (dH×Option K)→List (dH×K)→Prop}
 (ho:o.op= .buildSlice t len parts) (ha:wB T σ t len parts.toList o.dst=some (p,R,[(.o oo,.row e es rows),(.t d,.v (.e (.c (.own oo n))))])) (hp:p) (hn:rows.length=n)
 (h:k R [(.o oo,.dead),(.t d,.v (Dv (.sl rows)))]): ∃R W,xS P o R W∧bQ R σ∧k R W:=by
 obtain⟨h1,h2⟩:=ay hT ho p R _ ha hp
 refine⟨R,_,?_,h2,h⟩
 intro cx σ' ι S a w hr hw hb next Q hn2
 refine h1 cx σ' ι S a w hr hw hb next Q (fun ι' S' a' w' hw'=> ?_)
 have hf:=hw'.freeze (s:=d) (o:=oo) (n:=n) (e:=e) (es:=es) (rows:=rows) (by simp[iO,lM]) (by simp[iO,lM]) hn
 refine hn2 _ _ a' w' (hf.congr fun l=> ?_)
 simp only[iO,lM]
 by_cases q1:dH.t d=l
 · simp[q1]
 · by_cases q2:dH.o oo=l
   · simp[q1,q2]
   · simp[q1,q2]
end Go.Ab
namespace Go.Proofs.YthbgjfegalcenaaGreatDoor
open Int renaming toNat_natCast→aWz
open List renaming length_append→aW0,length_nil→aW2,length_cons→aW3,length_take→aW5,getD_eq_getElem?_getD→aW7,getElem?_eq_getElem→aW8,length_drop→aW9,getElem?_eq_some_iff→aXb,range→aXc,mem_map→aXd,all_eq_true→aXe,take_length→aXf
open Nat renaming le_of_ble_eq_true→aW1,zero_le→aW6,le_refl→aXa
open Bool renaming and_eq_true→aW4
open Go Go.Ab Go.RowKit
set_option linter.unusedVariables false
set_option linter.unusedSimpArgs false
set_option maxRecDepth 9000
set_option maxHeartbeats 6400000 in
theorem oK (l:List UInt8) (p:Int) (hp:0≤p∧p≤600000) (hl:l.length≤2000):nj 77 1 [tP 0 801,oB 801 137 [.d (.sl (aA l)),.d (.i (p))]] (fun s=> ∃(W2:fJ) (k1:aH) (q3:Int),(W2.ok∧KQ k1∧p≤q3∧q3≤p+18000)∧s=[tV 0 (.tup [.agg [.d (.i (W2.tm)),.own 802 4,.own 803 3,ps 804 4 (W2.a),ps 805 5 (W2.b),ps 806 5 (W2.c)],.agg [.d (.i (k1).id),.d (.b (k1).up),.d (.s (k1).log),.d (.i (k1).forced),.d (.sl (aX (k1).halves))]]),oB 801 137 [.d (.sl (aA l)),.d (.i (q3))],oR 802 27 5 (aI W2.ks),oR 803 4 1 (aN W2.ls),(.o 804,aM 210 4 fO),(.o 805,aM 58 5 cN),(.o 806,aM 58 5 cN)]):=by
 refine pj Tryz.func77 rfl (sq (rT [0,2,3] (s2 (sq (rE [0,2,3,4] (s1 (cQ (robj:=[(801,.box 137 [.d (.sl (aA l)),.d (.i (p))])]) (rl:=[]) (bor:=[]) (news:=[800,802,803,804,805,806,807]) (aU7 l (p) 12 (by omega) hl (by omega)) rfl rfl rfl rfl ⟨bR rfl rfl rfl rfl (cJ rfl rfl (aU rfl (aD rfl (aD rfl aL)) trivial)),rfl⟩ (by rintro _ ⟨W,q1,hw,rfl⟩;exact⟨rfl,.inl rfl,fun j hj=>hj⟩) (aK ⟨rfl,trivial⟩) (fun j hj=>by simp at hj;rcases hj with rfl|rfl|rfl|rfl|rfl|rfl|rfl<;>rfl) ?_)))))))
 rintro _ ⟨W,q1,hw,rfl⟩
 refine s1 (SW.midW (fun s=> ∃(W2:fJ) (q2:Int),(W2.ok∧q1≤q2∧q2≤q1+200)∧s=[tP 0 801,tP 2 2,tP 3 3,tP 4 800,oB 800 124 [.pt 801 0,.d (.i (W2.tm)),.own 802 4,.own 803 3,ps 804 4 (W2.a),ps 805 5 (W2.b),ps 806 5 (W2.c),ps 807 10 (W2.d)],oB 801 137 [.d (.sl (aA l)),.d (.i (q2))],oR 802 27 5 (aI W2.ks),oR 803 4 1 (aN W2.ls),(.o 804,aM 210 4 fO),(.o 805,aM 58 5 cN),(.o 806,aM 58 5 cN),(.o 807,aM 157 10 jX),oB 2 99 [.d (.i 0),.nil,.nil,.nil,.nil,.nil],oB 3 27 [.d (.i 0),.d (.b false),.d (.s []),.d (.i 0),.nil]]) ?_ ?_)
 · refine sq (rT [0,2,3,4,11] (s1 (bE (robj:=[(801,.box 137 [.d (.sl (aA (l))),.d (.i (q1))])]) (rl:=[(0,801)]) (bor:=[]) (cL (l) (q1) _ (by omega) hl) rfl rfl rfl rfl ⟨bR rfl rfl rfl rfl (cJ rfl rfl (aU rfl (aD rfl (aD rfl aL)) trivial)),rfl⟩ rfl (.inl rfl) (aK ⟨rfl,trivial⟩) (fun _ hj=>nomatch hj) (ai (by first|trivial|(show _≤9223372036854775807;(try simp only[aW0,aW3,aW2,aW5,aW9]);omega)) (cd rfl (fun c11=> ?_) fun c11=> ?_)))))
   · refine rE [0,2,3,4] (s1 (cQ (robj:=[(800,.box 124 [.pt 801 0,.d (.i (W.tm)),.own 802 4,.own 803 3,ps 804 4 (W.a),ps 805 5 (W.b),ps 806 5 (W.c),ps 807 10 (W.d)]),(801,.box 137 [.d (.sl (aA l)),.d (.i (q1+1))]),(802,.row 27 5 (aI W.ks)),(803,.row 4 1 (aN W.ls)),(804,aM 210 4 fO),(805,aM 58 5 cN),(806,aM 58 5 cN),(807,aM 157 10 jX)]) (rl:=[]) (bor:=[]) (news:=[]) (nc l (q1+1) W 7 0 (by omega) hl hw.1.ok (by have:=hw.1.few;have h0:fN.d=0:=rfl;omega) (by omega)) rfl rfl rfl rfl ⟨bR rfl rfl rfl rfl (cJ rfl rfl (cJ rfl rfl (aU rfl (eJ rfl rfl rfl (aD rfl (bP rfl rfl rfl (bP rfl rfl rfl (bH rfl rfl rfl (bH rfl rfl rfl (bH rfl rfl rfl (bH rfl rfl rfl aL)))))))) (aU rfl (aD rfl (aD rfl aL)) (bV rfl rfl (bV rfl rfl (aY rfl rfl (aY rfl rfl (aY rfl rfl (aY rfl rfl trivial)))))))))),rfl⟩ (by rintro _ ⟨W3,q3,hw3,rfl⟩;exact⟨rfl,.inl rfl,fun j hj=>nomatch hj⟩) (aK ⟨rfl,rfl,rfl,rfl,rfl,rfl,rfl,rfl,trivial⟩) (fun j hj=>nomatch hj) ?_))
     rintro _ ⟨W3,q3,hw3,rfl⟩
     first
     |(exact wq [] [] (⟨W3,q3,⟨hw3.1.ok,by omega,by omega⟩,rfl⟩) qz)
     |(exact wq [] [] (⟨W,q1+1,⟨hw.1.ok,by omega,by omega⟩,rfl⟩) qz)
   refine sk ?_
   first
   |(exact wq [] [] (⟨W3,q3,⟨hw3.1.ok,by omega,by omega⟩,rfl⟩) qz)
   |(exact wq [] [] (⟨W,q1+1,⟨hw.1.ok,by omega,by omega⟩,rfl⟩) qz)
 rintro s ⟨W2,q2,⟨hW,hq2⟩,rfl⟩
 refine sq (rT [0,2,3,5] (s6 (sq ?_)))
 obtain⟨i,hi,hil⟩:=ap (show 0≤bL l q2 4∧bL l q2 4≤3 by have:=cD l (p:=q2) (n:=4) (by omega) (by omega);omega)
 have hsm:=hW.at hil
 have hs1:=hsm.1
 have hs2:=hsm.2.1
 refine rD [0,2,3,5,6] (s3 (bE (robj:=[(801,.box 137 [.d (.sl (aA (l))),.d (.i (q2))])]) (rl:=[(0,801)]) (bor:=[]) (cL (l) (q2) _ (by omega) hl) rfl rfl rfl rfl ⟨bR rfl rfl rfl rfl (cJ rfl rfl (aU rfl (aD rfl (aD rfl aL)) trivial)),rfl⟩ rfl (.inl rfl) (aK ⟨rfl,trivial⟩) (fun _ hj=>nomatch hj) (ai (by rw[hi];exact⟨by rw[bI];exact hW.four,by omega,by omega⟩) (ai (by rw[hi,aWz,cG (by rw[hW.four];exact hil)];exact⟨⟨by rw[bI];exact hW.four,hil⟩,aW1 rfl,rfl⟩) (bE (robj:=[]) (rl:=[(0,24)]) (bor:=[]) (jk (W2.ks.getD i .zero) ⟨by have:=hsm.2.1;omega,fun x hx=>by have:=hsm.2.2 x hx;omega⟩) rfl rfl rfl rfl ⟨dN rfl (aD (by rw[hi,aWz,cG (by rw[hW.four];exact hil)];rfl) (aD (by rw[hi,aWz,cG (by rw[hW.four];exact hil)];rfl) (aD (by rw[hi,aWz,cG (by rw[hW.four];exact hil)];rfl) (aD (by rw[hi,aWz,cG (by rw[hW.four];exact hil)];rfl) (aD (by rw[hi,aWz,cG (by rw[hW.four];exact hil)];rfl) aL))))) trivial,rfl⟩ rfl (.inl rfl) (fun p hp=>nomatch hp) (fun j hj=>by(obtain rfl:j=0:=by simpa[jV,cA,iH] using hj);rfl) ?_)))))
 refine s2 (ai (by kernel_rfl) (SW.midW (fun s=> ∃(k1:aH) (q3:Int),(KQ k1∧q2≤q3∧q3≤q2+1600)∧s=[tP 2 2,tP 3 3,tP 5 5,tP 6 6,oB 801 137 [.d (.sl (aA l)),.d (.i (q3))],oB 2 99 [.d (.i 0),.nil,.nil,.nil,.nil,.nil],oB 3 27 [.d (.i 0),.d (.b false),.d (.s []),.d (.i 0),.nil],oB 5 99 [.d (.i (W2.tm)),.own 802 4,.own 803 3,ps 804 4 (W2.a),ps 805 5 (W2.b),ps 806 5 (W2.c)],oB 6 27 [.d (.i (k1).id),.d (.b (k1).up),.d (.s (k1).log),.d (.i (k1).forced),.d (.sl (aX (k1).halves))],oR 802 27 5 (aI W2.ks),oR 803 4 1 (aN W2.ls),(.o 804,aM 210 4 fO),(.o 805,aM 58 5 cN),(.o 806,aM 58 5 cN)]) ?_ ?_))
 · refine sq (wa [tP 0 801,tP 2 2,tP 3 3,tP 5 5,tP 6 6,oB 801 137 [.d (.sl (aA l)),.d (.i (q2+1))],oB 2 99 [.d (.i 0),.nil,.nil,.nil,.nil,.nil],oB 3 27 [.d (.i 0),.d (.b false),.d (.s []),.d (.i 0),.nil],oB 5 99 [.d (.i (W2.tm)),.own 802 4,.own 803 3,ps 804 4 (W2.a),ps 805 5 (W2.b),ps 806 5 (W2.c)],oB 6 27 [.d (.i ((W2.ks.getD i .zero)).id),.d (.b ((W2.ks.getD i .zero)).up),.d (.s ((W2.ks.getD i .zero)).log),.d (.i ((W2.ks.getD i .zero)).forced),.own 24 (W2.ks.getD i .zero).halves.length],oR 24 85 6 (aX (W2.ks.getD i .zero).halves),oR 802 27 5 (aI W2.ks),oR 803 4 1 (aN W2.ls),(.o 804,aM 210 4 fO),(.o 805,aM 58 5 cN),(.o 806,aM 58 5 cN)] [] [] qz (rT [0,2,3,5,6,26] (s1 (bE (robj:=[(801,.box 137 [.d (.sl (aA (l))),.d (.i (q2+1))])]) (rl:=[(0,801)]) (bor:=[]) (cL (l) (q2+1) _ (by omega) hl) rfl rfl rfl rfl ⟨bR rfl rfl rfl rfl (cJ rfl rfl (aU rfl (aD rfl (aD rfl aL)) trivial)),rfl⟩ rfl (.inl rfl) (aK ⟨rfl,trivial⟩) (fun _ hj=>nomatch hj) ?_))))
   refine bk (sq (rT [0,2,3,5,6,26,27] (ai (by first|trivial|(show _≤9223372036854775807;(try simp only[aW0,aW3,aW2,aW5,aW9]);omega)) (s1 (cd rfl (fun c27=> ?_) fun c27=> ?_)))))
   · have hv:=cD l (p:=q2+1+1) (n:=3) (by omega) (by omega)
     refine rD [2,3,5,6] (s2 (ai (by first|trivial|(show _≤9223372036854775807;(try simp only[aW0,aW3,aW2,aW5,aW9]);omega)) (ai (by decide) (ai (by exact⟨by simp,aW1 rfl⟩) (s1 (bE (robj:=[(801,.box 137 [.d (.sl (aA (l))),.d (.i (q2+1+1))])]) (rl:=[(0,801)]) (bor:=[]) (cL (l) (q2+1+1) _ (by omega) hl) rfl rfl rfl rfl ⟨bR rfl rfl rfl rfl (cJ rfl rfl (aU rfl (aD rfl (aD rfl aL)) trivial)),rfl⟩ rfl (.inl rfl) (aK ⟨rfl,trivial⟩) (fun _ hj=>nomatch hj) (ai ⟨rfl,hv.1,hv.2⟩ (ai (aDk (l:=[-1,4,Int.tmod (wrap64 ((W2.ks.getD i .zero).id+1)) 4]) (by simp;omega) rfl) (s2 (ai (by kernel_rfl) (wq (σ':=[tP 2 2,tP 3 3,tP 5 5,tP 6 6,oB 801 137 [.d (.sl (aA l)),.d (.i ((q2+1+1+1)))],oB 2 99 [.d (.i 0),.nil,.nil,.nil,.nil,.nil],oB 3 27 [.d (.i 0),.d (.b false),.d (.s []),.d (.i 0),.nil],oB 5 99 [.d (.i (W2.tm)),.own 802 4,.own 803 3,ps 804 4 (W2.a),ps 805 5 (W2.b),ps 806 5 (W2.c)],oB 6 27 [.d (.i (({(W2.ks.getD i .zero) with id:=([-1,4,Int.tmod (wrap64 ((W2.ks.getD i .zero).id+1)) 4]:List Int).getD (bL l (q2+1+1) 3).toNat 0}:aH)).id),.d (.b (({(W2.ks.getD i .zero) with id:=([-1,4,Int.tmod (wrap64 ((W2.ks.getD i .zero).id+1)) 4]:List Int).getD (bL l (q2+1+1) 3).toNat 0}:aH)).up),.d (.s (({(W2.ks.getD i .zero) with id:=([-1,4,Int.tmod (wrap64 ((W2.ks.getD i .zero).id+1)) 4]:List Int).getD (bL l (q2+1+1) 3).toNat 0}:aH)).log),.d (.i (({(W2.ks.getD i .zero) with id:=([-1,4,Int.tmod (wrap64 ((W2.ks.getD i .zero).id+1)) 4]:List Int).getD (bL l (q2+1+1) 3).toNat 0}:aH)).forced),.d (.sl (aX (({(W2.ks.getD i .zero) with id:=([-1,4,Int.tmod (wrap64 ((W2.ks.getD i .zero).id+1)) 4]:List Int).getD (bL l (q2+1+1) 3).toNat 0}:aH)).halves))],oR 802 27 5 (aI W2.ks),oR 803 4 1 (aN W2.ls),(.o 804,aM 210 4 fO),(.o 805,aM 58 5 cN),(.o 806,aM 58 5 cN)]) [] [24] (⟨({(W2.ks.getD i .zero) with id:=([-1,4,Int.tmod (wrap64 ((W2.ks.getD i .zero).id+1)) 4]:List Int).getD (bL l (q2+1+1) 3).toNat 0}:aH),(q2+1+1+1),⟨KQ.idd hsm.kq _,by omega,by omega⟩,rfl⟩) ?_)))))))))))
     repeat' apply ai
     all_goals first|exact qx|exact aG _|exact congrArg (fun r:List D=>D.i (zr (r.getD 0 (.i 0)))) (gL (l:=[-1,4,Int.tmod (wrap64 ((W2.ks.getD i .zero).id+1)) 4]) (by simp;omega))|exact qz
   refine sq (rT [0,2,3,5,6,26,39] (ai (by first|trivial|(show _≤9223372036854775807;(try simp only[aW0,aW3,aW2,aW5,aW9]);omega)) (s1 (cd rfl (fun c39=> ?_) fun c39=> ?_))))
   · refine rE [2,3,5,6] (s1 (cQ (robj:=[(801,.box 137 [.d (.sl (aA l)),.d (.i (q2+1+1))])]) (rl:=[(0,801)]) (bor:=[]) (news:=[]) (tg l (q2+1+1) (by omega) hl) rfl rfl rfl rfl ⟨bR rfl rfl rfl rfl (aU rfl (aD rfl (aD rfl aL)) trivial),rfl⟩ (by rintro _ ⟨lg,fr,q4,hs4,rfl⟩;exact⟨rfl,.inl rfl,fun j hj=>nomatch hj⟩) (aK ⟨rfl,trivial⟩) (fun j hj=>nomatch hj) ?_))
     rintro _ ⟨lg,fr,q4,hs4,rfl⟩
     refine s2 (wq (σ':=[tP 2 2,tP 3 3,tP 5 5,tP 6 6,oB 801 137 [.d (.sl (aA l)),.d (.i (q4))],oB 2 99 [.d (.i 0),.nil,.nil,.nil,.nil,.nil],oB 3 27 [.d (.i 0),.d (.b false),.d (.s []),.d (.i 0),.nil],oB 5 99 [.d (.i (W2.tm)),.own 802 4,.own 803 3,ps 804 4 (W2.a),ps 805 5 (W2.b),ps 806 5 (W2.c)],oB 6 27 [.d (.i (({(W2.ks.getD i .zero) with log:=lg,forced:=fr}:aH)).id),.d (.b (({(W2.ks.getD i .zero) with log:=lg,forced:=fr}:aH)).up),.d (.s (({(W2.ks.getD i .zero) with log:=lg,forced:=fr}:aH)).log),.d (.i (({(W2.ks.getD i .zero) with log:=lg,forced:=fr}:aH)).forced),.d (.sl (aX (({(W2.ks.getD i .zero) with log:=lg,forced:=fr}:aH)).halves))],oR 802 27 5 (aI W2.ks),oR 803 4 1 (aN W2.ls),(.o 804,aM 210 4 fO),(.o 805,aM 58 5 cN),(.o 806,aM 58 5 cN)]) [] [24] (⟨({(W2.ks.getD i .zero) with log:=lg,forced:=fr}:aH),q4,⟨KQ.shelf hsm.kq (by omega) _,by omega,by omega⟩,rfl⟩) ?_)
     repeat' apply ai
     all_goals first|exact qx|exact aG _|rfl|exact qz
   refine sq (rT [0,2,3,5,6,26,44] (ai (by first|trivial|(show _≤9223372036854775807;(try simp only[aW0,aW3,aW2,aW5,aW9]);omega)) (s1 (cd rfl (fun c44=> ?_) fun c44=> ?_))))
   · have hv:=cD l (p:=q2+1+1) (n:=4) (by omega) (by omega)
     refine rD [2,3,5,6] (s8 (ai (by first|trivial|(show _≤9223372036854775807;(try simp only[aW0,aW3,aW2,aW5,aW9]);omega)) (ai (by exact⟨by simp,aW1 rfl⟩) (s1 (bE (robj:=[(801,.box 137 [.d (.sl (aA (l))),.d (.i (q2+1+1))])]) (rl:=[(0,801)]) (bor:=[]) (cL (l) (q2+1+1) _ (by omega) hl) rfl rfl rfl rfl ⟨bR rfl rfl rfl rfl (cJ rfl rfl (aU rfl (aD rfl (aD rfl aL)) trivial)),rfl⟩ rfl (.inl rfl) (aK ⟨rfl,trivial⟩) (fun _ hj=>nomatch hj) (ai ⟨rfl,hv.1,hv.2⟩ (ai (aDk (l:=[-1,0,(((W2.ks.getD i .zero).log.length:Nat):Int),wrap64 ((((W2.ks.getD i .zero).log.length:Nat):Int)+1)]) (by simp;omega) rfl) (s3 (ai (by kernel_rfl) (wq (σ':=[tP 2 2,tP 3 3,tP 5 5,tP 6 6,oB 801 137 [.d (.sl (aA l)),.d (.i ((q2+1+1+1)))],oB 2 99 [.d (.i 0),.nil,.nil,.nil,.nil,.nil],oB 3 27 [.d (.i 0),.d (.b false),.d (.s []),.d (.i 0),.nil],oB 5 99 [.d (.i (W2.tm)),.own 802 4,.own 803 3,ps 804 4 (W2.a),ps 805 5 (W2.b),ps 806 5 (W2.c)],oB 6 27 [.d (.i (({(W2.ks.getD i .zero) with forced:=([-1,0,(((W2.ks.getD i .zero).log.length:Nat):Int),wrap64 ((((W2.ks.getD i .zero).log.length:Nat):Int)+1)]:List Int).getD (bL l (q2+1+1) 4).toNat 0}:aH)).id),.d (.b (({(W2.ks.getD i .zero) with forced:=([-1,0,(((W2.ks.getD i .zero).log.length:Nat):Int),wrap64 ((((W2.ks.getD i .zero).log.length:Nat):Int)+1)]:List Int).getD (bL l (q2+1+1) 4).toNat 0}:aH)).up),.d (.s (({(W2.ks.getD i .zero) with forced:=([-1,0,(((W2.ks.getD i .zero).log.length:Nat):Int),wrap64 ((((W2.ks.getD i .zero).log.length:Nat):Int)+1)]:List Int).getD (bL l (q2+1+1) 4).toNat 0}:aH)).log),.d (.i (({(W2.ks.getD i .zero) with forced:=([-1,0,(((W2.ks.getD i .zero).log.length:Nat):Int),wrap64 ((((W2.ks.getD i .zero).log.length:Nat):Int)+1)]:List Int).getD (bL l (q2+1+1) 4).toNat 0}:aH)).forced),.d (.sl (aX (({(W2.ks.getD i .zero) with forced:=([-1,0,(((W2.ks.getD i .zero).log.length:Nat):Int),wrap64 ((((W2.ks.getD i .zero).log.length:Nat):Int)+1)]:List Int).getD (bL l (q2+1+1) 4).toNat 0}:aH)).halves))],oR 802 27 5 (aI W2.ks),oR 803 4 1 (aN W2.ls),(.o 804,aM 210 4 fO),(.o 805,aM 58 5 cN),(.o 806,aM 58 5 cN)]) [] [24] (⟨({(W2.ks.getD i .zero) with forced:=([-1,0,(((W2.ks.getD i .zero).log.length:Nat):Int),wrap64 ((((W2.ks.getD i .zero).log.length:Nat):Int)+1)]:List Int).getD (bL l (q2+1+1) 4).toNat 0}:aH),(q2+1+1+1),⟨KQ.frc hsm.kq _,by omega,by omega⟩,rfl⟩) ?_))))))))))
     repeat' apply ai
     all_goals first|exact qx|exact aG _|exact congrArg (fun r:List D=>D.i (zr (r.getD 0 (.i 0)))) (gL (l:=[-1,0,(((W2.ks.getD i .zero).log.length:Nat):Int),wrap64 ((((W2.ks.getD i .zero).log.length:Nat):Int)+1)]) (by simp;omega))|exact qz
   refine sq (rT [0,2,3,5,6,26,62] (ai (by first|trivial|(show _≤9223372036854775807;(try simp only[aW0,aW3,aW2,aW5,aW9]);omega)) (s1 (cd rfl (fun c62=> ?_) fun c62=> ?_))))
   · refine rX [2,3,5,6] (sx cX rfl (by first|trivial|rfl) (sx cX rfl vc (sx cX rfl vc (bE (robj:=[(801,.box 137 [.d (.sl (aA (l))),.d (.i (q2+1+1))])]) (rl:=[(0,801)]) (bor:=[]) (cL (l) (q2+1+1) _ (by omega) hl) rfl rfl rfl rfl ⟨bR rfl rfl rfl rfl (cJ rfl rfl (aU rfl (aD rfl (aD rfl aL)) trivial)),rfl⟩ rfl (.inl rfl) (aK ⟨rfl,trivial⟩) (fun _ hj=>nomatch hj) (sx cX rfl vc (bE (robj:=[(801,.box 137 [.d (.sl (aA (l))),.d (.i (q2+1+1+1))])]) (rl:=[(0,801)]) (bor:=[]) (cL (l) (q2+1+1+1) _ (by omega) hl) rfl rfl rfl rfl ⟨bR rfl rfl rfl rfl (cJ rfl rfl (aU rfl (aD rfl (aD rfl aL)) trivial)),rfl⟩ rfl (.inl rfl) (aK ⟨rfl,trivial⟩) (fun _ hj=>nomatch hj) (sx cX rfl vc (sx cX rfl vc (bE (robj:=[(801,.box 137 [.d (.sl (aA (l))),.d (.i (q2+1+1+1+1))])]) (rl:=[(0,801)]) (bor:=[]) (cL (l) (q2+1+1+1+1) _ (by omega) hl) rfl rfl rfl rfl ⟨bR rfl rfl rfl rfl (cJ rfl rfl (aU rfl (aD rfl (aD rfl aL)) trivial)),rfl⟩ rfl (.inl rfl) (aK ⟨rfl,trivial⟩) (fun _ hj=>nomatch hj) ?_)))))))))
     refine sx cX rfl vc (bE (robj:=[(801,.box 137 [.d (.sl (aA (l))),.d (.i (q2+1+1+1+1+1))])]) (rl:=[(0,801)]) (bor:=[]) (cL (l) (q2+1+1+1+1+1) _ (by omega) hl) rfl rfl rfl rfl ⟨bR rfl rfl rfl rfl (cJ rfl rfl (aU rfl (aD rfl (aD rfl aL)) trivial)),rfl⟩ rfl (.inl rfl) (aK ⟨rfl,trivial⟩) (fun _ hj=>nomatch hj) (sx cX rfl vc (bE (robj:=[(801,.box 137 [.d (.sl (aA (l))),.d (.i (q2+1+1+1+1+1+1))])]) (rl:=[(0,801)]) (bor:=[]) (cL (l) (q2+1+1+1+1+1+1) _ (by omega) hl) rfl rfl rfl rfl ⟨bR rfl rfl rfl rfl (cJ rfl rfl (aU rfl (aD rfl (aD rfl aL)) trivial)),rfl⟩ rfl (.inl rfl) (aK ⟨rfl,trivial⟩) (fun _ hj=>nomatch hj) (sx cX rfl vc (aR5 cX rfl rfl ⟨by simp,aW1 rfl⟩ rfl (sx cX rfl vc (sx cX rfl (by exact⟨by simp,aW1 rfl⟩) ?_)))))))
     refine sx cX rfl (by exact⟨rfl,aG _,by intro r hr;rw[List.mem_singleton.1 hr];rfl,by show(_+1)*64≤_;omega⟩) (sx cX rfl (by first|trivial|rfl) (sx cX rfl ⟨by kernel_rfl,aW1 (by kernel_rfl)⟩ (⟨by kernel_rfl,?_⟩)))
     refine wq [] [24] (⟨({(W2.ks.getD i .zero) with halves:=(W2.ks.getD i .zero).halves++[(⟨bL l (q2+1+1) 5,wrap64 (1+bL l (q2+1+1+1) 3),bL l (q2+1+1+1+1) 4,9,bL l (q2+1+1+1+1+1) 26,[⟨bL l (q2+1+1+1+1+1+1) 9,[97,98,99,100]⟩]⟩:dT)]}:aH),(q2+1+1+1+1+1+1+1),⟨KQ.half hsm (by show(1:Nat)≤100;omega),by omega,by omega⟩,rfl⟩) ?_
     repeat' apply ai
     all_goals first|exact qx|exact congrArg D.sl (oW _ _).symm|(simp[aG];done)|rfl|exact qz
   refine sq (rT [0,2,3,5,6,26,83] (ai (by first|trivial|(show _≤9223372036854775807;(try simp only[aW0,aW3,aW2,aW5,aW9]);omega)) (s1 (cd rfl (fun c83=> ?_) fun c83=> ?_))))
   · refine rT [2,3,5,6] (s5 (wq (σ':=[tP 2 2,tP 3 3,tP 5 5,tP 6 6,oB 801 137 [.d (.sl (aA l)),.d (.i ((q2+1+1)))],oB 2 99 [.d (.i 0),.nil,.nil,.nil,.nil,.nil],oB 3 27 [.d (.i 0),.d (.b false),.d (.s []),.d (.i 0),.nil],oB 5 99 [.d (.i (W2.tm)),.own 802 4,.own 803 3,ps 804 4 (W2.a),ps 805 5 (W2.b),ps 806 5 (W2.c)],oB 6 27 [.d (.i (({(W2.ks.getD i .zero) with up:= !(W2.ks.getD i .zero).up}:aH)).id),.d (.b (({(W2.ks.getD i .zero) with up:= !(W2.ks.getD i .zero).up}:aH)).up),.d (.s (({(W2.ks.getD i .zero) with up:= !(W2.ks.getD i .zero).up}:aH)).log),.d (.i (({(W2.ks.getD i .zero) with up:= !(W2.ks.getD i .zero).up}:aH)).forced),.d (.sl (aX (({(W2.ks.getD i .zero) with up:= !(W2.ks.getD i .zero).up}:aH)).halves))],oR 802 27 5 (aI W2.ks),oR 803 4 1 (aN W2.ls),(.o 804,aM 210 4 fO),(.o 805,aM 58 5 cN),(.o 806,aM 58 5 cN)]) [] [24] (⟨({(W2.ks.getD i .zero) with up:= !(W2.ks.getD i .zero).up}:aH),(q2+1+1),⟨KQ.upp hsm.kq _,by omega,by omega⟩,rfl⟩) ?_))
     repeat' apply ai
     all_goals first|exact qx|exact aG _|rfl|exact qz
   refine sq (rT [0,2,3,5,6,89] (ai (by first|trivial|(show _≤9223372036854775807;(try simp only[aW0,aW3,aW2,aW5,aW9]);omega)) (s1 (cd rfl (fun c89=> ?_) fun c89=> ?_))))
   · refine SW.regDE cX mo [2,3,5,6] 4 (fun _=>none) rfl rfl (by kernel_rfl) ?_
     refine s4 (er (robj:=[(801,.box 137 [.d (.sl (aA l)),.d (.i (q2+1+1))])]) (rl:=[(0,801)]) (bor:=[]) (news:=[]) (gy l (q2+1+1) (by omega) hl) rfl rfl rfl rfl ⟨bR rfl rfl rfl rfl (aU rfl (aD rfl (aD rfl aL)) trivial),rfl⟩ (by rintro _ ⟨x,q4,hx,rfl⟩;exact⟨rfl,.inl rfl,fun j hj=>nomatch hj⟩) (aK ⟨rfl,trivial⟩) (fun j hj=>nomatch hj) ⟨_,[],q2+1+1,⟨by omega,by omega,by simp⟩,rfl⟩ ?_)
     rintro _ ⟨x,q4,hx,rfl⟩
     have hst:=pU (rec:=x) (by omega)
     refine xp (oY x (by omega)) (ai rfl ?_)
     refine s1 (ai (by first|trivial|(show _≤9223372036854775807;(try simp only[aW0,aW3,aW2,aW5,aW9]);omega)) (s7 (ai (by kernel_rfl) (wq [] [24] (⟨({(W2.ks.getD i .zero) with log:=(W2.ks.getD i .zero).log++fW x}:aH),q4,⟨KQ.lgg hsm.kq (by have:=hsm.1;rw[aW0];omega),by omega,by omega⟩,rfl⟩) ?_))))
     repeat' apply ai
     all_goals first|exact qx|exact aG _|rfl|exact qz
   refine sk (wq [] [24] (⟨(W2.ks.getD i .zero),(q2+1+1),⟨hsm.kq,by omega,by omega⟩,rfl⟩) ?_)
   repeat' apply ai
   all_goals first|exact qx|exact aG _|rfl|exact qz
 rintro s ⟨k1,q3,⟨hk1,hq3⟩,rfl⟩
 exact sq (rD [2,3] (s4 (ai (by kernel_rfl) (rt (cU [tV 0 (.tup [.agg [.d (.i (W2.tm)),.own 802 4,.own 803 3,ps 804 4 (W2.a),ps 805 5 (W2.b),ps 806 5 (W2.c)],.agg [.d (.i (k1).id),.d (.b (k1).up),.d (.s (k1).log),.d (.i (k1).forced),.d (.sl (aX (k1).halves))]]),oB 801 137 [.d (.sl (aA l)),.d (.i (q3))],oR 802 27 5 (aI W2.ks),oR 803 4 1 (aN W2.ls),(.o 804,aM 210 4 fO),(.o 805,aM 58 5 cN),(.o 806,aM 58 5 cN)] ⟨W2,k1,q3,⟨hW,hk1,by omega,by omega⟩,rfl⟩ (rq [] [] rfl qz))))))
set_option maxHeartbeats 800000 in
theorem uC (l:List UInt8) (hl:l.length≤140737488355328):nj 58 1 [tD 0 (.sl (aA l))] (fun s=> ∃k:aH,KQ k∧s=[(.t 0,.v k.V)]):=by
 have hl2: (l.take 2000).length≤2000:=by simp;omega
 refine pj Tryz.func58 rfl (sq (rT [0,2] (s1 (sq (rE [2,4] (s1 (iA (yA [(0,801)] (sY l hl) rfl rfl rfl rfl rfl rfl rfl (fun j hj=>by(obtain rfl:j=0:=by simpa[jV,cA,iH] using hj);rfl) (cQ (robj:=[(801,.box 137 [.d (.sl (aA (l.take 2000))),.d (.i (0))])]) (rl:=[]) (bor:=[]) (news:=[802,803,804,805,806]) (oK (l.take 2000) (0) (by omega) hl2) rfl rfl rfl rfl ⟨bR rfl rfl rfl rfl (aU rfl (aD rfl (aD rfl aL)) trivial),rfl⟩ (by rintro _ ⟨W2,k,q2,hw2,rfl⟩;exact⟨rfl,.inl rfl,fun j hj=>hj⟩) (aK ⟨rfl,trivial⟩) (fun j hj=>by simp at hj;rcases hj with rfl|rfl|rfl|rfl|rfl<;>rfl) ?_)))))))))
 rintro _ ⟨W2,k,q2,hw2,rfl⟩
 have hkq:=hw2.2.1
 have hkl:=hkq.1
 exact s7 (sq (rT [2] (s2 (rt (cU [(.t 0,.v k.V)] ⟨k,hkq,rfl⟩ (rq [] [] rfl qz))))))
set_option maxHeartbeats 800000 in
theorem eh (l:List UInt8) (hl:l.length≤140737488355328):nj 14 1 [tD 0 (.sl (aA l))] (fun s=> ∃k:aH,KQ k∧s=[(.t 0,.v k.V)]):=by
 refine pj Tryz.func14 rfl (sq (rT [0,2] (s1 (sq (rE [2] (s1 (cQ (robj:=[]) (rl:=[]) (bor:=[]) (news:=[]) (uC l hl) rfl rfl rfl rfl ⟨cJ rfl rfl trivial,rfl⟩ (by rintro _ ⟨k,hkq,rfl⟩;exact⟨rfl,.inl rfl,fun j hj=>nomatch hj⟩) (fun p hp=>nomatch hp) (fun j hj=>nomatch hj) ?_)))))))
 rintro _ ⟨k,hkq,rfl⟩
 exact s1 (rt (cU [(.t 0,.v k.V)] ⟨k,hkq,rfl⟩ (rq [] [] rfl qz)))
set_option maxHeartbeats 800000 in
theorem bz (l:List UInt8) (hl:l.length≤140737488355328):nj 36 1 [tD 0 (.sl (aA l))] (fun s=> ∃k:aH,KQ k∧s=[(.t 0,.v k.V)]):=by
 refine pj Tryz.func36 rfl (sq (rT [0,2] (s1 (sq (rE [2] (s1 (cQ (robj:=[]) (rl:=[]) (bor:=[]) (news:=[]) (uC l hl) rfl rfl rfl rfl ⟨cJ rfl rfl trivial,rfl⟩ (by rintro _ ⟨k,hkq,rfl⟩;exact⟨rfl,.inl rfl,fun j hj=>nomatch hj⟩) (fun p hp=>nomatch hp) (fun j hj=>nomatch hj) ?_)))))))
 rintro _ ⟨k,hkq,rfl⟩
 exact s1 (rt (cU [(.t 0,.v k.V)] ⟨k,hkq,rfl⟩ (rq [] [] rfl qz)))
set_option maxHeartbeats 1600000 in
theorem aw (l:List UInt8) (hl:l.length≤140737488355328):nj 31 1 [tD 0 (.sl (aA l))] (fun s=> ∃k:aH,KQ k∧s=[(.t 0,.v k.V)]):=by
 have hl2: (l.take 2000).length≤2000:=by simp;omega
 refine pj Tryz.func31 rfl (sq (rT [0,2] (s1 (sq (rT [2,3] (s1 (yA [(0,801)] (sY l hl) rfl rfl rfl rfl rfl rfl rfl (fun j hj=>by(obtain rfl:j=0:=by simpa[jV,cA,iH] using hj);rfl) (s1 (sq (rE [2,3,5] (s1 (cQ (robj:=[(801,.box 137 [.d (.sl (aA (l.take 2000))),.d (.i (0))])]) (rl:=[]) (bor:=[]) (news:=[802,803,804,805,806]) (oK (l.take 2000) (0) (by omega) hl2) rfl rfl rfl rfl ⟨bR rfl rfl rfl rfl (aU rfl (aD rfl (aD rfl aL)) trivial),rfl⟩ (by rintro _ ⟨W2,k,q2,hw2,rfl⟩;exact⟨rfl,.inl rfl,fun j hj=>hj⟩) (aK ⟨rfl,trivial⟩) (fun j hj=>by simp at hj;rcases hj with rfl|rfl|rfl|rfl|rfl<;>rfl) ?_))))))))))))
 rintro _ ⟨W2,k,q2,hw2,rfl⟩
 have hkq:=hw2.2.1
 have hkl:=hkq.1
 refine s7 (SW.midW (fun s=> ∃k1:aH,KQ k1∧s=[tP 2 2,tP 5 5,oB 2 27 [.d (.i 0),.d (.b false),.d (.s []),.d (.i 0),.nil],oB 5 27 [.d (.i (k1).id),.d (.b (k1).up),.d (.s (k1).log),.d (.i (k1).forced),.d (.sl (aX (k1).halves))]]) ?_ ?_)
 · refine sq (rT [2,5,15] (s1 (bE (robj:=[(801,.box 137 [.d (.sl (aA ((l.take 2000)))),.d (.i (q2))])]) (rl:=[(0,801)]) (bor:=[]) (cL ((l.take 2000)) (q2) _ (by omega) hl2) rfl rfl rfl rfl ⟨bR rfl rfl rfl rfl (cJ rfl rfl (aU rfl (aD rfl (aD rfl aL)) trivial)),rfl⟩ rfl (.inl rfl) (aK ⟨rfl,trivial⟩) (fun _ hj=>nomatch hj) (s1 (cd rfl (fun c15=> ?_) fun c15=> ?_)))))
   · refine rT [2,5] (s2 (xp (mX k.log k.forced [116,105,109,101,32,57,48,48] (by omega) (by simp)) (ai rfl ?_)))
     exact s5 (wq (σ':=[tP 2 2,tP 5 5,oB 2 27 [.d (.i 0),.d (.b false),.d (.s []),.d (.i 0),.nil],oB 5 27 [.d (.i (({k with log:=(aZ k.log k.forced [116,105,109,101,32,57,48,48]).1.1,forced:=(aZ k.log k.forced [116,105,109,101,32,57,48,48]).1.2}:aH)).id),.d (.b (({k with log:=(aZ k.log k.forced [116,105,109,101,32,57,48,48]).1.1,forced:=(aZ k.log k.forced [116,105,109,101,32,57,48,48]).1.2}:aH)).up),.d (.s (({k with log:=(aZ k.log k.forced [116,105,109,101,32,57,48,48]).1.1,forced:=(aZ k.log k.forced [116,105,109,101,32,57,48,48]).1.2}:aH)).log),.d (.i (({k with log:=(aZ k.log k.forced [116,105,109,101,32,57,48,48]).1.1,forced:=(aZ k.log k.forced [116,105,109,101,32,57,48,48]).1.2}:aH)).forced),.d (.sl (aX (({k with log:=(aZ k.log k.forced [116,105,109,101,32,57,48,48]).1.1,forced:=(aZ k.log k.forced [116,105,109,101,32,57,48,48]).1.2}:aH)).halves))]]) [] [] (⟨({k with log:=(aZ k.log k.forced [116,105,109,101,32,57,48,48]).1.1,forced:=(aZ k.log k.forced [116,105,109,101,32,57,48,48]).1.2}:aH),KQ.shelf hkq (so hkl) _,rfl⟩) qz)
   exact sk (wq [] [] (⟨k,hkq,rfl⟩) qz)
 rintro s ⟨k1,hk1,rfl⟩
 exact sq (rT [2] (s2 (rt (cU [(.t 0,.v k1.V)] ⟨k1,hk1,rfl⟩ (rq [] [] rfl qz)))))
set_option maxHeartbeats 1600000 in
theorem ca (l:List UInt8) (hl:l.length≤140737488355328):nj 25 1 [tD 0 (.sl (aA l))] (fun s=> ∃(k:aH) (kp:Int),KQ k∧s=[tV 0 (.tup [.agg [.d (.i (k).id),.d (.b (k).up),.d (.s (k).log),.d (.i (k).forced),.d (.sl (aX (k).halves))],.c (.d (.i (kp)))])]):=by
 have hl2: (l.take 2000).length≤2000:=by simp;omega
 refine pj Tryz.func25 rfl (sq (rT [0,2] (s2 (sq (rT [2,4] (s1 (yA [(0,801)] (sY l hl) rfl rfl rfl rfl rfl rfl rfl (fun j hj=>by(obtain rfl:j=0:=by simpa[jV,cA,iH] using hj);rfl) (s1 (sq (rE [2,4,6] (s1 (cQ (robj:=[(801,.box 137 [.d (.sl (aA (l.take 2000))),.d (.i (0))])]) (rl:=[]) (bor:=[]) (news:=[802,803,804,805,806]) (oK (l.take 2000) (0) (by omega) hl2) rfl rfl rfl rfl ⟨bR rfl rfl rfl rfl (aU rfl (aD rfl (aD rfl aL)) trivial),rfl⟩ (by rintro _ ⟨W2,k,q2,hw2,rfl⟩;exact⟨rfl,.inl rfl,fun j hj=>hj⟩) (aK ⟨rfl,trivial⟩) (fun j hj=>by simp at hj;rcases hj with rfl|rfl|rfl|rfl|rfl<;>rfl) ?_))))))))))))
 rintro _ ⟨W2,k,q2,hw2,rfl⟩
 have hkq:=hw2.2.1
 have hkl:=hkq.1
 refine s7 (SW.midW (fun s=> ∃k1:aH,KQ k1∧s=[tP 2 2,tP 4 801,tP 6 6,oB 801 137 [.d (.sl (aA (l.take 2000))),.d (.i (q2+1))],oB 2 27 [.d (.i 0),.d (.b false),.d (.s []),.d (.i 0),.nil],oB 6 27 [.d (.i (k1).id),.d (.b (k1).up),.d (.s (k1).log),.d (.i (k1).forced),.d (.sl (aX (k1).halves))]]) ?_ ?_)
 · refine sq (rT [2,4,6,16] (s1 (bE (robj:=[(801,.box 137 [.d (.sl (aA ((l.take 2000)))),.d (.i (q2))])]) (rl:=[(0,801)]) (bor:=[]) (cL ((l.take 2000)) (q2) _ (by omega) hl2) rfl rfl rfl rfl ⟨bR rfl rfl rfl rfl (cJ rfl rfl (aU rfl (aD rfl (aD rfl aL)) trivial)),rfl⟩ rfl (.inl rfl) (aK ⟨rfl,trivial⟩) (fun _ hj=>nomatch hj) (s1 (cd rfl (fun c16=> ?_) fun c16=> ?_)))))
   · refine rT [2,4,6] (s2 (xp (mX k.log k.forced [116,105,109,101,32,57,48,48] (by omega) (by simp)) (ai rfl ?_)))
     exact s5 (wq (σ':=[tP 2 2,tP 4 801,tP 6 6,oB 801 137 [.d (.sl (aA (l.take 2000))),.d (.i (q2+1))],oB 2 27 [.d (.i 0),.d (.b false),.d (.s []),.d (.i 0),.nil],oB 6 27 [.d (.i (({k with log:=(aZ k.log k.forced [116,105,109,101,32,57,48,48]).1.1,forced:=(aZ k.log k.forced [116,105,109,101,32,57,48,48]).1.2}:aH)).id),.d (.b (({k with log:=(aZ k.log k.forced [116,105,109,101,32,57,48,48]).1.1,forced:=(aZ k.log k.forced [116,105,109,101,32,57,48,48]).1.2}:aH)).up),.d (.s (({k with log:=(aZ k.log k.forced [116,105,109,101,32,57,48,48]).1.1,forced:=(aZ k.log k.forced [116,105,109,101,32,57,48,48]).1.2}:aH)).log),.d (.i (({k with log:=(aZ k.log k.forced [116,105,109,101,32,57,48,48]).1.1,forced:=(aZ k.log k.forced [116,105,109,101,32,57,48,48]).1.2}:aH)).forced),.d (.sl (aX (({k with log:=(aZ k.log k.forced [116,105,109,101,32,57,48,48]).1.1,forced:=(aZ k.log k.forced [116,105,109,101,32,57,48,48]).1.2}:aH)).halves))]]) [] [] (⟨({k with log:=(aZ k.log k.forced [116,105,109,101,32,57,48,48]).1.1,forced:=(aZ k.log k.forced [116,105,109,101,32,57,48,48]).1.2}:aH),KQ.shelf hkq (so hkl) _,rfl⟩) qz)
   exact sk (wq [] [] (⟨k,hkq,rfl⟩) qz)
 rintro s ⟨k1,hk1,rfl⟩
 refine sq ?_
 have hv:=cD (l.take 2000) (p:=q2+1+1) (n:=5) (by omega) (by omega)
 refine rD [2,3] (s2 (bE (robj:=[(801,.box 137 [.d (.sl (aA ((l.take 2000)))),.d (.i (q2+1))])]) (rl:=[(0,801)]) (bor:=[]) (cL ((l.take 2000)) (q2+1) _ (by omega) hl2) rfl rfl rfl rfl ⟨bR rfl rfl rfl rfl (cJ rfl rfl (aU rfl (aD rfl (aD rfl aL)) trivial)),rfl⟩ rfl (.inl rfl) (aK ⟨rfl,trivial⟩) (fun _ hj=>nomatch hj) (ai (by exact⟨by simp,aW1 rfl⟩) (s1 (bE (robj:=[(801,.box 137 [.d (.sl (aA ((l.take 2000)))),.d (.i (q2+1+1))])]) (rl:=[(0,801)]) (bor:=[]) (cL ((l.take 2000)) (q2+1+1) _ (by omega) hl2) rfl rfl rfl rfl ⟨bR rfl rfl rfl rfl (cJ rfl rfl (aU rfl (aD rfl (aD rfl aL)) trivial)),rfl⟩ rfl (.inl rfl) (aK ⟨rfl,trivial⟩) (fun _ hj=>nomatch hj) (ai ⟨rfl,hv.1,hv.2⟩ (ai (aDk (l:=[0,1,bL (l.take 2000) (q2+1) 60,-1,9223372036854775807]) (by simp;omega) rfl) (s2 (ai (by kernel_rfl) (rt (cU [tV 0 (.tup [.agg [.d (.i (k1).id),.d (.b (k1).up),.d (.s (k1).log),.d (.i (k1).forced),.d (.sl (aX (k1).halves))],.c (.d (.i (([0,1,bL (l.take 2000) (q2+1) 60,-1,9223372036854775807]:List Int).getD (bL (l.take 2000) (q2+1+1) 5).toNat 0)))])] ⟨k1,([0,1,bL (l.take 2000) (q2+1) 60,-1,9223372036854775807]:List Int).getD (bL (l.take 2000) (q2+1+1) 5).toNat 0,hk1,rfl⟩ ?_)))))))))))
 refine rq [] [] rfl ?_
 repeat' apply ai
 all_goals try exact qx
 all_goals first|with_reducible rfl|exact congrArg (fun r:List D=>D.i (zr (r.getD 0 (.i 0)))) (gL (l:=[0,1,bL (l.take 2000) (q2+1) 60,-1,9223372036854775807]) (by simp;omega))|rfl
set_option maxHeartbeats 1600000 in
theorem cc (l:List UInt8) (hl:l.length≤140737488355328):nj 28 1 [tD 0 (.sl (aA l))] (fun s=> ∃k:aH,KQ k∧s=[(.t 0,.v k.V)]):=by
 have hl2: (l.take 2000).length≤2000:=by simp;omega
 refine pj Tryz.func28 rfl (sq (rT [0,2] (s1 (sq (rT [2,3] (s1 (yA [(0,801)] (sY l hl) rfl rfl rfl rfl rfl rfl rfl (fun j hj=>by(obtain rfl:j=0:=by simpa[jV,cA,iH] using hj);rfl) (s1 (sq (rE [2,3,5] (s1 (cQ (robj:=[(801,.box 137 [.d (.sl (aA (l.take 2000))),.d (.i (0))])]) (rl:=[]) (bor:=[]) (news:=[802,803,804,805,806]) (oK (l.take 2000) (0) (by omega) hl2) rfl rfl rfl rfl ⟨bR rfl rfl rfl rfl (aU rfl (aD rfl (aD rfl aL)) trivial),rfl⟩ (by rintro _ ⟨W2,k,q2,hw2,rfl⟩;exact⟨rfl,.inl rfl,fun j hj=>hj⟩) (aK ⟨rfl,trivial⟩) (fun j hj=>by simp at hj;rcases hj with rfl|rfl|rfl|rfl|rfl<;>rfl) ?_))))))))))))
 rintro _ ⟨W2,k,q2,hw2,rfl⟩
 have hkq:=hw2.2.1
 have hkl:=hkq.1
 refine s7 (sq (sq (rT [2,3,5,15] (s1 (bE (robj:=[(801,.box 137 [.d (.sl (aA ((l.take 2000)))),.d (.i (q2))])]) (rl:=[(0,801)]) (bor:=[]) (cL ((l.take 2000)) (q2) _ (by omega) hl2) rfl rfl rfl rfl ⟨bR rfl rfl rfl rfl (cJ rfl rfl (aU rfl (aD rfl (aD rfl aL)) trivial)),rfl⟩ rfl (.inl rfl) (aK ⟨rfl,trivial⟩) (fun _ hj=>nomatch hj) (s1 (cd rfl (fun c15=> ?_) fun c15=> ?_)))))))
 · refine sq (rD [2] (s2 (bE (robj:=[(801,.box 137 [.d (.sl (aA ((l.take 2000)))),.d (.i (q2+1))])]) (rl:=[(0,801)]) (bor:=[]) (cL ((l.take 2000)) (q2+1) _ (by omega) hl2) rfl rfl rfl rfl ⟨bR rfl rfl rfl rfl (cJ rfl rfl (aU rfl (aD rfl (aD rfl aL)) trivial)),rfl⟩ rfl (.inl rfl) (aK ⟨rfl,trivial⟩) (fun _ hj=>nomatch hj) (xp (rL k (bL (l.take 2000) (q2+1) 40) hkq.log) (ai rfl ?_)))))
   exact s1 (ai (by kernel_rfl) (rt (cU [(.t 0,.v (bZ k (bL (l.take 2000) (q2+1) 40)).V)] ⟨(bZ k (bL (l.take 2000) (q2+1) 40)),aKx hkq _,rfl⟩ (rq [] [] rfl qz))))
 exact sk (sq (rT [2] (s2 (rt (cU [(.t 0,.v k.V)] ⟨k,hkq,rfl⟩ (rq [] [] rfl qz))))))
end Go.Proofs.YthbgjfegalcenaaGreatDoor
namespace Go.Ab
open Int renaming toNat_natCast→aWz
open List renaming length_append→aW0,length_nil→aW2,length_cons→aW3,length_take→aW5,getD_eq_getElem?_getD→aW7,getElem?_eq_getElem→aW8,length_drop→aW9,getElem?_eq_some_iff→aXb,range→aXc,mem_map→aXd,all_eq_true→aXe,take_length→aXf
open Nat renaming le_of_ble_eq_true→aW1,zero_le→aW6,le_refl→aXa
open Bool renaming and_eq_true→aW4
structure KG (k:aH):Prop where
 log:k.log.length≤140737488355328
 hal:k.halves.length≤100000∧ ∀x∈k.halves,x.got.length≤100000
theorem KG.of {k x:aH} (h:KG k) (hl:x.log.length≤140737488355328) (hh:x.halves=k.halves∨x.halves=[]):KG x:=by
 refine⟨hl,?_⟩
 rcases hh with e|e
 · rw[e];exact h.hal
 · rw[e];exact⟨aW6 _,fun _ hx=>nomatch hx⟩
theorem KQ.kg {k:aH} (h:KQ k):KG k:=⟨h.log,by have:=h.2.1;omega,fun x hx=>by have:=h.2.2 x hx;omega⟩
theorem jr.kg {k:aH} (h:jr k):KG k:=h.kq.kg
theorem KG.start (n:Int):KG (dU n):=(wU n).kg
theorem KG.fall {k:aH} (h:KG k) (keep:Int):KG (bZ k keep):=h.of (zm h.log) (by unfold bZ;split<;>exact .inr rfl)
theorem KG.rise {k:aH} (h:KG k):KG (cS k):=h.of (aHd h.log) (by unfold cS;split;exact .inl rfl;exact .inr rfl)
theorem zp {k:aH} (h:k.log.length≤140737488355328): (jY k).log.length≤140737488355328:=Nat.le_trans (tZ _ _) h
theorem KG.force {k:aH} (h:KG k):KG (bX k).1:=by
 refine h.of ?_ ?_
 · unfold bX
   split
   · split
     · exact h.log
     · exact zp h.log
   · exact aW6 _
 · unfold bX
   split
   · split<;>exact .inl rfl
   · exact .inr rfl
theorem wY {k:aH} {rec:List UInt8} (h:k.log.length≤140737488355328): (iZ k rec).1.log.length≤140737488355328∧(iZ k rec).1.halves=k.halves:=by
 obtain⟨h1,h2⟩:=aGr (rec:=rec) h
 unfold iZ
 split
 · exact⟨zp h1,h2⟩
 · exact⟨h,rfl⟩
theorem KG.pack {k:aH} (h:KG k):KG (bU k).1:=by
 refine h.of ?_ ?_
 · unfold bU
   split
   · split
     · exact ja h.log
     · exact h.log
   · exact aW6 _
 · unfold bU
   split
   · split<;>exact .inl rfl
   · exact .inr rfl
theorem KG.time {k:aH} (h:KG k):KG (eA k).1:=by
 refine h.of ?_ ?_
 · unfold eA
   split
   · split
     · exact(wY h.log).1
     · exact h.log
   · exact aW6 _
 · unfold eA
   split
   · split
     · exact .inl (wY h.log).2
     · exact .inl rfl
   · exact .inr rfl
theorem KG.own {k:aH} (h:KG k) (tu til:Int) (tx:List UInt8):KG (dX k tu til tx).1:=by
 refine h.of ?_ ?_
 · unfold dX
   split
   · split
     · split
       · exact(wY h.log).1
       · exact h.log
     · exact h.log
   · exact aW6 _
 · unfold dX
   split
   · split
     · split
       · exact .inl (wY h.log).2
       · exact .inl rfl
     · exact .inl rfl
   · exact .inr rfl
theorem xR (k:aH):KB (bM k):=by
 unfold bM
 split
 · rename_i h;exact qW h
 · exact KB.zero
theorem aR6 {k:aH} (h: (bU k).2=true):aT k=true:=by
 unfold bU at h
 split at h
 · assumption
 · cases h
theorem aPz {k:aH} (h:k.log.length≤900000): (bU k).1.log.length≤900000:=by
 unfold bU
 split
 · split
   · show(dW k.log k.forced _).1.1.length≤_
     unfold dW
     split
     · split
       · rename_i hc
         simp only[aW4,decide_eq_true_eq] at hc
         show(dE _).length≤_;omega
       · exact h
     · exact aW6 _
   · exact h
 · exact aW6 _
end Go.Ab
