/- Plain functions, and contracts of the functions that the law reaches. -/
import Derived.Shelf.Vars
import Derived.Stop.LaidErr
import Derived.MakeChecks
import Derived.Test.YtmabaopgkimfmaaGreatDoorB3
set_option maxHeartbeats 12800000
namespace Go.Proofs.YtmabaopgkimfmaaGreatDoor
open Int renaming toNat_natCast→aXy
open List renaming length_append→aXz,length_cons→aX1,length_nil→aX2,length_take→aX4,getD_eq_getElem?_getD→aX6,length_drop→aX7,getElem?_eq_getElem→aX9,getElem?_eq_some_iff→aYa,range→aYb,mem_map→aYc,all_eq_true→aYd,take_length→aYe
open Nat renaming le_of_ble_eq_true→aX0,zero_le→aX5,le_refl→aX8
open Bool renaming and_eq_true→aX3
open Go Go.Ab Go.RowKit
set_option linter.unusedVariables false
set_option linter.unusedSimpArgs false
set_option maxRecDepth 9000
theorem ua (k:aK) (f:cI) (hok:aW k=true) (hu:k.up=true) (hf:eQ f=true) (hkd:f.kind=1):Sp 99 2 [tV 0 (.e (.agg [.d (.i (k).id),.d (.b (k).up),.d (.s (k).log),.d (.i (k).forced),.own 0 k.halves.length])),(.t 1,.v f.V),oR 0 138 6 (aZ k.halves)] [tV 0 (.tup [.agg [.d (.i ((dZ k f).1).id),.d (.b ((dZ k f).1).up),.d (.s ((dZ k f).1).log),.d (.i ((dZ k f).1).forced),.d (.sl (aZ ((dZ k f).1).halves))],.c (.d (.sl (nP (dZ k f).2)))])]:=by
 have hlg:=eA hok
 have hkb:=nK hok
 have hfh:=jb hf hkd
 have hH:=aKx (mq hok) hlg.2.2.2.1 hf hkd
 have h6:=fD (gF hok)
 refine sb Tryz.func99 rfl (sq (rT [2,3,4] (s4 (sq (rT [2,3,4,6] (s2 (sq (rT [2,3,4,6,7] (s1 (bP (robj:=[(0,.row 138 6 (aZ k.halves))]) (rl:=[(0,0)]) (bor:=[]) (aNg k (by omega)) rfl rfl rfl rfl ⟨eC rfl (aG rfl (aG rfl (aG rfl (aG rfl (bU rfl rfl rfl aN))))) (bZ rfl rfl trivial),rfl⟩ rfl (.inl rfl) (aM ⟨rfl,trivial⟩) (fun _ hj=>nomatch hj) (s6 (sq (sq (rT [2,3,4,6,7,25] (s5 (cd rfl (fun c25=> ?_) fun c25=> ?_))))))))))))))))
 · have hlate:f.til≤(bA k).1.time:=by simpa using c25
   refine sq (rD [4,5] (s2 (xp (sM _ f) (ai rfl ?_))))
   refine s3 (ai (by kernel_rfl) (rt ?_))
   have hr:dZ k f=(k,[bw 3 f]):=by rw[dZ,aC hlate]
   refine rq [] [0,29] rfl ?_
   repeat' apply ai
   all_goals try exact qx
   all_goals(first|with_reducible rfl|(rw[hr];done)|(rw[hr];rfl)|exact aJ _|rfl)
 have hlate: ¬f.til≤(bA k).1.time:=by simpa using c25
 refine sk (sq (sq (rT [2,3,4,6,47] (s6 (xp (gG (bA k).1.held f.frm f.num (by have:=h6.1.1;omega)) (ai rfl ?_))))))
 refine s2 (y4 (y2 (xc (fun h=>(oH (bA k).1.marks f.frm f.num (by have:=h6.1.2.1;omega))) (ai rfl (ai rk ?_)))))
 refine y1 (ai pk (cd rfl (fun c47=> ?_) fun c47=> ?_))
 · have hhave:0≤bD (bA k).1.held f.frm f.num∨0≤hD (bA k).1.marks f.frm f.num:=by simpa using c47
   refine sq (rT [2,3,4] (s2 (xp (iD k.log k.forced (by omega)) (ai rfl ?_))))
   refine s2 (sq (rD [4,5] (s2 (xp (sM _ f) (ai rfl ?_)))))
   refine s3 (ai (by kernel_rfl) (rt ?_))
   have hr:dZ k f=(jR k,[bw 2 f]):=by rw[dZ,aB hlate,aC hhave]
   refine rq [] [0,55] rfl ?_
   repeat' apply ai
   all_goals try exact qx
   all_goals(first|with_reducible rfl|(rw[hr];done)|(rw[hr];rfl)|exact aJ _|rfl)
 have hhave: ¬(0≤bD (bA k).1.held f.frm f.num∨0≤hD (bA k).1.marks f.frm f.num):=by simpa using c47
 refine sk (sq (sq (rD [2,3,4,6,69] (s6 (y2 (xc (fun h=>(pQ f.size (by omega))) (ai rfl (ai rk ?_))))))))
 refine y2 (xc (fun h=>(wR _ f.mix)) (ai rfl (ai rk ?_)))
 refine y1 (ai pk (ai (by kernel_rfl) (cd rfl (fun c69=> ?_) fun c69=> ?_)))
 · have hskip:f.frm=k.id∨ ¬tW ((f.size+3) / 4) f.mix=true:=by simpa using c69
   refine sq (rT [4,5] (s4 (rt ?_)))
   have hr:dZ k f=(k,[]):=by rw[dZ,aB hlate,aB hhave,aC hskip]
   refine rq [] [0,15] rfl ?_
   repeat' apply ai
   all_goals try exact qx
   all_goals(first|with_reducible rfl|(rw[hr];done)|(rw[hr];rfl)|exact aJ _|rfl)
 have hskip: ¬(f.frm=k.id∨ ¬tW ((f.size+3) / 4) f.mix=true):=by simpa using c69
 refine sk (sq (rT [2,3,4,6,9] (s2 (bP (robj:=[(0,.row 138 6 (aZ k.halves))]) (rl:=[]) (bor:=[]) (aBd k f hlg.2.2.2.1 hlg.2.2.2.2.2) rfl rfl rfl rfl ⟨eC rfl (aG rfl (aG rfl (aG rfl (aG rfl (bU rfl rfl rfl aN))))) (eC rfl (aG rfl (aG rfl (aG rfl (aG rfl (aG rfl (aG rfl (aG rfl (aG rfl (aG rfl (aG rfl aN)))))))))) (bZ rfl rfl trivial)),rfl⟩ rfl (.inl rfl) (aM ⟨rfl,trivial⟩) (fun _ hj=>nomatch hj) (s5 (sq (sq (rT [2,3,4,6,9,79] (s2 (cd rfl (fun c79=> ?_) fun c79=> ?_))))))))))
 · have hneg: (cB k.halves f).2<0:=by simpa using c79
   refine sq (rT [4,5] (s4 (rt ?_)))
   have hr:dZ k f=(eE k (cB k.halves f).1,[]):=by rw[dZ,aB hlate,aB hhave,aB hskip,aC hneg]
   refine rq [] [15] rfl ?_
   repeat' apply ai
   all_goals try exact qx
   all_goals(first|with_reducible rfl|(rw[hr];done)|(rw[hr];rfl)|exact aJ _|rfl)
 have hge: ¬(cB k.halves f).2<0:=by simpa using c79
 obtain⟨i,hi⟩: ∃i:Nat,(cB k.halves f).2=(i:Int):=⟨(cB k.halves f).2.toNat,by omega⟩
 have hil:i< (cB k.halves f).1.length:=aJl hi
 have hgi: (aZ (eE k (cB k.halves f).1).halves).getD i []=((cB k.halves f).1.getD i .zero).row:=gJ hil
 have hr1:dZ k f=oU k f (cB k.halves f).1 i:=by rw[dZ,aB hlate,aB hhave,aB hskip,aB hge,hi];rfl
 have hgl: ((cB k.halves f).1.getD i .zero).got.length≤14:=by have h9:=(vR _).1 (hH.1.1 _ (dQ (z:=dW.zero) hil));exact(mF h9.1).2.2.2.2.2
 refine sk (sq (rD [2,3,4,6,9,10,11] (s5 (ai (by rw[hi];exact⟨⟨by omega,by rw[aJ];show((i:Nat):Int)< (((cB k.halves f).1.length:Nat):Int);omega⟩,by rw[aXy,hgi];rfl⟩) (s1 (ai (by rw[hi,aXy,hgi];exact⟨aX0 rfl,rfl⟩) (xp (zh f.size ((cB k.halves f).1.getD i .zero).got (by omega)) (ai (by rw[hi,aXy,hgi];rfl) ?_))))))))
 refine s5 (ai (by kernel_rfl) (sq (sq (rT [2,3,4,6,9,10,95] (s2 (cd rfl (fun c95=> ?_) fun c95=> ?_))))))
 · have hno: ¬(eB f.size ((cB k.halves f).1.getD i .zero).got).2=true:=by exact lF c95
   refine sq (rT [4,5] (s4 (rt ?_)))
   have hr:dZ k f=(eE k (cB k.halves f).1,[]):=hr1.trans (ms hno)
   refine rq [] [15] rfl ?_
   repeat' apply ai
   all_goals try exact qx
   all_goals(first|with_reducible rfl|(rw[hr];done)|(rw[hr];rfl)|exact aJ _|rfl)
 have hyes: (eB f.size ((cB k.halves f).1.getD i .zero).got).2=true:=by exact gP c95
 refine sk (sq (rT [2,3,4,6,9,12] (s9 (s3 (sq (rT [2,3,4,6,12] (s3 (xp (zm (cB k.halves f).1 (i:Nat) (by omega) (by omega)) (ai (by rw[hi];rfl) ?_)))))))))
 refine s2 (sq (rT [2,3,4,6,13] (s1 (xp (kR (fE f (eB f.size ((cB k.halves f).1.getD i .zero).got).1) (by have:=aG7 f.size ((cB k.halves f).1.getD i .zero).got;show(eB f.size ((cB k.halves f).1.getD i .zero).got).1.length≤_;omega)) (ai rfl ?_)))))
 refine s1 (sq (sq (rT [2,3,4,6,13,116] (s2 (cd rfl (fun c116=> ?_) fun c116=> ?_)))))
 · have hemp:gE (fE f (eB f.size ((cB k.halves f).1.getD i .zero).got).1)=[]:=by exact beq_iff_eq.1 c116
   refine sq (rT [4,5] (s4 (rt ?_)))
   have hr:dZ k f=(eE k (iB (cB k.halves f).1 i),[]):=hr1.trans (fh hyes hemp)
   refine rq [] [15] rfl ?_
   repeat' apply ai
   all_goals try exact qx
   all_goals(first|with_reducible rfl|(rw[hr];done)|(rw[hr];rfl)|exact aJ _|rfl)
 have hemp: ¬gE (fE f (eB f.size ((cB k.halves f).1.getD i .zero).got).1)=[]:=by exact beq_eq_false_iff_ne.1 c116
 refine sk (sq (rT [2,3,4,6,14] (s2 (ai (by have:=mW (fE f (eB f.size ((cB k.halves f).1.getD i .zero).got).1);show _≤9223372036854775807;(try simp only[aXz,aX1,aX2]);omega) (xp (nM (eE k (iB (cB k.halves f).1 i)) (dC gL (fE f (eB f.size ((cB k.halves f).1.getD i .zero).got).1)) true (mr hok hu (by have:=yK (cB k.halves f).1 i;omega) (aKw hH.1 i)) (by have h9:=tR gL (fE f (eB f.size ((cB k.halves f).1.getD i .zero).got).1);have h8:gL.length=4:=rfl;omega)) (ai rfl ?_))))))
 refine s5 (sq (sq (rT [2,3,4,6,127] (s2 (cd rfl (fun c127=> ?_) fun c127=> ?_)))))
 · have hw: ¬(gA (eE k (iB (cB k.halves f).1 i)) (dC gL (fE f (eB f.size ((cB k.halves f).1.getD i .zero).got).1)) true).2=true:=lF c127
   refine sq (rT [4,5] (s4 (rt ?_)))
   have hr:dZ k f=((gA (eE k (iB (cB k.halves f).1 i)) (dC gL (fE f (eB f.size ((cB k.halves f).1.getD i .zero).got).1)) true).1,[]):=hr1.trans (am hyes hemp hw)
   refine rq [] [15] rfl ?_
   repeat' apply ai
   all_goals try exact qx
   all_goals(first|with_reducible rfl|(rw[hr];done)|(rw[hr];rfl)|exact aJ _|rfl)
 have hw: (gA (eE k (iB (cB k.halves f).1 i)) (dC gL (fE f (eB f.size ((cB k.halves f).1.getD i .zero).got).1)) true).2=true:=gP c127
 refine sk (sq (rD [4,5] (s2 (xp (sM _ f) (ai rfl ?_)))))
 refine s3 (ai (by kernel_rfl) (rt ?_))
 have hr:dZ k f=((gA (eE k (iB (cB k.halves f).1 i)) (dC gL (fE f (eB f.size ((cB k.halves f).1.getD i .zero).got).1)) true).1,[bw 2 f]):=hr1.trans (mu hyes hemp hw)
 refine rq [] [133] rfl ?_
 repeat' apply ai
 all_goals try exact qx
 all_goals(first|with_reducible rfl|(rw[hr];done)|(rw[hr];rfl)|exact aJ _|rfl)
theorem ng (k:aK) (f:cI) (hl:k.log.length≤140737488355328):Sp 41 2 [tV 0 k.V,tV 1 f.V] [tV 0 (.tup [.agg [.d (.i ((dJ k f).1).id),.d (.b ((dJ k f).1).up),.d (.s ((dJ k f).1).log),.d (.i ((dJ k f).1).forced),.d (.sl (aZ ((dJ k f).1).halves))],.c (.d (.sl (nP (dJ k f).2)))])]:=by
 refine sb Tryz.func41 rfl (sq (rT [2,3,4] (s4 (sq (rT [2,3,4,6] (s2 (sq (sq (rT [2,3,4,6,18] (s1 (xp (iK k hl) (ai rfl ?_))))))))))))
 refine s1 (cd rfl (fun c18=> ?_) fun c18=> ?_)
 · have hno: ¬aW k=true:=lF c18
   refine sq (rT [4,5] (s4 (rt ?_)))
   have hr:dJ k f=(.zero,[]):=yr hno
   refine rq [] [15] rfl ?_
   repeat' apply ai
   all_goals try exact qx
   all_goals(first|with_reducible rfl|(rw[hr];done)|(rw[hr];rfl)|exact aJ _|rfl)
 have hok:aW k=true:=gP c18
 have hlg:=eA hok
 have hK:=kQ hok
 have h6:=fD (gF hok)
 have hkb:=nK hok
 have hsk:dF k.log k.forced=true:=(eN hlg.1).2.1
 obtain⟨⟨_,htm,hnx,_⟩,_⟩:=(cC _).1 (gF hok)
 refine sk (sq (rT [2,3,4,6,7] (s1 (bP (robj:=[]) (rl:=[(0,22)]) (bor:=[]) (jg k (⟨by omega,fun x hx=>by have:=hlg.2.2.2.2.2 x hx;omega⟩)) rfl rfl rfl rfl ⟨eC rfl (aG rfl (aG rfl (aG rfl (aG rfl (aG rfl aN))))) trivial,rfl⟩ rfl (.inl rfl) (fun p hp=>nomatch hp) (fun j hj=>by(obtain rfl:j=0:=by simpa[kU,cE,iS] using hj);rfl) (s2 (sq (sq (rT [2,3,4,6,7,37] (s4 (y1 (xc (fun h=>(dx f)) (ai rfl (ai rk ?_)))))))))))))
 refine y1 (ai pk (s1 (y4 (y1 (ai pk (cd rfl (fun c37=> ?_) fun c37=> ?_))))))
 · have hnot: ¬(k.up&&eQ f&&f.dst==k.id)=true:=by intro h;simp at h;simp[h.1.1,h.1.2,h.2] at c37
   refine sq (rT [4,5] (s4 (rt ?_)))
   have hr:dJ k f=(k,[]):=yt hok hnot
   refine rq [] [22,15] rfl ?_
   repeat' apply ai
   all_goals try exact qx
   all_goals(first|with_reducible rfl|(rw[hr];done)|(rw[hr];rfl)|exact aJ _|rfl)
 have hgo: (k.up&&eQ f&&f.dst==k.id)=true:=by simp at c37;simp[c37]
 have hu:k.up=true:=by simp at hgo;exact hgo.1.1
 have hf:eQ f=true:=by simp at hgo;exact hgo.1.2
 refine sk (sq (sq (rT [2,3,4,6,7,42] (s3 (cd rfl (fun c42=> ?_) fun c42=> ?_)))))
 · have hkd:f.kind=1:=by simpa using c42
   have hhh:=sy hok hu hf hkd
   refine sq (rT [4,8,9] (s2 (bP (robj:=[(22,.row 138 6 (aZ k.halves))]) (rl:=[(0,22)]) (bor:=[]) (ua k f hok hu hf hkd) rfl rfl rfl rfl ⟨eC rfl (aG rfl (aG rfl (aG rfl (aG rfl (bU rfl rfl rfl aN))))) (eC rfl (aG rfl (aG rfl (aG rfl (aG rfl (aG rfl (aG rfl (aG rfl (aG rfl (aG rfl (aG rfl aN)))))))))) (bZ rfl rfl trivial)),rfl⟩ rfl (.inl rfl) (aM ⟨rfl,trivial⟩) (fun _ hj=>nomatch hj) (s6 (sq (rT [4,5] (s1 (xp (gH (dZ k f).1 ⟨by have:=hhh.2;omega,fun x hx=>by have:=aKy hhh.1 x hx;omega⟩) (ai rfl ?_)))))))))
   refine s3 (rt ?_)
   have hr:dJ k f=dZ k f:=jc hok hgo hkd
   refine rq [] [] rfl ?_
   repeat' apply ai
   all_goals try exact qx
   all_goals(first|with_reducible rfl|(rw[hr];done)|(rw[hr];rfl)|exact aJ _|rfl)
 have hkd: ¬f.kind=1:=by simpa using c42
 have hfs:=mO hf
 refine sk (sq (rT [3,4,6,7,10] (s1 (xp (gW k (by omega)) (ai rfl ?_)))))
 refine s6 (sq (rT [3,4,6,7,10,12] (s6 (xp (gG (bA k).1.held f.frm f.num (by have:=h6.1.1;omega)) (ai rfl ?_)))))
 refine s1 (sq (sq (rD [3,4,6,7,92] (s4 (y2 (ai pk (s1 (y3 (ai (fun h=>(by simp[gb] at h;obtain⟨j,hj,hjl,_⟩:=sG hok (f:=f.frm) (n:=f.num) (by omega);rw[hj,aXy,aX hjl];exact⟨⟨by omega,by rw[aH];omega⟩,rfl⟩)) (ai rk (y1 (ai (fun h=>(by simp[gb] at h;obtain⟨j,hj,hjl,_⟩:=sG hok (f:=f.frm) (n:=f.num) (by omega);rw[hj,aXy,aX hjl];exact⟨aX0 rfl,rfl⟩)) (ai rk (y3 (ai pk (s1 (y3 (ai (fun h=>(by simp[gb] at h;obtain⟨j,hj,hjl,_⟩:=sG hok (f:=f.frm) (n:=f.num) (by omega);rw[hj,aXy,aX hjl];exact⟨⟨by omega,by rw[aH];omega⟩,rfl⟩)) (ai rk (y1 (ai (fun h=>(by simp[gb] at h;obtain⟨j,hj,hjl,_⟩:=sG hok (f:=f.frm) (n:=f.num) (by omega);rw[hj,aXy,aX hjl];exact⟨aX0 rfl,rfl⟩)) (ai rk (y3 (ai pk (ai (by kernel_rfl) (cd rfl (fun c92=> ?_) fun c92=> ?_))))))))))))))))))))))))))
 · have hno: ¬dc k f=true:=aPp hok c92
   refine sq (rT [4,5] (s4 (rt ?_)))
   have hr:dJ k f=(k,[]):=pw hok hgo hkd hno
   refine rq [] [22,15] rfl ?_
   repeat' apply ai
   all_goals try exact qx
   all_goals(first|with_reducible rfl|(rw[hr];done)|(rw[hr];rfl)|exact aJ _|rfl)
 have hyes:dc k f=true:=aM5 hok c92
 refine sk (sq (wa [tP 3 3,tP 4 4,tP 7 7,tO 6 15 0,oB 2 31 [.d (.i (k).id),.d (.b (k).up),.d (.s (k).log),.d (.i (k).forced),.d (.sl (aZ (k).halves))],oB 3 63 [.d (.i f.kind),.d (.i f.src),.d (.i f.dst),.d (.i f.frm),.d (.i f.num),.d (.i f.to),.d (.i f.til),.d (.i f.size),.d (.i f.mix),.d (.s f.data)],oB 4 31 [.d (.i 0),.d (.b false),.d (.s []),.d (.i 0),.nil],oB 7 31 [.d (.i (k).id),.d (.b (k).up),.d (.s (k).log),.d (.i (k).forced),.d (.sl (aZ (k).halves))],oR 15 63 10 []] [] [22] ?_ ?_))
 · repeat' apply ai
   all_goals first|exact qx|exact aJ _|rfl|exact qz
 have q1:=bW (k:=6) (n:=f.frm.toNat) (by simp;omega)
 have q2:=bW (k:=6) (n:=f.num.toNat) (by simp;omega)
 have q3:=bW (k:=6) (n:=f.til.toNat) (by simp;omega)
 have hll: (pr f).length≤100:=by simp[pr,lB,oD];omega
 refine rD [4,6,13] (s7 (xp (br f.frm f.num f.til (by have:=hfs;omega)) (ai rfl ?_)))
 refine ai (by show _≤9223372036854775807;(try simp only[aXz,aX1,aX2]);omega) (xp (nM k (pr f) false hok (by omega)) (ai rfl ?_))
 refine s6 (ai (by kernel_rfl) (sq (rT [4,5] (s4 (rt ?_)))))
 have hr:dJ k f=((gA k (pr f) false).1,[]):=yu hok hgo hkd hyes
 refine rq [] [15] rfl ?_
 repeat' apply ai
 all_goals try exact qx
 all_goals(first|with_reducible rfl|(rw[hr];done)|(rw[hr];rfl)|exact aJ _|rfl)
theorem nh (k:aK) (keep:Int) (hl:k.log.length≤140737488355328):Sp 16 2 [tV 0 k.V,tI 1 keep] [tV 0 ((fO k keep).V)]:=by
 refine sb Tryz.func16 rfl (sq (rT [1,2,4] (s2 (sq (sq (rT [1,2,4,7] (s1 (xp (iK k hl) (ai rfl ?_)))))))))
 refine s1 (cd rfl (fun c7=> ?_) fun c7=> ?_)
 · have hno: ¬aW k=true:=lF c7
   refine sq (rT [4] (s2 (rt ?_)))
   have hr:fO k keep= .zero:=aB hno
   refine rq [] [] rfl ?_
   repeat' apply ai
   all_goals try exact qx
   all_goals(first|with_reducible rfl|(rw[hr];done)|(rw[hr];rfl)|rfl)
 have hok:aW k=true:=gP c7
 have hlg:=eA hok
 refine sk (sq (rD [4] (s5 (xp (qk k.log k.forced keep (by omega)) (ai rfl ?_)))))
 refine s2 (ai (by kernel_rfl) (rt ?_))
 have hr:fO k keep=⟨k.id,false,(fY k.log k.forced keep).1,(fY k.log k.forced keep).2,[]⟩:=aC hok
 refine rq [] [] rfl ?_
 repeat' apply ai
 all_goals try exact qx
 all_goals(first|with_reducible rfl|(rw[hr];done)|(rw[hr];rfl)|rfl)
theorem ni (k:aK) (keep:Int) (hl:k.log.length≤140737488355328):Sp 18 2 [tV 0 k.V,tI 1 keep] [tV 0 ((fO k keep).V)]:=by
 refine sb Tryz.func18 rfl (sq (rT [1,2,4] (s2 (sq (sq (rT [1,2,4,7] (s1 (xp (lI k hl) (ai rfl ?_)))))))))
 refine s1 (cd rfl (fun c7=> ?_) fun c7=> ?_)
 · have hno: ¬aW k=true:=lF c7
   refine sq (rT [4] (s2 (rt ?_)))
   have hr:fO k keep= .zero:=aB hno
   refine rq [] [] rfl ?_
   repeat' apply ai
   all_goals try exact qx
   all_goals(first|with_reducible rfl|(rw[hr];done)|(rw[hr];rfl)|rfl)
 have hok:aW k=true:=gP c7
 have hlg:=eA hok
 refine sk (sq (rD [4] (s5 (xp (qj k.log k.forced keep (by omega)) (ai rfl ?_)))))
 refine s2 (ai (by kernel_rfl) (rt ?_))
 have hr:fO k keep=⟨k.id,false,(fY k.log k.forced keep).1,(fY k.log k.forced keep).2,[]⟩:=aC hok
 refine rq [] [] rfl ?_
 repeat' apply ai
 all_goals try exact qx
 all_goals(first|with_reducible rfl|(rw[hr];done)|(rw[hr];rfl)|rfl)
theorem nj (k:aK) (hl:k.log.length≤140737488355328):Sp 22 1 [tV 0 k.V] [tV 0 ((fI k).V)]:=by
 refine sb Tryz.func22 rfl (sq (rT [1,2] (s2 (sq (sq (rT [1,2,5] (s1 (xp (iK k hl) (ai rfl ?_)))))))))
 refine s1 (cd rfl (fun c5=> ?_) fun c5=> ?_)
 · have hno: ¬aW k=true:=lF c5
   refine sq (rT [2] (s2 (rt ?_)))
   have hr:fI k= .zero:=aB hno
   refine rq [] [] rfl ?_
   repeat' apply ai
   all_goals try exact qx
   all_goals(first|with_reducible rfl|(rw[hr];done)|(rw[hr];rfl)|rfl)
 have hok:aW k=true:=gP c5
 have hlg:=eA hok
 refine sk (sq (sq (rT [1,2,8] (s2 (cd rfl (fun c8=> ?_) fun c8=> ?_)))))
 · have hu:k.up=true:=c8
   refine sq (rT [2] (s1 (xp (gH k (⟨by omega,fun x hx=>by have:=hlg.2.2.2.2.2 x hx;omega⟩)) (ai rfl ?_))))
   refine s1 (rt ?_)
   have hr:fI k=k:=by rw[fI,aC hok];cases k;simp at hu;simp[hu]
   refine rq [] [] rfl ?_
   repeat' apply ai
   all_goals try exact qx
   all_goals(first|with_reducible rfl|(rw[hr];done)|(rw[hr];rfl)|rfl)
 have hu:k.up=false:=c8
 refine sk (sq (rT [2] (s6 (rt ?_))))
 have hr:=aMt hok hu
 refine rq [] [] rfl ?_
 repeat' apply ai
 all_goals try exact qx
 all_goals(first|with_reducible rfl|(rw[hr];done)|(rw[hr];rfl)|rfl)
theorem nk (k:aK) (hl:k.log.length≤140737488355328):Sp 23 1 [tV 0 k.V] [tV 0 ((fI k).V)]:=by
 refine sb Tryz.func23 rfl (sq (rT [1,2] (s2 (sq (sq (rT [1,2,6] (s1 (xp (lI k hl) (ai rfl ?_)))))))))
 refine s1 (cd rfl (fun c6=> ?_) fun c6=> ?_)
 · have hno: ¬aW k=true:=lF c6
   refine sq (rT [2] (s2 (rt ?_)))
   have hr:fI k= .zero:=aB hno
   refine rq [] [] rfl ?_
   repeat' apply ai
   all_goals try exact qx
   all_goals(first|with_reducible rfl|(rw[hr];done)|(rw[hr];rfl)|rfl)
 have hok:aW k=true:=gP c6
 have hlg:=eA hok
 refine sk (sq (rT [2,3] (s1 (xp (lN k (⟨by omega,fun x hx=>by have:=hlg.2.2.2.2.2 x hx;omega⟩)) (ai rfl ?_)))))
 refine s2 (sq (rT [2,3] (s2 (sq (rT [2] (s2 (rt ?_)))))))
 have hr:fI k={k with up:=true}:=aC hok
 refine rq [] [] rfl ?_
 repeat' apply ai
 all_goals try exact qx
 all_goals(first|with_reducible rfl|(rw[hr];done)|(rw[hr];rfl)|rfl)
theorem ji (k:aK) (hl:k.log.length≤140737488355328):Sp 24 1 [tV 0 k.V] [tV 0 (.tup [.agg [.d (.i ((eW k).1).id),.d (.b ((eW k).1).up),.d (.s ((eW k).1).log),.d (.i ((eW k).1).forced),.d (.sl (aZ ((eW k).1).halves))],.c (.d (.b (eW k).2))])]:=by
 refine sb Tryz.func24 rfl (sq (rT [1,2] (s3 (sq (sq (rT [1,2,7] (s1 (xp (iK k hl) (ai rfl ?_)))))))))
 refine s1 (cd rfl (fun c7=> ?_) fun c7=> ?_)
 · have hno: ¬aW k=true:=lF c7
   refine sq (rT [2,3] (s3 (rt ?_)))
   have hr:eW k=(.zero,false):=aB hno
   refine rq [] [] rfl ?_
   repeat' apply ai
   all_goals try exact qx
   all_goals(first|with_reducible rfl|(rw[hr];done)|(rw[hr];rfl)|rfl)
 have hok:aW k=true:=gP c7
 have hlg:=eA hok
 refine sk (sq (rT [1,2,4] (s1 (xp (gH k (⟨by omega,fun x hx=>by have:=hlg.2.2.2.2.2 x hx;omega⟩)) (ai rfl ?_)))))
 refine s2 (sq (sq (rT [1,2,4,23] (s4 (y4 (y4 (ai pk (cd rfl (fun c23=> ?_) fun c23=> ?_))))))))
 · refine sq (rT [2,3] (s3 (rt ?_)))
   have hr:eW k=(k,false):=by rw[eW,aC hok,aC c23]
   refine rq [] [] rfl ?_
   repeat' apply ai
   all_goals try exact qx
   all_goals(first|with_reducible rfl|(rw[hr];done)|(rw[hr];rfl)|rfl)
 refine sk (sq (rT [2,4] (s2 (xp (iD k.log k.forced (by omega)) (ai rfl ?_)))))
 refine s2 (sq (rT [2,3] (s3 (rt ?_))))
 have hr:eW k=(jR k,true):=by rw[eW,aC hok,aB (by rw[c23];decide)]
 refine rq [] [] rfl ?_
 repeat' apply ai
 all_goals try exact qx
 all_goals(first|with_reducible rfl|(rw[hr];done)|(rw[hr];rfl)|rfl)
theorem ec (a:Nat) (l:List cI) (ha:a≤30) (hl:l.length≤1000) (hp: ∀f∈l,FP f):Sp 268 2 [tV 0 (.e (.c (ps 804 4 (a)))),tD 1 (.sl (nP l)),(.o 804,aO 260 4 fQ)] [tV 0 (.e (.c (ps 804 4 (gk a l.length)))),(.o 804,aO 260 4 fQ)]:=by
 refine sb Tryz.func268 rfl (sq (rT [0,1] (s1 (sq (sq (rT [0,1,5] (s1 (bk (SW.loopW (n:=l.length) (fun m q=> ∃i:Nat,m=l.length - i∧(i≤l.length∧a+i≤30)∧q=[tV 0 (.e (.c (ps 804 4 (a+i)))),tD 1 (.sl (nP l)),tI 5 (i:Nat),(.o 804,aO 260 4 fQ)]) ?_ ?_)))))))))
 · exact wq (σ':=[tV 0 (.e (.c (ps 804 4 (a+0)))),tD 1 (.sl (nP l)),tI 5 (0:Nat),(.o 804,aO 260 4 fQ)]) [] [] (⟨0,rfl,⟨aX5 _,ha⟩,rfl⟩) qz
 rintro n s ⟨i,rfl,hi,rfl⟩
 refine sq (sq (rT [0,1,5,14] (s5 (y1 (aEo cK rfl rfl rfl rfl rfl rk (y1 (ai pk (cd rfl (fun c14=> ?_) fun c14=> ?_))))))))
 · have hi2:i<l.length∧a+i<30:=by simp[mG] at c14;omega
   have hg:=yw (l:=l) hi2.1
   have hfp:=hp _ (dQ (z:=cI.zero) hi2.1)
   refine sk (sq (bk (rD [0,1,5] (s3 (ai (by rw[aXy,hg];exact⟨⟨by omega,by rw[mG];omega⟩,rfl⟩) (s1 (ai (by rw[aXy,hg];exact⟨aX0 rfl,rfl⟩) (s2 (ai (by rw[aXy,hg];exact⟨⟨by omega,by rw[mG];omega⟩,rfl⟩) (s1 (ai (by rw[aXy,hg];exact⟨aX0 rfl,rfl⟩) (s2 (ai (by rw[aXy,hg];exact⟨⟨by omega,by rw[mG];omega⟩,rfl⟩) (ai (by rw[aXy,hg];exact⟨aX0 rfl,rfl⟩) (bP (robj:=[]) (rl:=[(0,32)]) (bor:=[]) (sK (l.getD i .zero)) rfl rfl rfl rfl ⟨eC rfl (by rw[aXy,hg];exact(aG rfl (aG rfl (aG rfl (aG rfl (aG rfl (aG rfl (aG rfl (aG rfl (aG rfl (aG rfl aN))))))))))) trivial,rfl⟩ rfl (.inl rfl) (fun p hp=>nomatch hp) (fun j hj=>by(obtain rfl:j=0:=by simpa[kU,cE,iS] using hj);rfl) ?_)))))))))))))))
   refine ai (by exact⟨aY _,by rw[cL]⟩) (s2 (oq (m:=1) (z:=[.i 0,.i 0,.s [],.b false]) cK rfl rfl rfl rfl rfl rfl rfl rfl yv (kj cK (by decide) rfl rfl rfl (fun r hr=> ?_) rfl) ?_ ?_))
   · rw[List.mem_singleton.1 hr,aXy,hg]
     exact⟨rfl,⟨_,_,_,_⟩,rfl,hfp.1,by have:=aAk (l.getD i .zero);show(jV (aE (qH (l.getD i .zero)))).length≤1000;rw[cL];omega⟩
   · show(a+i+1)*40≤_;omega
   refine s1 (ai (by kernel_rfl) (rT [0,1,5] (s3 (wq [] [] (⟨l.length - (i+1),by omega,i+1,rfl,by omega,rfl⟩) ?_))))
   repeat' apply ai
   all_goals first|exact qx|exact aA D.i (by rw[aF (by omega)];omega)|omega|exact qz
 have hi3:i=l.length∨a+i=30:=by simp[mG] at c14;omega
 refine xt (sq (rT [4] (s2 (rt (eF _ [] [] rfl (aOq rfl rfl ?_ rfl (bE rfl rfl trivial)) rfl rfl)))))
 unfold gk;omega
theorem zn (a b:Int):Sp 266 2 [tI 0 a,tI 1 b] [tI 0 (dg a b)]:=by
 refine sb Tryz.func266 rfl (sq (rT [0,1] (s1 (sq (sq (rT [0,1,7] (s3 (cd rfl (fun c7=> ?_) fun c7=> ?_))))))))
 · refine sq (rT [4] (s2 (rt (bQ rfl (aA D.i ?_)))))
   simp[dg] at *; omega
 refine sk (sq (rT [4] (s2 (rt (bQ rfl (aA D.i ?_))))))
 simp[dg] at *; omega
theorem aBe (tm:Int) (ks:List aK) (ls:List Bool) (a b c:Nat) (e:EvR) (hw:WOk ks ls a b c) (htx:e.text.length≤1000) (hat:0≤e.at_∧e.at_≤3):tn 269 2 [tV 0 (.e (.agg [.d (.i (tm)),.own 802 4,.own 803 3,ps 804 4 (a),ps 805 5 (b),ps 806 5 (c)])),(.t 1,.v e.V),oR 802 31 5 (aL ks),oR 803 4 1 (aQ ls),(.o 804,aO 260 4 fQ),(.o 805,aO 52 5 cO),(.o 806,aO 52 5 cO)] (fun s=> ∃(tm:Int) (ks:List aK) (ls:List Bool) (a b c:Nat) (ok:Bool),WOk ks ls a b c∧s=[tV 0 (.tup [.agg [.d (.i (tm)),.own 802 4,.own 803 3,ps 804 4 (a),ps 805 5 (b),ps 806 5 (c)],.c (.d (.b (ok)))]),oR 802 31 5 (aL ks),oR 803 4 1 (aQ ls),(.o 804,aO 260 4 fQ),(.o 805,aO 52 5 cO),(.o 806,aO 52 5 cO)]):=by
 obtain⟨i,hi,hil⟩:=ar hat
 have hks:=hw.at hil
 refine ul Tryz.func269 rfl (sq (rT [2,3,4] (s4 (sq (sq (rT [2,3,4,11] (s2 (ig cK rfl rfl rfl rfl rfl (s1 (cd rfl (fun c11=> ?_) fun c11=> ?_))))))))))
 · refine sq (rT [4,5] (s3 (rt (cX [tV 0 (.tup [.agg [.d (.i (tm)),.own 802 4,.own 803 3,ps 804 4 (a),ps 805 5 (b),ps 806 5 (c)],.c (.d (.b (false)))]),oR 802 31 5 (aL ks),oR 803 4 1 (aQ ls),(.o 804,aO 260 4 fQ),(.o 805,aO 52 5 cO),(.o 806,aO 52 5 cO)] ⟨tm,ks,ls,a,b,c,false,hw,rfl⟩ (rq [] [] rfl ?_)))))
   repeat' apply ai
   all_goals try exact qx
   all_goals(first|with_reducible rfl|(rw[hi,aXy];exact bO (by rw[hw.four];exact hil))|rfl)
 have hb6:b<6:=by simp at c11;omega
 refine sk (sq (rD [2,3,4,6,7] (s4 (ai (by rw[hi];exact⟨by rw[bN];exact hw.four,by omega,by omega⟩) (ai (by rw[hi,aXy,cH (by rw[hw.four];exact hil)];exact⟨⟨by rw[bN];exact hw.four,hil⟩,aX0 rfl,rfl⟩) (s6 (xp (yP (ks.getD i .zero) e.dst e.til e.text (by have:=hks.1;omega) (by omega)) (ai (by rw[hi,aXy,cH (by rw[hw.four];exact hil)];rfl) ?_))))))))
 refine s6 (ai (by kernel_rfl) (sq (sq (rT [2,3,4,6,7,30] (s2 (cd rfl (fun c30=> ?_) fun c30=> ?_))))))
 · refine sq (rT [4,5] (s3 (rt (cX [tV 0 (.tup [.agg [.d (.i (tm)),.own 802 4,.own 803 3,ps 804 4 (a),ps 805 5 (b),ps 806 5 (c)],.c (.d (.b (false)))]),oR 802 31 5 (aL ks),oR 803 4 1 (aQ ls),(.o 804,aO 260 4 fQ),(.o 805,aO 52 5 cO),(.o 806,aO 52 5 cO)] ⟨tm,ks,ls,a,b,c,false,hw,rfl⟩ (rq [] [] rfl ?_)))))
   repeat' apply ai
   all_goals try exact qx
   all_goals(first|with_reducible rfl|(rw[hi,aXy];exact bO (by rw[hw.four];exact hil))|rfl)
 refine sk (sq (rT [2,3,4,7] (s5 (ai (by rw[hi];exact⟨by rw[bN];exact hw.four,by omega,by omega⟩) (ai (by rw[hi,aXy,cH (by rw[hw.four];exact hil)];exact⟨by rw[bN];exact hw.four,hil,rfl,aX0 rfl⟩) (sq (wa [tP 2 2,tP 3 3,tP 4 4,tI 7 ((aU (ks.getD i .zero) e.dst e.til e.text).2),oB 2 123 [.d (.i (tm)),.own 802 4,.own 803 3,ps 804 4 (a),ps 805 5 (b),ps 806 5 (c)],oB 3 204 [.d (.i e.kind),.d (.i e.at_),.d (.i e.frm),.d (.i e.num),.d (.i e.word),.d (.i e.mix),.d (.i e.keep),.d (.i e.dst),.d (.i e.til),.d (.s e.text)],oB 4 123 [.d (.i 0),.nil,.nil,.nil,.nil,.nil],oB 6 31 [.d (.i (((aU (ks.getD i .zero) e.dst e.til e.text).1)).id),.d (.b (((aU (ks.getD i .zero) e.dst e.til e.text).1)).up),.d (.s (((aU (ks.getD i .zero) e.dst e.til e.text).1)).log),.d (.i (((aU (ks.getD i .zero) e.dst e.til e.text).1)).forced),.d (.sl (aZ (((aU (ks.getD i .zero) e.dst e.til e.text).1)).halves))],oR 802 31 5 (aL (ks.set i (aU (ks.getD i .zero) e.dst e.til e.text).1)),oR 803 4 1 (aQ ls),(.o 804,aO 260 4 fQ),(.o 805,aO 52 5 cO),(.o 806,aO 52 5 cO)] [] [] ?_ ?_)))))))
 · repeat' apply ai
   all_goals first|exact qx|(rw[hi,aXy];exact bO (k:=(aU (ks.getD i .zero) e.dst e.til e.text).1) (by rw[hw.four];exact hil))|rfl|exact qz
 refine rT [2,4] (s9 (s4 (oq (m:=1) (z:=[.i 0,.i 0,.i 0,.i 0,.s []]) cK rfl rfl rfl rfl rfl rfl rfl rfl aG8 (kj cK (by decide) rfl rfl rfl (fun r hr=> ?_) rfl) ?_ ?_)))
 · rw[List.mem_singleton.1 hr]
   exact⟨rfl,⟨_,_,_,_,_⟩,rfl,by show e.text.length≤1000000;omega⟩
 · have:=hw.rb;show(_+1)*48≤_;omega
 refine s2 (sq (rT [4,5] (s3 (rt (cX [tV 0 (.tup [.agg [.d (.i (tm)),.own 802 4,.own 803 3,ps 804 4 (a),ps 805 5 ((b+1)),ps 806 5 (c)],.c (.d (.b (true)))]),oR 802 31 5 (aL (ks.set i (aU (ks.getD i .zero) e.dst e.til e.text).1)),oR 803 4 1 (aQ ls),(.o 804,aO 260 4 fQ),(.o 805,aO 52 5 cO),(.o 806,aO 52 5 cO)] ⟨tm,(ks.set i (aU (ks.getD i .zero) e.dst e.til e.text).1),ls,a,(b+1),c,true,((hw.set (aM6 hks) i).to hw.ra (by omega) hw.rc),rfl⟩ (rq [] [] rfl ?_))))))
 repeat' apply ai
 all_goals try exact qx
 all_goals(first|with_reducible rfl|(rw[hi,aXy];exact bO (by rw[hw.four];exact hil))|rfl)
theorem qt (tm:Int) (ks:List aK) (ls:List Bool) (a b c:Nat) (e:EvR) (hw:WOk ks ls a b c) (htx:e.text.length≤1000) (hat:0≤e.at_∧e.at_≤3):tn 259 2 [tV 0 (.e (.agg [.d (.i (tm)),.own 802 4,.own 803 3,ps 804 4 (a),ps 805 5 (b),ps 806 5 (c)])),(.t 1,.v e.V),oR 802 31 5 (aL ks),oR 803 4 1 (aQ ls),(.o 804,aO 260 4 fQ),(.o 805,aO 52 5 cO),(.o 806,aO 52 5 cO)] (fun s=> ∃(tm:Int) (ks:List aK) (ls:List Bool) (a b c:Nat) (ok:Bool),WOk ks ls a b c∧s=[tV 0 (.tup [.agg [.d (.i (tm)),.own 802 4,.own 803 3,ps 804 4 (a),ps 805 5 (b),ps 806 5 (c)],.c (.d (.b (ok)))]),oR 802 31 5 (aL ks),oR 803 4 1 (aQ ls),(.o 804,aO 260 4 fQ),(.o 805,aO 52 5 cO),(.o 806,aO 52 5 cO)]):=by
 obtain⟨i,hi,hil⟩:=ar hat
 have hks:=hw.at hil
 refine ul Tryz.func259 rfl (sq (rT [2,3,4] (s4 (sq (rT [2,3,4,6] (s4 (ai (by rw[hi];exact⟨by rw[bN];exact hw.four,by omega,by omega⟩) (ai (by rw[hi,aXy,cH (by rw[hw.four];exact hil)];exact⟨⟨by rw[bN];exact hw.four,hil⟩,aX0 rfl,rfl⟩) (s2 (sq (wa [tP 2 2,tP 3 3,tP 4 4,tP 6 6,oB 2 123 [.d (.i (tm)),.own 802 4,.own 803 3,ps 804 4 (a),ps 805 5 (b),ps 806 5 (c)],oB 3 204 [.d (.i e.kind),.d (.i e.at_),.d (.i e.frm),.d (.i e.num),.d (.i e.word),.d (.i e.mix),.d (.i e.keep),.d (.i e.dst),.d (.i e.til),.d (.s e.text)],oB 4 123 [.d (.i 0),.nil,.nil,.nil,.nil,.nil],oB 6 31 [.d (.i ((ks.getD i .zero)).id),.d (.b ((ks.getD i .zero)).up),.d (.s ((ks.getD i .zero)).log),.d (.i ((ks.getD i .zero)).forced),.d (.sl (aZ ((ks.getD i .zero)).halves))],oR 802 31 5 (aL ks),oR 803 4 1 (aQ ls),(.o 804,aO 260 4 fQ),(.o 805,aO 52 5 cO),(.o 806,aO 52 5 cO)] [] [] ?_ ?_)))))))))))
 · repeat' apply ai
   all_goals first|exact qx|(rw[hi,aXy,cH (by rw[hw.four];exact hil)];rfl)|exact qz
 refine rT [2,3,4,6,7] (s1 (SW.midW (fun q=> ∃(ks2:List aK) (ok2:Bool),WOk ks2 ls a b c∧q=[tP 2 2,tP 4 4,tB 7 ok2,oB 2 123 [.d (.i (tm)),.own 802 4,.own 803 3,ps 804 4 (a),ps 805 5 (b),ps 806 5 (c)],oB 3 204 [.d (.i e.kind),.d (.i e.at_),.d (.i e.frm),.d (.i e.num),.d (.i e.word),.d (.i e.mix),.d (.i e.keep),.d (.i e.dst),.d (.i e.til),.d (.s e.text)],oB 4 123 [.d (.i 0),.nil,.nil,.nil,.nil,.nil],oR 802 31 5 (aL ks2),oR 803 4 1 (aQ ls),(.o 804,aO 260 4 fQ),(.o 805,aO 52 5 cO),(.o 806,aO 52 5 cO)]) ?_ ?_))
 · refine sq (rT [2,3,4,6,7,20] (s2 (bk (sq (rT [2,3,4,6,7,20,21] (s2 (cd rfl (fun c21=> ?_) fun c21=> ?_)))))))
   · refine sq (rE [4,5] (s2 (dB (robj:=[(802,.row 31 5 (aL ks)),(803,.row 4 1 (aQ ls)),(804,aO 260 4 fQ),(805,aO 52 5 cO),(806,aO 52 5 cO)]) (rl:=[]) (bor:=[]) (news:=[]) (aBe tm ks ls a b c e hw htx hat) rfl rfl rfl rfl ⟨eC rfl (aG rfl (bU rfl rfl rfl (bU rfl rfl rfl (bM rfl rfl rfl (bM rfl rfl rfl (bM rfl rfl rfl aN)))))) (eC rfl (aG rfl (aG rfl (aG rfl (aG rfl (aG rfl (aG rfl (aG rfl (aG rfl (aG rfl (aG rfl aN)))))))))) (bZ rfl rfl (bZ rfl rfl (bE rfl rfl (bE rfl rfl (bE rfl rfl trivial)))))),rfl⟩ (by rintro _ ⟨tm2,ks2,ls2,a2,b2,c2,ok2,hw2,rfl⟩;exact⟨rfl,.inl rfl,fun j hj=>nomatch hj⟩) (aM ⟨rfl,rfl,rfl,rfl,rfl,trivial⟩) (fun j hj=>nomatch hj) ?_)))
     rintro _ ⟨tm2,ks2,ls2,a2,b2,c2,ok2,hw2,rfl⟩
     refine s4 (rt (cX [tV 0 (.tup [.agg [.d (.i (tm2)),.own 802 4,.own 803 3,ps 804 4 (a2),ps 805 5 (b2),ps 806 5 (c2)],.c (.d (.b (ok2)))]),oR 802 31 5 (aL ks2),oR 803 4 1 (aQ ls2),(.o 804,aO 260 4 fQ),(.o 805,aO 52 5 cO),(.o 806,aO 52 5 cO)] ⟨tm2,ks2,ls2,a2,b2,c2,ok2,hw2,rfl⟩ (rq [] [] rfl ?_)))
     repeat' apply ai
     all_goals try exact qx
     all_goals(first|with_reducible rfl|(rw[hi,aXy];exact bO (by rw[hw.four];exact hil))|rfl)
   refine sq (rT [2,3,4,6,7,20,28] (s2 (cd rfl (fun c28=> ?_) fun c28=> ?_)))
   · refine rD [2,4,7] (s5 (xp (wS (ks.getD i .zero) (by have:=hks.1;omega)) (ai rfl ?_)))
     refine s3 (ai (by rw[hi];exact⟨by rw[bN];exact hw.four,by omega,by omega⟩) (ai (by rw[hi,aXy,cH (by rw[hw.four];exact hil)];exact⟨by rw[bN];exact hw.four,hil,rfl,aX0 rfl⟩) (s1 (ai (by kernel_rfl) ?_))))
     first
     |(refine wq [] [] (⟨(ks.set i (cF (ks.getD i .zero)).1),(cF (ks.getD i .zero)).2,(hw.set (ap hks) i),rfl⟩) ?_
       repeat' apply ai
       all_goals try exact qx
       all_goals(first|with_reducible rfl|(rw[hi,aXy];exact bO (by rw[hw.four];exact hil))|rfl))
     |(refine wq [] [] (⟨(ks.set i (eP (ks.getD i .zero)).1),(eP (ks.getD i .zero)).2,(hw.set (aq hks) i),rfl⟩) ?_
       repeat' apply ai
       all_goals try exact qx
       all_goals(first|with_reducible rfl|(rw[hi,aXy];exact bO (by rw[hw.four];exact hil))|rfl))
     |(refine wq [] [] (⟨(ks.set i (eW (ks.getD i .zero)).1),(eW (ks.getD i .zero)).2,(hw.set (wQ hks) i),rfl⟩) ?_
       repeat' apply ai
       all_goals try exact qx
       all_goals(first|with_reducible rfl|(rw[hi,aXy];exact bO (by rw[hw.four];exact hil))|rfl))
     |(refine wq [] [] (⟨ks,false,hw,rfl⟩) ?_
       repeat' apply ai
       all_goals try exact qx
       all_goals(first|with_reducible rfl|(rw[hi,aXy];exact bO (by rw[hw.four];exact hil))|rfl))
   refine sq (rT [2,3,4,6,7,20,40] (s2 (cd rfl (fun c40=> ?_) fun c40=> ?_)))
   · refine sq (rT [2,4,8,9] (s7 (xp (qm (ks.getD i .zero) e.frm e.num e.mix (by have:=hks.1;omega)) (ai rfl ?_))))
     refine s6 (sq (sq (rT [2,4,8,9,53] (s1 (cd rfl (fun c53=> ?_) fun c53=> ?_)))))
     · refine rE [2,4,9] (s4 (zG 57 57 rfl rfl rfl (by rfl) (iO (bP (robj:=[(804,aO 260 4 fQ)]) (rl:=[]) (bor:=[]) (ec a [(eT (ks.getD i .zero) e.frm e.num e.mix).1] hw.ra (by simp) (fun f hf=>by rw[List.mem_singleton.1 hf];exact aV3 c53)) rfl rfl rfl rfl ⟨aOq rfl rfl rfl rfl (cQ rfl rfl (bE rfl rfl trivial)),rfl⟩ rfl (.inl rfl) (aM ⟨rfl,trivial⟩) (fun j hj=>nomatch hj) (s2 (sq (rT [4,5] (s4 (rt ?_)))))))))
       first
       |(refine cX [tV 0 (.tup [.agg [.d (.i (tm)),.own 802 4,.own 803 3,ps 804 4 ((gk a 1)),ps 805 5 (b),ps 806 5 (c)],.c (.d (.b ((eT (ks.getD i .zero) e.frm e.num e.mix).2)))]),oR 802 31 5 (aL ks),oR 803 4 1 (aQ ls),(.o 804,aO 260 4 fQ),(.o 805,aO 52 5 cO),(.o 806,aO 52 5 cO)] ⟨tm,ks,ls,(gk a 1),b,c,(eT (ks.getD i .zero) e.frm e.num e.mix).2,(hw.to (yx hw.ra) hw.rb hw.rc),rfl⟩ (rq [] [] rfl ?_)
         repeat' apply ai
         all_goals try exact qx
         all_goals(first|with_reducible rfl|(rw[hi,aXy];exact bO (by rw[hw.four];exact hil))|rfl))
       |(refine cX [tV 0 (.tup [.agg [.d (.i (tm)),.own 802 4,.own 803 3,ps 804 4 (a),ps 805 5 (b),ps 806 5 (c)],.c (.d (.b ((eT (ks.getD i .zero) e.frm e.num e.mix).2)))]),oR 802 31 5 (aL ks),oR 803 4 1 (aQ ls),(.o 804,aO 260 4 fQ),(.o 805,aO 52 5 cO),(.o 806,aO 52 5 cO)] ⟨tm,ks,ls,a,b,c,(eT (ks.getD i .zero) e.frm e.num e.mix).2,hw,rfl⟩ (rq [] [] rfl ?_)
         repeat' apply ai
         all_goals try exact qx
         all_goals(first|with_reducible rfl|(rw[hi,aXy];exact bO (by rw[hw.four];exact hil))|rfl))
     refine sk (sq (rT [4,5] (s4 (rt ?_))))
     first
     |(refine cX [tV 0 (.tup [.agg [.d (.i (tm)),.own 802 4,.own 803 3,ps 804 4 ((gk a 1)),ps 805 5 (b),ps 806 5 (c)],.c (.d (.b ((eT (ks.getD i .zero) e.frm e.num e.mix).2)))]),oR 802 31 5 (aL ks),oR 803 4 1 (aQ ls),(.o 804,aO 260 4 fQ),(.o 805,aO 52 5 cO),(.o 806,aO 52 5 cO)] ⟨tm,ks,ls,(gk a 1),b,c,(eT (ks.getD i .zero) e.frm e.num e.mix).2,(hw.to (yx hw.ra) hw.rb hw.rc),rfl⟩ (rq [] [] rfl ?_)
       repeat' apply ai
       all_goals try exact qx
       all_goals(first|with_reducible rfl|(rw[hi,aXy];exact bO (by rw[hw.four];exact hil))|rfl))
     |(refine cX [tV 0 (.tup [.agg [.d (.i (tm)),.own 802 4,.own 803 3,ps 804 4 (a),ps 805 5 (b),ps 806 5 (c)],.c (.d (.b ((eT (ks.getD i .zero) e.frm e.num e.mix).2)))]),oR 802 31 5 (aL ks),oR 803 4 1 (aQ ls),(.o 804,aO 260 4 fQ),(.o 805,aO 52 5 cO),(.o 806,aO 52 5 cO)] ⟨tm,ks,ls,a,b,c,(eT (ks.getD i .zero) e.frm e.num e.mix).2,hw,rfl⟩ (rq [] [] rfl ?_)
       repeat' apply ai
       all_goals try exact qx
       all_goals(first|with_reducible rfl|(rw[hi,aXy];exact bO (by rw[hw.four];exact hil))|rfl))
   refine sq (rT [2,3,4,6,7,20,62] (s2 (cd rfl (fun c62=> ?_) fun c62=> ?_)))
   · refine sq (rD [2,4,6] (s7 (xp (nh (ks.getD i .zero) e.keep (by have:=hks.1;omega)) (ai rfl ?_))))
     refine ai (by rw[hi];exact⟨by rw[bN];exact hw.four,by omega,by omega⟩) (ai (by rw[hi,aXy,cH (by rw[hw.four];exact hil)];exact⟨by rw[bN];exact hw.four,hil,rfl,aX0 rfl⟩) (ai (by kernel_rfl) (sq (rD [4,5] (s5 (ai (by kernel_rfl) (rt (cX [tV 0 (.tup [.agg [.d (.i (tm)),.own 802 4,.own 803 3,ps 804 4 (a),ps 805 5 (b),ps 806 5 (c)],.c (.d (.b ((ks.getD i .zero).up)))]),oR 802 31 5 (aL (ks.set i (fO (ks.getD i .zero) e.keep))),oR 803 4 1 (aQ ls),(.o 804,aO 260 4 fQ),(.o 805,aO 52 5 cO),(.o 806,aO 52 5 cO)] ⟨tm,(ks.set i (fO (ks.getD i .zero) e.keep)),ls,a,b,c,(ks.getD i .zero).up,(hw.set (aJn hks) i),rfl⟩ (rq [] [] rfl ?_)))))))))
     repeat' apply ai
     all_goals try exact qx
     all_goals(first|with_reducible rfl|(rw[hi,aXy];exact bO (k:=(fO (ks.getD i .zero) e.keep)) (by rw[hw.four];exact hil))|rfl)
   refine sq (rT [2,3,4,6,7,20,76] (s2 (cd rfl (fun c76=> ?_) fun c76=> ?_)))
   · refine sq (rD [2,4,6] (s5 (xp (nj (ks.getD i .zero) (by have:=hks.1;omega)) (ai rfl ?_))))
     refine ai (by rw[hi];exact⟨by rw[bN];exact hw.four,by omega,by omega⟩) (ai (by rw[hi,aXy,cH (by rw[hw.four];exact hil)];exact⟨by rw[bN];exact hw.four,hil,rfl,aX0 rfl⟩) (ai (by kernel_rfl) (sq (rD [4,5] (s6 (ai (by kernel_rfl) (rt (cX [tV 0 (.tup [.agg [.d (.i (tm)),.own 802 4,.own 803 3,ps 804 4 (a),ps 805 5 (b),ps 806 5 (c)],.c (.d (.b ((!(ks.getD i .zero).up))))]),oR 802 31 5 (aL (ks.set i (fI (ks.getD i .zero)))),oR 803 4 1 (aQ ls),(.o 804,aO 260 4 fQ),(.o 805,aO 52 5 cO),(.o 806,aO 52 5 cO)] ⟨tm,(ks.set i (fI (ks.getD i .zero))),ls,a,b,c,(!(ks.getD i .zero).up),(hw.set (aJo hks) i),rfl⟩ (rq [] [] rfl ?_)))))))))
     repeat' apply ai
     all_goals try exact qx
     all_goals(first|with_reducible rfl|(rw[hi,aXy];exact bO (k:=(fI (ks.getD i .zero))) (by rw[hw.four];exact hil))|rfl)
   refine sq (rT [2,3,4,6,7,20,89] (s2 (cd rfl (fun c89=> ?_) fun c89=> ?_)))
   · refine sq (rT [2,3,4,10,11,12] (s5 (xp (qq (ks.getD i .zero) e.frm e.num (by have:=hks.1;omega)) (ai rfl ?_))))
     refine s9 (sq (sq (wa [tP 2 2,tP 3 3,tP 4 4,tP 10 10,tP 11 11,tB 12 ((cS (ks.getD i .zero) e.frm e.num).2.2),oB 2 123 [.d (.i (tm)),.own 802 4,.own 803 3,ps 804 4 (a),ps 805 5 (b),ps 806 5 (c)],oB 3 204 [.d (.i e.kind),.d (.i e.at_),.d (.i e.frm),.d (.i e.num),.d (.i e.word),.d (.i e.mix),.d (.i e.keep),.d (.i e.dst),.d (.i e.til),.d (.s e.text)],oB 4 123 [.d (.i 0),.nil,.nil,.nil,.nil,.nil],oB 10 31 [.d (.i (((cS (ks.getD i .zero) e.frm e.num).1)).id),.d (.b (((cS (ks.getD i .zero) e.frm e.num).1)).up),.d (.s (((cS (ks.getD i .zero) e.frm e.num).1)).log),.d (.i (((cS (ks.getD i .zero) e.frm e.num).1)).forced),.d (.sl (aZ (((cS (ks.getD i .zero) e.frm e.num).1)).halves))],oB 11 52 [.d (.i (cS (ks.getD i .zero) e.frm e.num).2.1.frm),.d (.i (cS (ks.getD i .zero) e.frm e.num).2.1.num),.d (.i (cS (ks.getD i .zero) e.frm e.num).2.1.to),.d (.i (cS (ks.getD i .zero) e.frm e.num).2.1.til),.d (.s (cS (ks.getD i .zero) e.frm e.num).2.1.text)],oR 802 31 5 (aL ks),oR 803 4 1 (aQ ls),(.o 804,aO 260 4 fQ),(.o 805,aO 52 5 cO),(.o 806,aO 52 5 cO)] [] [] qz (rT [2,3,4,10,11,107] (s2 (y2 (aEo cK rfl rfl rfl rfl rfl rk ?_)))))))
     refine y1 (ai pk (cd rfl (fun c107=> ?_) fun c107=> ?_))
     · have hc6:c<6:=by simp at c107;omega
       refine sq (rT [2,4,11] (s5 (ai (by rw[hi];exact⟨by rw[bN];exact hw.four,by omega,by omega⟩) (ai (by rw[hi,aXy,cH (by rw[hw.four];exact hil)];exact⟨by rw[bN];exact hw.four,hil,rfl,aX0 rfl⟩) (sq (wa [tP 2 2,tP 4 4,tP 11 11,oB 2 123 [.d (.i (tm)),.own 802 4,.own 803 3,ps 804 4 (a),ps 805 5 (b),ps 806 5 (c)],oB 3 204 [.d (.i e.kind),.d (.i e.at_),.d (.i e.frm),.d (.i e.num),.d (.i e.word),.d (.i e.mix),.d (.i e.keep),.d (.i e.dst),.d (.i e.til),.d (.s e.text)],oB 4 123 [.d (.i 0),.nil,.nil,.nil,.nil,.nil],oB 11 52 [.d (.i (cS (ks.getD i .zero) e.frm e.num).2.1.frm),.d (.i (cS (ks.getD i .zero) e.frm e.num).2.1.num),.d (.i (cS (ks.getD i .zero) e.frm e.num).2.1.to),.d (.i (cS (ks.getD i .zero) e.frm e.num).2.1.til),.d (.s (cS (ks.getD i .zero) e.frm e.num).2.1.text)],oR 802 31 5 (aL (ks.set i (cS (ks.getD i .zero) e.frm e.num).1)),oR 803 4 1 (aQ ls),(.o 804,aO 260 4 fQ),(.o 805,aO 52 5 cO),(.o 806,aO 52 5 cO)] [] [] ?_ ?_))))))
       · repeat' apply ai
         all_goals first|exact qx|(rw[hi,aXy];exact bO (k:=(cS (ks.getD i .zero) e.frm e.num).1) (by rw[hw.four];exact hil))|rfl|exact qz
       refine rT [2,4] (s4 (oq (m:=1) (z:=[.i 0,.i 0,.i 0,.i 0,.s []]) cK rfl rfl rfl rfl rfl rfl rfl rfl aG8 (kj cK (by decide) rfl rfl rfl (fun r hr=> ?_) rfl) ?_ ?_))
       · rw[List.mem_singleton.1 hr]
         exact⟨rfl,⟨_,_,_,_,_⟩,rfl,by exact aPr hks⟩
       · have:=hw.rc;show(_+1)*48≤_;omega
       refine s2 (sq (rT [4,5] (s3 (rt (cX [tV 0 (.tup [.agg [.d (.i (tm)),.own 802 4,.own 803 3,ps 804 4 (a),ps 805 5 (b),ps 806 5 ((c+1))],.c (.d (.b (true)))]),oR 802 31 5 (aL (ks.set i (cS (ks.getD i .zero) e.frm e.num).1)),oR 803 4 1 (aQ ls),(.o 804,aO 260 4 fQ),(.o 805,aO 52 5 cO),(.o 806,aO 52 5 cO)] ⟨tm,(ks.set i (cS (ks.getD i .zero) e.frm e.num).1),ls,a,b,(c+1),true,((hw.set (aM7 hks) i).to hw.ra hw.rb (by omega)),rfl⟩ (rq [] [] rfl ?_))))))
       repeat' apply ai
       all_goals try exact qx
       all_goals(first|with_reducible rfl|(rw[hi,aXy];exact bO (by rw[hw.four];exact hil))|rfl)
     refine sk (sq (rT [4,5] (s3 (rt (cX [tV 0 (.tup [.agg [.d (.i (tm)),.own 802 4,.own 803 3,ps 804 4 (a),ps 805 5 (b),ps 806 5 (c)],.c (.d (.b (false)))]),oR 802 31 5 (aL ks),oR 803 4 1 (aQ ls),(.o 804,aO 260 4 fQ),(.o 805,aO 52 5 cO),(.o 806,aO 52 5 cO)] ⟨tm,ks,ls,a,b,c,false,hw,rfl⟩ (rq [] [] rfl ?_))))))
     repeat' apply ai
     all_goals try exact qx
     all_goals(first|with_reducible rfl|(rw[hi,aXy];exact bO (by rw[hw.four];exact hil))|rfl)
   refine sq (rT [2,3,4,6,7,20,122] (s2 (cd rfl (fun c122=> ?_) fun c122=> ?_)))
   · refine rD [2,4,7] (s5 (xp (nf (ks.getD i .zero) (by have:=hks.1;omega)) (ai rfl ?_)))
     refine s3 (ai (by rw[hi];exact⟨by rw[bN];exact hw.four,by omega,by omega⟩) (ai (by rw[hi,aXy,cH (by rw[hw.four];exact hil)];exact⟨by rw[bN];exact hw.four,hil,rfl,aX0 rfl⟩) (s1 (ai (by kernel_rfl) ?_))))
     first
     |(refine wq [] [] (⟨(ks.set i (cF (ks.getD i .zero)).1),(cF (ks.getD i .zero)).2,(hw.set (ap hks) i),rfl⟩) ?_
       repeat' apply ai
       all_goals try exact qx
       all_goals(first|with_reducible rfl|(rw[hi,aXy];exact bO (by rw[hw.four];exact hil))|rfl))
     |(refine wq [] [] (⟨(ks.set i (eP (ks.getD i .zero)).1),(eP (ks.getD i .zero)).2,(hw.set (aq hks) i),rfl⟩) ?_
       repeat' apply ai
       all_goals try exact qx
       all_goals(first|with_reducible rfl|(rw[hi,aXy];exact bO (by rw[hw.four];exact hil))|rfl))
     |(refine wq [] [] (⟨(ks.set i (eW (ks.getD i .zero)).1),(eW (ks.getD i .zero)).2,(hw.set (wQ hks) i),rfl⟩) ?_
       repeat' apply ai
       all_goals try exact qx
       all_goals(first|with_reducible rfl|(rw[hi,aXy];exact bO (by rw[hw.four];exact hil))|rfl))
     |(refine wq [] [] (⟨ks,false,hw,rfl⟩) ?_
       repeat' apply ai
       all_goals try exact qx
       all_goals(first|with_reducible rfl|(rw[hi,aXy];exact bO (by rw[hw.four];exact hil))|rfl))
   refine sq (rT [2,3,4,6,7,134] (s2 (cd rfl (fun c134=> ?_) fun c134=> ?_)))
   · refine rD [2,4,7] (s5 (xp (ji (ks.getD i .zero) (by have:=hks.1;omega)) (ai rfl ?_)))
     refine s3 (ai (by rw[hi];exact⟨by rw[bN];exact hw.four,by omega,by omega⟩) (ai (by rw[hi,aXy,cH (by rw[hw.four];exact hil)];exact⟨by rw[bN];exact hw.four,hil,rfl,aX0 rfl⟩) (s1 (ai (by kernel_rfl) ?_))))
     first
     |(refine wq [] [] (⟨(ks.set i (cF (ks.getD i .zero)).1),(cF (ks.getD i .zero)).2,(hw.set (ap hks) i),rfl⟩) ?_
       repeat' apply ai
       all_goals try exact qx
       all_goals(first|with_reducible rfl|(rw[hi,aXy];exact bO (by rw[hw.four];exact hil))|rfl))
     |(refine wq [] [] (⟨(ks.set i (eP (ks.getD i .zero)).1),(eP (ks.getD i .zero)).2,(hw.set (aq hks) i),rfl⟩) ?_
       repeat' apply ai
       all_goals try exact qx
       all_goals(first|with_reducible rfl|(rw[hi,aXy];exact bO (by rw[hw.four];exact hil))|rfl))
     |(refine wq [] [] (⟨(ks.set i (eW (ks.getD i .zero)).1),(eW (ks.getD i .zero)).2,(hw.set (wQ hks) i),rfl⟩) ?_
       repeat' apply ai
       all_goals try exact qx
       all_goals(first|with_reducible rfl|(rw[hi,aXy];exact bO (by rw[hw.four];exact hil))|rfl))
     |(refine wq [] [] (⟨ks,false,hw,rfl⟩) ?_
       repeat' apply ai
       all_goals try exact qx
       all_goals(first|with_reducible rfl|(rw[hi,aXy];exact bO (by rw[hw.four];exact hil))|rfl))
   refine sk ?_
   first
   |(refine wq [] [] (⟨(ks.set i (cF (ks.getD i .zero)).1),(cF (ks.getD i .zero)).2,(hw.set (ap hks) i),rfl⟩) ?_
     repeat' apply ai
     all_goals try exact qx
     all_goals(first|with_reducible rfl|(rw[hi,aXy];exact bO (by rw[hw.four];exact hil))|rfl))
   |(refine wq [] [] (⟨(ks.set i (eP (ks.getD i .zero)).1),(eP (ks.getD i .zero)).2,(hw.set (aq hks) i),rfl⟩) ?_
     repeat' apply ai
     all_goals try exact qx
     all_goals(first|with_reducible rfl|(rw[hi,aXy];exact bO (by rw[hw.four];exact hil))|rfl))
   |(refine wq [] [] (⟨(ks.set i (eW (ks.getD i .zero)).1),(eW (ks.getD i .zero)).2,(hw.set (wQ hks) i),rfl⟩) ?_
     repeat' apply ai
     all_goals try exact qx
     all_goals(first|with_reducible rfl|(rw[hi,aXy];exact bO (by rw[hw.four];exact hil))|rfl))
   |(refine wq [] [] (⟨ks,false,hw,rfl⟩) ?_
     repeat' apply ai
     all_goals try exact qx
     all_goals(first|with_reducible rfl|(rw[hi,aXy];exact bO (by rw[hw.four];exact hil))|rfl))
 rintro s ⟨ks2,ok2,hw2,rfl⟩
 refine sq (rT [4,5] (s4 (rt (cX [tV 0 (.tup [.agg [.d (.i (tm)),.own 802 4,.own 803 3,ps 804 4 (a),ps 805 5 (b),ps 806 5 (c)],.c (.d (.b (ok2)))]),oR 802 31 5 (aL ks2),oR 803 4 1 (aQ ls),(.o 804,aO 260 4 fQ),(.o 805,aO 52 5 cO),(.o 806,aO 52 5 cO)] ⟨tm,ks2,ls,a,b,c,ok2,hw2,rfl⟩ (rq [] [] rfl ?_)))))
 repeat' apply ai
 all_goals try exact qx
 all_goals(first|with_reducible rfl|(rw[hi,aXy];exact bO (by rw[hw.four];exact hil))|rfl)
theorem ub (tm:Int) (ks:List aK) (ls:List Bool) (a b c:Nat) (e:EvR) (hw:WOk ks ls a b c) (htx:e.text.length≤1000):tn 258 2 [tV 0 (.e (.agg [.d (.i (tm)),.own 802 4,.own 803 3,ps 804 4 (a),ps 805 5 (b),ps 806 5 (c)])),(.t 1,.v e.V),oR 802 31 5 (aL ks),oR 803 4 1 (aQ ls),(.o 804,aO 260 4 fQ),(.o 805,aO 52 5 cO),(.o 806,aO 52 5 cO)] (fun s=> ∃(tm:Int) (ks:List aK) (ls:List Bool) (a b c:Nat) (ok:Bool),WOk ks ls a b c∧s=[tV 0 (.tup [.agg [.d (.i (tm)),.own 802 4,.own 803 3,ps 804 4 (a),ps 805 5 (b),ps 806 5 (c)],.c (.d (.b (ok)))]),oR 802 31 5 (aL ks),oR 803 4 1 (aQ ls),(.o 804,aO 260 4 fQ),(.o 805,aO 52 5 cO),(.o 806,aO 52 5 cO)]):=by
 refine ul Tryz.func258 rfl (sq (rT [2,3,4] (s4 (sq (sq (rT [2,3,4,19] (s4 (ig cK rfl rfl rfl rfl rfl (s1 (xp (dR _ _ _) (ai rfl ?_)))))))))))
 refine s1 (cd rfl (fun c19=> ?_) fun c19=> ?_)
 · refine sq (rT [4,5] (s3 (rt (cX [tV 0 (.tup [.agg [.d (.i (tm)),.own 802 4,.own 803 3,ps 804 4 (a),ps 805 5 (b),ps 806 5 (c)],.c (.d (.b (false)))]),oR 802 31 5 (aL ks),oR 803 4 1 (aQ ls),(.o 804,aO 260 4 fQ),(.o 805,aO 52 5 cO),(.o 806,aO 52 5 cO)] ⟨tm,ks,ls,a,b,c,false,hw,rfl⟩ (rq [] [] rfl ?_)))))
   repeat' apply ai
   all_goals try exact qx
   all_goals(first|with_reducible rfl|(rw[hi,aXy];exact bO (by rw[hw.four];exact hil))|rfl)
 have hwd0:0≤e.word∧e.word≤(a:Int) - 1:=by rw[aF (by have:=hw.ra;omega)] at c19;simp[iQ] at c19;omega
 refine sk (sq ?_)
 obtain⟨wi,hwi,hwl⟩: ∃wi:Nat,e.word=(wi:Int)∧wi<a:=⟨e.word.toNat,by omega,by omega⟩
 have hwd:0≤e.word∧e.word< (a:Int):=by omega
 refine rE [2,3,4,6] (s4 (iO (aIm cK rfl rfl rfl rfl rfl rfl rfl rfl hwd (aOn cK rfl rfl rfl rfl rfl rfl (aX0 rfl) ?_))))
 rintro _ _ ⟨p,rfl,hpp⟩
 refine s2 (sq (sq (rT [2,3,4,6,29] (s3 (cd rfl (fun c29=> ?_) fun c29=> ?_)))))
 · refine sq (sq (rT [2,3,4,6,47] (s3 (y4 (y2 (xc (fun h=>(dR _ _ _)) (ai rfl (ai rk ?_))))))))
   refine y1 (ai pk (s1 (y2 (xc (fun h=>(dR _ _ _)) (ai rfl (ai rk ?_))))))
   refine y1 (ai pk (cd rfl (fun c47=> ?_) fun c47=> ?_))
   · refine sq (rT [4,5] (s3 (rt (cX [tV 0 (.tup [.agg [.d (.i (tm)),.own 802 4,.own 803 3,ps 804 4 (a),ps 805 5 (b),ps 806 5 (c)],.c (.d (.b (false)))]),oR 802 31 5 (aL ks),oR 803 4 1 (aQ ls),(.o 804,aO 260 4 fQ),(.o 805,aO 52 5 cO),(.o 806,aO 52 5 cO)] ⟨tm,ks,ls,a,b,c,false,hw,rfl⟩ (rq [] [] rfl ?_)))))
     repeat' apply ai
     all_goals try exact qx
     all_goals(first|with_reducible rfl|(rw[hi,aXy];exact bO (by rw[hw.four];exact hil))|rfl)
   have hpl:=hpp.2
   have hmx:0≤e.mix∧e.mix≤(p.data.length:Int) - 1:=by rw[aF (by omega)] at c47;simp[gb,iQ] at c47;omega
   refine sk (sq (rT [2,3,4,7] (s2 (ai (by omega) (s1 (sq ?_))))))
   obtain⟨i,hi,hil⟩: ∃i:Nat,e.mix=(i:Int)∧i<p.data.length:=⟨e.mix.toNat,by omega,by omega⟩
   have hgb:=jQ (l:=p.data) (i:=i) hil
   refine rD [2,3,4,7] (s6 (ai (aXq (by omega) (by omega) rfl) (ai (by rw[hi,aXy,hgb,aY];exact⟨⟨rfl,hil⟩,aX8 _,rfl⟩) (s4 (ai (aXq (by omega) (by omega) rfl) (ai (by rw[hi,aXy,hgb,aY];exact⟨rfl,hil,rfl,aX8 _⟩) (ai (by kernel_rfl) (sq (wa [tP 2 2,tP 3 3,tP 4 4,tO 7 51 p.data.length,oB 2 123 [.d (.i (tm)),.own 802 4,.own 803 3,ps 804 4 (a),ps 805 5 (b),ps 806 5 (c)],oB 3 204 [.d (.i e.kind),.d (.i e.at_),.d (.i e.frm),.d (.i e.num),.d (.i e.word),.d (.i e.mix),.d (.i e.keep),.d (.i e.dst),.d (.i e.til),.d (.s e.text)],oB 4 123 [.d (.i 0),.nil,.nil,.nil,.nil,.nil],oR 802 31 5 (aL ks),oR 803 4 1 (aQ ls),(.o 804,aO 260 4 fQ),(.o 805,aO 52 5 cO),(.o 806,aO 52 5 cO),oR 51 5 1 (aE ((p.data.set i (u8 (nr ((p.data.getD i 0).toNat:Int) (jB e.keep))))))] [] [] ?_ ?_)))))))))
   · repeat' apply ai
     all_goals first|exact qx|(rw[List.length_set];done)|(simp[aY];done)|(rw[hi,aXy,hgb];refine Eq.trans ?_ (aO0 hil (ij _ _));rw[hgb];rfl)|exact qz
   refine rT [2,3,4] (s5 (ai (by exact⟨by first|exact aY _|(simp[aY];done),by rw[cL]⟩) (aIm cK rfl rfl rfl rfl rfl rfl rfl rfl hwd (aOl cK rfl rfl rfl rfl rfl (aFr cK rfl rfl rfl rfl rfl rfl rfl rfl rfl (aX0 rfl) ?_ ?_)))))
   · rintro r hr ⟨q,rfl,hq⟩
     exact⟨⟨q.frm,q.to,(p.data.set i (u8 (nr ((p.data.getD i 0).toNat:Int) (jB e.keep)))),q.done⟩,aA (fun z=>[D.i q.frm,D.i q.to,D.s z,D.b q.done]) (cL _),hq.1,by show((p.data.set i (u8 (nr ((p.data.getD i 0).toNat:Int) (jB e.keep))))).length≤1000;rw[List.length_set];exact hpp.2⟩
   refine sq (rT [2,4] (s4 (aIm cK rfl rfl rfl rfl rfl rfl rfl rfl hwd (aOl cK rfl rfl rfl rfl rfl (aFr cK rfl rfl rfl rfl rfl rfl rfl rfl rfl (aX0 rfl) ?_ ?_)))))
   · rintro r hr ⟨q,rfl,hq⟩
     exact⟨⟨q.frm,q.to,q.data,true⟩,rfl,hq⟩
   refine sq (rT [4,5] (s3 (rt (cX [tV 0 (.tup [.agg [.d (.i (tm)),.own 802 4,.own 803 3,ps 804 4 (a),ps 805 5 (b),ps 806 5 (c)],.c (.d (.b (true)))]),oR 802 31 5 (aL ks),oR 803 4 1 (aQ ls),(.o 804,aO 260 4 fQ),(.o 805,aO 52 5 cO),(.o 806,aO 52 5 cO)] ⟨tm,ks,ls,a,b,c,true,hw,rfl⟩ (rq [] [] rfl ?_)))))
   repeat' apply ai
   all_goals try exact qx
   all_goals(first|with_reducible rfl|(rw[hi,aXy];exact bO (by rw[hw.four];exact hil))|rfl)
 refine sk (sq (sq ?_))
 obtain⟨q,hq,hql⟩: ∃q:Nat,dg p.frm p.to=(q:Int)∧q<3:=by have h9:=aEl hpp.1;exact⟨(dg p.frm p.to).toNat,by omega,by omega⟩
 refine rD [2,3,4,6,94] (s4 (y4 (y2 (xc (fun h=>(zn p.frm p.to)) (ai rfl (ai rk ?_))))))
 refine ai (fun h=>(by rw[hq];exact⟨by rw[dA];exact hw.three,by omega,by omega⟩)) (ai rk (ai (fun h=>(by rw[hq,aXy,lQ (by rw[hw.three];exact hql)];exact⟨⟨by rw[dA];exact hw.three,hql⟩,aX0 rfl,rfl⟩)) (ai rk (y1 (ai pk (ai (by kernel_rfl) (cd rfl (fun c94=> ?_) fun c94=> ?_)))))))
 · refine sq (rT [4,5] (s3 (rt (cX [tV 0 (.tup [.agg [.d (.i (tm)),.own 802 4,.own 803 3,ps 804 4 (a),ps 805 5 (b),ps 806 5 (c)],.c (.d (.b (false)))]),oR 802 31 5 (aL ks),oR 803 4 1 (aQ ls),(.o 804,aO 260 4 fQ),(.o 805,aO 52 5 cO),(.o 806,aO 52 5 cO)] ⟨tm,ks,ls,a,b,c,false,hw,rfl⟩ (rq [] [] rfl ?_)))))
   repeat' apply ai
   all_goals try exact qx
   all_goals(first|with_reducible rfl|(rw[hi,aXy];exact bO (by rw[hw.four];exact hil))|rfl)
 refine sk (SW.midL (fun a2:Nat=>WOk ks ls a2 b c) (fun a2=>[tP 2 2,tP 3 3,tP 4 4,tP 6 6,oB 2 123 [.d (.i (tm)),.own 802 4,.own 803 3,ps 804 4 (a2),ps 805 5 (b),ps 806 5 (c)],oB 3 204 [.d (.i e.kind),.d (.i e.at_),.d (.i e.frm),.d (.i e.num),.d (.i e.word),.d (.i e.mix),.d (.i e.keep),.d (.i e.dst),.d (.i e.til),.d (.s e.text)],oB 4 123 [.d (.i 0),.nil,.nil,.nil,.nil,.nil],oB 6 260 [.d (.i p.frm),.d (.i p.to),.d (.s p.data),.d (.b p.done)],oR 802 31 5 (aL ks),oR 803 4 1 (aQ ls),(.o 804,aO 260 4 fQ),(.o 805,aO 52 5 cO),(.o 806,aO 52 5 cO)]) ?_ ?_)
 · refine sq (rT [2,3,4,6,103] (s4 (y3 (ai pk (cd rfl (fun c103=> ?_) fun c103=> ?_)))))
   · refine SW.newPool 88 260 4 fQ rfl (rX [2,3,4,6] (aRy (j:=88) cK rfl rfl rfl rfl rfl rfl (sx cK rfl vc (sx cK rfl vc (sx cK rfl vc (sx cK rfl vc (aFs (m:=wi) cK rfl rfl rfl rfl rfl rfl rfl rfl rfl (by rw[hwi];refine⟨?_,?_⟩<;>first|trivial|(simp[jy,eZ,gB]<;>omega)) (by rw[hwi];simp[eZ,gB]) ?_)))))))
     refine oq (m:=wi) (z:=[.i 0,.i 0,.s [],.b false]) cK rfl rfl rfl rfl rfl rfl rfl rfl yv (aFu cK (by decide) rfl rfl rfl) (by show(0+wi)*40≤_;have:=hw.ra;omega) (sx cK rfl vc (sx cK rfl vc (sx cK rfl vc (sx cK rfl vc (sx cK rfl vc (aFs (m:=a - (wi+1)) cK rfl rfl rfl rfl rfl rfl rfl rfl rfl (by rw[hwi,aF (by have:=hw.ra;omega)];simp[jy,eZ,gB]<;>omega) (by rw[hwi,aF (by have:=hw.ra;omega)];simp[eZ,gB]<;>omega) (oq (m:=a - (wi+1)) (z:=[.i 0,.i 0,.s [],.b false]) cK rfl rfl rfl rfl rfl rfl rfl rfl yv (aFu cK (by decide) rfl rfl rfl) (by show(0+wi+(a - (wi+1)))*40≤_;have:=hw.ra;omega) (sx cK rfl vc (sx cK rfl vc (⟨by kernel_rfl,?_⟩))))))))))
     first
     |(refine⟨(0+wi+(a - (wi+1))),(hw.to (by have:=hw.ra;omega) hw.rb hw.rc),?_⟩
       refine aHa 804 88 rfl rfl (by decide) (by rfl) (mw (wq [] [] rfl ?_))
       repeat' apply ai
       all_goals try exact qx
       all_goals(first|with_reducible rfl|omega))
     |(refine⟨a,hw,?_⟩
       refine mw (wq [] [] rfl ?_)
       repeat' apply ai
       all_goals try exact qx
       all_goals(first|with_reducible rfl|omega))
   refine sk ?_
   first
   |(refine⟨(0+wi+(a - (wi+1))),(hw.to (by have:=hw.ra;omega) hw.rb hw.rc),?_⟩
     refine aHa 804 88 rfl rfl (by decide) (by rfl) (mw (wq [] [] rfl ?_))
     repeat' apply ai
     all_goals try exact qx
     all_goals(first|with_reducible rfl|omega))
   |(refine⟨a,hw,?_⟩
     refine mw (wq [] [] rfl ?_)
     repeat' apply ai
     all_goals try exact qx
     all_goals(first|with_reducible rfl|omega))
 rintro a2 hw2
 refine sq (sq (rT [2,4,6,121] (s3 (cd rfl (fun c121=> ?_) fun c121=> ?_))))
 · refine sq (rT [4,5] (s3 (rt (cX [tV 0 (.tup [.agg [.d (.i (tm)),.own 802 4,.own 803 3,ps 804 4 (a2),ps 805 5 (b),ps 806 5 (c)],.c (.d (.b (true)))]),oR 802 31 5 (aL ks),oR 803 4 1 (aQ ls),(.o 804,aO 260 4 fQ),(.o 805,aO 52 5 cO),(.o 806,aO 52 5 cO)] ⟨tm,ks,ls,a2,b,c,true,hw2,rfl⟩ (rq [] [] rfl ?_)))))
   repeat' apply ai
   all_goals try exact qx
   all_goals(first|with_reducible rfl|(rw[hi,aXy];exact bO (by rw[hw.four];exact hil))|rfl)
 refine sk (sq (rT [2,4,6,8,9] (s2 (ai (by have:=hpp.2;omega) (bP (robj:=[(126,.row 5 1 (aE (p.data)))]) (rl:=[]) (bor:=[126]) (jh p.data) rfl rfl rfl rfl ⟨fB rfl rfl rfl (by first|exact aY _|(simp[aY,aDs];done)) rfl (trivial),rfl⟩ rfl (.inr (aIr rfl)) (aM ⟨rfl,trivial⟩) (fun _ hj=>nomatch hj) (s6 (sq (sq (rT [2,4,6,8,145] (s3 (y4 (y1 (ai pk (s1 (y4 (y1 (ai pk (cd rfl (fun c145=> ?_) fun c145=> ?_))))))))))))))))))
 · refine sq (rT [4,5] (s3 (rt (cX [tV 0 (.tup [.agg [.d (.i (tm)),.own 802 4,.own 803 3,ps 804 4 (a2),ps 805 5 (b),ps 806 5 (c)],.c (.d (.b (true)))]),oR 802 31 5 (aL ks),oR 803 4 1 (aQ ls),(.o 804,aO 260 4 fQ),(.o 805,aO 52 5 cO),(.o 806,aO 52 5 cO)] ⟨tm,ks,ls,a2,b,c,true,hw2,rfl⟩ (rq [] [] rfl ?_)))))
   repeat' apply ai
   all_goals try exact qx
   all_goals(first|with_reducible rfl|(rw[hi,aXy];exact bO (by rw[hw.four];exact hil))|rfl)
 refine sk (sq ?_)
 obtain⟨i,hi,hil⟩:=ar hpp.1.2.1
 have hks:=hw2.at hil
 refine rD [2,4,6,10,11] (s4 (ai (by rw[hi];exact⟨by rw[bN];exact hw.four,by omega,by omega⟩) (ai (by rw[hi,aXy,cH (by rw[hw.four];exact hil)];exact⟨⟨by rw[bN];exact hw.four,hil⟩,aX0 rfl,rfl⟩) (s1 (xp (ng (ks.getD i .zero) (iA p.data) (by have:=hks.1;omega)) (ai (by rw[hi,aXy,cH (by rw[hw2.four];exact hil)];rfl) ?_))))))
 refine s6 (ai (by kernel_rfl) (sq (rT [2,4,11] (s5 (ai (by rw[hi];exact⟨by rw[bN];exact hw.four,by omega,by omega⟩) (ai (by rw[hi,aXy,cH (by rw[hw.four];exact hil)];exact⟨by rw[bN];exact hw.four,hil,rfl,aX0 rfl⟩) (sq (wa [tP 2 2,tP 4 4,tD 11 (.sl (nP (dJ (ks.getD i .zero) (iA p.data)).2)),oB 2 123 [.d (.i (tm)),.own 802 4,.own 803 3,ps 804 4 (a2),ps 805 5 (b),ps 806 5 (c)],oB 3 204 [.d (.i e.kind),.d (.i e.at_),.d (.i e.frm),.d (.i e.num),.d (.i e.word),.d (.i e.mix),.d (.i e.keep),.d (.i e.dst),.d (.i e.til),.d (.s e.text)],oB 4 123 [.d (.i 0),.nil,.nil,.nil,.nil,.nil],oR 802 31 5 (aL (ks.set i (dJ (ks.getD i .zero) (iA p.data)).1)),oR 803 4 1 (aQ ls),(.o 804,aO 260 4 fQ),(.o 805,aO 52 5 cO),(.o 806,aO 52 5 cO)] [] [] ?_ ?_))))))))
 · repeat' apply ai
   all_goals first|exact qx|(rw[hi,aXy];exact bO (k:=(dJ (ks.getD i .zero) (iA p.data)).1) (by rw[hw.four];exact hil))|rfl|exact qz
 refine rT [2,4] (s3 (bP (robj:=[(804,aO 260 4 fQ)]) (rl:=[]) (bor:=[]) (ec a2 (dJ (ks.getD i .zero) (iA p.data)).2 hw2.ra (by have:=(aKz (k:=(ks.getD i .zero)) (f:=iA p.data)).2;omega) aKz.1) rfl rfl rfl rfl ⟨aOq rfl rfl rfl rfl (cQ rfl rfl (bE rfl rfl trivial)),rfl⟩ rfl (.inl rfl) (aM ⟨rfl,trivial⟩) (fun j hj=>nomatch hj) (s2 (sq (rT [4,5] (s3 (rt (cX [tV 0 (.tup [.agg [.d (.i (tm)),.own 802 4,.own 803 3,ps 804 4 ((gk a2 (dJ (ks.getD i .zero) (iA p.data)).2.length)),ps 805 5 (b),ps 806 5 (c)],.c (.d (.b (true)))]),oR 802 31 5 (aL (ks.set i (dJ (ks.getD i .zero) (iA p.data)).1)),oR 803 4 1 (aQ ls),(.o 804,aO 260 4 fQ),(.o 805,aO 52 5 cO),(.o 806,aO 52 5 cO)] ⟨tm,(ks.set i (dJ (ks.getD i .zero) (iA p.data)).1),ls,(gk a2 (dJ (ks.getD i .zero) (iA p.data)).2.length),b,c,true,((hw2.set (aJp hks) i).to (yx hw2.ra) hw2.rb hw2.rc),rfl⟩ ?_))))))))
 refine rq [] [] rfl ?_
 repeat' apply ai
 all_goals try exact qx
 all_goals(first|with_reducible rfl|(rw[hi,aXy];exact bO (k:=(dJ (ks.getD i .zero) (iA p.data)).1) (by rw[hw.four];exact hil))|rfl)
theorem aEv (tm:Int) (ks:List aK) (ls:List Bool) (a b c:Nat) (e:EvR) (hw:WOk ks ls a b c) (htx:e.text.length≤1000):tn 242 2 [tV 0 (.e (.agg [.d (.i (tm)),.own 802 4,.own 803 3,ps 804 4 (a),ps 805 5 (b),ps 806 5 (c)])),(.t 1,.v e.V),oR 802 31 5 (aL ks),oR 803 4 1 (aQ ls),(.o 804,aO 260 4 fQ),(.o 805,aO 52 5 cO),(.o 806,aO 52 5 cO)] (fun s=> ∃(tm:Int) (ks:List aK) (ls:List Bool) (a b c:Nat) (ok:Bool),WOk ks ls a b c∧s=[tV 0 (.tup [.agg [.d (.i (tm)),.own 802 4,.own 803 3,ps 804 4 (a),ps 805 5 (b),ps 806 5 (c)],.c (.d (.b (ok)))]),oR 802 31 5 (aL ks),oR 803 4 1 (aQ ls),(.o 804,aO 260 4 fQ),(.o 805,aO 52 5 cO),(.o 806,aO 52 5 cO)]):=by
 refine ul Tryz.func242 rfl (sq (rT [2,3,4] (s4 (sq (rT [2,3,4] (s5 (sq (bk (sq (wa [tP 2 2,tP 3 3,tP 4 4,oB 2 123 [.d (.i ((wrap64 (tm+1)))),.own 802 4,.own 803 3,ps 804 4 (a),ps 805 5 (b),ps 806 5 (c)],oB 3 204 [.d (.i e.kind),.d (.i e.at_),.d (.i e.frm),.d (.i e.num),.d (.i e.word),.d (.i e.mix),.d (.i e.keep),.d (.i e.dst),.d (.i e.til),.d (.s e.text)],oB 4 123 [.d (.i 0),.nil,.nil,.nil,.nil,.nil],oR 802 31 5 (aL ks),oR 803 4 1 (aQ ls),(.o 804,aO 260 4 fQ),(.o 805,aO 52 5 cO),(.o 806,aO 52 5 cO)] [] [] qz (rT [2,3,4,10] (s4 (y3 (ai pk (s1 (y3 (ai pk (s1 (cd rfl (fun c10=> ?_) fun c10=> ?_)))))))))))))))))))
 · refine sq (rE [4,5] (s2 (dB (robj:=[(802,.row 31 5 (aL ks)),(803,.row 4 1 (aQ ls)),(804,aO 260 4 fQ),(805,aO 52 5 cO),(806,aO 52 5 cO)]) (rl:=[]) (bor:=[]) (news:=[]) (ub (wrap64 (tm+1)) ks ls a b c e hw htx) rfl rfl rfl rfl ⟨eC rfl (aG rfl (bU rfl rfl rfl (bU rfl rfl rfl (bM rfl rfl rfl (bM rfl rfl rfl (bM rfl rfl rfl aN)))))) (eC rfl (aG rfl (aG rfl (aG rfl (aG rfl (aG rfl (aG rfl (aG rfl (aG rfl (aG rfl (aG rfl aN)))))))))) (bZ rfl rfl (bZ rfl rfl (bE rfl rfl (bE rfl rfl (bE rfl rfl trivial)))))),rfl⟩ (by rintro _ ⟨tm2,ks2,ls2,a2,b2,c2,ok2,hw2,rfl⟩;exact⟨rfl,.inl rfl,fun j hj=>nomatch hj⟩) (aM ⟨rfl,rfl,rfl,rfl,rfl,trivial⟩) (fun j hj=>nomatch hj) ?_)))
   rintro _ ⟨tm2,ks2,ls2,a2,b2,c2,ok2,hw2,rfl⟩
   refine s4 (rt (cX [tV 0 (.tup [.agg [.d (.i (tm2)),.own 802 4,.own 803 3,ps 804 4 (a2),ps 805 5 (b2),ps 806 5 (c2)],.c (.d (.b (ok2)))]),oR 802 31 5 (aL ks2),oR 803 4 1 (aQ ls2),(.o 804,aO 260 4 fQ),(.o 805,aO 52 5 cO),(.o 806,aO 52 5 cO)] ⟨tm2,ks2,ls2,a2,b2,c2,ok2,hw2,rfl⟩ (rq [] [] rfl ?_)))
   repeat' apply ai
   all_goals try exact qx
   all_goals(first|with_reducible rfl|(rw[hi,aXy];exact bO (by rw[hw.four];exact hil))|rfl)
 refine sq (rT [2,3,4,29] (s4 (y3 (ai pk (s1 (cd rfl (fun c29=> ?_) fun c29=> ?_))))))
 · refine sq (sq (rD [2,3,4,57] (s4 (ai (by exact(dA ls).trans hw.three) (s1 (xp (dR _ _ _) (ai rfl ?_)))))))
   refine s2 (y4 (ai (fun h=>(by obtain⟨i,hi,hil⟩: ∃i:Nat,e.at_=(i:Int)∧i<3:=(by simp[gb,iQ,dA,hw.three,wrap64] at h;exact⟨e.at_.toNat,by omega,by omega⟩);rw[hi];exact⟨by rw[dA];exact hw.three,by omega,by omega⟩)) (ai rk (ai (fun h=>(by obtain⟨i,hi,hil⟩: ∃i:Nat,e.at_=(i:Int)∧i<3:=(by simp[gb,iQ,dA,hw.three,wrap64] at h;exact⟨e.at_.toNat,by omega,by omega⟩);rw[hi,aXy,lQ (by rw[hw.three];exact hil)];exact⟨⟨by rw[dA];exact hw.three,hil⟩,aX0 rfl,rfl⟩)) (ai rk (y4 (ai pk (ai (by kernel_rfl) (cd rfl (fun c57=> ?_) fun c57=> ?_)))))))))
   · refine sq (rT [4,5] (s3 (rt (cX [tV 0 (.tup [.agg [.d (.i ((wrap64 (tm+1)))),.own 802 4,.own 803 3,ps 804 4 (a),ps 805 5 (b),ps 806 5 (c)],.c (.d (.b (false)))]),oR 802 31 5 (aL ks),oR 803 4 1 (aQ ls),(.o 804,aO 260 4 fQ),(.o 805,aO 52 5 cO),(.o 806,aO 52 5 cO)] ⟨(wrap64 (tm+1)),ks,ls,a,b,c,false,hw,rfl⟩ (rq [] [] rfl ?_)))))
     repeat' apply ai
     all_goals try exact qx
     all_goals(first|with_reducible rfl|(rw[hi,aXy];exact bO (by rw[hw.four];exact hil))|rfl)
   have hat3:0≤e.at_∧e.at_≤2:=by simp[gb,iQ,dA,hw.three,wrap64] at c57;omega
   refine sk (sq ?_)
   obtain⟨i,hi,hil⟩: ∃i:Nat,e.at_=(i:Int)∧i<3:=⟨e.at_.toNat,by omega,by omega⟩
   refine rT [2,4] (s7 (ai (by rw[hi];exact⟨by rw[dA];exact hw.three,by omega,by omega⟩) (ai (by rw[hi,aXy,lQ (by rw[hw.three];exact hil)];exact⟨by rw[dA];exact hw.three,hil,rfl,aX0 rfl⟩) (sq (rT [4,5] (s3 (rt (cX [tV 0 (.tup [.agg [.d (.i ((wrap64 (tm+1)))),.own 802 4,.own 803 3,ps 804 4 (a),ps 805 5 (b),ps 806 5 (c)],.c (.d (.b (true)))]),oR 802 31 5 (aL ks),oR 803 4 1 (aQ (ls.set i (e.kind==9))),(.o 804,aO 260 4 fQ),(.o 805,aO 52 5 cO),(.o 806,aO 52 5 cO)] ⟨(wrap64 (tm+1)),ks,(ls.set i (e.kind==9)),a,b,c,true,(hw.links (by rw[List.length_set];exact hw.three)),rfl⟩ (rq [] [] rfl ?_)))))))))
   repeat' apply ai
   all_goals try exact qx
   all_goals(first|with_reducible rfl|(rw[hi,aXy];exact aEp (by rw[hw.three];exact hil))|rfl)
 refine sq (rT [2,3,4,68] (s2 (xp (dX _) (ai rfl ?_))))
 refine s2 (cd rfl (fun c68=> ?_) fun c68=> ?_)
 · refine sq (rT [4,5] (s3 (rt (cX [tV 0 (.tup [.agg [.d (.i ((wrap64 (tm+1)))),.own 802 4,.own 803 3,ps 804 4 (a),ps 805 5 (b),ps 806 5 (c)],.c (.d (.b (false)))]),oR 802 31 5 (aL ks),oR 803 4 1 (aQ ls),(.o 804,aO 260 4 fQ),(.o 805,aO 52 5 cO),(.o 806,aO 52 5 cO)] ⟨(wrap64 (tm+1)),ks,ls,a,b,c,false,hw,rfl⟩ (rq [] [] rfl ?_)))))
   repeat' apply ai
   all_goals try exact qx
   all_goals(first|with_reducible rfl|(rw[hi,aXy];exact bO (by rw[hw.four];exact hil))|rfl)
 have hat:0≤e.at_∧e.at_≤3:=by simp[eR,iQ] at c68;omega
 refine sk (sq (rE [4,5] (s2 (dB (robj:=[(802,.row 31 5 (aL ks)),(803,.row 4 1 (aQ ls)),(804,aO 260 4 fQ),(805,aO 52 5 cO),(806,aO 52 5 cO)]) (rl:=[]) (bor:=[]) (news:=[]) (qt (wrap64 (tm+1)) ks ls a b c e hw htx hat) rfl rfl rfl rfl ⟨eC rfl (aG rfl (bU rfl rfl rfl (bU rfl rfl rfl (bM rfl rfl rfl (bM rfl rfl rfl (bM rfl rfl rfl aN)))))) (eC rfl (aG rfl (aG rfl (aG rfl (aG rfl (aG rfl (aG rfl (aG rfl (aG rfl (aG rfl (aG rfl aN)))))))))) (bZ rfl rfl (bZ rfl rfl (bE rfl rfl (bE rfl rfl (bE rfl rfl trivial)))))),rfl⟩ (by rintro _ ⟨tm2,ks2,ls2,a2,b2,c2,ok2,hw2,rfl⟩;exact⟨rfl,.inl rfl,fun j hj=>nomatch hj⟩) (aM ⟨rfl,rfl,rfl,rfl,rfl,trivial⟩) (fun j hj=>nomatch hj) ?_))))
 rintro _ ⟨tm2,ks2,ls2,a2,b2,c2,ok2,hw2,rfl⟩
 refine s4 (rt (cX [tV 0 (.tup [.agg [.d (.i (tm2)),.own 802 4,.own 803 3,ps 804 4 (a2),ps 805 5 (b2),ps 806 5 (c2)],.c (.d (.b (ok2)))]),oR 802 31 5 (aL ks2),oR 803 4 1 (aQ ls2),(.o 804,aO 260 4 fQ),(.o 805,aO 52 5 cO),(.o 806,aO 52 5 cO)] ⟨tm2,ks2,ls2,a2,b2,c2,ok2,hw2,rfl⟩ (rq [] [] rfl ?_)))
 repeat' apply ai
 all_goals try exact qx
 all_goals(first|with_reducible rfl|(rw[hi,aXy];exact bO (by rw[hw.four];exact hil))|rfl)
theorem fo (l:List UInt8) (p:Int) (W:fM) (e:EvR) (hW:W.ok) (htx:e.text.length≤1000) (hd:W.d≤100000):tn 200 2 [tP 0 800,(.t 1,.v e.V),oB 800 147 [.pt 801 0,.d (.i (W.tm)),.own 802 4,.own 803 3,ps 804 4 (W.a),ps 805 5 (W.b),ps 806 5 (W.c),ps 807 10 (W.d)],oB 801 177 [.d (.sl (aE l)),.d (.i (p))],oR 802 31 5 (aL W.ks),oR 803 4 1 (aQ W.ls),(.o 804,aO 260 4 fQ),(.o 805,aO 52 5 cO),(.o 806,aO 52 5 cO),(.o 807,aO 204 10 kF)] (fun s=> ∃(W2:fM) (ok:Bool),W2.of W 1∧s=[tB 0 ok,oB 800 147 [.pt 801 0,.d (.i (W2.tm)),.own 802 4,.own 803 3,ps 804 4 (W2.a),ps 805 5 (W2.b),ps 806 5 (W2.c),ps 807 10 (W2.d)],oB 801 177 [.d (.sl (aE l)),.d (.i (p))],oR 802 31 5 (aL W2.ks),oR 803 4 1 (aQ W2.ls),(.o 804,aO 260 4 fQ),(.o 805,aO 52 5 cO),(.o 806,aO 52 5 cO),(.o 807,aO 204 10 kF)]):=by
 refine ul Tryz.func200 rfl (sq (rT [0,3] (s2 (sq (SW.regDE cK mo [0,3,5,6] 5 (fun i=>if i=9 then some ([(.o 5,none)],[oB 5 123 [.d (.i 0),.nil,.nil,.nil,.nil,.nil],tP 5 5]) else none) rfl rfl (by kernel_rfl) ?_)))))
 refine s5 (em (robj:=[(802,.row 31 5 (aL W.ks)),(803,.row 4 1 (aQ W.ls)),(804,aO 260 4 fQ),(805,aO 52 5 cO),(806,aO 52 5 cO)]) (rl:=[]) (bor:=[]) (news:=[]) (aEv W.tm W.ks W.ls W.a W.b W.c e hW htx) rfl rfl rfl rfl ⟨eC rfl (aG rfl (bU rfl rfl rfl (bU rfl rfl rfl (bM rfl rfl rfl (bM rfl rfl rfl (bM rfl rfl rfl aN)))))) (eC rfl (aG rfl (aG rfl (aG rfl (aG rfl (aG rfl (aG rfl (aG rfl (aG rfl (aG rfl (aG rfl aN)))))))))) (bZ rfl rfl (bZ rfl rfl (bE rfl rfl (bE rfl rfl (bE rfl rfl trivial)))))),rfl⟩ (by rintro _ ⟨tm2,ks2,ls2,a2,b2,c2,ok2,hw2,rfl⟩;exact⟨rfl,.inl rfl,fun j hj=>nomatch hj⟩) (aM ⟨rfl,rfl,rfl,rfl,rfl,trivial⟩) (fun j hj=>nomatch hj) ⟨_,W.tm,W.ks,W.ls,W.a,W.b,W.c,false,hW,rfl⟩ ?_)
 rintro _ ⟨tm2,ks2,ls2,a2,b2,c2,ok2,hw2,rfl⟩
 refine s7 (ai rfl (s4 (ai (by kernel_rfl) (sq (sq (rT [0,3,5,6,16] (s1 (cd rfl (fun c16=> ?_) fun c16=> ?_))))))))
 · refine sq (rT [0,3,6] (s5 (rX [6] (sx cK rfl vc (sx cK rfl vc (sx cK rfl vc (sx cK rfl vc (sx cK rfl vc (sx cK rfl vc (sx cK rfl vc (oq (m:=1) (z:=[.i 0,.i 0,.i 0,.i 0,.i 0,.i 0,.i 0,.i 0,.i 0,.s []]) cK rfl rfl rfl rfl rfl rfl rfl rfl trivial (kj cK (by decide) rfl rfl rfl (fun r hr=>⟨by rw[List.mem_singleton.1 hr];rfl,trivial⟩) rfl) (by show(_+1)*88≤_;omega) (sx cK rfl vc (sx cK rfl vc (sx cK rfl ⟨by kernel_rfl,aX0 (by kernel_rfl)⟩ (⟨by kernel_rfl,?_⟩)))))))))))))))
   refine sq (rT [4] (s2 (rt ?_)))
   first
   |(refine cX [tB 0 (ok2),oB 800 147 [.pt 801 0,.d (.i ((fM.mk tm2 ks2 ls2 a2 b2 c2 (W.d+1)).tm)),.own 802 4,.own 803 3,ps 804 4 ((fM.mk tm2 ks2 ls2 a2 b2 c2 (W.d+1)).a),ps 805 5 ((fM.mk tm2 ks2 ls2 a2 b2 c2 (W.d+1)).b),ps 806 5 ((fM.mk tm2 ks2 ls2 a2 b2 c2 (W.d+1)).c),ps 807 10 ((fM.mk tm2 ks2 ls2 a2 b2 c2 (W.d+1)).d)],oB 801 177 [.d (.sl (aE l)),.d (.i (p))],oR 802 31 5 (aL (fM.mk tm2 ks2 ls2 a2 b2 c2 (W.d+1)).ks),oR 803 4 1 (aQ (fM.mk tm2 ks2 ls2 a2 b2 c2 (W.d+1)).ls),(.o 804,aO 260 4 fQ),(.o 805,aO 52 5 cO),(.o 806,aO 52 5 cO),(.o 807,aO 204 10 kF)] ⟨(fM.mk tm2 ks2 ls2 a2 b2 c2 (W.d+1)),ok2,⟨hw2,aX8 _⟩,rfl⟩ (rq [] [] rfl ?_)
     repeat' apply ai
     all_goals try exact qx
     all_goals(first|with_reducible rfl|(rfl)))
   |(refine cX [tB 0 (ok2),oB 800 147 [.pt 801 0,.d (.i ((fM.mk W.tm ks2 ls2 W.a W.b W.c W.d).tm)),.own 802 4,.own 803 3,ps 804 4 ((fM.mk W.tm ks2 ls2 W.a W.b W.c W.d).a),ps 805 5 ((fM.mk W.tm ks2 ls2 W.a W.b W.c W.d).b),ps 806 5 ((fM.mk W.tm ks2 ls2 W.a W.b W.c W.d).c),ps 807 10 ((fM.mk W.tm ks2 ls2 W.a W.b W.c W.d).d)],oB 801 177 [.d (.sl (aE l)),.d (.i (p))],oR 802 31 5 (aL (fM.mk W.tm ks2 ls2 W.a W.b W.c W.d).ks),oR 803 4 1 (aQ (fM.mk W.tm ks2 ls2 W.a W.b W.c W.d).ls),(.o 804,aO 260 4 fQ),(.o 805,aO 52 5 cO),(.o 806,aO 52 5 cO),(.o 807,aO 204 10 kF)] ⟨(fM.mk W.tm ks2 ls2 W.a W.b W.c W.d),ok2,⟨hw2.to hW.ra hW.rb hW.rc,by show W.d≤_;omega⟩,rfl⟩ (rq [] [] rfl ?_)
     repeat' apply ai
     all_goals try exact qx
     all_goals(first|with_reducible rfl|(rfl)))
 refine sk (sq (rT [4] (s2 (rt ?_))))
 first
 |(refine cX [tB 0 (ok2),oB 800 147 [.pt 801 0,.d (.i ((fM.mk tm2 ks2 ls2 a2 b2 c2 (W.d+1)).tm)),.own 802 4,.own 803 3,ps 804 4 ((fM.mk tm2 ks2 ls2 a2 b2 c2 (W.d+1)).a),ps 805 5 ((fM.mk tm2 ks2 ls2 a2 b2 c2 (W.d+1)).b),ps 806 5 ((fM.mk tm2 ks2 ls2 a2 b2 c2 (W.d+1)).c),ps 807 10 ((fM.mk tm2 ks2 ls2 a2 b2 c2 (W.d+1)).d)],oB 801 177 [.d (.sl (aE l)),.d (.i (p))],oR 802 31 5 (aL (fM.mk tm2 ks2 ls2 a2 b2 c2 (W.d+1)).ks),oR 803 4 1 (aQ (fM.mk tm2 ks2 ls2 a2 b2 c2 (W.d+1)).ls),(.o 804,aO 260 4 fQ),(.o 805,aO 52 5 cO),(.o 806,aO 52 5 cO),(.o 807,aO 204 10 kF)] ⟨(fM.mk tm2 ks2 ls2 a2 b2 c2 (W.d+1)),ok2,⟨hw2,aX8 _⟩,rfl⟩ (rq [] [] rfl ?_)
   repeat' apply ai
   all_goals try exact qx
   all_goals(first|with_reducible rfl|(rfl)))
 |(refine cX [tB 0 (ok2),oB 800 147 [.pt 801 0,.d (.i ((fM.mk W.tm ks2 ls2 W.a W.b W.c W.d).tm)),.own 802 4,.own 803 3,ps 804 4 ((fM.mk W.tm ks2 ls2 W.a W.b W.c W.d).a),ps 805 5 ((fM.mk W.tm ks2 ls2 W.a W.b W.c W.d).b),ps 806 5 ((fM.mk W.tm ks2 ls2 W.a W.b W.c W.d).c),ps 807 10 ((fM.mk W.tm ks2 ls2 W.a W.b W.c W.d).d)],oB 801 177 [.d (.sl (aE l)),.d (.i (p))],oR 802 31 5 (aL (fM.mk W.tm ks2 ls2 W.a W.b W.c W.d).ks),oR 803 4 1 (aQ (fM.mk W.tm ks2 ls2 W.a W.b W.c W.d).ls),(.o 804,aO 260 4 fQ),(.o 805,aO 52 5 cO),(.o 806,aO 52 5 cO),(.o 807,aO 204 10 kF)] ⟨(fM.mk W.tm ks2 ls2 W.a W.b W.c W.d),ok2,⟨hw2.to hW.ra hW.rb hW.rc,by show W.d≤_;omega⟩,rfl⟩ (rq [] [] rfl ?_)
   repeat' apply ai
   all_goals try exact qx
   all_goals(first|with_reducible rfl|(rfl)))
theorem aV4 (l:List UInt8) (p:Int) (W:fM) (hp:0≤p∧p≤900000) (hl:l.length≤2000) (hW:W.ok) (hd:W.d≤99000):tn 122 1 [tP 0 800,oB 800 147 [.pt 801 0,.d (.i (W.tm)),.own 802 4,.own 803 3,ps 804 4 (W.a),ps 805 5 (W.b),ps 806 5 (W.c),ps 807 10 (W.d)],oB 801 177 [.d (.sl (aE l)),.d (.i (p))],oR 802 31 5 (aL W.ks),oR 803 4 1 (aQ W.ls),(.o 804,aO 260 4 fQ),(.o 805,aO 52 5 cO),(.o 806,aO 52 5 cO),(.o 807,aO 204 10 kF)] (fun s=> ∃(i:Int) (n:bI) (ok:Bool) (q:Int),(p≤q∧q≤p+2∧0≤i∧i≤3)∧s=[tV 0 (.tup [.c (.d (.i i)),.agg [.d (.i n.frm),.d (.i n.num),.d (.i n.to),.d (.i n.til),.d (.s n.text)],.c (.d (.b ok))]),oB 800 147 [.pt 801 0,.d (.i (W.tm)),.own 802 4,.own 803 3,ps 804 4 (W.a),ps 805 5 (W.b),ps 806 5 (W.c),ps 807 10 (W.d)],oB 801 177 [.d (.sl (aE l)),.d (.i (q))],oR 802 31 5 (aL W.ks),oR 803 4 1 (aQ W.ls),(.o 804,aO 260 4 fQ),(.o 805,aO 52 5 cO),(.o 806,aO 52 5 cO),(.o 807,aO 204 10 kF)]):=by
 refine ul Tryz.func122 rfl (sq (rT [0,3] (s3 (sq (rT [0,3,5] (s4 (bP (robj:=[(801,.box 177 [.d (.sl (aE (l))),.d (.i (p))])]) (rl:=[(0,801)]) (bor:=[]) (cR (l) (p) _ (by omega) hl) rfl rfl rfl rfl ⟨bY rfl rfl rfl rfl (cQ rfl rfl (bB rfl (aG rfl (aG rfl aN)) trivial)),rfl⟩ rfl (.inl rfl) (aM ⟨rfl,trivial⟩) (fun _ hj=>nomatch hj) (s1 (sq (sq (rT [0,3,5,6] (s1 (bk ?_)))))))))))))
 obtain⟨i0,hi0,hil0⟩:=ar (show 0≤bT l p 4∧bT l p 4≤3 by have:=cG l (p:=p) (n:=4) (by omega) (by omega);omega)
 refine SW.loopW (n:=4) (fun n s=> ∃i m:Nat,n=4 - m∧(i<4∧m≤4)∧s=[tP 0 800,tP 3 3,tI 5 (i:Nat),tI 6 (m:Nat),oB 800 147 [.pt 801 0,.d (.i (W.tm)),.own 802 4,.own 803 3,ps 804 4 (W.a),ps 805 5 (W.b),ps 806 5 (W.c),ps 807 10 (W.d)],oB 801 177 [.d (.sl (aE l)),.d (.i ((p+1)))],oR 802 31 5 (aL W.ks),oR 803 4 1 (aQ W.ls),(.o 804,aO 260 4 fQ),(.o 805,aO 52 5 cO),(.o 806,aO 52 5 cO),(.o 807,aO 204 10 kF),oB 3 52 [.d (.i bI.zero.frm),.d (.i bI.zero.num),.d (.i bI.zero.to),.d (.i bI.zero.til),.d (.s bI.zero.text)]]) ?_ ?_
 · refine wq [] [] (⟨i0,0,rfl,⟨hil0,by omega⟩,rfl⟩) ?_
   repeat' apply ai
   all_goals first|exact qx|exact aA D.i hi0|rfl|exact qz
 rintro n s ⟨i,m,rfl,him,rfl⟩
 refine sq (sq (rT [0,3,5,6,15] (s2 (cd rfl (fun c15=> ?_) fun c15=> ?_))))
 · have hm4:m<4:=by simp at c15;omega
   refine sk (sq (bk (sq (rT [0,3,5,6,7] (s6 (ai (by exact⟨by rw[bN];exact hW.four,by omega,by omega⟩) (ai (by rw[aXy,cH (by rw[hW.four];omega)];exact⟨⟨by rw[bN];exact hW.four,by omega⟩,aX0 rfl,rfl⟩) (xp (gW (W.ks.getD i .zero) (by have:=(hW.at (show i<4 by omega)).1;omega)) (ai (by rw[aXy,cH (by rw[hW.four];omega)];rfl) ?_)))))))))
   refine s6 (sq (sq (rT [0,3,5,6,7,33] (s4 (cd rfl (fun c33=> ?_) fun c33=> ?_)))))
   · refine sq ?_
     have hn0:0< (bA (W.ks.getD i .zero)).1.held.length:=by have h9:=of_decide_eq_true c33;rw[aH] at h9;omega
     obtain⟨j,hj,hjl⟩: ∃j:Nat,bT l (p+1) ((aI (bA (W.ks.getD i .zero)).1.held).length:Int)=(j:Int)∧j< (bA (W.ks.getD i .zero)).1.held.length:=by have:=cG l (p:=p+1) (n:=((aI (bA (W.ks.getD i .zero)).1.held).length:Int)) (by omega) (by rw[aH];omega);rw[aH] at *; exact⟨(bT l (p+1) ((bA (W.ks.getD i .zero)).1.held.length:Int)).toNat,by omega,by omega⟩
     refine rD [2,3,4] (s9 (s1 (bP (robj:=[(801,.box 177 [.d (.sl (aE (l))),.d (.i ((p+1)))])]) (rl:=[(0,801)]) (bor:=[]) (cR (l) ((p+1)) _ (by omega) hl) rfl rfl rfl rfl ⟨bY rfl rfl rfl rfl (cQ rfl rfl (bB rfl (aG rfl (aG rfl aN)) trivial)),rfl⟩ rfl (.inl rfl) (aM ⟨rfl,trivial⟩) (fun _ hj=>nomatch hj) (ai (by rw[hj,aXy,aX hjl];exact⟨⟨by omega,by rw[aH];omega⟩,rfl⟩) (ai (by rw[hj,aXy,aX hjl];exact⟨aX0 rfl,rfl⟩) (s3 (ai (by kernel_rfl) (rt (cX [tV 0 (.tup [.c (.d (.i (i:Nat))),.agg [.d (.i ((bA (W.ks.getD i .zero)).1.held.getD j .zero).frm),.d (.i ((bA (W.ks.getD i .zero)).1.held.getD j .zero).num),.d (.i ((bA (W.ks.getD i .zero)).1.held.getD j .zero).to),.d (.i ((bA (W.ks.getD i .zero)).1.held.getD j .zero).til),.d (.s ((bA (W.ks.getD i .zero)).1.held.getD j .zero).text)],.c (.d (.b true))]),oB 800 147 [.pt 801 0,.d (.i (W.tm)),.own 802 4,.own 803 3,ps 804 4 (W.a),ps 805 5 (W.b),ps 806 5 (W.c),ps 807 10 (W.d)],oB 801 177 [.d (.sl (aE l)),.d (.i ((p+1+1)))],oR 802 31 5 (aL W.ks),oR 803 4 1 (aQ W.ls),(.o 804,aO 260 4 fQ),(.o 805,aO 52 5 cO),(.o 806,aO 52 5 cO),(.o 807,aO 204 10 kF)] ⟨(i:Nat),(bA (W.ks.getD i .zero)).1.held.getD j .zero,true,p+1+1,⟨by omega,by omega,by omega,by omega⟩,rfl⟩ ?_)))))))))
     refine rq [] [] rfl ?_
     repeat' apply ai
     all_goals try exact qx
     all_goals(first|with_reducible rfl|((rw[hj,aXy,aX hjl];rfl)))
   refine sk (rT [0,3,5,6] (s2 (ai (by decide) (s1 (rT [0,3,5,6] (s3 (wq [] [] (⟨4 - (m+1),by omega,(i+1) % 4,m+1,rfl,⟨by omega,by omega⟩,rfl⟩) ?_)))))))
   repeat' apply ai
   all_goals first|exact qx|(refine aA D.i ?_;rw[aF (by omega)];omega)|(refine aA D.i ?_;rw[aF (n:=(i:Int)+1) (by omega),Int.tmod_eq_emod_of_nonneg (by omega)];omega)|exact qz
 refine xt (sq (rT [2,3,4] (s4 (rt (cX [tV 0 (.tup [.c (.d (.i 0)),.agg [.d (.i bI.zero.frm),.d (.i bI.zero.num),.d (.i bI.zero.to),.d (.i bI.zero.til),.d (.s bI.zero.text)],.c (.d (.b false))]),oB 800 147 [.pt 801 0,.d (.i (W.tm)),.own 802 4,.own 803 3,ps 804 4 (W.a),ps 805 5 (W.b),ps 806 5 (W.c),ps 807 10 (W.d)],oB 801 177 [.d (.sl (aE l)),.d (.i ((p+1)))],oR 802 31 5 (aL W.ks),oR 803 4 1 (aQ W.ls),(.o 804,aO 260 4 fQ),(.o 805,aO 52 5 cO),(.o 806,aO 52 5 cO),(.o 807,aO 204 10 kF)] ⟨0,.zero,false,p+1,⟨by omega,by omega,by omega,by omega⟩,rfl⟩ (rq [] [] rfl ?_))))))
 repeat' apply ai
 all_goals try exact qx
 all_goals(first|with_reducible rfl|(rfl))
theorem aUe (l:List UInt8) (p:Int) (W:fM) (hp:0≤p∧p≤900000) (hl:l.length≤2000) (hW:W.ok) (hd:W.d≤99000):tn 173 1 [tP 0 800,oB 800 147 [.pt 801 0,.d (.i (W.tm)),.own 802 4,.own 803 3,ps 804 4 (W.a),ps 805 5 (W.b),ps 806 5 (W.c),ps 807 10 (W.d)],oB 801 177 [.d (.sl (aE l)),.d (.i (p))],oR 802 31 5 (aL W.ks),oR 803 4 1 (aQ W.ls),(.o 804,aO 260 4 fQ),(.o 805,aO 52 5 cO),(.o 806,aO 52 5 cO),(.o 807,aO 204 10 kF)] (fun s=> ∃(W2:fM) (q:Int),(W2.of W 1∧p≤q∧q≤p+10)∧s=[oB 800 147 [.pt 801 0,.d (.i (W2.tm)),.own 802 4,.own 803 3,ps 804 4 (W2.a),ps 805 5 (W2.b),ps 806 5 (W2.c),ps 807 10 (W2.d)],oB 801 177 [.d (.sl (aE l)),.d (.i (q))],oR 802 31 5 (aL W2.ks),oR 803 4 1 (aQ W2.ls),(.o 804,aO 260 4 fQ),(.o 805,aO 52 5 cO),(.o 806,aO 52 5 cO),(.o 807,aO 204 10 kF)]):=by
 have hall: ∀y∈([[97],[104,101,108,108,111],[97,32,108,111,110,103,101,114,32,109,101,115,115,97,103,101],[97,98,99,100],[49,50,51,52,53,54,55,56],[106,117,115,116,32,116,119,101,110,116,121,45,102,111,117,114,32,98,121,116,101,115,32,33,33],[109,105,120,101,100,32,98,108,111,99,107,115]]:List (List UInt8)),y.length≤60:=by decide
 refine ul Tryz.func173 rfl (sq (rT [0,2] (s4 (bP (robj:=[(801,.box 177 [.d (.sl (aE (l))),.d (.i (p))])]) (rl:=[(0,801)]) (bor:=[]) (cR (l) (p) _ (by omega) hl) rfl rfl rfl rfl ⟨bY rfl rfl rfl rfl (cQ rfl rfl (bB rfl (aG rfl (aG rfl aN)) trivial)),rfl⟩ rfl (.inl rfl) (aM ⟨rfl,trivial⟩) (fun _ hj=>nomatch hj) (s1 (sq ?_))))))
 obtain⟨i,hi,hil⟩:=ar (show 0≤bT l p 4∧bT l p 4≤3 by have:=cG l (p:=p) (n:=4) (by omega) (by omega);omega)
 refine rE [0,2,3] (s4 (ai (by exact⟨by simp,by decide⟩) (zG 15 15 rfl rfl rfl rfl (dB (robj:=[(801,.box 177 [.d (.sl (aE (l))),.d (.i (p+1))])]) (rl:=[(0,801)]) (bor:=[]) (news:=[]) (aNf (l) (p+1) (([[97],[104,101,108,108,111],[97,32,108,111,110,103,101,114,32,109,101,115,115,97,103,101],[97,98,99,100],[49,50,51,52,53,54,55,56],[106,117,115,116,32,116,119,101,110,116,121,45,102,111,117,114,32,98,121,116,101,115,32,33,33],[109,105,120,101,100,32,98,108,111,99,107,115]]:List (List UInt8))) (by simp) (by omega) hl) rfl rfl rfl rfl ⟨bY rfl rfl rfl rfl (cQ rfl rfl (bB rfl (aG rfl (aG rfl aN)) trivial)),rfl⟩ (by rintro _ ⟨x,hx,rfl⟩;exact⟨rfl,.inl rfl,fun j hj=>nomatch hj⟩) (aM ⟨rfl,trivial⟩) (fun j hj=>nomatch hj) ?_))))
 rintro _ ⟨x,hx,rfl⟩
 refine s1 (SW.midW (fun q=> ∃x2:List UInt8,x2.length≤60∧q=[tP 0 800,tI 2 (i:Nat),tD 3 (.s x2),oB 800 147 [.pt 801 0,.d (.i (W.tm)),.own 802 4,.own 803 3,ps 804 4 (W.a),ps 805 5 (W.b),ps 806 5 (W.c),ps 807 10 (W.d)],oB 801 177 [.d (.sl (aE l)),.d (.i ((p+1+1)))],oR 802 31 5 (aL W.ks),oR 803 4 1 (aQ W.ls),(.o 804,aO 260 4 fQ),(.o 805,aO 52 5 cO),(.o 806,aO 52 5 cO),(.o 807,aO 204 10 kF)]) ?_ ?_)
 · refine sq (rT [0,2,3,19] (s3 (cd rfl (fun c19=> ?_) fun c19=> ?_)))
   · refine rT [0,2,3] (s1 (ai (by simp[jy,eZ,gB] at *; omega) (s1 ?_)))
     first
     |(refine wq (σ':=[tP 0 800,tI 2 (i:Nat),tD 3 (.s (x.take 24)),oB 800 147 [.pt 801 0,.d (.i (W.tm)),.own 802 4,.own 803 3,ps 804 4 (W.a),ps 805 5 (W.b),ps 806 5 (W.c),ps 807 10 (W.d)],oB 801 177 [.d (.sl (aE l)),.d (.i ((p+1+1)))],oR 802 31 5 (aL W.ks),oR 803 4 1 (aQ W.ls),(.o 804,aO 260 4 fQ),(.o 805,aO 52 5 cO),(.o 806,aO 52 5 cO),(.o 807,aO 204 10 kF)]) [] [] (⟨_,by rw[aX4];omega,rfl⟩) ?_
       repeat' apply ai
       all_goals try exact qx
       all_goals first|with_reducible rfl|exact aA D.i hi|rfl)
     |(refine wq (σ':=[tP 0 800,tI 2 (i:Nat),tD 3 (.s x),oB 800 147 [.pt 801 0,.d (.i (W.tm)),.own 802 4,.own 803 3,ps 804 4 (W.a),ps 805 5 (W.b),ps 806 5 (W.c),ps 807 10 (W.d)],oB 801 177 [.d (.sl (aE l)),.d (.i ((p+1+1)))],oR 802 31 5 (aL W.ks),oR 803 4 1 (aQ W.ls),(.o 804,aO 260 4 fQ),(.o 805,aO 52 5 cO),(.o 806,aO 52 5 cO),(.o 807,aO 204 10 kF)]) [] [] (⟨_,hall x hx,rfl⟩) ?_
       repeat' apply ai
       all_goals try exact qx
       all_goals first|with_reducible rfl|exact aA D.i hi|rfl)
   refine sk ?_
   first
   |(refine wq (σ':=[tP 0 800,tI 2 (i:Nat),tD 3 (.s (x.take 24)),oB 800 147 [.pt 801 0,.d (.i (W.tm)),.own 802 4,.own 803 3,ps 804 4 (W.a),ps 805 5 (W.b),ps 806 5 (W.c),ps 807 10 (W.d)],oB 801 177 [.d (.sl (aE l)),.d (.i ((p+1+1)))],oR 802 31 5 (aL W.ks),oR 803 4 1 (aQ W.ls),(.o 804,aO 260 4 fQ),(.o 805,aO 52 5 cO),(.o 806,aO 52 5 cO),(.o 807,aO 204 10 kF)]) [] [] (⟨_,by rw[aX4];omega,rfl⟩) ?_
     repeat' apply ai
     all_goals try exact qx
     all_goals first|with_reducible rfl|exact aA D.i hi|rfl)
   |(refine wq (σ':=[tP 0 800,tI 2 (i:Nat),tD 3 (.s x),oB 800 147 [.pt 801 0,.d (.i (W.tm)),.own 802 4,.own 803 3,ps 804 4 (W.a),ps 805 5 (W.b),ps 806 5 (W.c),ps 807 10 (W.d)],oB 801 177 [.d (.sl (aE l)),.d (.i ((p+1+1)))],oR 802 31 5 (aL W.ks),oR 803 4 1 (aQ W.ls),(.o 804,aO 260 4 fQ),(.o 805,aO 52 5 cO),(.o 806,aO 52 5 cO),(.o 807,aO 204 10 kF)]) [] [] (⟨_,hall x hx,rfl⟩) ?_
     repeat' apply ai
     all_goals try exact qx
     all_goals first|with_reducible rfl|exact aA D.i hi|rfl)
 rintro s ⟨x2,hx2,rfl⟩
 refine sq (rT [0,2,3,4] (s6 (ai (by exact⟨by rw[bN];exact hW.four,by omega,by omega⟩) (ai (by rw[aXy,cH (by rw[hW.four];omega)];exact⟨⟨by rw[bN];exact hW.four,by omega⟩,aX0 rfl,rfl⟩) (xp (gW (W.ks.getD i .zero) (by have:=(hW.at (show i<4 by omega)).1;omega)) (ai (by rw[aXy,cH (by rw[hW.four];omega)];rfl) ?_))))))
 refine s6 (SW.regDE cK mo [] 18 (fun _=>none) rfl rfl (by kernel_rfl) ?_)
 refine s6 (bP (robj:=[(801,.box 177 [.d (.sl (aE (l))),.d (.i (p+1+1))])]) (rl:=[(0,801)]) (bor:=[]) (cR (l) (p+1+1) _ (by omega) hl) rfl rfl rfl rfl ⟨bY rfl rfl rfl rfl (cQ rfl rfl (bB rfl (aG rfl (aG rfl aN)) trivial)),rfl⟩ rfl (.inl rfl) (aM ⟨rfl,trivial⟩) (fun _ hj=>nomatch hj) (s7 (bP (robj:=[(801,.box 177 [.d (.sl (aE (l))),.d (.i (p+1+1+1))])]) (rl:=[(0,801)]) (bor:=[]) (cR (l) (p+1+1+1) _ (by omega) hl) rfl rfl rfl rfl ⟨bY rfl rfl rfl rfl (cQ rfl rfl (bB rfl (aG rfl (aG rfl aN)) trivial)),rfl⟩ rfl (.inl rfl) (aM ⟨rfl,trivial⟩) (fun _ hj=>nomatch hj) (s3 (em (robj:=[(800,.box 147 [.pt 801 0,.d (.i (W.tm)),.own 802 4,.own 803 3,ps 804 4 (W.a),ps 805 5 (W.b),ps 806 5 (W.c),ps 807 10 (W.d)]),(801,.box 177 [.d (.sl (aE l)),.d (.i (p+1+1+1+1))]),(802,.row 31 5 (aL W.ks)),(803,.row 4 1 (aQ W.ls)),(804,aO 260 4 fQ),(805,aO 52 5 cO),(806,aO 52 5 cO),(807,aO 204 10 kF)]) (rl:=[]) (bor:=[]) (news:=[]) (fo l (p+1+1+1+1) W ⟨1,i,0,0,0,0,0,bT l (p+1+1) 4,wrap64 (wrap64 ((bA (W.ks.getD i .zero)).1.time+1)+bT l (p+1+1+1) 12),x2⟩ hW (by show x2.length≤1000;omega) (by omega)) rfl rfl rfl rfl ⟨bY rfl rfl rfl rfl (eC rfl (aG rfl (aG rfl (aG rfl (aG rfl (aG rfl (aG rfl (aG rfl (aG rfl (aG rfl (aG rfl aN)))))))))) (bB rfl (eO rfl rfl rfl (aG rfl (bU rfl rfl rfl (bU rfl rfl rfl (bM rfl rfl rfl (bM rfl rfl rfl (bM rfl rfl rfl (bM rfl rfl rfl aN)))))))) (bB rfl (aG rfl (aG rfl aN)) (bZ rfl rfl (bZ rfl rfl (bE rfl rfl (bE rfl rfl (bE rfl rfl (bE rfl rfl trivial))))))))),rfl⟩ (by rintro _ ⟨W2,ok2,hw2,rfl⟩;exact⟨rfl,.inl rfl,fun j hj=>nomatch hj⟩) (aM ⟨rfl,rfl,rfl,rfl,rfl,rfl,rfl,rfl,trivial⟩) (fun j hj=>nomatch hj) ⟨_,W,false,(fM.of.refl hW).le (by omega),rfl⟩ ?_)))))
 rintro _ ⟨W2,ok2,hw2,rfl⟩
 refine ai (by kernel_rfl) (cX [oB 800 147 [.pt 801 0,.d (.i (W2.tm)),.own 802 4,.own 803 3,ps 804 4 (W2.a),ps 805 5 (W2.b),ps 806 5 (W2.c),ps 807 10 (W2.d)],oB 801 177 [.d (.sl (aE l)),.d (.i ((p+1+1+1+1)))],oR 802 31 5 (aL W2.ks),oR 803 4 1 (aQ W2.ls),(.o 804,aO 260 4 fQ),(.o 805,aO 52 5 cO),(.o 806,aO 52 5 cO),(.o 807,aO 204 10 kF)] ⟨W2,p+1+1+1+1,⟨hw2,by omega,by omega⟩,rfl⟩ (rq [] [] rfl ?_))
 repeat' apply ai
 all_goals try exact qx
 all_goals(first|with_reducible rfl|(rfl))
theorem nl (l:List UInt8) (p:Int) (W:fM) (n:Nat) (r:Int) (hp:0≤p∧p≤900000) (hl:l.length≤2000) (hW:W.ok) (hd:W.d≤99000) (hn:n≤40):tn 201 3 [tP 0 800,tI 1 (n:Nat),tI 2 r,oB 800 147 [.pt 801 0,.d (.i (W.tm)),.own 802 4,.own 803 3,ps 804 4 (W.a),ps 805 5 (W.b),ps 806 5 (W.c),ps 807 10 (W.d)],oB 801 177 [.d (.sl (aE l)),.d (.i (p))],oR 802 31 5 (aL W.ks),oR 803 4 1 (aQ W.ls),(.o 804,aO 260 4 fQ),(.o 805,aO 52 5 cO),(.o 806,aO 52 5 cO),(.o 807,aO 204 10 kF)] (fun s=> ∃(W2:fM) (q:Int),(W2.of W (3*n)∧p≤q∧q≤p+8*n)∧s=[oB 800 147 [.pt 801 0,.d (.i (W2.tm)),.own 802 4,.own 803 3,ps 804 4 (W2.a),ps 805 5 (W2.b),ps 806 5 (W2.c),ps 807 10 (W2.d)],oB 801 177 [.d (.sl (aE l)),.d (.i (q))],oR 802 31 5 (aL W2.ks),oR 803 4 1 (aQ W2.ls),(.o 804,aO 260 4 fQ),(.o 805,aO 52 5 cO),(.o 806,aO 52 5 cO),(.o 807,aO 204 10 kF)]):=by
 refine ul Tryz.func201 rfl (sq (rT [0,1,2,6] (s1 (bk (SW.loopW (n:=n) (fun x s=> ∃(i:Nat) (V:fM) (q:Int),x=n - i∧(i≤n∧V.of W (3*i)∧p≤q∧q≤p+8*i)∧s=[tP 0 800,tI 1 (n:Nat),tI 2 r,tI 6 (i:Nat),oB 800 147 [.pt 801 0,.d (.i (V.tm)),.own 802 4,.own 803 3,ps 804 4 (V.a),ps 805 5 (V.b),ps 806 5 (V.c),ps 807 10 (V.d)],oB 801 177 [.d (.sl (aE l)),.d (.i (q))],oR 802 31 5 (aL V.ks),oR 803 4 1 (aQ V.ls),(.o 804,aO 260 4 fQ),(.o 805,aO 52 5 cO),(.o 806,aO 52 5 cO),(.o 807,aO 204 10 kF)]) ?_ ?_)))))
 · exact wq [] [] (⟨0,W,p,rfl,⟨by omega,fM.of.refl hW,by omega,by omega⟩,rfl⟩) qz
 rintro n s ⟨i,V,q,rfl,⟨hin,hV,hq⟩,rfl⟩
 refine sq (sq (rT [0,1,2,6,19] (s4 (y4 (y1 (aEo cK rfl rfl rfl rfl rfl rk (y1 (ai pk (cd rfl (fun c19=> ?_) fun c19=> ?_)))))))))
 · have hi2:i<n:=by have h9:=c19;simp only[gb,aX3,aD] at h9;omega
   have hVd:=hV.few
   have hVo:V.ok:=hV.ok
   try simp only[fM.ok] at hVo
   refine sk (sq (bk (sq (rT [0,1,2,6,7] (s3 (SW.midW (fun s=> ∃(k w m kp q3:Int),(q≤q3∧q3≤q+5)∧s=[tP 0 800,tI 1 (n:Nat),tI 2 r,tI 6 (i:Nat),tP 7 7,oB 800 147 [.pt 801 0,.d (.i (V.tm)),.own 802 4,.own 803 3,ps 804 4 (V.a),ps 805 5 (V.b),ps 806 5 (V.c),ps 807 10 (V.d)],oB 801 177 [.d (.sl (aE l)),.d (.i (q3))],oR 802 31 5 (aL V.ks),oR 803 4 1 (aQ V.ls),(.o 804,aO 260 4 fQ),(.o 805,aO 52 5 cO),(.o 806,aO 52 5 cO),(.o 807,aO 204 10 kF),oB 7 204 [.d (.i (k)),.d (.i 0),.d (.i 0),.d (.i 0),.d (.i (w)),.d (.i (m)),.d (.i (kp)),.d (.i 0),.d (.i 0),.d (.s [])]]) ?_ ?_))))))
   · refine SW.midW (fun s=> ∃(cb:Bool) (q2:Int),(q≤q2∧q2≤q+1)∧s=[tP 0 800,tI 1 (n:Nat),tI 2 r,tI 6 (i:Nat),tP 7 7,tB 33 cb,oB 800 147 [.pt 801 0,.d (.i (V.tm)),.own 802 4,.own 803 3,ps 804 4 (V.a),ps 805 5 (V.b),ps 806 5 (V.c),ps 807 10 (V.d)],oB 801 177 [.d (.sl (aE l)),.d (.i (q2))],oR 802 31 5 (aL V.ks),oR 803 4 1 (aQ V.ls),(.o 804,aO 260 4 fQ),(.o 805,aO 52 5 cO),(.o 806,aO 52 5 cO),(.o 807,aO 204 10 kF),oB 7 204 [.d (.i (4)),.d (.i 0),.d (.i 0),.d (.i 0),.d (.i (0)),.d (.i (0)),.d (.i (0)),.d (.i 0),.d (.i 0),.d (.s [])]]) ?_ ?_
     · refine rF [0,1,2,6,7,33] (s1 (s1 (s1 (ai (fun h1=> ?_) (fun h1=> ?_)))))
       · refine s1 (ai (fun _=> ?_) (fun h=>absurd h (by rw[h1];simp)))
         refine s1 (ai (fun _=> ?_) (fun h=>absurd h (by rw[h1];simp)))
         refine s1 (ai (fun _=> ?_) (fun h=>absurd h (by rw[h1];simp)))
         refine s1 (ai (fun _=> ?_) (fun h=>absurd h (by rw[h1];simp)))
         refine s1 (ai (fun _=> ?_) (fun h=>absurd h (by rw[h1];simp)))
         refine iO (bP (robj:=[(801,.box 177 [.d (.sl (aE (l))),.d (.i (q))])]) (rl:=[(0,801)]) (bor:=[]) (cR (l) (q) _ (by omega) hl) rfl rfl rfl rfl ⟨bY rfl rfl rfl rfl (cQ rfl rfl (bB rfl (aG rfl (aG rfl aN)) trivial)),rfl⟩ rfl (.inl rfl) (aM ⟨rfl,trivial⟩) (fun _ hj=>nomatch hj) (ai (fun _=> ?_) (fun h=>absurd h (by rw[h1];simp))))
         exact s1 (ai pk (wq [] [] ⟨?c1,q+1,⟨by omega,by omega⟩,rfl⟩ qz))
       refine⟨I 0,?_⟩
       refine ai (fun h=>absurd h (by rw[h1];simp)) (fun _=>⟨I 0,?_⟩)
       refine ai (fun h=>absurd h (by rw[h1];simp)) (fun _=>⟨I 0,?_⟩)
       refine ai (fun h=>absurd h (by rw[h1];simp)) (fun _=>⟨I 0,?_⟩)
       refine ai (fun h=>absurd h (by rw[h1];simp)) (fun _=>⟨I 0,?_⟩)
       refine ai (fun h=>absurd h (by rw[h1];simp)) (fun _=>⟨I 0,?_⟩)
       refine ai (fun h=>absurd h (by rw[h1];simp)) (fun _=>⟨B false,?_⟩)
       exact ai (by constructor<;>intro h<;>first|trivial|exact absurd (h1.symm.trans h:false=true) (by decide)) (wq [] [] ⟨?d1,q,⟨by omega,by omega⟩,rfl⟩ qz)
     rintro s ⟨cb,q2,hq2,rfl⟩
     refine cd rfl (fun c33=> ?_) fun c33=> ?_
     · refine sq (rT [0,1,2,6,7,38] (s4 (bP (robj:=[(801,.box 177 [.d (.sl (aE (l))),.d (.i (q2))])]) (rl:=[(0,801)]) (bor:=[]) (cR (l) (q2) _ (by omega) hl) rfl rfl rfl rfl ⟨bY rfl rfl rfl rfl (cQ rfl rfl (bB rfl (aG rfl (aG rfl aN)) trivial)),rfl⟩ rfl (.inl rfl) (aM ⟨rfl,trivial⟩) (fun _ hj=>nomatch hj) (bk (sq (rT [0,1,2,6,7,38,51] (s2 (cd rfl (fun c51=> ?_) fun c51=> ?_))))))))
       · refine rT [0,1,2,6,7] (s2 ?_)
         first
         |(exact wq [] [] ⟨5,0,0,0,(q2+1),⟨by omega,by omega⟩,rfl⟩ qz)
         |(exact wq [] [] ⟨4,0,0,1,(q2+1),⟨by omega,by omega⟩,rfl⟩ qz)
         |(exact wq [] [] ⟨4,(bT l (q2+1) (V.a:Int)),0,0,(q2+1+1),⟨by omega,by omega⟩,rfl⟩ qz)
         |(exact wq [] [] ⟨6,(bT l (q2+1) (V.a:Int)),(bT l (q2+1+1) 17),(wrap64 (1+(bT l (q2+1+1+1) 255))),(q2+1+1+1+1),⟨by omega,by omega⟩,rfl⟩ qz)
         |(exact wq [] [] ⟨4,0,0,0,q2,⟨by omega,by omega⟩,rfl⟩ qz)
       refine sq (rT [0,1,2,6,7,38,54] (s2 (cd rfl (fun c54=> ?_) fun c54=> ?_)))
       · refine rT [0,1,2,6,7] (s2 ?_)
         first
         |(exact wq [] [] ⟨5,0,0,0,(q2+1),⟨by omega,by omega⟩,rfl⟩ qz)
         |(exact wq [] [] ⟨4,0,0,1,(q2+1),⟨by omega,by omega⟩,rfl⟩ qz)
         |(exact wq [] [] ⟨4,(bT l (q2+1) (V.a:Int)),0,0,(q2+1+1),⟨by omega,by omega⟩,rfl⟩ qz)
         |(exact wq [] [] ⟨6,(bT l (q2+1) (V.a:Int)),(bT l (q2+1+1) 17),(wrap64 (1+(bT l (q2+1+1+1) 255))),(q2+1+1+1+1),⟨by omega,by omega⟩,rfl⟩ qz)
         |(exact wq [] [] ⟨4,0,0,0,q2,⟨by omega,by omega⟩,rfl⟩ qz)
       refine sq (rT [0,1,2,6,7,57] (s2 (cd rfl (fun c57=> ?_) fun c57=> ?_)))
       · refine sq (rT [0,1,2,6,7] (s2 (sq (rD [0,1,2,6,7] (s9 (ig cK rfl rfl rfl rfl rfl (bP (robj:=[(801,.box 177 [.d (.sl (aE (l))),.d (.i (q2+1))])]) (rl:=[(0,801)]) (bor:=[]) (cR (l) (q2+1) _ (by omega) hl) rfl rfl rfl rfl ⟨bY rfl rfl rfl rfl (cQ rfl rfl (bB rfl (aG rfl (aG rfl aN)) trivial)),rfl⟩ rfl (.inl rfl) (aM ⟨rfl,trivial⟩) (fun _ hj=>nomatch hj) (s2 (ai (by kernel_rfl) (sq (rT [0,1,2,6,7] (s4 (bP (robj:=[(801,.box 177 [.d (.sl (aE (l))),.d (.i (q2+1+1))])]) (rl:=[(0,801)]) (bor:=[]) (cR (l) (q2+1+1) _ (by omega) hl) rfl rfl rfl rfl ⟨bY rfl rfl rfl rfl (cQ rfl rfl (bB rfl (aG rfl (aG rfl aN)) trivial)),rfl⟩ rfl (.inl rfl) (aM ⟨rfl,trivial⟩) (fun _ hj=>nomatch hj) (s2 (rT [0,1,2,6,7] (s4 (bP (robj:=[(801,.box 177 [.d (.sl (aE (l))),.d (.i (q2+1+1+1))])]) (rl:=[(0,801)]) (bor:=[]) (cR (l) (q2+1+1+1) _ (by omega) hl) rfl rfl rfl rfl ⟨bY rfl rfl rfl rfl (cQ rfl rfl (bB rfl (aG rfl (aG rfl aN)) trivial)),rfl⟩ rfl (.inl rfl) (aM ⟨rfl,trivial⟩) (fun _ hj=>nomatch hj) ?_)))))))))))))))))
         refine s3 ?_
         first
         |(exact wq [] [] ⟨5,0,0,0,(q2+1),⟨by omega,by omega⟩,rfl⟩ qz)
         |(exact wq [] [] ⟨4,0,0,1,(q2+1),⟨by omega,by omega⟩,rfl⟩ qz)
         |(exact wq [] [] ⟨4,(bT l (q2+1) (V.a:Int)),0,0,(q2+1+1),⟨by omega,by omega⟩,rfl⟩ qz)
         |(exact wq [] [] ⟨6,(bT l (q2+1) (V.a:Int)),(bT l (q2+1+1) 17),(wrap64 (1+(bT l (q2+1+1+1) 255))),(q2+1+1+1+1),⟨by omega,by omega⟩,rfl⟩ qz)
         |(exact wq [] [] ⟨4,0,0,0,q2,⟨by omega,by omega⟩,rfl⟩ qz)
       refine rD [0,1,2,6,7] (s9 (ig cK rfl rfl rfl rfl rfl (bP (robj:=[(801,.box 177 [.d (.sl (aE (l))),.d (.i (q2+1))])]) (rl:=[(0,801)]) (bor:=[]) (cR (l) (q2+1) _ (by omega) hl) rfl rfl rfl rfl ⟨bY rfl rfl rfl rfl (cQ rfl rfl (bB rfl (aG rfl (aG rfl aN)) trivial)),rfl⟩ rfl (.inl rfl) (aM ⟨rfl,trivial⟩) (fun _ hj=>nomatch hj) (s2 (ai (by kernel_rfl) ?_)))))
       first
       |(exact wq [] [] ⟨5,0,0,0,(q2+1),⟨by omega,by omega⟩,rfl⟩ qz)
       |(exact wq [] [] ⟨4,0,0,1,(q2+1),⟨by omega,by omega⟩,rfl⟩ qz)
       |(exact wq [] [] ⟨4,(bT l (q2+1) (V.a:Int)),0,0,(q2+1+1),⟨by omega,by omega⟩,rfl⟩ qz)
       |(exact wq [] [] ⟨6,(bT l (q2+1) (V.a:Int)),(bT l (q2+1+1) 17),(wrap64 (1+(bT l (q2+1+1+1) 255))),(q2+1+1+1+1),⟨by omega,by omega⟩,rfl⟩ qz)
       |(exact wq [] [] ⟨4,0,0,0,q2,⟨by omega,by omega⟩,rfl⟩ qz)
     refine sk ?_
     first
     |(exact wq [] [] ⟨5,0,0,0,(q2+1),⟨by omega,by omega⟩,rfl⟩ qz)
     |(exact wq [] [] ⟨4,0,0,1,(q2+1),⟨by omega,by omega⟩,rfl⟩ qz)
     |(exact wq [] [] ⟨4,(bT l (q2+1) (V.a:Int)),0,0,(q2+1+1),⟨by omega,by omega⟩,rfl⟩ qz)
     |(exact wq [] [] ⟨6,(bT l (q2+1) (V.a:Int)),(bT l (q2+1+1) 17),(wrap64 (1+(bT l (q2+1+1+1) 255))),(q2+1+1+1+1),⟨by omega,by omega⟩,rfl⟩ qz)
     |(exact wq [] [] ⟨4,0,0,0,q2,⟨by omega,by omega⟩,rfl⟩ qz)
   rintro s ⟨k,w,m,kp,q3,hq3,rfl⟩
   refine SW.midW (fun s=> ∃V3:fM,V3.of V 2∧s=[tP 0 800,tI 1 (n:Nat),tI 2 r,tI 6 (i:Nat),tP 7 7,oB 800 147 [.pt 801 0,.d (.i (V3.tm)),.own 802 4,.own 803 3,ps 804 4 (V3.a),ps 805 5 (V3.b),ps 806 5 (V3.c),ps 807 10 (V3.d)],oB 801 177 [.d (.sl (aE l)),.d (.i (q3))],oR 802 31 5 (aL V3.ks),oR 803 4 1 (aQ V3.ls),(.o 804,aO 260 4 fQ),(.o 805,aO 52 5 cO),(.o 806,aO 52 5 cO),(.o 807,aO 204 10 kF),oB 7 204 [.d (.i (k)),.d (.i 0),.d (.i 0),.d (.i 0),.d (.i (w)),.d (.i (m)),.d (.i (kp)),.d (.i 0),.d (.i 0),.d (.s [])]]) ?_ ?_
   · refine sq (rE [0,1,2,6,7,88] (s2 (dB (robj:=[(800,.box 147 [.pt 801 0,.d (.i (V.tm)),.own 802 4,.own 803 3,ps 804 4 (V.a),ps 805 5 (V.b),ps 806 5 (V.c),ps 807 10 (V.d)]),(801,.box 177 [.d (.sl (aE l)),.d (.i (q3))]),(802,.row 31 5 (aL V.ks)),(803,.row 4 1 (aQ V.ls)),(804,aO 260 4 fQ),(805,aO 52 5 cO),(806,aO 52 5 cO),(807,aO 204 10 kF)]) (rl:=[]) (bor:=[]) (news:=[]) (fo l (q3) V ⟨k,0,0,0,w,m,kp,0,0,[]⟩ hV.ok (by simp) (by omega)) rfl rfl rfl rfl ⟨bY rfl rfl rfl rfl (eC rfl (aG rfl (aG rfl (aG rfl (aG rfl (aG rfl (aG rfl (aG rfl (aG rfl (aG rfl (aG rfl aN)))))))))) (bB rfl (eO rfl rfl rfl (aG rfl (bU rfl rfl rfl (bU rfl rfl rfl (bM rfl rfl rfl (bM rfl rfl rfl (bM rfl rfl rfl (bM rfl rfl rfl aN)))))))) (bB rfl (aG rfl (aG rfl aN)) (bZ rfl rfl (bZ rfl rfl (bE rfl rfl (bE rfl rfl (bE rfl rfl (bE rfl rfl trivial))))))))),rfl⟩ (by rintro _ ⟨W2,ok2,hw2,rfl⟩;exact⟨rfl,.inl rfl,fun j hj=>nomatch hj⟩) (aM ⟨rfl,rfl,rfl,rfl,rfl,rfl,rfl,rfl,trivial⟩) (fun j hj=>nomatch hj) ?_)))
     rintro _ ⟨W2,ok2,hw2,rfl⟩
     refine s1 (cd rfl (fun c88=> ?_) fun c88=> ?_)
     · refine rE [0,1,2,6,7] (s2 (dB (robj:=[(800,.box 147 [.pt 801 0,.d (.i (W2.tm)),.own 802 4,.own 803 3,ps 804 4 (W2.a),ps 805 5 (W2.b),ps 806 5 (W2.c),ps 807 10 (W2.d)]),(801,.box 177 [.d (.sl (aE l)),.d (.i (q3))]),(802,.row 31 5 (aL W2.ks)),(803,.row 4 1 (aQ W2.ls)),(804,aO 260 4 fQ),(805,aO 52 5 cO),(806,aO 52 5 cO),(807,aO 204 10 kF)]) (rl:=[]) (bor:=[]) (news:=[]) (fo l (q3) W2 ⟨5,0,0,0,0,0,0,0,0,[]⟩ hw2.ok (by simp) (by have:=hw2.few;omega)) rfl rfl rfl rfl ⟨bY rfl rfl rfl rfl (eC rfl (aG rfl (aG rfl (aG rfl (aG rfl (aG rfl (aG rfl (aG rfl (aG rfl (aG rfl (aG rfl aN)))))))))) (bB rfl (eO rfl rfl rfl (aG rfl (bU rfl rfl rfl (bU rfl rfl rfl (bM rfl rfl rfl (bM rfl rfl rfl (bM rfl rfl rfl (bM rfl rfl rfl aN)))))))) (bB rfl (aG rfl (aG rfl aN)) (bZ rfl rfl (bZ rfl rfl (bE rfl rfl (bE rfl rfl (bE rfl rfl (bE rfl rfl trivial))))))))),rfl⟩ (by rintro _ ⟨W25,ok25,hw25,rfl⟩;exact⟨rfl,.inl rfl,fun j hj=>nomatch hj⟩) (aM ⟨rfl,rfl,rfl,rfl,rfl,rfl,rfl,rfl,trivial⟩) (fun j hj=>nomatch hj) ?_))
       rintro _ ⟨W25,ok25,hw25,rfl⟩
       first
       |(exact wq [] [] ⟨W25,(hw2.trans hw25),rfl⟩ qz)
       |(exact wq [] [] ⟨W2,(hw2.le (by omega)),rfl⟩ qz)
     refine sk ?_
     first
     |(exact wq [] [] ⟨W25,(hw2.trans hw25),rfl⟩ qz)
     |(exact wq [] [] ⟨W2,(hw2.le (by omega)),rfl⟩ qz)
   rintro s ⟨V3,hV3,rfl⟩
   have hV3d:=hV3.few
   refine SW.midW (fun s=> ∃(cb:Bool) (q4:Int),(q3≤q4∧q4≤q3+1)∧s=[tP 0 800,tI 1 (n:Nat),tI 2 r,tI 6 (i:Nat),tP 7 7,tB 102 cb,oB 800 147 [.pt 801 0,.d (.i (V3.tm)),.own 802 4,.own 803 3,ps 804 4 (V3.a),ps 805 5 (V3.b),ps 806 5 (V3.c),ps 807 10 (V3.d)],oB 801 177 [.d (.sl (aE l)),.d (.i (q4))],oR 802 31 5 (aL V3.ks),oR 803 4 1 (aQ V3.ls),(.o 804,aO 260 4 fQ),(.o 805,aO 52 5 cO),(.o 806,aO 52 5 cO),(.o 807,aO 204 10 kF),oB 7 204 [.d (.i (k)),.d (.i 0),.d (.i 0),.d (.i 0),.d (.i (w)),.d (.i (m)),.d (.i (kp)),.d (.i 0),.d (.i 0),.d (.s [])]]) ?_ ?_
   · refine rF [0,1,2,6,7,102] (s1 (s1 (s1 (s1 (ai (fun h1=> ?_) (fun h1=> ?_))))))
     · refine s1 (ai (fun _=> ?_) (fun h=>absurd h (by rw[h1];simp)))
       refine s1 (ai (fun _=> ?_) (fun h=>absurd h (by rw[h1];simp)))
       refine s1 (ai (fun _=> ?_) (fun h=>absurd h (by rw[h1];simp)))
       refine s1 (ai (fun _=> ?_) (fun h=>absurd h (by rw[h1];simp)))
       refine iO (bP (robj:=[(801,.box 177 [.d (.sl (aE (l))),.d (.i (q3))])]) (rl:=[(0,801)]) (bor:=[]) (cR (l) (q3) _ (by omega) hl) rfl rfl rfl rfl ⟨bY rfl rfl rfl rfl (cQ rfl rfl (bB rfl (aG rfl (aG rfl aN)) trivial)),rfl⟩ rfl (.inl rfl) (aM ⟨rfl,trivial⟩) (fun _ hj=>nomatch hj) (ai (fun _=> ?_) (fun h=>absurd h (by rw[h1];simp))))
       exact s1 (ai pk (wq [] [] ⟨?c2,q3+1,⟨by omega,by omega⟩,rfl⟩ qz))
     refine⟨I 0,?_⟩
     refine ai (fun h=>absurd h (by rw[h1];simp)) (fun _=>⟨I 0,?_⟩)
     refine ai (fun h=>absurd h (by rw[h1];simp)) (fun _=>⟨I 0,?_⟩)
     refine ai (fun h=>absurd h (by rw[h1];simp)) (fun _=>⟨I 0,?_⟩)
     refine ai (fun h=>absurd h (by rw[h1];simp)) (fun _=>⟨I 0,?_⟩)
     refine ai (fun h=>absurd h (by rw[h1];simp)) (fun _=>⟨B false,?_⟩)
     exact ai (by constructor<;>intro h<;>first|trivial|exact absurd (h1.symm.trans h:false=true) (by decide)) (wq [] [] ⟨?d2,q3,⟨by omega,by omega⟩,rfl⟩ qz)
   rintro s ⟨cb2,q4,hq4,rfl⟩
   refine cd rfl (fun c102=> ?_) fun c102=> ?_
   · refine sq (rT [0,1,2,6,7] (s4 (bP (robj:=[(801,.box 177 [.d (.sl (aE (l))),.d (.i (q4))])]) (rl:=[(0,801)]) (bor:=[]) (cR (l) (q4) _ (by omega) hl) rfl rfl rfl rfl ⟨bY rfl rfl rfl rfl (cQ rfl rfl (bB rfl (aG rfl (aG rfl aN)) trivial)),rfl⟩ rfl (.inl rfl) (aM ⟨rfl,trivial⟩) (fun _ hj=>nomatch hj) (s2 (sq (rT [0,1,2,6,7] (s4 (bP (robj:=[(801,.box 177 [.d (.sl (aE (l))),.d (.i (q4+1))])]) (rl:=[(0,801)]) (bor:=[]) (cR (l) (q4+1) _ (by omega) hl) rfl rfl rfl rfl ⟨bY rfl rfl rfl rfl (cQ rfl rfl (bB rfl (aG rfl (aG rfl aN)) trivial)),rfl⟩ rfl (.inl rfl) (aM ⟨rfl,trivial⟩) (fun _ hj=>nomatch hj) (s3 (rE [0,1,2,6] (s2 (dB (robj:=[(800,.box 147 [.pt 801 0,.d (.i (V3.tm)),.own 802 4,.own 803 3,ps 804 4 (V3.a),ps 805 5 (V3.b),ps 806 5 (V3.c),ps 807 10 (V3.d)]),(801,.box 177 [.d (.sl (aE l)),.d (.i (q4+1+1))]),(802,.row 31 5 (aL V3.ks)),(803,.row 4 1 (aQ V3.ls)),(804,aO 260 4 fQ),(805,aO 52 5 cO),(806,aO 52 5 cO),(807,aO 204 10 kF)]) (rl:=[]) (bor:=[]) (news:=[]) (fo l (q4+1+1) V3 ⟨k,0,0,0,w,(bT l (q4) 17),(wrap64 (1+(bT l (q4+1) 255))),0,0,[]⟩ hV3.ok (by simp) (by omega)) rfl rfl rfl rfl ⟨bY rfl rfl rfl rfl (eC rfl (aG rfl (aG rfl (aG rfl (aG rfl (aG rfl (aG rfl (aG rfl (aG rfl (aG rfl (aG rfl aN)))))))))) (bB rfl (eO rfl rfl rfl (aG rfl (bU rfl rfl rfl (bU rfl rfl rfl (bM rfl rfl rfl (bM rfl rfl rfl (bM rfl rfl rfl (bM rfl rfl rfl aN)))))))) (bB rfl (aG rfl (aG rfl aN)) (bZ rfl rfl (bZ rfl rfl (bE rfl rfl (bE rfl rfl (bE rfl rfl (bE rfl rfl trivial))))))))),rfl⟩ (by rintro _ ⟨W24,ok24,hw24,rfl⟩;exact⟨rfl,.inl rfl,fun j hj=>nomatch hj⟩) (aM ⟨rfl,rfl,rfl,rfl,rfl,rfl,rfl,rfl,trivial⟩) (fun j hj=>nomatch hj) ?_))))))))))))
     rintro _ ⟨W24,ok24,hw24,rfl⟩
     refine rT [0,1,2,6] (s3 ?_)
     first
     |(refine wq [] [] ⟨n - (i+1),by omega,i+1,W24,(q4+1+1),rfl,⟨by omega,((hV.trans (hV3.trans hw24)).le (by omega)),by omega,by omega⟩,rfl⟩ ?_
       repeat' apply ai
       all_goals try exact qx
       all_goals first|with_reducible rfl|exact aA D.i (aF (by omega))|rfl)
     |(refine wq [] [] ⟨n - (i+1),by omega,i+1,V3,q4,rfl,⟨by omega,((hV.trans hV3).le (by omega)),by omega,by omega⟩,rfl⟩ ?_
       repeat' apply ai
       all_goals try exact qx
       all_goals first|with_reducible rfl|exact aA D.i (aF (by omega))|rfl)
   refine sk (rT [0,1,2,6] (s3 ?_))
   first
   |(refine wq [] [] ⟨n - (i+1),by omega,i+1,W24,(q4+1+1),rfl,⟨by omega,((hV.trans (hV3.trans hw24)).le (by omega)),by omega,by omega⟩,rfl⟩ ?_
     repeat' apply ai
     all_goals try exact qx
     all_goals first|with_reducible rfl|exact aA D.i (aF (by omega))|rfl)
   |(refine wq [] [] ⟨n - (i+1),by omega,i+1,V3,q4,rfl,⟨by omega,((hV.trans hV3).le (by omega)),by omega,by omega⟩,rfl⟩ ?_
     repeat' apply ai
     all_goals try exact qx
     all_goals first|with_reducible rfl|exact aA D.i (aF (by omega))|rfl)
 refine xt (cX [oB 800 147 [.pt 801 0,.d (.i (V.tm)),.own 802 4,.own 803 3,ps 804 4 (V.a),ps 805 5 (V.b),ps 806 5 (V.c),ps 807 10 (V.d)],oB 801 177 [.d (.sl (aE l)),.d (.i (q))],oR 802 31 5 (aL V.ks),oR 803 4 1 (aQ V.ls),(.o 804,aO 260 4 fQ),(.o 805,aO 52 5 cO),(.o 806,aO 52 5 cO),(.o 807,aO 204 10 kF)] ⟨V,q,⟨hV.le (by omega),by omega,by omega⟩,rfl⟩ (rq [] [] rfl ?_))
 repeat' apply ai
 all_goals try exact qx
 all_goals(first|with_reducible rfl|(rfl))
theorem nm (l:List UInt8) (p:Int) (W:fM) (n:Nat) (r:Int) (hp:0≤p∧p≤890000) (hl:l.length≤2000) (hW:W.ok) (hd:W.d≤98000) (hn:n≤7):tn 165 3 [tP 0 800,tI 1 (n:Nat),tI 2 r,oB 800 147 [.pt 801 0,.d (.i (W.tm)),.own 802 4,.own 803 3,ps 804 4 (W.a),ps 805 5 (W.b),ps 806 5 (W.c),ps 807 10 (W.d)],oB 801 177 [.d (.sl (aE l)),.d (.i (p))],oR 802 31 5 (aL W.ks),oR 803 4 1 (aQ W.ls),(.o 804,aO 260 4 fQ),(.o 805,aO 52 5 cO),(.o 806,aO 52 5 cO),(.o 807,aO 204 10 kF)] (fun s=> ∃(W2:fM) (q:Int),(W2.of W 40∧p≤q∧q≤p+100)∧s=[oB 800 147 [.pt 801 0,.d (.i (W2.tm)),.own 802 4,.own 803 3,ps 804 4 (W2.a),ps 805 5 (W2.b),ps 806 5 (W2.c),ps 807 10 (W2.d)],oB 801 177 [.d (.sl (aE l)),.d (.i (q))],oR 802 31 5 (aL W2.ks),oR 803 4 1 (aQ W2.ls),(.o 804,aO 260 4 fQ),(.o 805,aO 52 5 cO),(.o 806,aO 52 5 cO),(.o 807,aO 204 10 kF)]):=by
 refine ul Tryz.func165 rfl (sq (rE [0,1,2,6,7,8] (s1 (dB (robj:=[(800,.box 147 [.pt 801 0,.d (.i (W.tm)),.own 802 4,.own 803 3,ps 804 4 (W.a),ps 805 5 (W.b),ps 806 5 (W.c),ps 807 10 (W.d)]),(801,.box 177 [.d (.sl (aE l)),.d (.i (p))]),(802,.row 31 5 (aL W.ks)),(803,.row 4 1 (aQ W.ls)),(804,aO 260 4 fQ),(805,aO 52 5 cO),(806,aO 52 5 cO),(807,aO 204 10 kF)]) (rl:=[]) (bor:=[]) (news:=[]) (aV4 l p W (by omega) hl hW (by omega)) rfl rfl rfl rfl ⟨bY rfl rfl rfl rfl (bB rfl (eO rfl rfl rfl (aG rfl (bU rfl rfl rfl (bU rfl rfl rfl (bM rfl rfl rfl (bM rfl rfl rfl (bM rfl rfl rfl (bM rfl rfl rfl aN)))))))) (bB rfl (aG rfl (aG rfl aN)) (bZ rfl rfl (bZ rfl rfl (bE rfl rfl (bE rfl rfl (bE rfl rfl (bE rfl rfl trivial)))))))),rfl⟩ (by rintro _ ⟨i0,n1,ok1,q1,hq1,rfl⟩;exact⟨rfl,.inl rfl,fun j hj=>nomatch hj⟩) (aM ⟨rfl,rfl,rfl,rfl,rfl,rfl,rfl,rfl,trivial⟩) (fun j hj=>nomatch hj) ?_))))
 rintro _ ⟨i0,n1,ok1,q1,hq1,rfl⟩
 refine s8 (sq (sq (rT [0,1,2,6,7,18] (s2 (cd rfl (fun c18=> ?_) fun c18=> ?_)))))
 · refine rt (cX [oB 800 147 [.pt 801 0,.d (.i (W.tm)),.own 802 4,.own 803 3,ps 804 4 (W.a),ps 805 5 (W.b),ps 806 5 (W.c),ps 807 10 (W.d)],oB 801 177 [.d (.sl (aE l)),.d (.i (q1))],oR 802 31 5 (aL W.ks),oR 803 4 1 (aQ W.ls),(.o 804,aO 260 4 fQ),(.o 805,aO 52 5 cO),(.o 806,aO 52 5 cO),(.o 807,aO 204 10 kF)] ⟨W,q1,⟨(fM.of.refl hW).le (by omega),by omega,by omega⟩,rfl⟩ (rq [] [] rfl ?_))
   repeat' apply ai
   all_goals try exact qx
   all_goals(first|with_reducible rfl|(rfl))
 refine sk (sq (rD [0,1,2,6,7,9] (s4 (bP (robj:=[(801,.box 177 [.d (.sl (aE (l))),.d (.i (q1))])]) (rl:=[(0,801)]) (bor:=[]) (cR (l) (q1) _ (by omega) hl) rfl rfl rfl rfl ⟨bY rfl rfl rfl rfl (cQ rfl rfl (bB rfl (aG rfl (aG rfl aN)) trivial)),rfl⟩ rfl (.inl rfl) (aM ⟨rfl,trivial⟩) (fun _ hj=>nomatch hj) (s4 (bP (robj:=[(801,.box 177 [.d (.sl (aE (l))),.d (.i (q1+1))])]) (rl:=[(0,801)]) (bor:=[]) (cR (l) (q1+1) _ (by omega) hl) rfl rfl rfl rfl ⟨bY rfl rfl rfl rfl (cQ rfl rfl (bB rfl (aG rfl (aG rfl aN)) trivial)),rfl⟩ rfl (.inl rfl) (aM ⟨rfl,trivial⟩) (fun _ hj=>nomatch hj) (s2 (ai (by kernel_rfl) (sq (sq (rT [0,1,2,6,7,9,10] (s1 (bk ?_)))))))))))))
 obtain⟨m9,hm9⟩: ∃m9:Int,m9=wrap64 (bT l q1 2*bT l (q1+1) 40):=⟨_,rfl⟩
 refine SW.loopW (n:=n) (fun x s=> ∃(i:Nat) (V:fM),x=n - i∧(i≤n∧V.of W i)∧s=[tP 0 800,tI 1 (n:Nat),tI 2 r,tI 10 (i:Nat),tI 6 i0,tP 7 7,tI 9 m9,oB 800 147 [.pt 801 0,.d (.i (V.tm)),.own 802 4,.own 803 3,ps 804 4 (V.a),ps 805 5 (V.b),ps 806 5 (V.c),ps 807 10 (V.d)],oB 801 177 [.d (.sl (aE l)),.d (.i (q1+1+1))],oR 802 31 5 (aL V.ks),oR 803 4 1 (aQ V.ls),(.o 804,aO 260 4 fQ),(.o 805,aO 52 5 cO),(.o 806,aO 52 5 cO),(.o 807,aO 204 10 kF),oB 7 52 [.d (.i n1.frm),.d (.i n1.num),.d (.i n1.to),.d (.i n1.til),.d (.s n1.text)]]) ?_ ?_
 · refine wq [] [] (⟨0,W,rfl,⟨by omega,fM.of.refl hW⟩,rfl⟩) ?_
   repeat' apply ai
   all_goals first|exact qx|exact aA D.i hm9.symm|rfl|exact qz
 rintro n s ⟨i,V,rfl,⟨hin,hV⟩,rfl⟩
 have hVd:=hV.few
 refine sq (sq (rT [0,1,2,6,7,9,10,32] (s3 (cd rfl (fun c32=> ?_) fun c32=> ?_))))
 · have hi2:i<n:=by simp at c32;omega
   refine sk (sq (bk (rE [0,1,2,6,7,9,10] (s9 (s1 (dB (robj:=[(800,.box 147 [.pt 801 0,.d (.i (V.tm)),.own 802 4,.own 803 3,ps 804 4 (V.a),ps 805 5 (V.b),ps 806 5 (V.c),ps 807 10 (V.d)]),(801,.box 177 [.d (.sl (aE l)),.d (.i (q1+1+1))]),(802,.row 31 5 (aL V.ks)),(803,.row 4 1 (aQ V.ls)),(804,aO 260 4 fQ),(805,aO 52 5 cO),(806,aO 52 5 cO),(807,aO 204 10 kF)]) (rl:=[]) (bor:=[]) (news:=[]) (fo l (q1+1+1) V ⟨3,i0,n1.frm,n1.num,0,wrap64 (m9+i),0,0,0,[]⟩ hV.ok (by simp) (by omega)) rfl rfl rfl rfl ⟨bY rfl rfl rfl rfl (eC rfl (aG rfl (aG rfl (aG rfl (aG rfl (aG rfl (aG rfl (aG rfl (aG rfl (aG rfl (aG rfl aN)))))))))) (bB rfl (eO rfl rfl rfl (aG rfl (bU rfl rfl rfl (bU rfl rfl rfl (bM rfl rfl rfl (bM rfl rfl rfl (bM rfl rfl rfl (bM rfl rfl rfl aN)))))))) (bB rfl (aG rfl (aG rfl aN)) (bZ rfl rfl (bZ rfl rfl (bE rfl rfl (bE rfl rfl (bE rfl rfl (bE rfl rfl trivial))))))))),rfl⟩ (by rintro _ ⟨W2,ok2,hw2,rfl⟩;exact⟨rfl,.inl rfl,fun j hj=>nomatch hj⟩) (aM ⟨rfl,rfl,rfl,rfl,rfl,rfl,rfl,rfl,trivial⟩) (fun j hj=>nomatch hj) ?_))))))
   rintro _ ⟨W2,ok2,hw2,rfl⟩
   refine rT [0,1,2,6,7,9,10] (s3 (wq [] [] (⟨n - (i+1),by omega,i+1,W2,rfl,⟨by omega,hV.trans hw2⟩,rfl⟩) ?_))
   repeat' apply ai
   all_goals first|exact qx|exact aA D.i (aF (by omega))|rfl|exact qz
 refine xt ?_
 obtain⟨m,hm,hml⟩: ∃m:Nat,bT l (q1+1+1) (wrap64 ((n:Int)+4))=(m:Int)∧m≤10:=by have:=cG l (p:=q1+1+1) (n:=wrap64 ((n:Int)+4)) (by omega) (by rw[aF (by omega)];omega);rw[aF (n:=(n:Int)+4) (by omega)] at *; exact⟨(bT l (q1+1+1) ((n:Int)+4)).toNat,by omega,by omega⟩
 refine rE [] (s7 (iO (bP (robj:=[(801,.box 177 [.d (.sl (aE (l))),.d (.i (q1+1+1))])]) (rl:=[(0,801)]) (bor:=[]) (cR (l) (q1+1+1) _ (by omega) hl) rfl rfl rfl rfl ⟨bY rfl rfl rfl rfl (cQ rfl rfl (bB rfl (aG rfl (aG rfl aN)) trivial)),rfl⟩ rfl (.inl rfl) (aM ⟨rfl,trivial⟩) (fun _ hj=>nomatch hj) (s1 (dB (robj:=[(800,.box 147 [.pt 801 0,.d (.i (V.tm)),.own 802 4,.own 803 3,ps 804 4 (V.a),ps 805 5 (V.b),ps 806 5 (V.c),ps 807 10 (V.d)]),(801,.box 177 [.d (.sl (aE l)),.d (.i (q1+1+1+1))]),(802,.row 31 5 (aL V.ks)),(803,.row 4 1 (aQ V.ls)),(804,aO 260 4 fQ),(805,aO 52 5 cO),(806,aO 52 5 cO),(807,aO 204 10 kF)]) (rl:=[]) (bor:=[]) (news:=[]) (nl l (q1+1+1+1) V m r (by omega) hl hV.ok (by omega) (by omega)) rfl rfl rfl rfl ⟨bY rfl rfl rfl rfl (cQ rfl (aA D.i hm) (cQ rfl rfl (bB rfl (eO rfl rfl rfl (aG rfl (bU rfl rfl rfl (bU rfl rfl rfl (bM rfl rfl rfl (bM rfl rfl rfl (bM rfl rfl rfl (bM rfl rfl rfl aN)))))))) (bB rfl (aG rfl (aG rfl aN)) (bZ rfl rfl (bZ rfl rfl (bE rfl rfl (bE rfl rfl (bE rfl rfl (bE rfl rfl trivial)))))))))),rfl⟩ (by rintro _ ⟨W2,q2,hw2,rfl⟩;exact⟨rfl,.inl rfl,fun j hj=>nomatch hj⟩) (aM ⟨rfl,rfl,rfl,rfl,rfl,rfl,rfl,rfl,trivial⟩) (fun j hj=>nomatch hj) ?_)))))
 rintro _ ⟨W2,q2,hw2,rfl⟩
 refine cX [oB 800 147 [.pt 801 0,.d (.i (W2.tm)),.own 802 4,.own 803 3,ps 804 4 (W2.a),ps 805 5 (W2.b),ps 806 5 (W2.c),ps 807 10 (W2.d)],oB 801 177 [.d (.sl (aE l)),.d (.i (q2))],oR 802 31 5 (aL W2.ks),oR 803 4 1 (aQ W2.ls),(.o 804,aO 260 4 fQ),(.o 805,aO 52 5 cO),(.o 806,aO 52 5 cO),(.o 807,aO 204 10 kF)] ⟨W2,q2,⟨(hV.trans hw2.1).le (by omega),by omega,by omega⟩,rfl⟩ (rq [] [] rfl ?_)
 repeat' apply ai
 all_goals try exact qx
 all_goals(first|with_reducible rfl|(rfl))
theorem aV5 (l:List UInt8) (p:Int) (W:fM) (hp:0≤p∧p≤880000) (hl:l.length≤2000) (hW:W.ok) (hd:W.d≤97000):tn 214 1 [tP 0 800,oB 800 147 [.pt 801 0,.d (.i (W.tm)),.own 802 4,.own 803 3,ps 804 4 (W.a),ps 805 5 (W.b),ps 806 5 (W.c),ps 807 10 (W.d)],oB 801 177 [.d (.sl (aE l)),.d (.i (p))],oR 802 31 5 (aL W.ks),oR 803 4 1 (aQ W.ls),(.o 804,aO 260 4 fQ),(.o 805,aO 52 5 cO),(.o 806,aO 52 5 cO),(.o 807,aO 204 10 kF)] (fun s=> ∃(W2:fM) (q:Int),(W2.of W 500∧p≤q∧q≤p+1000)∧s=[oB 800 147 [.pt 801 0,.d (.i (W2.tm)),.own 802 4,.own 803 3,ps 804 4 (W2.a),ps 805 5 (W2.b),ps 806 5 (W2.c),ps 807 10 (W2.d)],oB 801 177 [.d (.sl (aE l)),.d (.i (q))],oR 802 31 5 (aL W2.ks),oR 803 4 1 (aQ W2.ls),(.o 804,aO 260 4 fQ),(.o 805,aO 52 5 cO),(.o 806,aO 52 5 cO),(.o 807,aO 204 10 kF)]):=by
 refine ul Tryz.func214 rfl (sq (rE [0] (s1 (dB (robj:=[(800,.box 147 [.pt 801 0,.d (.i (W.tm)),.own 802 4,.own 803 3,ps 804 4 (W.a),ps 805 5 (W.b),ps 806 5 (W.c),ps 807 10 (W.d)]),(801,.box 177 [.d (.sl (aE l)),.d (.i (p))]),(802,.row 31 5 (aL W.ks)),(803,.row 4 1 (aQ W.ls)),(804,aO 260 4 fQ),(805,aO 52 5 cO),(806,aO 52 5 cO),(807,aO 204 10 kF)]) (rl:=[]) (bor:=[]) (news:=[]) (nl l p W 40 0 (by omega) hl hW (by omega) (by omega)) rfl rfl rfl rfl ⟨bY rfl rfl rfl rfl (cQ rfl rfl (cQ rfl rfl (bB rfl (eO rfl rfl rfl (aG rfl (bU rfl rfl rfl (bU rfl rfl rfl (bM rfl rfl rfl (bM rfl rfl rfl (bM rfl rfl rfl (bM rfl rfl rfl aN)))))))) (bB rfl (aG rfl (aG rfl aN)) (bZ rfl rfl (bZ rfl rfl (bE rfl rfl (bE rfl rfl (bE rfl rfl (bE rfl rfl trivial)))))))))),rfl⟩ (by rintro _ ⟨W1,q1,hw1,rfl⟩;exact⟨rfl,.inl rfl,fun j hj=>nomatch hj⟩) (aM ⟨rfl,rfl,rfl,rfl,rfl,rfl,rfl,rfl,trivial⟩) (fun j hj=>nomatch hj) ?_))))
 rintro _ ⟨W1,q1,hw1,rfl⟩
 refine sq (rE [0] (s1 (dB (robj:=[(800,.box 147 [.pt 801 0,.d (.i (W1.tm)),.own 802 4,.own 803 3,ps 804 4 (W1.a),ps 805 5 (W1.b),ps 806 5 (W1.c),ps 807 10 (W1.d)]),(801,.box 177 [.d (.sl (aE l)),.d (.i (q1))]),(802,.row 31 5 (aL W1.ks)),(803,.row 4 1 (aQ W1.ls)),(804,aO 260 4 fQ),(805,aO 52 5 cO),(806,aO 52 5 cO),(807,aO 204 10 kF)]) (rl:=[]) (bor:=[]) (news:=[]) (nm l q1 W1 6 0 (by omega) hl hw1.1.ok (by have:=hw1.1.few;omega) (by omega)) rfl rfl rfl rfl ⟨bY rfl rfl rfl rfl (cQ rfl rfl (cQ rfl rfl (bB rfl (eO rfl rfl rfl (aG rfl (bU rfl rfl rfl (bU rfl rfl rfl (bM rfl rfl rfl (bM rfl rfl rfl (bM rfl rfl rfl (bM rfl rfl rfl aN)))))))) (bB rfl (aG rfl (aG rfl aN)) (bZ rfl rfl (bZ rfl rfl (bE rfl rfl (bE rfl rfl (bE rfl rfl (bE rfl rfl trivial)))))))))),rfl⟩ (by rintro _ ⟨W2,q2,hw2,rfl⟩;exact⟨rfl,.inl rfl,fun j hj=>nomatch hj⟩) (aM ⟨rfl,rfl,rfl,rfl,rfl,rfl,rfl,rfl,trivial⟩) (fun j hj=>nomatch hj) ?_)))
 rintro _ ⟨W2,q2,hw2,rfl⟩
 refine sq (sq (rT [0,2] (s1 (bk ?_))))
 have hw1d:=hw1.1.few
 have hw2d:=hw2.1.few
 refine SW.loopW (n:=2) (fun x s=> ∃(i:Nat) (V:fM) (q:Int),x=2 - i∧(i≤2∧V.of W (160+30*i)∧p≤q∧q≤p+420+i)∧s=[tP 0 800,tI 2 (i:Nat),oB 800 147 [.pt 801 0,.d (.i (V.tm)),.own 802 4,.own 803 3,ps 804 4 (V.a),ps 805 5 (V.b),ps 806 5 (V.c),ps 807 10 (V.d)],oB 801 177 [.d (.sl (aE l)),.d (.i (q))],oR 802 31 5 (aL V.ks),oR 803 4 1 (aQ V.ls),(.o 804,aO 260 4 fQ),(.o 805,aO 52 5 cO),(.o 806,aO 52 5 cO),(.o 807,aO 204 10 kF)]) ?_ ?_
 · exact wq [] [] (⟨0,W2,q2,rfl,⟨by omega,(hw1.1.trans hw2.1).le (by omega),by omega,by omega⟩,rfl⟩) qz
 rintro n s ⟨i,V,q,rfl,⟨hi2,hV,hq⟩,rfl⟩
 have hVd:=hV.few
 have hpv:=cG l (p:=q) (n:=2) (by omega) (by omega)
 refine sq (sq (rT [0,2,20] (s5 (bP (robj:=[(801,.box 177 [.d (.sl (aE (l))),.d (.i (q))])]) (rl:=[(0,801)]) (bor:=[]) (cR (l) (q) _ (by omega) hl) rfl rfl rfl rfl ⟨bY rfl rfl rfl rfl (cQ rfl rfl (bB rfl (aG rfl (aG rfl aN)) trivial)),rfl⟩ rfl (.inl rfl) (aM ⟨rfl,trivial⟩) (fun _ hj=>nomatch hj) (s2 (cd rfl (fun c20=> ?_) fun c20=> ?_))))))
 · have hi1:i<2:=by rw[aF (by omega)] at c20;simp at c20;omega
   refine sk (sq (bk (sq (rT [0,2,3] (s5 (ig cK rfl rfl rfl rfl rfl (s1 (sq (rT [0,2,3,4] (s1 (bk ?_)))))))))))
   obtain⟨a3,ha3,ha30⟩: ∃a3:Nat,a3=V.a∧a3≤30:=⟨_,rfl,hV.ok.ra⟩
   refine SW.loopW (n:=a3) (fun x s=> ∃(j:Nat) (U:fM),x=a3 - j∧(j≤a3∧U.of V j)∧s=[tP 0 800,tI 2 (i:Nat),tI 3 (a3:Nat),tI 4 (j:Nat),oB 800 147 [.pt 801 0,.d (.i (U.tm)),.own 802 4,.own 803 3,ps 804 4 (U.a),ps 805 5 (U.b),ps 806 5 (U.c),ps 807 10 (U.d)],oB 801 177 [.d (.sl (aE l)),.d (.i (q+1))],oR 802 31 5 (aL U.ks),oR 803 4 1 (aQ U.ls),(.o 804,aO 260 4 fQ),(.o 805,aO 52 5 cO),(.o 806,aO 52 5 cO),(.o 807,aO 204 10 kF)]) ?_ ?_
   · refine wq [] [] (⟨0,V,rfl,⟨by omega,fM.of.refl hV.ok⟩,rfl⟩) ?_
     repeat' apply ai
     all_goals first|exact qx|rfl|(rw[ha3])|exact qz
   rintro n s ⟨j,U,rfl,⟨hj,hU⟩,rfl⟩
   have hUd:=hU.few
   refine sq (sq (rT [0,2,3,4,31] (s3 (cd rfl (fun c31=> ?_) fun c31=> ?_))))
   · have hj2:j<a3:=by simp at c31;omega
     refine sk (sq (bk (rE [0,2,3,4] (s3 (dB (robj:=[(800,.box 147 [.pt 801 0,.d (.i (U.tm)),.own 802 4,.own 803 3,ps 804 4 (U.a),ps 805 5 (U.b),ps 806 5 (U.c),ps 807 10 (U.d)]),(801,.box 177 [.d (.sl (aE l)),.d (.i (q+1))]),(802,.row 31 5 (aL U.ks)),(803,.row 4 1 (aQ U.ls)),(804,aO 260 4 fQ),(805,aO 52 5 cO),(806,aO 52 5 cO),(807,aO 204 10 kF)]) (rl:=[]) (bor:=[]) (news:=[]) (fo l (q+1) U ⟨4,0,0,0,j,0,1,0,0,[]⟩ hU.ok (by simp) (by omega)) rfl rfl rfl rfl ⟨bY rfl rfl rfl rfl (eC rfl (aG rfl (aG rfl (aG rfl (aG rfl (aG rfl (aG rfl (aG rfl (aG rfl (aG rfl (aG rfl aN)))))))))) (bB rfl (eO rfl rfl rfl (aG rfl (bU rfl rfl rfl (bU rfl rfl rfl (bM rfl rfl rfl (bM rfl rfl rfl (bM rfl rfl rfl (bM rfl rfl rfl aN)))))))) (bB rfl (aG rfl (aG rfl aN)) (bZ rfl rfl (bZ rfl rfl (bE rfl rfl (bE rfl rfl (bE rfl rfl (bE rfl rfl trivial))))))))),rfl⟩ (by rintro _ ⟨W3,ok3,hw3,rfl⟩;exact⟨rfl,.inl rfl,fun j hj=>nomatch hj⟩) (aM ⟨rfl,rfl,rfl,rfl,rfl,rfl,rfl,rfl,trivial⟩) (fun j hj=>nomatch hj) ?_)))))
     rintro _ ⟨W3,ok3,hw3,rfl⟩
     refine rT [0,2,3,4] (s3 (wq [] [] (⟨a3 - (j+1),by omega,j+1,W3,rfl,⟨by omega,hU.trans hw3⟩,rfl⟩) ?_))
     repeat' apply ai
     all_goals first|exact qx|exact aA D.i (aF (by omega))|rfl|exact qz
   have hj3:j=a3:=by simp at c31;omega
   refine xt (rT [0,2] (s3 (wq [] [] (⟨2 - (i+1),by omega,i+1,U,q+1,rfl,⟨by omega,(hV.trans hU).le (by omega),by omega,by omega⟩,rfl⟩) ?_)))
   repeat' apply ai
   all_goals first|exact qx|exact aA D.i (aF (by omega))|rfl|exact qz
 refine xt (sq (rT [0,5] (s4 (bP (robj:=[(801,.box 177 [.d (.sl (aE (l))),.d (.i (q+1))])]) (rl:=[(0,801)]) (bor:=[]) (cR (l) (q+1) _ (by omega) hl) rfl rfl rfl rfl ⟨bY rfl rfl rfl rfl (cQ rfl rfl (bB rfl (aG rfl (aG rfl aN)) trivial)),rfl⟩ rfl (.inl rfl) (aM ⟨rfl,trivial⟩) (fun _ hj=>nomatch hj) (s1 (SW.midW (fun s=> ∃(V2:fM) (q4:Int),(V2.of V 10∧q≤q4∧q4≤q+5)∧s=[tP 0 800,oB 800 147 [.pt 801 0,.d (.i (V2.tm)),.own 802 4,.own 803 3,ps 804 4 (V2.a),ps 805 5 (V2.b),ps 806 5 (V2.c),ps 807 10 (V2.d)],oB 801 177 [.d (.sl (aE l)),.d (.i (q4))],oR 802 31 5 (aL V2.ks),oR 803 4 1 (aQ V2.ls),(.o 804,aO 260 4 fQ),(.o 805,aO 52 5 cO),(.o 806,aO 52 5 cO),(.o 807,aO 204 10 kF)]) ?_ ?_))))))
 · refine sq (rT [0,5,47] (s4 (bP (robj:=[(801,.box 177 [.d (.sl (aE (l))),.d (.i (q+1+1))])]) (rl:=[(0,801)]) (bor:=[]) (cR (l) (q+1+1) _ (by omega) hl) rfl rfl rfl rfl ⟨bY rfl rfl rfl rfl (cQ rfl rfl (bB rfl (aG rfl (aG rfl aN)) trivial)),rfl⟩ rfl (.inl rfl) (aM ⟨rfl,trivial⟩) (fun _ hj=>nomatch hj) (bk (sq (rT [0,5,47,48] (s2 (cd rfl (fun c48=> ?_) fun c48=> ?_))))))))
   · refine sq (rE [0,5] (s6 (iO (bP (robj:=[(801,.box 177 [.d (.sl (aE (l))),.d (.i (q+1+1+1))])]) (rl:=[(0,801)]) (bor:=[]) (cR (l) (q+1+1+1) _ (by omega) hl) rfl rfl rfl rfl ⟨bY rfl rfl rfl rfl (cQ rfl rfl (bB rfl (aG rfl (aG rfl aN)) trivial)),rfl⟩ rfl (.inl rfl) (aM ⟨rfl,trivial⟩) (fun _ hj=>nomatch hj) (s1 (dB (robj:=[(800,.box 147 [.pt 801 0,.d (.i (V.tm)),.own 802 4,.own 803 3,ps 804 4 (V.a),ps 805 5 (V.b),ps 806 5 (V.c),ps 807 10 (V.d)]),(801,.box 177 [.d (.sl (aE l)),.d (.i (q+1+1+1+1))]),(802,.row 31 5 (aL V.ks)),(803,.row 4 1 (aQ V.ls)),(804,aO 260 4 fQ),(805,aO 52 5 cO),(806,aO 52 5 cO),(807,aO 204 10 kF)]) (rl:=[]) (bor:=[]) (news:=[]) (fo l (q+1+1+1+1) V ⟨7,bT l (q+1) 4,0,0,0,0,bT l (q+1+1+1) 40,0,0,[]⟩ hV.ok (by simp) (by omega)) rfl rfl rfl rfl ⟨bY rfl rfl rfl rfl (eC rfl (aG rfl (aG rfl (aG rfl (aG rfl (aG rfl (aG rfl (aG rfl (aG rfl (aG rfl (aG rfl aN)))))))))) (bB rfl (eO rfl rfl rfl (aG rfl (bU rfl rfl rfl (bU rfl rfl rfl (bM rfl rfl rfl (bM rfl rfl rfl (bM rfl rfl rfl (bM rfl rfl rfl aN)))))))) (bB rfl (aG rfl (aG rfl aN)) (bZ rfl rfl (bZ rfl rfl (bE rfl rfl (bE rfl rfl (bE rfl rfl (bE rfl rfl trivial))))))))),rfl⟩ (by rintro _ ⟨W3,ok3,hw3,rfl⟩;exact⟨rfl,.inl rfl,fun j hj=>nomatch hj⟩) (aM ⟨rfl,rfl,rfl,rfl,rfl,rfl,rfl,rfl,trivial⟩) (fun j hj=>nomatch hj) ?_))))))
     rintro _ ⟨W3,ok3,hw3,rfl⟩
     refine rE [0] (s3 (dB (robj:=[(800,.box 147 [.pt 801 0,.d (.i (W3.tm)),.own 802 4,.own 803 3,ps 804 4 (W3.a),ps 805 5 (W3.b),ps 806 5 (W3.c),ps 807 10 (W3.d)]),(801,.box 177 [.d (.sl (aE l)),.d (.i (q+1+1+1+1))]),(802,.row 31 5 (aL W3.ks)),(803,.row 4 1 (aQ W3.ls)),(804,aO 260 4 fQ),(805,aO 52 5 cO),(806,aO 52 5 cO),(807,aO 204 10 kF)]) (rl:=[]) (bor:=[]) (news:=[]) (fo l (q+1+1+1+1) W3 ⟨8,bT l (q+1) 4,0,0,0,0,0,0,0,[]⟩ hw3.ok (by simp) (by have:=hw3.few;omega)) rfl rfl rfl rfl ⟨bY rfl rfl rfl rfl (eC rfl (aG rfl (aG rfl (aG rfl (aG rfl (aG rfl (aG rfl (aG rfl (aG rfl (aG rfl (aG rfl aN)))))))))) (bB rfl (eO rfl rfl rfl (aG rfl (bU rfl rfl rfl (bU rfl rfl rfl (bM rfl rfl rfl (bM rfl rfl rfl (bM rfl rfl rfl (bM rfl rfl rfl aN)))))))) (bB rfl (aG rfl (aG rfl aN)) (bZ rfl rfl (bZ rfl rfl (bE rfl rfl (bE rfl rfl (bE rfl rfl (bE rfl rfl trivial))))))))),rfl⟩ (by rintro _ ⟨W4,ok4,hw4,rfl⟩;exact⟨rfl,.inl rfl,fun j hj=>nomatch hj⟩) (aM ⟨rfl,rfl,rfl,rfl,rfl,rfl,rfl,rfl,trivial⟩) (fun j hj=>nomatch hj) ?_))
     rintro _ ⟨W4,ok4,hw4,rfl⟩
     first
     |(exact wq [] [] ⟨W4,q+1+1+1+1,⟨(hw3.trans hw4).le (by omega),by omega,by omega⟩,rfl⟩ qz)
     |(exact wq [] [] ⟨U,q+1+1+1+1,⟨hU.le (by omega),by omega,by omega⟩,rfl⟩ qz)
     |(exact wq [] [] ⟨V,q+1+1+1,⟨(fM.of.refl hV.ok).le (by omega),by omega,by omega⟩,rfl⟩ qz)
   refine sq (rT [0,5,63] (s2 (cd rfl (fun c63=> ?_) fun c63=> ?_)))
   · refine sq (rT [0,5,6] (s4 (bP (robj:=[(801,.box 177 [.d (.sl (aE (l))),.d (.i (q+1+1+1))])]) (rl:=[(0,801)]) (bor:=[]) (cR (l) (q+1+1+1) _ (by omega) hl) rfl rfl rfl rfl ⟨bY rfl rfl rfl rfl (cQ rfl rfl (bB rfl (aG rfl (aG rfl aN)) trivial)),rfl⟩ rfl (.inl rfl) (aM ⟨rfl,trivial⟩) (fun _ hj=>nomatch hj) (s1 (bk ?_)))))
     obtain⟨k0,hk0,hk9⟩: ∃k0:Nat,bT l (q+1+1+1) 9=(k0:Int)∧k0≤8:=by have:=cG l (p:=q+1+1+1) (n:=9) (by omega) (by omega);exact⟨(bT l (q+1+1+1) 9).toNat,by omega,by omega⟩
     obtain⟨x5,hx5⟩: ∃x5:Int,x5=bT l (q+1) 4:=⟨_,rfl⟩
     refine SW.loopW (n:=k0) (fun x s=> ∃(U:fM),(x≤k0∧U.of V (k0 - x))∧s=[tP 0 800,tI 5 x5,tI 6 (x:Nat),oB 800 147 [.pt 801 0,.d (.i (U.tm)),.own 802 4,.own 803 3,ps 804 4 (U.a),ps 805 5 (U.b),ps 806 5 (U.c),ps 807 10 (U.d)],oB 801 177 [.d (.sl (aE l)),.d (.i (q+1+1+1+1))],oR 802 31 5 (aL U.ks),oR 803 4 1 (aQ U.ls),(.o 804,aO 260 4 fQ),(.o 805,aO 52 5 cO),(.o 806,aO 52 5 cO),(.o 807,aO 204 10 kF)]) ?_ ?_
     · refine wq [] [] (⟨V,⟨by omega,(fM.of.refl hV.ok).le (by omega)⟩,rfl⟩) ?_
       repeat' apply ai
       all_goals first|exact qx|exact aA D.i hk0|exact aA D.i hx5.symm|rfl|exact qz
     rintro n s ⟨U,⟨hx,hU⟩,rfl⟩
     have hUd:=hU.few
     refine sq (sq (rT [0,5,6,71] (s2 (cd rfl (fun c71=> ?_) fun c71=> ?_))))
     · have hn0:0<n:=by simp at c71;omega
       refine sk (sq (bk (rE [0,5,6] (s3 (dB (robj:=[(800,.box 147 [.pt 801 0,.d (.i (U.tm)),.own 802 4,.own 803 3,ps 804 4 (U.a),ps 805 5 (U.b),ps 806 5 (U.c),ps 807 10 (U.d)]),(801,.box 177 [.d (.sl (aE l)),.d (.i (q+1+1+1+1))]),(802,.row 31 5 (aL U.ks)),(803,.row 4 1 (aQ U.ls)),(804,aO 260 4 fQ),(805,aO 52 5 cO),(806,aO 52 5 cO),(807,aO 204 10 kF)]) (rl:=[]) (bor:=[]) (news:=[]) (fo l (q+1+1+1+1) U ⟨2,x5,0,0,0,0,0,0,0,[]⟩ hU.ok (by simp) (by omega)) rfl rfl rfl rfl ⟨bY rfl rfl rfl rfl (eC rfl (aG rfl (aG rfl (aG rfl (aG rfl (aG rfl (aG rfl (aG rfl (aG rfl (aG rfl (aG rfl aN)))))))))) (bB rfl (eO rfl rfl rfl (aG rfl (bU rfl rfl rfl (bU rfl rfl rfl (bM rfl rfl rfl (bM rfl rfl rfl (bM rfl rfl rfl (bM rfl rfl rfl aN)))))))) (bB rfl (aG rfl (aG rfl aN)) (bZ rfl rfl (bZ rfl rfl (bE rfl rfl (bE rfl rfl (bE rfl rfl (bE rfl rfl trivial))))))))),rfl⟩ (by rintro _ ⟨W3,ok3,hw3,rfl⟩;exact⟨rfl,.inl rfl,fun j hj=>nomatch hj⟩) (aM ⟨rfl,rfl,rfl,rfl,rfl,rfl,rfl,rfl,trivial⟩) (fun j hj=>nomatch hj) ?_)))))
       rintro _ ⟨W3,ok3,hw3,rfl⟩
       refine rT [0,5,6] (s3 (wq [] [] (⟨n - 1,by omega,W3,⟨by omega,(hU.trans hw3).le (by omega)⟩,rfl⟩) ?_))
       repeat' apply ai
       all_goals first|exact qx|(refine aA D.i ?_;rw[aF (by omega)];omega)|rfl|exact qz
     refine xt ?_
     first
     |(exact wq [] [] ⟨W4,q+1+1+1+1,⟨(hw3.trans hw4).le (by omega),by omega,by omega⟩,rfl⟩ qz)
     |(exact wq [] [] ⟨U,q+1+1+1+1,⟨hU.le (by omega),by omega,by omega⟩,rfl⟩ qz)
     |(exact wq [] [] ⟨V,q+1+1+1,⟨(fM.of.refl hV.ok).le (by omega),by omega,by omega⟩,rfl⟩ qz)
   refine sk ?_
   first
   |(exact wq [] [] ⟨W4,q+1+1+1+1,⟨(hw3.trans hw4).le (by omega),by omega,by omega⟩,rfl⟩ qz)
   |(exact wq [] [] ⟨U,q+1+1+1+1,⟨hU.le (by omega),by omega,by omega⟩,rfl⟩ qz)
   |(exact wq [] [] ⟨V,q+1+1+1,⟨(fM.of.refl hV.ok).le (by omega),by omega,by omega⟩,rfl⟩ qz)
 rintro s ⟨V2,q4,⟨hV2,hq4⟩,rfl⟩
 have hV2d:=hV2.few
 refine sq (rT [0,7] (s5 (ig cK rfl rfl rfl rfl rfl (s1 (sq (rE [0,7] (s1 (dB (robj:=[(800,.box 147 [.pt 801 0,.d (.i (V2.tm)),.own 802 4,.own 803 3,ps 804 4 (V2.a),ps 805 5 (V2.b),ps 806 5 (V2.c),ps 807 10 (V2.d)]),(801,.box 177 [.d (.sl (aE l)),.d (.i (q4))]),(802,.row 31 5 (aL V2.ks)),(803,.row 4 1 (aQ V2.ls)),(804,aO 260 4 fQ),(805,aO 52 5 cO),(806,aO 52 5 cO),(807,aO 204 10 kF)]) (rl:=[]) (bor:=[]) (news:=[]) (nm l q4 V2 6 0 (by omega) hl hV2.ok (by omega) (by omega)) rfl rfl rfl rfl ⟨bY rfl rfl rfl rfl (cQ rfl rfl (cQ rfl rfl (bB rfl (eO rfl rfl rfl (aG rfl (bU rfl rfl rfl (bU rfl rfl rfl (bM rfl rfl rfl (bM rfl rfl rfl (bM rfl rfl rfl (bM rfl rfl rfl aN)))))))) (bB rfl (aG rfl (aG rfl aN)) (bZ rfl rfl (bZ rfl rfl (bE rfl rfl (bE rfl rfl (bE rfl rfl (bE rfl rfl trivial)))))))))),rfl⟩ (by rintro _ ⟨V3,q7,hw7,rfl⟩;exact⟨rfl,.inl rfl,fun j hj=>nomatch hj⟩) (aM ⟨rfl,rfl,rfl,rfl,rfl,rfl,rfl,rfl,trivial⟩) (fun j hj=>nomatch hj) ?_))))))))
 rintro _ ⟨V3,q7,hw7,rfl⟩
 refine sq (sq (rT [0,7,8] (s1 (bk ?_))))
 obtain⟨a7,ha7⟩: ∃a7:Nat,a7=V2.a:=⟨_,rfl⟩
 have hw7d:=hw7.1.few
 refine SW.loopW (n:=12) (fun x s=> ∃(i:Nat) (U:fM),x=12 - i∧(i≤12∧U.of V3 i)∧s=[tP 0 800,tI 7 (a7:Nat),tI 8 (i:Nat),oB 800 147 [.pt 801 0,.d (.i (U.tm)),.own 802 4,.own 803 3,ps 804 4 (U.a),ps 805 5 (U.b),ps 806 5 (U.c),ps 807 10 (U.d)],oB 801 177 [.d (.sl (aE l)),.d (.i (q7))],oR 802 31 5 (aL U.ks),oR 803 4 1 (aQ U.ls),(.o 804,aO 260 4 fQ),(.o 805,aO 52 5 cO),(.o 806,aO 52 5 cO),(.o 807,aO 204 10 kF)]) ?_ ?_
 · refine wq [] [] (⟨0,V3,rfl,⟨by omega,fM.of.refl hw7.1.ok⟩,rfl⟩) ?_
   repeat' apply ai
   all_goals first|exact qx|rfl|(rw[ha7])|exact qz
 rintro n s ⟨i7,U,rfl,⟨hi7,hU⟩,rfl⟩
 have hUd:=hU.few
 refine sq (sq (rT [0,7,8,97] (s3 (y4 (y1 (aEo cK rfl rfl rfl rfl rfl rk (y2 (ai pk (cd rfl (fun c97=> ?_) fun c97=> ?_)))))))))
 · have hi12:i7<12:=by have h9:=c97;simp only[gb,aX3,aD] at h9;omega
   refine sk (sq (bk (rE [0,7,8] (s3 (dB (robj:=[(800,.box 147 [.pt 801 0,.d (.i (U.tm)),.own 802 4,.own 803 3,ps 804 4 (U.a),ps 805 5 (U.b),ps 806 5 (U.c),ps 807 10 (U.d)]),(801,.box 177 [.d (.sl (aE l)),.d (.i (q7))]),(802,.row 31 5 (aL U.ks)),(803,.row 4 1 (aQ U.ls)),(804,aO 260 4 fQ),(805,aO 52 5 cO),(806,aO 52 5 cO),(807,aO 204 10 kF)]) (rl:=[]) (bor:=[]) (news:=[]) (fo l q7 U ⟨4,0,0,0,a7,0,0,0,0,[]⟩ hU.ok (by simp) (by omega)) rfl rfl rfl rfl ⟨bY rfl rfl rfl rfl (eC rfl (aG rfl (aG rfl (aG rfl (aG rfl (aG rfl (aG rfl (aG rfl (aG rfl (aG rfl (aG rfl aN)))))))))) (bB rfl (eO rfl rfl rfl (aG rfl (bU rfl rfl rfl (bU rfl rfl rfl (bM rfl rfl rfl (bM rfl rfl rfl (bM rfl rfl rfl (bM rfl rfl rfl aN)))))))) (bB rfl (aG rfl (aG rfl aN)) (bZ rfl rfl (bZ rfl rfl (bE rfl rfl (bE rfl rfl (bE rfl rfl (bE rfl rfl trivial))))))))),rfl⟩ (by rintro _ ⟨W3,ok3,hw3,rfl⟩;exact⟨rfl,.inl rfl,fun j hj=>nomatch hj⟩) (aM ⟨rfl,rfl,rfl,rfl,rfl,rfl,rfl,rfl,trivial⟩) (fun j hj=>nomatch hj) ?_)))))
   rintro _ ⟨W3,ok3,hw3,rfl⟩
   refine rT [0,7,8] (s3 (wq [] [] (⟨12 - (i7+1),by omega,i7+1,W3,rfl,⟨by omega,hU.trans hw3⟩,rfl⟩) ?_))
   repeat' apply ai
   all_goals first|exact qx|exact aA D.i (aF (by omega))|rfl|exact qz
 refine xt (rE [] (s1 (dB (robj:=[(800,.box 147 [.pt 801 0,.d (.i (U.tm)),.own 802 4,.own 803 3,ps 804 4 (U.a),ps 805 5 (U.b),ps 806 5 (U.c),ps 807 10 (U.d)]),(801,.box 177 [.d (.sl (aE l)),.d (.i (q7))]),(802,.row 31 5 (aL U.ks)),(803,.row 4 1 (aQ U.ls)),(804,aO 260 4 fQ),(805,aO 52 5 cO),(806,aO 52 5 cO),(807,aO 204 10 kF)]) (rl:=[]) (bor:=[]) (news:=[]) (nl l q7 U 40 0 (by omega) hl hU.ok (by omega) (by omega)) rfl rfl rfl rfl ⟨bY rfl rfl rfl rfl (cQ rfl rfl (cQ rfl rfl (bB rfl (eO rfl rfl rfl (aG rfl (bU rfl rfl rfl (bU rfl rfl rfl (bM rfl rfl rfl (bM rfl rfl rfl (bM rfl rfl rfl (bM rfl rfl rfl aN)))))))) (bB rfl (aG rfl (aG rfl aN)) (bZ rfl rfl (bZ rfl rfl (bE rfl rfl (bE rfl rfl (bE rfl rfl (bE rfl rfl trivial)))))))))),rfl⟩ (by rintro _ ⟨W9,q9,hw9,rfl⟩;exact⟨rfl,.inl rfl,fun j hj=>nomatch hj⟩) (aM ⟨rfl,rfl,rfl,rfl,rfl,rfl,rfl,rfl,trivial⟩) (fun j hj=>nomatch hj) ?_)))
 rintro _ ⟨W9,q9,hw9,rfl⟩
 refine cX [oB 800 147 [.pt 801 0,.d (.i (W9.tm)),.own 802 4,.own 803 3,ps 804 4 (W9.a),ps 805 5 (W9.b),ps 806 5 (W9.c),ps 807 10 (W9.d)],oB 801 177 [.d (.sl (aE l)),.d (.i (q9))],oR 802 31 5 (aL W9.ks),oR 803 4 1 (aQ W9.ls),(.o 804,aO 260 4 fQ),(.o 805,aO 52 5 cO),(.o 806,aO 52 5 cO),(.o 807,aO 204 10 kF)] ⟨W9,q9,⟨(hV.trans (hV2.trans (hw7.1.trans (hU.trans hw9.1)))).le (by omega),by omega,by omega⟩,rfl⟩ (rq [] [] rfl ?_)
 repeat' apply ai
 all_goals try exact qx
 all_goals(first|with_reducible rfl|(rfl))
theorem aV6 (l:List UInt8) (p:Int) (W:fM) (r:Int) (hp:0≤p∧p≤870000) (hl:l.length≤2000) (hW:W.ok) (hd:W.d≤96000):tn 174 2 [tP 0 800,tI 1 r,oB 800 147 [.pt 801 0,.d (.i (W.tm)),.own 802 4,.own 803 3,ps 804 4 (W.a),ps 805 5 (W.b),ps 806 5 (W.c),ps 807 10 (W.d)],oB 801 177 [.d (.sl (aE l)),.d (.i (p))],oR 802 31 5 (aL W.ks),oR 803 4 1 (aQ W.ls),(.o 804,aO 260 4 fQ),(.o 805,aO 52 5 cO),(.o 806,aO 52 5 cO),(.o 807,aO 204 10 kF)] (fun s=> ∃(W2:fM) (q:Int),(W2.of W 520∧p≤q∧q≤p+1200)∧s=[oB 800 147 [.pt 801 0,.d (.i (W2.tm)),.own 802 4,.own 803 3,ps 804 4 (W2.a),ps 805 5 (W2.b),ps 806 5 (W2.c),ps 807 10 (W2.d)],oB 801 177 [.d (.sl (aE l)),.d (.i (q))],oR 802 31 5 (aL W2.ks),oR 803 4 1 (aQ W2.ls),(.o 804,aO 260 4 fQ),(.o 805,aO 52 5 cO),(.o 806,aO 52 5 cO),(.o 807,aO 204 10 kF)]):=by
 refine ul Tryz.func174 rfl (sq (rT [0,1,4] (s4 (bP (robj:=[(801,.box 177 [.d (.sl (aE (l))),.d (.i (p))])]) (rl:=[(0,801)]) (bor:=[]) (cR (l) (p) _ (by omega) hl) rfl rfl rfl rfl ⟨bY rfl rfl rfl rfl (cQ rfl rfl (bB rfl (aG rfl (aG rfl aN)) trivial)),rfl⟩ rfl (.inl rfl) (aM ⟨rfl,trivial⟩) (fun _ hj=>nomatch hj) (s1 (sq ?_))))))
 obtain⟨i,hi,hil⟩:=ar (show 0≤bT l p 4∧bT l p 4≤3 by have:=cG l (p:=p) (n:=4) (by omega) (by omega);omega)
 obtain⟨v,hv⟩: ∃v:Int,v=bT l (p+1) 24:=⟨_,rfl⟩
 refine rT [0,1,4,18] (s4 (bP (robj:=[(801,.box 177 [.d (.sl (aE (l))),.d (.i (p+1))])]) (rl:=[(0,801)]) (bor:=[]) (cR (l) (p+1) _ (by omega) hl) rfl rfl rfl rfl ⟨bY rfl rfl rfl rfl (cQ rfl rfl (bB rfl (aG rfl (aG rfl aN)) trivial)),rfl⟩ rfl (.inl rfl) (aM ⟨rfl,trivial⟩) (fun _ hj=>nomatch hj) (bk (SW.midW (fun s=> ∃cb:Bool,s=[tP 0 800,tI 1 r,tI 4 (i:Nat),tI 18 v,tB 27 cb,oB 800 147 [.pt 801 0,.d (.i (W.tm)),.own 802 4,.own 803 3,ps 804 4 (W.a),ps 805 5 (W.b),ps 806 5 (W.c),ps 807 10 (W.d)],oB 801 177 [.d (.sl (aE l)),.d (.i (p+1+1))],oR 802 31 5 (aL W.ks),oR 803 4 1 (aQ W.ls),(.o 804,aO 260 4 fQ),(.o 805,aO 52 5 cO),(.o 806,aO 52 5 cO),(.o 807,aO 204 10 kF)]) ?_ ?_))))
 · refine sq (rT [0,1,4,18,27] (s2 (cd rfl (fun c27=> ?_) fun c27=> ?_)))
   · refine sk (wq [] [] ⟨?c1,rfl⟩ ?_)
     repeat' apply ai
     all_goals try exact qx
     try any_goals first|with_reducible rfl|exact aA D.i hi|exact aA D.i hv.symm|rfl
   refine sq (rT [0,1,4,18,27] (s2 (cd rfl (fun c27=> ?_) fun c27=> ?_)))
   · refine sk (wq [] [] ⟨?c2,rfl⟩ ?_)
     repeat' apply ai
     all_goals try exact qx
     try any_goals first|with_reducible rfl|exact aA D.i hi|exact aA D.i hv.symm|rfl
   refine rT [0,1,4,18,27] (s2 (wq [] [] ⟨?c3,rfl⟩ ?_))
   repeat' apply ai
   all_goals try exact qx
   try any_goals first|with_reducible rfl|exact aA D.i hi|exact aA D.i hv.symm|rfl
 rintro s ⟨cb27,rfl⟩
 refine cd rfl (fun c27=> ?_) fun c27=> ?_
 · refine rE [] (s1 (dB (robj:=[(800,.box 147 [.pt 801 0,.d (.i (W.tm)),.own 802 4,.own 803 3,ps 804 4 (W.a),ps 805 5 (W.b),ps 806 5 (W.c),ps 807 10 (W.d)]),(801,.box 177 [.d (.sl (aE l)),.d (.i (p+1+1))]),(802,.row 31 5 (aL W.ks)),(803,.row 4 1 (aQ W.ls)),(804,aO 260 4 fQ),(805,aO 52 5 cO),(806,aO 52 5 cO),(807,aO 204 10 kF)]) (rl:=[]) (bor:=[]) (news:=[]) (aUe l (p+1+1) W (by omega) hl hW (by omega)) rfl rfl rfl rfl ⟨bY rfl rfl rfl rfl (bB rfl (eO rfl rfl rfl (aG rfl (bU rfl rfl rfl (bU rfl rfl rfl (bM rfl rfl rfl (bM rfl rfl rfl (bM rfl rfl rfl (bM rfl rfl rfl aN)))))))) (bB rfl (aG rfl (aG rfl aN)) (bZ rfl rfl (bZ rfl rfl (bE rfl rfl (bE rfl rfl (bE rfl rfl (bE rfl rfl trivial)))))))),rfl⟩ (by rintro _ ⟨W2,q2,hw2,rfl⟩;exact⟨rfl,.inl rfl,fun j hj=>nomatch hj⟩) (aM ⟨rfl,rfl,rfl,rfl,rfl,rfl,rfl,rfl,trivial⟩) (fun j hj=>nomatch hj) ?_))
   rintro _ ⟨W2,q2,hw2,rfl⟩
   refine cX [oB 800 147 [.pt 801 0,.d (.i (W2.tm)),.own 802 4,.own 803 3,ps 804 4 (W2.a),ps 805 5 (W2.b),ps 806 5 (W2.c),ps 807 10 (W2.d)],oB 801 177 [.d (.sl (aE l)),.d (.i (q2))],oR 802 31 5 (aL W2.ks),oR 803 4 1 (aQ W2.ls),(.o 804,aO 260 4 fQ),(.o 805,aO 52 5 cO),(.o 806,aO 52 5 cO),(.o 807,aO 204 10 kF)] ⟨W2,q2,⟨(hw2.1).le (by omega),by omega,by omega⟩,rfl⟩ (rq [] [] rfl ?_)
   repeat' apply ai
   all_goals try exact qx
   all_goals(first|with_reducible rfl|(rfl))
 refine SW.midW (fun s=> ∃cb:Bool,s=[tP 0 800,tI 1 r,tI 4 (i:Nat),tI 18 v,tB 33 cb,oB 800 147 [.pt 801 0,.d (.i (W.tm)),.own 802 4,.own 803 3,ps 804 4 (W.a),ps 805 5 (W.b),ps 806 5 (W.c),ps 807 10 (W.d)],oB 801 177 [.d (.sl (aE l)),.d (.i (p+1+1))],oR 802 31 5 (aL W.ks),oR 803 4 1 (aQ W.ls),(.o 804,aO 260 4 fQ),(.o 805,aO 52 5 cO),(.o 806,aO 52 5 cO),(.o 807,aO 204 10 kF)]) ?_ ?_
 · refine sq (rT [0,1,4,18,33] (s2 (cd rfl (fun c33=> ?_) fun c33=> ?_)))
   · refine sk (wq [] [] ⟨?c4,rfl⟩ ?_)
     repeat' apply ai
     all_goals try exact qx
     try any_goals first|with_reducible rfl|exact aA D.i hi|exact aA D.i hv.symm|rfl
   refine sq (rT [0,1,4,18,33] (s2 (cd rfl (fun c33=> ?_) fun c33=> ?_)))
   · refine sk (wq [] [] ⟨?c5,rfl⟩ ?_)
     repeat' apply ai
     all_goals try exact qx
     try any_goals first|with_reducible rfl|exact aA D.i hi|exact aA D.i hv.symm|rfl
   refine sq (rT [0,1,4,18,33] (s2 (cd rfl (fun c33=> ?_) fun c33=> ?_)))
   · refine sk (wq [] [] ⟨?c6,rfl⟩ ?_)
     repeat' apply ai
     all_goals try exact qx
     try any_goals first|with_reducible rfl|exact aA D.i hi|exact aA D.i hv.symm|rfl
   refine sq (rT [0,1,4,18,33] (s2 (cd rfl (fun c33=> ?_) fun c33=> ?_)))
   · refine sk (wq [] [] ⟨?c7,rfl⟩ ?_)
     repeat' apply ai
     all_goals try exact qx
     try any_goals first|with_reducible rfl|exact aA D.i hi|exact aA D.i hv.symm|rfl
   refine sq (rT [0,1,4,18,33] (s2 (cd rfl (fun c33=> ?_) fun c33=> ?_)))
   · refine sk (wq [] [] ⟨?c8,rfl⟩ ?_)
     repeat' apply ai
     all_goals try exact qx
     try any_goals first|with_reducible rfl|exact aA D.i hi|exact aA D.i hv.symm|rfl
   refine rT [0,1,4,18,33] (s2 (wq [] [] ⟨?c9,rfl⟩ ?_))
   repeat' apply ai
   all_goals try exact qx
   try any_goals first|with_reducible rfl|exact aA D.i hi|exact aA D.i hv.symm|rfl
 rintro s ⟨cb33,rfl⟩
 refine cd rfl (fun c33=> ?_) fun c33=> ?_
 · refine rE [] (s5 (iO (bP (robj:=[(801,.box 177 [.d (.sl (aE (l))),.d (.i (p+1+1))])]) (rl:=[(0,801)]) (bor:=[]) (cR (l) (p+1+1) _ (by omega) hl) rfl rfl rfl rfl ⟨bY rfl rfl rfl rfl (cQ rfl rfl (bB rfl (aG rfl (aG rfl aN)) trivial)),rfl⟩ rfl (.inl rfl) (aM ⟨rfl,trivial⟩) (fun _ hj=>nomatch hj) ?_)))
   obtain⟨m7,hm7,hbm7⟩: ∃m7:Nat,wrap64 (1+bT l (p+1+1) 7)=(m7:Int)∧1≤m7∧m7≤7:=by have:=cG l (p:=p+1+1) (n:=7) (by omega) (by omega);rw[aF (by omega)];exact⟨(1+bT l (p+1+1) 7).toNat,by omega,by omega,by omega⟩
   refine s2 (dB (robj:=[(800,.box 147 [.pt 801 0,.d (.i (W.tm)),.own 802 4,.own 803 3,ps 804 4 (W.a),ps 805 5 (W.b),ps 806 5 (W.c),ps 807 10 (W.d)]),(801,.box 177 [.d (.sl (aE l)),.d (.i (p+1+1+1))]),(802,.row 31 5 (aL W.ks)),(803,.row 4 1 (aQ W.ls)),(804,aO 260 4 fQ),(805,aO 52 5 cO),(806,aO 52 5 cO),(807,aO 204 10 kF)]) (rl:=[]) (bor:=[]) (news:=[]) (nm l (p+1+1+1) W m7 r (by omega) hl hW (by omega) (by omega)) rfl rfl rfl rfl ⟨bY rfl rfl rfl rfl (cQ rfl (aA D.i hm7) (cQ rfl rfl (bB rfl (eO rfl rfl rfl (aG rfl (bU rfl rfl rfl (bU rfl rfl rfl (bM rfl rfl rfl (bM rfl rfl rfl (bM rfl rfl rfl (bM rfl rfl rfl aN)))))))) (bB rfl (aG rfl (aG rfl aN)) (bZ rfl rfl (bZ rfl rfl (bE rfl rfl (bE rfl rfl (bE rfl rfl (bE rfl rfl trivial)))))))))),rfl⟩ (by rintro _ ⟨W2,q2,hw2,rfl⟩;exact⟨rfl,.inl rfl,fun j hj=>nomatch hj⟩) (aM ⟨rfl,rfl,rfl,rfl,rfl,rfl,rfl,rfl,trivial⟩) (fun j hj=>nomatch hj) ?_)
   rintro _ ⟨W2,q2,hw2,rfl⟩
   refine cX [oB 800 147 [.pt 801 0,.d (.i (W2.tm)),.own 802 4,.own 803 3,ps 804 4 (W2.a),ps 805 5 (W2.b),ps 806 5 (W2.c),ps 807 10 (W2.d)],oB 801 177 [.d (.sl (aE l)),.d (.i (q2))],oR 802 31 5 (aL W2.ks),oR 803 4 1 (aQ W2.ls),(.o 804,aO 260 4 fQ),(.o 805,aO 52 5 cO),(.o 806,aO 52 5 cO),(.o 807,aO 204 10 kF)] ⟨W2,q2,⟨(hw2.1).le (by omega),by omega,by omega⟩,rfl⟩ (rq [] [] rfl ?_)
   repeat' apply ai
   all_goals try exact qx
   all_goals(first|with_reducible rfl|(rfl))
 refine SW.midW (fun s=> ∃cb:Bool,s=[tP 0 800,tI 1 r,tI 4 (i:Nat),tI 18 v,tB 49 cb,oB 800 147 [.pt 801 0,.d (.i (W.tm)),.own 802 4,.own 803 3,ps 804 4 (W.a),ps 805 5 (W.b),ps 806 5 (W.c),ps 807 10 (W.d)],oB 801 177 [.d (.sl (aE l)),.d (.i (p+1+1))],oR 802 31 5 (aL W.ks),oR 803 4 1 (aQ W.ls),(.o 804,aO 260 4 fQ),(.o 805,aO 52 5 cO),(.o 806,aO 52 5 cO),(.o 807,aO 204 10 kF)]) ?_ ?_
 · refine sq (rT [0,1,4,18,49] (s2 (cd rfl (fun c49=> ?_) fun c49=> ?_)))
   · refine sk (wq [] [] ⟨?c10,rfl⟩ ?_)
     repeat' apply ai
     all_goals try exact qx
     try any_goals first|with_reducible rfl|exact aA D.i hi|exact aA D.i hv.symm|rfl
   refine rT [0,1,4,18,49] (s2 (wq [] [] ⟨?c11,rfl⟩ ?_))
   repeat' apply ai
   all_goals try exact qx
   try any_goals first|with_reducible rfl|exact aA D.i hi|exact aA D.i hv.symm|rfl
 rintro s ⟨cb49,rfl⟩
 refine cd rfl (fun c49=> ?_) fun c49=> ?_
 · refine rE [] (s5 (iO (bP (robj:=[(801,.box 177 [.d (.sl (aE (l))),.d (.i (p+1+1))])]) (rl:=[(0,801)]) (bor:=[]) (cR (l) (p+1+1) _ (by omega) hl) rfl rfl rfl rfl ⟨bY rfl rfl rfl rfl (cQ rfl rfl (bB rfl (aG rfl (aG rfl aN)) trivial)),rfl⟩ rfl (.inl rfl) (aM ⟨rfl,trivial⟩) (fun _ hj=>nomatch hj) ?_)))
   obtain⟨m7,hm7,hbm7⟩: ∃m7:Nat,wrap64 (1+bT l (p+1+1) 20)=(m7:Int)∧1≤m7∧m7≤20:=by have:=cG l (p:=p+1+1) (n:=20) (by omega) (by omega);rw[aF (by omega)];exact⟨(1+bT l (p+1+1) 20).toNat,by omega,by omega,by omega⟩
   refine s2 (dB (robj:=[(800,.box 147 [.pt 801 0,.d (.i (W.tm)),.own 802 4,.own 803 3,ps 804 4 (W.a),ps 805 5 (W.b),ps 806 5 (W.c),ps 807 10 (W.d)]),(801,.box 177 [.d (.sl (aE l)),.d (.i (p+1+1+1))]),(802,.row 31 5 (aL W.ks)),(803,.row 4 1 (aQ W.ls)),(804,aO 260 4 fQ),(805,aO 52 5 cO),(806,aO 52 5 cO),(807,aO 204 10 kF)]) (rl:=[]) (bor:=[]) (news:=[]) (nl l (p+1+1+1) W m7 r (by omega) hl hW (by omega) (by omega)) rfl rfl rfl rfl ⟨bY rfl rfl rfl rfl (cQ rfl (aA D.i hm7) (cQ rfl rfl (bB rfl (eO rfl rfl rfl (aG rfl (bU rfl rfl rfl (bU rfl rfl rfl (bM rfl rfl rfl (bM rfl rfl rfl (bM rfl rfl rfl (bM rfl rfl rfl aN)))))))) (bB rfl (aG rfl (aG rfl aN)) (bZ rfl rfl (bZ rfl rfl (bE rfl rfl (bE rfl rfl (bE rfl rfl (bE rfl rfl trivial)))))))))),rfl⟩ (by rintro _ ⟨W2,q2,hw2,rfl⟩;exact⟨rfl,.inl rfl,fun j hj=>nomatch hj⟩) (aM ⟨rfl,rfl,rfl,rfl,rfl,rfl,rfl,rfl,trivial⟩) (fun j hj=>nomatch hj) ?_)
   rintro _ ⟨W2,q2,hw2,rfl⟩
   refine cX [oB 800 147 [.pt 801 0,.d (.i (W2.tm)),.own 802 4,.own 803 3,ps 804 4 (W2.a),ps 805 5 (W2.b),ps 806 5 (W2.c),ps 807 10 (W2.d)],oB 801 177 [.d (.sl (aE l)),.d (.i (q2))],oR 802 31 5 (aL W2.ks),oR 803 4 1 (aQ W2.ls),(.o 804,aO 260 4 fQ),(.o 805,aO 52 5 cO),(.o 806,aO 52 5 cO),(.o 807,aO 204 10 kF)] ⟨W2,q2,⟨(hw2.1).le (by omega),by omega,by omega⟩,rfl⟩ (rq [] [] rfl ?_)
   repeat' apply ai
   all_goals try exact qx
   all_goals(first|with_reducible rfl|(rfl))
 refine SW.midW (fun s=> ∃cb:Bool,s=[tP 0 800,tI 4 (i:Nat),tI 18 v,tB 61 cb,oB 800 147 [.pt 801 0,.d (.i (W.tm)),.own 802 4,.own 803 3,ps 804 4 (W.a),ps 805 5 (W.b),ps 806 5 (W.c),ps 807 10 (W.d)],oB 801 177 [.d (.sl (aE l)),.d (.i (p+1+1))],oR 802 31 5 (aL W.ks),oR 803 4 1 (aQ W.ls),(.o 804,aO 260 4 fQ),(.o 805,aO 52 5 cO),(.o 806,aO 52 5 cO),(.o 807,aO 204 10 kF)]) ?_ ?_
 · refine sq (rT [0,4,18,61] (s2 (cd rfl (fun c61=> ?_) fun c61=> ?_)))
   · refine sk (wq [] [] ⟨?c12,rfl⟩ ?_)
     repeat' apply ai
     all_goals try exact qx
     try any_goals first|with_reducible rfl|exact aA D.i hi|exact aA D.i hv.symm|rfl
   refine rT [0,4,18,61] (s2 (wq [] [] ⟨?c13,rfl⟩ ?_))
   repeat' apply ai
   all_goals try exact qx
   try any_goals first|with_reducible rfl|exact aA D.i hi|exact aA D.i hv.symm|rfl
 rintro s ⟨cb61,rfl⟩
 refine cd rfl (fun c61=> ?_) fun c61=> ?_
 · refine rE [] (s3 (dB (robj:=[(800,.box 147 [.pt 801 0,.d (.i (W.tm)),.own 802 4,.own 803 3,ps 804 4 (W.a),ps 805 5 (W.b),ps 806 5 (W.c),ps 807 10 (W.d)]),(801,.box 177 [.d (.sl (aE l)),.d (.i (p+1+1))]),(802,.row 31 5 (aL W.ks)),(803,.row 4 1 (aQ W.ls)),(804,aO 260 4 fQ),(805,aO 52 5 cO),(806,aO 52 5 cO),(807,aO 204 10 kF)]) (rl:=[]) (bor:=[]) (news:=[]) (fo l (p+1+1) W ⟨2,i,0,0,0,0,0,0,0,[]⟩ hW (by simp) (by omega)) rfl rfl rfl rfl ⟨bY rfl rfl rfl rfl (eC rfl (aG rfl (aG rfl (aG rfl (aG rfl (aG rfl (aG rfl (aG rfl (aG rfl (aG rfl (aG rfl aN)))))))))) (bB rfl (eO rfl rfl rfl (aG rfl (bU rfl rfl rfl (bU rfl rfl rfl (bM rfl rfl rfl (bM rfl rfl rfl (bM rfl rfl rfl (bM rfl rfl rfl aN)))))))) (bB rfl (aG rfl (aG rfl aN)) (bZ rfl rfl (bZ rfl rfl (bE rfl rfl (bE rfl rfl (bE rfl rfl (bE rfl rfl trivial))))))))),rfl⟩ (by rintro _ ⟨W2,ok2,hw2,rfl⟩;exact⟨rfl,.inl rfl,fun j hj=>nomatch hj⟩) (aM ⟨rfl,rfl,rfl,rfl,rfl,rfl,rfl,rfl,trivial⟩) (fun j hj=>nomatch hj) ?_))
   rintro _ ⟨W2,ok2,hw2,rfl⟩
   refine cX [oB 800 147 [.pt 801 0,.d (.i (W2.tm)),.own 802 4,.own 803 3,ps 804 4 (W2.a),ps 805 5 (W2.b),ps 806 5 (W2.c),ps 807 10 (W2.d)],oB 801 177 [.d (.sl (aE l)),.d (.i ((p+1+1)))],oR 802 31 5 (aL W2.ks),oR 803 4 1 (aQ W2.ls),(.o 804,aO 260 4 fQ),(.o 805,aO 52 5 cO),(.o 806,aO 52 5 cO),(.o 807,aO 204 10 kF)] ⟨W2,(p+1+1),⟨(hw2).le (by omega),by omega,by omega⟩,rfl⟩ (rq [] [] rfl ?_)
   repeat' apply ai
   all_goals try exact qx
   all_goals(first|with_reducible rfl|(rfl))
 refine sq (rT [0,4,18,68] (s2 (cd rfl (fun c68=> ?_) fun c68=> ?_)))
 · refine rE [] (s6 (iO (bP (robj:=[(801,.box 177 [.d (.sl (aE (l))),.d (.i (p+1+1))])]) (rl:=[(0,801)]) (bor:=[]) (cR (l) (p+1+1) _ (by omega) hl) rfl rfl rfl rfl ⟨bY rfl rfl rfl rfl (cQ rfl rfl (bB rfl (aG rfl (aG rfl aN)) trivial)),rfl⟩ rfl (.inl rfl) (aM ⟨rfl,trivial⟩) (fun _ hj=>nomatch hj) (s1 (dB (robj:=[(800,.box 147 [.pt 801 0,.d (.i (W.tm)),.own 802 4,.own 803 3,ps 804 4 (W.a),ps 805 5 (W.b),ps 806 5 (W.c),ps 807 10 (W.d)]),(801,.box 177 [.d (.sl (aE l)),.d (.i (p+1+1+1))]),(802,.row 31 5 (aL W.ks)),(803,.row 4 1 (aQ W.ls)),(804,aO 260 4 fQ),(805,aO 52 5 cO),(806,aO 52 5 cO),(807,aO 204 10 kF)]) (rl:=[]) (bor:=[]) (news:=[]) (fo l (p+1+1+1) W ⟨7,i,0,0,0,0,bT l (p+1+1) 50,0,0,[]⟩ hW (by simp) (by omega)) rfl rfl rfl rfl ⟨bY rfl rfl rfl rfl (eC rfl (aG rfl (aG rfl (aG rfl (aG rfl (aG rfl (aG rfl (aG rfl (aG rfl (aG rfl (aG rfl aN)))))))))) (bB rfl (eO rfl rfl rfl (aG rfl (bU rfl rfl rfl (bU rfl rfl rfl (bM rfl rfl rfl (bM rfl rfl rfl (bM rfl rfl rfl (bM rfl rfl rfl aN)))))))) (bB rfl (aG rfl (aG rfl aN)) (bZ rfl rfl (bZ rfl rfl (bE rfl rfl (bE rfl rfl (bE rfl rfl (bE rfl rfl trivial))))))))),rfl⟩ (by rintro _ ⟨W2,ok2,hw2,rfl⟩;exact⟨rfl,.inl rfl,fun j hj=>nomatch hj⟩) (aM ⟨rfl,rfl,rfl,rfl,rfl,rfl,rfl,rfl,trivial⟩) (fun j hj=>nomatch hj) ?_)))))
   rintro _ ⟨W2,ok2,hw2,rfl⟩
   refine cX [oB 800 147 [.pt 801 0,.d (.i (W2.tm)),.own 802 4,.own 803 3,ps 804 4 (W2.a),ps 805 5 (W2.b),ps 806 5 (W2.c),ps 807 10 (W2.d)],oB 801 177 [.d (.sl (aE l)),.d (.i ((p+1+1+1)))],oR 802 31 5 (aL W2.ks),oR 803 4 1 (aQ W2.ls),(.o 804,aO 260 4 fQ),(.o 805,aO 52 5 cO),(.o 806,aO 52 5 cO),(.o 807,aO 204 10 kF)] ⟨W2,(p+1+1+1),⟨(hw2).le (by omega),by omega,by omega⟩,rfl⟩ (rq [] [] rfl ?_)
   repeat' apply ai
   all_goals try exact qx
   all_goals(first|with_reducible rfl|(rfl))
 refine SW.midW (fun s=> ∃cb:Bool,s=[tP 0 800,tI 4 (i:Nat),tI 18 v,tB 79 cb,oB 800 147 [.pt 801 0,.d (.i (W.tm)),.own 802 4,.own 803 3,ps 804 4 (W.a),ps 805 5 (W.b),ps 806 5 (W.c),ps 807 10 (W.d)],oB 801 177 [.d (.sl (aE l)),.d (.i (p+1+1))],oR 802 31 5 (aL W.ks),oR 803 4 1 (aQ W.ls),(.o 804,aO 260 4 fQ),(.o 805,aO 52 5 cO),(.o 806,aO 52 5 cO),(.o 807,aO 204 10 kF)]) ?_ ?_
 · refine sq (rT [0,4,18,79] (s2 (cd rfl (fun c79=> ?_) fun c79=> ?_)))
   · refine sk (wq [] [] ⟨?c14,rfl⟩ ?_)
     repeat' apply ai
     all_goals try exact qx
     try any_goals first|with_reducible rfl|exact aA D.i hi|exact aA D.i hv.symm|rfl
   refine rT [0,4,18,79] (s2 (wq [] [] ⟨?c15,rfl⟩ ?_))
   repeat' apply ai
   all_goals try exact qx
   try any_goals first|with_reducible rfl|exact aA D.i hi|exact aA D.i hv.symm|rfl
 rintro s ⟨cb79,rfl⟩
 refine cd rfl (fun c79=> ?_) fun c79=> ?_
 · refine rE [] (s3 (dB (robj:=[(800,.box 147 [.pt 801 0,.d (.i (W.tm)),.own 802 4,.own 803 3,ps 804 4 (W.a),ps 805 5 (W.b),ps 806 5 (W.c),ps 807 10 (W.d)]),(801,.box 177 [.d (.sl (aE l)),.d (.i (p+1+1))]),(802,.row 31 5 (aL W.ks)),(803,.row 4 1 (aQ W.ls)),(804,aO 260 4 fQ),(805,aO 52 5 cO),(806,aO 52 5 cO),(807,aO 204 10 kF)]) (rl:=[]) (bor:=[]) (news:=[]) (fo l (p+1+1) W ⟨8,i,0,0,0,0,0,0,0,[]⟩ hW (by simp) (by omega)) rfl rfl rfl rfl ⟨bY rfl rfl rfl rfl (eC rfl (aG rfl (aG rfl (aG rfl (aG rfl (aG rfl (aG rfl (aG rfl (aG rfl (aG rfl (aG rfl aN)))))))))) (bB rfl (eO rfl rfl rfl (aG rfl (bU rfl rfl rfl (bU rfl rfl rfl (bM rfl rfl rfl (bM rfl rfl rfl (bM rfl rfl rfl (bM rfl rfl rfl aN)))))))) (bB rfl (aG rfl (aG rfl aN)) (bZ rfl rfl (bZ rfl rfl (bE rfl rfl (bE rfl rfl (bE rfl rfl (bE rfl rfl trivial))))))))),rfl⟩ (by rintro _ ⟨W2,ok2,hw2,rfl⟩;exact⟨rfl,.inl rfl,fun j hj=>nomatch hj⟩) (aM ⟨rfl,rfl,rfl,rfl,rfl,rfl,rfl,rfl,trivial⟩) (fun j hj=>nomatch hj) ?_))
   rintro _ ⟨W2,ok2,hw2,rfl⟩
   refine cX [oB 800 147 [.pt 801 0,.d (.i (W2.tm)),.own 802 4,.own 803 3,ps 804 4 (W2.a),ps 805 5 (W2.b),ps 806 5 (W2.c),ps 807 10 (W2.d)],oB 801 177 [.d (.sl (aE l)),.d (.i ((p+1+1)))],oR 802 31 5 (aL W2.ks),oR 803 4 1 (aQ W2.ls),(.o 804,aO 260 4 fQ),(.o 805,aO 52 5 cO),(.o 806,aO 52 5 cO),(.o 807,aO 204 10 kF)] ⟨W2,(p+1+1),⟨(hw2).le (by omega),by omega,by omega⟩,rfl⟩ (rq [] [] rfl ?_)
   repeat' apply ai
   all_goals try exact qx
   all_goals(first|with_reducible rfl|(rfl))
 refine sq (rT [0,4,18,86] (s2 (cd rfl (fun c86=> ?_) fun c86=> ?_)))
 · refine SW.regDE cK mo [] 13 (fun _=>none) rfl rfl (by kernel_rfl) ?_
   refine s5 (bP (robj:=[(801,.box 177 [.d (.sl (aE (l))),.d (.i (p+1+1))])]) (rl:=[(0,801)]) (bor:=[]) (cR (l) (p+1+1) _ (by omega) hl) rfl rfl rfl rfl ⟨bY rfl rfl rfl rfl (cQ rfl rfl (bB rfl (aG rfl (aG rfl aN)) trivial)),rfl⟩ rfl (.inl rfl) (aM ⟨rfl,trivial⟩) (fun _ hj=>nomatch hj) (s5 (bP (robj:=[(801,.box 177 [.d (.sl (aE (l))),.d (.i (p+1+1+1))])]) (rl:=[(0,801)]) (bor:=[]) (cR (l) (p+1+1+1) _ (by omega) hl) rfl rfl rfl rfl ⟨bY rfl rfl rfl rfl (cQ rfl rfl (bB rfl (aG rfl (aG rfl aN)) trivial)),rfl⟩ rfl (.inl rfl) (aM ⟨rfl,trivial⟩) (fun _ hj=>nomatch hj) (s1 (em (robj:=[(800,.box 147 [.pt 801 0,.d (.i (W.tm)),.own 802 4,.own 803 3,ps 804 4 (W.a),ps 805 5 (W.b),ps 806 5 (W.c),ps 807 10 (W.d)]),(801,.box 177 [.d (.sl (aE l)),.d (.i (p+1+1+1+1))]),(802,.row 31 5 (aL W.ks)),(803,.row 4 1 (aQ W.ls)),(804,aO 260 4 fQ),(805,aO 52 5 cO),(806,aO 52 5 cO),(807,aO 204 10 kF)]) (rl:=[]) (bor:=[]) (news:=[]) (fo l (p+1+1+1+1) W ⟨wrap64 (9+bT l (p+1+1) 2),bT l (p+1+1+1) 3,0,0,0,0,0,0,0,[]⟩ hW (by simp) (by omega)) rfl rfl rfl rfl ⟨bY rfl rfl rfl rfl (eC rfl (aG rfl (aG rfl (aG rfl (aG rfl (aG rfl (aG rfl (aG rfl (aG rfl (aG rfl (aG rfl aN)))))))))) (bB rfl (eO rfl rfl rfl (aG rfl (bU rfl rfl rfl (bU rfl rfl rfl (bM rfl rfl rfl (bM rfl rfl rfl (bM rfl rfl rfl (bM rfl rfl rfl aN)))))))) (bB rfl (aG rfl (aG rfl aN)) (bZ rfl rfl (bZ rfl rfl (bE rfl rfl (bE rfl rfl (bE rfl rfl (bE rfl rfl trivial))))))))),rfl⟩ (by rintro _ ⟨W2,ok2,hw2,rfl⟩;exact⟨rfl,.inl rfl,fun j hj=>nomatch hj⟩) (aM ⟨rfl,rfl,rfl,rfl,rfl,rfl,rfl,rfl,trivial⟩) (fun j hj=>nomatch hj) ⟨_,W,false,(fM.of.refl hW).le (by omega),rfl⟩ ?_)))))
   rintro _ ⟨W2,ok2,hw2,rfl⟩
   refine ai (by kernel_rfl) (cX [oB 800 147 [.pt 801 0,.d (.i (W2.tm)),.own 802 4,.own 803 3,ps 804 4 (W2.a),ps 805 5 (W2.b),ps 806 5 (W2.c),ps 807 10 (W2.d)],oB 801 177 [.d (.sl (aE l)),.d (.i ((p+1+1+1+1)))],oR 802 31 5 (aL W2.ks),oR 803 4 1 (aQ W2.ls),(.o 804,aO 260 4 fQ),(.o 805,aO 52 5 cO),(.o 806,aO 52 5 cO),(.o 807,aO 204 10 kF)] ⟨W2,(p+1+1+1+1),⟨(hw2).le (by omega),by omega,by omega⟩,rfl⟩ (rq [] [] rfl ?_))
   repeat' apply ai
   all_goals try exact qx
   all_goals(first|with_reducible rfl|(rfl))
 refine SW.midW (fun s=> ∃cb:Bool,s=[tP 0 800,tI 4 (i:Nat),tI 18 v,tB 102 cb,oB 800 147 [.pt 801 0,.d (.i (W.tm)),.own 802 4,.own 803 3,ps 804 4 (W.a),ps 805 5 (W.b),ps 806 5 (W.c),ps 807 10 (W.d)],oB 801 177 [.d (.sl (aE l)),.d (.i (p+1+1))],oR 802 31 5 (aL W.ks),oR 803 4 1 (aQ W.ls),(.o 804,aO 260 4 fQ),(.o 805,aO 52 5 cO),(.o 806,aO 52 5 cO),(.o 807,aO 204 10 kF)]) ?_ ?_
 · refine sq (rT [0,4,18,102] (s2 (cd rfl (fun c102=> ?_) fun c102=> ?_)))
   · refine sk (wq [] [] ⟨?c16,rfl⟩ ?_)
     repeat' apply ai
     all_goals try exact qx
     try any_goals first|with_reducible rfl|exact aA D.i hi|exact aA D.i hv.symm|rfl
   refine rT [0,4,18,102] (s2 (wq [] [] ⟨?c17,rfl⟩ ?_))
   repeat' apply ai
   all_goals try exact qx
   try any_goals first|with_reducible rfl|exact aA D.i hi|exact aA D.i hv.symm|rfl
 rintro s ⟨cb102,rfl⟩
 refine cd rfl (fun c102=> ?_) fun c102=> ?_
 · refine sq (rT [0,4,5] (s6 (ai (by exact⟨by rw[bN];exact hW.four,by omega,by omega⟩) (ai (by rw[aXy,cH (by rw[hW.four];omega)];exact⟨⟨by rw[bN];exact hW.four,by omega⟩,aX0 rfl,rfl⟩) (xp (gW (W.ks.getD i .zero) (by have:=(hW.at (show i<4 by omega)).1;omega)) (ai (by rw[aXy,cH (by rw[hW.four];omega)];rfl) ?_))))))
   refine s6 (sq (rT [0,4,5,120] (s4 (cd rfl (fun c120=> ?_) fun c120=> ?_))))
   · refine sq ?_
     have hn0:0< (bA (W.ks.getD i .zero)).1.inbox.length:=by have h9:=of_decide_eq_true c120;rw[aH] at h9;omega
     obtain⟨j,hj,hjl⟩: ∃j:Nat,bT l (p+1+1) ((aI (bA (W.ks.getD i .zero)).1.inbox).length:Int)=(j:Int)∧j< (bA (W.ks.getD i .zero)).1.inbox.length:=by have:=cG l (p:=p+1+1) (n:=((aI (bA (W.ks.getD i .zero)).1.inbox).length:Int)) (by omega) (by rw[aH];omega);rw[aH] at *; exact⟨(bT l (p+1+1) ((bA (W.ks.getD i .zero)).1.inbox.length:Int)).toNat,by omega,by omega⟩
     refine rD [0,4,7] (s9 (bP (robj:=[(801,.box 177 [.d (.sl (aE (l))),.d (.i (p+1+1))])]) (rl:=[(0,801)]) (bor:=[]) (cR (l) (p+1+1) _ (by omega) hl) rfl rfl rfl rfl ⟨bY rfl rfl rfl rfl (cQ rfl rfl (bB rfl (aG rfl (aG rfl aN)) trivial)),rfl⟩ rfl (.inl rfl) (aM ⟨rfl,trivial⟩) (fun _ hj=>nomatch hj) (ai (by rw[hj,aXy,aX hjl];exact⟨⟨by omega,by rw[aH];omega⟩,rfl⟩) (ai (by rw[hj,aXy,aX hjl];exact⟨aX0 rfl,rfl⟩) (s2 (ai (by kernel_rfl) (wa [tP 0 800,tI 4 (i:Nat),tP 7 7,oB 800 147 [.pt 801 0,.d (.i (W.tm)),.own 802 4,.own 803 3,ps 804 4 (W.a),ps 805 5 (W.b),ps 806 5 (W.c),ps 807 10 (W.d)],oB 801 177 [.d (.sl (aE l)),.d (.i (p+1+1+1))],oR 802 31 5 (aL W.ks),oR 803 4 1 (aQ W.ls),(.o 804,aO 260 4 fQ),(.o 805,aO 52 5 cO),(.o 806,aO 52 5 cO),(.o 807,aO 204 10 kF),oB 7 52 [.d (.i ((bA (W.ks.getD i .zero)).1.inbox.getD j .zero).frm),.d (.i ((bA (W.ks.getD i .zero)).1.inbox.getD j .zero).num),.d (.i ((bA (W.ks.getD i .zero)).1.inbox.getD j .zero).to),.d (.i ((bA (W.ks.getD i .zero)).1.inbox.getD j .zero).til),.d (.s ((bA (W.ks.getD i .zero)).1.inbox.getD j .zero).text)]] [] [] ?_ ?_)))))))
     · repeat' apply ai
       all_goals first|exact qx|((rw[hj,aXy,aX hjl];rfl))|exact qz
     refine rE [] (s7 (dB (robj:=[(800,.box 147 [.pt 801 0,.d (.i (W.tm)),.own 802 4,.own 803 3,ps 804 4 (W.a),ps 805 5 (W.b),ps 806 5 (W.c),ps 807 10 (W.d)]),(801,.box 177 [.d (.sl (aE l)),.d (.i (p+1+1+1))]),(802,.row 31 5 (aL W.ks)),(803,.row 4 1 (aQ W.ls)),(804,aO 260 4 fQ),(805,aO 52 5 cO),(806,aO 52 5 cO),(807,aO 204 10 kF)]) (rl:=[]) (bor:=[]) (news:=[]) (fo l (p+1+1+1) W ⟨11,i,((bA (W.ks.getD i .zero)).1.inbox.getD j .zero).frm,((bA (W.ks.getD i .zero)).1.inbox.getD j .zero).num,0,0,0,0,0,[]⟩ hW (by simp) (by omega)) rfl rfl rfl rfl ⟨bY rfl rfl rfl rfl (eC rfl (aG rfl (aG rfl (aG rfl (aG rfl (aG rfl (aG rfl (aG rfl (aG rfl (aG rfl (aG rfl aN)))))))))) (bB rfl (eO rfl rfl rfl (aG rfl (bU rfl rfl rfl (bU rfl rfl rfl (bM rfl rfl rfl (bM rfl rfl rfl (bM rfl rfl rfl (bM rfl rfl rfl aN)))))))) (bB rfl (aG rfl (aG rfl aN)) (bZ rfl rfl (bZ rfl rfl (bE rfl rfl (bE rfl rfl (bE rfl rfl (bE rfl rfl trivial))))))))),rfl⟩ (by rintro _ ⟨W2,ok2,hw2,rfl⟩;exact⟨rfl,.inl rfl,fun j hj=>nomatch hj⟩) (aM ⟨rfl,rfl,rfl,rfl,rfl,rfl,rfl,rfl,trivial⟩) (fun j hj=>nomatch hj) ?_))
     rintro _ ⟨W2,ok2,hw2,rfl⟩
     first
     |(refine cX [oB 800 147 [.pt 801 0,.d (.i (W2.tm)),.own 802 4,.own 803 3,ps 804 4 (W2.a),ps 805 5 (W2.b),ps 806 5 (W2.c),ps 807 10 (W2.d)],oB 801 177 [.d (.sl (aE l)),.d (.i ((p+1+1+1)))],oR 802 31 5 (aL W2.ks),oR 803 4 1 (aQ W2.ls),(.o 804,aO 260 4 fQ),(.o 805,aO 52 5 cO),(.o 806,aO 52 5 cO),(.o 807,aO 204 10 kF)] ⟨W2,(p+1+1+1),⟨(hw2).le (by omega),by omega,by omega⟩,rfl⟩ (rq [] [] rfl ?_)
       repeat' apply ai
       all_goals try exact qx
       all_goals(first|with_reducible rfl|(rfl)))
     |(refine cX [oB 800 147 [.pt 801 0,.d (.i (W.tm)),.own 802 4,.own 803 3,ps 804 4 (W.a),ps 805 5 (W.b),ps 806 5 (W.c),ps 807 10 (W.d)],oB 801 177 [.d (.sl (aE l)),.d (.i ((p+1+1)))],oR 802 31 5 (aL W.ks),oR 803 4 1 (aQ W.ls),(.o 804,aO 260 4 fQ),(.o 805,aO 52 5 cO),(.o 806,aO 52 5 cO),(.o 807,aO 204 10 kF)] ⟨W,(p+1+1),⟨(fM.of.refl hW).le (by omega),by omega,by omega⟩,rfl⟩ (rq [] [] rfl ?_)
       repeat' apply ai
       all_goals try exact qx
       all_goals(first|with_reducible rfl|(rfl)))
   refine sk ?_
   first
   |(refine cX [oB 800 147 [.pt 801 0,.d (.i (W2.tm)),.own 802 4,.own 803 3,ps 804 4 (W2.a),ps 805 5 (W2.b),ps 806 5 (W2.c),ps 807 10 (W2.d)],oB 801 177 [.d (.sl (aE l)),.d (.i ((p+1+1+1)))],oR 802 31 5 (aL W2.ks),oR 803 4 1 (aQ W2.ls),(.o 804,aO 260 4 fQ),(.o 805,aO 52 5 cO),(.o 806,aO 52 5 cO),(.o 807,aO 204 10 kF)] ⟨W2,(p+1+1+1),⟨(hw2).le (by omega),by omega,by omega⟩,rfl⟩ (rq [] [] rfl ?_)
     repeat' apply ai
     all_goals try exact qx
     all_goals(first|with_reducible rfl|(rfl)))
   |(refine cX [oB 800 147 [.pt 801 0,.d (.i (W.tm)),.own 802 4,.own 803 3,ps 804 4 (W.a),ps 805 5 (W.b),ps 806 5 (W.c),ps 807 10 (W.d)],oB 801 177 [.d (.sl (aE l)),.d (.i ((p+1+1)))],oR 802 31 5 (aL W.ks),oR 803 4 1 (aQ W.ls),(.o 804,aO 260 4 fQ),(.o 805,aO 52 5 cO),(.o 806,aO 52 5 cO),(.o 807,aO 204 10 kF)] ⟨W,(p+1+1),⟨(fM.of.refl hW).le (by omega),by omega,by omega⟩,rfl⟩ (rq [] [] rfl ?_)
     repeat' apply ai
     all_goals try exact qx
     all_goals(first|with_reducible rfl|(rfl)))
 refine sq (rT [0,4,18,141] (s2 (cd rfl (fun c141=> ?_) fun c141=> ?_)))
 · refine rE [] (s5 (iO (bP (robj:=[(801,.box 177 [.d (.sl (aE (l))),.d (.i (p+1+1))])]) (rl:=[(0,801)]) (bor:=[]) (cR (l) (p+1+1) _ (by omega) hl) rfl rfl rfl rfl ⟨bY rfl rfl rfl rfl (cQ rfl rfl (bB rfl (aG rfl (aG rfl aN)) trivial)),rfl⟩ rfl (.inl rfl) (aM ⟨rfl,trivial⟩) (fun _ hj=>nomatch hj) (s3 (dB (robj:=[(800,.box 147 [.pt 801 0,.d (.i (W.tm)),.own 802 4,.own 803 3,ps 804 4 (W.a),ps 805 5 (W.b),ps 806 5 (W.c),ps 807 10 (W.d)]),(801,.box 177 [.d (.sl (aE l)),.d (.i (p+1+1+1))]),(802,.row 31 5 (aL W.ks)),(803,.row 4 1 (aQ W.ls)),(804,aO 260 4 fQ),(805,aO 52 5 cO),(806,aO 52 5 cO),(807,aO 204 10 kF)]) (rl:=[]) (bor:=[]) (news:=[]) (fo l (p+1+1+1) W ⟨wrap64 (12+bT l (p+1+1) 2),i,0,0,0,0,0,0,0,[]⟩ hW (by simp) (by omega)) rfl rfl rfl rfl ⟨bY rfl rfl rfl rfl (eC rfl (aG rfl (aG rfl (aG rfl (aG rfl (aG rfl (aG rfl (aG rfl (aG rfl (aG rfl (aG rfl aN)))))))))) (bB rfl (eO rfl rfl rfl (aG rfl (bU rfl rfl rfl (bU rfl rfl rfl (bM rfl rfl rfl (bM rfl rfl rfl (bM rfl rfl rfl (bM rfl rfl rfl aN)))))))) (bB rfl (aG rfl (aG rfl aN)) (bZ rfl rfl (bZ rfl rfl (bE rfl rfl (bE rfl rfl (bE rfl rfl (bE rfl rfl trivial))))))))),rfl⟩ (by rintro _ ⟨W2,ok2,hw2,rfl⟩;exact⟨rfl,.inl rfl,fun j hj=>nomatch hj⟩) (aM ⟨rfl,rfl,rfl,rfl,rfl,rfl,rfl,rfl,trivial⟩) (fun j hj=>nomatch hj) ?_)))))
   rintro _ ⟨W2,ok2,hw2,rfl⟩
   refine cX [oB 800 147 [.pt 801 0,.d (.i (W2.tm)),.own 802 4,.own 803 3,ps 804 4 (W2.a),ps 805 5 (W2.b),ps 806 5 (W2.c),ps 807 10 (W2.d)],oB 801 177 [.d (.sl (aE l)),.d (.i ((p+1+1+1)))],oR 802 31 5 (aL W2.ks),oR 803 4 1 (aQ W2.ls),(.o 804,aO 260 4 fQ),(.o 805,aO 52 5 cO),(.o 806,aO 52 5 cO),(.o 807,aO 204 10 kF)] ⟨W2,(p+1+1+1),⟨(hw2).le (by omega),by omega,by omega⟩,rfl⟩ (rq [] [] rfl ?_)
   repeat' apply ai
   all_goals try exact qx
   all_goals(first|with_reducible rfl|(rfl))
 refine SW.midW (fun s=> ∃cb:Bool,s=[tP 0 800,tB 153 cb,oB 800 147 [.pt 801 0,.d (.i (W.tm)),.own 802 4,.own 803 3,ps 804 4 (W.a),ps 805 5 (W.b),ps 806 5 (W.c),ps 807 10 (W.d)],oB 801 177 [.d (.sl (aE l)),.d (.i (p+1+1))],oR 802 31 5 (aL W.ks),oR 803 4 1 (aQ W.ls),(.o 804,aO 260 4 fQ),(.o 805,aO 52 5 cO),(.o 806,aO 52 5 cO),(.o 807,aO 204 10 kF)]) ?_ ?_
 · refine sq (rT [0,18,153] (s2 (cd rfl (fun c153=> ?_) fun c153=> ?_)))
   · refine sk (wq [] [] ⟨?c18,rfl⟩ ?_)
     repeat' apply ai
     all_goals try exact qx
     try any_goals first|with_reducible rfl|exact aA D.i hi|exact aA D.i hv.symm|rfl
   refine sq (rT [0,18,153] (s2 (cd rfl (fun c153=> ?_) fun c153=> ?_)))
   · refine sk (wq [] [] ⟨?c19,rfl⟩ ?_)
     repeat' apply ai
     all_goals try exact qx
     try any_goals first|with_reducible rfl|exact aA D.i hi|exact aA D.i hv.symm|rfl
   refine rT [0,153] (s2 (wq [] [] ⟨?c20,rfl⟩ ?_))
   repeat' apply ai
   all_goals try exact qx
   try any_goals first|with_reducible rfl|exact aA D.i hi|exact aA D.i hv.symm|rfl
 rintro s ⟨cb153,rfl⟩
 refine cd rfl (fun c153=> ?_) fun c153=> ?_
 · refine rE [] (s1 (dB (robj:=[(800,.box 147 [.pt 801 0,.d (.i (W.tm)),.own 802 4,.own 803 3,ps 804 4 (W.a),ps 805 5 (W.b),ps 806 5 (W.c),ps 807 10 (W.d)]),(801,.box 177 [.d (.sl (aE l)),.d (.i (p+1+1))]),(802,.row 31 5 (aL W.ks)),(803,.row 4 1 (aQ W.ls)),(804,aO 260 4 fQ),(805,aO 52 5 cO),(806,aO 52 5 cO),(807,aO 204 10 kF)]) (rl:=[]) (bor:=[]) (news:=[]) (aV5 l (p+1+1) W (by omega) hl hW (by omega)) rfl rfl rfl rfl ⟨bY rfl rfl rfl rfl (bB rfl (eO rfl rfl rfl (aG rfl (bU rfl rfl rfl (bU rfl rfl rfl (bM rfl rfl rfl (bM rfl rfl rfl (bM rfl rfl rfl (bM rfl rfl rfl aN)))))))) (bB rfl (aG rfl (aG rfl aN)) (bZ rfl rfl (bZ rfl rfl (bE rfl rfl (bE rfl rfl (bE rfl rfl (bE rfl rfl trivial)))))))),rfl⟩ (by rintro _ ⟨W2,q2,hw2,rfl⟩;exact⟨rfl,.inl rfl,fun j hj=>nomatch hj⟩) (aM ⟨rfl,rfl,rfl,rfl,rfl,rfl,rfl,rfl,trivial⟩) (fun j hj=>nomatch hj) ?_))
   rintro _ ⟨W2,q2,hw2,rfl⟩
   refine cX [oB 800 147 [.pt 801 0,.d (.i (W2.tm)),.own 802 4,.own 803 3,ps 804 4 (W2.a),ps 805 5 (W2.b),ps 806 5 (W2.c),ps 807 10 (W2.d)],oB 801 177 [.d (.sl (aE l)),.d (.i (q2))],oR 802 31 5 (aL W2.ks),oR 803 4 1 (aQ W2.ls),(.o 804,aO 260 4 fQ),(.o 805,aO 52 5 cO),(.o 806,aO 52 5 cO),(.o 807,aO 204 10 kF)] ⟨W2,q2,⟨(hw2.1).le (by omega),by omega,by omega⟩,rfl⟩ (rq [] [] rfl ?_)
   repeat' apply ai
   all_goals try exact qx
   all_goals(first|with_reducible rfl|(rfl))
 refine sq (rT [0,8] (s1 (bk (SW.loopW (n:=4) (fun x s=> ∃(i:Nat) (V:fM) (q:Int),x=4 - i∧(i≤4∧V.of W (100*i)∧p≤q∧q≤p+2+260*i)∧s=[tP 0 800,tI 8 (i:Nat),oB 800 147 [.pt 801 0,.d (.i (V.tm)),.own 802 4,.own 803 3,ps 804 4 (V.a),ps 805 5 (V.b),ps 806 5 (V.c),ps 807 10 (V.d)],oB 801 177 [.d (.sl (aE l)),.d (.i (q))],oR 802 31 5 (aL V.ks),oR 803 4 1 (aQ V.ls),(.o 804,aO 260 4 fQ),(.o 805,aO 52 5 cO),(.o 806,aO 52 5 cO),(.o 807,aO 204 10 kF)]) ?_ ?_))))
 · exact wq [] [] (⟨0,W,p+1+1,rfl,⟨by omega,fM.of.refl hW,by omega,by omega⟩,rfl⟩) qz
 rintro n s ⟨i,V,q,rfl,⟨hi4,hV,hq⟩,rfl⟩
 have hVd:=hV.few
 refine sq (sq (rT [0,8,20] (s2 (cd rfl (fun c20=> ?_) fun c20=> ?_))))
 · have hi5:i<4:=by simp at c20;omega
   refine sk (sq (bk (sq (rE [0,8] (s1 (dB (robj:=[(800,.box 147 [.pt 801 0,.d (.i (V.tm)),.own 802 4,.own 803 3,ps 804 4 (V.a),ps 805 5 (V.b),ps 806 5 (V.c),ps 807 10 (V.d)]),(801,.box 177 [.d (.sl (aE l)),.d (.i (q))]),(802,.row 31 5 (aL V.ks)),(803,.row 4 1 (aQ V.ls)),(804,aO 260 4 fQ),(805,aO 52 5 cO),(806,aO 52 5 cO),(807,aO 204 10 kF)]) (rl:=[]) (bor:=[]) (news:=[]) (nm l q V 7 0 (by omega) hl hV.ok (by omega) (by omega)) rfl rfl rfl rfl ⟨bY rfl rfl rfl rfl (cQ rfl rfl (cQ rfl rfl (bB rfl (eO rfl rfl rfl (aG rfl (bU rfl rfl rfl (bU rfl rfl rfl (bM rfl rfl rfl (bM rfl rfl rfl (bM rfl rfl rfl (bM rfl rfl rfl aN)))))))) (bB rfl (aG rfl (aG rfl aN)) (bZ rfl rfl (bZ rfl rfl (bE rfl rfl (bE rfl rfl (bE rfl rfl (bE rfl rfl trivial)))))))))),rfl⟩ (by rintro _ ⟨W3,q3,hw3,rfl⟩;exact⟨rfl,.inl rfl,fun j hj=>nomatch hj⟩) (aM ⟨rfl,rfl,rfl,rfl,rfl,rfl,rfl,rfl,trivial⟩) (fun j hj=>nomatch hj) ?_))))))
   rintro _ ⟨W3,q3,hw3,rfl⟩
   refine rE [0,8] (s1 (dB (robj:=[(800,.box 147 [.pt 801 0,.d (.i (W3.tm)),.own 802 4,.own 803 3,ps 804 4 (W3.a),ps 805 5 (W3.b),ps 806 5 (W3.c),ps 807 10 (W3.d)]),(801,.box 177 [.d (.sl (aE l)),.d (.i (q3))]),(802,.row 31 5 (aL W3.ks)),(803,.row 4 1 (aQ W3.ls)),(804,aO 260 4 fQ),(805,aO 52 5 cO),(806,aO 52 5 cO),(807,aO 204 10 kF)]) (rl:=[]) (bor:=[]) (news:=[]) (nl l q3 W3 20 0 (by omega) hl hw3.1.ok (by have:=hw3.1.few;omega) (by omega)) rfl rfl rfl rfl ⟨bY rfl rfl rfl rfl (cQ rfl rfl (cQ rfl rfl (bB rfl (eO rfl rfl rfl (aG rfl (bU rfl rfl rfl (bU rfl rfl rfl (bM rfl rfl rfl (bM rfl rfl rfl (bM rfl rfl rfl (bM rfl rfl rfl aN)))))))) (bB rfl (aG rfl (aG rfl aN)) (bZ rfl rfl (bZ rfl rfl (bE rfl rfl (bE rfl rfl (bE rfl rfl (bE rfl rfl trivial)))))))))),rfl⟩ (by rintro _ ⟨W4,q4,hw4,rfl⟩;exact⟨rfl,.inl rfl,fun j hj=>nomatch hj⟩) (aM ⟨rfl,rfl,rfl,rfl,rfl,rfl,rfl,rfl,trivial⟩) (fun j hj=>nomatch hj) ?_))
   rintro _ ⟨W4,q4,hw4,rfl⟩
   refine rT [0,8] (s3 (wq [] [] (⟨4 - (i+1),by omega,i+1,W4,q4,rfl,⟨by omega,(hV.trans (hw3.1.trans hw4.1)).le (by omega),by omega,by omega⟩,rfl⟩) ?_))
   repeat' apply ai
   all_goals first|exact qx|exact aA D.i (aF (by omega))|rfl|exact qz
 refine xt (cX [oB 800 147 [.pt 801 0,.d (.i (V.tm)),.own 802 4,.own 803 3,ps 804 4 (V.a),ps 805 5 (V.b),ps 806 5 (V.c),ps 807 10 (V.d)],oB 801 177 [.d (.sl (aE l)),.d (.i (q))],oR 802 31 5 (aL V.ks),oR 803 4 1 (aQ V.ls),(.o 804,aO 260 4 fQ),(.o 805,aO 52 5 cO),(.o 806,aO 52 5 cO),(.o 807,aO 204 10 kF)] ⟨V,q,⟨(hV).le (by omega),by omega,by omega⟩,rfl⟩ (rq [] [] rfl ?_))
 repeat' apply ai
 all_goals try exact qx
 all_goals(first|with_reducible rfl|(rfl))
theorem jj (n:Int):Sp 213 1 [tI 0 n] [tV 0 (.e (.agg [.d (.i ((gU n)).id),.d (.b ((gU n)).up),.d (.s ((gU n)).log),.d (.i ((gU n)).forced),.d (.sl (aZ ((gU n)).halves))]))]:=by
 refine sb Tryz.func213 rfl (sq (rT [0,2] (s1 (sq (sq (rT [0,2,5] (s1 (xp (dX _) (ai rfl ?_)))))))))
 refine s1 (cd rfl (fun c5=> ?_) fun c5=> ?_)
 · refine sq (rT [2] (s2 (rt ?_)))
   have hk:gU n= .zero:=by unfold gU;rw[aB];intro h;rw[h] at c5;simp at c5
   refine rq [] [] rfl ?_
   repeat' apply ai
   all_goals try exact qx
   all_goals(rw[hk];try rfl)
 refine sk (sq (rT [2] (s3 (rt ?_))))
 have hk:gU n=⟨n,true,[],0,[]⟩:=by unfold gU;rw[aC];simpa using c5
 refine rq [] [] rfl ?_
 repeat' apply ai
 all_goals try exact qx
 all_goals(rw[hk];try rfl)
theorem nn:Sp 172 0 [] [tV 0 (.e (.agg [.d (.i (0)),.own 802 4,.own 803 3,ps 804 4 (0),ps 805 5 (0),ps 806 5 (0)])),oR 802 31 5 (aL (rQ 4)),oR 803 4 1 (aQ (yes 3)),(.o 804,aO 260 4 fQ),(.o 805,aO 52 5 cO),(.o 806,aO 52 5 cO)]:=by
 refine sb Tryz.func172 rfl (sq (rT [0] (s1 (sq (rT [0,1] (s3 (sq (sq (SW.nilBox 1 802 1 31 5 rfl rfl rfl (SW.nilBox 1 803 2 4 1 rfl rfl rfl (rT [0,1,2] (s1 (bk (SW.loopW (n:=4) (fun m s=> ∃i:Nat,m=4 - i∧i≤4∧s=[tP 0 0,tP 1 1,tI 2 (i:Nat),oB 0 123 [.d (.i 0),.nil,.nil,.nil,.nil,.nil],oB 1 123 [.d (.i 0),.own 802 (i),.own 803 0,.nil,.nil,.nil],oR 802 31 5 (aL (rQ (i))),oR 803 4 1 []]) ?_ ?_))))))))))))))
 · refine wq [] [] (⟨0,rfl,by omega,rfl⟩) ?_
   repeat' apply ai
   all_goals first|exact qx|exact aA D.i (aF (by omega))|(simp[bN,mH,dA,sL];done)|exact rR _|exact uT _|rfl|exact qz
 rintro n s ⟨i,rfl,hi,rfl⟩
 refine sq (sq (rT [0,1,2,6] (s2 (cd rfl (fun c6=> ?_) fun c6=> ?_))))
 · have hi2:i<4:=by simp at c6;omega
   refine sk (sq (bk (rD [0,1,2] (s3 (xp (jj _) (ai rfl ?_))))))
   refine s1 (ai (by refine⟨rfl,(bN _).trans (mH _),by simp,?_⟩;show(_+1)*64≤_;omega) (s2 (ai (by kernel_rfl) (rT [0,1,2] (s3 (wq [] [] (⟨4 - (i+1),by omega,i+1,rfl,by omega,rfl⟩) ?_))))))
   repeat' apply ai
   all_goals first|exact qx|exact aA D.i (aF (by omega))|(simp[bN,mH,dA,sL];done)|exact rR _|exact uT _|rfl|exact qz
 have hi4:i=4:=by simp at c6;omega
 subst hi4
 refine xt (sq (sq (rT [0,1,3] (s1 (bk (SW.loopW (n:=3) (fun m s=> ∃j:Nat,m=3 - j∧j≤3∧s=[tP 0 0,tP 1 1,tI 3 (j:Nat),oB 0 123 [.d (.i 0),.nil,.nil,.nil,.nil,.nil],oB 1 123 [.d (.i 0),.own 802 4,.own 803 (j),.nil,.nil,.nil],oR 802 31 5 (aL (rQ 4)),oR 803 4 1 (aQ (yes (j)))]) ?_ ?_))))))
 · refine wq [] [] (⟨0,rfl,by omega,rfl⟩) ?_
   repeat' apply ai
   all_goals first|exact qx|exact aA D.i (aF (by omega))|(simp[bN,mH,dA,sL];done)|exact rR _|exact uT _|rfl|exact qz
 rintro n s ⟨j,rfl,hj,rfl⟩
 refine sq (sq (rT [0,1,3,18] (s3 (cd rfl (fun c18=> ?_) fun c18=> ?_))))
 · have hj2:j<3:=by rw[aF (by omega)] at c18;simp at c18;omega
   refine sk (sq (bk (rT [0,1,3] (s3 (ai (by refine⟨rfl,(dA _).trans (sL _),by simp,?_⟩;show(_+1)*1≤_;omega) (s2 (rT [0,1,3] (s3 (wq [] [] (⟨3 - (j+1),by omega,j+1,rfl,by omega,rfl⟩) ?_)))))))))
   repeat' apply ai
   all_goals first|exact qx|exact aA D.i (aF (by omega))|(simp[bN,mH,dA,sL];done)|exact rR _|exact uT _|rfl|exact qz
 have hj4:j=3:=by rw[aF (by omega)] at c18;simp at c18;omega
 subst hj4
 refine xt (sq (SW.newPool 804 260 4 fQ rfl (SW.newPool 805 52 5 cO rfl (SW.newPool 806 52 5 cO rfl (rT [0] (s2 (rt (rq [] [] rfl ?_))))))))
 repeat' apply ai
 all_goals try exact qx
 all_goals first|with_reducible rfl|rfl
theorem aV7 (l:List UInt8) (p:Int) (n:Nat) (hp:0≤p∧p≤700000) (hl:l.length≤2000) (hn:1≤n∧n≤100):tn 121 2 [tP 0 801,tI 1 (n:Nat),oB 801 177 [.d (.sl (aE l)),.d (.i (p))]] (fun s=> ∃(W:fM) (q:Int),(W.of fP 60000∧p≤q∧q≤p+20+1200*n)∧s=[tP 0 800,oB 800 147 [.pt 801 0,.d (.i (W.tm)),.own 802 4,.own 803 3,ps 804 4 (W.a),ps 805 5 (W.b),ps 806 5 (W.c),ps 807 10 (W.d)],oB 801 177 [.d (.sl (aE l)),.d (.i (q))],oR 802 31 5 (aL W.ks),oR 803 4 1 (aQ W.ls),(.o 804,aO 260 4 fQ),(.o 805,aO 52 5 cO),(.o 806,aO 52 5 cO),(.o 807,aO 204 10 kF)]):=by
 refine ul Tryz.func121 rfl (sq (rT [0,1] (s1 (sq (rT [0,1,5] (s1 (bP (robj:=[]) (rl:=[]) (bor:=[]) nn rfl rfl rfl rfl ⟨trivial,rfl⟩ rfl (.inl rfl) (fun p hp=>nomatch hp) (fun j hj=>by simp[kU,cE,iS] at hj;rcases hj with rfl|rfl|rfl|rfl|rfl<;>rfl) (s3 (SW.midW (fun s=> ∃r:Int,s=[tP 0 801,tI 1 (n:Nat),tP 5 800,tI 6 r,oB 800 147 [.pt 801 0,.d (.i (fP.tm)),.own 802 4,.own 803 3,ps 804 4 (fP.a),ps 805 5 (fP.b),ps 806 5 (fP.c),ps 807 10 (fP.d)],oB 801 177 [.d (.sl (aE l)),.d (.i (p+1))],oR 802 31 5 (aL fP.ks),oR 803 4 1 (aQ fP.ls),(.o 804,aO 260 4 fQ),(.o 805,aO 52 5 cO),(.o 806,aO 52 5 cO),(.o 807,aO 204 10 kF)]) ?_ ?_)))))))))
 · have hpv:=cG l (p:=p) (n:=5) (by omega) (by omega)
   refine SW.newPool 807 204 10 kF rfl (wa [tP 0 801,tI 1 (n:Nat),tP 5 800,oB 800 147 [.pt 801 0,.d (.i (fP.tm)),.own 802 4,.own 803 3,ps 804 4 (fP.a),ps 805 5 (fP.b),ps 806 5 (fP.c),ps 807 10 (fP.d)],oB 801 177 [.d (.sl (aE l)),.d (.i (p))],oR 802 31 5 (aL fP.ks),oR 803 4 1 (aQ fP.ls),(.o 804,aO 260 4 fQ),(.o 805,aO 52 5 cO),(.o 806,aO 52 5 cO),(.o 807,aO 204 10 kF)] [(800,11)] [] qz (rT [0,1,5,6] (s2 (bP (robj:=[(801,.box 177 [.d (.sl (aE (l))),.d (.i (p))])]) (rl:=[(0,801)]) (bor:=[]) (cR (l) (p) _ (by omega) hl) rfl rfl rfl rfl ⟨bY rfl rfl rfl rfl (cQ rfl rfl (bB rfl (aG rfl (aG rfl aN)) trivial)),rfl⟩ rfl (.inl rfl) (aM ⟨rfl,trivial⟩) (fun _ hj=>nomatch hj) ?_))))
   refine ai ⟨rfl,hpv.1,hpv.2⟩ (ai (aF2 (l:=[0,0,3,6,12]) (by simp;omega) rfl) (s1 (wq [] [] ⟨?r1,rfl⟩ ?_)))
   repeat' apply ai
   all_goals try exact qx
   try any_goals rfl
 rintro s ⟨r,rfl⟩
 refine sq (rE [0,1,5,6] (s1 (dB (robj:=[(800,.box 147 [.pt 801 0,.d (.i (fP.tm)),.own 802 4,.own 803 3,ps 804 4 (fP.a),ps 805 5 (fP.b),ps 806 5 (fP.c),ps 807 10 (fP.d)]),(801,.box 177 [.d (.sl (aE l)),.d (.i (p+1))]),(802,.row 31 5 (aL fP.ks)),(803,.row 4 1 (aQ fP.ls)),(804,aO 260 4 fQ),(805,aO 52 5 cO),(806,aO 52 5 cO),(807,aO 204 10 kF)]) (rl:=[]) (bor:=[]) (news:=[]) (aUe l (p+1) fP (by omega) hl aHd (by decide)) rfl rfl rfl rfl ⟨bY rfl rfl rfl rfl (bB rfl (eO rfl rfl rfl (aG rfl (bU rfl rfl rfl (bU rfl rfl rfl (bM rfl rfl rfl (bM rfl rfl rfl (bM rfl rfl rfl (bM rfl rfl rfl aN)))))))) (bB rfl (aG rfl (aG rfl aN)) (bZ rfl rfl (bZ rfl rfl (bE rfl rfl (bE rfl rfl (bE rfl rfl (bE rfl rfl trivial)))))))),rfl⟩ (by rintro _ ⟨W1,q1,hw1,rfl⟩;exact⟨rfl,.inl rfl,fun j hj=>nomatch hj⟩) (aM ⟨rfl,rfl,rfl,rfl,rfl,rfl,rfl,rfl,trivial⟩) (fun j hj=>nomatch hj) ?_)))
 rintro _ ⟨W1,q1,hw1,rfl⟩
 refine sq (sq (rT [5,6,7] (s2 (bP (robj:=[(801,.box 177 [.d (.sl (aE (l))),.d (.i (q1))])]) (rl:=[(0,801)]) (bor:=[]) (cR (l) (q1) _ (by omega) hl) rfl rfl rfl rfl ⟨bY rfl rfl rfl rfl (cQ rfl rfl (bB rfl (aG rfl (aG rfl aN)) trivial)),rfl⟩ rfl (.inl rfl) (aM ⟨rfl,trivial⟩) (fun _ hj=>nomatch hj) (s1 (bk ?_))))))
 have hw1d:=hw1.1.few
 have hs0:fP.d=0:=rfl
 obtain⟨k0,hk0,hkn⟩: ∃k0:Nat,bT l q1 (n:Int)=(k0:Int)∧k0<n:=by have:=cG l (p:=q1) (n:=(n:Int)) (by omega) (by omega);exact⟨(bT l q1 (n:Int)).toNat,by omega,by omega⟩
 refine SW.loopW (n:=k0) (fun x s=> ∃(V:fM) (q:Int),(x≤k0∧V.of fP (1+520*(k0 - x))∧p≤q∧q≤p+12+1200*(k0 - x:Nat))∧s=[tP 5 800,tI 6 r,tI 7 (x:Nat),oB 800 147 [.pt 801 0,.d (.i (V.tm)),.own 802 4,.own 803 3,ps 804 4 (V.a),ps 805 5 (V.b),ps 806 5 (V.c),ps 807 10 (V.d)],oB 801 177 [.d (.sl (aE l)),.d (.i (q))],oR 802 31 5 (aL V.ks),oR 803 4 1 (aQ V.ls),(.o 804,aO 260 4 fQ),(.o 805,aO 52 5 cO),(.o 806,aO 52 5 cO),(.o 807,aO 204 10 kF)]) ?_ ?_
 · refine wq [] [] (⟨W1,q1+1,⟨by omega,hw1.1.le (by omega),by omega,by omega⟩,rfl⟩) ?_
   repeat' apply ai
   all_goals first|exact qx|exact aA D.i hk0|rfl|exact qz
 rintro n s ⟨V,q,⟨hx,hV,hq⟩,rfl⟩
 have hVd:=hV.few
 refine sq (sq (rT [5,6,7,23] (s2 (cd rfl (fun c23=> ?_) fun c23=> ?_))))
 · have hn0:0<n:=by simp at c23;omega
   refine sk (sq (bk (rE [5,6,7] (s2 (dB (robj:=[(800,.box 147 [.pt 801 0,.d (.i (V.tm)),.own 802 4,.own 803 3,ps 804 4 (V.a),ps 805 5 (V.b),ps 806 5 (V.c),ps 807 10 (V.d)]),(801,.box 177 [.d (.sl (aE l)),.d (.i (q))]),(802,.row 31 5 (aL V.ks)),(803,.row 4 1 (aQ V.ls)),(804,aO 260 4 fQ),(805,aO 52 5 cO),(806,aO 52 5 cO),(807,aO 204 10 kF)]) (rl:=[]) (bor:=[]) (news:=[]) (aV6 l q V r (by omega) hl hV.ok (by omega)) rfl rfl rfl rfl ⟨bY rfl rfl rfl rfl (cQ rfl rfl (bB rfl (eO rfl rfl rfl (aG rfl (bU rfl rfl rfl (bU rfl rfl rfl (bM rfl rfl rfl (bM rfl rfl rfl (bM rfl rfl rfl (bM rfl rfl rfl aN)))))))) (bB rfl (aG rfl (aG rfl aN)) (bZ rfl rfl (bZ rfl rfl (bE rfl rfl (bE rfl rfl (bE rfl rfl (bE rfl rfl trivial))))))))),rfl⟩ (by rintro _ ⟨W3,q3,hw3,rfl⟩;exact⟨rfl,.inl rfl,fun j hj=>nomatch hj⟩) (aM ⟨rfl,rfl,rfl,rfl,rfl,rfl,rfl,rfl,trivial⟩) (fun j hj=>nomatch hj) ?_)))))
   rintro _ ⟨W3,q3,hw3,rfl⟩
   refine rT [5,6,7] (s3 (wq [] [] (⟨n - 1,by omega,W3,q3,⟨by omega,(hV.trans hw3.1).le (by omega),by omega,by omega⟩,rfl⟩) ?_))
   repeat' apply ai
   all_goals first|exact qx|(refine aA D.i ?_;rw[aF (by omega)];omega)|rfl|exact qz
 refine xt (sq (rT [4] (s2 (rt (cX [tP 0 800,oB 800 147 [.pt 801 0,.d (.i (V.tm)),.own 802 4,.own 803 3,ps 804 4 (V.a),ps 805 5 (V.b),ps 806 5 (V.c),ps 807 10 (V.d)],oB 801 177 [.d (.sl (aE l)),.d (.i (q))],oR 802 31 5 (aL V.ks),oR 803 4 1 (aQ V.ls),(.o 804,aO 260 4 fQ),(.o 805,aO 52 5 cO),(.o 806,aO 52 5 cO),(.o 807,aO 204 10 kF)] ⟨V,q,⟨hV.le (by omega),by omega,by omega⟩,rfl⟩ (rq [] [] rfl ?_))))))
 repeat' apply ai
 all_goals try exact qx
 all_goals(first|with_reducible rfl|(rfl))
end Go.Proofs.YtmabaopgkimfmaaGreatDoor
namespace Go.Ab
open Int renaming toNat_natCast→aXy
open List renaming length_append→aXz,length_cons→aX1,length_nil→aX2,length_take→aX4,getD_eq_getElem?_getD→aX6,length_drop→aX7,getElem?_eq_getElem→aX9,getElem?_eq_some_iff→aYa,range→aYb,mem_map→aYc,all_eq_true→aYd,take_length→aYe
open Nat renaming le_of_ble_eq_true→aX0,zero_le→aX5,le_refl→aX8
open Bool renaming and_eq_true→aX3
open Go Go.RowKit
set_option linter.unusedVariables false
set_option linter.unusedSimpArgs false
theorem aNh (k:bH) (n:bI): (fL k n).1.time=k.time∧(fL k n).1.next=k.next:=by
 unfold fL
 repeat' split
 all_goals exact⟨rfl,rfl⟩
theorem zo {k:bH} {rec:List UInt8} (h: (cV k rec).2=true):dI k=true∧(eS k rec).2=true∧(cV k rec).1=(eS k rec).1∧dI (eS k rec).1=true:=by
 unfold cV at h ⊢
 split at h
 · rename_i hk
   rw[aC hk]
   unfold lT at h ⊢
   split at h
   · rename_i hx
     rw[aC hx]
     simp only[aX3] at hx
     exact⟨hk,hx.1,rfl,hx.2⟩
   · cases h
 · cases h
theorem aC1 {n:bI} (h:eV n=true):eG (gE n)=(n,true):=aCc _ n h (by unfold gE;rw[aC h])
theorem aJr {n:bI} (h: ¬eV n=true):gE n=[]:=by unfold gE;rw[aB h]
theorem jk {k:bH} {w:List UInt8} {n:bI} (hw: ∀b∈w,b≠32) (h1: (w==jD||w==jL)=false) (h2: (w==iE||w==gL||w==iC||w==fS)=true):eS k (dC w n)=if eV n then fT k w n else(k,false):=by
 have e:dC w n=w++32::gE n:=by simp[dC]
 obtain⟨q1,q2,q3⟩:=nG (w:=w) (r:=gE n) hw
 rw[e]
 by_cases hn:eV n=true
 · rw[aC hn,aCf q3 (by rw[q1];exact h1) (by rw[q1];exact h2) (by rw[q2,aC1 hn]),q1,q2,aC1 hn]
 · rw[aB hn,sE q3 (by rw[q1];exact h1) (by rw[q1];exact h2) (by rw[q2,aJr hn];rfl)]
theorem aSl {l:List bI} {f m:Int} (h: ∀x∈l,¬(x.frm=f∧x.num=m)):bD l f m<0:=by
 rcases iG (pC l f m) l.length 0 with h1|⟨k,h1,_,h2,h3,_⟩
 · rw[bD,h1];decide
 · have hk:k<l.length:=by omega
   unfold pC at h3
   simp only[aX3,beq_iff_eq] at h3
   exact absurd h3 (h _ (dQ hk))
theorem aPw {l:List cD} {f m:Int} (h: ∀x∈l,¬(x.frm=f∧x.num=m)):hD l f m<0:=by
 rcases iG (sD l f m) l.length 0 with h1|⟨k,h1,_,h2,h3,_⟩
 · rw[hD,h1];decide
 · have hk:k<l.length:=by omega
   unfold sD at h3
   simp only[aX3,beq_iff_eq] at h3
   exact absurd h3 (h _ (dQ hk))
theorem jl {l:List bI} {f m:Int}:bD l f m<0↔ ∀x∈l,¬(x.frm=f∧x.num=m):=⟨fun h x hx=>zT h hx,aSl⟩
theorem aEw {l:List cD} {f m:Int}:hD l f m<0↔ ∀x∈l,¬(x.frm=f∧x.num=m):=⟨fun h x hx=>im h hx,aPw⟩
section
variable {α:Type}
theorem aHe {p:α→Bool} {n x:α} {l:List α}:x∈qY p n l↔x=n∨x∈l:=by
 unfold qY
 rw[List.mem_append,List.mem_cons]
 conv=>rhs;rw[← List.takeWhile_append_dropWhile (p:=p) (l:=l)]
 rw[List.mem_append]
 constructor
 · rintro(h|h|h)<;>simp[h]
 · rintro(h|h|h)<;>simp[h]
def Srt (lt:α→α→Prop) (l:List α):Prop:=l.Pairwise lt
theorem zp {p:α→Bool} {n:α}: ∀{l:List α},(∀x∈l,p x=true)→qY p n l=l++[n]
 | [],_=>rfl
 |a::l,h=>by
  have ih:=zp (n:=n) (l:=l) fun x hx=>h x (List.mem_cons_of_mem _ hx)
  unfold qY at ih ⊢
  rw[List.takeWhile_cons_of_pos (h a (List.mem_cons_self ..)),List.dropWhile_cons_of_pos (h a (List.mem_cons_self ..)),List.cons_append,ih];rfl
theorem aSm {l:List α} {i:Nat} {x:α} (h:x∈iB l i): ∃j,j≠i∧l[j]? =some x:=by
 unfold iB at h
 rcases List.mem_append.1 h with h|h
 · obtain⟨j,hj⟩:=List.mem_iff_getElem?.1 h
   rw[List.getElem?_take] at hj
   split at hj
   · exact⟨j,by omega,hj⟩
   · cases hj
 · obtain⟨j,hj⟩:=List.mem_iff_getElem?.1 h
   rw[List.getElem?_drop] at hj
   exact⟨i+1+j,by omega,hj⟩
end
def ltN (a b:bI):Prop:=cJ a.frm a.num b.frm b.num=true
def ltM (a b:cD):Prop:=cJ a.frm a.num b.frm b.num=true
theorem zq {a b c d:Int}:cJ a b c d=true↔a<c∨a=c∧b<d:=by simp[cJ]
theorem zr {a b:Int}: ¬cJ a b a b=true:=by rw[zq];omega
theorem aC2 {a b c d e f:Int} (h1:cJ a b c d=true) (h2:cJ c d e f=true):cJ a b e f=true:=by rw[zq] at *; omega
theorem aHf {l:List bI}:kJ l=true↔(∀x∈l,eV x=true)∧Srt ltN l:=by
 constructor
 · intro h
   refine⟨fun x hx=>tN h hx,?_⟩
   have hs: ∀i,i+1<l.length→ltN (l.getD i .zero) (l.getD (i+1) .zero):=fun i hi=>by
    have h1:=aYd.1 h (i+1) (List.mem_range.2 hi)
    unfold mA at h1
    simp only[aX3,Bool.or_eq_true,beq_iff_eq] at h1
    rcases h1.2 with h2|h2
    · omega
    · exact h2
   have key: ∀d i,i+d+1<l.length→ltN (l.getD i .zero) (l.getD (i+d+1) .zero):=by
    intro d
    induction d with
    |zero=>intro i hi;exact hs i hi
    |succ d ih=>intro i hi;exact aC2 (ih i (by omega)) (hs _ (by omega))
   refine List.pairwise_iff_getElem.2 fun i j hi hj hij=> ?_
   have:=key (j - i - 1) i (by omega)
   rw[show i+(j - i - 1)+1=j by omega,aX6,aX6,aX9 hi,aX9 hj] at this
   exact this
 · rintro⟨h1,h2⟩
   refine aYd.2 fun i hi=> ?_
   have hi:=List.mem_range.1 hi
   unfold mA
   simp only[aX3,Bool.or_eq_true,beq_iff_eq]
   refine⟨h1 _ (dQ hi),?_⟩
   by_cases e:i=0
   · exact .inl e
   · refine .inr ?_
     have:=List.pairwise_iff_getElem.1 h2 (i - 1) i (by omega) hi (by omega)
     rw[aX6,aX6,aX9 hi,aX9 (by omega)]
     exact this
theorem aHg {l:List cD}:oO l=true↔(∀x∈l,lS x=true)∧Srt ltM l:=by
 constructor
 · intro h
   refine⟨fun x hx=>wI h hx,?_⟩
   have hs: ∀i,i+1<l.length→ltM (l.getD i .zero) (l.getD (i+1) .zero):=fun i hi=>by
    have h1:=aYd.1 h (i+1) (List.mem_range.2 hi)
    unfold nE at h1
    simp only[aX3,Bool.or_eq_true,beq_iff_eq] at h1
    rcases h1.2 with h2|h2
    · omega
    · exact h2
   have key: ∀d i,i+d+1<l.length→ltM (l.getD i .zero) (l.getD (i+d+1) .zero):=by
    intro d
    induction d with
    |zero=>intro i hi;exact hs i hi
    |succ d ih=>intro i hi;exact aC2 (ih i (by omega)) (hs _ (by omega))
   refine List.pairwise_iff_getElem.2 fun i j hi hj hij=> ?_
   have:=key (j - i - 1) i (by omega)
   rw[show i+(j - i - 1)+1=j by omega,aX6,aX6,aX9 hi,aX9 hj] at this
   exact this
 · rintro⟨h1,h2⟩
   refine aYd.2 fun i hi=> ?_
   have hi:=List.mem_range.1 hi
   unfold nE
   simp only[aX3,Bool.or_eq_true,beq_iff_eq]
   refine⟨h1 _ (dQ hi),?_⟩
   by_cases e:i=0
   · exact .inl e
   · refine .inr ?_
     have:=List.pairwise_iff_getElem.1 h2 (i - 1) i (by omega) hi (by omega)
     rw[aX6,aX6,aX9 hi,aX9 (by omega)]
     exact this
theorem jJ {k:bH}:dI k=true↔(eR k.id=true∧(0≤k.time∧k.time≤999)∧(1≤k.next∧k.next≤100)∧k.held.length≤6∧k.marks.length≤12∧k.inbox.length≤6)∧
 ((∀x∈k.held,eV x=true)∧Srt ltN k.held)∧((∀x∈k.marks,lS x=true)∧Srt ltM k.marks)∧((∀x∈k.inbox,eV x=true)∧Srt ltN k.inbox)∧
 (∀n∈k.held,¬(n.frm=k.id∧k.next≤n.num)∧k.time<n.til∧cp k.id n=true∧hD k.marks n.frm n.num<0)∧
 (∀m∈k.marks,¬(m.frm=k.id∧k.next≤m.num)∧k.time<m.til)∧
 (∀n∈k.inbox,¬(n.frm=k.id∧k.next≤n.num)∧n.to=k.id∧ ¬(k.time<n.til∧hD k.marks n.frm n.num<0)):=by
 have key: ∀{α:Type} {z:α} {l:List α} {P:Nat→Bool} {R:α→Prop},(∀i,P i=true↔R (l.getD i z))→((aYb l.length).all P=true↔ ∀x∈l,R x):=by
  intro α z l P R h
  constructor
  · intro h1 x hx
    obtain⟨i,hi⟩:=List.mem_iff_getElem?.1 hx
    have hlt:=(aYa.1 hi).1
    have:=(h i).1 (aYd.1 h1 i (List.mem_range.2 hlt))
    rw[aX6,hi] at this
    exact this
  · intro h1
    exact aYd.2 fun i hi=>(h i).2 (h1 _ (dQ (List.mem_range.1 hi)))
 unfold dI
 simp only[aX3,aHf,aHg,aD,iQ]
 rw[key (z:=bI.zero) (l:=k.held) (P:=tX k) (R:=fun n=> ¬(n.frm=k.id∧k.next≤n.num)∧k.time<n.til∧cp k.id n=true∧hD k.marks n.frm n.num<0) (fun i=>by
  unfold tX
  simp only[aX3,Bool.not_eq_true',Bool.and_eq_false_iff,beq_eq_false_iff_ne,aD,decide_eq_false_iff_not]
  constructor
  · rintro⟨⟨⟨h1,h2⟩,h3⟩,h4⟩;exact⟨fun h=>by rcases h1 with h1|h1;exact h1 h.1;exact h1 h.2,h2,h3,h4⟩
  · rintro⟨h1,h2,h3,h4⟩;exact⟨⟨⟨by by_cases e: (k.held.getD i bI.zero).frm=k.id;exact .inr fun h=>h1 ⟨e,h⟩;exact .inl e,h2⟩,h3⟩,h4⟩),
  key (z:=cD.zero) (l:=k.marks) (P:=xD k) (R:=fun m=> ¬(m.frm=k.id∧k.next≤m.num)∧k.time<m.til) (fun i=>by
   unfold xD
   simp only[aX3,Bool.not_eq_true',Bool.and_eq_false_iff,beq_eq_false_iff_ne,aD,decide_eq_false_iff_not]
   constructor
   · rintro⟨h1,h2⟩;exact⟨fun h=>by rcases h1 with h1|h1;exact h1 h.1;exact h1 h.2,h2⟩
   · rintro⟨h1,h2⟩;exact⟨by by_cases e: (k.marks.getD i cD.zero).frm=k.id;exact .inr fun h=>h1 ⟨e,h⟩;exact .inl e,h2⟩),
  key (z:=bI.zero) (l:=k.inbox) (P:=sU k) (R:=fun n=> ¬(n.frm=k.id∧k.next≤n.num)∧n.to=k.id∧ ¬(k.time<n.til∧hD k.marks n.frm n.num<0)) (fun i=>by
   unfold sU
   simp only[aX3,Bool.not_eq_true',Bool.and_eq_false_iff,beq_eq_false_iff_ne,aD,decide_eq_false_iff_not,beq_iff_eq]
   constructor
   · rintro⟨⟨h1,h2⟩,h3⟩;exact⟨fun h=>by rcases h1 with h1|h1;exact h1 h.1;exact h1 h.2,h2,fun h=>by rcases h3 with h3|h3;exact h3 h.1;exact h3 h.2⟩
   · rintro⟨h1,h2,h3⟩;exact⟨⟨by by_cases e: (k.inbox.getD i bI.zero).frm=k.id;exact .inr fun h=>h1 ⟨e,h⟩;exact .inl e,h2⟩,by by_cases e:k.time< (k.inbox.getD i bI.zero).til;exact .inr fun h=>h3 ⟨e,h⟩;exact .inl e⟩)]
 constructor
 · rintro⟨⟨⟨⟨⟨⟨⟨⟨⟨⟨⟨a1,a2⟩,a3⟩,a4⟩,a5⟩,a6⟩,a7⟩,a8⟩,a9⟩,b1⟩,b2⟩,b3⟩;exact⟨⟨a1,a2,a3,a4,a5,a6⟩,a7,a8,a9,b1,b2,b3⟩
 · rintro⟨⟨a1,a2,a3,a4,a5,a6⟩,a7,a8,a9,b1,b2,b3⟩;exact⟨⟨⟨⟨⟨⟨⟨⟨⟨⟨⟨a1,a2⟩,a3⟩,a4⟩,a5⟩,a6⟩,a7⟩,a8⟩,a9⟩,b1⟩,b2⟩,b3⟩
theorem ax {l:List bI} {n x:bI}:x∈kK l n↔x=n∨x∈l:=aHe
theorem aJs {l:List cD} {n x:cD}:x∈qA l n↔x=n∨x∈l:=aHe
theorem aJt {k:bH} {x:bH×Bool} (h1:x.2=true) (h2:dI x.1=true):lT k x=(x.1,true):=by
 unfold lT;rw[aC (by rw[h1,h2];rfl)]
theorem tS {k:bH} {rec:List UInt8} (hk:dI k=true) (h1: (eS k rec).2=true) (h2:dI (eS k rec).1=true):cV k rec=((eS k rec).1,true):=by
 rw[aj hk,aJt h1 h2]
theorem jm {k:bH} {n:bI} (h: (fL k n).2=true): (bh k n=true∧(k.held.length:Int)+k.marks.length+1≤12)∧
 (fL k n).1=if n.to==k.id then{k with inbox:=kK k.inbox n,marks:=qA k.marks ⟨n.frm,n.num,n.til⟩} else{k with held:=kK k.held n}:=by
 unfold fL at h ⊢
 split at h
 · rename_i hx
   rw[aC hx]
   simp only[aX3,aD] at hx
   exact⟨hx,rfl⟩
 · cases h
theorem tb {k:bH} {n:bI} (h:bh k n=true):eV n=true∧k.time<n.til∧bD k.held n.frm n.num<0∧bD k.inbox n.frm n.num<0∧hD k.marks n.frm n.num<0:=by
 unfold bh at h
 simp only[aX3,aD] at h
 exact⟨h.1.1.1.1,h.1.1.1.2,h.1.1.2,h.1.2,h.2⟩
theorem aJu {k:bH} {n:bI} (h: (fL k n).2=true): (n.to=k.id→n∈(fL k n).1.inbox∧n∉ (fL k n).1.held∧(⟨n.frm,n.num,n.til⟩:cD)∈(fL k n).1.marks)∧
 (n.to≠k.id→n∉ (fL k n).1.inbox∧n∈(fL k n).1.held∧ ∀m∈(fL k n).1.marks,¬(m.frm=n.frm∧m.num=n.num)):=by
 obtain⟨⟨q1,_⟩,q2⟩:=jm h
 obtain⟨_,_,q3,q4,q5⟩:=tb q1
 rw[q2]
 constructor
 · intro e
   rw[aC (by simp[e])]
   exact⟨ax.2 (.inl rfl),fun hm=>zT q3 hm ⟨rfl,rfl⟩,aJs.2 (.inl rfl)⟩
 · intro e
   rw[aB (by simp[e])]
   exact⟨fun hm=>zT q4 hm ⟨rfl,rfl⟩,ax.2 (.inl rfl),fun m hm=>im q5 hm⟩
theorem aJv (k:bH) {w:List UInt8} {m:cD} (hm:lS m=true) (hw: ∀b∈w,b≠32) (h1: (w==jD||w==jL)=false) (h2: (w==iE||w==gL||w==iC||w==fS)=false) (h3: (w==oD||w==nI||w==iL)=true):eS k (lB w m)=jA k w m:=by
 have e:lB w m=w++32::wH m:=by simp[lB,wH]
 obtain⟨q1,q2,q3⟩:=nG (w:=w) (r:=wH m) hw
 obtain⟨l1,l2,l3,_⟩:=aCm hm
 rw[e,aCg q3 (by rw[q1];exact h1) (by rw[q1];exact h2) (by rw[q1];exact h3) (by rw[q2,l1,l2];rfl),q1,q2,l3]
theorem aJw (k:bH) {n:Nat} (hn:n<100000):eS k (pP n)=lE k jL n:=by
 have e:pP n=jL++32::kH n:=by simp[pP]
 obtain⟨h1,h2,h3⟩:=nG (w:=jL) (r:=kH n) (by decide)
 rw[e,wx h3 (by rw[h1];rfl) (by rw[h2,nH hn];rfl),h1,h2,sF (nH hn)]
theorem getD_some {α:Type} {l:List α} {i:Nat} {z:α} (h:i<l.length):l[i]? =some (l.getD i z):=by
 rw[aX6,aX9 h];rfl
theorem aSn {l m:List cD} {f n:Int} (h:hD m f n<0) (hs: ∀x∈l,x∈m):hD l f n<0:=aEw.2 fun x hx=>aEw.1 h x (hs x hx)
theorem aSo {l m:List bI} {f n:Int} (h:bD m f n<0) (hs: ∀x∈l,x∈m):bD l f n<0:=jl.2 fun x hx=>jl.1 h x (hs x hx)
theorem mX: ∀{rs ts:List (List UInt8)} {k k2:bH},gN k rs=(k2,true)→gN k (rs++ts)=gN k2 ts
 | [],ts,k,k2,h=>by simp only[gN,Prod.mk.injEq,and_true] at h;rw[h];rfl
 |r::rs,ts,k,k2,h=>by
  simp only[gN,List.cons_append] at h ⊢
  split at h
  · rename_i hx
    rw[aC hx];exact mX h
  · cases h
theorem sN {k k2:bH} {r:List UInt8} (h:cV k r=(k2,true)):gN k [r]=(k2,true):=by
 simp only[gN];rw[h,aC rfl]
theorem sO {k:bH} (hk:dI k=true) {h i:List bI} {m:List cD} (hh:h.Sublist k.held) (hm:m.Sublist k.marks) (hi:i.Sublist k.inbox) (hc:i=[]∨m=k.marks):dI ⟨k.id,k.time,k.next,h,m,i⟩=true:=by
 obtain⟨⟨k1,k2,k3,k4,k5,k6⟩,⟨n1,s1⟩,⟨n2,s2⟩,⟨n3,s3⟩,c1,c2,c3⟩:=jJ.1 hk
 refine jJ.2 ⟨⟨k1,k2,k3,Nat.le_trans hh.length_le k4,Nat.le_trans hm.length_le k5,Nat.le_trans hi.length_le k6⟩,⟨fun x hx=>n1 x (hh.subset hx),s1.sublist hh⟩,⟨fun x hx=>n2 x (hm.subset hx),s2.sublist hm⟩,⟨fun x hx=>n3 x (hi.subset hx),s3.sublist hi⟩,
  fun n hn=> ?_,fun x hx=>c2 x (hm.subset hx),fun n hn=> ?_⟩
 · obtain⟨q1,q2,q3,q4⟩:=c1 n (hh.subset hn)
   exact⟨q1,q2,q3,aSn q4 fun x hx=>hm.subset hx⟩
 · rcases hc with rfl|rfl
   · cases hn
   · exact c3 n (hi.subset hn)
theorem aPx {α:Type} {lt:α→α→Prop} {l:List α} (h:Srt lt l) {i:Nat} {z:α} (hi:i<l.length): ∀x∈l.take i,lt x (l.getD i z):=by
 intro x hx
 obtain⟨j,hj⟩:=List.mem_iff_getElem?.1 hx
 rw[List.getElem?_take] at hj
 split at hj
 · rename_i hji
   obtain⟨hj1,hj2⟩:=aYa.1 hj
   have:=List.pairwise_iff_getElem.1 h j i hj1 hi hji
   rw[hj2] at this
   rw[aX6,aX9 hi];exact this
 · cases hj
theorem zt {l:List bI} (h:Srt ltN l) {i:Nat} (hi:i<l.length):kK (l.take i) (l.getD i .zero)=l.take (i+1)∧bD (l.take i) (l.getD i .zero).frm (l.getD i .zero).num<0:=by
 have hp:=aPx h (z:=bI.zero) hi
 refine⟨by rw[yJ,zp fun x hx=>hp x hx,eX (z:=bI.zero) hi],jl.2 fun x hx e=> ?_⟩
 have:=hp x hx
 rw[ltN,e.1,e.2] at this
 exact zr this
theorem aJx {l:List cD} (h:Srt ltM l) {i:Nat} (hi:i<l.length):qA (l.take i) (l.getD i .zero)=l.take (i+1)∧hD (l.take i) (l.getD i .zero).frm (l.getD i .zero).num<0:=by
 have hp:=aPx h (z:=cD.zero) hi
 refine⟨by rw[fa,zp fun x hx=>hp x hx,eX (z:=cD.zero) hi],aEw.2 fun x hx e=> ?_⟩
 have:=hp x hx
 rw[ltM,e.1,e.2] at this
 exact zr this
theorem fj {α:Type} {l:List α}: ([]:List α).Sublist l:=List.nil_sublist _
theorem zu {k:bH} (hk:dI k=true): ∀i,i≤k.marks.length→gN ⟨k.id,k.time,k.next,[],[],[]⟩ ((k.marks.take i).map (lB iL))=(⟨k.id,k.time,k.next,[],k.marks.take i,[]⟩,true)
 |0,_=>rfl
 |i+1,hi=>by
  have ih:=zu hk i (by omega)
  obtain⟨_,_,⟨n2,s2⟩,_⟩:=jJ.1 hk
  rw[eX (z:=cD.zero) (show i<k.marks.length by omega),List.map_append,mX ih]
  refine sN ?_
  have hm:=n2 _ (dQ (z:=cD.zero) (show i<k.marks.length by omega))
  obtain⟨e1,e2⟩:=aJx s2 (show i<k.marks.length by omega)
  have hd:eS ⟨k.id,k.time,k.next,[],k.marks.take i,[]⟩ (lB iL (k.marks.getD i .zero))=(⟨k.id,k.time,k.next,[],k.marks.take (i+1),[]⟩,true):=by
   rw[aJv _ hm (by decide) rfl rfl rfl]
   unfold jA
   rw[aB (by rw[show(iL==oD)=false by decide];simp),aB (by rw[show(iL==nI)=false by decide];simp),aC (by rw[decide_eq_true e2];rfl),e1]
  rw[tS (sO hk fj (List.take_sublist _ _) fj (.inl rfl)) (by rw[hd]) (by rw[hd];exact sO hk fj (List.take_sublist _ _) fj (.inl rfl)),hd,← eX (z:=cD.zero) (show i<k.marks.length by omega)]
theorem aPy {x:bH} {n:bI} (hn:eV n=true) (h1:bD x.held n.frm n.num<0) (h2:bD x.inbox n.frm n.num<0):eS x (dC iC n)=({x with held:=kK x.held n},true):=by
 rw[jk (by decide) rfl rfl,aC hn]
 unfold fT
 rw[aB (by rw[show(iC==iE)=false by decide];simp),aB (by rw[show(iC==gL)=false by decide];simp),aB (by simp;omega),aC (by decide)]
theorem aNi {x:bH} {n:bI} (hn:eV n=true) (h1:bD x.held n.frm n.num<0) (h2:bD x.inbox n.frm n.num<0):eS x (dC fS n)=({x with inbox:=kK x.inbox n},true):=by
 rw[jk (by decide) rfl rfl,aC hn]
 unfold fT
 rw[aB (by rw[show(fS==iE)=false by decide];simp),aB (by rw[show(fS==gL)=false by decide];simp),aB (by simp;omega),aB (by decide),aC (by decide)]
theorem aC3 {k:bH} (hk:dI k=true): ∀i,i≤k.held.length→gN ⟨k.id,k.time,k.next,[],k.marks,[]⟩ ((k.held.take i).map (dC iC))=(⟨k.id,k.time,k.next,k.held.take i,k.marks,[]⟩,true)
 |0,_=>rfl
 |i+1,hi=>by
  have ih:=aC3 hk i (by omega)
  obtain⟨_,⟨n1,s1⟩,_⟩:=jJ.1 hk
  rw[eX (z:=bI.zero) (show i<k.held.length by omega),List.map_append,mX ih]
  refine sN ?_
  obtain⟨e1,e2⟩:=zt s1 (show i<k.held.length by omega)
  have hd:=aPy (x:=⟨k.id,k.time,k.next,k.held.take i,k.marks,[]⟩) (n1 _ (dQ (z:=bI.zero) (show i<k.held.length by omega))) e2 (jl.2 fun x hx=>nomatch hx)
  rw[e1] at hd
  rw[tS (sO hk (List.take_sublist _ _) (List.Sublist.refl _) fj (.inl rfl)) (by rw[hd]) (by rw[hd];exact sO hk (List.take_sublist _ _) (List.Sublist.refl _) fj (.inl rfl)),hd,← eX (z:=bI.zero) (show i<k.held.length by omega)]
def Ap (k:bH):Prop:= ∀n∈k.inbox,bD k.held n.frm n.num<0
theorem Ap.nil {k:bH} (h:k.inbox=[]):Ap k:=fun n hn=>by rw[h] at hn;cases hn
theorem Ap.less {k x:bH} (h:Ap k) (hi: ∀n∈x.inbox,n∈k.inbox) (hh: ∀n∈x.held,n∈k.held):Ap x:=fun n hn=>aSo (h n (hi n hn)) hh
theorem aK2 {α:Type} {l:List α} {i:Nat} {x:α} (h:x∈iB l i):x∈l:=by
 obtain⟨j,_,hj⟩:=aSm h
 exact List.mem_iff_getElem?.2 ⟨j,hj⟩
theorem Ap.put {k:bH} {n:bI} (h:Ap k) (hn:bD k.inbox n.frm n.num<0) {x:bH} (hx:x.held=kK k.held n) (hi:x.inbox=k.inbox):Ap x:=fun m hm=>by
 rw[hi] at hm
 rw[hx]
 refine jl.2 fun y hy e=> ?_
 rcases ax.1 hy with rfl|hy
 · exact jl.1 hn m hm ⟨e.1.symm,e.2.symm⟩
 · exact jl.1 (h m hm) y hy e
theorem Ap.come {k:bH} {n:bI} (h:Ap k) (hn:bD k.held n.frm n.num<0) {x:bH} (hx:x.inbox=kK k.inbox n) (hi:x.held=k.held):Ap x:=fun m hm=>by
 rw[hx] at hm
 rw[hi]
 rcases ax.1 hm with rfl|hm
 · exact hn
 · exact h m hm
theorem aC4 {k:bH} (h:Ap k) (n:bI):Ap (fL k n).1:=by
 by_cases h1: (fL k n).2=true
 · obtain⟨⟨q1,_⟩,q2⟩:=jm h1
   obtain⟨_,_,q3,q4,_⟩:=tb q1
   rw[q2]
   split
   · exact h.come q3 rfl rfl
   · exact h.put q4 rfl rfl
 · unfold fL at h1 ⊢
   split
   · rename_i hx;rw[aC hx] at h1;exact absurd rfl h1
   · exact h
theorem aNj {k:bH} (h:Ap k) (rec:List UInt8):Ap (eS k rec).1:=by
 have hnum: ∀w n,Ap (lE k w n).1:=fun w n=>by
  unfold lE
  split
  · exact h.less (fun m hm=>hm) fun m hm=>(List.mem_filter.1 hm).1
  · split
    · exact h.less (fun m hm=>hm) fun m hm=>hm
    · exact h
 have hnote: ∀w n,Ap (fT k w n).1:=fun w n=>by
  unfold fT
  split
  · exact aC4 (h.less (x:={k with next:=wrap64 (k.next+1)}) (fun m hm=>hm) fun m hm=>hm) n
  · split
    · exact aC4 h n
    · split
      · exact h
      · rename_i h3
        simp only[Bool.or_eq_true,aD,not_or,Int.not_le] at h3
        split
        · exact h.put h3.2 rfl rfl
        · split
          · exact h.come h3.1 rfl rfl
          · exact h
 have hmark: ∀w m,Ap (jA k w m).1:=fun w m=>by
  unfold jA
  split
  · exact h.less (fun m hm=>hm) fun m hm=>aK2 hm
  · split
    · exact h.less (fun m hm=>aK2 hm) fun m hm=>hm
    · split
      · exact h.less (fun m hm=>hm) fun m hm=>hm
      · exact h
 unfold eS
 repeat' split
 all_goals first|exact hnum _ _|exact hnote _ _|exact hmark _ _|exact h
theorem aNk {k:bH} (h:Ap k) (rec:List UInt8):Ap (cV k rec).1:=by
 unfold cV
 split
 · unfold lT
   split
   · exact aNj h rec
   · exact h
 · exact Ap.nil rfl
theorem aC5: ∀{rs:List (List UInt8)} {k:bH},Ap k→Ap (gN k rs).1
 | [],k,h=>h
 |r::rs,k,h=>by
  unfold gN
  split
  · exact aC5 (aNk h r)
  · exact Ap.nil rfl
theorem uc (id:Int): (dS id).inbox=[]:=by
 unfold dS
 split<;>rfl
theorem aNl (id:Int) (rs:List (List UInt8)):Ap (eI id rs).1:=by
 unfold eI
 split
 · exact aC5 (Ap.nil (uc id))
 · exact Ap.nil rfl
theorem zw {k:bH} (hk:dI k=true) (ha:Ap k): ∀i,i≤k.inbox.length→gN ⟨k.id,k.time,k.next,k.held,k.marks,[]⟩ ((k.inbox.take i).map (dC fS))=(⟨k.id,k.time,k.next,k.held,k.marks,k.inbox.take i⟩,true)
 |0,_=>rfl
 |i+1,hi=>by
  have ih:=zw hk ha i (by omega)
  obtain⟨_,_,_,⟨n3,s3⟩,_⟩:=jJ.1 hk
  have hm:=dQ (z:=bI.zero) (show i<k.inbox.length by omega)
  rw[eX (z:=bI.zero) (show i<k.inbox.length by omega),List.map_append,mX ih]
  refine sN ?_
  obtain⟨e1,e2⟩:=zt s3 (show i<k.inbox.length by omega)
  have hd:=aNi (x:=⟨k.id,k.time,k.next,k.held,k.marks,k.inbox.take i⟩) (n3 _ hm) (ha _ hm) e2
  rw[e1] at hd
  rw[tS (sO hk (List.Sublist.refl _) (List.Sublist.refl _) (List.take_sublist _ _) (.inr rfl)) (by rw[hd]) (by rw[hd];exact sO hk (List.Sublist.refl _) (List.Sublist.refl _) (List.take_sublist _ _) (.inr rfl)),hd,← eX (z:=bI.zero) (show i<k.inbox.length by omega)]
theorem wU {id t n:Int} (h1:eR id=true) (h2:0≤t∧t≤999) (h3:1≤n∧n≤100):dI ⟨id,t,n,[],[],[]⟩=true:=
 jJ.2 ⟨⟨h1,h2,h3,by simp,by simp,by simp⟩,⟨fun x hx=>(nomatch hx),List.Pairwise.nil⟩,⟨fun x hx=>(nomatch hx),List.Pairwise.nil⟩,⟨fun x hx=>(nomatch hx),List.Pairwise.nil⟩,fun x hx=>(nomatch hx),fun x hx=>(nomatch hx),fun x hx=>(nomatch hx)⟩
theorem aNm {id t:Int} (h1:eR id=true) (h2:0≤t∧t≤999):gN ⟨id,0,1,[],[],[]⟩ (if 0<t then [lA t.toNat] else [])=(⟨id,t,1,[],[],[]⟩,true):=by
 split
 · rename_i h
   refine sN ?_
   have e: ((t.toNat:Nat):Int)=t:=by omega
   have hd:eS ⟨id,0,1,[],[],[]⟩ (lA t.toNat)=(⟨id,t,1,[],[],[]⟩,true):=by
    rw[iw _ (by omega),e]
    unfold lE
    rw[aC (by simpa using h)];rfl
   rw[tS (wU h1 (by omega) (by omega)) (by rw[hd]) (by rw[hd];exact wU h1 h2 (by omega)),hd]
 · rename_i h
   have:t=0:=by omega
   subst this;rfl
theorem aNn {id t n:Int} (h1:eR id=true) (h2:0≤t∧t≤999) (h3:1≤n∧n≤100):gN ⟨id,t,1,[],[],[]⟩ (if 1<n then [pP n.toNat] else [])=(⟨id,t,n,[],[],[]⟩,true):=by
 split
 · rename_i h
   refine sN ?_
   have e: ((n.toNat:Nat):Int)=n:=by omega
   have hd:eS ⟨id,t,1,[],[],[]⟩ (pP n.toNat)=(⟨id,t,n,[],[],[]⟩,true):=by
    rw[aJw _ (by omega),e]
    unfold lE
    rw[aB (by rw[show(jL==jD)=false by decide];simp),aC (by simpa using h)]
   rw[tS (wU h1 h2 (by omega)) (by rw[hd]) (by rw[hd];exact wU h1 h2 h3),hd]
 · rename_i h
   have:n=1:=by omega
   subst this;rfl
theorem aPz {k:bH} (hk:dI k=true) (ha:Ap k):eI k.id (eL k)=(k,true):=by
 obtain⟨⟨h1,h2,h3,_⟩,_⟩:=jJ.1 hk
 have e0:eI k.id (eL k)=gN ⟨k.id,0,1,[],[],[]⟩ (iu k):=by
  unfold eI eL dS
  rw[aC h1,aC hk,aC h1]
 have hm:=zu hk k.marks.length (aX8 _)
 have hh:=aC3 hk k.held.length (aX8 _)
 have hi:=zw hk ha k.inbox.length (aX8 _)
 rw[aYe] at hm hh hi
 rw[e0]
 unfold iu
 rw[List.append_assoc,List.append_assoc,List.append_assoc,mX (aNm h1 h2),mX (aNn h1 h2 h3),mX hm,mX hh,hi]
theorem ay {s s':List UInt8} {n j:Nat} (e:s'.take n=s.take n) (h:j<n):s'.getD j 0=s.getD j 0:=by
 have:=aA (fun l=>l[j]?) e
 simp only[List.getElem?_take,h,if_true] at this
 rw[aX6,aX6,this]
theorem aC6 {s s':List UInt8} {n m:Nat} (e:s'.take n=s.take n) (h:m≤n):s'.take m=s.take m:=by
 have:=aA (List.take m) e
 rwa [List.take_take,List.take_take,Nat.min_eq_left h] at this
theorem fk {s s' r:List UInt8} {n:Nat} (h:gX s=some (r,n)) (e:s'.take n=s.take n) (hl:n≤s'.length):gX s'=some (r,n):=by
 unfold gX at h
 split at h
 · cases h
 · rename_i i hi
   obtain⟨q1,q2,q3,q4,q5⟩:=wF hi
   split at h
   · cases h
   · rename_i m hm
     split at h
     · rename_i hc
       cases h
       obtain⟨c1,c2,c3,c4⟩:=hc
       have hi':uK s'=some i:=eu q1 q2 (by omega) (by rw[ay e (by omega)];exact q4) fun j h1 h2=>by rw[ay e (by omega)];exact q5 j h1 h2
       unfold gX
       rw[hi']
       simp only
       rw[aC6 e (show i≤i+2+m by omega),hm]
       simp only
       rw[aC ⟨c1,c2,hl,by rw[ay e (by omega)];exact c4⟩,aC6 e (show i+1+m≤i+2+m by omega)]
     · cases h
theorem xR: ∀(n:Nat) {a b:List UInt8},a.length≤n→(bG a).2=a.length→bG (a++b)=((bG a).1++(bG b).1,a.length+(bG b).2)
 |0,a,b,hn,h=>by
  obtain rfl:a=[]:=List.eq_nil_of_length_eq_zero (by omega)
  rw[eD lG];simp
 |n+1,a,b,hn,h=>by
  cases hr:gX a with
  |none=>
   rw[eD hr] at h
   obtain rfl:a=[]:=List.eq_nil_of_length_eq_zero h.symm
   rw[eD lG];simp
  |some p=>
   obtain⟨r,c⟩:=p
   have hs:=mQ hr
   rw[iH hr] at h ⊢
   have h2:gX (a++b)=some (r,c):=fk hr (by rw[List.take_append_of_le_length (by omega)]) (by rw[aXz];omega)
   have ih:=xR n (a:=a.drop c) (b:=b) (by rw[aX7];omega) (by rw[aX7];simp only at h;omega)
   rw[iH h2,List.drop_append_of_le_length (by omega),ih,aX7]
   simp only[List.cons_append]
   refine Prod.ext rfl ?_
   simp only;omega
theorem zx {rec t:List UInt8} (h:iY rec=true):gX (cP rec++t)=some (rec,(cP rec).length):=by
 have h1: (1:Int)≤rec.length∧(rec.length:Int)≤60:=by simpa[iY,iQ] using h
 have hl:=aGo (n:=rec.length) (by omega)
 have e:cP rec++t=kH rec.length++(58::(rec++59::t)):=by simp[cP]
 have hlen: (cP rec).length=(kH rec.length).length+2+rec.length:=by simp only[cP,aXz,aX1,aX2];omega
 generalize hd:kH rec.length=d at*
 have hdd: ∀b∈d,gR b=true:=by rw[← hd];exact zJ _
 have hat: ∀j,j<d.length→(d++(58::(rec++59::t))).getD j 0≠58:=fun j hj=>by
  rw[aX6,List.getElem?_append_left hj,aX9 hj]
  have:=hdd _ (List.getElem_mem hj)
  intro e9
  simp only[Option.getD_some] at e9
  rw[e9] at this
  exact absurd this (by decide)
 have hc:uK (d++(58::(rec++59::t)))=some d.length:=eu (aX5 _) (by omega) (by simp) (by rw[aX6,List.getElem?_append_right (aX8 _)];simp) fun j _ hj=>hat j hj
 have ht: (d++(58::(rec++59::t))).take d.length=d:=List.take_left' rfl
 have hn:jT d=some rec.length:=by rw[← hd];exact nH (by omega)
 unfold gX
 rw[e,hc]
 simp only
 rw[ht,hn]
 simp only
 have hg: (d++(58::(rec++59::t))).getD (d.length+1+rec.length) 0=59:=by
  rw[aX6,List.getElem?_append_right (by omega),show d.length+1+rec.length - d.length=rec.length+1 by omega,List.getElem?_cons_succ,List.getElem?_append_right (aX8 _)]
  simp
 rw[aC ⟨by omega,by omega,by simp only[aXz,aX1];omega,hg⟩]
 have hcut: ((d++(58::(rec++59::t))).take (d.length+1+rec.length)).drop (d.length+1)=rec:=by
  rw[show d++(58::(rec++59::t))=(d++[58])++(rec++59::t) by simp,show d.length+1+rec.length=(d++[58]).length+rec.length by simp,List.take_append,List.take_of_length_le (by simp),Nat.add_sub_cancel_left,List.take_left' rfl,show d.length+1=(d++[58]).length by simp,List.drop_left' rfl]
 rw[hcut,hlen]
theorem oX: ∀{recs:List (List UInt8)},recs.all iY=true→bG (dG recs)=(recs,(dG recs).length)
 | [],_=>by rw[aGp,eD lG];rfl
 |r::rs,h=>by
  simp only[List.all_cons,aX3] at h
  have e:dG (r::rs)=cP r++dG rs:=by simp[dG]
  rw[e,iH (zx h.1),List.drop_left' rfl,oX h.2,aXz]
theorem np: ∀(f:Nat) {l:List UInt8} {n:Nat},(l.take n).length≤f→((bG (l.take n)).1 <+: (bG l).1)∧bG (l.take (bG (l.take n)).2)=bG (l.take n)
 |0,l,n,hf=>by
  have e:l.take n=[]:=List.eq_nil_of_length_eq_zero (by omega)
  rw[e,eD lG]
  exact⟨List.nil_prefix,by rw[List.take_zero,eD lG]⟩
 |f+1,l,n,hf=>by
  cases hr:gX (l.take n) with
  |none=>
   rw[eD hr]
   exact⟨List.nil_prefix,by rw[List.take_zero,eD lG]⟩
  |some p=>
   obtain⟨r,c⟩:=p
   have hs:=mQ hr
   have hc:c≤n∧c≤l.length:=by have:=hs.2.1;rw[aX4] at this;omega
   have h2:gX l=some (r,c):=fk hr (by rw[List.take_take,Nat.min_eq_left hc.1]) hc.2
   have ed: (l.take n).drop c=(l.drop c).take (n - c):=by rw[List.drop_take]
   obtain⟨i1,i2⟩:=np f (l:=l.drop c) (n:=n - c) (by rw[← ed,aX7];omega)
   have i3:=(qX _ ((l.drop c).take (n - c)) (aX8 _)).1
   rw[aX4,aX7] at i3
   rw[iH hr,iH h2,ed]
   simp only
   refine⟨(List.cons_prefix_cons).2 ⟨rfl,i1⟩,?_⟩
   have h3:gX (l.take (c+(bG ((l.drop c).take (n - c))).2))=some (r,c):=fk h2 (by rw[List.take_take,Nat.min_eq_left (by omega)]) (by rw[aX4];omega)
   rw[iH h3,List.drop_take,Nat.add_sub_cancel_left,i2]
theorem zy: ∀{rs ts:List (List UInt8)} {k:bH},(gN k (rs++ts)).2=true→(gN k rs).2=true
 | [],ts,k,h=>rfl
 |r::rs,ts,k,h=>by
  rw[List.cons_append] at h
  unfold gN at h ⊢
  split at h
  · rename_i hx
    rw[aC hx];exact zy h
  · cases h
theorem aJy {id:Int} {rs ts:List (List UInt8)} (hp:rs <+: ts) (h: (eI id ts).2=true): (eI id rs).2=true:=by
 obtain⟨us,rfl⟩:=hp
 unfold eI at h ⊢
 split at h
 · rename_i hx
   rw[aC hx];exact zy h
 · cases h
theorem fH {k:aK}:aW k=true↔eR k.id=true∧dF k.log k.forced=true∧k.halves.length≤3∧(k.up=true∨k.halves.length=0)∧(bA k).2=true∧(vO k).2=true∧(aYb k.halves.length).all (iN k.halves)=true:=by
 constructor
 · intro h
   unfold aW at h
   simp only[aX3] at h
   obtain⟨⟨⟨h1,h2⟩,h3⟩,h4⟩:=h
   obtain⟨q1,q2,q3,q4⟩:=eN h1
   exact⟨q1,q2,q3,q4,h2,h3,h4⟩
 · rintro⟨q1,q2,q3,q4,h2,h3,h4⟩
   unfold aW kD
   have q3': ((k.halves.length:Nat):Int)≤3:=by omega
   have q4': (k.up||decide (k.halves.length=0))=true:=by
    rcases q4 with h|h
    · rw[h];rfl
    · rw[decide_eq_true h,Bool.or_true]
   rw[q1,q2,decide_eq_true q3',q4',h2,h3,h4];rfl
theorem mY {k:aK} (h:aW k=true):bS k=(bA k).1:=aC h
theorem aEx {k:aK} (h:aW k=true):bA k=(bS k,true):=Prod.ext (mY h).symm (fH.1 h).2.2.2.2.1
theorem aP0 {k:aK} (h:aW k=true): (bS k).id=k.id:=by rw[mY h];exact aG9 h
theorem aP1 {k:aK} (h:aW k=true):dI (bS k)=true:=by rw[mY h];exact gF h
theorem aV9 {k:aK} (h:aW k=true):Ap (bS k):=by rw[mY h];exact aNl _ _
theorem aSp {k:aK} (h:aW k=true):aW {k with up:=true}=true:=by
 obtain⟨q1,q2,q3,_,h2,h3,h4⟩:=fH.1 h
 exact fH.2 ⟨q1,q2,q3,.inl rfl,h2,h3,h4⟩
theorem aP2 {k:aK} (h:aW k=true):bS (fI k)=bS k:=by
 have e:fI k={k with up:=true}:=aC h
 rw[e,mY (aSp h),mY h];rfl
theorem aC7 (l:List UInt8) (f keep:Int): (bG (l.take (jM l f keep))).2=jM l f keep∧(bG (l.take (jM l f keep))).1 <+: (bG l).1∧(l.take (jM l f keep)).length=jM l f keep:=by
 obtain⟨h1,h2⟩:=np _ (l:=l) (n:=(gO l f keep).toNat) (aX8 _)
 have h3:bG (l.take (jM l f keep))=bG (l.take (gO l f keep).toNat):=h2
 refine⟨by rw[h3];rfl,by rw[h3];exact h1,?_⟩
 rw[aX4]
 have:=ir l f keep
 omega
theorem aJz {l:List UInt8} {f keep:Int} (h:dF l f=true):dF (l.take (jM l f keep)) (jM l f keep)=true:=by
 obtain⟨h1,h2,h3,h4⟩:=gV h
 obtain⟨r1,r2,r3⟩:=aC7 l f keep
 have:=ir l f keep
 simp only[dF,iQ,aX3,aD]
 refine⟨⟨⟨by omega,by omega⟩,by rw[r1,r3]⟩,?_⟩
 rw[aXy,List.take_take,Nat.min_self,r1]
theorem aK3 {k:aK} (h:aW k=true) (keep:Int):fO k keep=⟨k.id,false,k.log.take (jM k.log k.forced keep),jM k.log k.forced keep,[]⟩:=by
 obtain⟨_,q2,_⟩:=fH.1 h
 unfold fO fY
 rw[aC h,aC q2]
theorem aK4 {k:aK} (h:aW k=true) (keep:Int):aW (fO k keep)=true:=by
 obtain⟨q1,q2,q3,_,h2,h3,h4⟩:=fH.1 h
 obtain⟨r1,r2,r3⟩:=aC7 k.log k.forced keep
 have e: (eI k.id (bG (k.log.take (jM k.log k.forced keep))).1).2=true:=aJy r2 h2
 rw[aK3 h]
 refine fH.2 ⟨q1,aJz q2,by simp,.inr rfl,e,?_,rfl⟩
 unfold vO
 simp only
 rw[aXy,List.take_take,Nat.min_self];exact e
theorem tc {k:aK} (h:aW k=true) (hf:k.forced=k.log.length) (keep:Int):bS (fI (fO k keep))=bS k:=by
 obtain⟨q1,q2,q3,_,h2,h3,h4⟩:=fH.1 h
 obtain⟨_,_,s3,_⟩:=gV q2
 rw[aP2 (aK4 h keep),mY (aK4 h keep),mY h,aK3 h]
 have ea:gO k.log k.forced keep=k.log.length:=by
  unfold gO
  rw[hf,aB (by omega)];omega
 have e:jM k.log k.forced keep=k.log.length:=by
  unfold jM
  rw[ea,aXy,aYe,s3]
 unfold bA
 simp only
 rw[e,aYe]
theorem qu {k:aK} (h:dF k.log k.forced=true):jR k={k with forced:=k.log.length}:=by
 unfold jR cY
 rw[aC h]
theorem aEy {l:List UInt8} {f:Int} (h:dF l f=true):dF l l.length=true:=by
 obtain⟨h1,h2,h3,h4⟩:=gV h
 simp only[dF,iQ,aX3,aD]
 exact⟨⟨⟨h1,by omega⟩,h3⟩,by rw[aXy,aYe,h3]⟩
theorem qv {k:aK} (h:aW k=true):aW (jR k)=true:=by
 obtain⟨q1,q2,q3,q4,h2,h3,h4⟩:=fH.1 h
 rw[qu q2]
 refine fH.2 ⟨q1,aEy q2,q3,q4,h2,?_,h4⟩
 unfold vO
 simp only
 rw[aXy,aYe];exact h2
theorem jn {k:aK} (h:aW k=true):bS (jR k)=bS k:=by
 obtain⟨q1,q2,_⟩:=fH.1 h
 rw[mY (qv h),mY h,qu q2];rfl
theorem aEz (n:bI): (gE n).length≤35:=by
 by_cases h:eV n=true
 · obtain⟨p1,p2,p3,p4,p5⟩:=mR h
   have q1:=bW (k:=0) (n:=n.frm.toNat) (by simp;omega)
   have q2:=bW (k:=1) (n:=n.num.toNat) (by simp;omega)
   have q3:=bW (k:=0) (n:=n.to.toNat) (by simp;omega)
   have q4:=bW (k:=2) (n:=n.til.toNat) (by simp;omega)
   rw[gE,aC h]
   simp only[kV,aXz,aX1,aX2];omega
 · rw[gE,aB h];simp
theorem nq {r:List UInt8} (h1:1≤r.length) (h2:r.length≤60):iY r=true:=by
 simp only[iY,iQ,aX3,aD];omega
theorem aAa {w:List UInt8} {n:bI} (h:w.length≤5):iY (dC w n)=true:=by
 have:=aEz n
 exact nq (by simp only[dC,aXz,aX1,aX2];omega) (by simp only[dC,aXz,aX1,aX2];omega)
theorem aJ0 {n:Nat} (h:n≤1000000):iY (lA n)=true:=
 nq (by simp only[lA,aXz,aX1,aX2];omega) (by have:=wN h;omega)
theorem aJ1 {n:Nat} (h:n≤1000000):iY (pP n)=true:=
 nq (by simp only[pP,aXz,aX1,aX2];omega) (by have:=ss h;omega)
theorem aJ2 {w:List UInt8} {m:cD} (hw:w.length≤5) (h: (0≤m.frm∧m.frm≤1000000)∧(0≤m.num∧m.num≤1000000)∧(0≤m.til∧m.til≤1000000)):iY (lB w m)=true:=
 nq (by simp only[lB,aXz,aX1,aX2];omega) (by have:=cz (w:=w) h;omega)
theorem td {k:bH}: (eL k).all iY=true:=by
 by_cases hk:dI k=true
 · obtain⟨⟨_,ht,hn,_⟩,⟨n1,_⟩,⟨n2,_⟩,⟨n3,_⟩,_⟩:=jJ.1 hk
   refine aYd.2 fun r hr=> ?_
   unfold eL at hr
   rw[aC hk] at hr
   unfold iu at hr
   simp only[List.mem_append,aYc] at hr
   rcases hr with(((hr|hr)|⟨m,hm,rfl⟩)|⟨n,hm,rfl⟩)|⟨n,hm,rfl⟩
   · split at hr
     · rw[List.mem_singleton.1 hr];exact aJ0 (by omega)
     · cases hr
   · split at hr
     · rw[List.mem_singleton.1 hr];exact aJ1 (by omega)
     · cases hr
   · have:=rB (n2 m hm)
     exact aJ2 (by decide) (by omega)
   · exact aAa (by decide)
   · exact aAa (by decide)
 · unfold eL;rw[aB hk];rfl
theorem te: ∀{recs:List (List UInt8)},recs.all iY=true→(dG recs).length≤64*recs.length
 | [],_=>by simp[dG]
 |r::rs,h=>by
  simp only[List.all_cons,aX3] at h
  have e:dG (r::rs)=cP r++dG rs:=by simp[dG]
  have:=sn h.1
  have ih:=te h.2
  rw[e,aXz,aX1];omega
theorem aAb (k:bH): (dG (eL k)).length≤1664:=by
 have h1:=te (td (k:=k))
 have h2:=(oF (k:=k)).1
 omega
theorem ee {l:List UInt8} {f:Int} {rec:List UInt8} (h:dF l f=true) (hr:iY rec=true) (hl:l.length+(cP rec).length≤2400):dF (l++cP rec) f=true∧bG (l++cP rec)=((bG l).1++[rec],l.length+(cP rec).length)∧(l++cP rec).take f.toNat=l.take f.toNat:=by
 obtain⟨h1,h2,h3,h4⟩:=gV h
 have hs:bG (cP rec)=([rec],(cP rec).length):=by
  have:=oX (recs:=[rec]) (by simp[hr])
  simpa[dG] using this
 have ha:=xR _ (b:=cP rec) (aX8 _) h3
 rw[hs] at ha
 have ht: (l++cP rec).take f.toNat=l.take f.toNat:=List.take_append_of_le_length (by omega)
 refine⟨?_,ha,ht⟩
 simp only[dF,iQ,aX3,aD]
 refine⟨⟨⟨by rw[aXz];exact hl,by rw[aXz];omega⟩,by rw[ha,aXz]⟩,by rw[ht];exact h4⟩
theorem aE0 {recs:List (List UInt8)} (h:recs.all iY=true) (hl: (dG recs).length≤2400):dF (dG recs) (dG recs).length=true:=by
 have:=oX h
 simp only[dF,iQ,aX3,aD]
 exact⟨⟨⟨hl,by omega⟩,by rw[this]⟩,by rw[aXy,aYe,this]⟩
theorem tf {id:Int} {rs:List (List UInt8)} {r:List UInt8} {k x:bH} (h:eI id rs=(k,true)) (hd:cV k r=(x,true)):eI id (rs++[r])=(x,true):=by
 unfold eI at h ⊢
 split at h
 · rename_i hx
   rw[aC hx,mX h,sN hd]
 · cases h
theorem aP3 {k:aK} {rec:List UInt8} (hok:aW k=true) (h: (jI k rec).2=true): (cV (bS k) rec).2=true∧aW (jI k rec).1=true∧bS (jI k rec).1=(cV (bS k) rec).1∧(jI k rec).1.id=k.id∧(jI k rec).1.up=k.up∧(jI k rec).1.halves=k.halves∧
 ((k.log.length+(cP rec).length≤2400∧(jI k rec).1.log=k.log++cP rec∧(jI k rec).1.forced=k.forced)∨(jI k rec).1.log.length≤1664+(cP rec).length∧2400<k.log.length+(cP rec).length)∧iY rec=true:=by
 obtain⟨q1,q2,q3,q4,h2,h3,h4⟩:=fH.1 hok
 have h2':bA k=(bS k,true):=aEx hok
 unfold jI at h ⊢
 rw[h2'] at h ⊢
 simp only at h ⊢
 by_cases hd: (cV (bS k) rec).2=true
 · rw[aC hd] at h ⊢
   have hd2:cV (bS k) rec=((cV (bS k) rec).1,true):=Prod.ext rfl hd
   by_cases ha: (bC k.log k.forced rec).2=true
   · rw[aC ha]
     have hy:iY rec=true∧k.log.length+(cP rec).length≤2400:=Classical.byContradiction fun hn=>by rw[wM q2 hn] at ha;cases ha
     rw[rI q2 hy]
     obtain⟨s1,s2,s3⟩:=ee q2 hy.1 hy.2
     have hk:bA (jH k (k.log++cP rec,k.forced))=((cV (bS k) rec).1,true):=by
      unfold bA jH
      simp only
      rw[s2]
      exact tf h2' hd2
     have ho:aW (jH k (k.log++cP rec,k.forced))=true:=fH.2 ⟨q1,s1,q3,q4,by rw[hk],by unfold vO jH;simp only;rw[s3];exact h3,h4⟩
     exact⟨hd,ho,by rw[mY ho,hk],rfl,rfl,rfl,.inl ⟨hy.2,rfl,rfl⟩,hy.1⟩
   · rw[aB ha] at h ⊢
     have hpk: (eL (bS k)).all iY=true∧(dG (eL (bS k))).length≤2400:=⟨td,by have:=aAb (bS k);omega⟩
     rw[xH q2 hpk] at h ⊢
     simp only[if_true] at h ⊢
     by_cases hb: (bC (dG (eL (bS k))) ((dG (eL (bS k))).length:Int) rec).2=true
     · rw[aC hb]
       have sp:=aE0 hpk.1 hpk.2
       have hy:iY rec=true∧(dG (eL (bS k))).length+(cP rec).length≤2400:=Classical.byContradiction fun hn=>by rw[wM sp hn] at hb;cases hb
       rw[rI sp hy]
       obtain⟨s1,s2,s3⟩:=ee sp hy.1 hy.2
       have hback:eI k.id (bG (dG (eL (bS k)))).1=(bS k,true):=by
        rw[oX hpk.1,← aP0 hok];exact aPz (aP1 hok) (aV9 hok)
       have hk:bA (jH k (dG (eL (bS k))++cP rec,((dG (eL (bS k))).length:Int)))=((cV (bS k) rec).1,true):=by
        unfold bA jH
        simp only
        rw[s2]
        exact tf hback hd2
       have ho:aW (jH k (dG (eL (bS k))++cP rec,((dG (eL (bS k))).length:Int)))=true:=fH.2 ⟨q1,s1,q3,q4,by rw[hk],by unfold vO jH;simp only;rw[s3,aXy,aYe,hback],h4⟩
       refine⟨hd,ho,by rw[mY ho,hk],rfl,rfl,rfl,.inr ⟨?_,?_⟩,hy.1⟩
       · show(dG _++cP rec).length≤_
         rw[aXz];have:=aAb (bS k);omega
       · exact Classical.byContradiction fun hn=>ha (by rw[rI q2 ⟨hy.1,by omega⟩])
     · rw[aB hb] at h;cases h
 · rw[aB hd] at h;cases h
theorem ef {k:aK} {rec:List UInt8} (hok:aW k=true) (h: (dM k rec).2=true): (cV (bS k) rec).2=true∧aW (dM k rec).1=true∧bS (dM k rec).1=(cV (bS k) rec).1∧(dM k rec).1.id=k.id∧(dM k rec).1.up=k.up∧(dM k rec).1.halves=k.halves∧(dM k rec).1.forced=(dM k rec).1.log.length∧
 ((k.log.length+(cP rec).length≤2400∧(dM k rec).1.log=k.log++cP rec)∨(dM k rec).1.log.length≤1664+(cP rec).length∧2400<k.log.length+(cP rec).length)∧iY rec=true:=by
 have hl: (jI k rec).2=true:=by
  unfold dM at h
  split at h
  · assumption
  · cases h
 obtain⟨a1,a2,a3,a4,a5,a6,a7,a8⟩:=aP3 hok hl
 have hs:=(fH.1 a2).2.1
 rw[sv hl]
 have e:=qu hs
 refine⟨a1,qv a2,(jn a2).trans a3,?_,?_,?_,?_,?_,a8⟩
 · simp only;rw[e];exact a4
 · simp only;rw[e];exact a5
 · simp only;rw[e];exact a6
 · simp only;rw[e]
 · simp only;rw[e]
   rcases a7 with h|h
   · exact .inl ⟨h.1,h.2.1⟩
   · exact .inr h
def un (k:aK) (keep:Int):bH:=bS (fI (fO k keep))
theorem aP4 {k:aK} (hok:aW k=true) (h: (cF k).2=true):aW (cF k).1=true∧(un (cF k).1 0).time=(bS k).time+1:=by
 have hu:k.up=true:=Classical.byContradiction fun hn=>by
  unfold cF at h;rw[aC hok,aB hn] at h;cases h
 have e:cF k=dM k (lA ((bA k).1.time+1).toNat):=(aC hok).trans (aC hu)
 rw[e] at h ⊢
 obtain⟨a1,a2,a3,a4,a5,a6,a7,_⟩:=ef hok h
 refine⟨a2,?_⟩
 unfold un
 rw[tc a2 a7,a3]
 obtain⟨hk,h1,h2,h3⟩:=zo a1
 obtain⟨⟨_,ht,_⟩,_⟩:=jJ.1 hk
 rw[h2]
 rw[← mY hok] at h1 ⊢
 rw[iw _ (by omega)] at h1 ⊢
 have et: ((((bS k).time+1).toNat:Nat):Int)=(bS k).time+1:=by omega
 rw[et] at h1 ⊢
 unfold lE at h1 ⊢
 split
 · rfl
 · rename_i h4
   rw[aB h4,aB (by rw[show(jD==jL)=false by decide];simp)] at h1
   cases h1
theorem aHh {k:bH} {n:bI} (hf:n.frm=k.id) (hm:n.num=k.next) (h: (cV k (dC iE n)).2=true):
 (cV k (dC iE n)).1.next=k.next+1∧(n.to=k.id→n∈(cV k (dC iE n)).1.inbox)∧(n.to≠k.id→n∈(cV k (dC iE n)).1.held):=by
 obtain⟨hk,h1,h2,h3⟩:=zo h
 obtain⟨⟨_,_,hn,_⟩,_⟩:=jJ.1 hk
 rw[h2]
 have hr:=jk (k:=k) (w:=iE) (n:=n) (by decide) rfl rfl
 rw[hr] at h1 ⊢
 split at h1
 · rename_i hok
   rw[aC hok]
   have e:fT k iE n=fL {k with next:=wrap64 (k.next+1)} n:=by
    unfold fT
    rw[aC (by rw[hf,hm];simp)]
   rw[e] at h1 ⊢
   obtain⟨_,q2⟩:=jm h1
   have hx: (fL {k with next:=wrap64 (k.next+1)} n).1.next=k.next+1:=by rw[(aNh _ _).2];exact aF (by omega)
   obtain⟨e1,e2⟩:=aJu h1
   exact⟨hx,fun ht=>(e1 ht).1,fun ht=>(e2 ht).2.1⟩
 · cases h1
theorem aP5 {k:aK} {tu til:Int} {tx:List UInt8} (hok:aW k=true) (h: (aU k tu til tx).2≠0):k.up=true∧(dM k (dC iE (hG k tu til tx))).2=true∧aU k tu til tx=((dM k (dC iE (hG k tu til tx))).1,(bA k).1.next):=by
 unfold aU at h ⊢
 rw[aC hok] at h ⊢
 split at h
 · rename_i hu
   rw[aC hu]
   split at h
   · rename_i hl
     rw[aC hl]
     exact⟨hu,hl,rfl⟩
   · exact absurd rfl h
 · exact absurd rfl h
theorem aSq {k:aK} {tu til:Int} {tx:List UInt8} (hok:aW k=true) (h: (aU k tu til tx).2≠0):aW (aU k tu til tx).1=true∧(aU k tu til tx).2=(bS k).next∧(∀m,un (aU k tu til tx).1 m=bS (aU k tu til tx).1)∧(bS (aU k tu til tx).1).next=(bS k).next+1∧
 (tu=k.id→hG k tu til tx∈(bS (aU k tu til tx).1).inbox)∧(tu≠k.id→hG k tu til tx∈(bS (aU k tu til tx).1).held):=by
 obtain⟨hu,hl,e⟩:=aP5 hok h
 rw[e]
 obtain⟨a1,a2,a3,a4,a5,a6,a7,_⟩:=ef hok hl
 have hid:=aP0 hok
 obtain⟨b1,b2,b3⟩:=aHh (k:=bS k) (n:=hG k tu til tx) hid.symm (by rw[mY hok];rfl) a1
 refine⟨a2,by rw[mY hok],fun m=>tc a2 a7 m,?_,?_,?_⟩
 · simp only;rw[a3];exact b1
 · intro ht;simp only;rw[a3];exact b2 (by rw[hid];exact ht)
 · intro ht;simp only;rw[a3];exact b3 (by rw[hid];exact ht)
theorem aSr {k:aK} {tu til:Int} {tx:List UInt8} (hok:aW k=true) (h: (aU k tu til tx).2=0): (aU k tu til tx).1=k:=by
 have hn:1≤(bA k).1.next:=by
  obtain⟨⟨_,_,h3,_⟩,_⟩:=jJ.1 (gF hok)
  omega
 unfold aU at h ⊢
 rw[aC hok] at h ⊢
 split
 · rename_i hu
   rw[aC hu] at h
   split
   · rename_i hl
     rw[aC hl] at h
     simp only at h;omega
   · rfl
 · rfl
theorem aHi {rec:List UInt8} (h:iY rec=true) {j:Nat} (hj:j< (cP rec).length):bG ((cP rec).take j)=([],0):=by
 cases hr:gX ((cP rec).take j) with
 |none=>exact eD hr
 |some p=>
  obtain⟨r,c⟩:=p
  exfalso
  have hs:=mQ hr
  have h1:=hs.2.1
  rw[aX4] at h1
  have h2:gX (cP rec)=some (r,c):=fk hr (by rw[List.take_take,Nat.min_eq_left (by omega)]) (by omega)
  have h3:=zx (t:=[]) h
  rw[List.append_nil,h2] at h3
  simp only[Option.some.injEq,Prod.mk.injEq] at h3
  omega
theorem aSs {k:aK} {tu til:Int} {tx:List UInt8} (hok:aW k=true) (h: (aU k tu til tx).2≠0) (hl:k.log.length≤(aU k tu til tx).1.log.length): (aU k tu til tx).1.log=k.log++cP (dC iE (hG k tu til tx))∧k.log.length+(cP (dC iE (hG k tu til tx))).length≤2400∧
 (∀n,k.log.length≤n→n< (aU k tu til tx).1.log.length→bG ((aU k tu til tx).1.log.take n)=((bG k.log).1,k.log.length))∧
 eI k.id (bG k.log).1=(bS k,true)∧eI k.id (bG (aU k tu til tx).1.log).1=(bS (aU k tu til tx).1,true)∧(bG (aU k tu til tx).1.log).2=(aU k tu til tx).1.log.length∧
 aW ⟨k.id,true,k.log,k.forced,[]⟩=true∧aW ⟨k.id,true,(aU k tu til tx).1.log,k.forced,[]⟩=true:=by
 obtain⟨hu,hg,e⟩:=aP5 hok h
 rw[e] at hl ⊢
 simp only at hl ⊢
 obtain⟨a1,a2,a3,a4,a5,a6,a7,a8,a9⟩:=ef hok hg
 obtain⟨q1,q2,q3,q4,h2,h3,h4⟩:=fH.1 hok
 have hsl:=sn a9
 rcases a8 with⟨b1,b2⟩|⟨b1,b2⟩
 · obtain⟨s1,s2,s3⟩:=ee q2 a9 b1
   obtain⟨t1,t2,t3,t4⟩:=gV q2
   have hx:=aEx a2
   have hx2:eI k.id (bG (dM k (dC iE (hG k tu til tx))).1.log).1=(bS (dM k (dC iE (hG k tu til tx))).1,true):=by
    have:=hx
    unfold bA at this
    rw[a4] at this;exact this
   refine⟨b2,b1,fun n h5 h6=> ?_,aEx hok,hx2,?_,?_,?_⟩
   · rw[b2] at h6 ⊢
     rw[aXz] at h6
     rw[List.take_append,List.take_of_length_le h5,xR _ (aX8 _) t3,aHi a9 (by omega)];simp
   · rw[b2,s2,aXz]
   · exact fH.2 ⟨q1,q2,by simp,.inl rfl,h2,h3,rfl⟩
   · refine fH.2 ⟨q1,by simp only;rw[b2];exact s1,by simp,.inl rfl,?_,?_,rfl⟩
     · unfold bA;simp only;rw[hx2]
     · unfold vO;simp only;rw[b2,s3];exact h3
 · exfalso;omega
def KQ (k:aK):Prop:=k.log.length≤20000∧k.halves.length≤100∧ ∀x∈k.halves,x.got.length≤100
theorem jp.kq {k:aK} (h:jp k):KQ k:=⟨by have:=h.1;omega,by have:=h.2.1;omega,fun x hx=>by have:=h.2.2 x hx;omega⟩
theorem KQ.log {k:aK} (h:KQ k):k.log.length≤140737488355328:=by have:=h.1;omega
theorem KQ.idd {k:aK} (h:KQ k) (i:Int):KQ {k with id:=i}:=h
theorem KQ.upp {k:aK} (h:KQ k) (b:Bool):KQ {k with up:=b}:=h
theorem KQ.frc {k:aK} (h:KQ k) (f:Int):KQ {k with forced:=f}:=h
theorem KQ.shelf {k:aK} (h:KQ k) {l:List UInt8} (hl:l.length≤20000) (f:Int):KQ {k with log:=l,forced:=f}:=⟨hl,h.2⟩
theorem KQ.lgg {k:aK} (h:KQ k) {l:List UInt8} (hl:l.length≤20000):KQ {k with log:=l}:=⟨hl,h.2⟩
theorem KQ.half {k:aK} (h:jp k) {x:dW} (hx:x.got.length≤100):KQ {k with halves:=k.halves++[x]}:=
 ⟨by have:=h.1;show k.log.length≤_;omega,by have:=h.2.1;show(k.halves++[x]).length≤_;simp;omega,fun y hy=>by
  rcases List.mem_append.1 hy with hy|hy
  · have:=h.2.2 y hy;omega
  · rw[List.mem_singleton.1 hy];exact hx⟩
theorem KQ.zero:KQ .zero:=⟨by show(0:Nat)≤_;omega,by show(0:Nat)≤_;omega,fun _ hx=>nomatch hx⟩
theorem pT (l:List UInt8) (f:Int): (cY l f).1.length≤l.length:=by
 unfold cY
 split
 · exact aX8 _
 · exact aX5 _
theorem oK {l:List UInt8} {f:Int} {rec:List UInt8} (h:l.length≤2400): (bC l f rec).1.1.length≤2400:=by
 unfold bC
 split
 · split
   · rename_i hc
     simp only[aX3,aD] at hc
     show(l++cP rec).length≤_
     rw[aXz];omega
   · exact h
 · show(0:Nat)≤_;omega
theorem tg {l:List UInt8} {f:Int} {rec:List UInt8} (h:l.length≤20000): (bC l f rec).1.1.length≤20000:=by
 unfold bC
 split
 · split
   · rename_i hc
     simp only[aX3,aD] at hc
     show(l++cP rec).length≤_
     rw[aXz];omega
   · exact h
 · show(0:Nat)≤_;omega
structure yQ (x k:aK):Prop where
 ok:aW x=true
 time: (bS x).time=(bS k).time
 next: (bS x).next=(bS k).next
theorem yQ.refl {k:aK} (h:aW k=true):yQ k k:=⟨h,rfl,rfl⟩
theorem yQ.trans {a b c:aK} (h:yQ a b) (g:yQ b c):yQ a c:=⟨h.ok,h.time.trans g.time,h.next.trans g.next⟩
theorem yQ.halves {k:aK} {l:List dW} (hok:aW k=true) (hu:k.up=true) (hl:l.length≤3) (h:HOk l):yQ (eE k l) k:=by
 have h2:=mr hok hu hl h
 have e:bS (eE k l)=bS k:=by rw[mY h2,mY hok];rfl
 exact⟨h2,by rw[e],by rw[e]⟩
theorem yQ.forced {k:aK} (hok:aW k=true):yQ (jR k) k:=⟨qv hok,by rw[jn hok],by rw[jn hok]⟩
theorem aWa {f:cI} {a:Int} (hf:eQ f=true) (hk:f.kind=1) (ha:a=2∨a=3):eQ (bw a f)=true∧(bw a f).src=f.dst∧(bw a f).dst=f.src:=by
 refine⟨?_,rfl,rfl⟩
 unfold eQ at hf ⊢
 rw[aC hk] at hf
 simp only[aX3,aD] at hf
 obtain⟨⟨⟨⟨⟨⟨h1,h2⟩,h3⟩,h4⟩,h5⟩,h6⟩,⟨⟨h7,h8⟩,h9⟩,h10⟩:=hf
 have e1: ¬(bw a f).kind=1:=by show ¬a=1;omega
 have e2: (bw a f).kind=2∨(bw a f).kind=3:=ha
 rw[aB e1,aC e2]
 simp only[aX3,aD]
 exact⟨⟨⟨⟨⟨⟨h2,h1⟩,h3⟩,h4⟩,h5⟩,h6⟩,⟨⟨rfl,rfl⟩,rfl⟩,h10⟩
def aK5 (k:aK) (f:cI) (r:aK×List cI):Prop:=
 yQ r.1 k∧(∀g∈r.2,eQ g=true∧g.src=k.id∧g.dst=f.src)∧r.2.length≤1
theorem aK5.nil {k x:aK} {f:cI} (h:yQ x k):aK5 k f (x,[]):=⟨h,fun _ hg=>(nomatch hg),aX5 _⟩
theorem aK5.one {k x:aK} {f:cI} {a:Int} (h:yQ x k) (hf:eQ f=true) (hk:f.kind=1) (hd:f.dst=k.id) (ha:a=2∨a=3):aK5 k f (x,[bw a f]):=
 ⟨h,fun g hg=>by rw[List.mem_singleton.1 hg];obtain⟨q1,q2,q3⟩:=aWa hf hk ha;exact⟨q1,q2.trans hd,q3⟩,aX8 _⟩
theorem aHj {k:aK} {keep:Int} (h:k.log.length≤140737488355328): (fO k keep).log.length≤140737488355328:=by
 unfold fO
 split
 · show(fY k.log k.forced keep).1.length≤_
   unfold fY
   split
   · show(k.log.take _).length≤_
     rw[aX4];omega
   · exact aX5 _
 · exact aX5 _
theorem aP6 {k:aK} (h:k.log.length≤140737488355328): (fI k).log.length≤140737488355328:=by
 unfold fI
 split
 · exact h
 · exact aX5 _
end Go.Ab
namespace Go.Proofs.YtmabaopgkimfmaaGreatDoor
open Int renaming toNat_natCast→aXy
open List renaming length_append→aXz,length_cons→aX1,length_nil→aX2,length_take→aX4,getD_eq_getElem?_getD→aX6,length_drop→aX7,getElem?_eq_getElem→aX9,getElem?_eq_some_iff→aYa,range→aYb,mem_map→aYc,all_eq_true→aYd,take_length→aYe
open Nat renaming le_of_ble_eq_true→aX0,zero_le→aX5,le_refl→aX8
open Bool renaming and_eq_true→aX3
open Go Go.Ab Go.RowKit
set_option linter.unusedVariables false
set_option linter.unusedSimpArgs false
set_option maxRecDepth 9000
theorem eg {B:Nat} {ds:List D} (h:vS tab B 8 68 ds): ∃l:List UInt8,ds=[.sl (aE l)]∧l.length≤B:=by
 obtain⟨rows,rfl,h1,h2⟩:=h
 have h3: ∀r∈rows,r=[.u (Ab.byteOf r).toNat]:=fun r hr=>by
  obtain⟨n,rfl,hn⟩:=h2 r hr
  simp[Lit.wf,IntKind.min,IntKind.max,IntKind.signed,IntKind.bits] at hn
  simp[Ab.byteOf]
  omega
 refine⟨jV rows,?_,?_⟩
 · congr 2
   unfold jV aE
   rw[List.map_map]
   conv=>lhs;rw[← List.map_id rows]
   exact List.map_congr_left fun r hr=>h3 r hr
 have h1:rows.length*1≤B:=h1
 simpa[jV] using h1
theorem ud (l:List dW) (hl:l.length≤100000∧ ∀x∈l,x.got.length≤100000):Sp 107 2 [tD 0 (.sl (aZ l)),tD 1 (.sl (aZ l))] [tB 0 true]:=by
 refine sb Tryz.func107 rfl (sq (rT [0,1] (s1 (sq (sq (rT [0,1,11] (s5 (cd rfl (fun c11=> ?_) fun c11=> ?_))))))))
 · simp at c11
 refine sk (sq (sq (rT [0,1,5] (s1 (bk (SW.loopW (n:=l.length) (fun n s=> ∃i:Nat,n=l.length - i∧i≤l.length∧s=[tD 0 (.sl (aZ l)),tD 1 (.sl (aZ l)),tI 5 (i:Nat)]) ?_ ?_))))))
 · exact wq (σ':=[tD 0 (.sl (aZ l)),tD 1 (.sl (aZ l)),tI 5 (0:Nat)]) [] [] (⟨0,rfl,aX5 _,rfl⟩) qz
 rintro n s ⟨i,rfl,hi,rfl⟩
 refine sq (sq (rT [0,1,5,15] (s4 (cd rfl (fun c15=> ?_) fun c15=> ?_))))
 · have hi2:i<l.length:=by simpa[aJ] using c15
   have hg:=gJ (l:=l) hi2
   have hmem:l.getD i .zero∈l:=dQ hi2
   have hgl:=hl.2 _ hmem
   have hsl: (aRt ((List.drop 5 ((aZ l).getD (Int.toNat (i:Int)) [])).getD 0 (.i 0)))=cN (l.getD i .zero).got:=by rw[aXy,hg];rfl
   refine sk (sq (bk (sq (sq (rD [0,1,5,95] (s2 (ai (by rw[aXy,hg];exact⟨⟨by omega,by rw[aJ];omega⟩,rfl⟩) (s1 (ai (by rw[aXy,hg];exact⟨aX0 rfl,rfl⟩) (s2 (ai (by rw[aXy,hg];exact⟨⟨by omega,by rw[aJ];omega⟩,rfl⟩) (s1 (ai (by rw[aXy,hg];exact⟨aX0 rfl,rfl⟩) (s2 (y2 (ai (fun h=>(by rw[aXy,hg];exact⟨⟨by omega,by rw[aJ];omega⟩,rfl⟩)) (ai rk (y1 (ai (fun h=>(by rw[aXy,hg];exact⟨aX0 rfl,rfl⟩)) (ai rk (y2 (ai (fun h=>(by rw[aXy,hg];exact⟨⟨by omega,by rw[aJ];omega⟩,rfl⟩)) (ai rk (y1 (ai (fun h=>(by rw[aXy,hg];exact⟨aX0 rfl,rfl⟩)) (ai rk (y1 (ai pk (s1 (y2 (ai (fun h=>(by rw[aXy,hg];exact⟨⟨by omega,by rw[aJ];omega⟩,rfl⟩)) (ai rk (y1 (ai (fun h=>(by rw[aXy,hg];exact⟨aX0 rfl,rfl⟩)) (ai rk (y2 (ai (fun h=>(by rw[aXy,hg];exact⟨⟨by omega,by rw[aJ];omega⟩,rfl⟩)) (ai rk (y1 (ai (fun h=>(by rw[aXy,hg];exact⟨aX0 rfl,rfl⟩)) (ai rk (y1 (ai pk (s1 (y2 (ai (fun h=>(by rw[aXy,hg];exact⟨⟨by omega,by rw[aJ];omega⟩,rfl⟩)) (ai rk (y1 (ai (fun h=>(by rw[aXy,hg];exact⟨aX0 rfl,rfl⟩)) (ai rk (y2 (ai (fun h=>(by rw[aXy,hg];exact⟨⟨by omega,by rw[aJ];omega⟩,rfl⟩)) (ai rk (y1 (ai (fun h=>(by rw[aXy,hg];exact⟨aX0 rfl,rfl⟩)) (ai rk (y1 (ai pk (s1 (y2 (ai (fun h=>(by rw[aXy,hg];exact⟨⟨by omega,by rw[aJ];omega⟩,rfl⟩)) (ai rk (y1 (ai (fun h=>(by rw[aXy,hg];exact⟨aX0 rfl,rfl⟩)) (ai rk (y2 (ai (fun h=>(by rw[aXy,hg];exact⟨⟨by omega,by rw[aJ];omega⟩,rfl⟩)) (ai rk (y1 (ai (fun h=>(by rw[aXy,hg];exact⟨aX0 rfl,rfl⟩)) (ai rk (y1 (ai pk (s1 (y2 (ai (fun h=>(by rw[aXy,hg];exact⟨⟨by omega,by rw[aJ];omega⟩,rfl⟩)) (ai rk (y1 (ai (fun h=>(by rw[aXy,hg];exact⟨aX0 rfl,rfl⟩)) (ai rk (y3 (ai (fun h=>(by rw[aXy,hg];exact⟨⟨by omega,by rw[aJ];omega⟩,rfl⟩)) (ai rk (y1 (ai (fun h=>(by rw[aXy,hg];exact⟨aX0 rfl,rfl⟩)) (ai rk (y2 (ai pk (ai (by kernel_rfl) (cd rfl (fun c95=> ?_) fun c95=> ?_))))))))))))))))))))))))))))))))))))))))))))))))))))))))))))))))))))))))))))))))))))))))))
   · exact absurd c95 (by simp[gb])
   refine sk (sq (rT [0,1,5,6] (s1 (bk (SW.loopW (n:=(l.getD i .zero).got.length) (fun n s=> ∃k:Nat,n=(l.getD i .zero).got.length - k∧k≤(l.getD i .zero).got.length∧s=[tD 0 (.sl (aZ l)),tD 1 (.sl (aZ l)),tI 5 (i:Nat),tI 6 (k:Nat)]) ?_ ?_)))))
   · exact wq (σ':=[tD 0 (.sl (aZ l)),tD 1 (.sl (aZ l)),tI 5 (i:Nat),tI 6 (0:Nat)]) [] [] (⟨0,rfl,aX5 _,rfl⟩) qz
   rintro n s ⟨k,rfl,hk,rfl⟩
   refine sq (sq (rT [0,1,5,6,103] (s3 (ai (by rw[aXy,hg];exact⟨⟨by omega,by rw[aJ];omega⟩,rfl⟩) (s1 (ai (by rw[aXy,hg];exact⟨aX0 rfl,rfl⟩) (s2 (cd rfl (fun c103=> ?_) fun c103=> ?_))))))))
   · have hk2:k< (l.getD i .zero).got.length:=by rw[hsl,bL] at c103;simpa using c103
     have hg2:=mS (l:=(l.getD i .zero).got) hk2
     refine sk (sq (bk (sq (rD [0,1,5,6,122] (s2 (ai (by rw[aXy,hg];exact⟨⟨by omega,by rw[aJ];omega⟩,rfl⟩) (s1 (ai (by rw[aXy,hg];exact⟨aX0 rfl,rfl⟩) (s1 (ai (by rw[hsl,aXy,hg2];exact⟨⟨by omega,by rw[bL];omega⟩,rfl⟩) (ai (by rw[hsl,aXy,hg2];exact⟨aX0 rfl,rfl⟩) (s2 (ai (by rw[aXy,hg];exact⟨⟨by omega,by rw[aJ];omega⟩,rfl⟩) (s1 (ai (by rw[aXy,hg];exact⟨aX0 rfl,rfl⟩) (s1 (ai (by rw[hsl,aXy,hg2];exact⟨⟨by omega,by rw[bL];omega⟩,rfl⟩) (ai (by rw[hsl,aXy,hg2];exact⟨aX0 rfl,rfl⟩) (aIt cK (kY aQj.zero ((aRt ((List.drop 5 ((aZ l).getD (Int.toNat (i:Int)) [])).getD 0 (.i 0))).getD (Int.toNat (k:Int)) []) 0) (kY aQj.zero ((aRt ((List.drop 5 ((aZ l).getD (Int.toNat (i:Int)) [])).getD 0 (.i 0))).getD (Int.toNat (k:Int)) []) 0) rfl rfl rfl (by kernel_rfl) (by kernel_rfl) (by kernel_rfl) (by kernel_rfl) rfl rfl ?_)))))))))))))))))))
     refine ai (by kernel_rfl) (cd rfl (fun c122=> ?_) fun c122=> ?_)
     · exact absurd c122 (by simp[co,eqD,kY,aDk])
     refine sk (rT [0,1,5,6] (s3 (wq [] [] (⟨(l.getD i .zero).got.length - (k+1),by omega,k+1,rfl,by omega,rfl⟩) ?_)))
     repeat' apply ai
     all_goals first|exact qx|exact aA D.i (aF (by omega))|rfl|exact qz
   refine xt (rT [0,1,5] (s3 (wq [] [] (⟨l.length - (i+1),by omega,i+1,rfl,by omega,rfl⟩) ?_)))
   repeat' apply ai
   all_goals first|exact qx|exact aA D.i (aF (by omega))|rfl|exact qz
 refine xt (sq (rT [4] (s1 (rt (bQ rfl ?_)))))
 rfl
theorem pU (k:aK) (hk:k.halves.length≤100000∧ ∀x∈k.halves,x.got.length≤100000):Sp 48 2 [tV 0 k.V,tV 1 k.V] [tB 0 true]:=by
 refine sb Tryz.func48 rfl (sq (rT [2,3] (s3 (sq (rT [4] (s6 (y4 (y1 (ai pk (s1 (y4 (aR1 cK [.s k.log,.i k.forced] [.s k.log,.i k.forced] rfl rfl rfl (by kernel_rfl) (by kernel_rfl) (by kernel_rfl) (by kernel_rfl) rfl rfl rk (ai pk (s1 (y4 (xc (fun h=>ud k.halves hk) (ai rfl (ai rk ?_))))))))))))))))))
 refine ai pk (s1 (rt (bQ rfl (aA D.b ?_))))
 simp[co,eqD]
theorem aBf (k:aK) (hl:k.log.length≤140737488355328):Sp 53 1 [tV 0 k.V] [tV 0 ((un k 0).V)]:=by
 refine sb Tryz.func53 rfl (sq (rT [1,2] (s2 (sq (rT [2] (s1 (xp (ni k 0 hl) (ai rfl ?_))))))))
 refine xp (nk (fO k 0) (aHj hl)) (ai rfl ?_)
 refine xp (gK (fI (fO k 0)) (aP6 (aHj hl))) (ai rfl ?_)
 exact s1 (rt (rq [] [] rfl qz))
theorem aUg (l:List UInt8) (p:Int) (rs:List (List UInt8)) (hr:1≤rs.length) (hp:0≤p∧p≤1000000) (hl:l.length≤2000):Sp 168 2 [tP 0 0,tO 1 5 rs.length,oB 0 177 [.d (.sl (aE l)),.d (.i (p))],oR 5 9 1 (bF (rs))] [tD 0 (.s (rs.getD (bT l p (rs.length:Int)).toNat [])),oB 0 177 [.d (.sl (aE l)),.d (.i (p+1))],oR 5 9 1 (bF (rs))]:=by
 have hv:=cG l (p:=p) (n:=(rs.length:Int)) hp (by omega)
 refine sb Tryz.func168 rfl (sq (rT [0,1] (s1 (sq (rT [4] (s3 (ai (by exact aP _) (bP (robj:=[(0,.box 177 [.d (.sl (aE (l))),.d (.i (p))])]) (rl:=[(0,0)]) (bor:=[]) (cR (l) (p) _ (by omega) hl) rfl rfl rfl rfl ⟨bY rfl rfl rfl rfl (cQ rfl rfl (bB rfl (aG rfl (aG rfl aN)) trivial)),rfl⟩ rfl (.inl rfl) (aM ⟨rfl,trivial⟩) (fun _ hj=>nomatch hj) (ai (by exact⟨aP _,hv.1,hv.2⟩) (ai (oldS (by omega) rfl) (s1 (rt (rq [] [] rfl ?_)))))))))))))
 repeat' apply ai
 all_goals try exact qx
 all_goals first|with_reducible rfl|(rw[fZ (by omega)];rfl)|rfl
theorem aAc (l:List UInt8) (p:Int) (tx:List UInt8) (hp:0≤p∧p≤790000) (hl:l.length≤2000) (htx:tx.length≤10000):tn 202 2 [tP 0 0,tD 1 (.s tx),oB 0 177 [.d (.sl (aE l)),.d (.i (p))]] (fun s=> ∃(x:List UInt8) (q:Int),(p≤q∧q≤p+10∧x.length≤2*tx.length+1)∧s=[tD 0 (.s x),oB 0 177 [.d (.sl (aE l)),.d (.i (q))]]):=by
 have hall1: ∀y∈([[32],[48],[45],[49],[120],[58],[59]]:List (List UInt8)),y.length≤1:=by decide
 have hall2: ∀y∈([[57],[45],[59],[32],[10]]:List (List UInt8)),y.length≤1:=by decide
 refine ul Tryz.func202 rfl (sq (rT [0,1] (s1 (sq (SW.midW (fun s=> ∃(cb:Bool) (q2:Int),(p≤q2∧q2≤p+1∧(cb=false→1≤tx.length))∧s=[tP 0 0,tD 1 (.s tx),tB 13 cb,oB 0 177 [.d (.sl (aE l)),.d (.i (q2))]]) ?_ ?_)))))
 · refine rF [0,1,13] (s1 (s1 (s1 (s1 (ai (fun h1=> ?_) (fun h1=> ?_))))))
   · refine s1 (ai (fun _=> ?_) (fun h=>absurd h (by rw[h1];simp)))
     refine iO (bP (robj:=[(0,.box 177 [.d (.sl (aE (l))),.d (.i (p))])]) (rl:=[(0,0)]) (bor:=[]) (cR (l) (p) _ (by omega) hl) rfl rfl rfl rfl ⟨bY rfl rfl rfl rfl (cQ rfl rfl (bB rfl (aG rfl (aG rfl aN)) trivial)),rfl⟩ rfl (.inl rfl) (aM ⟨rfl,trivial⟩) (fun _ hj=>nomatch hj) (ai (fun _=> ?_) (fun h=>absurd h (by rw[h1];simp))))
     refine s1 (ai pk (wq [] [] ⟨?c1,p+1,⟨by omega,by omega,?e1⟩,rfl⟩ ?_))
     repeat' apply ai
     all_goals try exact qx
     all_goals try rfl
     all_goals(intro _;have h2: ¬tx=[]:=(by simpa[gb] using h1);have:=List.length_pos_iff.2 h2;omega)
   refine⟨I 0,?_⟩
   refine ai (fun h=>absurd h (by rw[h1];simp)) (fun _=>⟨I 0,?_⟩)
   refine ai (fun h=>absurd h (by rw[h1];simp)) (fun _=>⟨B false,?_⟩)
   refine ai (by constructor<;>intro h<;>first|trivial|(simp[gb,h] at h1;done)) (wq [] [] ⟨?d1,p,⟨by omega,by omega,?f1⟩,rfl⟩ ?_)
   repeat' apply ai
   all_goals try exact qx
   all_goals try rfl
   all_goals(intro h;have h2:tx=[]:=(by simpa[gb] using h1);simp[h2] at h)
 rintro s ⟨cb,q2,hq2,rfl⟩
 refine cd rfl (fun c13=> ?_) fun c13=> ?_
 · refine sq (rT [4] (s2 (rt (cX _ ⟨?za2,q2,⟨by omega,by omega,?zn2⟩,rfl⟩ (eF _ [] [] rfl ?_ rfl rfl)))))
   all_goals try(refine qs ?_;(repeat' first|exact qx|apply ai))
   try any_goals with_reducible rfl
   try any_goals rfl
   all_goals((try simp only[aXz,aX4,aX7]);omega)
 have htl:=hq2.2.2 c13
 refine sk (sq ?_)
 obtain⟨i,hi,hil⟩: ∃i:Nat,bT l q2 (tx.length:Int)=(i:Int)∧i<tx.length:=by have:=cG l (p:=q2) (n:=(tx.length:Int)) (by omega) (by omega);exact⟨(bT l q2 (tx.length:Int)).toNat,by omega,by omega⟩
 refine rT [0,1,5] (s3 (bP (robj:=[(0,.box 177 [.d (.sl (aE (l))),.d (.i (q2))])]) (rl:=[(0,0)]) (bor:=[]) (cR (l) (q2) _ (by omega) hl) rfl rfl rfl rfl ⟨bY rfl rfl rfl rfl (cQ rfl rfl (bB rfl (aG rfl (aG rfl aN)) trivial)),rfl⟩ rfl (.inl rfl) (aM ⟨rfl,trivial⟩) (fun _ hj=>nomatch hj) (s1 (sq (sq (wa [tP 0 0,tD 1 (.s tx),tI 5 (i:Nat),oB 0 177 [.d (.sl (aE l)),.d (.i (q2+1))]] [] [] ?_ ?_))))))
 · repeat' apply ai
   all_goals first|exact qx|exact aA D.i hi|rfl|exact qz
 have hwi:wrap64 ((i:Int)+1)=(i:Int)+1:=aF (by omega)
 refine rT [0,1,5,20] (s1 (bP (robj:=[(0,.box 177 [.d (.sl (aE (l))),.d (.i (q2+1))])]) (rl:=[(0,0)]) (bor:=[]) (cR (l) (q2+1) _ (by omega) hl) rfl rfl rfl rfl ⟨bY rfl rfl rfl rfl (cQ rfl rfl (bB rfl (aG rfl (aG rfl aN)) trivial)),rfl⟩ rfl (.inl rfl) (aM ⟨rfl,trivial⟩) (fun _ hj=>nomatch hj) (bk (sq (rT [0,1,5,20,21] (ai (by first|trivial|(show _≤9223372036854775807;(try simp only[aXz,aX1,aX2,aX4,aX7]);omega)) (s1 (cd rfl (fun c21=> ?_) fun c21=> ?_))))))))
 · refine sq (rD [4] (s2 (ai (by(try rw[hwi]);simp[jy,eZ,gB] at *; omega) (s2 (ai (by first|trivial|(show _≤9223372036854775807;(try simp only[aXz,aX1,aX2,aX4,aX7]);omega)) (ai (by(try rw[hwi]);simp[jy,eZ,gB] at *; omega) (ai (by first|trivial|(show _≤9223372036854775807;(try simp only[aXz,aX1,aX2,aX4,aX7]);omega)) (s1 (ai (by kernel_rfl) (rt (cX _ ⟨?za3,q2+1+1,⟨by omega,by omega,?zn3⟩,rfl⟩ (eF _ [] [] rfl ?_ rfl rfl))))))))))))
   all_goals try(refine qs ?_;(repeat' first|exact qx|apply ai))
   try any_goals with_reducible rfl
   try any_goals rfl
   all_goals((try simp only[aXz,aX4,aX7]);omega)
 refine sq (rT [0,1,5,20,31] (ai (by first|trivial|(show _≤9223372036854775807;(try simp only[aXz,aX1,aX2,aX4,aX7]);omega)) (s1 (cd rfl (fun c31=> ?_) fun c31=> ?_))))
 · refine sq ?_
   have ho:=hall1 (([[32],[48],[45],[49],[120],[58],[59]]:List (List UInt8)).getD (bT l (q2+1+1) (([[32],[48],[45],[49],[120],[58],[59]]:List (List UInt8)).length:Int)).toNat []) (dQ (by have:=cG l (p:=q2+1+1) (n:=7) (by omega) (by omega);simp;omega))
   have ho2:=ho
   simp only[aX1,aX2] at ho2
   refine rD [4] (s2 (ai (by(try rw[hwi]);simp[jy,eZ,gB] at *; omega) (s1 (ai (by exact⟨by simp,by decide⟩) (bP (robj:=[(0,.box 177 [.d (.sl (aE l)),.d (.i (q2+1+1))]),(37,.row 9 1 (bF ([[32],[48],[45],[49],[120],[58],[59]]:List (List UInt8))))]) (rl:=[(0,0),(5,37)]) (bor:=[]) (aUg l (q2+1+1) ([[32],[48],[45],[49],[120],[58],[59]]:List (List UInt8)) (by simp) (by omega) hl) rfl rfl rfl rfl ⟨bY rfl rfl rfl rfl (jF rfl rfl rfl rfl (bB rfl (aG rfl (aG rfl aN)) (bZ rfl rfl trivial))),rfl⟩ rfl (.inl rfl) (aM ⟨rfl,rfl,trivial⟩) (fun j hj=>nomatch hj) (ai (by first|trivial|(show _≤9223372036854775807;(try simp only[aXz,aX1,aX2,aX4,aX7]);omega)) (s2 (ai (by(try rw[hwi]);simp[jy,eZ,gB] at *; omega) (ai (by first|trivial|(show _≤9223372036854775807;(try simp only[aXz,aX1,aX2,aX4,aX7]);omega)) (s1 (ai (by kernel_rfl) (rt (cX _ ⟨?za4,q2+1+1+1,⟨by omega,by omega,?zn4⟩,rfl⟩ (eF _ [] [] rfl ?_ rfl rfl))))))))))))))
   all_goals try(refine qs ?_;(repeat' first|exact qx|apply ai))
   try any_goals with_reducible rfl
   try any_goals rfl
   all_goals((try simp only[aXz,aX4,aX7]);omega)
 refine sq (rT [0,1,5,20,44] (ai (by first|trivial|(show _≤9223372036854775807;(try simp only[aXz,aX1,aX2,aX4,aX7]);omega)) (s1 (cd rfl (fun c44=> ?_) fun c44=> ?_))))
 · refine sq ?_
   have ho:=hall2 (([[57],[45],[59],[32],[10]]:List (List UInt8)).getD (bT l (q2+1+1) (([[57],[45],[59],[32],[10]]:List (List UInt8)).length:Int)).toNat []) (dQ (by have:=cG l (p:=q2+1+1) (n:=5) (by omega) (by omega);simp;omega))
   have ho2:=ho
   simp only[aX1,aX2] at ho2
   refine rD [4] (s2 (ai (by(try rw[hwi]);simp[jy,eZ,gB] at *; omega) (s1 (ai (by exact⟨by simp,by decide⟩) (bP (robj:=[(0,.box 177 [.d (.sl (aE l)),.d (.i (q2+1+1))]),(50,.row 9 1 (bF ([[57],[45],[59],[32],[10]]:List (List UInt8))))]) (rl:=[(0,0),(5,50)]) (bor:=[]) (aUg l (q2+1+1) ([[57],[45],[59],[32],[10]]:List (List UInt8)) (by simp) (by omega) hl) rfl rfl rfl rfl ⟨bY rfl rfl rfl rfl (jF rfl rfl rfl rfl (bB rfl (aG rfl (aG rfl aN)) (bZ rfl rfl trivial))),rfl⟩ rfl (.inl rfl) (aM ⟨rfl,rfl,trivial⟩) (fun j hj=>nomatch hj) (ai (by first|trivial|(show _≤9223372036854775807;(try simp only[aXz,aX1,aX2,aX4,aX7]);omega)) (s2 (ai (by first|trivial|(show _≤9223372036854775807;(try simp only[aXz,aX1,aX2,aX4,aX7]);omega)) (ai (by(try rw[hwi]);simp[jy,eZ,gB] at *; omega) (ai (by first|trivial|(show _≤9223372036854775807;(try simp only[aXz,aX1,aX2,aX4,aX7]);omega)) (s1 (ai (by kernel_rfl) (rt (cX _ ⟨?za5,q2+1+1+1,⟨by omega,by omega,?zn5⟩,rfl⟩ (eF _ [] [] rfl ?_ rfl rfl)))))))))))))))
   all_goals try(refine qs ?_;(repeat' first|exact qx|apply ai))
   try any_goals with_reducible rfl
   try any_goals rfl
   all_goals((try simp only[aXz,aX4,aX7]);omega)
 refine sq (rT [1,5,58] (ai (by first|trivial|(show _≤9223372036854775807;(try simp only[aXz,aX1,aX2,aX4,aX7]);omega)) (s1 (cd rfl (fun c58=> ?_) fun c58=> ?_))))
 · refine sq (rT [4] (s2 (ai (by first|trivial|(show _≤9223372036854775807;(try simp only[aXz,aX1,aX2,aX4,aX7]);omega)) (s1 (rt (cX _ ⟨?za6,q2+1+1,⟨by omega,by omega,?zn6⟩,rfl⟩ (eF _ [] [] rfl ?_ rfl rfl)))))))
   all_goals try(refine qs ?_;(repeat' first|exact qx|apply ai))
   try any_goals with_reducible rfl
   try any_goals rfl
   all_goals((try simp only[aXz,aX4,aX7]);omega)
 refine sk (sq (rT [4] (s2 (ai (by(try rw[hwi]);simp[jy,eZ,gB] at *; omega) (s1 (rt (cX _ ⟨?za7,q2+1+1,⟨by omega,by omega,?zn7⟩,rfl⟩ (eF _ [] [] rfl ?_ rfl rfl))))))))
 all_goals try(refine qs ?_;(repeat' first|exact qx|apply ai))
 try any_goals with_reducible rfl
 try any_goals rfl
 all_goals((try simp only[aXz,aX4,aX7]);omega)
theorem ue (l:List UInt8) (p:Int) (hp:0≤p∧p≤780000) (hl:l.length≤2000):tn 166 1 [tP 0 0,oB 0 177 [.d (.sl (aE l)),.d (.i (p))]] (fun s=> ∃(lg:List UInt8) (fr q:Int),(lg.length≤20000∧p≤q∧q≤p+1500)∧s=[tV 0 (.e (.agg [.d (.s lg),.d (.i fr)])),oB 0 177 [.d (.sl (aE l)),.d (.i (q))]]):=by
 refine ul Tryz.func166 rfl (sq (rT [0,2] (s1 (sq (rT [0,2,3] (s3 (sq (sq (rT [0,2,3,4] (s1 (bP (robj:=[(0,.box 177 [.d (.sl (aE (l))),.d (.i (p))])]) (rl:=[(0,0)]) (bor:=[]) (cR (l) (p) _ (by omega) hl) rfl rfl rfl rfl ⟨bY rfl rfl rfl rfl (cQ rfl rfl (bB rfl (aG rfl (aG rfl aN)) trivial)),rfl⟩ rfl (.inl rfl) (aM ⟨rfl,trivial⟩) (fun _ hj=>nomatch hj) (s1 (bk ?_)))))))))))))
 obtain⟨n0,hn0,hn9⟩: ∃n0:Nat,bT l p 9=(n0:Int)∧n0≤8:=by have:=cG l (p:=p) (n:=9) (by omega) (by omega);exact⟨(bT l p 9).toNat,by omega,by omega⟩
 refine SW.loopW (n:=n0) (fun x s=> ∃(lg:List UInt8) (fr q:Int),(x≤n0∧lg.length≤2400∧p+1≤q∧q≤p+1+131*(n0 - x:Nat))∧s=[tP 0 0,tP 2 2,tP 3 3,tI 4 (x:Nat),oB 0 177 [.d (.sl (aE l)),.d (.i (q))],oB 2 28 [.d (.s ([])),.d (.i (0))],oB 3 28 [.d (.s (lg)),.d (.i (fr))]]) ?_ ?_
 · refine wq [] [] ⟨[],0,p+1,⟨by omega,by simp,by omega,by omega⟩,rfl⟩ ?_
   repeat' apply ai
   all_goals try exact qx
   all_goals try rfl
   all_goals exact aA D.i hn0
 rintro n s ⟨lg,fr,q,⟨hxn,hlg,hq⟩,rfl⟩
 refine sq (sq (rT [0,2,3,4,10] (s1 (ai (by first|trivial|(show _≤9223372036854775807;(try simp only[aXz,aX1,aX2,aX4,aX7]);omega)) (cd rfl (fun c10=> ?_) fun c10=> ?_)))))
 · have hn1:0<n:=by simp at c10;omega
   refine sk (sq (bk (sq (SW.regDE cK mo [0,2,3,4] 2 (fun _=>none) rfl rfl (by kernel_rfl) ?_))))
   refine s2 (em (robj:=[(0,.box 177 [.d (.sl (aE l)),.d (.i (q))])]) (rl:=[(0,0)]) (bor:=[]) (news:=[]) (gr l q (by omega) hl) rfl rfl rfl rfl ⟨bY rfl rfl rfl rfl (bB rfl (aG rfl (aG rfl aN)) trivial),rfl⟩ (by rintro _ ⟨x,q9,hx,rfl⟩;exact⟨rfl,.inl rfl,fun j hj=>nomatch hj⟩) (aM ⟨rfl,trivial⟩) (fun j hj=>nomatch hj) ⟨_,[],q,⟨by omega,by omega,by simp⟩,rfl⟩ ?_)
   rintro _ ⟨x,q9,hx,rfl⟩
   refine xp (pS lg fr x (by omega) (by omega)) (ai rfl ?_)
   refine s1 (s8 (ai (by kernel_rfl) (sq (rT [0,2,3,4,22] (s1 (bP (robj:=[(0,.box 177 [.d (.sl (aE (l))),.d (.i (q9))])]) (rl:=[(0,0)]) (bor:=[]) (cR (l) (q9) _ (by omega) hl) rfl rfl rfl rfl ⟨bY rfl rfl rfl rfl (cQ rfl rfl (bB rfl (aG rfl (aG rfl aN)) trivial)),rfl⟩ rfl (.inl rfl) (aM ⟨rfl,trivial⟩) (fun _ hj=>nomatch hj) (ai (by first|trivial|(show _≤9223372036854775807;(try simp only[aXz,aX1,aX2,aX4,aX7]);omega)) (cd rfl (fun c22=> ?_) fun c22=> ?_))))))))
   · refine rT [0,2,3,4] (s1 (xp (iD (bC lg fr x).1.1 (bC lg fr x).1.2 (by have:=oK (f:=fr) (rec:=x) hlg;omega)) (ai rfl ?_)))
     refine s1 (rT [0,2,3,4] (s1 (ai (by first|trivial|(show _≤9223372036854775807;(try simp only[aXz,aX1,aX2,aX4,aX7]);omega)) (s1 ?_))))
     first
     |(refine wq (σ':=[tP 0 0,tP 2 2,tP 3 3,tI 4 (n - 1:Nat),oB 0 177 [.d (.sl (aE l)),.d (.i ((q9+1)))],oB 2 28 [.d (.s ([])),.d (.i (0))],oB 3 28 [.d (.s ((cY (bC lg fr x).1.1 (bC lg fr x).1.2).1)),.d (.i ((cY (bC lg fr x).1.1 (bC lg fr x).1.2).2))]]) [] [] (⟨n - 1,by omega,(cY (bC lg fr x).1.1 (bC lg fr x).1.2).1,(cY (bC lg fr x).1.1 (bC lg fr x).1.2).2,q9+1,⟨by omega,Nat.le_trans (pT _ _) (oK hlg),by omega,by omega⟩,rfl⟩) ?_
       repeat' apply ai
       all_goals first|exact qx|(refine aA D.i ?_;rw[aF (by omega)];omega)|rfl|exact qz)
     |(refine wq [] [] (⟨n - 1,by omega,(bC lg fr x).1.1,(bC lg fr x).1.2,q9+1,⟨by omega,oK hlg,by omega,by omega⟩,rfl⟩) ?_
       repeat' apply ai
       all_goals first|exact qx|(refine aA D.i ?_;rw[aF (by omega)];omega)|rfl|exact qz)
   refine sk (rT [0,2,3,4] (s1 (ai (by first|trivial|(show _≤9223372036854775807;(try simp only[aXz,aX1,aX2,aX4,aX7]);omega)) (s1 ?_))))
   first
   |(refine wq (σ':=[tP 0 0,tP 2 2,tP 3 3,tI 4 (n - 1:Nat),oB 0 177 [.d (.sl (aE l)),.d (.i ((q9+1)))],oB 2 28 [.d (.s ([])),.d (.i (0))],oB 3 28 [.d (.s ((cY (bC lg fr x).1.1 (bC lg fr x).1.2).1)),.d (.i ((cY (bC lg fr x).1.1 (bC lg fr x).1.2).2))]]) [] [] (⟨n - 1,by omega,(cY (bC lg fr x).1.1 (bC lg fr x).1.2).1,(cY (bC lg fr x).1.1 (bC lg fr x).1.2).2,q9+1,⟨by omega,Nat.le_trans (pT _ _) (oK hlg),by omega,by omega⟩,rfl⟩) ?_
     repeat' apply ai
     all_goals first|exact qx|(refine aA D.i ?_;rw[aF (by omega)];omega)|rfl|exact qz)
   |(refine wq [] [] (⟨n - 1,by omega,(bC lg fr x).1.1,(bC lg fr x).1.2,q9+1,⟨by omega,oK hlg,by omega,by omega⟩,rfl⟩) ?_
     repeat' apply ai
     all_goals first|exact qx|(refine aA D.i ?_;rw[aF (by omega)];omega)|rfl|exact qz)
 refine xt (SW.midW (fun s=> ∃(lh:List UInt8) (fg q2:Int),(lh.length≤20000∧q≤q2∧q2≤q+100)∧s=[tP 2 2,tP 3 3,oB 0 177 [.d (.sl (aE l)),.d (.i (q2))],oB 2 28 [.d (.s ([])),.d (.i (0))],oB 3 28 [.d (.s (lh)),.d (.i (fg))]]) ?_ ?_)
 · refine sq (rT [0,2,3,26] (s1 (bP (robj:=[(0,.box 177 [.d (.sl (aE (l))),.d (.i (q))])]) (rl:=[(0,0)]) (bor:=[]) (cR (l) (q) _ (by omega) hl) rfl rfl rfl rfl ⟨bY rfl rfl rfl rfl (cQ rfl rfl (bB rfl (aG rfl (aG rfl aN)) trivial)),rfl⟩ rfl (.inl rfl) (aM ⟨rfl,trivial⟩) (fun _ hj=>nomatch hj) (bk (sq (rT [0,2,3,26,27] (ai (by first|trivial|(show _≤9223372036854775807;(try simp only[aXz,aX1,aX2,aX4,aX7]);omega)) (s1 (cd rfl (fun c27=> ?_) fun c27=> ?_)))))))))
   · refine rE [2,3] (s3 (dB (robj:=[(0,.box 177 [.d (.sl (aE l)),.d (.i (q+1))])]) (rl:=[(0,0)]) (bor:=[]) (news:=[]) (aAc l (q+1) lg (by omega) hl (by omega)) rfl rfl rfl rfl ⟨bY rfl rfl rfl rfl (cQ rfl rfl (bB rfl (aG rfl (aG rfl aN)) trivial)),rfl⟩ (by rintro _ ⟨y,q4,hy,rfl⟩;exact⟨rfl,.inl rfl,fun j hj=>nomatch hj⟩) (aM ⟨rfl,trivial⟩) (fun j hj=>nomatch hj) ?_))
     rintro _ ⟨y,q4,hy,rfl⟩
     refine s2 ?_
     first
     |(exact wq [] [] (⟨y,fr,q4,⟨by omega,by omega,by omega⟩,rfl⟩) qz)
     |(exact wq [] [] (⟨lh,fr,(q5+1),⟨by omega,by omega,by omega⟩,rfl⟩) qz)
     |(exact wq [] [] (⟨lg,fr,(q+1),⟨by omega,by omega,by omega⟩,rfl⟩) qz)
     |(exact wq [] [] (⟨lg,?fz8,q+1+1+1,⟨by omega,by omega,by omega⟩,rfl⟩) qz)
   refine sq (rT [0,2,3,26,34] (ai (by first|trivial|(show _≤9223372036854775807;(try simp only[aXz,aX1,aX2,aX4,aX7]);omega)) (s1 (cd rfl (fun c34=> ?_) fun c34=> ?_))))
   · have hv:=cG l (p:=q+1+1) (n:=3) (by omega) (by omega)
     refine rD [2,3] (s3 (ai (by first|trivial|(show _≤9223372036854775807;(try simp only[aXz,aX1,aX2,aX4,aX7]);omega)) (s4 (ai (by first|trivial|(show _≤9223372036854775807;(try simp only[aXz,aX1,aX2,aX4,aX7]);omega)) (bP (robj:=[(0,.box 177 [.d (.sl (aE (l))),.d (.i (q+1))])]) (rl:=[(0,0)]) (bor:=[]) (cR (l) (q+1) _ (by omega) hl) rfl rfl rfl rfl ⟨bY rfl rfl rfl rfl (cQ rfl rfl (bB rfl (aG rfl (aG rfl aN)) trivial)),rfl⟩ rfl (.inl rfl) (aM ⟨rfl,trivial⟩) (fun _ hj=>nomatch hj) (ai (by exact⟨by simp,aX0 rfl⟩) (s1 (bP (robj:=[(0,.box 177 [.d (.sl (aE (l))),.d (.i (q+1+1))])]) (rl:=[(0,0)]) (bor:=[]) (cR (l) (q+1+1) _ (by omega) hl) rfl rfl rfl rfl ⟨bY rfl rfl rfl rfl (cQ rfl rfl (bB rfl (aG rfl (aG rfl aN)) trivial)),rfl⟩ rfl (.inl rfl) (aM ⟨rfl,trivial⟩) (fun _ hj=>nomatch hj) ?_))))))))
     refine ai ⟨rfl,hv.1,hv.2⟩ (ai (aF2 (l:=[-1,wrap64 (((lg.length:Nat):Int)+1),bT l (q+1) (wrap64 (((lg.length:Nat):Int)+1))]) (by simp;omega) rfl) (s2 (ai (by kernel_rfl) ?_)))
     first
     |(exact wq [] [] (⟨y,fr,q4,⟨by omega,by omega,by omega⟩,rfl⟩) qz)
     |(exact wq [] [] (⟨lh,fr,(q5+1),⟨by omega,by omega,by omega⟩,rfl⟩) qz)
     |(exact wq [] [] (⟨lg,fr,(q+1),⟨by omega,by omega,by omega⟩,rfl⟩) qz)
     |(exact wq [] [] (⟨lg,?fz9,q+1+1+1,⟨by omega,by omega,by omega⟩,rfl⟩) qz)
   refine sq (rT [0,2,3,52] (ai (by first|trivial|(show _≤9223372036854775807;(try simp only[aXz,aX1,aX2,aX4,aX7]);omega)) (s1 (cd rfl (fun c52=> ?_) fun c52=> ?_))))
   · refine sq (rT [0,2,3,5] (s1 (bk (SW.loopW (n:=41) (fun x s=> ∃(i:Nat) (lh:List UInt8) (q5:Int),x=41 - i∧(i≤40∧lh.length≤2400+70*i∧q+1≤q5∧q5≤q+1+2*i)∧s=[tP 0 0,tP 2 2,tP 3 3,tI 5 (i:Nat),oB 0 177 [.d (.sl (aE l)),.d (.i (q5))],oB 2 28 [.d (.s ([])),.d (.i (0))],oB 3 28 [.d (.s (lh)),.d (.i (fr))]]) ?_ ?_))))
     · refine wq [] [] ⟨0,lg,q+1,rfl,⟨by omega,by omega,by omega,by omega⟩,rfl⟩ ?_
       repeat' apply ai
       all_goals try exact qx
       all_goals try rfl
     rintro n s ⟨i,lh,q5,rfl,⟨hi,hlh,hq5⟩,rfl⟩
     have hp2:=cG l (p:=q5) (n:=3) (by omega) (by omega)
     refine sq (sq (rT [0,2,3,5,58] (s2 (bP (robj:=[(0,.box 177 [.d (.sl (aE (l))),.d (.i (q5))])]) (rl:=[(0,0)]) (bor:=[]) (cR (l) (q5) _ (by omega) hl) rfl rfl rfl rfl ⟨bY rfl rfl rfl rfl (cQ rfl rfl (bB rfl (aG rfl (aG rfl aN)) trivial)),rfl⟩ rfl (.inl rfl) (aM ⟨rfl,trivial⟩) (fun _ hj=>nomatch hj) (ai (by first|trivial|(show _≤9223372036854775807;(try simp only[aXz,aX1,aX2,aX4,aX7]);omega)) (ai (by first|trivial|(show _≤9223372036854775807;(try simp only[aXz,aX1,aX2,aX4,aX7]);omega)) (cd rfl (fun c58=> ?_) fun c58=> ?_)))))))
     · have hi3:i<40:=by have h9:=of_decide_eq_true c58;rw[aF (by omega)] at h9;omega
       refine sk (sq (bk (SW.regDE cK mo [0,2,3,5] 5 (fun _=>none) rfl rfl (by kernel_rfl) ?_)))
       refine s3 (bP (robj:=[(0,.box 177 [.d (.sl (aE (l))),.d (.i (q5+1))])]) (rl:=[(0,0)]) (bor:=[]) (cR (l) (q5+1) _ (by omega) hl) rfl rfl rfl rfl ⟨bY rfl rfl rfl rfl (cQ rfl rfl (bB rfl (aG rfl (aG rfl aN)) trivial)),rfl⟩ rfl (.inl rfl) (aM ⟨rfl,trivial⟩) (fun _ hj=>nomatch hj) (ai (by first|trivial|(show _≤9223372036854775807;(try simp only[aXz,aX1,aX2,aX4,aX7]);omega)) ?_))
       have hp3:=cG l (p:=q5+1) (n:=3) (by omega) (by omega)
       refine em (robj:=[]) (rl:=[]) (bor:=[]) (news:=[]) (pK [102] (wrap64 (58+bT l (q5+1) 3)) rfl (by rw[aF (by omega)];omega)) rfl rfl rfl rfl ⟨cQ rfl rfl (cQ rfl rfl trivial),rfl⟩ (by rintro _ ⟨x1,hx1,rfl⟩;exact⟨rfl,.inl rfl,fun j hj=>nomatch hj⟩) (fun p hp=>nomatch hp) (fun j hj=>nomatch hj) ⟨_,[],by simp,rfl⟩ ?_
       rintro _ ⟨x1,hx1,rfl⟩
       rw[aF (n:=58+bT l (q5+1) 3) (by omega)] at hx1
       have hst:=oE (rec:=x1) (by omega)
       refine xp (pJ x1 (by omega)) (ai rfl ?_)
       refine s1 (ai (by first|trivial|(show _≤9223372036854775807;(try simp only[aXz,aX1,aX2,aX4,aX7]);omega)) (s5 (ai (by kernel_rfl) (rT [0,2,3,5] (s1 (ai (by first|trivial|(show _≤9223372036854775807;(try simp only[aXz,aX1,aX2,aX4,aX7]);omega)) (s1 (wq [] [] ⟨41 - (i+1),by omega,i+1,lh++cP x1,q5+1+1,rfl,⟨by omega,by rw[aXz];omega,by omega,by omega⟩,rfl⟩ ?_))))))))
       repeat' apply ai
       all_goals try exact qx
       all_goals try rfl
       all_goals exact aA D.i (aF (by omega))
     refine xt ?_
     first
     |(exact wq [] [] (⟨y,fr,q4,⟨by omega,by omega,by omega⟩,rfl⟩) qz)
     |(exact wq [] [] (⟨lh,fr,(q5+1),⟨by omega,by omega,by omega⟩,rfl⟩) qz)
     |(exact wq [] [] (⟨lg,fr,(q+1),⟨by omega,by omega,by omega⟩,rfl⟩) qz)
     |(exact wq [] [] (⟨lg,?fz10,q+1+1+1,⟨by omega,by omega,by omega⟩,rfl⟩) qz)
   refine sk ?_
   first
   |(exact wq [] [] (⟨y,fr,q4,⟨by omega,by omega,by omega⟩,rfl⟩) qz)
   |(exact wq [] [] (⟨lh,fr,(q5+1),⟨by omega,by omega,by omega⟩,rfl⟩) qz)
   |(exact wq [] [] (⟨lg,fr,(q+1),⟨by omega,by omega,by omega⟩,rfl⟩) qz)
   |(exact wq [] [] (⟨lg,?fz11,q+1+1+1,⟨by omega,by omega,by omega⟩,rfl⟩) qz)
 rintro s ⟨lh,fg,q2,hq2,rfl⟩
 exact sq (rT [2] (s2 (rt (cX [tV 0 (.e (.agg [.d (.s lh),.d (.i fg)])),oB 0 177 [.d (.sl (aE l)),.d (.i (q2))]] ⟨lh,fg,q2,⟨by omega,by omega,by omega⟩,rfl⟩ (rq [] [] rfl qz)))))
end Go.Proofs.YtmabaopgkimfmaaGreatDoor
namespace Go.Ab
open Int renaming toNat_natCast→aXy
open List renaming length_append→aXz,length_cons→aX1,length_nil→aX2,length_take→aX4,getD_eq_getElem?_getD→aX6,length_drop→aX7,getElem?_eq_getElem→aX9,getElem?_eq_some_iff→aYa,range→aYb,mem_map→aYc,all_eq_true→aYd,take_length→aYe
open Nat renaming le_of_ble_eq_true→aX0,zero_le→aX5,le_refl→aX8
open Bool renaming and_eq_true→aX3
open Go Go.RowKit
theorem aSt {P:Program} {T:hZ} (hT:dV P T) {o:Oper} {σ:St} {t:TypeId} {len:Nat} {parts:Array (Nat×Operand)} {d oo n:Nat} {e:TypeId} {es:Nat} {rows:List (List D)} {R:List (dK×Option K)} {p:Prop} {k:List (dK×Option K)→List (dK×K)→Prop}
 (ho:o.op= .buildSlice t len parts) (ha:vZ T σ t len parts.toList o.dst=some (p,R,[(.o oo,.row e es rows),(.t d,.v (.e (.c (.own oo n))))])) (hp:p) (hn:rows.length=n)
 (h:k R [(.o oo,.dead),(.t d,.v (Dv (.sl rows)))]): ∃R W,vW P o R W∧bV R σ∧k R W:=by
 obtain⟨h1,h2⟩:=bb hT ho p R _ ha hp
 refine⟨R,_,?_,h2,h⟩
 intro cx σ' ι S a w hr hw hb next Q hn2
 refine h1 cx σ' ι S a w hr hw hb next Q (fun ι' S' a' w' hw'=> ?_)
 have hf:=hw'.freeze (s:=d) (o:=oo) (n:=n) (e:=e) (es:=es) (rows:=rows) (by simp[iP,lV]) (by simp[iP,lV]) hn
 refine hn2 _ _ a' w' (hf.congr fun l=> ?_)
 simp only[iP,lV]
 by_cases q1:dK.t d=l
 · simp[q1]
 · by_cases q2:dK.o oo=l
   · simp[q1,q2]
   · simp[q1,q2]
end Go.Ab
namespace Go.Proofs.YtmabaopgkimfmaaGreatDoor
open Int renaming toNat_natCast→aXy
open List renaming length_append→aXz,length_cons→aX1,length_nil→aX2,length_take→aX4,getD_eq_getElem?_getD→aX6,length_drop→aX7,getElem?_eq_getElem→aX9,getElem?_eq_some_iff→aYa,range→aYb,mem_map→aYc,all_eq_true→aYd,take_length→aYe
open Nat renaming le_of_ble_eq_true→aX0,zero_le→aX5,le_refl→aX8
open Bool renaming and_eq_true→aX3
open Go Go.Ab Go.RowKit
set_option linter.unusedVariables false
set_option linter.unusedSimpArgs false
set_option maxRecDepth 9000
theorem sP (l:List UInt8) (p:Int) (hp:0≤p∧p≤600000) (hl:l.length≤2000):tn 105 1 [tP 0 801,oB 801 177 [.d (.sl (aE l)),.d (.i (p))]] (fun s=> ∃(W2:fM) (k1:aK) (q3:Int),(W2.ok∧KQ k1∧p≤q3∧q3≤p+18000)∧s=[tV 0 (.tup [.agg [.d (.i (W2.tm)),.own 802 4,.own 803 3,ps 804 4 (W2.a),ps 805 5 (W2.b),ps 806 5 (W2.c)],.agg [.d (.i (k1).id),.d (.b (k1).up),.d (.s (k1).log),.d (.i (k1).forced),.d (.sl (aZ (k1).halves))]]),oB 801 177 [.d (.sl (aE l)),.d (.i (q3))],oR 802 31 5 (aL W2.ks),oR 803 4 1 (aQ W2.ls),(.o 804,aO 260 4 fQ),(.o 805,aO 52 5 cO),(.o 806,aO 52 5 cO)]):=by
 refine ul Tryz.func105 rfl (sq (rT [0,2,3] (s2 (sq (rE [0,2,3,4] (s1 (dB (robj:=[(801,.box 177 [.d (.sl (aE l)),.d (.i (p))])]) (rl:=[]) (bor:=[]) (news:=[800,802,803,804,805,806,807]) (aV7 l (p) 12 (by omega) hl (by omega)) rfl rfl rfl rfl ⟨bY rfl rfl rfl rfl (cQ rfl rfl (bB rfl (aG rfl (aG rfl aN)) trivial)),rfl⟩ (by rintro _ ⟨W,q1,hw,rfl⟩;exact⟨rfl,.inl rfl,fun j hj=>hj⟩) (aM ⟨rfl,trivial⟩) (fun j hj=>by simp at hj;rcases hj with rfl|rfl|rfl|rfl|rfl|rfl|rfl<;>rfl) ?_)))))))
 rintro _ ⟨W,q1,hw,rfl⟩
 refine s1 (SW.midW (fun s=> ∃(W2:fM) (q2:Int),(W2.ok∧q1≤q2∧q2≤q1+200)∧s=[tP 0 801,tP 2 2,tP 3 3,tP 4 800,oB 800 147 [.pt 801 0,.d (.i (W2.tm)),.own 802 4,.own 803 3,ps 804 4 (W2.a),ps 805 5 (W2.b),ps 806 5 (W2.c),ps 807 10 (W2.d)],oB 801 177 [.d (.sl (aE l)),.d (.i (q2))],oR 802 31 5 (aL W2.ks),oR 803 4 1 (aQ W2.ls),(.o 804,aO 260 4 fQ),(.o 805,aO 52 5 cO),(.o 806,aO 52 5 cO),(.o 807,aO 204 10 kF),oB 2 123 [.d (.i 0),.nil,.nil,.nil,.nil,.nil],oB 3 31 [.d (.i 0),.d (.b false),.d (.s []),.d (.i 0),.nil]]) ?_ ?_)
 · refine sq (rT [0,2,3,4,11] (s1 (bP (robj:=[(801,.box 177 [.d (.sl (aE (l))),.d (.i (q1))])]) (rl:=[(0,801)]) (bor:=[]) (cR (l) (q1) _ (by omega) hl) rfl rfl rfl rfl ⟨bY rfl rfl rfl rfl (cQ rfl rfl (bB rfl (aG rfl (aG rfl aN)) trivial)),rfl⟩ rfl (.inl rfl) (aM ⟨rfl,trivial⟩) (fun _ hj=>nomatch hj) (ai (by first|trivial|(show _≤9223372036854775807;(try simp only[aXz,aX1,aX2,aX4,aX7]);omega)) (cd rfl (fun c11=> ?_) fun c11=> ?_)))))
   · refine rE [0,2,3,4] (s1 (dB (robj:=[(800,.box 147 [.pt 801 0,.d (.i (W.tm)),.own 802 4,.own 803 3,ps 804 4 (W.a),ps 805 5 (W.b),ps 806 5 (W.c),ps 807 10 (W.d)]),(801,.box 177 [.d (.sl (aE l)),.d (.i (q1+1))]),(802,.row 31 5 (aL W.ks)),(803,.row 4 1 (aQ W.ls)),(804,aO 260 4 fQ),(805,aO 52 5 cO),(806,aO 52 5 cO),(807,aO 204 10 kF)]) (rl:=[]) (bor:=[]) (news:=[]) (nm l (q1+1) W 7 0 (by omega) hl hw.1.ok (by have:=hw.1.few;have h0:fP.d=0:=rfl;omega) (by omega)) rfl rfl rfl rfl ⟨bY rfl rfl rfl rfl (cQ rfl rfl (cQ rfl rfl (bB rfl (eO rfl rfl rfl (aG rfl (bU rfl rfl rfl (bU rfl rfl rfl (bM rfl rfl rfl (bM rfl rfl rfl (bM rfl rfl rfl (bM rfl rfl rfl aN)))))))) (bB rfl (aG rfl (aG rfl aN)) (bZ rfl rfl (bZ rfl rfl (bE rfl rfl (bE rfl rfl (bE rfl rfl (bE rfl rfl trivial)))))))))),rfl⟩ (by rintro _ ⟨W3,q3,hw3,rfl⟩;exact⟨rfl,.inl rfl,fun j hj=>nomatch hj⟩) (aM ⟨rfl,rfl,rfl,rfl,rfl,rfl,rfl,rfl,trivial⟩) (fun j hj=>nomatch hj) ?_))
     rintro _ ⟨W3,q3,hw3,rfl⟩
     first
     |(exact wq [] [] (⟨W3,q3,⟨hw3.1.ok,by omega,by omega⟩,rfl⟩) qz)
     |(exact wq [] [] (⟨W,q1+1,⟨hw.1.ok,by omega,by omega⟩,rfl⟩) qz)
   refine sk ?_
   first
   |(exact wq [] [] (⟨W3,q3,⟨hw3.1.ok,by omega,by omega⟩,rfl⟩) qz)
   |(exact wq [] [] (⟨W,q1+1,⟨hw.1.ok,by omega,by omega⟩,rfl⟩) qz)
 rintro s ⟨W2,q2,⟨hW,hq2⟩,rfl⟩
 refine sq (rT [0,2,3,5] (s6 (sq ?_)))
 obtain⟨i,hi,hil⟩:=ar (show 0≤bT l q2 4∧bT l q2 4≤3 by have:=cG l (p:=q2) (n:=4) (by omega) (by omega);omega)
 have hsm:=hW.at hil
 have hs1:=hsm.1
 have hs2:=hsm.2.1
 refine rD [0,2,3,5,6] (s3 (bP (robj:=[(801,.box 177 [.d (.sl (aE (l))),.d (.i (q2))])]) (rl:=[(0,801)]) (bor:=[]) (cR (l) (q2) _ (by omega) hl) rfl rfl rfl rfl ⟨bY rfl rfl rfl rfl (cQ rfl rfl (bB rfl (aG rfl (aG rfl aN)) trivial)),rfl⟩ rfl (.inl rfl) (aM ⟨rfl,trivial⟩) (fun _ hj=>nomatch hj) (ai (by rw[hi];exact⟨by rw[bN];exact hW.four,by omega,by omega⟩) (ai (by rw[hi,aXy,cH (by rw[hW.four];exact hil)];exact⟨⟨by rw[bN];exact hW.four,hil⟩,aX0 rfl,rfl⟩) (bP (robj:=[]) (rl:=[(0,24)]) (bor:=[]) (jg (W2.ks.getD i .zero) ⟨by have:=hsm.2.1;omega,fun x hx=>by have:=hsm.2.2 x hx;omega⟩) rfl rfl rfl rfl ⟨eC rfl (aG (by rw[hi,aXy,cH (by rw[hW.four];exact hil)];rfl) (aG (by rw[hi,aXy,cH (by rw[hW.four];exact hil)];rfl) (aG (by rw[hi,aXy,cH (by rw[hW.four];exact hil)];rfl) (aG (by rw[hi,aXy,cH (by rw[hW.four];exact hil)];rfl) (aG (by rw[hi,aXy,cH (by rw[hW.four];exact hil)];rfl) aN))))) trivial,rfl⟩ rfl (.inl rfl) (fun p hp=>nomatch hp) (fun j hj=>by(obtain rfl:j=0:=by simpa[kU,cE,iS] using hj);rfl) ?_)))))
 refine s2 (ai (by kernel_rfl) (SW.midW (fun s=> ∃(k1:aK) (q3:Int),(KQ k1∧q2≤q3∧q3≤q2+1600)∧s=[tP 2 2,tP 3 3,tP 5 5,tP 6 6,oB 801 177 [.d (.sl (aE l)),.d (.i (q3))],oB 2 123 [.d (.i 0),.nil,.nil,.nil,.nil,.nil],oB 3 31 [.d (.i 0),.d (.b false),.d (.s []),.d (.i 0),.nil],oB 5 123 [.d (.i (W2.tm)),.own 802 4,.own 803 3,ps 804 4 (W2.a),ps 805 5 (W2.b),ps 806 5 (W2.c)],oB 6 31 [.d (.i (k1).id),.d (.b (k1).up),.d (.s (k1).log),.d (.i (k1).forced),.d (.sl (aZ (k1).halves))],oR 802 31 5 (aL W2.ks),oR 803 4 1 (aQ W2.ls),(.o 804,aO 260 4 fQ),(.o 805,aO 52 5 cO),(.o 806,aO 52 5 cO)]) ?_ ?_))
 · refine sq (wa [tP 0 801,tP 2 2,tP 3 3,tP 5 5,tP 6 6,oB 801 177 [.d (.sl (aE l)),.d (.i (q2+1))],oB 2 123 [.d (.i 0),.nil,.nil,.nil,.nil,.nil],oB 3 31 [.d (.i 0),.d (.b false),.d (.s []),.d (.i 0),.nil],oB 5 123 [.d (.i (W2.tm)),.own 802 4,.own 803 3,ps 804 4 (W2.a),ps 805 5 (W2.b),ps 806 5 (W2.c)],oB 6 31 [.d (.i ((W2.ks.getD i .zero)).id),.d (.b ((W2.ks.getD i .zero)).up),.d (.s ((W2.ks.getD i .zero)).log),.d (.i ((W2.ks.getD i .zero)).forced),.own 24 (W2.ks.getD i .zero).halves.length],oR 24 138 6 (aZ (W2.ks.getD i .zero).halves),oR 802 31 5 (aL W2.ks),oR 803 4 1 (aQ W2.ls),(.o 804,aO 260 4 fQ),(.o 805,aO 52 5 cO),(.o 806,aO 52 5 cO)] [] [] qz (rT [0,2,3,5,6,26] (s1 (bP (robj:=[(801,.box 177 [.d (.sl (aE (l))),.d (.i (q2+1))])]) (rl:=[(0,801)]) (bor:=[]) (cR (l) (q2+1) _ (by omega) hl) rfl rfl rfl rfl ⟨bY rfl rfl rfl rfl (cQ rfl rfl (bB rfl (aG rfl (aG rfl aN)) trivial)),rfl⟩ rfl (.inl rfl) (aM ⟨rfl,trivial⟩) (fun _ hj=>nomatch hj) ?_))))
   refine bk (sq (rT [0,2,3,5,6,26,27] (ai (by first|trivial|(show _≤9223372036854775807;(try simp only[aXz,aX1,aX2,aX4,aX7]);omega)) (s1 (cd rfl (fun c27=> ?_) fun c27=> ?_)))))
   · have hv:=cG l (p:=q2+1+1) (n:=3) (by omega) (by omega)
     refine rD [2,3,5,6] (s2 (ai (by first|trivial|(show _≤9223372036854775807;(try simp only[aXz,aX1,aX2,aX4,aX7]);omega)) (ai (by decide) (ai (by exact⟨by simp,aX0 rfl⟩) (s1 (bP (robj:=[(801,.box 177 [.d (.sl (aE (l))),.d (.i (q2+1+1))])]) (rl:=[(0,801)]) (bor:=[]) (cR (l) (q2+1+1) _ (by omega) hl) rfl rfl rfl rfl ⟨bY rfl rfl rfl rfl (cQ rfl rfl (bB rfl (aG rfl (aG rfl aN)) trivial)),rfl⟩ rfl (.inl rfl) (aM ⟨rfl,trivial⟩) (fun _ hj=>nomatch hj) (ai ⟨rfl,hv.1,hv.2⟩ (ai (aF2 (l:=[-1,4,Int.tmod (wrap64 ((W2.ks.getD i .zero).id+1)) 4]) (by simp;omega) rfl) (s2 (ai (by kernel_rfl) (wq (σ':=[tP 2 2,tP 3 3,tP 5 5,tP 6 6,oB 801 177 [.d (.sl (aE l)),.d (.i ((q2+1+1+1)))],oB 2 123 [.d (.i 0),.nil,.nil,.nil,.nil,.nil],oB 3 31 [.d (.i 0),.d (.b false),.d (.s []),.d (.i 0),.nil],oB 5 123 [.d (.i (W2.tm)),.own 802 4,.own 803 3,ps 804 4 (W2.a),ps 805 5 (W2.b),ps 806 5 (W2.c)],oB 6 31 [.d (.i (({(W2.ks.getD i .zero) with id:=([-1,4,Int.tmod (wrap64 ((W2.ks.getD i .zero).id+1)) 4]:List Int).getD (bT l (q2+1+1) 3).toNat 0}:aK)).id),.d (.b (({(W2.ks.getD i .zero) with id:=([-1,4,Int.tmod (wrap64 ((W2.ks.getD i .zero).id+1)) 4]:List Int).getD (bT l (q2+1+1) 3).toNat 0}:aK)).up),.d (.s (({(W2.ks.getD i .zero) with id:=([-1,4,Int.tmod (wrap64 ((W2.ks.getD i .zero).id+1)) 4]:List Int).getD (bT l (q2+1+1) 3).toNat 0}:aK)).log),.d (.i (({(W2.ks.getD i .zero) with id:=([-1,4,Int.tmod (wrap64 ((W2.ks.getD i .zero).id+1)) 4]:List Int).getD (bT l (q2+1+1) 3).toNat 0}:aK)).forced),.d (.sl (aZ (({(W2.ks.getD i .zero) with id:=([-1,4,Int.tmod (wrap64 ((W2.ks.getD i .zero).id+1)) 4]:List Int).getD (bT l (q2+1+1) 3).toNat 0}:aK)).halves))],oR 802 31 5 (aL W2.ks),oR 803 4 1 (aQ W2.ls),(.o 804,aO 260 4 fQ),(.o 805,aO 52 5 cO),(.o 806,aO 52 5 cO)]) [] [24] (⟨({(W2.ks.getD i .zero) with id:=([-1,4,Int.tmod (wrap64 ((W2.ks.getD i .zero).id+1)) 4]:List Int).getD (bT l (q2+1+1) 3).toNat 0}:aK),(q2+1+1+1),⟨KQ.idd hsm.kq _,by omega,by omega⟩,rfl⟩) ?_)))))))))))
     repeat' apply ai
     all_goals first|exact qx|exact aJ _|exact aA (fun r:List D=>D.i (toI (r.getD 0 (.i 0)))) (gZ (l:=[-1,4,Int.tmod (wrap64 ((W2.ks.getD i .zero).id+1)) 4]) (by simp;omega))|exact qz
   refine sq (rT [0,2,3,5,6,26,39] (ai (by first|trivial|(show _≤9223372036854775807;(try simp only[aXz,aX1,aX2,aX4,aX7]);omega)) (s1 (cd rfl (fun c39=> ?_) fun c39=> ?_))))
   · refine rE [2,3,5,6] (s1 (dB (robj:=[(801,.box 177 [.d (.sl (aE l)),.d (.i (q2+1+1))])]) (rl:=[(0,801)]) (bor:=[]) (news:=[]) (ue l (q2+1+1) (by omega) hl) rfl rfl rfl rfl ⟨bY rfl rfl rfl rfl (bB rfl (aG rfl (aG rfl aN)) trivial),rfl⟩ (by rintro _ ⟨lg,fr,q4,hs4,rfl⟩;exact⟨rfl,.inl rfl,fun j hj=>nomatch hj⟩) (aM ⟨rfl,trivial⟩) (fun j hj=>nomatch hj) ?_))
     rintro _ ⟨lg,fr,q4,hs4,rfl⟩
     refine s2 (wq (σ':=[tP 2 2,tP 3 3,tP 5 5,tP 6 6,oB 801 177 [.d (.sl (aE l)),.d (.i (q4))],oB 2 123 [.d (.i 0),.nil,.nil,.nil,.nil,.nil],oB 3 31 [.d (.i 0),.d (.b false),.d (.s []),.d (.i 0),.nil],oB 5 123 [.d (.i (W2.tm)),.own 802 4,.own 803 3,ps 804 4 (W2.a),ps 805 5 (W2.b),ps 806 5 (W2.c)],oB 6 31 [.d (.i (({(W2.ks.getD i .zero) with log:=lg,forced:=fr}:aK)).id),.d (.b (({(W2.ks.getD i .zero) with log:=lg,forced:=fr}:aK)).up),.d (.s (({(W2.ks.getD i .zero) with log:=lg,forced:=fr}:aK)).log),.d (.i (({(W2.ks.getD i .zero) with log:=lg,forced:=fr}:aK)).forced),.d (.sl (aZ (({(W2.ks.getD i .zero) with log:=lg,forced:=fr}:aK)).halves))],oR 802 31 5 (aL W2.ks),oR 803 4 1 (aQ W2.ls),(.o 804,aO 260 4 fQ),(.o 805,aO 52 5 cO),(.o 806,aO 52 5 cO)]) [] [24] (⟨({(W2.ks.getD i .zero) with log:=lg,forced:=fr}:aK),q4,⟨KQ.shelf hsm.kq (by omega) _,by omega,by omega⟩,rfl⟩) ?_)
     repeat' apply ai
     all_goals first|exact qx|exact aJ _|rfl|exact qz
   refine sq (rT [0,2,3,5,6,26,44] (ai (by first|trivial|(show _≤9223372036854775807;(try simp only[aXz,aX1,aX2,aX4,aX7]);omega)) (s1 (cd rfl (fun c44=> ?_) fun c44=> ?_))))
   · have hv:=cG l (p:=q2+1+1) (n:=4) (by omega) (by omega)
     refine rD [2,3,5,6] (s8 (ai (by first|trivial|(show _≤9223372036854775807;(try simp only[aXz,aX1,aX2,aX4,aX7]);omega)) (ai (by exact⟨by simp,aX0 rfl⟩) (s1 (bP (robj:=[(801,.box 177 [.d (.sl (aE (l))),.d (.i (q2+1+1))])]) (rl:=[(0,801)]) (bor:=[]) (cR (l) (q2+1+1) _ (by omega) hl) rfl rfl rfl rfl ⟨bY rfl rfl rfl rfl (cQ rfl rfl (bB rfl (aG rfl (aG rfl aN)) trivial)),rfl⟩ rfl (.inl rfl) (aM ⟨rfl,trivial⟩) (fun _ hj=>nomatch hj) (ai ⟨rfl,hv.1,hv.2⟩ (ai (aF2 (l:=[-1,0,(((W2.ks.getD i .zero).log.length:Nat):Int),wrap64 ((((W2.ks.getD i .zero).log.length:Nat):Int)+1)]) (by simp;omega) rfl) (s3 (ai (by kernel_rfl) (wq (σ':=[tP 2 2,tP 3 3,tP 5 5,tP 6 6,oB 801 177 [.d (.sl (aE l)),.d (.i ((q2+1+1+1)))],oB 2 123 [.d (.i 0),.nil,.nil,.nil,.nil,.nil],oB 3 31 [.d (.i 0),.d (.b false),.d (.s []),.d (.i 0),.nil],oB 5 123 [.d (.i (W2.tm)),.own 802 4,.own 803 3,ps 804 4 (W2.a),ps 805 5 (W2.b),ps 806 5 (W2.c)],oB 6 31 [.d (.i (({(W2.ks.getD i .zero) with forced:=([-1,0,(((W2.ks.getD i .zero).log.length:Nat):Int),wrap64 ((((W2.ks.getD i .zero).log.length:Nat):Int)+1)]:List Int).getD (bT l (q2+1+1) 4).toNat 0}:aK)).id),.d (.b (({(W2.ks.getD i .zero) with forced:=([-1,0,(((W2.ks.getD i .zero).log.length:Nat):Int),wrap64 ((((W2.ks.getD i .zero).log.length:Nat):Int)+1)]:List Int).getD (bT l (q2+1+1) 4).toNat 0}:aK)).up),.d (.s (({(W2.ks.getD i .zero) with forced:=([-1,0,(((W2.ks.getD i .zero).log.length:Nat):Int),wrap64 ((((W2.ks.getD i .zero).log.length:Nat):Int)+1)]:List Int).getD (bT l (q2+1+1) 4).toNat 0}:aK)).log),.d (.i (({(W2.ks.getD i .zero) with forced:=([-1,0,(((W2.ks.getD i .zero).log.length:Nat):Int),wrap64 ((((W2.ks.getD i .zero).log.length:Nat):Int)+1)]:List Int).getD (bT l (q2+1+1) 4).toNat 0}:aK)).forced),.d (.sl (aZ (({(W2.ks.getD i .zero) with forced:=([-1,0,(((W2.ks.getD i .zero).log.length:Nat):Int),wrap64 ((((W2.ks.getD i .zero).log.length:Nat):Int)+1)]:List Int).getD (bT l (q2+1+1) 4).toNat 0}:aK)).halves))],oR 802 31 5 (aL W2.ks),oR 803 4 1 (aQ W2.ls),(.o 804,aO 260 4 fQ),(.o 805,aO 52 5 cO),(.o 806,aO 52 5 cO)]) [] [24] (⟨({(W2.ks.getD i .zero) with forced:=([-1,0,(((W2.ks.getD i .zero).log.length:Nat):Int),wrap64 ((((W2.ks.getD i .zero).log.length:Nat):Int)+1)]:List Int).getD (bT l (q2+1+1) 4).toNat 0}:aK),(q2+1+1+1),⟨KQ.frc hsm.kq _,by omega,by omega⟩,rfl⟩) ?_))))))))))
     repeat' apply ai
     all_goals first|exact qx|exact aJ _|exact aA (fun r:List D=>D.i (toI (r.getD 0 (.i 0)))) (gZ (l:=[-1,0,(((W2.ks.getD i .zero).log.length:Nat):Int),wrap64 ((((W2.ks.getD i .zero).log.length:Nat):Int)+1)]) (by simp;omega))|exact qz
   refine sq (rT [0,2,3,5,6,26,62] (ai (by first|trivial|(show _≤9223372036854775807;(try simp only[aXz,aX1,aX2,aX4,aX7]);omega)) (s1 (cd rfl (fun c62=> ?_) fun c62=> ?_))))
   · refine rX [2,3,5,6] (sx cK rfl (by first|trivial|rfl) (sx cK rfl vc (sx cK rfl vc (bP (robj:=[(801,.box 177 [.d (.sl (aE (l))),.d (.i (q2+1+1))])]) (rl:=[(0,801)]) (bor:=[]) (cR (l) (q2+1+1) _ (by omega) hl) rfl rfl rfl rfl ⟨bY rfl rfl rfl rfl (cQ rfl rfl (bB rfl (aG rfl (aG rfl aN)) trivial)),rfl⟩ rfl (.inl rfl) (aM ⟨rfl,trivial⟩) (fun _ hj=>nomatch hj) (sx cK rfl vc (bP (robj:=[(801,.box 177 [.d (.sl (aE (l))),.d (.i (q2+1+1+1))])]) (rl:=[(0,801)]) (bor:=[]) (cR (l) (q2+1+1+1) _ (by omega) hl) rfl rfl rfl rfl ⟨bY rfl rfl rfl rfl (cQ rfl rfl (bB rfl (aG rfl (aG rfl aN)) trivial)),rfl⟩ rfl (.inl rfl) (aM ⟨rfl,trivial⟩) (fun _ hj=>nomatch hj) (sx cK rfl vc (sx cK rfl vc (bP (robj:=[(801,.box 177 [.d (.sl (aE (l))),.d (.i (q2+1+1+1+1))])]) (rl:=[(0,801)]) (bor:=[]) (cR (l) (q2+1+1+1+1) _ (by omega) hl) rfl rfl rfl rfl ⟨bY rfl rfl rfl rfl (cQ rfl rfl (bB rfl (aG rfl (aG rfl aN)) trivial)),rfl⟩ rfl (.inl rfl) (aM ⟨rfl,trivial⟩) (fun _ hj=>nomatch hj) ?_)))))))))
     refine sx cK rfl vc (bP (robj:=[(801,.box 177 [.d (.sl (aE (l))),.d (.i (q2+1+1+1+1+1))])]) (rl:=[(0,801)]) (bor:=[]) (cR (l) (q2+1+1+1+1+1) _ (by omega) hl) rfl rfl rfl rfl ⟨bY rfl rfl rfl rfl (cQ rfl rfl (bB rfl (aG rfl (aG rfl aN)) trivial)),rfl⟩ rfl (.inl rfl) (aM ⟨rfl,trivial⟩) (fun _ hj=>nomatch hj) (sx cK rfl vc (bP (robj:=[(801,.box 177 [.d (.sl (aE (l))),.d (.i (q2+1+1+1+1+1+1))])]) (rl:=[(0,801)]) (bor:=[]) (cR (l) (q2+1+1+1+1+1+1) _ (by omega) hl) rfl rfl rfl rfl ⟨bY rfl rfl rfl rfl (cQ rfl rfl (bB rfl (aG rfl (aG rfl aN)) trivial)),rfl⟩ rfl (.inl rfl) (aM ⟨rfl,trivial⟩) (fun _ hj=>nomatch hj) (sx cK rfl vc (aSt cK rfl rfl ⟨by simp,aX0 rfl⟩ rfl (sx cK rfl vc (sx cK rfl (by exact⟨by simp,aX0 rfl⟩) ?_)))))))
     refine sx cK rfl (by exact⟨rfl,aJ _,by intro r hr;rw[List.mem_singleton.1 hr];rfl,by show(_+1)*64≤_;omega⟩) (sx cK rfl (by first|trivial|rfl) (sx cK rfl ⟨by kernel_rfl,aX0 (by kernel_rfl)⟩ (⟨by kernel_rfl,?_⟩)))
     refine wq [] [24] (⟨({(W2.ks.getD i .zero) with halves:=(W2.ks.getD i .zero).halves++[(⟨bT l (q2+1+1) 5,wrap64 (1+bT l (q2+1+1+1) 3),bT l (q2+1+1+1+1) 4,9,bT l (q2+1+1+1+1+1) 26,[⟨bT l (q2+1+1+1+1+1+1) 9,[97,98,99,100]⟩]⟩:dW)]}:aK),(q2+1+1+1+1+1+1+1),⟨KQ.half hsm (by show(1:Nat)≤100;omega),by omega,by omega⟩,rfl⟩) ?_
     repeat' apply ai
     all_goals first|exact qx|exact aA D.sl (pH _ _).symm|(simp[aJ];done)|rfl|exact qz
   refine sq (rT [0,2,3,5,6,26,83] (ai (by first|trivial|(show _≤9223372036854775807;(try simp only[aXz,aX1,aX2,aX4,aX7]);omega)) (s1 (cd rfl (fun c83=> ?_) fun c83=> ?_))))
   · refine rT [2,3,5,6] (s5 (wq (σ':=[tP 2 2,tP 3 3,tP 5 5,tP 6 6,oB 801 177 [.d (.sl (aE l)),.d (.i ((q2+1+1)))],oB 2 123 [.d (.i 0),.nil,.nil,.nil,.nil,.nil],oB 3 31 [.d (.i 0),.d (.b false),.d (.s []),.d (.i 0),.nil],oB 5 123 [.d (.i (W2.tm)),.own 802 4,.own 803 3,ps 804 4 (W2.a),ps 805 5 (W2.b),ps 806 5 (W2.c)],oB 6 31 [.d (.i (({(W2.ks.getD i .zero) with up:= !(W2.ks.getD i .zero).up}:aK)).id),.d (.b (({(W2.ks.getD i .zero) with up:= !(W2.ks.getD i .zero).up}:aK)).up),.d (.s (({(W2.ks.getD i .zero) with up:= !(W2.ks.getD i .zero).up}:aK)).log),.d (.i (({(W2.ks.getD i .zero) with up:= !(W2.ks.getD i .zero).up}:aK)).forced),.d (.sl (aZ (({(W2.ks.getD i .zero) with up:= !(W2.ks.getD i .zero).up}:aK)).halves))],oR 802 31 5 (aL W2.ks),oR 803 4 1 (aQ W2.ls),(.o 804,aO 260 4 fQ),(.o 805,aO 52 5 cO),(.o 806,aO 52 5 cO)]) [] [24] (⟨({(W2.ks.getD i .zero) with up:= !(W2.ks.getD i .zero).up}:aK),(q2+1+1),⟨KQ.upp hsm.kq _,by omega,by omega⟩,rfl⟩) ?_))
     repeat' apply ai
     all_goals first|exact qx|exact aJ _|rfl|exact qz
   refine sq (rT [0,2,3,5,6,89] (ai (by first|trivial|(show _≤9223372036854775807;(try simp only[aXz,aX1,aX2,aX4,aX7]);omega)) (s1 (cd rfl (fun c89=> ?_) fun c89=> ?_))))
   · refine SW.regDE cK mo [2,3,5,6] 4 (fun _=>none) rfl rfl (by kernel_rfl) ?_
     refine s4 (em (robj:=[(801,.box 177 [.d (.sl (aE l)),.d (.i (q2+1+1))])]) (rl:=[(0,801)]) (bor:=[]) (news:=[]) (gr l (q2+1+1) (by omega) hl) rfl rfl rfl rfl ⟨bY rfl rfl rfl rfl (bB rfl (aG rfl (aG rfl aN)) trivial),rfl⟩ (by rintro _ ⟨x,q4,hx,rfl⟩;exact⟨rfl,.inl rfl,fun j hj=>nomatch hj⟩) (aM ⟨rfl,trivial⟩) (fun j hj=>nomatch hj) ⟨_,[],q2+1+1,⟨by omega,by omega,by simp⟩,rfl⟩ ?_)
     rintro _ ⟨x,q4,hx,rfl⟩
     have hst:=oE (rec:=x) (by omega)
     refine xp (pJ x (by omega)) (ai rfl ?_)
     refine s1 (ai (by first|trivial|(show _≤9223372036854775807;(try simp only[aXz,aX1,aX2,aX4,aX7]);omega)) (s7 (ai (by kernel_rfl) (wq [] [24] (⟨({(W2.ks.getD i .zero) with log:=(W2.ks.getD i .zero).log++cP x}:aK),q4,⟨KQ.lgg hsm.kq (by have:=hsm.1;rw[aXz];omega),by omega,by omega⟩,rfl⟩) ?_))))
     repeat' apply ai
     all_goals first|exact qx|exact aJ _|rfl|exact qz
   refine sk (wq [] [24] (⟨(W2.ks.getD i .zero),(q2+1+1),⟨hsm.kq,by omega,by omega⟩,rfl⟩) ?_)
   repeat' apply ai
   all_goals first|exact qx|exact aJ _|rfl|exact qz
 rintro s ⟨k1,q3,⟨hk1,hq3⟩,rfl⟩
 exact sq (rD [2,3] (s4 (ai (by kernel_rfl) (rt (cX [tV 0 (.tup [.agg [.d (.i (W2.tm)),.own 802 4,.own 803 3,ps 804 4 (W2.a),ps 805 5 (W2.b),ps 806 5 (W2.c)],.agg [.d (.i (k1).id),.d (.b (k1).up),.d (.s (k1).log),.d (.i (k1).forced),.d (.sl (aZ (k1).halves))]]),oB 801 177 [.d (.sl (aE l)),.d (.i (q3))],oR 802 31 5 (aL W2.ks),oR 803 4 1 (aQ W2.ls),(.o 804,aO 260 4 fQ),(.o 805,aO 52 5 cO),(.o 806,aO 52 5 cO)] ⟨W2,k1,q3,⟨hW,hk1,by omega,by omega⟩,rfl⟩ (rq [] [] rfl qz))))))
theorem eh (l:List UInt8) (hl:l.length≤140737488355328):tn 47 1 [tD 0 (.sl (aE l))] (fun s=> ∃(k:aK) (n1:bI),(KQ k∧ND n1)∧s=[tV 0 (.tup [.agg [.d (.i (k).id),.d (.b (k).up),.d (.s (k).log),.d (.i (k).forced),.d (.sl (aZ (k).halves))],.c (.d (.i n1.to)),.c (.d (.i n1.til)),.c (.d (.s n1.text))])]):=by
 have hl2: (l.take 2000).length≤2000:=by simp;omega
 refine ul Tryz.func47 rfl (sq (rT [0,2] (s4 (sq (rT [2,6] (s1 (kr [(0,801)] (gq l hl) rfl rfl rfl rfl rfl rfl rfl (fun j hj=>by(obtain rfl:j=0:=by simpa[kU,cE,iS] using hj);rfl) (s1 (sq (rE [2,6,8] (s1 (dB (robj:=[(801,.box 177 [.d (.sl (aE (l.take 2000))),.d (.i (0))])]) (rl:=[]) (bor:=[]) (news:=[802,803,804,805,806]) (sP (l.take 2000) (0) (by omega) hl2) rfl rfl rfl rfl ⟨bY rfl rfl rfl rfl (bB rfl (aG rfl (aG rfl aN)) trivial),rfl⟩ (by rintro _ ⟨W2,k,q2,hw2,rfl⟩;exact⟨rfl,.inl rfl,fun j hj=>hj⟩) (aM ⟨rfl,trivial⟩) (fun j hj=>by simp at hj;rcases hj with rfl|rfl|rfl|rfl|rfl<;>rfl) ?_))))))))))))
 rintro _ ⟨W2,k,q2,hw2,rfl⟩
 have hkq:=hw2.2.1
 have hkl:=hkq.1
 refine s7 (sq (rE [2,8,9] (s1 (dB (robj:=[(801,.box 177 [.d (.sl (aE (l.take 2000))),.d (.i (q2))])]) (rl:=[(0,801)]) (bor:=[]) (news:=[]) (dy (l.take 2000) (q2) (by omega) hl2) rfl rfl rfl rfl ⟨bY rfl rfl rfl rfl (bB rfl (aG rfl (aG rfl aN)) trivial),rfl⟩ (by rintro _ ⟨n1,q6,hn1,hq6,rfl⟩;exact⟨rfl,.inl rfl,fun j hj=>nomatch hj⟩) (aM ⟨rfl,trivial⟩) (fun j hj=>nomatch hj) ?_))))
 rintro _ ⟨n1,q6,hn1,hq6,rfl⟩
 exact s2 (sq (rD [2,3,4,5] (s9 (s2 (ai (by kernel_rfl) (rt (cX [tV 0 (.tup [.agg [.d (.i (k).id),.d (.b (k).up),.d (.s (k).log),.d (.i (k).forced),.d (.sl (aZ (k).halves))],.c (.d (.i n1.to)),.c (.d (.i n1.til)),.c (.d (.s n1.text))])] ⟨k,n1,⟨hkq,hn1⟩,rfl⟩ (rq [] [] rfl qz))))))))
end Go.Proofs.YtmabaopgkimfmaaGreatDoor
namespace Go.Ab
open Int renaming toNat_natCast→aXy
open List renaming length_append→aXz,length_cons→aX1,length_nil→aX2,length_take→aX4,getD_eq_getElem?_getD→aX6,length_drop→aX7,getElem?_eq_getElem→aX9,getElem?_eq_some_iff→aYa,range→aYb,mem_map→aYc,all_eq_true→aYd,take_length→aYe
open Nat renaming le_of_ble_eq_true→aX0,zero_le→aX5,le_refl→aX8
open Bool renaming and_eq_true→aX3
structure KG (k:aK):Prop where
 log:k.log.length≤140737488355328
 hal:k.halves.length≤100000∧ ∀x∈k.halves,x.got.length≤100000
theorem KG.of {k x:aK} (h:KG k) (hl:x.log.length≤140737488355328) (hh:x.halves=k.halves∨x.halves=[]):KG x:=by
 refine⟨hl,?_⟩
 rcases hh with e|e
 · rw[e];exact h.hal
 · rw[e];exact⟨aX5 _,fun _ hx=>nomatch hx⟩
theorem KQ.kg {k:aK} (h:KQ k):KG k:=⟨h.log,by have:=h.2.1;omega,fun x hx=>by have:=h.2.2 x hx;omega⟩
theorem jp.kg {k:aK} (h:jp k):KG k:=h.kq.kg
theorem KG.start (n:Int):KG (gU n):=(wT n).kg
theorem aJ3 {k:aK} (h:k.log.length≤140737488355328): (jR k).log.length≤140737488355328:=Nat.le_trans (pT _ _) h
theorem wV {k:aK} {rec:List UInt8} (h:k.log.length≤140737488355328): (dM k rec).1.log.length≤140737488355328∧(dM k rec).1.halves=k.halves:=by
 obtain⟨h1,h2⟩:=yj (rec:=rec) h
 unfold dM
 split
 · exact⟨aJ3 h1,h2⟩
 · exact⟨h,rfl⟩
theorem KG.time {k:aK} (h:KG k):KG (cF k).1:=by
 refine h.of ?_ ?_
 · unfold cF
   split
   · split
     · exact(wV h.log).1
     · exact h.log
   · exact aX5 _
 · unfold cF
   split
   · split
     · exact .inl (wV h.log).2
     · exact .inl rfl
   · exact .inr rfl
theorem KG.own {k:aK} (h:KG k) (tu til:Int) (tx:List UInt8):KG (aU k tu til tx).1:=by
 refine h.of ?_ ?_
 · unfold aU
   split
   · split
     · split
       · exact(wV h.log).1
       · exact h.log
     · exact h.log
   · exact aX5 _
 · unfold aU
   split
   · split
     · split
       · exact .inl (wV h.log).2
       · exact .inl rfl
     · exact .inl rfl
   · exact .inr rfl
theorem aE1 (k:aK):KB (bS k):=by
 unfold bS
 split
 · rename_i h;exact nK h
 · exact KB.zero
theorem aK6 {k:aK} (h: (cF k).2=true):aW k=true:=by
 unfold cF at h
 split at h
 · assumption
 · cases h
theorem aWb {k:aK} {tu til:Int} {tx:List UInt8} (h: (aU k tu til tx).2≠0):aW k=true:=by
 unfold aU at h
 split at h
 · assumption
 · exact absurd rfl h
theorem aHk {k:aK} {tu til:Int} {tx:List UInt8} (hok:aW k=true) (h: (aU k tu til tx).2≠0) (hl:k.log.length≤(aU k tu til tx).1.log.length) {n:Nat} (h1:k.log.length≤n) (h2:n≤(aU k tu til tx).1.log.length):
 ∃(Y:List UInt8) (H:bH),bG ((aU k tu til tx).1.log.take n)=((bG Y).1,Y.length)∧(aU k tu til tx).1.log.take Y.length=Y∧Y.length≤(aU k tu til tx).1.log.length∧eI k.id (bG Y).1=(H,true)∧bS ⟨k.id,true,Y,k.forced,[]⟩=H∧
  (n< (aU k tu til tx).1.log.length→H=bS k)∧(n=(aU k tu til tx).1.log.length→H=bS (aU k tu til tx).1):=by
 obtain⟨c1,c2,c3,c4,c5,c6,c7,c8⟩:=aSs hok h hl
 rcases Nat.lt_or_ge n (aU k tu til tx).1.log.length with hn|hn
 · refine⟨k.log,bS k,c3 n h1 hn,by rw[c1,List.take_left' rfl],hl,c4,?_,fun _=>rfl,fun e=>by omega⟩
   rw[mY c7]
   show(eI k.id (bG k.log).1).1=_
   rw[c4]
 · have e:n=(aU k tu til tx).1.log.length:=by omega
   subst e
   refine⟨(aU k tu til tx).1.log,bS (aU k tu til tx).1,?_,aYe,aX8 _,c5,?_,fun e=>by omega,fun _=>rfl⟩
   · rw[aYe];exact Prod.ext rfl c6
   · rw[mY c8]
     show(eI k.id (bG (aU k tu til tx).1.log).1).1=_
     rw[c5]
theorem aNo {k:aK} {tu til:Int} {tx:List UInt8} (hok:aW k=true): (aU k tu til tx).1.log.length≤2400:=by
 by_cases h: (aU k tu til tx).2=0
 · rw[aSr hok h];exact(eA hok).2.1
 · exact(eA (aSq hok h).1).2.1
end Go.Ab
namespace Go.Proofs.YtmabaopgkimfmaaGreatDoor
open Int renaming toNat_natCast→aXy
open List renaming length_append→aXz,length_cons→aX1,length_nil→aX2,length_take→aX4,getD_eq_getElem?_getD→aX6,length_drop→aX7,getElem?_eq_getElem→aX9,getElem?_eq_some_iff→aYa,range→aYb,mem_map→aYc,all_eq_true→aYd,take_length→aYe
open Nat renaming le_of_ble_eq_true→aX0,zero_le→aX5,le_refl→aX8
open Bool renaming and_eq_true→aX3
open Go Go.Ab Go.RowKit
set_option linter.unusedVariables false
set_option linter.unusedSimpArgs false
set_option maxRecDepth 9000
theorem jo (l m:List UInt8) (hl:l.length≤140737488355328) (hm:m.length≤140737488355328):Sp 12 2 [tD 0 (.sl (aE l)),tD 1 (.sl (aE m))] [tB 0 true]:=by
 refine sb Tryz.func12 rfl (sq (rT [0,1] (s1 (sq (sq (rT [0,26] (s4 (y3 (ai pk (cd rfl (fun c26=> ?_) fun c26=> ?_))))))))))
 · refine sq (rT [4] (s1 (rt (bQ rfl ?_))))
   rfl
 refine sk (sq (rE [5,6,7,8] (s1 (dB (robj:=[]) (rl:=[]) (bor:=[]) (news:=[]) (eh l hl) rfl rfl rfl rfl ⟨cQ rfl rfl trivial,rfl⟩ (by rintro _ ⟨k,n1,⟨hkq,hnd⟩,rfl⟩;exact⟨rfl,.inl rfl,fun j hj=>nomatch hj⟩) (fun p hp=>nomatch hp) (fun j hj=>nomatch hj) ?_))))
 rintro _ ⟨k,n1,⟨hkq,hnd⟩,rfl⟩
 have hg:=hkq.kg
 have hkl:=hkq.1
 have hkb:=aE1 k
 have hgo:=hg.own n1.to n1.til n1.text
 have hnt:=hnd.2
 refine s9 (s1 (sq (rT [5,6,7,8,9,10] (s4 (xp (yP k n1.to n1.til n1.text hg.log (by omega)) (ai rfl ?_))))))
 refine s6 (sq (rT [5,9,10,11,12] (s4 (xp (qp k n1.to n1.til n1.text hg.log (by omega)) (ai rfl ?_)))))
 refine s6 (sq (sq (rT [5,9,10,11,12,73] (s4 (y2 (xc (fun h=>pU (aU k n1.to n1.til n1.text).1 hgo.hal) (ai rfl (ai rk ?_))))))))
 refine y1 (ai pk (s1 (y2 (ai pk (s1 (y4 (y4 (y1 (ai pk (cd rfl (fun c73=> ?_) fun c73=> ?_))))))))))
 · refine sq (rT [4] (s4 (y2 (xc (fun h=>pU (aU k n1.to n1.til n1.text).1 hgo.hal) (ai rfl (ai rk ?_))))))
   refine ai pk (s1 (rt (bQ rfl (aA D.b ?_))))
   simp[gb]
 obtain⟨hne,hle⟩: (aU k n1.to n1.til n1.text).2≠0∧k.log.length≤(aU k n1.to n1.til n1.text).1.log.length:=by simpa[gb] using c73
 have hok:=aWb hne
 have hxl:=aNo (tu:=n1.to) (til:=n1.til) (tx:=n1.text) hok
 refine sk (sq (sq (rT [5,11,13] (s5 (bk (SW.loopW (n:=(aU k n1.to n1.til n1.text).1.log.length+1 - k.log.length) (fun x s=> ∃i:Nat,x=(aU k n1.to n1.til n1.text).1.log.length+1 - i∧(k.log.length≤i∧i≤(aU k n1.to n1.til n1.text).1.log.length+1)∧s=[tP 5 5,tP 11 11,tI 13 (i:Nat),oB 5 31 [.d (.i (k).id),.d (.b (k).up),.d (.s (k).log),.d (.i (k).forced),.d (.sl (aZ (k).halves))],oB 11 31 [.d (.i ((aU k n1.to n1.til n1.text).1).id),.d (.b ((aU k n1.to n1.til n1.text).1).up),.d (.s ((aU k n1.to n1.til n1.text).1).log),.d (.i ((aU k n1.to n1.til n1.text).1).forced),.d (.sl (aZ ((aU k n1.to n1.til n1.text).1).halves))]]) ?_ ?_))))))
 · exact wq [] [] (⟨k.log.length,rfl,⟨by omega,by omega⟩,rfl⟩) qz
 rintro n s ⟨i,rfl,⟨hi1,hi2⟩,rfl⟩
 rcases(show i< (aU k n1.to n1.til n1.text).1.log.length∨i=(aU k n1.to n1.til n1.text).1.log.length∨i=(aU k n1.to n1.til n1.text).1.log.length+1 by omega) with hlt|hlt|hlt
 · obtain⟨Y,H,hsr,htk,hYl,hko,hhas,hH1,hH2⟩:=aHk hok hne hle hi1 (show i≤(aU k n1.to n1.til n1.text).1.log.length by omega)
   have hYs:Y.length≤900000:=by omega
   have hKH:KB H:=by rw[← hhas];exact aE1 _
   have hH:=hH1 hlt
   refine sq (sq (rT [5,11,13,91] (s6 (cd rfl (fun c91=> ?_) fun c91=> ?_))))
   · have hi3:i≤(aU k n1.to n1.til n1.text).1.log.length:=by simpa using c91
     refine sk (sq (bk (sq (rT [5,11,13,14] (s9 (s3 (sq (rT [5,11,13,14,15,16] (s4 (ai (by(try rw[hwi]);simp[jy,eZ,gB] at *; omega) (xp (kC ((aU k n1.to n1.til n1.text).1.log.take i) (by rw[aX4];omega)) (ai rfl ?_))))))))))))
     refine s5 (sq (wa [tP 5 5,tP 11 11,tI 13 (i:Nat),tP 14 14,tD 15 (.sl (bF (bG Y).1)),tI 16 (Y.length:Nat),oB 5 31 [.d (.i (k).id),.d (.b (k).up),.d (.s (k).log),.d (.i (k).forced),.d (.sl (aZ (k).halves))],oB 11 31 [.d (.i ((aU k n1.to n1.til n1.text).1).id),.d (.b ((aU k n1.to n1.til n1.text).1).up),.d (.s ((aU k n1.to n1.til n1.text).1).log),.d (.i ((aU k n1.to n1.til n1.text).1).forced),.d (.sl (aZ ((aU k n1.to n1.til n1.text).1).halves))],oB 14 31 [.d (.i k.id),.d (.b true),.d (.s (k.log)),.d (.i k.forced),.d (.sl [])]] [] [] ?_ ?_))
     · repeat' apply ai
       all_goals first|exact qx|(rw[hsr];done)|(rw[hsr];rfl)|rfl|exact qz
     refine rT [5,11,13,14,15] (s4 (ai (by simp[jy,eZ,gB] at *; omega) (s3 (sq (rT [5,11,13,14,17,18] (s3 (xp (xO k.id (bG Y).1 (kE Y hYs).1 (kE Y hYs).2) (ai rfl ?_))))))))
     refine s6 (sq (wa [tP 5 5,tP 11 11,tI 13 (i:Nat),tP 14 14,tP 17 17,tB 18 true,oB 5 31 [.d (.i (k).id),.d (.b (k).up),.d (.s (k).log),.d (.i (k).forced),.d (.sl (aZ (k).halves))],oB 11 31 [.d (.i ((aU k n1.to n1.til n1.text).1).id),.d (.b ((aU k n1.to n1.til n1.text).1).up),.d (.s ((aU k n1.to n1.til n1.text).1).log),.d (.i ((aU k n1.to n1.til n1.text).1).forced),.d (.sl (aZ ((aU k n1.to n1.til n1.text).1).halves))],oB 14 31 [.d (.i k.id),.d (.b true),.d (.s (Y)),.d (.i k.forced),.d (.sl [])],oB 17 44 [.d (.i (H).id),.d (.i (H).time),.d (.i (H).next),.d (.sl (aI (H).held)),.d (.sl (aS (H).marks)),.d (.sl (aI (H).inbox))]] [] [] ?_ ?_))
     · repeat' apply ai
       all_goals first|exact qx|(rw[hko];done)|(rw[hko];rfl)|exact aA D.s htk|rfl|exact qz
     refine rD [5,11,13,165] (s3 (y4 (y4 (y1 (xc (fun h=>(gK k hg.log)) (ai rfl (ai rk ?_)))))))
     refine xc (fun h=>tG H hKH) (ai (by rw[← hH];rfl) (ai rk ?_))
     refine y1 (ai (fun h=>pk) (ai rk (ai pk (s1 (y4 (y4 (y1 (xc (fun h=>(gK (aU k n1.to n1.til n1.text).1 hgo.log)) (ai rfl (ai rk ?_))))))))))
     refine vt (X:=B true) (fun h=>absurd h (by simp[gb];omega)) rfl rfl rfl rfl rfl rfl rfl rfl rk (y1 (ai (fun h=>pk) (ai rk (ai pk (s1 (y1 (xc (fun h=>gK (⟨k.id,true,Y,k.forced,[]⟩:aK) (by show Y.length≤_;omega)) (ai rfl (ai rk ?_)))))))))
     refine y1 (xc (fun h=>tG H hKH) (ai (by rw[hhas];rfl) (ai rk ?_)))
     refine y1 (ai pk (ai (by kernel_rfl) (cd rfl (fun c165=> ?_) fun c165=> ?_)))
     · exact absurd c165 (by simp[gb])
     refine sk (rT [5,11,13] (s3 (wq [] [] (⟨(aU k n1.to n1.til n1.text).1.log.length+1 - (i+1),by omega,i+1,rfl,⟨by omega,by omega⟩,rfl⟩) ?_)))
     repeat' apply ai
     all_goals first|exact qx|exact aA D.i (aF (by omega))|rfl|exact qz
   refine xt (sq (rT [4] (s1 (rt (bQ rfl ?_)))))
   rfl
 · obtain⟨Y,H,hsr,htk,hYl,hko,hhas,hH1,hH2⟩:=aHk hok hne hle hi1 (show i≤(aU k n1.to n1.til n1.text).1.log.length by omega)
   have hYs:Y.length≤900000:=by omega
   have hKH:KB H:=by rw[← hhas];exact aE1 _
   have hH:=hH2 hlt
   refine sq (sq (rT [5,11,13,91] (s6 (cd rfl (fun c91=> ?_) fun c91=> ?_))))
   · have hi3:i≤(aU k n1.to n1.til n1.text).1.log.length:=by simpa using c91
     refine sk (sq (bk (sq (rT [5,11,13,14] (s9 (s3 (sq (rT [5,11,13,14,15,16] (s4 (ai (by(try rw[hwi]);simp[jy,eZ,gB] at *; omega) (xp (kC ((aU k n1.to n1.til n1.text).1.log.take i) (by rw[aX4];omega)) (ai rfl ?_))))))))))))
     refine s5 (sq (wa [tP 5 5,tP 11 11,tI 13 (i:Nat),tP 14 14,tD 15 (.sl (bF (bG Y).1)),tI 16 (Y.length:Nat),oB 5 31 [.d (.i (k).id),.d (.b (k).up),.d (.s (k).log),.d (.i (k).forced),.d (.sl (aZ (k).halves))],oB 11 31 [.d (.i ((aU k n1.to n1.til n1.text).1).id),.d (.b ((aU k n1.to n1.til n1.text).1).up),.d (.s ((aU k n1.to n1.til n1.text).1).log),.d (.i ((aU k n1.to n1.til n1.text).1).forced),.d (.sl (aZ ((aU k n1.to n1.til n1.text).1).halves))],oB 14 31 [.d (.i k.id),.d (.b true),.d (.s (k.log)),.d (.i k.forced),.d (.sl [])]] [] [] ?_ ?_))
     · repeat' apply ai
       all_goals first|exact qx|(rw[hsr];done)|(rw[hsr];rfl)|rfl|exact qz
     refine rT [5,11,13,14,15] (s4 (ai (by simp[jy,eZ,gB] at *; omega) (s3 (sq (rT [5,11,13,14,17,18] (s3 (xp (xO k.id (bG Y).1 (kE Y hYs).1 (kE Y hYs).2) (ai rfl ?_))))))))
     refine s6 (sq (wa [tP 5 5,tP 11 11,tI 13 (i:Nat),tP 14 14,tP 17 17,tB 18 true,oB 5 31 [.d (.i (k).id),.d (.b (k).up),.d (.s (k).log),.d (.i (k).forced),.d (.sl (aZ (k).halves))],oB 11 31 [.d (.i ((aU k n1.to n1.til n1.text).1).id),.d (.b ((aU k n1.to n1.til n1.text).1).up),.d (.s ((aU k n1.to n1.til n1.text).1).log),.d (.i ((aU k n1.to n1.til n1.text).1).forced),.d (.sl (aZ ((aU k n1.to n1.til n1.text).1).halves))],oB 14 31 [.d (.i k.id),.d (.b true),.d (.s (Y)),.d (.i k.forced),.d (.sl [])],oB 17 44 [.d (.i (H).id),.d (.i (H).time),.d (.i (H).next),.d (.sl (aI (H).held)),.d (.sl (aS (H).marks)),.d (.sl (aI (H).inbox))]] [] [] ?_ ?_))
     · repeat' apply ai
       all_goals first|exact qx|(rw[hko];done)|(rw[hko];rfl)|exact aA D.s htk|rfl|exact qz
     refine rD [5,11,13,165] (s3 (y4 (y4 (y1 (xc (fun h=>(gK k hg.log)) (ai rfl (ai rk ?_)))))))
     refine vt (X:=B true) (fun h=>absurd h (by simp[gb];omega)) rfl rfl rfl rfl rfl rfl rfl rfl rk (y1 (ai (fun h=>pk) (ai rk (ai pk (s1 (y4 (y4 (y1 (xc (fun h=>(gK (aU k n1.to n1.til n1.text).1 hgo.log)) (ai rfl (ai rk ?_)))))))))))
     refine xc (fun h=>tG H hKH) (ai (by rw[← hH];rfl) (ai rk ?_))
     refine y1 (ai (fun h=>pk) (ai rk (ai pk (s1 (y1 (xc (fun h=>gK (⟨k.id,true,Y,k.forced,[]⟩:aK) (by show Y.length≤_;omega)) (ai rfl (ai rk ?_))))))))
     refine y1 (xc (fun h=>tG H hKH) (ai (by rw[hhas];rfl) (ai rk ?_)))
     refine y1 (ai pk (ai (by kernel_rfl) (cd rfl (fun c165=> ?_) fun c165=> ?_)))
     · exact absurd c165 (by simp[gb])
     refine sk (rT [5,11,13] (s3 (wq [] [] (⟨(aU k n1.to n1.til n1.text).1.log.length+1 - (i+1),by omega,i+1,rfl,⟨by omega,by omega⟩,rfl⟩) ?_)))
     repeat' apply ai
     all_goals first|exact qx|exact aA D.i (aF (by omega))|rfl|exact qz
   refine xt (sq (rT [4] (s1 (rt (bQ rfl ?_)))))
   rfl
 refine sq (sq (rT [5,11,13,91] (s6 (cd rfl (fun c91=> ?_) fun c91=> ?_))))
 · exact absurd c91 (by simp;omega)
 refine xt (sq (rT [4] (s1 (rt (bQ rfl ?_)))))
 rfl
end Go.Proofs.YtmabaopgkimfmaaGreatDoor
namespace Go.Ab
open Int renaming toNat_natCast→aXy
open List renaming length_append→aXz,length_cons→aX1,length_nil→aX2,length_take→aX4,getD_eq_getElem?_getD→aX6,length_drop→aX7,getElem?_eq_getElem→aX9,getElem?_eq_some_iff→aYa,range→aYb,mem_map→aYc,all_eq_true→aYd,take_length→aYe
open Nat renaming le_of_ble_eq_true→aX0,zero_le→aX5,le_refl→aX8
open Bool renaming and_eq_true→aX3
open Go Go.RowKit
set_option linter.unusedVariables false
theorem aP7 {P:Program} {w w':World} {name:String} {cs:Array Value} (h:w.var? P name=some cs) (hf:Fr (fun _=>False) w w'):w'.var? P name=some cs:=by
 unfold World.var? at h ⊢
 cases hg:P.globalNamed name with
 |none=>rw[hg] at h;cases h
 |some g=>
  rw[hg] at h
  simp only[Option.bind_some] at h ⊢
  cases hh:w.heap[g]? with
  |none=>rw[hh] at h;cases h
  |some o=>
   have hlt:g<w.heap.size:=(Array.getElem?_eq_some_iff.1 hh).1
   rw[hf.block g hlt (fun h=>h),hh]
   rw[hh] at h
   exact h
theorem aK7 {P:Program} {w:World} {name:String} {g:Nat} {cs:Array Value} {t:TypeId} {v:Value} (hg:P.globalNamed name=some g) (hh:w.heap[g]? =some (.cells cs t)) (hs:cs.size=1) (hc:w.cell? ⟨g,0,none⟩=some v):w.var? P name=some #[v]:=by
 have e:cs= #[v]:=by
  have h1:w.cell? ⟨g,0,none⟩=cs[0]?:=by rw[cell_of_row w g 0 cs t (0,0) hh]
  rw[hc] at h1
  apply Array.ext
  · simpa using hs
  · intro i h2 h3
    have:i=0:=by have:i<1:=by simpa using h3
                 omega
    subst this
    rw[Array.getElem?_eq_getElem h2] at h1
    exact(Option.some.inj h1).symm
 subst e
 unfold World.var?
 rw[hg]
 simp only[Option.bind_some]
 rw[hh]
theorem aUh {P:Program} {w:World} (h1:Lib.TabIs P w "internal/strconv.uint64pow10" .u64 Lib.pow10Tab) (h2: ∃m,w.var? P "internal/bytealg.MaxLen" =some #[.int .i64 m]):GB P w fun _=>False:=fun w' hf=>⟨aP7 h1 hf,h2.imp fun m hm=>aP7 hm hf⟩
end Go.Ab
