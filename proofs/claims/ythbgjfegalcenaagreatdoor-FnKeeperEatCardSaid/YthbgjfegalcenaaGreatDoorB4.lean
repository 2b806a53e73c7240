/- Plain functions, and contracts of the functions that the law reaches. -/
import Derived.Test.YthbgjfegalcenaaGreatDoorB3
namespace Go.Proofs.YthbgjfegalcenaaGreatDoor
open Int renaming toNat_natCast→aW6,tmod→aXm
open List renaming length_append→aW7,length_cons→aW9,length_nil→aXa,length_take→aXc,getD_eq_getElem?_getD→aXe,length_drop→aXf,getElem?_eq_getElem→aXg,getElem?_eq_some_iff→aXh,range→aXj,mem_map→aXk,all_eq_true→aXl,take_length→aXn,mem_singleton→aXo,mem_iff_getElem?→aXq,mem_cons→aXr
open Nat renaming le_of_ble_eq_true→aW8,zero_le→aXd,le_refl→aXi,add_mul→aXp
open Bool renaming and_eq_true→aXb
open Go Go.Ab Go.RowKit
set_option linter.unusedVariables false
set_option linter.unusedSimpArgs false
set_option maxRecDepth 9000
set_option maxHeartbeats 6400000 in
theorem tw (k:aH) (f:cF) (hok:aR k=true) (hu:k.up=true) (hf:eO f=true) (hkd:f.kind=1):Sp 232 2 [tV 0 (.e (.agg [.d (.i (k).id),.d (.b (k).up),.d (.s (k).log),.d (.i (k).forced),.own 0 k.halves.length])),(.t 1,.v f.V),oR 0 85 6 (aY k.halves)] [tV 0 (.tup [.agg [.d (.i ((dV k f).1).id),.d (.b ((dV k f).1).up),.d (.s ((dV k f).1).log),.d (.i ((dV k f).1).forced),.d (.sl (aY ((dV k f).1).halves))],.c (.d (.sl (nI (dV k f).2)))])]:=by
 have hlg:=eK hok
 have hkb:=nB hok
 have hfh:=jd hf hkd
 have hH:=aKq (mu hok) hlg.2.2.2.1 hf hkd
 have h6:=eZ (gA hok)
 refine sb Tryz.func232 rfl (sq (rT [2,3,4] (s4 (sq (rT [2,3,4,6] (s2 (sq (rT [2,3,4,6,7] (s1 (bK (robj:=[(0,.row 85 6 (aY k.halves))]) (rl:=[(0,0)]) (bor:=[]) (aNb k (by omega)) rfl rfl rfl rfl ⟨dX rfl (aD rfl (aD rfl (aD rfl (aD rfl (bQ rfl rfl rfl aJ))))) (bV rfl rfl trivial),rfl⟩ rfl (.inl rfl) (aI ⟨rfl,trivial⟩) (fun _ hj=>nomatch hj) (s6 (sq (sq (rT [2,3,4,6,7,25] (s5 (cd rfl (fun c25=> ?_) fun c25=> ?_))))))))))))))))
 · have hlate:f.til≤(aZ k).1.time:=by simpa using c25
   refine sq (rD [4,5] (s2 (xp (sJ _ f) (ai rfl ?_))))
   refine s3 (ai (by kernel_rfl) (rt ?_))
   have hr:dV k f=(k,[bw 3 f]):=by rw[dV,if_pos hlate]
   refine rq [] [0,29] rfl ?_
   repeat' apply ai
   all_goals try exact qx
   all_goals(first|with_reducible rfl|(rw[hr];done)|(rw[hr];rfl)|exact aF _|rfl)
 have hlate: ¬f.til≤(aZ k).1.time:=by simpa using c25
 refine sk (sq (sq (rT [2,3,4,6,47] (s6 (xp (gB (aZ k).1.held f.frm f.num (by have:=h6.1.1;omega)) (ai rfl ?_))))))
 refine s2 (y4 (y2 (xc (fun h=>(oD (aZ k).1.marks f.frm f.num (by have:=h6.1.2.1;omega))) (ai rfl (ai rk ?_)))))
 refine y1 (ai pk (cd rfl (fun c47=> ?_) fun c47=> ?_))
 · have hhave:0≤aS (aZ k).1.held f.frm f.num∨0≤gN (aZ k).1.marks f.frm f.num:=by simpa using c47
   refine sq (rT [2,3,4] (s2 (xp (iT k.log k.forced (by omega)) (ai rfl ?_))))
   refine s2 (sq (rD [4,5] (s2 (xp (sJ _ f) (ai rfl ?_)))))
   refine s3 (ai (by kernel_rfl) (rt ?_))
   have hr:dV k f=(jN k,[bw 2 f]):=by rw[dV,if_neg hlate,if_pos hhave]
   refine rq [] [0,55] rfl ?_
   repeat' apply ai
   all_goals try exact qx
   all_goals(first|with_reducible rfl|(rw[hr];done)|(rw[hr];rfl)|exact aF _|rfl)
 have hhave: ¬(0≤aS (aZ k).1.held f.frm f.num∨0≤gN (aZ k).1.marks f.frm f.num):=by simpa using c47
 refine sk (sq (sq (rD [2,3,4,6,69] (s6 (y2 (xc (fun h=>(pK f.size (by omega))) (ai rfl (ai rk ?_))))))))
 refine y2 (xc (fun h=>(wP _ f.mix)) (ai rfl (ai rk ?_)))
 refine y1 (ai pk (ai (by kernel_rfl) (cd rfl (fun c69=> ?_) fun c69=> ?_)))
 · have hskip:f.frm=k.id∨ ¬tQ ((f.size+3) / 4) f.mix=true:=by simpa using c69
   refine sq (rT [4,5] (s4 (rt ?_)))
   have hr:dV k f=(k,[]):=by rw[dV,if_neg hlate,if_neg hhave,if_pos hskip]
   refine rq [] [0,15] rfl ?_
   repeat' apply ai
   all_goals try exact qx
   all_goals(first|with_reducible rfl|(rw[hr];done)|(rw[hr];rfl)|exact aF _|rfl)
 have hskip: ¬(f.frm=k.id∨ ¬tQ ((f.size+3) / 4) f.mix=true):=by simpa using c69
 refine sk (sq (rT [2,3,4,6,9] (s2 (bK (robj:=[(0,.row 85 6 (aY k.halves))]) (rl:=[]) (bor:=[]) (aA8 k f hlg.2.2.2.1 hlg.2.2.2.2.2) rfl rfl rfl rfl ⟨dX rfl (aD rfl (aD rfl (aD rfl (aD rfl (bQ rfl rfl rfl aJ))))) (dX rfl (aD rfl (aD rfl (aD rfl (aD rfl (aD rfl (aD rfl (aD rfl (aD rfl (aD rfl (aD rfl aJ)))))))))) (bV rfl rfl trivial)),rfl⟩ rfl (.inl rfl) (aI ⟨rfl,trivial⟩) (fun _ hj=>nomatch hj) (s5 (sq (sq (rT [2,3,4,6,9,79] (s2 (cd rfl (fun c79=> ?_) fun c79=> ?_))))))))))
 · have hneg: (bZ k.halves f).2<0:=by simpa using c79
   refine sq (rT [4,5] (s4 (rt ?_)))
   have hr:dV k f=(dZ k (bZ k.halves f).1,[]):=by rw[dV,if_neg hlate,if_neg hhave,if_neg hskip,if_pos hneg]
   refine rq [] [15] rfl ?_
   repeat' apply ai
   all_goals try exact qx
   all_goals(first|with_reducible rfl|(rw[hr];done)|(rw[hr];rfl)|exact aF _|rfl)
 have hge: ¬(bZ k.halves f).2<0:=by simpa using c79
 obtain⟨i,hi⟩: ∃i:Nat,(bZ k.halves f).2=(i:Int):=⟨(bZ k.halves f).2.toNat,by omega⟩
 have hil:i< (bZ k.halves f).1.length:=aJe hi
 have hgi: (aY (dZ k (bZ k.halves f).1).halves).getD i []=((bZ k.halves f).1.getD i .zero).row:=gE hil
 have hr1:dV k f=oP k f (bZ k.halves f).1 i:=by rw[dV,if_neg hlate,if_neg hhave,if_neg hskip,if_neg hge,hi];rfl
 have hgl: ((bZ k.halves f).1.getD i .zero).got.length≤14:=by have h9:=(vR _).1 (hH.1.1 _ (dB (z:=dR.zero) hil));exact(lV h9.1).2.2.2.2.2
 refine sk (sq (rD [2,3,4,6,9,10,11] (s5 (ai (by rw[hi];exact⟨⟨by omega,by rw[aF];show((i:Nat):Int)< (((bZ k.halves f).1.length:Nat):Int);omega⟩,by rw[aW6,hgi];rfl⟩) (s1 (ai (by rw[hi,aW6,hgi];exact⟨aW8 rfl,rfl⟩) (xp (zd f.size ((bZ k.halves f).1.getD i .zero).got (by omega)) (ai (by rw[hi,aW6,hgi];rfl) ?_))))))))
 refine s5 (ai (by kernel_rfl) (sq (sq (rT [2,3,4,6,9,10,95] (s2 (cd rfl (fun c95=> ?_) fun c95=> ?_))))))
 · have hno: ¬(dW f.size ((bZ k.halves f).1.getD i .zero).got).2=true:=by exact kV c95
   refine sq (rT [4,5] (s4 (rt ?_)))
   have hr:dV k f=(dZ k (bZ k.halves f).1,[]):=hr1.trans (mw hno)
   refine rq [] [15] rfl ?_
   repeat' apply ai
   all_goals try exact qx
   all_goals(first|with_reducible rfl|(rw[hr];done)|(rw[hr];rfl)|exact aF _|rfl)
 have hyes: (dW f.size ((bZ k.halves f).1.getD i .zero).got).2=true:=by exact gJ c95
 refine sk (sq (rT [2,3,4,6,9,12] (s9 (s3 (sq (rT [2,3,4,6,12] (s3 (xp (zh (bZ k.halves f).1 (i:Nat) (by omega) (by omega)) (ai (by rw[hi];rfl) ?_)))))))))
 refine s2 (sq (rT [2,3,4,6,13] (s1 (xp (kK (fB f (dW f.size ((bZ k.halves f).1.getD i .zero).got).1) (by have:=aG2 f.size ((bZ k.halves f).1.getD i .zero).got;show(dW f.size ((bZ k.halves f).1.getD i .zero).got).1.length≤_;omega)) (ai rfl ?_)))))
 refine s1 (sq (sq (rT [2,3,4,6,13,116] (s2 (cd rfl (fun c116=> ?_) fun c116=> ?_)))))
 · have hemp:fZ (fB f (dW f.size ((bZ k.halves f).1.getD i .zero).got).1)=[]:=by exact beq_iff_eq.1 c116
   refine sq (rT [4,5] (s4 (rt ?_)))
   have hr:dV k f=(dZ k (gK (bZ k.halves f).1 i),[]):=hr1.trans (ff hyes hemp)
   refine rq [] [15] rfl ?_
   repeat' apply ai
   all_goals try exact qx
   all_goals(first|with_reducible rfl|(rw[hr];done)|(rw[hr];rfl)|exact aF _|rfl)
 have hemp: ¬fZ (fB f (dW f.size ((bZ k.halves f).1.getD i .zero).got).1)=[]:=by exact beq_eq_false_iff_ne.1 c116
 refine sk (sq (rT [2,3,4,6,14] (s2 (ai (by have:=lO (fB f (dW f.size ((bZ k.halves f).1.getD i .zero).got).1);show _≤9223372036854775807;(try simp only[aW7,aW9,aXa]);omega) (xp (nD (dZ k (gK (bZ k.halves f).1 i)) (cT fL (fB f (dW f.size ((bZ k.halves f).1.getD i .zero).got).1)) true (mv hok hu (by have:=yG (bZ k.halves f).1 i;omega) (aKp hH.1 i)) (by have h9:=tH fL (fB f (dW f.size ((bZ k.halves f).1.getD i .zero).got).1);have h8:fL.length=4:=rfl;omega)) (ai rfl ?_))))))
 refine s5 (sq (sq (rT [2,3,4,6,127] (s2 (cd rfl (fun c127=> ?_) fun c127=> ?_)))))
 · have hw: ¬(fW (dZ k (gK (bZ k.halves f).1 i)) (cT fL (fB f (dW f.size ((bZ k.halves f).1.getD i .zero).got).1)) true).2=true:=kV c127
   refine sq (rT [4,5] (s4 (rt ?_)))
   have hr:dV k f=((fW (dZ k (gK (bZ k.halves f).1 i)) (cT fL (fB f (dW f.size ((bZ k.halves f).1.getD i .zero).got).1)) true).1,[]):=hr1.trans (al hyes hemp hw)
   refine rq [] [15] rfl ?_
   repeat' apply ai
   all_goals try exact qx
   all_goals(first|with_reducible rfl|(rw[hr];done)|(rw[hr];rfl)|exact aF _|rfl)
 have hw: (fW (dZ k (gK (bZ k.halves f).1 i)) (cT fL (fB f (dW f.size ((bZ k.halves f).1.getD i .zero).got).1)) true).2=true:=gJ c127
 refine sk (sq (rD [4,5] (s2 (xp (sJ _ f) (ai rfl ?_)))))
 refine s3 (ai (by kernel_rfl) (rt ?_))
 have hr:dV k f=((fW (dZ k (gK (bZ k.halves f).1 i)) (cT fL (fB f (dW f.size ((bZ k.halves f).1.getD i .zero).got).1)) true).1,[bw 2 f]):=hr1.trans (my hyes hemp hw)
 refine rq [] [133] rfl ?_
 repeat' apply ai
 all_goals try exact qx
 all_goals(first|with_reducible rfl|(rw[hr];done)|(rw[hr];rfl)|exact aF _|rfl)
set_option maxHeartbeats 6400000 in
theorem nj (k:aH) (f:cF) (hl:k.log.length≤140737488355328):Sp 218 2 [tV 0 k.V,tV 1 f.V] [tV 0 (.tup [.agg [.d (.i ((dF k f).1).id),.d (.b ((dF k f).1).up),.d (.s ((dF k f).1).log),.d (.i ((dF k f).1).forced),.d (.sl (aY ((dF k f).1).halves))],.c (.d (.sl (nI (dF k f).2)))])]:=by
 refine sb Tryz.func218 rfl (sq (rT [2,3,4] (s4 (sq (rT [2,3,4,6] (s2 (sq (sq (rT [2,3,4,6,18] (s1 (xp (gT k hl) (ai rfl ?_))))))))))))
 refine s1 (cd rfl (fun c18=> ?_) fun c18=> ?_)
 · have hno: ¬aR k=true:=kV c18
   refine sq (rT [4,5] (s4 (rt ?_)))
   have hr:dF k f=(.zero,[]):=yn hno
   refine rq [] [15] rfl ?_
   repeat' apply ai
   all_goals try exact qx
   all_goals(first|with_reducible rfl|(rw[hr];done)|(rw[hr];rfl)|exact aF _|rfl)
 have hok:aR k=true:=gJ c18
 have hlg:=eK hok
 have hK:=kJ hok
 have h6:=eZ (gA hok)
 have hkb:=nB hok
 have hsk:dA k.log k.forced=true:=(eJ hlg.1).2.1
 obtain⟨⟨_,htm,hnx,_⟩,_⟩:=(cB _).1 (gA hok)
 refine sk (sq (rT [2,3,4,6,7] (s1 (bK (robj:=[]) (rl:=[(0,22)]) (bor:=[]) (jj k (⟨by omega,fun x hx=>by have:=hlg.2.2.2.2.2 x hx;omega⟩)) rfl rfl rfl rfl ⟨dX rfl (aD rfl (aD rfl (aD rfl (aD rfl (aD rfl aJ))))) trivial,rfl⟩ rfl (.inl rfl) (fun p hp=>nomatch hp) (fun j hj=>by(obtain rfl:j=0:=by simpa[kN,cD,iO] using hj);rfl) (s2 (sq (sq (rT [2,3,4,6,7,37] (s4 (y1 (xc (fun h=>(dx f)) (ai rfl (ai rk ?_)))))))))))))
 refine y1 (ai pk (s1 (y4 (y1 (ai pk (cd rfl (fun c37=> ?_) fun c37=> ?_))))))
 · have hnot: ¬(k.up&&eO f&&f.dst==k.id)=true:=by intro h;simp at h;simp[h.1.1,h.1.2,h.2] at c37
   refine sq (rT [4,5] (s4 (rt ?_)))
   have hr:dF k f=(k,[]):=yo hok hnot
   refine rq [] [22,15] rfl ?_
   repeat' apply ai
   all_goals try exact qx
   all_goals(first|with_reducible rfl|(rw[hr];done)|(rw[hr];rfl)|exact aF _|rfl)
 have hgo: (k.up&&eO f&&f.dst==k.id)=true:=by simp at c37;simp[c37]
 have hu:k.up=true:=by simp at hgo;exact hgo.1.1
 have hf:eO f=true:=by simp at hgo;exact hgo.1.2
 refine sk (sq (sq (rT [2,3,4,6,7,42] (s3 (cd rfl (fun c42=> ?_) fun c42=> ?_)))))
 · have hkd:f.kind=1:=by simpa using c42
   have hhh:=ss hok hu hf hkd
   refine sq (rT [4,8,9] (s2 (bK (robj:=[(22,.row 85 6 (aY k.halves))]) (rl:=[(0,22)]) (bor:=[]) (tw k f hok hu hf hkd) rfl rfl rfl rfl ⟨dX rfl (aD rfl (aD rfl (aD rfl (aD rfl (bQ rfl rfl rfl aJ))))) (dX rfl (aD rfl (aD rfl (aD rfl (aD rfl (aD rfl (aD rfl (aD rfl (aD rfl (aD rfl (aD rfl aJ)))))))))) (bV rfl rfl trivial)),rfl⟩ rfl (.inl rfl) (aI ⟨rfl,trivial⟩) (fun _ hj=>nomatch hj) (s6 (sq (rT [4,5] (s1 (xp (gC (dV k f).1 ⟨by have:=hhh.2;omega,fun x hx=>by have:=aKr hhh.1 x hx;omega⟩) (ai rfl ?_)))))))))
   refine s3 (rt ?_)
   have hr:dF k f=dV k f:=je hok hgo hkd
   refine rq [] [] rfl ?_
   repeat' apply ai
   all_goals try exact qx
   all_goals(first|with_reducible rfl|(rw[hr];done)|(rw[hr];rfl)|exact aF _|rfl)
 have hkd: ¬f.kind=1:=by simpa using c42
 have hfs:=mF hf
 refine sk (sq (rT [3,4,6,7,10] (s1 (xp (gS k (by omega)) (ai rfl ?_)))))
 refine s6 (sq (rT [3,4,6,7,10,12] (s6 (xp (gB (aZ k).1.held f.frm f.num (by have:=h6.1.1;omega)) (ai rfl ?_)))))
 refine s1 (sq (sq (rD [3,4,6,7,92] (s4 (y2 (ai pk (s1 (y3 (ai (fun h=>(by simp[gb] at h;obtain⟨j,hj,hjl,_⟩:=sB hok (f:=f.frm) (n:=f.num) (by omega);rw[hj,aW6,aQ hjl];exact⟨⟨by omega,by rw[aC];omega⟩,rfl⟩)) (ai rk (y1 (ai (fun h=>(by simp[gb] at h;obtain⟨j,hj,hjl,_⟩:=sB hok (f:=f.frm) (n:=f.num) (by omega);rw[hj,aW6,aQ hjl];exact⟨aW8 rfl,rfl⟩)) (ai rk (y3 (ai pk (s1 (y3 (ai (fun h=>(by simp[gb] at h;obtain⟨j,hj,hjl,_⟩:=sB hok (f:=f.frm) (n:=f.num) (by omega);rw[hj,aW6,aQ hjl];exact⟨⟨by omega,by rw[aC];omega⟩,rfl⟩)) (ai rk (y1 (ai (fun h=>(by simp[gb] at h;obtain⟨j,hj,hjl,_⟩:=sB hok (f:=f.frm) (n:=f.num) (by omega);rw[hj,aW6,aQ hjl];exact⟨aW8 rfl,rfl⟩)) (ai rk (y3 (ai pk (ai (by kernel_rfl) (cd rfl (fun c92=> ?_) fun c92=> ?_))))))))))))))))))))))))))
 · have hno: ¬dc k f=true:=aPn hok c92
   refine sq (rT [4,5] (s4 (rt ?_)))
   have hr:dF k f=(k,[]):=pw hok hgo hkd hno
   refine rq [] [22,15] rfl ?_
   repeat' apply ai
   all_goals try exact qx
   all_goals(first|with_reducible rfl|(rw[hr];done)|(rw[hr];rfl)|exact aF _|rfl)
 have hyes:dc k f=true:=aM0 hok c92
 refine sk (sq (wa [tP 3 3,tP 4 4,tP 7 7,tO 6 15 0,oB 2 27 [.d (.i (k).id),.d (.b (k).up),.d (.s (k).log),.d (.i (k).forced),.d (.sl (aY (k).halves))],oB 3 63 [.d (.i f.kind),.d (.i f.src),.d (.i f.dst),.d (.i f.frm),.d (.i f.num),.d (.i f.to),.d (.i f.til),.d (.i f.size),.d (.i f.mix),.d (.s f.data)],oB 4 27 [.d (.i 0),.d (.b false),.d (.s []),.d (.i 0),.nil],oB 7 27 [.d (.i (k).id),.d (.b (k).up),.d (.s (k).log),.d (.i (k).forced),.d (.sl (aY (k).halves))],oR 15 63 10 []] [] [22] ?_ ?_))
 · repeat' apply ai
   all_goals first|exact qx|exact aF _|rfl|exact qz
 have q1:=bS (k:=6) (n:=f.frm.toNat) (by simp;omega)
 have q2:=bS (k:=6) (n:=f.num.toNat) (by simp;omega)
 have q3:=bS (k:=6) (n:=f.til.toNat) (by simp;omega)
 have hll: (pr f).length≤100:=by simp[pr,iE,nP];omega
 refine rD [4,6,13] (s7 (xp (br f.frm f.num f.til (by have:=hfs;omega)) (ai rfl ?_)))
 refine ai (by show _≤9223372036854775807;(try simp only[aW7,aW9,aXa]);omega) (xp (nD k (pr f) false hok (by omega)) (ai rfl ?_))
 refine s6 (ai (by kernel_rfl) (sq (rT [4,5] (s4 (rt ?_)))))
 have hr:dF k f=((fW k (pr f) false).1,[]):=yp hok hgo hkd hyes
 refine rq [] [15] rfl ?_
 repeat' apply ai
 all_goals try exact qx
 all_goals(first|with_reducible rfl|(rw[hr];done)|(rw[hr];rfl)|exact aF _|rfl)
set_option maxHeartbeats 1600000 in
theorem nk (k:aH) (keep:Int) (hl:k.log.length≤140737488355328):Sp 26 2 [tV 0 k.V,tI 1 keep] [tV 0 ((dM k keep).V)]:=by
 refine sb Tryz.func26 rfl (sq (rT [1,2,4] (s2 (sq (sq (rT [1,2,4,7] (s1 (xp (gT k hl) (ai rfl ?_)))))))))
 refine s1 (cd rfl (fun c7=> ?_) fun c7=> ?_)
 · have hno: ¬aR k=true:=kV c7
   refine sq (rT [4] (s2 (rt ?_)))
   have hr:dM k keep= .zero:=if_neg hno
   refine rq [] [] rfl ?_
   repeat' apply ai
   all_goals try exact qx
   all_goals(first|with_reducible rfl|(rw[hr];done)|(rw[hr];rfl)|rfl)
 have hok:aR k=true:=gJ c7
 have hlg:=eK hok
 refine sk (sq (rD [4] (s5 (xp (qh k.log k.forced keep (by omega)) (ai rfl ?_)))))
 refine s2 (ai (by kernel_rfl) (rt ?_))
 have hr:dM k keep=⟨k.id,false,(fU k.log k.forced keep).1,(fU k.log k.forced keep).2,[]⟩:=if_pos hok
 refine rq [] [] rfl ?_
 repeat' apply ai
 all_goals try exact qx
 all_goals(first|with_reducible rfl|(rw[hr];done)|(rw[hr];rfl)|rfl)
set_option maxHeartbeats 1600000 in
theorem wR (k:aH) (keep:Int) (hl:k.log.length≤140737488355328):Sp 27 2 [tV 0 k.V,tI 1 keep] [tV 0 ((dM k keep).V)]:=by
 refine sb Tryz.func27 rfl (sq (rT [1,2,4] (s2 (sq (sq (rT [1,2,4,7] (s1 (xp (lA k hl) (ai rfl ?_)))))))))
 refine s1 (cd rfl (fun c7=> ?_) fun c7=> ?_)
 · have hno: ¬aR k=true:=kV c7
   refine sq (rT [4] (s2 (rt ?_)))
   have hr:dM k keep= .zero:=if_neg hno
   refine rq [] [] rfl ?_
   repeat' apply ai
   all_goals try exact qx
   all_goals(first|with_reducible rfl|(rw[hr];done)|(rw[hr];rfl)|rfl)
 have hok:aR k=true:=gJ c7
 have hlg:=eK hok
 refine sk (sq (rD [4] (s5 (xp (qg k.log k.forced keep (by omega)) (ai rfl ?_)))))
 refine s2 (ai (by kernel_rfl) (rt ?_))
 have hr:dM k keep=⟨k.id,false,(fU k.log k.forced keep).1,(fU k.log k.forced keep).2,[]⟩:=if_pos hok
 refine rq [] [] rfl ?_
 repeat' apply ai
 all_goals try exact qx
 all_goals(first|with_reducible rfl|(rw[hr];done)|(rw[hr];rfl)|rfl)
set_option maxHeartbeats 1600000 in
theorem nl (k:aH) (hl:k.log.length≤140737488355328):Sp 29 1 [tV 0 k.V] [tV 0 ((dP k).V)]:=by
 refine sb Tryz.func29 rfl (sq (rT [1,2] (s2 (sq (sq (rT [1,2,5] (s1 (xp (gT k hl) (ai rfl ?_)))))))))
 refine s1 (cd rfl (fun c5=> ?_) fun c5=> ?_)
 · have hno: ¬aR k=true:=kV c5
   refine sq (rT [2] (s2 (rt ?_)))
   have hr:dP k= .zero:=if_neg hno
   refine rq [] [] rfl ?_
   repeat' apply ai
   all_goals try exact qx
   all_goals(first|with_reducible rfl|(rw[hr];done)|(rw[hr];rfl)|rfl)
 have hok:aR k=true:=gJ c5
 have hlg:=eK hok
 refine sk (sq (sq (rT [1,2,8] (s2 (cd rfl (fun c8=> ?_) fun c8=> ?_)))))
 · have hu:k.up=true:=c8
   refine sq (rT [2] (s1 (xp (gC k (⟨by omega,fun x hx=>by have:=hlg.2.2.2.2.2 x hx;omega⟩)) (ai rfl ?_))))
   refine s1 (rt ?_)
   have hr:dP k=k:=by rw[dP,if_pos hok];cases k;simp at hu;simp[hu]
   refine rq [] [] rfl ?_
   repeat' apply ai
   all_goals try exact qx
   all_goals(first|with_reducible rfl|(rw[hr];done)|(rw[hr];rfl)|rfl)
 have hu:k.up=false:=c8
 refine sk (sq (rT [2] (s6 (rt ?_))))
 have hr:=aMn hok hu
 refine rq [] [] rfl ?_
 repeat' apply ai
 all_goals try exact qx
 all_goals(first|with_reducible rfl|(rw[hr];done)|(rw[hr];rfl)|rfl)
set_option maxHeartbeats 1600000 in
theorem wS (k:aH) (hl:k.log.length≤140737488355328):Sp 30 1 [tV 0 k.V] [tV 0 ((dP k).V)]:=by
 refine sb Tryz.func30 rfl (sq (rT [1,2] (s2 (sq (sq (rT [1,2,6] (s1 (xp (lA k hl) (ai rfl ?_)))))))))
 refine s1 (cd rfl (fun c6=> ?_) fun c6=> ?_)
 · have hno: ¬aR k=true:=kV c6
   refine sq (rT [2] (s2 (rt ?_)))
   have hr:dP k= .zero:=if_neg hno
   refine rq [] [] rfl ?_
   repeat' apply ai
   all_goals try exact qx
   all_goals(first|with_reducible rfl|(rw[hr];done)|(rw[hr];rfl)|rfl)
 have hok:aR k=true:=gJ c6
 have hlg:=eK hok
 refine sk (sq (rT [2,3] (s1 (xp (lI k (⟨by omega,fun x hx=>by have:=hlg.2.2.2.2.2 x hx;omega⟩)) (ai rfl ?_)))))
 refine s2 (sq (rT [2,3] (s2 (sq (rT [2] (s2 (rt ?_)))))))
 have hr:dP k={k with up:=true}:=if_pos hok
 refine rq [] [] rfl ?_
 repeat' apply ai
 all_goals try exact qx
 all_goals(first|with_reducible rfl|(rw[hr];done)|(rw[hr];rfl)|rfl)
set_option maxHeartbeats 1600000 in
theorem jl (k:aH) (hl:k.log.length≤140737488355328):Sp 32 1 [tV 0 k.V] [tV 0 (.tup [.agg [.d (.i ((eS k).1).id),.d (.b ((eS k).1).up),.d (.s ((eS k).1).log),.d (.i ((eS k).1).forced),.d (.sl (aY ((eS k).1).halves))],.c (.d (.b (eS k).2))])]:=by
 refine sb Tryz.func32 rfl (sq (rT [1,2] (s3 (sq (sq (rT [1,2,7] (s1 (xp (gT k hl) (ai rfl ?_)))))))))
 refine s1 (cd rfl (fun c7=> ?_) fun c7=> ?_)
 · have hno: ¬aR k=true:=kV c7
   refine sq (rT [2,3] (s3 (rt ?_)))
   have hr:eS k=(.zero,false):=if_neg hno
   refine rq [] [] rfl ?_
   repeat' apply ai
   all_goals try exact qx
   all_goals(first|with_reducible rfl|(rw[hr];done)|(rw[hr];rfl)|rfl)
 have hok:aR k=true:=gJ c7
 have hlg:=eK hok
 refine sk (sq (rT [1,2,4] (s1 (xp (gC k (⟨by omega,fun x hx=>by have:=hlg.2.2.2.2.2 x hx;omega⟩)) (ai rfl ?_)))))
 refine s2 (sq (sq (rT [1,2,4,23] (s4 (y4 (y4 (ai pk (cd rfl (fun c23=> ?_) fun c23=> ?_))))))))
 · refine sq (rT [2,3] (s3 (rt ?_)))
   have hr:eS k=(k,false):=by rw[eS,if_pos hok,if_pos c23]
   refine rq [] [] rfl ?_
   repeat' apply ai
   all_goals try exact qx
   all_goals(first|with_reducible rfl|(rw[hr];done)|(rw[hr];rfl)|rfl)
 refine sk (sq (rT [2,4] (s2 (xp (iT k.log k.forced (by omega)) (ai rfl ?_)))))
 refine s2 (sq (rT [2,3] (s3 (rt ?_))))
 have hr:eS k=(jN k,true):=by rw[eS,if_pos hok,if_neg (by rw[c23];decide)]
 refine rq [] [] rfl ?_
 repeat' apply ai
 all_goals try exact qx
 all_goals(first|with_reducible rfl|(rw[hr];done)|(rw[hr];rfl)|rfl)
set_option maxHeartbeats 1600000 in
theorem dz (a:Nat) (l:List cF) (ha:a≤30) (hl:l.length≤1000) (hp: ∀f∈l,FP f):Sp 219 2 [tV 0 (.e (.c (ps 804 4 (a)))),tD 1 (.sl (nI l)),(.o 804,aK 210 4 fI)] [tV 0 (.e (.c (ps 804 4 (gm a l.length)))),(.o 804,aK 210 4 fI)]:=by
 refine sb Tryz.func219 rfl (sq (rT [0,1] (s1 (sq (sq (rT [0,1,5] (s1 (bk (SW.loopW (n:=l.length) (fun m q=> ∃i:Nat,m=l.length - i∧(i≤l.length∧a+i≤30)∧q=[tV 0 (.e (.c (ps 804 4 (a+i)))),tD 1 (.sl (nI l)),tI 5 (i:Nat),(.o 804,aK 210 4 fI)]) ?_ ?_)))))))))
 · exact wq (σ':=[tV 0 (.e (.c (ps 804 4 (a+0)))),tD 1 (.sl (nI l)),tI 5 (0:Nat),(.o 804,aK 210 4 fI)]) [] [] (⟨0,rfl,⟨aXd _,ha⟩,rfl⟩) qz
 rintro n s ⟨i,rfl,hi,rfl⟩
 refine sq (sq (rT [0,1,5,14] (s5 (y1 (aEf cV rfl rfl rfl rfl rfl rk (y1 (ai pk (cd rfl (fun c14=> ?_) fun c14=> ?_))))))))
 · have hi2:i<l.length∧a+i<30:=by simp[lW] at c14;omega
   have hg:=yr (l:=l) hi2.1
   have hfp:=hp _ (dB (z:=cF.zero) hi2.1)
   refine sk (sq (bk (rD [0,1,5] (s3 (ai (by rw[aW6,hg];exact⟨⟨by omega,by rw[lW];omega⟩,rfl⟩) (s1 (ai (by rw[aW6,hg];exact⟨aW8 rfl,rfl⟩) (s2 (ai (by rw[aW6,hg];exact⟨⟨by omega,by rw[lW];omega⟩,rfl⟩) (s1 (ai (by rw[aW6,hg];exact⟨aW8 rfl,rfl⟩) (s2 (ai (by rw[aW6,hg];exact⟨⟨by omega,by rw[lW];omega⟩,rfl⟩) (ai (by rw[aW6,hg];exact⟨aW8 rfl,rfl⟩) (bK (robj:=[]) (rl:=[(0,32)]) (bor:=[]) (sH (l.getD i .zero)) rfl rfl rfl rfl ⟨dX rfl (by rw[aW6,hg];exact(aD rfl (aD rfl (aD rfl (aD rfl (aD rfl (aD rfl (aD rfl (aD rfl (aD rfl (aD rfl aJ))))))))))) trivial,rfl⟩ rfl (.inl rfl) (fun p hp=>nomatch hp) (fun j hj=>by(obtain rfl:j=0:=by simpa[kN,cD,iO] using hj);rfl) ?_)))))))))))))))
   refine ai (by exact⟨aU _,by rw[cG]⟩) (s2 (om (m:=1) (z:=[.i 0,.i 0,.s [],.b false]) cV rfl rfl rfl rfl rfl rfl rfl rfl yq (ko cV (by decide) rfl rfl rfl (fun r hr=> ?_) rfl) ?_ ?_))
   · rw[aXo.1 hr,aW6,hg]
     exact⟨rfl,⟨_,_,_,_⟩,rfl,hfp.1,by have:=aAf (l.getD i .zero);show(jR (aA (pX (l.getD i .zero)))).length≤1000;rw[cG];omega⟩
   · show(a+i+1)*40≤_;omega
   refine s1 (ai (by kernel_rfl) (rT [0,1,5] (s3 (wq [] [] (⟨l.length - (i+1),by omega,i+1,rfl,by omega,rfl⟩) ?_))))
   repeat' apply ai
   all_goals first|exact qx|exact congrArg D.i (by rw[aB (by omega)];omega)|omega|exact qz
 have hi3:i=l.length∨a+i=30:=by simp[lW] at c14;omega
 refine xt (sq (rT [4] (s2 (rt (eA _ [] [] rfl (aOn rfl rfl ?_ rfl (aW rfl rfl trivial)) rfl rfl)))))
 unfold gm;omega
theorem zi (a b:Int):Sp 216 2 [tI 0 a,tI 1 b] [tI 0 (dg a b)]:=by
 refine sb Tryz.func216 rfl (sq (rT [0,1] (s1 (sq (sq (rT [0,1,7] (s3 (cd rfl (fun c7=> ?_) fun c7=> ?_))))))))
 · refine sq (rT [4] (s2 (rt (bN rfl (congrArg D.i ?_)))))
   simp[dg] at *; omega
 refine sk (sq (rT [4] (s2 (rt (bN rfl (congrArg D.i ?_))))))
 simp[dg] at *; omega
set_option maxHeartbeats 3200000 in
theorem aA9 (tm:Int) (ks:List aH) (ls:List Bool) (a b c:Nat) (e:EvR) (hw:WOk ks ls a b c) (htx:e.text.length≤1000) (hat:0≤e.at_∧e.at_≤3):ui 220 2 [tV 0 (.e (.agg [.d (.i (tm)),.own 802 4,.own 803 3,ps 804 4 (a),ps 805 5 (b),ps 806 5 (c)])),(.t 1,.v e.V),oR 802 27 5 (aG ks),oR 803 4 1 (aM ls),(.o 804,aK 210 4 fI),(.o 805,aK 58 5 cJ),(.o 806,aK 58 5 cJ)] (fun s=> ∃(tm:Int) (ks:List aH) (ls:List Bool) (a b c:Nat) (ok:Bool),WOk ks ls a b c∧s=[tV 0 (.tup [.agg [.d (.i (tm)),.own 802 4,.own 803 3,ps 804 4 (a),ps 805 5 (b),ps 806 5 (c)],.c (.d (.b (ok)))]),oR 802 27 5 (aG ks),oR 803 4 1 (aM ls),(.o 804,aK 210 4 fI),(.o 805,aK 58 5 cJ),(.o 806,aK 58 5 cJ)]):=by
 obtain⟨i,hi,hil⟩:=wO hat
 have hks:=hw.at hil
 refine yv Tryz.func220 rfl (sq (rT [2,3,4] (s4 (sq (sq (rT [2,3,4,11] (s2 (ij cV rfl rfl rfl rfl rfl (s1 (cd rfl (fun c11=> ?_) fun c11=> ?_))))))))))
 · refine sq (rT [4,5] (s3 (rt (cW [tV 0 (.tup [.agg [.d (.i (tm)),.own 802 4,.own 803 3,ps 804 4 (a),ps 805 5 (b),ps 806 5 (c)],.c (.d (.b (false)))]),oR 802 27 5 (aG ks),oR 803 4 1 (aM ls),(.o 804,aK 210 4 fI),(.o 805,aK 58 5 cJ),(.o 806,aK 58 5 cJ)] ⟨tm,ks,ls,a,b,c,false,hw,rfl⟩ (rq [] [] rfl ?_)))))
   repeat' apply ai
   all_goals try exact qx
   all_goals(first|with_reducible rfl|(rw[hi,aW6];exact bL (by rw[hw.four];exact hil))|rfl)
 have hb6:b<6:=by simp at c11;omega
 refine sk (sq (rD [2,3,4,6,7] (s4 (ai (by rw[hi];exact⟨by rw[bE];exact hw.four,by omega,by omega⟩) (ai (by rw[hi,aW6,bY (by rw[hw.four];exact hil)];exact⟨⟨by rw[bE];exact hw.four,hil⟩,aW8 rfl,rfl⟩) (s6 (xp (sG (ks.getD i .zero) e.dst e.til e.text (by have:=hks.1;omega) (by omega)) (ai (by rw[hi,aW6,bY (by rw[hw.four];exact hil)];rfl) ?_))))))))
 refine s6 (ai (by kernel_rfl) (sq (sq (rT [2,3,4,6,7,30] (s2 (cd rfl (fun c30=> ?_) fun c30=> ?_))))))
 · refine sq (rT [4,5] (s3 (rt (cW [tV 0 (.tup [.agg [.d (.i (tm)),.own 802 4,.own 803 3,ps 804 4 (a),ps 805 5 (b),ps 806 5 (c)],.c (.d (.b (false)))]),oR 802 27 5 (aG ks),oR 803 4 1 (aM ls),(.o 804,aK 210 4 fI),(.o 805,aK 58 5 cJ),(.o 806,aK 58 5 cJ)] ⟨tm,ks,ls,a,b,c,false,hw,rfl⟩ (rq [] [] rfl ?_)))))
   repeat' apply ai
   all_goals try exact qx
   all_goals(first|with_reducible rfl|(rw[hi,aW6];exact bL (by rw[hw.four];exact hil))|rfl)
 refine sk (sq (rT [2,3,4,7] (s5 (ai (by rw[hi];exact⟨by rw[bE];exact hw.four,by omega,by omega⟩) (ai (by rw[hi,aW6,bY (by rw[hw.four];exact hil)];exact⟨by rw[bE];exact hw.four,hil,rfl,aW8 rfl⟩) (sq (wa [tP 2 2,tP 3 3,tP 4 4,tI 7 ((bD (ks.getD i .zero) e.dst e.til e.text).2),oB 2 99 [.d (.i (tm)),.own 802 4,.own 803 3,ps 804 4 (a),ps 805 5 (b),ps 806 5 (c)],oB 3 157 [.d (.i e.kind),.d (.i e.at_),.d (.i e.frm),.d (.i e.num),.d (.i e.word),.d (.i e.mix),.d (.i e.keep),.d (.i e.dst),.d (.i e.til),.d (.s e.text)],oB 4 99 [.d (.i 0),.nil,.nil,.nil,.nil,.nil],oB 6 27 [.d (.i (((bD (ks.getD i .zero) e.dst e.til e.text).1)).id),.d (.b (((bD (ks.getD i .zero) e.dst e.til e.text).1)).up),.d (.s (((bD (ks.getD i .zero) e.dst e.til e.text).1)).log),.d (.i (((bD (ks.getD i .zero) e.dst e.til e.text).1)).forced),.d (.sl (aY (((bD (ks.getD i .zero) e.dst e.til e.text).1)).halves))],oR 802 27 5 (aG (ks.set i (bD (ks.getD i .zero) e.dst e.til e.text).1)),oR 803 4 1 (aM ls),(.o 804,aK 210 4 fI),(.o 805,aK 58 5 cJ),(.o 806,aK 58 5 cJ)] [] [] ?_ ?_)))))))
 · repeat' apply ai
   all_goals first|exact qx|(rw[hi,aW6];exact bL (k:=(bD (ks.getD i .zero) e.dst e.til e.text).1) (by rw[hw.four];exact hil))|rfl|exact qz
 refine rT [2,4] (s9 (s4 (om (m:=1) (z:=[.i 0,.i 0,.i 0,.i 0,.s []]) cV rfl rfl rfl rfl rfl rfl rfl rfl aG3 (ko cV (by decide) rfl rfl rfl (fun r hr=> ?_) rfl) ?_ ?_)))
 · rw[aXo.1 hr]
   exact⟨rfl,⟨_,_,_,_,_⟩,rfl,by show e.text.length≤1000000;omega⟩
 · have:=hw.rb;show(_+1)*48≤_;omega
 refine s2 (sq (rT [4,5] (s3 (rt (cW [tV 0 (.tup [.agg [.d (.i (tm)),.own 802 4,.own 803 3,ps 804 4 (a),ps 805 5 ((b+1)),ps 806 5 (c)],.c (.d (.b (true)))]),oR 802 27 5 (aG (ks.set i (bD (ks.getD i .zero) e.dst e.til e.text).1)),oR 803 4 1 (aM ls),(.o 804,aK 210 4 fI),(.o 805,aK 58 5 cJ),(.o 806,aK 58 5 cJ)] ⟨tm,(ks.set i (bD (ks.getD i .zero) e.dst e.til e.text).1),ls,a,(b+1),c,true,((hw.set (aM1 hks) i).to hw.ra (by omega) hw.rc),rfl⟩ (rq [] [] rfl ?_))))))
 repeat' apply ai
 all_goals try exact qx
 all_goals(first|with_reducible rfl|(rw[hi,aW6];exact bL (by rw[hw.four];exact hil))|rfl)
set_option maxHeartbeats 6400000 in
theorem qo (tm:Int) (ks:List aH) (ls:List Bool) (a b c:Nat) (e:EvR) (hw:WOk ks ls a b c) (htx:e.text.length≤1000) (hat:0≤e.at_∧e.at_≤3):ui 205 2 [tV 0 (.e (.agg [.d (.i (tm)),.own 802 4,.own 803 3,ps 804 4 (a),ps 805 5 (b),ps 806 5 (c)])),(.t 1,.v e.V),oR 802 27 5 (aG ks),oR 803 4 1 (aM ls),(.o 804,aK 210 4 fI),(.o 805,aK 58 5 cJ),(.o 806,aK 58 5 cJ)] (fun s=> ∃(tm:Int) (ks:List aH) (ls:List Bool) (a b c:Nat) (ok:Bool),WOk ks ls a b c∧s=[tV 0 (.tup [.agg [.d (.i (tm)),.own 802 4,.own 803 3,ps 804 4 (a),ps 805 5 (b),ps 806 5 (c)],.c (.d (.b (ok)))]),oR 802 27 5 (aG ks),oR 803 4 1 (aM ls),(.o 804,aK 210 4 fI),(.o 805,aK 58 5 cJ),(.o 806,aK 58 5 cJ)]):=by
 obtain⟨i,hi,hil⟩:=wO hat
 have hks:=hw.at hil
 refine yv Tryz.func205 rfl (sq (rT [2,3,4] (s4 (sq (rT [2,3,4,6] (s4 (ai (by rw[hi];exact⟨by rw[bE];exact hw.four,by omega,by omega⟩) (ai (by rw[hi,aW6,bY (by rw[hw.four];exact hil)];exact⟨⟨by rw[bE];exact hw.four,hil⟩,aW8 rfl,rfl⟩) (s2 (sq (wa [tP 2 2,tP 3 3,tP 4 4,tP 6 6,oB 2 99 [.d (.i (tm)),.own 802 4,.own 803 3,ps 804 4 (a),ps 805 5 (b),ps 806 5 (c)],oB 3 157 [.d (.i e.kind),.d (.i e.at_),.d (.i e.frm),.d (.i e.num),.d (.i e.word),.d (.i e.mix),.d (.i e.keep),.d (.i e.dst),.d (.i e.til),.d (.s e.text)],oB 4 99 [.d (.i 0),.nil,.nil,.nil,.nil,.nil],oB 6 27 [.d (.i ((ks.getD i .zero)).id),.d (.b ((ks.getD i .zero)).up),.d (.s ((ks.getD i .zero)).log),.d (.i ((ks.getD i .zero)).forced),.d (.sl (aY ((ks.getD i .zero)).halves))],oR 802 27 5 (aG ks),oR 803 4 1 (aM ls),(.o 804,aK 210 4 fI),(.o 805,aK 58 5 cJ),(.o 806,aK 58 5 cJ)] [] [] ?_ ?_)))))))))))
 · repeat' apply ai
   all_goals first|exact qx|(rw[hi,aW6,bY (by rw[hw.four];exact hil)];rfl)|exact qz
 refine rT [2,3,4,6,7] (s1 (SW.midW (fun q=> ∃(ks2:List aH) (ok2:Bool),WOk ks2 ls a b c∧q=[tP 2 2,tP 4 4,tB 7 ok2,oB 2 99 [.d (.i (tm)),.own 802 4,.own 803 3,ps 804 4 (a),ps 805 5 (b),ps 806 5 (c)],oB 3 157 [.d (.i e.kind),.d (.i e.at_),.d (.i e.frm),.d (.i e.num),.d (.i e.word),.d (.i e.mix),.d (.i e.keep),.d (.i e.dst),.d (.i e.til),.d (.s e.text)],oB 4 99 [.d (.i 0),.nil,.nil,.nil,.nil,.nil],oR 802 27 5 (aG ks2),oR 803 4 1 (aM ls),(.o 804,aK 210 4 fI),(.o 805,aK 58 5 cJ),(.o 806,aK 58 5 cJ)]) ?_ ?_))
 · refine sq (rT [2,3,4,6,7,20] (s2 (bk (sq (rT [2,3,4,6,7,20,21] (s2 (cd rfl (fun c21=> ?_) fun c21=> ?_)))))))
   · refine sq (rE [4,5] (s2 (cP (robj:=[(802,.row 27 5 (aG ks)),(803,.row 4 1 (aM ls)),(804,aK 210 4 fI),(805,aK 58 5 cJ),(806,aK 58 5 cJ)]) (rl:=[]) (bor:=[]) (news:=[]) (aA9 tm ks ls a b c e hw htx hat) rfl rfl rfl rfl ⟨dX rfl (aD rfl (bQ rfl rfl rfl (bQ rfl rfl rfl (bF rfl rfl rfl (bF rfl rfl rfl (bF rfl rfl rfl aJ)))))) (dX rfl (aD rfl (aD rfl (aD rfl (aD rfl (aD rfl (aD rfl (aD rfl (aD rfl (aD rfl (aD rfl aJ)))))))))) (bV rfl rfl (bV rfl rfl (aW rfl rfl (aW rfl rfl (aW rfl rfl trivial)))))),rfl⟩ (by rintro _ ⟨tm2,ks2,ls2,a2,b2,c2,ok2,hw2,rfl⟩;exact⟨rfl,.inl rfl,fun j hj=>nomatch hj⟩) (aI ⟨rfl,rfl,rfl,rfl,rfl,trivial⟩) (fun j hj=>nomatch hj) ?_)))
     rintro _ ⟨tm2,ks2,ls2,a2,b2,c2,ok2,hw2,rfl⟩
     refine s4 (rt (cW [tV 0 (.tup [.agg [.d (.i (tm2)),.own 802 4,.own 803 3,ps 804 4 (a2),ps 805 5 (b2),ps 806 5 (c2)],.c (.d (.b (ok2)))]),oR 802 27 5 (aG ks2),oR 803 4 1 (aM ls2),(.o 804,aK 210 4 fI),(.o 805,aK 58 5 cJ),(.o 806,aK 58 5 cJ)] ⟨tm2,ks2,ls2,a2,b2,c2,ok2,hw2,rfl⟩ (rq [] [] rfl ?_)))
     repeat' apply ai
     all_goals try exact qx
     all_goals(first|with_reducible rfl|(rw[hi,aW6];exact bL (by rw[hw.four];exact hil))|rfl)
   refine sq (rT [2,3,4,6,7,20,28] (s2 (cd rfl (fun c28=> ?_) fun c28=> ?_)))
   · refine rD [2,4,7] (s5 (xp (nh (ks.getD i .zero) (by have:=hks.1;omega)) (ai rfl ?_)))
     refine s3 (ai (by rw[hi];exact⟨by rw[bE];exact hw.four,by omega,by omega⟩) (ai (by rw[hi,aW6,bY (by rw[hw.four];exact hil)];exact⟨by rw[bE];exact hw.four,hil,rfl,aW8 rfl⟩) (s1 (ai (by kernel_rfl) ?_))))
     first
     |(refine wq [] [] (⟨(ks.set i (dY (ks.getD i .zero)).1),(dY (ks.getD i .zero)).2,(hw.set (ao hks) i),rfl⟩) ?_
       repeat' apply ai
       all_goals try exact qx
       all_goals(first|with_reducible rfl|(rw[hi,aW6];exact bL (by rw[hw.four];exact hil))|rfl))
     |(refine wq [] [] (⟨(ks.set i (eN (ks.getD i .zero)).1),(eN (ks.getD i .zero)).2,(hw.set (ap hks) i),rfl⟩) ?_
       repeat' apply ai
       all_goals try exact qx
       all_goals(first|with_reducible rfl|(rw[hi,aW6];exact bL (by rw[hw.four];exact hil))|rfl))
     |(refine wq [] [] (⟨(ks.set i (eS (ks.getD i .zero)).1),(eS (ks.getD i .zero)).2,(hw.set (wN hks) i),rfl⟩) ?_
       repeat' apply ai
       all_goals try exact qx
       all_goals(first|with_reducible rfl|(rw[hi,aW6];exact bL (by rw[hw.four];exact hil))|rfl))
     |(refine wq [] [] (⟨ks,false,hw,rfl⟩) ?_
       repeat' apply ai
       all_goals try exact qx
       all_goals(first|with_reducible rfl|(rw[hi,aW6];exact bL (by rw[hw.four];exact hil))|rfl))
   refine sq (rT [2,3,4,6,7,20,40] (s2 (cd rfl (fun c40=> ?_) fun c40=> ?_)))
   · refine sq (rT [2,4,8,9] (s7 (xp (qk (ks.getD i .zero) e.frm e.num e.mix (by have:=hks.1;omega)) (ai rfl ?_))))
     refine s6 (sq (sq (rT [2,4,8,9,53] (s1 (cd rfl (fun c53=> ?_) fun c53=> ?_)))))
     · refine rE [2,4,9] (s4 (zF 57 57 rfl rfl rfl (by rfl) (iD (bK (robj:=[(804,aK 210 4 fI)]) (rl:=[]) (bor:=[]) (dz a [(eQ (ks.getD i .zero) e.frm e.num e.mix).1] hw.ra (by simp) (fun f hf=>by rw[aXo.1 hf];exact aU8 c53)) rfl rfl rfl rfl ⟨aOn rfl rfl rfl rfl (cI rfl rfl (aW rfl rfl trivial)),rfl⟩ rfl (.inl rfl) (aI ⟨rfl,trivial⟩) (fun j hj=>nomatch hj) (s2 (sq (rT [4,5] (s4 (rt ?_)))))))))
       first
       |(refine cW [tV 0 (.tup [.agg [.d (.i (tm)),.own 802 4,.own 803 3,ps 804 4 ((gm a 1)),ps 805 5 (b),ps 806 5 (c)],.c (.d (.b ((eQ (ks.getD i .zero) e.frm e.num e.mix).2)))]),oR 802 27 5 (aG ks),oR 803 4 1 (aM ls),(.o 804,aK 210 4 fI),(.o 805,aK 58 5 cJ),(.o 806,aK 58 5 cJ)] ⟨tm,ks,ls,(gm a 1),b,c,(eQ (ks.getD i .zero) e.frm e.num e.mix).2,(hw.to (yt hw.ra) hw.rb hw.rc),rfl⟩ (rq [] [] rfl ?_)
         repeat' apply ai
         all_goals try exact qx
         all_goals(first|with_reducible rfl|(rw[hi,aW6];exact bL (by rw[hw.four];exact hil))|rfl))
       |(refine cW [tV 0 (.tup [.agg [.d (.i (tm)),.own 802 4,.own 803 3,ps 804 4 (a),ps 805 5 (b),ps 806 5 (c)],.c (.d (.b ((eQ (ks.getD i .zero) e.frm e.num e.mix).2)))]),oR 802 27 5 (aG ks),oR 803 4 1 (aM ls),(.o 804,aK 210 4 fI),(.o 805,aK 58 5 cJ),(.o 806,aK 58 5 cJ)] ⟨tm,ks,ls,a,b,c,(eQ (ks.getD i .zero) e.frm e.num e.mix).2,hw,rfl⟩ (rq [] [] rfl ?_)
         repeat' apply ai
         all_goals try exact qx
         all_goals(first|with_reducible rfl|(rw[hi,aW6];exact bL (by rw[hw.four];exact hil))|rfl))
     refine sk (sq (rT [4,5] (s4 (rt ?_))))
     first
     |(refine cW [tV 0 (.tup [.agg [.d (.i (tm)),.own 802 4,.own 803 3,ps 804 4 ((gm a 1)),ps 805 5 (b),ps 806 5 (c)],.c (.d (.b ((eQ (ks.getD i .zero) e.frm e.num e.mix).2)))]),oR 802 27 5 (aG ks),oR 803 4 1 (aM ls),(.o 804,aK 210 4 fI),(.o 805,aK 58 5 cJ),(.o 806,aK 58 5 cJ)] ⟨tm,ks,ls,(gm a 1),b,c,(eQ (ks.getD i .zero) e.frm e.num e.mix).2,(hw.to (yt hw.ra) hw.rb hw.rc),rfl⟩ (rq [] [] rfl ?_)
       repeat' apply ai
       all_goals try exact qx
       all_goals(first|with_reducible rfl|(rw[hi,aW6];exact bL (by rw[hw.four];exact hil))|rfl))
     |(refine cW [tV 0 (.tup [.agg [.d (.i (tm)),.own 802 4,.own 803 3,ps 804 4 (a),ps 805 5 (b),ps 806 5 (c)],.c (.d (.b ((eQ (ks.getD i .zero) e.frm e.num e.mix).2)))]),oR 802 27 5 (aG ks),oR 803 4 1 (aM ls),(.o 804,aK 210 4 fI),(.o 805,aK 58 5 cJ),(.o 806,aK 58 5 cJ)] ⟨tm,ks,ls,a,b,c,(eQ (ks.getD i .zero) e.frm e.num e.mix).2,hw,rfl⟩ (rq [] [] rfl ?_)
       repeat' apply ai
       all_goals try exact qx
       all_goals(first|with_reducible rfl|(rw[hi,aW6];exact bL (by rw[hw.four];exact hil))|rfl))
   refine sq (rT [2,3,4,6,7,20,62] (s2 (cd rfl (fun c62=> ?_) fun c62=> ?_)))
   · refine sq (rD [2,4,6] (s7 (xp (nk (ks.getD i .zero) e.keep (by have:=hks.1;omega)) (ai rfl ?_))))
     refine ai (by rw[hi];exact⟨by rw[bE];exact hw.four,by omega,by omega⟩) (ai (by rw[hi,aW6,bY (by rw[hw.four];exact hil)];exact⟨by rw[bE];exact hw.four,hil,rfl,aW8 rfl⟩) (ai (by kernel_rfl) (sq (rD [4,5] (s5 (ai (by kernel_rfl) (rt (cW [tV 0 (.tup [.agg [.d (.i (tm)),.own 802 4,.own 803 3,ps 804 4 (a),ps 805 5 (b),ps 806 5 (c)],.c (.d (.b ((ks.getD i .zero).up)))]),oR 802 27 5 (aG (ks.set i (dM (ks.getD i .zero) e.keep))),oR 803 4 1 (aM ls),(.o 804,aK 210 4 fI),(.o 805,aK 58 5 cJ),(.o 806,aK 58 5 cJ)] ⟨tm,(ks.set i (dM (ks.getD i .zero) e.keep)),ls,a,b,c,(ks.getD i .zero).up,(hw.set (aJg hks) i),rfl⟩ (rq [] [] rfl ?_)))))))))
     repeat' apply ai
     all_goals try exact qx
     all_goals(first|with_reducible rfl|(rw[hi,aW6];exact bL (k:=(dM (ks.getD i .zero) e.keep)) (by rw[hw.four];exact hil))|rfl)
   refine sq (rT [2,3,4,6,7,20,76] (s2 (cd rfl (fun c76=> ?_) fun c76=> ?_)))
   · refine sq (rD [2,4,6] (s5 (xp (nl (ks.getD i .zero) (by have:=hks.1;omega)) (ai rfl ?_))))
     refine ai (by rw[hi];exact⟨by rw[bE];exact hw.four,by omega,by omega⟩) (ai (by rw[hi,aW6,bY (by rw[hw.four];exact hil)];exact⟨by rw[bE];exact hw.four,hil,rfl,aW8 rfl⟩) (ai (by kernel_rfl) (sq (rD [4,5] (s6 (ai (by kernel_rfl) (rt (cW [tV 0 (.tup [.agg [.d (.i (tm)),.own 802 4,.own 803 3,ps 804 4 (a),ps 805 5 (b),ps 806 5 (c)],.c (.d (.b ((!(ks.getD i .zero).up))))]),oR 802 27 5 (aG (ks.set i (dP (ks.getD i .zero)))),oR 803 4 1 (aM ls),(.o 804,aK 210 4 fI),(.o 805,aK 58 5 cJ),(.o 806,aK 58 5 cJ)] ⟨tm,(ks.set i (dP (ks.getD i .zero))),ls,a,b,c,(!(ks.getD i .zero).up),(hw.set (aJh hks) i),rfl⟩ (rq [] [] rfl ?_)))))))))
     repeat' apply ai
     all_goals try exact qx
     all_goals(first|with_reducible rfl|(rw[hi,aW6];exact bL (k:=(dP (ks.getD i .zero))) (by rw[hw.four];exact hil))|rfl)
   refine sq (rT [2,3,4,6,7,20,89] (s2 (cd rfl (fun c89=> ?_) fun c89=> ?_)))
   · refine sq (rT [2,3,4,10,11,12] (s5 (xp (yN (ks.getD i .zero) e.frm e.num (by have:=hks.1;omega)) (ai rfl ?_))))
     refine s9 (sq (sq (wa [tP 2 2,tP 3 3,tP 4 4,tP 10 10,tP 11 11,tB 12 ((aX (ks.getD i .zero) e.frm e.num).2.2),oB 2 99 [.d (.i (tm)),.own 802 4,.own 803 3,ps 804 4 (a),ps 805 5 (b),ps 806 5 (c)],oB 3 157 [.d (.i e.kind),.d (.i e.at_),.d (.i e.frm),.d (.i e.num),.d (.i e.word),.d (.i e.mix),.d (.i e.keep),.d (.i e.dst),.d (.i e.til),.d (.s e.text)],oB 4 99 [.d (.i 0),.nil,.nil,.nil,.nil,.nil],oB 10 27 [.d (.i (((aX (ks.getD i .zero) e.frm e.num).1)).id),.d (.b (((aX (ks.getD i .zero) e.frm e.num).1)).up),.d (.s (((aX (ks.getD i .zero) e.frm e.num).1)).log),.d (.i (((aX (ks.getD i .zero) e.frm e.num).1)).forced),.d (.sl (aY (((aX (ks.getD i .zero) e.frm e.num).1)).halves))],oB 11 58 [.d (.i (aX (ks.getD i .zero) e.frm e.num).2.1.frm),.d (.i (aX (ks.getD i .zero) e.frm e.num).2.1.num),.d (.i (aX (ks.getD i .zero) e.frm e.num).2.1.to),.d (.i (aX (ks.getD i .zero) e.frm e.num).2.1.til),.d (.s (aX (ks.getD i .zero) e.frm e.num).2.1.text)],oR 802 27 5 (aG ks),oR 803 4 1 (aM ls),(.o 804,aK 210 4 fI),(.o 805,aK 58 5 cJ),(.o 806,aK 58 5 cJ)] [] [] qz (rT [2,3,4,10,11,107] (s2 (y2 (aEf cV rfl rfl rfl rfl rfl rk ?_)))))))
     refine y1 (ai pk (cd rfl (fun c107=> ?_) fun c107=> ?_))
     · have hc6:c<6:=by simp at c107;omega
       refine sq (rT [2,4,11] (s5 (ai (by rw[hi];exact⟨by rw[bE];exact hw.four,by omega,by omega⟩) (ai (by rw[hi,aW6,bY (by rw[hw.four];exact hil)];exact⟨by rw[bE];exact hw.four,hil,rfl,aW8 rfl⟩) (sq (wa [tP 2 2,tP 4 4,tP 11 11,oB 2 99 [.d (.i (tm)),.own 802 4,.own 803 3,ps 804 4 (a),ps 805 5 (b),ps 806 5 (c)],oB 3 157 [.d (.i e.kind),.d (.i e.at_),.d (.i e.frm),.d (.i e.num),.d (.i e.word),.d (.i e.mix),.d (.i e.keep),.d (.i e.dst),.d (.i e.til),.d (.s e.text)],oB 4 99 [.d (.i 0),.nil,.nil,.nil,.nil,.nil],oB 11 58 [.d (.i (aX (ks.getD i .zero) e.frm e.num).2.1.frm),.d (.i (aX (ks.getD i .zero) e.frm e.num).2.1.num),.d (.i (aX (ks.getD i .zero) e.frm e.num).2.1.to),.d (.i (aX (ks.getD i .zero) e.frm e.num).2.1.til),.d (.s (aX (ks.getD i .zero) e.frm e.num).2.1.text)],oR 802 27 5 (aG (ks.set i (aX (ks.getD i .zero) e.frm e.num).1)),oR 803 4 1 (aM ls),(.o 804,aK 210 4 fI),(.o 805,aK 58 5 cJ),(.o 806,aK 58 5 cJ)] [] [] ?_ ?_))))))
       · repeat' apply ai
         all_goals first|exact qx|(rw[hi,aW6];exact bL (k:=(aX (ks.getD i .zero) e.frm e.num).1) (by rw[hw.four];exact hil))|rfl|exact qz
       refine rT [2,4] (s4 (om (m:=1) (z:=[.i 0,.i 0,.i 0,.i 0,.s []]) cV rfl rfl rfl rfl rfl rfl rfl rfl aG3 (ko cV (by decide) rfl rfl rfl (fun r hr=> ?_) rfl) ?_ ?_))
       · rw[aXo.1 hr]
         exact⟨rfl,⟨_,_,_,_,_⟩,rfl,by exact aPp hks⟩
       · have:=hw.rc;show(_+1)*48≤_;omega
       refine s2 (sq (rT [4,5] (s3 (rt (cW [tV 0 (.tup [.agg [.d (.i (tm)),.own 802 4,.own 803 3,ps 804 4 (a),ps 805 5 (b),ps 806 5 ((c+1))],.c (.d (.b (true)))]),oR 802 27 5 (aG (ks.set i (aX (ks.getD i .zero) e.frm e.num).1)),oR 803 4 1 (aM ls),(.o 804,aK 210 4 fI),(.o 805,aK 58 5 cJ),(.o 806,aK 58 5 cJ)] ⟨tm,(ks.set i (aX (ks.getD i .zero) e.frm e.num).1),ls,a,b,(c+1),true,((hw.set (aM2 hks) i).to hw.ra hw.rb (by omega)),rfl⟩ (rq [] [] rfl ?_))))))
       repeat' apply ai
       all_goals try exact qx
       all_goals(first|with_reducible rfl|(rw[hi,aW6];exact bL (by rw[hw.four];exact hil))|rfl)
     refine sk (sq (rT [4,5] (s3 (rt (cW [tV 0 (.tup [.agg [.d (.i (tm)),.own 802 4,.own 803 3,ps 804 4 (a),ps 805 5 (b),ps 806 5 (c)],.c (.d (.b (false)))]),oR 802 27 5 (aG ks),oR 803 4 1 (aM ls),(.o 804,aK 210 4 fI),(.o 805,aK 58 5 cJ),(.o 806,aK 58 5 cJ)] ⟨tm,ks,ls,a,b,c,false,hw,rfl⟩ (rq [] [] rfl ?_))))))
     repeat' apply ai
     all_goals try exact qx
     all_goals(first|with_reducible rfl|(rw[hi,aW6];exact bL (by rw[hw.four];exact hil))|rfl)
   refine sq (rT [2,3,4,6,7,20,122] (s2 (cd rfl (fun c122=> ?_) fun c122=> ?_)))
   · refine rD [2,4,7] (s5 (xp (ni (ks.getD i .zero) (by have:=hks.1;omega)) (ai rfl ?_)))
     refine s3 (ai (by rw[hi];exact⟨by rw[bE];exact hw.four,by omega,by omega⟩) (ai (by rw[hi,aW6,bY (by rw[hw.four];exact hil)];exact⟨by rw[bE];exact hw.four,hil,rfl,aW8 rfl⟩) (s1 (ai (by kernel_rfl) ?_))))
     first
     |(refine wq [] [] (⟨(ks.set i (dY (ks.getD i .zero)).1),(dY (ks.getD i .zero)).2,(hw.set (ao hks) i),rfl⟩) ?_
       repeat' apply ai
       all_goals try exact qx
       all_goals(first|with_reducible rfl|(rw[hi,aW6];exact bL (by rw[hw.four];exact hil))|rfl))
     |(refine wq [] [] (⟨(ks.set i (eN (ks.getD i .zero)).1),(eN (ks.getD i .zero)).2,(hw.set (ap hks) i),rfl⟩) ?_
       repeat' apply ai
       all_goals try exact qx
       all_goals(first|with_reducible rfl|(rw[hi,aW6];exact bL (by rw[hw.four];exact hil))|rfl))
     |(refine wq [] [] (⟨(ks.set i (eS (ks.getD i .zero)).1),(eS (ks.getD i .zero)).2,(hw.set (wN hks) i),rfl⟩) ?_
       repeat' apply ai
       all_goals try exact qx
       all_goals(first|with_reducible rfl|(rw[hi,aW6];exact bL (by rw[hw.four];exact hil))|rfl))
     |(refine wq [] [] (⟨ks,false,hw,rfl⟩) ?_
       repeat' apply ai
       all_goals try exact qx
       all_goals(first|with_reducible rfl|(rw[hi,aW6];exact bL (by rw[hw.four];exact hil))|rfl))
   refine sq (rT [2,3,4,6,7,134] (s2 (cd rfl (fun c134=> ?_) fun c134=> ?_)))
   · refine rD [2,4,7] (s5 (xp (jl (ks.getD i .zero) (by have:=hks.1;omega)) (ai rfl ?_)))
     refine s3 (ai (by rw[hi];exact⟨by rw[bE];exact hw.four,by omega,by omega⟩) (ai (by rw[hi,aW6,bY (by rw[hw.four];exact hil)];exact⟨by rw[bE];exact hw.four,hil,rfl,aW8 rfl⟩) (s1 (ai (by kernel_rfl) ?_))))
     first
     |(refine wq [] [] (⟨(ks.set i (dY (ks.getD i .zero)).1),(dY (ks.getD i .zero)).2,(hw.set (ao hks) i),rfl⟩) ?_
       repeat' apply ai
       all_goals try exact qx
       all_goals(first|with_reducible rfl|(rw[hi,aW6];exact bL (by rw[hw.four];exact hil))|rfl))
     |(refine wq [] [] (⟨(ks.set i (eN (ks.getD i .zero)).1),(eN (ks.getD i .zero)).2,(hw.set (ap hks) i),rfl⟩) ?_
       repeat' apply ai
       all_goals try exact qx
       all_goals(first|with_reducible rfl|(rw[hi,aW6];exact bL (by rw[hw.four];exact hil))|rfl))
     |(refine wq [] [] (⟨(ks.set i (eS (ks.getD i .zero)).1),(eS (ks.getD i .zero)).2,(hw.set (wN hks) i),rfl⟩) ?_
       repeat' apply ai
       all_goals try exact qx
       all_goals(first|with_reducible rfl|(rw[hi,aW6];exact bL (by rw[hw.four];exact hil))|rfl))
     |(refine wq [] [] (⟨ks,false,hw,rfl⟩) ?_
       repeat' apply ai
       all_goals try exact qx
       all_goals(first|with_reducible rfl|(rw[hi,aW6];exact bL (by rw[hw.four];exact hil))|rfl))
   refine sk ?_
   first
   |(refine wq [] [] (⟨(ks.set i (dY (ks.getD i .zero)).1),(dY (ks.getD i .zero)).2,(hw.set (ao hks) i),rfl⟩) ?_
     repeat' apply ai
     all_goals try exact qx
     all_goals(first|with_reducible rfl|(rw[hi,aW6];exact bL (by rw[hw.four];exact hil))|rfl))
   |(refine wq [] [] (⟨(ks.set i (eN (ks.getD i .zero)).1),(eN (ks.getD i .zero)).2,(hw.set (ap hks) i),rfl⟩) ?_
     repeat' apply ai
     all_goals try exact qx
     all_goals(first|with_reducible rfl|(rw[hi,aW6];exact bL (by rw[hw.four];exact hil))|rfl))
   |(refine wq [] [] (⟨(ks.set i (eS (ks.getD i .zero)).1),(eS (ks.getD i .zero)).2,(hw.set (wN hks) i),rfl⟩) ?_
     repeat' apply ai
     all_goals try exact qx
     all_goals(first|with_reducible rfl|(rw[hi,aW6];exact bL (by rw[hw.four];exact hil))|rfl))
   |(refine wq [] [] (⟨ks,false,hw,rfl⟩) ?_
     repeat' apply ai
     all_goals try exact qx
     all_goals(first|with_reducible rfl|(rw[hi,aW6];exact bL (by rw[hw.four];exact hil))|rfl))
 rintro s ⟨ks2,ok2,hw2,rfl⟩
 refine sq (rT [4,5] (s4 (rt (cW [tV 0 (.tup [.agg [.d (.i (tm)),.own 802 4,.own 803 3,ps 804 4 (a),ps 805 5 (b),ps 806 5 (c)],.c (.d (.b (ok2)))]),oR 802 27 5 (aG ks2),oR 803 4 1 (aM ls),(.o 804,aK 210 4 fI),(.o 805,aK 58 5 cJ),(.o 806,aK 58 5 cJ)] ⟨tm,ks2,ls,a,b,c,ok2,hw2,rfl⟩ (rq [] [] rfl ?_)))))
 repeat' apply ai
 all_goals try exact qx
 all_goals(first|with_reducible rfl|(rw[hi,aW6];exact bL (by rw[hw.four];exact hil))|rfl)
set_option maxHeartbeats 6400000 in
theorem tz (tm:Int) (ks:List aH) (ls:List Bool) (a b c:Nat) (e:EvR) (hw:WOk ks ls a b c) (htx:e.text.length≤1000):ui 204 2 [tV 0 (.e (.agg [.d (.i (tm)),.own 802 4,.own 803 3,ps 804 4 (a),ps 805 5 (b),ps 806 5 (c)])),(.t 1,.v e.V),oR 802 27 5 (aG ks),oR 803 4 1 (aM ls),(.o 804,aK 210 4 fI),(.o 805,aK 58 5 cJ),(.o 806,aK 58 5 cJ)] (fun s=> ∃(tm:Int) (ks:List aH) (ls:List Bool) (a b c:Nat) (ok:Bool),WOk ks ls a b c∧s=[tV 0 (.tup [.agg [.d (.i (tm)),.own 802 4,.own 803 3,ps 804 4 (a),ps 805 5 (b),ps 806 5 (c)],.c (.d (.b (ok)))]),oR 802 27 5 (aG ks),oR 803 4 1 (aM ls),(.o 804,aK 210 4 fI),(.o 805,aK 58 5 cJ),(.o 806,aK 58 5 cJ)]):=by
 refine yv Tryz.func204 rfl (sq (rT [2,3,4] (s4 (sq (sq (rT [2,3,4,19] (s4 (ij cV rfl rfl rfl rfl rfl (s1 (xp (dL _ _ _) (ai rfl ?_)))))))))))
 refine s1 (cd rfl (fun c19=> ?_) fun c19=> ?_)
 · refine sq (rT [4,5] (s3 (rt (cW [tV 0 (.tup [.agg [.d (.i (tm)),.own 802 4,.own 803 3,ps 804 4 (a),ps 805 5 (b),ps 806 5 (c)],.c (.d (.b (false)))]),oR 802 27 5 (aG ks),oR 803 4 1 (aM ls),(.o 804,aK 210 4 fI),(.o 805,aK 58 5 cJ),(.o 806,aK 58 5 cJ)] ⟨tm,ks,ls,a,b,c,false,hw,rfl⟩ (rq [] [] rfl ?_)))))
   repeat' apply ai
   all_goals try exact qx
   all_goals(first|with_reducible rfl|(rw[hi,aW6];exact bL (by rw[hw.four];exact hil))|rfl)
 have hwd0:0≤e.word∧e.word≤(a:Int) - 1:=by rw[aB (by have:=hw.ra;omega)] at c19;simp[iK] at c19;omega
 refine sk (sq ?_)
 obtain⟨wi,hwi,hwl⟩: ∃wi:Nat,e.word=(wi:Int)∧wi<a:=⟨e.word.toNat,by omega,by omega⟩
 have hwd:0≤e.word∧e.word< (a:Int):=by omega
 refine rE [2,3,4,6] (s4 (iD (aIg cV rfl rfl rfl rfl rfl rfl rfl rfl hwd (aOk cV rfl rfl rfl rfl rfl rfl (aW8 rfl) ?_))))
 rintro _ _ ⟨p,rfl,hpp⟩
 refine s2 (sq (sq (rT [2,3,4,6,29] (s3 (cd rfl (fun c29=> ?_) fun c29=> ?_)))))
 · refine sq (sq (rT [2,3,4,6,47] (s3 (y4 (y2 (xc (fun h=>(dL _ _ _)) (ai rfl (ai rk ?_))))))))
   refine y1 (ai pk (s1 (y2 (xc (fun h=>(dL _ _ _)) (ai rfl (ai rk ?_))))))
   refine y1 (ai pk (cd rfl (fun c47=> ?_) fun c47=> ?_))
   · refine sq (rT [4,5] (s3 (rt (cW [tV 0 (.tup [.agg [.d (.i (tm)),.own 802 4,.own 803 3,ps 804 4 (a),ps 805 5 (b),ps 806 5 (c)],.c (.d (.b (false)))]),oR 802 27 5 (aG ks),oR 803 4 1 (aM ls),(.o 804,aK 210 4 fI),(.o 805,aK 58 5 cJ),(.o 806,aK 58 5 cJ)] ⟨tm,ks,ls,a,b,c,false,hw,rfl⟩ (rq [] [] rfl ?_)))))
     repeat' apply ai
     all_goals try exact qx
     all_goals(first|with_reducible rfl|(rw[hi,aW6];exact bL (by rw[hw.four];exact hil))|rfl)
   have hpl:=hpp.2
   have hmx:0≤e.mix∧e.mix≤(p.data.length:Int) - 1:=by rw[aB (by omega)] at c47;simp[gb,iK] at c47;omega
   refine sk (sq (rT [2,3,4,7] (s2 (ai (by omega) (s1 (sq ?_))))))
   obtain⟨i,hi,hil⟩: ∃i:Nat,e.mix=(i:Int)∧i<p.data.length:=⟨e.mix.toNat,by omega,by omega⟩
   have hgb:=jL (l:=p.data) (i:=i) hil
   refine rD [2,3,4,7] (s6 (ai (aWy (by omega) (by omega) rfl) (ai (by rw[hi,aW6,hgb,aU];exact⟨⟨rfl,hil⟩,aXi _,rfl⟩) (s4 (ai (aWy (by omega) (by omega) rfl) (ai (by rw[hi,aW6,hgb,aU];exact⟨rfl,hil,rfl,aXi _⟩) (ai (by kernel_rfl) (sq (wa [tP 2 2,tP 3 3,tP 4 4,tO 7 51 p.data.length,oB 2 99 [.d (.i (tm)),.own 802 4,.own 803 3,ps 804 4 (a),ps 805 5 (b),ps 806 5 (c)],oB 3 157 [.d (.i e.kind),.d (.i e.at_),.d (.i e.frm),.d (.i e.num),.d (.i e.word),.d (.i e.mix),.d (.i e.keep),.d (.i e.dst),.d (.i e.til),.d (.s e.text)],oB 4 99 [.d (.i 0),.nil,.nil,.nil,.nil,.nil],oR 802 27 5 (aG ks),oR 803 4 1 (aM ls),(.o 804,aK 210 4 fI),(.o 805,aK 58 5 cJ),(.o 806,aK 58 5 cJ),oR 51 5 1 (aA ((p.data.set i (u8 (nq ((p.data.getD i 0).toNat:Int) (iW e.keep))))))] [] [] ?_ ?_)))))))))
   · repeat' apply ai
     all_goals first|exact qx|(rw[List.length_set];done)|(simp[aU];done)|(rw[hi,aW6,hgb];refine Eq.trans ?_ (aOx hil (il _ _));rw[hgb];rfl)|exact qz
   refine rT [2,3,4] (s5 (ai (by exact⟨by first|exact aU _|(simp[aU];done),by rw[cG]⟩) (aIg cV rfl rfl rfl rfl rfl rfl rfl rfl hwd (aOi cV rfl rfl rfl rfl rfl (aFl cV rfl rfl rfl rfl rfl rfl rfl rfl rfl (aW8 rfl) ?_ ?_)))))
   · rintro r hr ⟨q,rfl,hq⟩
     exact⟨⟨q.frm,q.to,(p.data.set i (u8 (nq ((p.data.getD i 0).toNat:Int) (iW e.keep)))),q.done⟩,congrArg (fun z=>[D.i q.frm,D.i q.to,D.s z,D.b q.done]) (cG _),hq.1,by show((p.data.set i (u8 (nq ((p.data.getD i 0).toNat:Int) (iW e.keep))))).length≤1000;rw[List.length_set];exact hpp.2⟩
   refine sq (rT [2,4] (s4 (aIg cV rfl rfl rfl rfl rfl rfl rfl rfl hwd (aOi cV rfl rfl rfl rfl rfl (aFl cV rfl rfl rfl rfl rfl rfl rfl rfl rfl (aW8 rfl) ?_ ?_)))))
   · rintro r hr ⟨q,rfl,hq⟩
     exact⟨⟨q.frm,q.to,q.data,true⟩,rfl,hq⟩
   refine sq (rT [4,5] (s3 (rt (cW [tV 0 (.tup [.agg [.d (.i (tm)),.own 802 4,.own 803 3,ps 804 4 (a),ps 805 5 (b),ps 806 5 (c)],.c (.d (.b (true)))]),oR 802 27 5 (aG ks),oR 803 4 1 (aM ls),(.o 804,aK 210 4 fI),(.o 805,aK 58 5 cJ),(.o 806,aK 58 5 cJ)] ⟨tm,ks,ls,a,b,c,true,hw,rfl⟩ (rq [] [] rfl ?_)))))
   repeat' apply ai
   all_goals try exact qx
   all_goals(first|with_reducible rfl|(rw[hi,aW6];exact bL (by rw[hw.four];exact hil))|rfl)
 refine sk (sq (sq ?_))
 obtain⟨q,hq,hql⟩: ∃q:Nat,dg p.frm p.to=(q:Int)∧q<3:=by have h9:=aEc hpp.1;exact⟨(dg p.frm p.to).toNat,by omega,by omega⟩
 refine rD [2,3,4,6,94] (s4 (y4 (y2 (xc (fun h=>(zi p.frm p.to)) (ai rfl (ai rk ?_))))))
 refine ai (fun h=>(by rw[hq];exact⟨by rw[cS];exact hw.three,by omega,by omega⟩)) (ai rk (ai (fun h=>(by rw[hq,aW6,lM (by rw[hw.three];exact hql)];exact⟨⟨by rw[cS];exact hw.three,hql⟩,aW8 rfl,rfl⟩)) (ai rk (y1 (ai pk (ai (by kernel_rfl) (cd rfl (fun c94=> ?_) fun c94=> ?_)))))))
 · refine sq (rT [4,5] (s3 (rt (cW [tV 0 (.tup [.agg [.d (.i (tm)),.own 802 4,.own 803 3,ps 804 4 (a),ps 805 5 (b),ps 806 5 (c)],.c (.d (.b (false)))]),oR 802 27 5 (aG ks),oR 803 4 1 (aM ls),(.o 804,aK 210 4 fI),(.o 805,aK 58 5 cJ),(.o 806,aK 58 5 cJ)] ⟨tm,ks,ls,a,b,c,false,hw,rfl⟩ (rq [] [] rfl ?_)))))
   repeat' apply ai
   all_goals try exact qx
   all_goals(first|with_reducible rfl|(rw[hi,aW6];exact bL (by rw[hw.four];exact hil))|rfl)
 refine sk (SW.midL (fun a2:Nat=>WOk ks ls a2 b c) (fun a2=>[tP 2 2,tP 3 3,tP 4 4,tP 6 6,oB 2 99 [.d (.i (tm)),.own 802 4,.own 803 3,ps 804 4 (a2),ps 805 5 (b),ps 806 5 (c)],oB 3 157 [.d (.i e.kind),.d (.i e.at_),.d (.i e.frm),.d (.i e.num),.d (.i e.word),.d (.i e.mix),.d (.i e.keep),.d (.i e.dst),.d (.i e.til),.d (.s e.text)],oB 4 99 [.d (.i 0),.nil,.nil,.nil,.nil,.nil],oB 6 210 [.d (.i p.frm),.d (.i p.to),.d (.s p.data),.d (.b p.done)],oR 802 27 5 (aG ks),oR 803 4 1 (aM ls),(.o 804,aK 210 4 fI),(.o 805,aK 58 5 cJ),(.o 806,aK 58 5 cJ)]) ?_ ?_)
 · refine sq (rT [2,3,4,6,103] (s4 (y3 (ai pk (cd rfl (fun c103=> ?_) fun c103=> ?_)))))
   · refine SW.newPool 88 210 4 fI rfl (rX [2,3,4,6] (aRg (j:=88) cV rfl rfl rfl rfl rfl rfl (sx cV rfl vc (sx cV rfl vc (sx cV rfl vc (sx cV rfl vc (aFm (m:=wi) cV rfl rfl rfl rfl rfl rfl rfl rfl rfl (by rw[hwi];refine⟨?_,?_⟩<;>first|trivial|(simp[te,fE,gH]<;>omega)) (by rw[hwi];simp[fE,gH]) ?_)))))))
     refine om (m:=wi) (z:=[.i 0,.i 0,.s [],.b false]) cV rfl rfl rfl rfl rfl rfl rfl rfl yq (aFo cV (by decide) rfl rfl rfl) (by show(0+wi)*40≤_;have:=hw.ra;omega) (sx cV rfl vc (sx cV rfl vc (sx cV rfl vc (sx cV rfl vc (sx cV rfl vc (aFm (m:=a - (wi+1)) cV rfl rfl rfl rfl rfl rfl rfl rfl rfl (by rw[hwi,aB (by have:=hw.ra;omega)];simp[te,fE,gH]<;>omega) (by rw[hwi,aB (by have:=hw.ra;omega)];simp[fE,gH]<;>omega) (om (m:=a - (wi+1)) (z:=[.i 0,.i 0,.s [],.b false]) cV rfl rfl rfl rfl rfl rfl rfl rfl yq (aFo cV (by decide) rfl rfl rfl) (by show(0+wi+(a - (wi+1)))*40≤_;have:=hw.ra;omega) (sx cV rfl vc (sx cV rfl vc (⟨by kernel_rfl,?_⟩))))))))))
     first
     |(refine⟨(0+wi+(a - (wi+1))),(hw.to (by have:=hw.ra;omega) hw.rb hw.rc),?_⟩
       refine aG5 804 88 rfl rfl (by decide) (by rfl) (na (wq [] [] rfl ?_))
       repeat' apply ai
       all_goals try exact qx
       all_goals(first|with_reducible rfl|omega))
     |(refine⟨a,hw,?_⟩
       refine na (wq [] [] rfl ?_)
       repeat' apply ai
       all_goals try exact qx
       all_goals(first|with_reducible rfl|omega))
   refine sk ?_
   first
   |(refine⟨(0+wi+(a - (wi+1))),(hw.to (by have:=hw.ra;omega) hw.rb hw.rc),?_⟩
     refine aG5 804 88 rfl rfl (by decide) (by rfl) (na (wq [] [] rfl ?_))
     repeat' apply ai
     all_goals try exact qx
     all_goals(first|with_reducible rfl|omega))
   |(refine⟨a,hw,?_⟩
     refine na (wq [] [] rfl ?_)
     repeat' apply ai
     all_goals try exact qx
     all_goals(first|with_reducible rfl|omega))
 rintro a2 hw2
 refine sq (sq (rT [2,4,6,121] (s3 (cd rfl (fun c121=> ?_) fun c121=> ?_))))
 · refine sq (rT [4,5] (s3 (rt (cW [tV 0 (.tup [.agg [.d (.i (tm)),.own 802 4,.own 803 3,ps 804 4 (a2),ps 805 5 (b),ps 806 5 (c)],.c (.d (.b (true)))]),oR 802 27 5 (aG ks),oR 803 4 1 (aM ls),(.o 804,aK 210 4 fI),(.o 805,aK 58 5 cJ),(.o 806,aK 58 5 cJ)] ⟨tm,ks,ls,a2,b,c,true,hw2,rfl⟩ (rq [] [] rfl ?_)))))
   repeat' apply ai
   all_goals try exact qx
   all_goals(first|with_reducible rfl|(rw[hi,aW6];exact bL (by rw[hw.four];exact hil))|rfl)
 refine sk (sq (rT [2,4,6,8,9] (s2 (ai (by have:=hpp.2;omega) (bK (robj:=[(126,.row 5 1 (aA (p.data)))]) (rl:=[]) (bor:=[126]) (jk p.data) rfl rfl rfl rfl ⟨eW rfl rfl rfl (by first|exact aU _|(simp[aU,aDl];done)) rfl (trivial),rfl⟩ rfl (.inr (aIl rfl)) (aI ⟨rfl,trivial⟩) (fun _ hj=>nomatch hj) (s6 (sq (sq (rT [2,4,6,8,145] (s3 (y4 (y1 (ai pk (s1 (y4 (y1 (ai pk (cd rfl (fun c145=> ?_) fun c145=> ?_))))))))))))))))))
 · refine sq (rT [4,5] (s3 (rt (cW [tV 0 (.tup [.agg [.d (.i (tm)),.own 802 4,.own 803 3,ps 804 4 (a2),ps 805 5 (b),ps 806 5 (c)],.c (.d (.b (true)))]),oR 802 27 5 (aG ks),oR 803 4 1 (aM ls),(.o 804,aK 210 4 fI),(.o 805,aK 58 5 cJ),(.o 806,aK 58 5 cJ)] ⟨tm,ks,ls,a2,b,c,true,hw2,rfl⟩ (rq [] [] rfl ?_)))))
   repeat' apply ai
   all_goals try exact qx
   all_goals(first|with_reducible rfl|(rw[hi,aW6];exact bL (by rw[hw.four];exact hil))|rfl)
 refine sk (sq ?_)
 obtain⟨i,hi,hil⟩:=wO hpp.1.2.1
 have hks:=hw2.at hil
 refine rD [2,4,6,10,11] (s4 (ai (by rw[hi];exact⟨by rw[bE];exact hw.four,by omega,by omega⟩) (ai (by rw[hi,aW6,bY (by rw[hw.four];exact hil)];exact⟨⟨by rw[bE];exact hw.four,hil⟩,aW8 rfl,rfl⟩) (s1 (xp (nj (ks.getD i .zero) (hD p.data) (by have:=hks.1;omega)) (ai (by rw[hi,aW6,bY (by rw[hw2.four];exact hil)];rfl) ?_))))))
 refine s6 (ai (by kernel_rfl) (sq (rT [2,4,11] (s5 (ai (by rw[hi];exact⟨by rw[bE];exact hw.four,by omega,by omega⟩) (ai (by rw[hi,aW6,bY (by rw[hw.four];exact hil)];exact⟨by rw[bE];exact hw.four,hil,rfl,aW8 rfl⟩) (sq (wa [tP 2 2,tP 4 4,tD 11 (.sl (nI (dF (ks.getD i .zero) (hD p.data)).2)),oB 2 99 [.d (.i (tm)),.own 802 4,.own 803 3,ps 804 4 (a2),ps 805 5 (b),ps 806 5 (c)],oB 3 157 [.d (.i e.kind),.d (.i e.at_),.d (.i e.frm),.d (.i e.num),.d (.i e.word),.d (.i e.mix),.d (.i e.keep),.d (.i e.dst),.d (.i e.til),.d (.s e.text)],oB 4 99 [.d (.i 0),.nil,.nil,.nil,.nil,.nil],oR 802 27 5 (aG (ks.set i (dF (ks.getD i .zero) (hD p.data)).1)),oR 803 4 1 (aM ls),(.o 804,aK 210 4 fI),(.o 805,aK 58 5 cJ),(.o 806,aK 58 5 cJ)] [] [] ?_ ?_))))))))
 · repeat' apply ai
   all_goals first|exact qx|(rw[hi,aW6];exact bL (k:=(dF (ks.getD i .zero) (hD p.data)).1) (by rw[hw.four];exact hil))|rfl|exact qz
 refine rT [2,4] (s3 (bK (robj:=[(804,aK 210 4 fI)]) (rl:=[]) (bor:=[]) (dz a2 (dF (ks.getD i .zero) (hD p.data)).2 hw2.ra (by have:=(aKs (k:=(ks.getD i .zero)) (f:=hD p.data)).2;omega) aKs.1) rfl rfl rfl rfl ⟨aOn rfl rfl rfl rfl (cI rfl rfl (aW rfl rfl trivial)),rfl⟩ rfl (.inl rfl) (aI ⟨rfl,trivial⟩) (fun j hj=>nomatch hj) (s2 (sq (rT [4,5] (s3 (rt (cW [tV 0 (.tup [.agg [.d (.i (tm)),.own 802 4,.own 803 3,ps 804 4 ((gm a2 (dF (ks.getD i .zero) (hD p.data)).2.length)),ps 805 5 (b),ps 806 5 (c)],.c (.d (.b (true)))]),oR 802 27 5 (aG (ks.set i (dF (ks.getD i .zero) (hD p.data)).1)),oR 803 4 1 (aM ls),(.o 804,aK 210 4 fI),(.o 805,aK 58 5 cJ),(.o 806,aK 58 5 cJ)] ⟨tm,(ks.set i (dF (ks.getD i .zero) (hD p.data)).1),ls,(gm a2 (dF (ks.getD i .zero) (hD p.data)).2.length),b,c,true,((hw2.set (aJi hks) i).to (yt hw2.ra) hw2.rb hw2.rc),rfl⟩ ?_))))))))
 refine rq [] [] rfl ?_
 repeat' apply ai
 all_goals try exact qx
 all_goals(first|with_reducible rfl|(rw[hi,aW6];exact bL (k:=(dF (ks.getD i .zero) (hD p.data)).1) (by rw[hw.four];exact hil))|rfl)
set_option maxHeartbeats 3200000 in
theorem aEm (tm:Int) (ks:List aH) (ls:List Bool) (a b c:Nat) (e:EvR) (hw:WOk ks ls a b c) (htx:e.text.length≤1000):ui 180 2 [tV 0 (.e (.agg [.d (.i (tm)),.own 802 4,.own 803 3,ps 804 4 (a),ps 805 5 (b),ps 806 5 (c)])),(.t 1,.v e.V),oR 802 27 5 (aG ks),oR 803 4 1 (aM ls),(.o 804,aK 210 4 fI),(.o 805,aK 58 5 cJ),(.o 806,aK 58 5 cJ)] (fun s=> ∃(tm:Int) (ks:List aH) (ls:List Bool) (a b c:Nat) (ok:Bool),WOk ks ls a b c∧s=[tV 0 (.tup [.agg [.d (.i (tm)),.own 802 4,.own 803 3,ps 804 4 (a),ps 805 5 (b),ps 806 5 (c)],.c (.d (.b (ok)))]),oR 802 27 5 (aG ks),oR 803 4 1 (aM ls),(.o 804,aK 210 4 fI),(.o 805,aK 58 5 cJ),(.o 806,aK 58 5 cJ)]):=by
 refine yv Tryz.func180 rfl (sq (rT [2,3,4] (s4 (sq (rT [2,3,4] (s5 (sq (bk (sq (wa [tP 2 2,tP 3 3,tP 4 4,oB 2 99 [.d (.i ((wrap64 (tm+1)))),.own 802 4,.own 803 3,ps 804 4 (a),ps 805 5 (b),ps 806 5 (c)],oB 3 157 [.d (.i e.kind),.d (.i e.at_),.d (.i e.frm),.d (.i e.num),.d (.i e.word),.d (.i e.mix),.d (.i e.keep),.d (.i e.dst),.d (.i e.til),.d (.s e.text)],oB 4 99 [.d (.i 0),.nil,.nil,.nil,.nil,.nil],oR 802 27 5 (aG ks),oR 803 4 1 (aM ls),(.o 804,aK 210 4 fI),(.o 805,aK 58 5 cJ),(.o 806,aK 58 5 cJ)] [] [] qz (rT [2,3,4,10] (s4 (y3 (ai pk (s1 (y3 (ai pk (s1 (cd rfl (fun c10=> ?_) fun c10=> ?_)))))))))))))))))))
 · refine sq (rE [4,5] (s2 (cP (robj:=[(802,.row 27 5 (aG ks)),(803,.row 4 1 (aM ls)),(804,aK 210 4 fI),(805,aK 58 5 cJ),(806,aK 58 5 cJ)]) (rl:=[]) (bor:=[]) (news:=[]) (tz (wrap64 (tm+1)) ks ls a b c e hw htx) rfl rfl rfl rfl ⟨dX rfl (aD rfl (bQ rfl rfl rfl (bQ rfl rfl rfl (bF rfl rfl rfl (bF rfl rfl rfl (bF rfl rfl rfl aJ)))))) (dX rfl (aD rfl (aD rfl (aD rfl (aD rfl (aD rfl (aD rfl (aD rfl (aD rfl (aD rfl (aD rfl aJ)))))))))) (bV rfl rfl (bV rfl rfl (aW rfl rfl (aW rfl rfl (aW rfl rfl trivial)))))),rfl⟩ (by rintro _ ⟨tm2,ks2,ls2,a2,b2,c2,ok2,hw2,rfl⟩;exact⟨rfl,.inl rfl,fun j hj=>nomatch hj⟩) (aI ⟨rfl,rfl,rfl,rfl,rfl,trivial⟩) (fun j hj=>nomatch hj) ?_)))
   rintro _ ⟨tm2,ks2,ls2,a2,b2,c2,ok2,hw2,rfl⟩
   refine s4 (rt (cW [tV 0 (.tup [.agg [.d (.i (tm2)),.own 802 4,.own 803 3,ps 804 4 (a2),ps 805 5 (b2),ps 806 5 (c2)],.c (.d (.b (ok2)))]),oR 802 27 5 (aG ks2),oR 803 4 1 (aM ls2),(.o 804,aK 210 4 fI),(.o 805,aK 58 5 cJ),(.o 806,aK 58 5 cJ)] ⟨tm2,ks2,ls2,a2,b2,c2,ok2,hw2,rfl⟩ (rq [] [] rfl ?_)))
   repeat' apply ai
   all_goals try exact qx
   all_goals(first|with_reducible rfl|(rw[hi,aW6];exact bL (by rw[hw.four];exact hil))|rfl)
 refine sq (rT [2,3,4,29] (s4 (y3 (ai pk (s1 (cd rfl (fun c29=> ?_) fun c29=> ?_))))))
 · refine sq (sq (rD [2,3,4,57] (s4 (ai (by exact(cS ls).trans hw.three) (s1 (xp (dL _ _ _) (ai rfl ?_)))))))
   refine s2 (y4 (ai (fun h=>(by obtain⟨i,hi,hil⟩: ∃i:Nat,e.at_=(i:Int)∧i<3:=(by simp[gb,iK,cS,hw.three,wrap64] at h;exact⟨e.at_.toNat,by omega,by omega⟩);rw[hi];exact⟨by rw[cS];exact hw.three,by omega,by omega⟩)) (ai rk (ai (fun h=>(by obtain⟨i,hi,hil⟩: ∃i:Nat,e.at_=(i:Int)∧i<3:=(by simp[gb,iK,cS,hw.three,wrap64] at h;exact⟨e.at_.toNat,by omega,by omega⟩);rw[hi,aW6,lM (by rw[hw.three];exact hil)];exact⟨⟨by rw[cS];exact hw.three,hil⟩,aW8 rfl,rfl⟩)) (ai rk (y4 (ai pk (ai (by kernel_rfl) (cd rfl (fun c57=> ?_) fun c57=> ?_)))))))))
   · refine sq (rT [4,5] (s3 (rt (cW [tV 0 (.tup [.agg [.d (.i ((wrap64 (tm+1)))),.own 802 4,.own 803 3,ps 804 4 (a),ps 805 5 (b),ps 806 5 (c)],.c (.d (.b (false)))]),oR 802 27 5 (aG ks),oR 803 4 1 (aM ls),(.o 804,aK 210 4 fI),(.o 805,aK 58 5 cJ),(.o 806,aK 58 5 cJ)] ⟨(wrap64 (tm+1)),ks,ls,a,b,c,false,hw,rfl⟩ (rq [] [] rfl ?_)))))
     repeat' apply ai
     all_goals try exact qx
     all_goals(first|with_reducible rfl|(rw[hi,aW6];exact bL (by rw[hw.four];exact hil))|rfl)
   have hat3:0≤e.at_∧e.at_≤2:=by simp[gb,iK,cS,hw.three,wrap64] at c57;omega
   refine sk (sq ?_)
   obtain⟨i,hi,hil⟩: ∃i:Nat,e.at_=(i:Int)∧i<3:=⟨e.at_.toNat,by omega,by omega⟩
   refine rT [2,4] (s7 (ai (by rw[hi];exact⟨by rw[cS];exact hw.three,by omega,by omega⟩) (ai (by rw[hi,aW6,lM (by rw[hw.three];exact hil)];exact⟨by rw[cS];exact hw.three,hil,rfl,aW8 rfl⟩) (sq (rT [4,5] (s3 (rt (cW [tV 0 (.tup [.agg [.d (.i ((wrap64 (tm+1)))),.own 802 4,.own 803 3,ps 804 4 (a),ps 805 5 (b),ps 806 5 (c)],.c (.d (.b (true)))]),oR 802 27 5 (aG ks),oR 803 4 1 (aM (ls.set i (e.kind==9))),(.o 804,aK 210 4 fI),(.o 805,aK 58 5 cJ),(.o 806,aK 58 5 cJ)] ⟨(wrap64 (tm+1)),ks,(ls.set i (e.kind==9)),a,b,c,true,(hw.links (by rw[List.length_set];exact hw.three)),rfl⟩ (rq [] [] rfl ?_)))))))))
   repeat' apply ai
   all_goals try exact qx
   all_goals(first|with_reducible rfl|(rw[hi,aW6];exact aEg (by rw[hw.three];exact hil))|rfl)
 refine sq (rT [2,3,4,68] (s2 (xp (dS _) (ai rfl ?_))))
 refine s2 (cd rfl (fun c68=> ?_) fun c68=> ?_)
 · refine sq (rT [4,5] (s3 (rt (cW [tV 0 (.tup [.agg [.d (.i ((wrap64 (tm+1)))),.own 802 4,.own 803 3,ps 804 4 (a),ps 805 5 (b),ps 806 5 (c)],.c (.d (.b (false)))]),oR 802 27 5 (aG ks),oR 803 4 1 (aM ls),(.o 804,aK 210 4 fI),(.o 805,aK 58 5 cJ),(.o 806,aK 58 5 cJ)] ⟨(wrap64 (tm+1)),ks,ls,a,b,c,false,hw,rfl⟩ (rq [] [] rfl ?_)))))
   repeat' apply ai
   all_goals try exact qx
   all_goals(first|with_reducible rfl|(rw[hi,aW6];exact bL (by rw[hw.four];exact hil))|rfl)
 have hat:0≤e.at_∧e.at_≤3:=by simp[eR,iK] at c68;omega
 refine sk (sq (rE [4,5] (s2 (cP (robj:=[(802,.row 27 5 (aG ks)),(803,.row 4 1 (aM ls)),(804,aK 210 4 fI),(805,aK 58 5 cJ),(806,aK 58 5 cJ)]) (rl:=[]) (bor:=[]) (news:=[]) (qo (wrap64 (tm+1)) ks ls a b c e hw htx hat) rfl rfl rfl rfl ⟨dX rfl (aD rfl (bQ rfl rfl rfl (bQ rfl rfl rfl (bF rfl rfl rfl (bF rfl rfl rfl (bF rfl rfl rfl aJ)))))) (dX rfl (aD rfl (aD rfl (aD rfl (aD rfl (aD rfl (aD rfl (aD rfl (aD rfl (aD rfl (aD rfl aJ)))))))))) (bV rfl rfl (bV rfl rfl (aW rfl rfl (aW rfl rfl (aW rfl rfl trivial)))))),rfl⟩ (by rintro _ ⟨tm2,ks2,ls2,a2,b2,c2,ok2,hw2,rfl⟩;exact⟨rfl,.inl rfl,fun j hj=>nomatch hj⟩) (aI ⟨rfl,rfl,rfl,rfl,rfl,trivial⟩) (fun j hj=>nomatch hj) ?_))))
 rintro _ ⟨tm2,ks2,ls2,a2,b2,c2,ok2,hw2,rfl⟩
 refine s4 (rt (cW [tV 0 (.tup [.agg [.d (.i (tm2)),.own 802 4,.own 803 3,ps 804 4 (a2),ps 805 5 (b2),ps 806 5 (c2)],.c (.d (.b (ok2)))]),oR 802 27 5 (aG ks2),oR 803 4 1 (aM ls2),(.o 804,aK 210 4 fI),(.o 805,aK 58 5 cJ),(.o 806,aK 58 5 cJ)] ⟨tm2,ks2,ls2,a2,b2,c2,ok2,hw2,rfl⟩ (rq [] [] rfl ?_)))
 repeat' apply ai
 all_goals try exact qx
 all_goals(first|with_reducible rfl|(rw[hi,aW6];exact bL (by rw[hw.four];exact hil))|rfl)
set_option maxHeartbeats 3200000 in
theorem fp (l:List UInt8) (p:Int) (W:fK) (e:EvR) (hW:W.ok) (htx:e.text.length≤1000) (hd:W.d≤100000):ui 148 2 [tP 0 800,(.t 1,.v e.V),oB 800 124 [.pt 801 0,.d (.i (W.tm)),.own 802 4,.own 803 3,ps 804 4 (W.a),ps 805 5 (W.b),ps 806 5 (W.c),ps 807 10 (W.d)],oB 801 137 [.d (.sl (aA l)),.d (.i (p))],oR 802 27 5 (aG W.ks),oR 803 4 1 (aM W.ls),(.o 804,aK 210 4 fI),(.o 805,aK 58 5 cJ),(.o 806,aK 58 5 cJ),(.o 807,aK 157 10 jJ)] (fun s=> ∃(W2:fK) (ok:Bool),W2.of W 1∧s=[tB 0 ok,oB 800 124 [.pt 801 0,.d (.i (W2.tm)),.own 802 4,.own 803 3,ps 804 4 (W2.a),ps 805 5 (W2.b),ps 806 5 (W2.c),ps 807 10 (W2.d)],oB 801 137 [.d (.sl (aA l)),.d (.i (p))],oR 802 27 5 (aG W2.ks),oR 803 4 1 (aM W2.ls),(.o 804,aK 210 4 fI),(.o 805,aK 58 5 cJ),(.o 806,aK 58 5 cJ),(.o 807,aK 157 10 jJ)]):=by
 refine yv Tryz.func148 rfl (sq (rT [0,3] (s2 (sq (SW.regDE cV mo [0,3,5,6] 5 (fun i=>if i=9 then some ([(.o 5,none)],[oB 5 99 [.d (.i 0),.nil,.nil,.nil,.nil,.nil],tP 5 5]) else none) rfl rfl (by kernel_rfl) ?_)))))
 refine s5 (ek (robj:=[(802,.row 27 5 (aG W.ks)),(803,.row 4 1 (aM W.ls)),(804,aK 210 4 fI),(805,aK 58 5 cJ),(806,aK 58 5 cJ)]) (rl:=[]) (bor:=[]) (news:=[]) (aEm W.tm W.ks W.ls W.a W.b W.c e hW htx) rfl rfl rfl rfl ⟨dX rfl (aD rfl (bQ rfl rfl rfl (bQ rfl rfl rfl (bF rfl rfl rfl (bF rfl rfl rfl (bF rfl rfl rfl aJ)))))) (dX rfl (aD rfl (aD rfl (aD rfl (aD rfl (aD rfl (aD rfl (aD rfl (aD rfl (aD rfl (aD rfl aJ)))))))))) (bV rfl rfl (bV rfl rfl (aW rfl rfl (aW rfl rfl (aW rfl rfl trivial)))))),rfl⟩ (by rintro _ ⟨tm2,ks2,ls2,a2,b2,c2,ok2,hw2,rfl⟩;exact⟨rfl,.inl rfl,fun j hj=>nomatch hj⟩) (aI ⟨rfl,rfl,rfl,rfl,rfl,trivial⟩) (fun j hj=>nomatch hj) ⟨_,W.tm,W.ks,W.ls,W.a,W.b,W.c,false,hW,rfl⟩ ?_)
 rintro _ ⟨tm2,ks2,ls2,a2,b2,c2,ok2,hw2,rfl⟩
 refine s7 (ai rfl (s4 (ai (by kernel_rfl) (sq (sq (rT [0,3,5,6,16] (s1 (cd rfl (fun c16=> ?_) fun c16=> ?_))))))))
 · refine sq (rT [0,3,6] (s5 (rX [6] (sx cV rfl vc (sx cV rfl vc (sx cV rfl vc (sx cV rfl vc (sx cV rfl vc (sx cV rfl vc (sx cV rfl vc (om (m:=1) (z:=[.i 0,.i 0,.i 0,.i 0,.i 0,.i 0,.i 0,.i 0,.i 0,.s []]) cV rfl rfl rfl rfl rfl rfl rfl rfl trivial (ko cV (by decide) rfl rfl rfl (fun r hr=>⟨by rw[aXo.1 hr];rfl,trivial⟩) rfl) (by show(_+1)*88≤_;omega) (sx cV rfl vc (sx cV rfl vc (sx cV rfl ⟨by kernel_rfl,aW8 (by kernel_rfl)⟩ (⟨by kernel_rfl,?_⟩)))))))))))))))
   refine sq (rT [4] (s2 (rt ?_)))
   first
   |(refine cW [tB 0 (ok2),oB 800 124 [.pt 801 0,.d (.i ((fK.mk tm2 ks2 ls2 a2 b2 c2 (W.d+1)).tm)),.own 802 4,.own 803 3,ps 804 4 ((fK.mk tm2 ks2 ls2 a2 b2 c2 (W.d+1)).a),ps 805 5 ((fK.mk tm2 ks2 ls2 a2 b2 c2 (W.d+1)).b),ps 806 5 ((fK.mk tm2 ks2 ls2 a2 b2 c2 (W.d+1)).c),ps 807 10 ((fK.mk tm2 ks2 ls2 a2 b2 c2 (W.d+1)).d)],oB 801 137 [.d (.sl (aA l)),.d (.i (p))],oR 802 27 5 (aG (fK.mk tm2 ks2 ls2 a2 b2 c2 (W.d+1)).ks),oR 803 4 1 (aM (fK.mk tm2 ks2 ls2 a2 b2 c2 (W.d+1)).ls),(.o 804,aK 210 4 fI),(.o 805,aK 58 5 cJ),(.o 806,aK 58 5 cJ),(.o 807,aK 157 10 jJ)] ⟨(fK.mk tm2 ks2 ls2 a2 b2 c2 (W.d+1)),ok2,⟨hw2,aXi _⟩,rfl⟩ (rq [] [] rfl ?_)
     repeat' apply ai
     all_goals try exact qx
     all_goals(first|with_reducible rfl|(rfl)))
   |(refine cW [tB 0 (ok2),oB 800 124 [.pt 801 0,.d (.i ((fK.mk W.tm ks2 ls2 W.a W.b W.c W.d).tm)),.own 802 4,.own 803 3,ps 804 4 ((fK.mk W.tm ks2 ls2 W.a W.b W.c W.d).a),ps 805 5 ((fK.mk W.tm ks2 ls2 W.a W.b W.c W.d).b),ps 806 5 ((fK.mk W.tm ks2 ls2 W.a W.b W.c W.d).c),ps 807 10 ((fK.mk W.tm ks2 ls2 W.a W.b W.c W.d).d)],oB 801 137 [.d (.sl (aA l)),.d (.i (p))],oR 802 27 5 (aG (fK.mk W.tm ks2 ls2 W.a W.b W.c W.d).ks),oR 803 4 1 (aM (fK.mk W.tm ks2 ls2 W.a W.b W.c W.d).ls),(.o 804,aK 210 4 fI),(.o 805,aK 58 5 cJ),(.o 806,aK 58 5 cJ),(.o 807,aK 157 10 jJ)] ⟨(fK.mk W.tm ks2 ls2 W.a W.b W.c W.d),ok2,⟨hw2.to hW.ra hW.rb hW.rc,by show W.d≤_;omega⟩,rfl⟩ (rq [] [] rfl ?_)
     repeat' apply ai
     all_goals try exact qx
     all_goals(first|with_reducible rfl|(rfl)))
 refine sk (sq (rT [4] (s2 (rt ?_))))
 first
 |(refine cW [tB 0 (ok2),oB 800 124 [.pt 801 0,.d (.i ((fK.mk tm2 ks2 ls2 a2 b2 c2 (W.d+1)).tm)),.own 802 4,.own 803 3,ps 804 4 ((fK.mk tm2 ks2 ls2 a2 b2 c2 (W.d+1)).a),ps 805 5 ((fK.mk tm2 ks2 ls2 a2 b2 c2 (W.d+1)).b),ps 806 5 ((fK.mk tm2 ks2 ls2 a2 b2 c2 (W.d+1)).c),ps 807 10 ((fK.mk tm2 ks2 ls2 a2 b2 c2 (W.d+1)).d)],oB 801 137 [.d (.sl (aA l)),.d (.i (p))],oR 802 27 5 (aG (fK.mk tm2 ks2 ls2 a2 b2 c2 (W.d+1)).ks),oR 803 4 1 (aM (fK.mk tm2 ks2 ls2 a2 b2 c2 (W.d+1)).ls),(.o 804,aK 210 4 fI),(.o 805,aK 58 5 cJ),(.o 806,aK 58 5 cJ),(.o 807,aK 157 10 jJ)] ⟨(fK.mk tm2 ks2 ls2 a2 b2 c2 (W.d+1)),ok2,⟨hw2,aXi _⟩,rfl⟩ (rq [] [] rfl ?_)
   repeat' apply ai
   all_goals try exact qx
   all_goals(first|with_reducible rfl|(rfl)))
 |(refine cW [tB 0 (ok2),oB 800 124 [.pt 801 0,.d (.i ((fK.mk W.tm ks2 ls2 W.a W.b W.c W.d).tm)),.own 802 4,.own 803 3,ps 804 4 ((fK.mk W.tm ks2 ls2 W.a W.b W.c W.d).a),ps 805 5 ((fK.mk W.tm ks2 ls2 W.a W.b W.c W.d).b),ps 806 5 ((fK.mk W.tm ks2 ls2 W.a W.b W.c W.d).c),ps 807 10 ((fK.mk W.tm ks2 ls2 W.a W.b W.c W.d).d)],oB 801 137 [.d (.sl (aA l)),.d (.i (p))],oR 802 27 5 (aG (fK.mk W.tm ks2 ls2 W.a W.b W.c W.d).ks),oR 803 4 1 (aM (fK.mk W.tm ks2 ls2 W.a W.b W.c W.d).ls),(.o 804,aK 210 4 fI),(.o 805,aK 58 5 cJ),(.o 806,aK 58 5 cJ),(.o 807,aK 157 10 jJ)] ⟨(fK.mk W.tm ks2 ls2 W.a W.b W.c W.d),ok2,⟨hw2.to hW.ra hW.rb hW.rc,by show W.d≤_;omega⟩,rfl⟩ (rq [] [] rfl ?_)
   repeat' apply ai
   all_goals try exact qx
   all_goals(first|with_reducible rfl|(rfl)))
set_option maxHeartbeats 3200000 in
theorem aU9 (l:List UInt8) (p:Int) (W:fK) (hp:0≤p∧p≤900000) (hl:l.length≤2000) (hW:W.ok) (hd:W.d≤99000):ui 99 1 [tP 0 800,oB 800 124 [.pt 801 0,.d (.i (W.tm)),.own 802 4,.own 803 3,ps 804 4 (W.a),ps 805 5 (W.b),ps 806 5 (W.c),ps 807 10 (W.d)],oB 801 137 [.d (.sl (aA l)),.d (.i (p))],oR 802 27 5 (aG W.ks),oR 803 4 1 (aM W.ls),(.o 804,aK 210 4 fI),(.o 805,aK 58 5 cJ),(.o 806,aK 58 5 cJ),(.o 807,aK 157 10 jJ)] (fun s=> ∃(i:Int) (n:bA) (ok:Bool) (q:Int),(p≤q∧q≤p+2∧0≤i∧i≤3)∧s=[tV 0 (.tup [.c (.d (.i i)),.agg [.d (.i n.frm),.d (.i n.num),.d (.i n.to),.d (.i n.til),.d (.s n.text)],.c (.d (.b ok))]),oB 800 124 [.pt 801 0,.d (.i (W.tm)),.own 802 4,.own 803 3,ps 804 4 (W.a),ps 805 5 (W.b),ps 806 5 (W.c),ps 807 10 (W.d)],oB 801 137 [.d (.sl (aA l)),.d (.i (q))],oR 802 27 5 (aG W.ks),oR 803 4 1 (aM W.ls),(.o 804,aK 210 4 fI),(.o 805,aK 58 5 cJ),(.o 806,aK 58 5 cJ),(.o 807,aK 157 10 jJ)]):=by
 refine yv Tryz.func99 rfl (sq (rT [0,3] (s3 (sq (rT [0,3,5] (s4 (bK (robj:=[(801,.box 137 [.d (.sl (aA (l))),.d (.i (p))])]) (rl:=[(0,801)]) (bor:=[]) (cK (l) (p) _ (by omega) hl) rfl rfl rfl rfl ⟨bU rfl rfl rfl rfl (cI rfl rfl (aV rfl (aD rfl (aD rfl aJ)) trivial)),rfl⟩ rfl (.inl rfl) (aI ⟨rfl,trivial⟩) (fun _ hj=>nomatch hj) (s1 (sq (sq (rT [0,3,5,6] (s1 (bk ?_)))))))))))))
 obtain⟨i0,hi0,hil0⟩:=wO (show 0≤bO l p 4∧bO l p 4≤3 by have:=cC l (p:=p) (n:=4) (by omega) (by omega);omega)
 refine SW.loopW (n:=4) (fun n s=> ∃i m:Nat,n=4 - m∧(i<4∧m≤4)∧s=[tP 0 800,tP 3 3,tI 5 (i:Nat),tI 6 (m:Nat),oB 800 124 [.pt 801 0,.d (.i (W.tm)),.own 802 4,.own 803 3,ps 804 4 (W.a),ps 805 5 (W.b),ps 806 5 (W.c),ps 807 10 (W.d)],oB 801 137 [.d (.sl (aA l)),.d (.i ((p+1)))],oR 802 27 5 (aG W.ks),oR 803 4 1 (aM W.ls),(.o 804,aK 210 4 fI),(.o 805,aK 58 5 cJ),(.o 806,aK 58 5 cJ),(.o 807,aK 157 10 jJ),oB 3 58 [.d (.i bA.zero.frm),.d (.i bA.zero.num),.d (.i bA.zero.to),.d (.i bA.zero.til),.d (.s bA.zero.text)]]) ?_ ?_
 · refine wq [] [] (⟨i0,0,rfl,⟨hil0,by omega⟩,rfl⟩) ?_
   repeat' apply ai
   all_goals first|exact qx|exact congrArg D.i hi0|rfl|exact qz
 rintro n s ⟨i,m,rfl,him,rfl⟩
 refine sq (sq (rT [0,3,5,6,15] (s2 (cd rfl (fun c15=> ?_) fun c15=> ?_))))
 · have hm4:m<4:=by simp at c15;omega
   refine sk (sq (bk (sq (rT [0,3,5,6,7] (s6 (ai (by exact⟨by rw[bE];exact hW.four,by omega,by omega⟩) (ai (by rw[aW6,bY (by rw[hW.four];omega)];exact⟨⟨by rw[bE];exact hW.four,by omega⟩,aW8 rfl,rfl⟩) (xp (gS (W.ks.getD i .zero) (by have:=(hW.at (show i<4 by omega)).1;omega)) (ai (by rw[aW6,bY (by rw[hW.four];omega)];rfl) ?_)))))))))
   refine s6 (sq (sq (rT [0,3,5,6,7,33] (s4 (cd rfl (fun c33=> ?_) fun c33=> ?_)))))
   · refine sq ?_
     have hn0:0< (aZ (W.ks.getD i .zero)).1.held.length:=by have h9:=of_decide_eq_true c33;rw[aC] at h9;omega
     obtain⟨j,hj,hjl⟩: ∃j:Nat,bO l (p+1) ((aE (aZ (W.ks.getD i .zero)).1.held).length:Int)=(j:Int)∧j< (aZ (W.ks.getD i .zero)).1.held.length:=by have:=cC l (p:=p+1) (n:=((aE (aZ (W.ks.getD i .zero)).1.held).length:Int)) (by omega) (by rw[aC];omega);rw[aC] at *; exact⟨(bO l (p+1) ((aZ (W.ks.getD i .zero)).1.held.length:Int)).toNat,by omega,by omega⟩
     refine rD [2,3,4] (s9 (s1 (bK (robj:=[(801,.box 137 [.d (.sl (aA (l))),.d (.i ((p+1)))])]) (rl:=[(0,801)]) (bor:=[]) (cK (l) ((p+1)) _ (by omega) hl) rfl rfl rfl rfl ⟨bU rfl rfl rfl rfl (cI rfl rfl (aV rfl (aD rfl (aD rfl aJ)) trivial)),rfl⟩ rfl (.inl rfl) (aI ⟨rfl,trivial⟩) (fun _ hj=>nomatch hj) (ai (by rw[hj,aW6,aQ hjl];exact⟨⟨by omega,by rw[aC];omega⟩,rfl⟩) (ai (by rw[hj,aW6,aQ hjl];exact⟨aW8 rfl,rfl⟩) (s3 (ai (by kernel_rfl) (rt (cW [tV 0 (.tup [.c (.d (.i (i:Nat))),.agg [.d (.i ((aZ (W.ks.getD i .zero)).1.held.getD j .zero).frm),.d (.i ((aZ (W.ks.getD i .zero)).1.held.getD j .zero).num),.d (.i ((aZ (W.ks.getD i .zero)).1.held.getD j .zero).to),.d (.i ((aZ (W.ks.getD i .zero)).1.held.getD j .zero).til),.d (.s ((aZ (W.ks.getD i .zero)).1.held.getD j .zero).text)],.c (.d (.b true))]),oB 800 124 [.pt 801 0,.d (.i (W.tm)),.own 802 4,.own 803 3,ps 804 4 (W.a),ps 805 5 (W.b),ps 806 5 (W.c),ps 807 10 (W.d)],oB 801 137 [.d (.sl (aA l)),.d (.i ((p+1+1)))],oR 802 27 5 (aG W.ks),oR 803 4 1 (aM W.ls),(.o 804,aK 210 4 fI),(.o 805,aK 58 5 cJ),(.o 806,aK 58 5 cJ),(.o 807,aK 157 10 jJ)] ⟨(i:Nat),(aZ (W.ks.getD i .zero)).1.held.getD j .zero,true,p+1+1,⟨by omega,by omega,by omega,by omega⟩,rfl⟩ ?_)))))))))
     refine rq [] [] rfl ?_
     repeat' apply ai
     all_goals try exact qx
     all_goals(first|with_reducible rfl|((rw[hj,aW6,aQ hjl];rfl)))
   refine sk (rT [0,3,5,6] (s2 (ai (by decide) (s1 (rT [0,3,5,6] (s3 (wq [] [] (⟨4 - (m+1),by omega,(i+1) % 4,m+1,rfl,⟨by omega,by omega⟩,rfl⟩) ?_)))))))
   repeat' apply ai
   all_goals first|exact qx|(refine congrArg D.i ?_;rw[aB (by omega)];omega)|(refine congrArg D.i ?_;rw[aB (n:=(i:Int)+1) (by omega),Int.tmod_eq_emod_of_nonneg (by omega)];omega)|exact qz
 refine xt (sq (rT [2,3,4] (s4 (rt (cW [tV 0 (.tup [.c (.d (.i 0)),.agg [.d (.i bA.zero.frm),.d (.i bA.zero.num),.d (.i bA.zero.to),.d (.i bA.zero.til),.d (.s bA.zero.text)],.c (.d (.b false))]),oB 800 124 [.pt 801 0,.d (.i (W.tm)),.own 802 4,.own 803 3,ps 804 4 (W.a),ps 805 5 (W.b),ps 806 5 (W.c),ps 807 10 (W.d)],oB 801 137 [.d (.sl (aA l)),.d (.i ((p+1)))],oR 802 27 5 (aG W.ks),oR 803 4 1 (aM W.ls),(.o 804,aK 210 4 fI),(.o 805,aK 58 5 cJ),(.o 806,aK 58 5 cJ),(.o 807,aK 157 10 jJ)] ⟨0,.zero,false,p+1,⟨by omega,by omega,by omega,by omega⟩,rfl⟩ (rq [] [] rfl ?_))))))
 repeat' apply ai
 all_goals try exact qx
 all_goals(first|with_reducible rfl|(rfl))
set_option maxHeartbeats 3200000 in
theorem aTj (l:List UInt8) (p:Int) (W:fK) (hp:0≤p∧p≤900000) (hl:l.length≤2000) (hW:W.ok) (hd:W.d≤99000):ui 139 1 [tP 0 800,oB 800 124 [.pt 801 0,.d (.i (W.tm)),.own 802 4,.own 803 3,ps 804 4 (W.a),ps 805 5 (W.b),ps 806 5 (W.c),ps 807 10 (W.d)],oB 801 137 [.d (.sl (aA l)),.d (.i (p))],oR 802 27 5 (aG W.ks),oR 803 4 1 (aM W.ls),(.o 804,aK 210 4 fI),(.o 805,aK 58 5 cJ),(.o 806,aK 58 5 cJ),(.o 807,aK 157 10 jJ)] (fun s=> ∃(W2:fK) (q:Int),(W2.of W 1∧p≤q∧q≤p+10)∧s=[oB 800 124 [.pt 801 0,.d (.i (W2.tm)),.own 802 4,.own 803 3,ps 804 4 (W2.a),ps 805 5 (W2.b),ps 806 5 (W2.c),ps 807 10 (W2.d)],oB 801 137 [.d (.sl (aA l)),.d (.i (q))],oR 802 27 5 (aG W2.ks),oR 803 4 1 (aM W2.ls),(.o 804,aK 210 4 fI),(.o 805,aK 58 5 cJ),(.o 806,aK 58 5 cJ),(.o 807,aK 157 10 jJ)]):=by
 have hall: ∀y∈([[97],[104,101,108,108,111],[97,32,108,111,110,103,101,114,32,109,101,115,115,97,103,101],[97,98,99,100],[49,50,51,52,53,54,55,56],[106,117,115,116,32,116,119,101,110,116,121,45,102,111,117,114,32,98,121,116,101,115,32,33,33],[109,105,120,101,100,32,98,108,111,99,107,115]]:List (List UInt8)),y.length≤60:=by decide
 refine yv Tryz.func139 rfl (sq (rT [0,2] (s4 (bK (robj:=[(801,.box 137 [.d (.sl (aA (l))),.d (.i (p))])]) (rl:=[(0,801)]) (bor:=[]) (cK (l) (p) _ (by omega) hl) rfl rfl rfl rfl ⟨bU rfl rfl rfl rfl (cI rfl rfl (aV rfl (aD rfl (aD rfl aJ)) trivial)),rfl⟩ rfl (.inl rfl) (aI ⟨rfl,trivial⟩) (fun _ hj=>nomatch hj) (s1 (sq ?_))))))
 obtain⟨i,hi,hil⟩:=wO (show 0≤bO l p 4∧bO l p 4≤3 by have:=cC l (p:=p) (n:=4) (by omega) (by omega);omega)
 refine rE [0,2,3] (s4 (ai (by exact⟨by simp,by decide⟩) (zF 15 15 rfl rfl rfl rfl (cP (robj:=[(801,.box 137 [.d (.sl (aA (l))),.d (.i (p+1))])]) (rl:=[(0,801)]) (bor:=[]) (news:=[]) (aNa (l) (p+1) (([[97],[104,101,108,108,111],[97,32,108,111,110,103,101,114,32,109,101,115,115,97,103,101],[97,98,99,100],[49,50,51,52,53,54,55,56],[106,117,115,116,32,116,119,101,110,116,121,45,102,111,117,114,32,98,121,116,101,115,32,33,33],[109,105,120,101,100,32,98,108,111,99,107,115]]:List (List UInt8))) (by simp) (by omega) hl) rfl rfl rfl rfl ⟨bU rfl rfl rfl rfl (cI rfl rfl (aV rfl (aD rfl (aD rfl aJ)) trivial)),rfl⟩ (by rintro _ ⟨x,hx,rfl⟩;exact⟨rfl,.inl rfl,fun j hj=>nomatch hj⟩) (aI ⟨rfl,trivial⟩) (fun j hj=>nomatch hj) ?_))))
 rintro _ ⟨x,hx,rfl⟩
 refine s1 (SW.midW (fun q=> ∃x2:List UInt8,x2.length≤60∧q=[tP 0 800,tI 2 (i:Nat),tD 3 (.s x2),oB 800 124 [.pt 801 0,.d (.i (W.tm)),.own 802 4,.own 803 3,ps 804 4 (W.a),ps 805 5 (W.b),ps 806 5 (W.c),ps 807 10 (W.d)],oB 801 137 [.d (.sl (aA l)),.d (.i ((p+1+1)))],oR 802 27 5 (aG W.ks),oR 803 4 1 (aM W.ls),(.o 804,aK 210 4 fI),(.o 805,aK 58 5 cJ),(.o 806,aK 58 5 cJ),(.o 807,aK 157 10 jJ)]) ?_ ?_)
 · refine sq (rT [0,2,3,19] (s3 (cd rfl (fun c19=> ?_) fun c19=> ?_)))
   · refine rT [0,2,3] (s1 (ai (by simp[te,fE,gH] at *; omega) (s1 ?_)))
     first
     |(refine wq (σ':=[tP 0 800,tI 2 (i:Nat),tD 3 (.s (x.take 24)),oB 800 124 [.pt 801 0,.d (.i (W.tm)),.own 802 4,.own 803 3,ps 804 4 (W.a),ps 805 5 (W.b),ps 806 5 (W.c),ps 807 10 (W.d)],oB 801 137 [.d (.sl (aA l)),.d (.i ((p+1+1)))],oR 802 27 5 (aG W.ks),oR 803 4 1 (aM W.ls),(.o 804,aK 210 4 fI),(.o 805,aK 58 5 cJ),(.o 806,aK 58 5 cJ),(.o 807,aK 157 10 jJ)]) [] [] (⟨_,by rw[aXc];omega,rfl⟩) ?_
       repeat' apply ai
       all_goals try exact qx
       all_goals first|with_reducible rfl|exact congrArg D.i hi|rfl)
     |(refine wq (σ':=[tP 0 800,tI 2 (i:Nat),tD 3 (.s x),oB 800 124 [.pt 801 0,.d (.i (W.tm)),.own 802 4,.own 803 3,ps 804 4 (W.a),ps 805 5 (W.b),ps 806 5 (W.c),ps 807 10 (W.d)],oB 801 137 [.d (.sl (aA l)),.d (.i ((p+1+1)))],oR 802 27 5 (aG W.ks),oR 803 4 1 (aM W.ls),(.o 804,aK 210 4 fI),(.o 805,aK 58 5 cJ),(.o 806,aK 58 5 cJ),(.o 807,aK 157 10 jJ)]) [] [] (⟨_,hall x hx,rfl⟩) ?_
       repeat' apply ai
       all_goals try exact qx
       all_goals first|with_reducible rfl|exact congrArg D.i hi|rfl)
   refine sk ?_
   first
   |(refine wq (σ':=[tP 0 800,tI 2 (i:Nat),tD 3 (.s (x.take 24)),oB 800 124 [.pt 801 0,.d (.i (W.tm)),.own 802 4,.own 803 3,ps 804 4 (W.a),ps 805 5 (W.b),ps 806 5 (W.c),ps 807 10 (W.d)],oB 801 137 [.d (.sl (aA l)),.d (.i ((p+1+1)))],oR 802 27 5 (aG W.ks),oR 803 4 1 (aM W.ls),(.o 804,aK 210 4 fI),(.o 805,aK 58 5 cJ),(.o 806,aK 58 5 cJ),(.o 807,aK 157 10 jJ)]) [] [] (⟨_,by rw[aXc];omega,rfl⟩) ?_
     repeat' apply ai
     all_goals try exact qx
     all_goals first|with_reducible rfl|exact congrArg D.i hi|rfl)
   |(refine wq (σ':=[tP 0 800,tI 2 (i:Nat),tD 3 (.s x),oB 800 124 [.pt 801 0,.d (.i (W.tm)),.own 802 4,.own 803 3,ps 804 4 (W.a),ps 805 5 (W.b),ps 806 5 (W.c),ps 807 10 (W.d)],oB 801 137 [.d (.sl (aA l)),.d (.i ((p+1+1)))],oR 802 27 5 (aG W.ks),oR 803 4 1 (aM W.ls),(.o 804,aK 210 4 fI),(.o 805,aK 58 5 cJ),(.o 806,aK 58 5 cJ),(.o 807,aK 157 10 jJ)]) [] [] (⟨_,hall x hx,rfl⟩) ?_
     repeat' apply ai
     all_goals try exact qx
     all_goals first|with_reducible rfl|exact congrArg D.i hi|rfl)
 rintro s ⟨x2,hx2,rfl⟩
 refine sq (rT [0,2,3,4] (s6 (ai (by exact⟨by rw[bE];exact hW.four,by omega,by omega⟩) (ai (by rw[aW6,bY (by rw[hW.four];omega)];exact⟨⟨by rw[bE];exact hW.four,by omega⟩,aW8 rfl,rfl⟩) (xp (gS (W.ks.getD i .zero) (by have:=(hW.at (show i<4 by omega)).1;omega)) (ai (by rw[aW6,bY (by rw[hW.four];omega)];rfl) ?_))))))
 refine s6 (SW.regDE cV mo [] 18 (fun _=>none) rfl rfl (by kernel_rfl) ?_)
 refine s6 (bK (robj:=[(801,.box 137 [.d (.sl (aA (l))),.d (.i (p+1+1))])]) (rl:=[(0,801)]) (bor:=[]) (cK (l) (p+1+1) _ (by omega) hl) rfl rfl rfl rfl ⟨bU rfl rfl rfl rfl (cI rfl rfl (aV rfl (aD rfl (aD rfl aJ)) trivial)),rfl⟩ rfl (.inl rfl) (aI ⟨rfl,trivial⟩) (fun _ hj=>nomatch hj) (s7 (bK (robj:=[(801,.box 137 [.d (.sl (aA (l))),.d (.i (p+1+1+1))])]) (rl:=[(0,801)]) (bor:=[]) (cK (l) (p+1+1+1) _ (by omega) hl) rfl rfl rfl rfl ⟨bU rfl rfl rfl rfl (cI rfl rfl (aV rfl (aD rfl (aD rfl aJ)) trivial)),rfl⟩ rfl (.inl rfl) (aI ⟨rfl,trivial⟩) (fun _ hj=>nomatch hj) (s3 (ek (robj:=[(800,.box 124 [.pt 801 0,.d (.i (W.tm)),.own 802 4,.own 803 3,ps 804 4 (W.a),ps 805 5 (W.b),ps 806 5 (W.c),ps 807 10 (W.d)]),(801,.box 137 [.d (.sl (aA l)),.d (.i (p+1+1+1+1))]),(802,.row 27 5 (aG W.ks)),(803,.row 4 1 (aM W.ls)),(804,aK 210 4 fI),(805,aK 58 5 cJ),(806,aK 58 5 cJ),(807,aK 157 10 jJ)]) (rl:=[]) (bor:=[]) (news:=[]) (fp l (p+1+1+1+1) W ⟨1,i,0,0,0,0,0,bO l (p+1+1) 4,wrap64 (wrap64 ((aZ (W.ks.getD i .zero)).1.time+1)+bO l (p+1+1+1) 12),x2⟩ hW (by show x2.length≤1000;omega) (by omega)) rfl rfl rfl rfl ⟨bU rfl rfl rfl rfl (dX rfl (aD rfl (aD rfl (aD rfl (aD rfl (aD rfl (aD rfl (aD rfl (aD rfl (aD rfl (aD rfl aJ)))))))))) (aV rfl (eF rfl rfl rfl (aD rfl (bQ rfl rfl rfl (bQ rfl rfl rfl (bF rfl rfl rfl (bF rfl rfl rfl (bF rfl rfl rfl (bF rfl rfl rfl aJ)))))))) (aV rfl (aD rfl (aD rfl aJ)) (bV rfl rfl (bV rfl rfl (aW rfl rfl (aW rfl rfl (aW rfl rfl (aW rfl rfl trivial))))))))),rfl⟩ (by rintro _ ⟨W2,ok2,hw2,rfl⟩;exact⟨rfl,.inl rfl,fun j hj=>nomatch hj⟩) (aI ⟨rfl,rfl,rfl,rfl,rfl,rfl,rfl,rfl,trivial⟩) (fun j hj=>nomatch hj) ⟨_,W,false,(fK.of.refl hW).le (by omega),rfl⟩ ?_)))))
 rintro _ ⟨W2,ok2,hw2,rfl⟩
 refine ai (by kernel_rfl) (cW [oB 800 124 [.pt 801 0,.d (.i (W2.tm)),.own 802 4,.own 803 3,ps 804 4 (W2.a),ps 805 5 (W2.b),ps 806 5 (W2.c),ps 807 10 (W2.d)],oB 801 137 [.d (.sl (aA l)),.d (.i ((p+1+1+1+1)))],oR 802 27 5 (aG W2.ks),oR 803 4 1 (aM W2.ls),(.o 804,aK 210 4 fI),(.o 805,aK 58 5 cJ),(.o 806,aK 58 5 cJ),(.o 807,aK 157 10 jJ)] ⟨W2,p+1+1+1+1,⟨hw2,by omega,by omega⟩,rfl⟩ (rq [] [] rfl ?_))
 repeat' apply ai
 all_goals try exact qx
 all_goals(first|with_reducible rfl|(rfl))
set_option maxHeartbeats 6400000 in
theorem fj (l:List UInt8) (p:Int) (W:fK) (n:Nat) (r:Int) (hp:0≤p∧p≤900000) (hl:l.length≤2000) (hW:W.ok) (hd:W.d≤99000) (hn:n≤40):ui 109 3 [tP 0 800,tI 1 (n:Nat),tI 2 r,oB 800 124 [.pt 801 0,.d (.i (W.tm)),.own 802 4,.own 803 3,ps 804 4 (W.a),ps 805 5 (W.b),ps 806 5 (W.c),ps 807 10 (W.d)],oB 801 137 [.d (.sl (aA l)),.d (.i (p))],oR 802 27 5 (aG W.ks),oR 803 4 1 (aM W.ls),(.o 804,aK 210 4 fI),(.o 805,aK 58 5 cJ),(.o 806,aK 58 5 cJ),(.o 807,aK 157 10 jJ)] (fun s=> ∃(W2:fK) (q:Int),(W2.of W (3*n)∧p≤q∧q≤p+8*n)∧s=[oB 800 124 [.pt 801 0,.d (.i (W2.tm)),.own 802 4,.own 803 3,ps 804 4 (W2.a),ps 805 5 (W2.b),ps 806 5 (W2.c),ps 807 10 (W2.d)],oB 801 137 [.d (.sl (aA l)),.d (.i (q))],oR 802 27 5 (aG W2.ks),oR 803 4 1 (aM W2.ls),(.o 804,aK 210 4 fI),(.o 805,aK 58 5 cJ),(.o 806,aK 58 5 cJ),(.o 807,aK 157 10 jJ)]):=by
 refine yv Tryz.func109 rfl (sq (rT [0,1,2,6] (s1 (bk (SW.loopW (n:=n) (fun x s=> ∃(i:Nat) (V:fK) (q:Int),x=n - i∧(i≤n∧V.of W (3*i)∧p≤q∧q≤p+8*i)∧s=[tP 0 800,tI 1 (n:Nat),tI 2 r,tI 6 (i:Nat),oB 800 124 [.pt 801 0,.d (.i (V.tm)),.own 802 4,.own 803 3,ps 804 4 (V.a),ps 805 5 (V.b),ps 806 5 (V.c),ps 807 10 (V.d)],oB 801 137 [.d (.sl (aA l)),.d (.i (q))],oR 802 27 5 (aG V.ks),oR 803 4 1 (aM V.ls),(.o 804,aK 210 4 fI),(.o 805,aK 58 5 cJ),(.o 806,aK 58 5 cJ),(.o 807,aK 157 10 jJ)]) ?_ ?_)))))
 · exact wq [] [] (⟨0,W,p,rfl,⟨by omega,fK.of.refl hW,by omega,by omega⟩,rfl⟩) qz
 rintro n s ⟨i,V,q,rfl,⟨hin,hV,hq⟩,rfl⟩
 refine sq (sq (rT [0,1,2,6,19] (s4 (y4 (y1 (aEf cV rfl rfl rfl rfl rfl rk (y1 (ai pk (cd rfl (fun c19=> ?_) fun c19=> ?_)))))))))
 · have hi2:i<n:=by have h9:=c19;simp only[gb,aXb,decide_eq_true_eq] at h9;omega
   have hVd:=hV.few
   have hVo:V.ok:=hV.ok
   try simp only[fK.ok] at hVo
   refine sk (sq (bk (sq (rT [0,1,2,6,7] (s3 (SW.midW (fun s=> ∃(k w m kp q3:Int),(q≤q3∧q3≤q+5)∧s=[tP 0 800,tI 1 (n:Nat),tI 2 r,tI 6 (i:Nat),tP 7 7,oB 800 124 [.pt 801 0,.d (.i (V.tm)),.own 802 4,.own 803 3,ps 804 4 (V.a),ps 805 5 (V.b),ps 806 5 (V.c),ps 807 10 (V.d)],oB 801 137 [.d (.sl (aA l)),.d (.i (q3))],oR 802 27 5 (aG V.ks),oR 803 4 1 (aM V.ls),(.o 804,aK 210 4 fI),(.o 805,aK 58 5 cJ),(.o 806,aK 58 5 cJ),(.o 807,aK 157 10 jJ),oB 7 157 [.d (.i (k)),.d (.i 0),.d (.i 0),.d (.i 0),.d (.i (w)),.d (.i (m)),.d (.i (kp)),.d (.i 0),.d (.i 0),.d (.s [])]]) ?_ ?_))))))
   · refine SW.midW (fun s=> ∃(cb:Bool) (q2:Int),(q≤q2∧q2≤q+1)∧s=[tP 0 800,tI 1 (n:Nat),tI 2 r,tI 6 (i:Nat),tP 7 7,tB 33 cb,oB 800 124 [.pt 801 0,.d (.i (V.tm)),.own 802 4,.own 803 3,ps 804 4 (V.a),ps 805 5 (V.b),ps 806 5 (V.c),ps 807 10 (V.d)],oB 801 137 [.d (.sl (aA l)),.d (.i (q2))],oR 802 27 5 (aG V.ks),oR 803 4 1 (aM V.ls),(.o 804,aK 210 4 fI),(.o 805,aK 58 5 cJ),(.o 806,aK 58 5 cJ),(.o 807,aK 157 10 jJ),oB 7 157 [.d (.i (4)),.d (.i 0),.d (.i 0),.d (.i 0),.d (.i (0)),.d (.i (0)),.d (.i (0)),.d (.i 0),.d (.i 0),.d (.s [])]]) ?_ ?_
     · refine rF [0,1,2,6,7,33] (s1 (s1 (s1 (ai (fun h1=> ?_) (fun h1=> ?_)))))
       · refine s1 (ai (fun _=> ?_) (fun h=>absurd h (by rw[h1];simp)))
         refine s1 (ai (fun _=> ?_) (fun h=>absurd h (by rw[h1];simp)))
         refine s1 (ai (fun _=> ?_) (fun h=>absurd h (by rw[h1];simp)))
         refine s1 (ai (fun _=> ?_) (fun h=>absurd h (by rw[h1];simp)))
         refine s1 (ai (fun _=> ?_) (fun h=>absurd h (by rw[h1];simp)))
         refine iD (bK (robj:=[(801,.box 137 [.d (.sl (aA (l))),.d (.i (q))])]) (rl:=[(0,801)]) (bor:=[]) (cK (l) (q) _ (by omega) hl) rfl rfl rfl rfl ⟨bU rfl rfl rfl rfl (cI rfl rfl (aV rfl (aD rfl (aD rfl aJ)) trivial)),rfl⟩ rfl (.inl rfl) (aI ⟨rfl,trivial⟩) (fun _ hj=>nomatch hj) (ai (fun _=> ?_) (fun h=>absurd h (by rw[h1];simp))))
         exact s1 (ai pk (wq [] [] ⟨?c1,q+1,⟨by omega,by omega⟩,rfl⟩ qz))
       refine⟨I 0,?_⟩
       refine ai (fun h=>absurd h (by rw[h1];simp)) (fun _=>⟨I 0,?_⟩)
       refine ai (fun h=>absurd h (by rw[h1];simp)) (fun _=>⟨I 0,?_⟩)
       refine ai (fun h=>absurd h (by rw[h1];simp)) (fun _=>⟨I 0,?_⟩)
       refine ai (fun h=>absurd h (by rw[h1];simp)) (fun _=>⟨I 0,?_⟩)
       refine ai (fun h=>absurd h (by rw[h1];simp)) (fun _=>⟨I 0,?_⟩)
       refine ai (fun h=>absurd h (by rw[h1];simp)) (fun _=>⟨B false,?_⟩)
       exact ai (by constructor<;>intro h<;>first|trivial|exact absurd (h1.symm.trans h:false=true) (by decide)) (wq [] [] ⟨?d1,q,⟨by omega,by omega⟩,rfl⟩ qz)
     rintro s ⟨cb,q2,hq2,rfl⟩
     refine cd rfl (fun c33=> ?_) fun c33=> ?_
     · refine sq (rT [0,1,2,6,7,38] (s4 (bK (robj:=[(801,.box 137 [.d (.sl (aA (l))),.d (.i (q2))])]) (rl:=[(0,801)]) (bor:=[]) (cK (l) (q2) _ (by omega) hl) rfl rfl rfl rfl ⟨bU rfl rfl rfl rfl (cI rfl rfl (aV rfl (aD rfl (aD rfl aJ)) trivial)),rfl⟩ rfl (.inl rfl) (aI ⟨rfl,trivial⟩) (fun _ hj=>nomatch hj) (bk (sq (rT [0,1,2,6,7,38,51] (s2 (cd rfl (fun c51=> ?_) fun c51=> ?_))))))))
       · refine rT [0,1,2,6,7] (s2 ?_)
         first
         |(exact wq [] [] ⟨5,0,0,0,(q2+1),⟨by omega,by omega⟩,rfl⟩ qz)
         |(exact wq [] [] ⟨4,0,0,1,(q2+1),⟨by omega,by omega⟩,rfl⟩ qz)
         |(exact wq [] [] ⟨4,(bO l (q2+1) (V.a:Int)),0,0,(q2+1+1),⟨by omega,by omega⟩,rfl⟩ qz)
         |(exact wq [] [] ⟨6,(bO l (q2+1) (V.a:Int)),(bO l (q2+1+1) 17),(wrap64 (1+(bO l (q2+1+1+1) 255))),(q2+1+1+1+1),⟨by omega,by omega⟩,rfl⟩ qz)
         |(exact wq [] [] ⟨4,0,0,0,q2,⟨by omega,by omega⟩,rfl⟩ qz)
       refine sq (rT [0,1,2,6,7,38,54] (s2 (cd rfl (fun c54=> ?_) fun c54=> ?_)))
       · refine rT [0,1,2,6,7] (s2 ?_)
         first
         |(exact wq [] [] ⟨5,0,0,0,(q2+1),⟨by omega,by omega⟩,rfl⟩ qz)
         |(exact wq [] [] ⟨4,0,0,1,(q2+1),⟨by omega,by omega⟩,rfl⟩ qz)
         |(exact wq [] [] ⟨4,(bO l (q2+1) (V.a:Int)),0,0,(q2+1+1),⟨by omega,by omega⟩,rfl⟩ qz)
         |(exact wq [] [] ⟨6,(bO l (q2+1) (V.a:Int)),(bO l (q2+1+1) 17),(wrap64 (1+(bO l (q2+1+1+1) 255))),(q2+1+1+1+1),⟨by omega,by omega⟩,rfl⟩ qz)
         |(exact wq [] [] ⟨4,0,0,0,q2,⟨by omega,by omega⟩,rfl⟩ qz)
       refine sq (rT [0,1,2,6,7,57] (s2 (cd rfl (fun c57=> ?_) fun c57=> ?_)))
       · refine sq (rT [0,1,2,6,7] (s2 (sq (rD [0,1,2,6,7] (s9 (ij cV rfl rfl rfl rfl rfl (bK (robj:=[(801,.box 137 [.d (.sl (aA (l))),.d (.i (q2+1))])]) (rl:=[(0,801)]) (bor:=[]) (cK (l) (q2+1) _ (by omega) hl) rfl rfl rfl rfl ⟨bU rfl rfl rfl rfl (cI rfl rfl (aV rfl (aD rfl (aD rfl aJ)) trivial)),rfl⟩ rfl (.inl rfl) (aI ⟨rfl,trivial⟩) (fun _ hj=>nomatch hj) (s2 (ai (by kernel_rfl) (sq (rT [0,1,2,6,7] (s4 (bK (robj:=[(801,.box 137 [.d (.sl (aA (l))),.d (.i (q2+1+1))])]) (rl:=[(0,801)]) (bor:=[]) (cK (l) (q2+1+1) _ (by omega) hl) rfl rfl rfl rfl ⟨bU rfl rfl rfl rfl (cI rfl rfl (aV rfl (aD rfl (aD rfl aJ)) trivial)),rfl⟩ rfl (.inl rfl) (aI ⟨rfl,trivial⟩) (fun _ hj=>nomatch hj) (s2 (rT [0,1,2,6,7] (s4 (bK (robj:=[(801,.box 137 [.d (.sl (aA (l))),.d (.i (q2+1+1+1))])]) (rl:=[(0,801)]) (bor:=[]) (cK (l) (q2+1+1+1) _ (by omega) hl) rfl rfl rfl rfl ⟨bU rfl rfl rfl rfl (cI rfl rfl (aV rfl (aD rfl (aD rfl aJ)) trivial)),rfl⟩ rfl (.inl rfl) (aI ⟨rfl,trivial⟩) (fun _ hj=>nomatch hj) ?_)))))))))))))))))
         refine s3 ?_
         first
         |(exact wq [] [] ⟨5,0,0,0,(q2+1),⟨by omega,by omega⟩,rfl⟩ qz)
         |(exact wq [] [] ⟨4,0,0,1,(q2+1),⟨by omega,by omega⟩,rfl⟩ qz)
         |(exact wq [] [] ⟨4,(bO l (q2+1) (V.a:Int)),0,0,(q2+1+1),⟨by omega,by omega⟩,rfl⟩ qz)
         |(exact wq [] [] ⟨6,(bO l (q2+1) (V.a:Int)),(bO l (q2+1+1) 17),(wrap64 (1+(bO l (q2+1+1+1) 255))),(q2+1+1+1+1),⟨by omega,by omega⟩,rfl⟩ qz)
         |(exact wq [] [] ⟨4,0,0,0,q2,⟨by omega,by omega⟩,rfl⟩ qz)
       refine rD [0,1,2,6,7] (s9 (ij cV rfl rfl rfl rfl rfl (bK (robj:=[(801,.box 137 [.d (.sl (aA (l))),.d (.i (q2+1))])]) (rl:=[(0,801)]) (bor:=[]) (cK (l) (q2+1) _ (by omega) hl) rfl rfl rfl rfl ⟨bU rfl rfl rfl rfl (cI rfl rfl (aV rfl (aD rfl (aD rfl aJ)) trivial)),rfl⟩ rfl (.inl rfl) (aI ⟨rfl,trivial⟩) (fun _ hj=>nomatch hj) (s2 (ai (by kernel_rfl) ?_)))))
       first
       |(exact wq [] [] ⟨5,0,0,0,(q2+1),⟨by omega,by omega⟩,rfl⟩ qz)
       |(exact wq [] [] ⟨4,0,0,1,(q2+1),⟨by omega,by omega⟩,rfl⟩ qz)
       |(exact wq [] [] ⟨4,(bO l (q2+1) (V.a:Int)),0,0,(q2+1+1),⟨by omega,by omega⟩,rfl⟩ qz)
       |(exact wq [] [] ⟨6,(bO l (q2+1) (V.a:Int)),(bO l (q2+1+1) 17),(wrap64 (1+(bO l (q2+1+1+1) 255))),(q2+1+1+1+1),⟨by omega,by omega⟩,rfl⟩ qz)
       |(exact wq [] [] ⟨4,0,0,0,q2,⟨by omega,by omega⟩,rfl⟩ qz)
     refine sk ?_
     first
     |(exact wq [] [] ⟨5,0,0,0,(q2+1),⟨by omega,by omega⟩,rfl⟩ qz)
     |(exact wq [] [] ⟨4,0,0,1,(q2+1),⟨by omega,by omega⟩,rfl⟩ qz)
     |(exact wq [] [] ⟨4,(bO l (q2+1) (V.a:Int)),0,0,(q2+1+1),⟨by omega,by omega⟩,rfl⟩ qz)
     |(exact wq [] [] ⟨6,(bO l (q2+1) (V.a:Int)),(bO l (q2+1+1) 17),(wrap64 (1+(bO l (q2+1+1+1) 255))),(q2+1+1+1+1),⟨by omega,by omega⟩,rfl⟩ qz)
     |(exact wq [] [] ⟨4,0,0,0,q2,⟨by omega,by omega⟩,rfl⟩ qz)
   rintro s ⟨k,w,m,kp,q3,hq3,rfl⟩
   refine SW.midW (fun s=> ∃V3:fK,V3.of V 2∧s=[tP 0 800,tI 1 (n:Nat),tI 2 r,tI 6 (i:Nat),tP 7 7,oB 800 124 [.pt 801 0,.d (.i (V3.tm)),.own 802 4,.own 803 3,ps 804 4 (V3.a),ps 805 5 (V3.b),ps 806 5 (V3.c),ps 807 10 (V3.d)],oB 801 137 [.d (.sl (aA l)),.d (.i (q3))],oR 802 27 5 (aG V3.ks),oR 803 4 1 (aM V3.ls),(.o 804,aK 210 4 fI),(.o 805,aK 58 5 cJ),(.o 806,aK 58 5 cJ),(.o 807,aK 157 10 jJ),oB 7 157 [.d (.i (k)),.d (.i 0),.d (.i 0),.d (.i 0),.d (.i (w)),.d (.i (m)),.d (.i (kp)),.d (.i 0),.d (.i 0),.d (.s [])]]) ?_ ?_
   · refine sq (rE [0,1,2,6,7,88] (s2 (cP (robj:=[(800,.box 124 [.pt 801 0,.d (.i (V.tm)),.own 802 4,.own 803 3,ps 804 4 (V.a),ps 805 5 (V.b),ps 806 5 (V.c),ps 807 10 (V.d)]),(801,.box 137 [.d (.sl (aA l)),.d (.i (q3))]),(802,.row 27 5 (aG V.ks)),(803,.row 4 1 (aM V.ls)),(804,aK 210 4 fI),(805,aK 58 5 cJ),(806,aK 58 5 cJ),(807,aK 157 10 jJ)]) (rl:=[]) (bor:=[]) (news:=[]) (fp l (q3) V ⟨k,0,0,0,w,m,kp,0,0,[]⟩ hV.ok (by simp) (by omega)) rfl rfl rfl rfl ⟨bU rfl rfl rfl rfl (dX rfl (aD rfl (aD rfl (aD rfl (aD rfl (aD rfl (aD rfl (aD rfl (aD rfl (aD rfl (aD rfl aJ)))))))))) (aV rfl (eF rfl rfl rfl (aD rfl (bQ rfl rfl rfl (bQ rfl rfl rfl (bF rfl rfl rfl (bF rfl rfl rfl (bF rfl rfl rfl (bF rfl rfl rfl aJ)))))))) (aV rfl (aD rfl (aD rfl aJ)) (bV rfl rfl (bV rfl rfl (aW rfl rfl (aW rfl rfl (aW rfl rfl (aW rfl rfl trivial))))))))),rfl⟩ (by rintro _ ⟨W2,ok2,hw2,rfl⟩;exact⟨rfl,.inl rfl,fun j hj=>nomatch hj⟩) (aI ⟨rfl,rfl,rfl,rfl,rfl,rfl,rfl,rfl,trivial⟩) (fun j hj=>nomatch hj) ?_)))
     rintro _ ⟨W2,ok2,hw2,rfl⟩
     refine s1 (cd rfl (fun c88=> ?_) fun c88=> ?_)
     · refine rE [0,1,2,6,7] (s2 (cP (robj:=[(800,.box 124 [.pt 801 0,.d (.i (W2.tm)),.own 802 4,.own 803 3,ps 804 4 (W2.a),ps 805 5 (W2.b),ps 806 5 (W2.c),ps 807 10 (W2.d)]),(801,.box 137 [.d (.sl (aA l)),.d (.i (q3))]),(802,.row 27 5 (aG W2.ks)),(803,.row 4 1 (aM W2.ls)),(804,aK 210 4 fI),(805,aK 58 5 cJ),(806,aK 58 5 cJ),(807,aK 157 10 jJ)]) (rl:=[]) (bor:=[]) (news:=[]) (fp l (q3) W2 ⟨5,0,0,0,0,0,0,0,0,[]⟩ hw2.ok (by simp) (by have:=hw2.few;omega)) rfl rfl rfl rfl ⟨bU rfl rfl rfl rfl (dX rfl (aD rfl (aD rfl (aD rfl (aD rfl (aD rfl (aD rfl (aD rfl (aD rfl (aD rfl (aD rfl aJ)))))))))) (aV rfl (eF rfl rfl rfl (aD rfl (bQ rfl rfl rfl (bQ rfl rfl rfl (bF rfl rfl rfl (bF rfl rfl rfl (bF rfl rfl rfl (bF rfl rfl rfl aJ)))))))) (aV rfl (aD rfl (aD rfl aJ)) (bV rfl rfl (bV rfl rfl (aW rfl rfl (aW rfl rfl (aW rfl rfl (aW rfl rfl trivial))))))))),rfl⟩ (by rintro _ ⟨W25,ok25,hw25,rfl⟩;exact⟨rfl,.inl rfl,fun j hj=>nomatch hj⟩) (aI ⟨rfl,rfl,rfl,rfl,rfl,rfl,rfl,rfl,trivial⟩) (fun j hj=>nomatch hj) ?_))
       rintro _ ⟨W25,ok25,hw25,rfl⟩
       first
       |(exact wq [] [] ⟨W25,(hw2.trans hw25),rfl⟩ qz)
       |(exact wq [] [] ⟨W2,(hw2.le (by omega)),rfl⟩ qz)
     refine sk ?_
     first
     |(exact wq [] [] ⟨W25,(hw2.trans hw25),rfl⟩ qz)
     |(exact wq [] [] ⟨W2,(hw2.le (by omega)),rfl⟩ qz)
   rintro s ⟨V3,hV3,rfl⟩
   have hV3d:=hV3.few
   refine SW.midW (fun s=> ∃(cb:Bool) (q4:Int),(q3≤q4∧q4≤q3+1)∧s=[tP 0 800,tI 1 (n:Nat),tI 2 r,tI 6 (i:Nat),tP 7 7,tB 102 cb,oB 800 124 [.pt 801 0,.d (.i (V3.tm)),.own 802 4,.own 803 3,ps 804 4 (V3.a),ps 805 5 (V3.b),ps 806 5 (V3.c),ps 807 10 (V3.d)],oB 801 137 [.d (.sl (aA l)),.d (.i (q4))],oR 802 27 5 (aG V3.ks),oR 803 4 1 (aM V3.ls),(.o 804,aK 210 4 fI),(.o 805,aK 58 5 cJ),(.o 806,aK 58 5 cJ),(.o 807,aK 157 10 jJ),oB 7 157 [.d (.i (k)),.d (.i 0),.d (.i 0),.d (.i 0),.d (.i (w)),.d (.i (m)),.d (.i (kp)),.d (.i 0),.d (.i 0),.d (.s [])]]) ?_ ?_
   · refine rF [0,1,2,6,7,102] (s1 (s1 (s1 (s1 (ai (fun h1=> ?_) (fun h1=> ?_))))))
     · refine s1 (ai (fun _=> ?_) (fun h=>absurd h (by rw[h1];simp)))
       refine s1 (ai (fun _=> ?_) (fun h=>absurd h (by rw[h1];simp)))
       refine s1 (ai (fun _=> ?_) (fun h=>absurd h (by rw[h1];simp)))
       refine s1 (ai (fun _=> ?_) (fun h=>absurd h (by rw[h1];simp)))
       refine iD (bK (robj:=[(801,.box 137 [.d (.sl (aA (l))),.d (.i (q3))])]) (rl:=[(0,801)]) (bor:=[]) (cK (l) (q3) _ (by omega) hl) rfl rfl rfl rfl ⟨bU rfl rfl rfl rfl (cI rfl rfl (aV rfl (aD rfl (aD rfl aJ)) trivial)),rfl⟩ rfl (.inl rfl) (aI ⟨rfl,trivial⟩) (fun _ hj=>nomatch hj) (ai (fun _=> ?_) (fun h=>absurd h (by rw[h1];simp))))
       exact s1 (ai pk (wq [] [] ⟨?c2,q3+1,⟨by omega,by omega⟩,rfl⟩ qz))
     refine⟨I 0,?_⟩
     refine ai (fun h=>absurd h (by rw[h1];simp)) (fun _=>⟨I 0,?_⟩)
     refine ai (fun h=>absurd h (by rw[h1];simp)) (fun _=>⟨I 0,?_⟩)
     refine ai (fun h=>absurd h (by rw[h1];simp)) (fun _=>⟨I 0,?_⟩)
     refine ai (fun h=>absurd h (by rw[h1];simp)) (fun _=>⟨I 0,?_⟩)
     refine ai (fun h=>absurd h (by rw[h1];simp)) (fun _=>⟨B false,?_⟩)
     exact ai (by constructor<;>intro h<;>first|trivial|exact absurd (h1.symm.trans h:false=true) (by decide)) (wq [] [] ⟨?d2,q3,⟨by omega,by omega⟩,rfl⟩ qz)
   rintro s ⟨cb2,q4,hq4,rfl⟩
   refine cd rfl (fun c102=> ?_) fun c102=> ?_
   · refine sq (rT [0,1,2,6,7] (s4 (bK (robj:=[(801,.box 137 [.d (.sl (aA (l))),.d (.i (q4))])]) (rl:=[(0,801)]) (bor:=[]) (cK (l) (q4) _ (by omega) hl) rfl rfl rfl rfl ⟨bU rfl rfl rfl rfl (cI rfl rfl (aV rfl (aD rfl (aD rfl aJ)) trivial)),rfl⟩ rfl (.inl rfl) (aI ⟨rfl,trivial⟩) (fun _ hj=>nomatch hj) (s2 (sq (rT [0,1,2,6,7] (s4 (bK (robj:=[(801,.box 137 [.d (.sl (aA (l))),.d (.i (q4+1))])]) (rl:=[(0,801)]) (bor:=[]) (cK (l) (q4+1) _ (by omega) hl) rfl rfl rfl rfl ⟨bU rfl rfl rfl rfl (cI rfl rfl (aV rfl (aD rfl (aD rfl aJ)) trivial)),rfl⟩ rfl (.inl rfl) (aI ⟨rfl,trivial⟩) (fun _ hj=>nomatch hj) (s3 (rE [0,1,2,6] (s2 (cP (robj:=[(800,.box 124 [.pt 801 0,.d (.i (V3.tm)),.own 802 4,.own 803 3,ps 804 4 (V3.a),ps 805 5 (V3.b),ps 806 5 (V3.c),ps 807 10 (V3.d)]),(801,.box 137 [.d (.sl (aA l)),.d (.i (q4+1+1))]),(802,.row 27 5 (aG V3.ks)),(803,.row 4 1 (aM V3.ls)),(804,aK 210 4 fI),(805,aK 58 5 cJ),(806,aK 58 5 cJ),(807,aK 157 10 jJ)]) (rl:=[]) (bor:=[]) (news:=[]) (fp l (q4+1+1) V3 ⟨k,0,0,0,w,(bO l (q4) 17),(wrap64 (1+(bO l (q4+1) 255))),0,0,[]⟩ hV3.ok (by simp) (by omega)) rfl rfl rfl rfl ⟨bU rfl rfl rfl rfl (dX rfl (aD rfl (aD rfl (aD rfl (aD rfl (aD rfl (aD rfl (aD rfl (aD rfl (aD rfl (aD rfl aJ)))))))))) (aV rfl (eF rfl rfl rfl (aD rfl (bQ rfl rfl rfl (bQ rfl rfl rfl (bF rfl rfl rfl (bF rfl rfl rfl (bF rfl rfl rfl (bF rfl rfl rfl aJ)))))))) (aV rfl (aD rfl (aD rfl aJ)) (bV rfl rfl (bV rfl rfl (aW rfl rfl (aW rfl rfl (aW rfl rfl (aW rfl rfl trivial))))))))),rfl⟩ (by rintro _ ⟨W24,ok24,hw24,rfl⟩;exact⟨rfl,.inl rfl,fun j hj=>nomatch hj⟩) (aI ⟨rfl,rfl,rfl,rfl,rfl,rfl,rfl,rfl,trivial⟩) (fun j hj=>nomatch hj) ?_))))))))))))
     rintro _ ⟨W24,ok24,hw24,rfl⟩
     refine rT [0,1,2,6] (s3 ?_)
     first
     |(refine wq [] [] ⟨n - (i+1),by omega,i+1,W24,(q4+1+1),rfl,⟨by omega,((hV.trans (hV3.trans hw24)).le (by omega)),by omega,by omega⟩,rfl⟩ ?_
       repeat' apply ai
       all_goals try exact qx
       all_goals first|with_reducible rfl|exact congrArg D.i (aB (by omega))|rfl)
     |(refine wq [] [] ⟨n - (i+1),by omega,i+1,V3,q4,rfl,⟨by omega,((hV.trans hV3).le (by omega)),by omega,by omega⟩,rfl⟩ ?_
       repeat' apply ai
       all_goals try exact qx
       all_goals first|with_reducible rfl|exact congrArg D.i (aB (by omega))|rfl)
   refine sk (rT [0,1,2,6] (s3 ?_))
   first
   |(refine wq [] [] ⟨n - (i+1),by omega,i+1,W24,(q4+1+1),rfl,⟨by omega,((hV.trans (hV3.trans hw24)).le (by omega)),by omega,by omega⟩,rfl⟩ ?_
     repeat' apply ai
     all_goals try exact qx
     all_goals first|with_reducible rfl|exact congrArg D.i (aB (by omega))|rfl)
   |(refine wq [] [] ⟨n - (i+1),by omega,i+1,V3,q4,rfl,⟨by omega,((hV.trans hV3).le (by omega)),by omega,by omega⟩,rfl⟩ ?_
     repeat' apply ai
     all_goals try exact qx
     all_goals first|with_reducible rfl|exact congrArg D.i (aB (by omega))|rfl)
 refine xt (cW [oB 800 124 [.pt 801 0,.d (.i (V.tm)),.own 802 4,.own 803 3,ps 804 4 (V.a),ps 805 5 (V.b),ps 806 5 (V.c),ps 807 10 (V.d)],oB 801 137 [.d (.sl (aA l)),.d (.i (q))],oR 802 27 5 (aG V.ks),oR 803 4 1 (aM V.ls),(.o 804,aK 210 4 fI),(.o 805,aK 58 5 cJ),(.o 806,aK 58 5 cJ),(.o 807,aK 157 10 jJ)] ⟨V,q,⟨hV.le (by omega),by omega,by omega⟩,rfl⟩ (rq [] [] rfl ?_))
 repeat' apply ai
 all_goals try exact qx
 all_goals(first|with_reducible rfl|(rfl))
set_option maxHeartbeats 3200000 in
theorem fk (l:List UInt8) (p:Int) (W:fK) (n:Nat) (r:Int) (hp:0≤p∧p≤890000) (hl:l.length≤2000) (hW:W.ok) (hd:W.d≤98000) (hn:n≤7):ui 108 3 [tP 0 800,tI 1 (n:Nat),tI 2 r,oB 800 124 [.pt 801 0,.d (.i (W.tm)),.own 802 4,.own 803 3,ps 804 4 (W.a),ps 805 5 (W.b),ps 806 5 (W.c),ps 807 10 (W.d)],oB 801 137 [.d (.sl (aA l)),.d (.i (p))],oR 802 27 5 (aG W.ks),oR 803 4 1 (aM W.ls),(.o 804,aK 210 4 fI),(.o 805,aK 58 5 cJ),(.o 806,aK 58 5 cJ),(.o 807,aK 157 10 jJ)] (fun s=> ∃(W2:fK) (q:Int),(W2.of W 40∧p≤q∧q≤p+100)∧s=[oB 800 124 [.pt 801 0,.d (.i (W2.tm)),.own 802 4,.own 803 3,ps 804 4 (W2.a),ps 805 5 (W2.b),ps 806 5 (W2.c),ps 807 10 (W2.d)],oB 801 137 [.d (.sl (aA l)),.d (.i (q))],oR 802 27 5 (aG W2.ks),oR 803 4 1 (aM W2.ls),(.o 804,aK 210 4 fI),(.o 805,aK 58 5 cJ),(.o 806,aK 58 5 cJ),(.o 807,aK 157 10 jJ)]):=by
 refine yv Tryz.func108 rfl (sq (rE [0,1,2,6,7,8] (s1 (cP (robj:=[(800,.box 124 [.pt 801 0,.d (.i (W.tm)),.own 802 4,.own 803 3,ps 804 4 (W.a),ps 805 5 (W.b),ps 806 5 (W.c),ps 807 10 (W.d)]),(801,.box 137 [.d (.sl (aA l)),.d (.i (p))]),(802,.row 27 5 (aG W.ks)),(803,.row 4 1 (aM W.ls)),(804,aK 210 4 fI),(805,aK 58 5 cJ),(806,aK 58 5 cJ),(807,aK 157 10 jJ)]) (rl:=[]) (bor:=[]) (news:=[]) (aU9 l p W (by omega) hl hW (by omega)) rfl rfl rfl rfl ⟨bU rfl rfl rfl rfl (aV rfl (eF rfl rfl rfl (aD rfl (bQ rfl rfl rfl (bQ rfl rfl rfl (bF rfl rfl rfl (bF rfl rfl rfl (bF rfl rfl rfl (bF rfl rfl rfl aJ)))))))) (aV rfl (aD rfl (aD rfl aJ)) (bV rfl rfl (bV rfl rfl (aW rfl rfl (aW rfl rfl (aW rfl rfl (aW rfl rfl trivial)))))))),rfl⟩ (by rintro _ ⟨i0,n1,ok1,q1,hq1,rfl⟩;exact⟨rfl,.inl rfl,fun j hj=>nomatch hj⟩) (aI ⟨rfl,rfl,rfl,rfl,rfl,rfl,rfl,rfl,trivial⟩) (fun j hj=>nomatch hj) ?_))))
 rintro _ ⟨i0,n1,ok1,q1,hq1,rfl⟩
 refine s8 (sq (sq (rT [0,1,2,6,7,18] (s2 (cd rfl (fun c18=> ?_) fun c18=> ?_)))))
 · refine rt (cW [oB 800 124 [.pt 801 0,.d (.i (W.tm)),.own 802 4,.own 803 3,ps 804 4 (W.a),ps 805 5 (W.b),ps 806 5 (W.c),ps 807 10 (W.d)],oB 801 137 [.d (.sl (aA l)),.d (.i (q1))],oR 802 27 5 (aG W.ks),oR 803 4 1 (aM W.ls),(.o 804,aK 210 4 fI),(.o 805,aK 58 5 cJ),(.o 806,aK 58 5 cJ),(.o 807,aK 157 10 jJ)] ⟨W,q1,⟨(fK.of.refl hW).le (by omega),by omega,by omega⟩,rfl⟩ (rq [] [] rfl ?_))
   repeat' apply ai
   all_goals try exact qx
   all_goals(first|with_reducible rfl|(rfl))
 refine sk (sq (rD [0,1,2,6,7,9] (s4 (bK (robj:=[(801,.box 137 [.d (.sl (aA (l))),.d (.i (q1))])]) (rl:=[(0,801)]) (bor:=[]) (cK (l) (q1) _ (by omega) hl) rfl rfl rfl rfl ⟨bU rfl rfl rfl rfl (cI rfl rfl (aV rfl (aD rfl (aD rfl aJ)) trivial)),rfl⟩ rfl (.inl rfl) (aI ⟨rfl,trivial⟩) (fun _ hj=>nomatch hj) (s4 (bK (robj:=[(801,.box 137 [.d (.sl (aA (l))),.d (.i (q1+1))])]) (rl:=[(0,801)]) (bor:=[]) (cK (l) (q1+1) _ (by omega) hl) rfl rfl rfl rfl ⟨bU rfl rfl rfl rfl (cI rfl rfl (aV rfl (aD rfl (aD rfl aJ)) trivial)),rfl⟩ rfl (.inl rfl) (aI ⟨rfl,trivial⟩) (fun _ hj=>nomatch hj) (s2 (ai (by kernel_rfl) (sq (sq (rT [0,1,2,6,7,9,10] (s1 (bk ?_)))))))))))))
 obtain⟨m9,hm9⟩: ∃m9:Int,m9=wrap64 (bO l q1 2*bO l (q1+1) 40):=⟨_,rfl⟩
 refine SW.loopW (n:=n) (fun x s=> ∃(i:Nat) (V:fK),x=n - i∧(i≤n∧V.of W i)∧s=[tP 0 800,tI 1 (n:Nat),tI 2 r,tI 10 (i:Nat),tI 6 i0,tP 7 7,tI 9 m9,oB 800 124 [.pt 801 0,.d (.i (V.tm)),.own 802 4,.own 803 3,ps 804 4 (V.a),ps 805 5 (V.b),ps 806 5 (V.c),ps 807 10 (V.d)],oB 801 137 [.d (.sl (aA l)),.d (.i (q1+1+1))],oR 802 27 5 (aG V.ks),oR 803 4 1 (aM V.ls),(.o 804,aK 210 4 fI),(.o 805,aK 58 5 cJ),(.o 806,aK 58 5 cJ),(.o 807,aK 157 10 jJ),oB 7 58 [.d (.i n1.frm),.d (.i n1.num),.d (.i n1.to),.d (.i n1.til),.d (.s n1.text)]]) ?_ ?_
 · refine wq [] [] (⟨0,W,rfl,⟨by omega,fK.of.refl hW⟩,rfl⟩) ?_
   repeat' apply ai
   all_goals first|exact qx|exact congrArg D.i hm9.symm|rfl|exact qz
 rintro n s ⟨i,V,rfl,⟨hin,hV⟩,rfl⟩
 have hVd:=hV.few
 refine sq (sq (rT [0,1,2,6,7,9,10,32] (s3 (cd rfl (fun c32=> ?_) fun c32=> ?_))))
 · have hi2:i<n:=by simp at c32;omega
   refine sk (sq (bk (rE [0,1,2,6,7,9,10] (s9 (s1 (cP (robj:=[(800,.box 124 [.pt 801 0,.d (.i (V.tm)),.own 802 4,.own 803 3,ps 804 4 (V.a),ps 805 5 (V.b),ps 806 5 (V.c),ps 807 10 (V.d)]),(801,.box 137 [.d (.sl (aA l)),.d (.i (q1+1+1))]),(802,.row 27 5 (aG V.ks)),(803,.row 4 1 (aM V.ls)),(804,aK 210 4 fI),(805,aK 58 5 cJ),(806,aK 58 5 cJ),(807,aK 157 10 jJ)]) (rl:=[]) (bor:=[]) (news:=[]) (fp l (q1+1+1) V ⟨3,i0,n1.frm,n1.num,0,wrap64 (m9+i),0,0,0,[]⟩ hV.ok (by simp) (by omega)) rfl rfl rfl rfl ⟨bU rfl rfl rfl rfl (dX rfl (aD rfl (aD rfl (aD rfl (aD rfl (aD rfl (aD rfl (aD rfl (aD rfl (aD rfl (aD rfl aJ)))))))))) (aV rfl (eF rfl rfl rfl (aD rfl (bQ rfl rfl rfl (bQ rfl rfl rfl (bF rfl rfl rfl (bF rfl rfl rfl (bF rfl rfl rfl (bF rfl rfl rfl aJ)))))))) (aV rfl (aD rfl (aD rfl aJ)) (bV rfl rfl (bV rfl rfl (aW rfl rfl (aW rfl rfl (aW rfl rfl (aW rfl rfl trivial))))))))),rfl⟩ (by rintro _ ⟨W2,ok2,hw2,rfl⟩;exact⟨rfl,.inl rfl,fun j hj=>nomatch hj⟩) (aI ⟨rfl,rfl,rfl,rfl,rfl,rfl,rfl,rfl,trivial⟩) (fun j hj=>nomatch hj) ?_))))))
   rintro _ ⟨W2,ok2,hw2,rfl⟩
   refine rT [0,1,2,6,7,9,10] (s3 (wq [] [] (⟨n - (i+1),by omega,i+1,W2,rfl,⟨by omega,hV.trans hw2⟩,rfl⟩) ?_))
   repeat' apply ai
   all_goals first|exact qx|exact congrArg D.i (aB (by omega))|rfl|exact qz
 refine xt ?_
 obtain⟨m,hm,hml⟩: ∃m:Nat,bO l (q1+1+1) (wrap64 ((n:Int)+4))=(m:Int)∧m≤10:=by have:=cC l (p:=q1+1+1) (n:=wrap64 ((n:Int)+4)) (by omega) (by rw[aB (by omega)];omega);rw[aB (n:=(n:Int)+4) (by omega)] at *; exact⟨(bO l (q1+1+1) ((n:Int)+4)).toNat,by omega,by omega⟩
 refine rE [] (s7 (iD (bK (robj:=[(801,.box 137 [.d (.sl (aA (l))),.d (.i (q1+1+1))])]) (rl:=[(0,801)]) (bor:=[]) (cK (l) (q1+1+1) _ (by omega) hl) rfl rfl rfl rfl ⟨bU rfl rfl rfl rfl (cI rfl rfl (aV rfl (aD rfl (aD rfl aJ)) trivial)),rfl⟩ rfl (.inl rfl) (aI ⟨rfl,trivial⟩) (fun _ hj=>nomatch hj) (s1 (cP (robj:=[(800,.box 124 [.pt 801 0,.d (.i (V.tm)),.own 802 4,.own 803 3,ps 804 4 (V.a),ps 805 5 (V.b),ps 806 5 (V.c),ps 807 10 (V.d)]),(801,.box 137 [.d (.sl (aA l)),.d (.i (q1+1+1+1))]),(802,.row 27 5 (aG V.ks)),(803,.row 4 1 (aM V.ls)),(804,aK 210 4 fI),(805,aK 58 5 cJ),(806,aK 58 5 cJ),(807,aK 157 10 jJ)]) (rl:=[]) (bor:=[]) (news:=[]) (fj l (q1+1+1+1) V m r (by omega) hl hV.ok (by omega) (by omega)) rfl rfl rfl rfl ⟨bU rfl rfl rfl rfl (cI rfl (congrArg D.i hm) (cI rfl rfl (aV rfl (eF rfl rfl rfl (aD rfl (bQ rfl rfl rfl (bQ rfl rfl rfl (bF rfl rfl rfl (bF rfl rfl rfl (bF rfl rfl rfl (bF rfl rfl rfl aJ)))))))) (aV rfl (aD rfl (aD rfl aJ)) (bV rfl rfl (bV rfl rfl (aW rfl rfl (aW rfl rfl (aW rfl rfl (aW rfl rfl trivial)))))))))),rfl⟩ (by rintro _ ⟨W2,q2,hw2,rfl⟩;exact⟨rfl,.inl rfl,fun j hj=>nomatch hj⟩) (aI ⟨rfl,rfl,rfl,rfl,rfl,rfl,rfl,rfl,trivial⟩) (fun j hj=>nomatch hj) ?_)))))
 rintro _ ⟨W2,q2,hw2,rfl⟩
 refine cW [oB 800 124 [.pt 801 0,.d (.i (W2.tm)),.own 802 4,.own 803 3,ps 804 4 (W2.a),ps 805 5 (W2.b),ps 806 5 (W2.c),ps 807 10 (W2.d)],oB 801 137 [.d (.sl (aA l)),.d (.i (q2))],oR 802 27 5 (aG W2.ks),oR 803 4 1 (aM W2.ls),(.o 804,aK 210 4 fI),(.o 805,aK 58 5 cJ),(.o 806,aK 58 5 cJ),(.o 807,aK 157 10 jJ)] ⟨W2,q2,⟨(hV.trans hw2.1).le (by omega),by omega,by omega⟩,rfl⟩ (rq [] [] rfl ?_)
 repeat' apply ai
 all_goals try exact qx
 all_goals(first|with_reducible rfl|(rfl))
set_option maxHeartbeats 6400000 in
theorem aVa (l:List UInt8) (p:Int) (W:fK) (hp:0≤p∧p≤880000) (hl:l.length≤2000) (hW:W.ok) (hd:W.d≤97000):ui 173 1 [tP 0 800,oB 800 124 [.pt 801 0,.d (.i (W.tm)),.own 802 4,.own 803 3,ps 804 4 (W.a),ps 805 5 (W.b),ps 806 5 (W.c),ps 807 10 (W.d)],oB 801 137 [.d (.sl (aA l)),.d (.i (p))],oR 802 27 5 (aG W.ks),oR 803 4 1 (aM W.ls),(.o 804,aK 210 4 fI),(.o 805,aK 58 5 cJ),(.o 806,aK 58 5 cJ),(.o 807,aK 157 10 jJ)] (fun s=> ∃(W2:fK) (q:Int),(W2.of W 500∧p≤q∧q≤p+1000)∧s=[oB 800 124 [.pt 801 0,.d (.i (W2.tm)),.own 802 4,.own 803 3,ps 804 4 (W2.a),ps 805 5 (W2.b),ps 806 5 (W2.c),ps 807 10 (W2.d)],oB 801 137 [.d (.sl (aA l)),.d (.i (q))],oR 802 27 5 (aG W2.ks),oR 803 4 1 (aM W2.ls),(.o 804,aK 210 4 fI),(.o 805,aK 58 5 cJ),(.o 806,aK 58 5 cJ),(.o 807,aK 157 10 jJ)]):=by
 refine yv Tryz.func173 rfl (sq (rE [0] (s1 (cP (robj:=[(800,.box 124 [.pt 801 0,.d (.i (W.tm)),.own 802 4,.own 803 3,ps 804 4 (W.a),ps 805 5 (W.b),ps 806 5 (W.c),ps 807 10 (W.d)]),(801,.box 137 [.d (.sl (aA l)),.d (.i (p))]),(802,.row 27 5 (aG W.ks)),(803,.row 4 1 (aM W.ls)),(804,aK 210 4 fI),(805,aK 58 5 cJ),(806,aK 58 5 cJ),(807,aK 157 10 jJ)]) (rl:=[]) (bor:=[]) (news:=[]) (fj l p W 40 0 (by omega) hl hW (by omega) (by omega)) rfl rfl rfl rfl ⟨bU rfl rfl rfl rfl (cI rfl rfl (cI rfl rfl (aV rfl (eF rfl rfl rfl (aD rfl (bQ rfl rfl rfl (bQ rfl rfl rfl (bF rfl rfl rfl (bF rfl rfl rfl (bF rfl rfl rfl (bF rfl rfl rfl aJ)))))))) (aV rfl (aD rfl (aD rfl aJ)) (bV rfl rfl (bV rfl rfl (aW rfl rfl (aW rfl rfl (aW rfl rfl (aW rfl rfl trivial)))))))))),rfl⟩ (by rintro _ ⟨W1,q1,hw1,rfl⟩;exact⟨rfl,.inl rfl,fun j hj=>nomatch hj⟩) (aI ⟨rfl,rfl,rfl,rfl,rfl,rfl,rfl,rfl,trivial⟩) (fun j hj=>nomatch hj) ?_))))
 rintro _ ⟨W1,q1,hw1,rfl⟩
 refine sq (rE [0] (s1 (cP (robj:=[(800,.box 124 [.pt 801 0,.d (.i (W1.tm)),.own 802 4,.own 803 3,ps 804 4 (W1.a),ps 805 5 (W1.b),ps 806 5 (W1.c),ps 807 10 (W1.d)]),(801,.box 137 [.d (.sl (aA l)),.d (.i (q1))]),(802,.row 27 5 (aG W1.ks)),(803,.row 4 1 (aM W1.ls)),(804,aK 210 4 fI),(805,aK 58 5 cJ),(806,aK 58 5 cJ),(807,aK 157 10 jJ)]) (rl:=[]) (bor:=[]) (news:=[]) (fk l q1 W1 6 0 (by omega) hl hw1.1.ok (by have:=hw1.1.few;omega) (by omega)) rfl rfl rfl rfl ⟨bU rfl rfl rfl rfl (cI rfl rfl (cI rfl rfl (aV rfl (eF rfl rfl rfl (aD rfl (bQ rfl rfl rfl (bQ rfl rfl rfl (bF rfl rfl rfl (bF rfl rfl rfl (bF rfl rfl rfl (bF rfl rfl rfl aJ)))))))) (aV rfl (aD rfl (aD rfl aJ)) (bV rfl rfl (bV rfl rfl (aW rfl rfl (aW rfl rfl (aW rfl rfl (aW rfl rfl trivial)))))))))),rfl⟩ (by rintro _ ⟨W2,q2,hw2,rfl⟩;exact⟨rfl,.inl rfl,fun j hj=>nomatch hj⟩) (aI ⟨rfl,rfl,rfl,rfl,rfl,rfl,rfl,rfl,trivial⟩) (fun j hj=>nomatch hj) ?_)))
 rintro _ ⟨W2,q2,hw2,rfl⟩
 refine sq (sq (rT [0,2] (s1 (bk ?_))))
 have hw1d:=hw1.1.few
 have hw2d:=hw2.1.few
 refine SW.loopW (n:=2) (fun x s=> ∃(i:Nat) (V:fK) (q:Int),x=2 - i∧(i≤2∧V.of W (160+30*i)∧p≤q∧q≤p+420+i)∧s=[tP 0 800,tI 2 (i:Nat),oB 800 124 [.pt 801 0,.d (.i (V.tm)),.own 802 4,.own 803 3,ps 804 4 (V.a),ps 805 5 (V.b),ps 806 5 (V.c),ps 807 10 (V.d)],oB 801 137 [.d (.sl (aA l)),.d (.i (q))],oR 802 27 5 (aG V.ks),oR 803 4 1 (aM V.ls),(.o 804,aK 210 4 fI),(.o 805,aK 58 5 cJ),(.o 806,aK 58 5 cJ),(.o 807,aK 157 10 jJ)]) ?_ ?_
 · exact wq [] [] (⟨0,W2,q2,rfl,⟨by omega,(hw1.1.trans hw2.1).le (by omega),by omega,by omega⟩,rfl⟩) qz
 rintro n s ⟨i,V,q,rfl,⟨hi2,hV,hq⟩,rfl⟩
 have hVd:=hV.few
 have hpv:=cC l (p:=q) (n:=2) (by omega) (by omega)
 refine sq (sq (rT [0,2,20] (s5 (bK (robj:=[(801,.box 137 [.d (.sl (aA (l))),.d (.i (q))])]) (rl:=[(0,801)]) (bor:=[]) (cK (l) (q) _ (by omega) hl) rfl rfl rfl rfl ⟨bU rfl rfl rfl rfl (cI rfl rfl (aV rfl (aD rfl (aD rfl aJ)) trivial)),rfl⟩ rfl (.inl rfl) (aI ⟨rfl,trivial⟩) (fun _ hj=>nomatch hj) (s2 (cd rfl (fun c20=> ?_) fun c20=> ?_))))))
 · have hi1:i<2:=by rw[aB (by omega)] at c20;simp at c20;omega
   refine sk (sq (bk (sq (rT [0,2,3] (s5 (ij cV rfl rfl rfl rfl rfl (s1 (sq (rT [0,2,3,4] (s1 (bk ?_)))))))))))
   obtain⟨a3,ha3,ha30⟩: ∃a3:Nat,a3=V.a∧a3≤30:=⟨_,rfl,hV.ok.ra⟩
   refine SW.loopW (n:=a3) (fun x s=> ∃(j:Nat) (U:fK),x=a3 - j∧(j≤a3∧U.of V j)∧s=[tP 0 800,tI 2 (i:Nat),tI 3 (a3:Nat),tI 4 (j:Nat),oB 800 124 [.pt 801 0,.d (.i (U.tm)),.own 802 4,.own 803 3,ps 804 4 (U.a),ps 805 5 (U.b),ps 806 5 (U.c),ps 807 10 (U.d)],oB 801 137 [.d (.sl (aA l)),.d (.i (q+1))],oR 802 27 5 (aG U.ks),oR 803 4 1 (aM U.ls),(.o 804,aK 210 4 fI),(.o 805,aK 58 5 cJ),(.o 806,aK 58 5 cJ),(.o 807,aK 157 10 jJ)]) ?_ ?_
   · refine wq [] [] (⟨0,V,rfl,⟨by omega,fK.of.refl hV.ok⟩,rfl⟩) ?_
     repeat' apply ai
     all_goals first|exact qx|rfl|(rw[ha3])|exact qz
   rintro n s ⟨j,U,rfl,⟨hj,hU⟩,rfl⟩
   have hUd:=hU.few
   refine sq (sq (rT [0,2,3,4,31] (s3 (cd rfl (fun c31=> ?_) fun c31=> ?_))))
   · have hj2:j<a3:=by simp at c31;omega
     refine sk (sq (bk (rE [0,2,3,4] (s3 (cP (robj:=[(800,.box 124 [.pt 801 0,.d (.i (U.tm)),.own 802 4,.own 803 3,ps 804 4 (U.a),ps 805 5 (U.b),ps 806 5 (U.c),ps 807 10 (U.d)]),(801,.box 137 [.d (.sl (aA l)),.d (.i (q+1))]),(802,.row 27 5 (aG U.ks)),(803,.row 4 1 (aM U.ls)),(804,aK 210 4 fI),(805,aK 58 5 cJ),(806,aK 58 5 cJ),(807,aK 157 10 jJ)]) (rl:=[]) (bor:=[]) (news:=[]) (fp l (q+1) U ⟨4,0,0,0,j,0,1,0,0,[]⟩ hU.ok (by simp) (by omega)) rfl rfl rfl rfl ⟨bU rfl rfl rfl rfl (dX rfl (aD rfl (aD rfl (aD rfl (aD rfl (aD rfl (aD rfl (aD rfl (aD rfl (aD rfl (aD rfl aJ)))))))))) (aV rfl (eF rfl rfl rfl (aD rfl (bQ rfl rfl rfl (bQ rfl rfl rfl (bF rfl rfl rfl (bF rfl rfl rfl (bF rfl rfl rfl (bF rfl rfl rfl aJ)))))))) (aV rfl (aD rfl (aD rfl aJ)) (bV rfl rfl (bV rfl rfl (aW rfl rfl (aW rfl rfl (aW rfl rfl (aW rfl rfl trivial))))))))),rfl⟩ (by rintro _ ⟨W3,ok3,hw3,rfl⟩;exact⟨rfl,.inl rfl,fun j hj=>nomatch hj⟩) (aI ⟨rfl,rfl,rfl,rfl,rfl,rfl,rfl,rfl,trivial⟩) (fun j hj=>nomatch hj) ?_)))))
     rintro _ ⟨W3,ok3,hw3,rfl⟩
     refine rT [0,2,3,4] (s3 (wq [] [] (⟨a3 - (j+1),by omega,j+1,W3,rfl,⟨by omega,hU.trans hw3⟩,rfl⟩) ?_))
     repeat' apply ai
     all_goals first|exact qx|exact congrArg D.i (aB (by omega))|rfl|exact qz
   have hj3:j=a3:=by simp at c31;omega
   refine xt (rT [0,2] (s3 (wq [] [] (⟨2 - (i+1),by omega,i+1,U,q+1,rfl,⟨by omega,(hV.trans hU).le (by omega),by omega,by omega⟩,rfl⟩) ?_)))
   repeat' apply ai
   all_goals first|exact qx|exact congrArg D.i (aB (by omega))|rfl|exact qz
 refine xt (sq (rT [0,5] (s4 (bK (robj:=[(801,.box 137 [.d (.sl (aA (l))),.d (.i (q+1))])]) (rl:=[(0,801)]) (bor:=[]) (cK (l) (q+1) _ (by omega) hl) rfl rfl rfl rfl ⟨bU rfl rfl rfl rfl (cI rfl rfl (aV rfl (aD rfl (aD rfl aJ)) trivial)),rfl⟩ rfl (.inl rfl) (aI ⟨rfl,trivial⟩) (fun _ hj=>nomatch hj) (s1 (SW.midW (fun s=> ∃(V2:fK) (q4:Int),(V2.of V 10∧q≤q4∧q4≤q+5)∧s=[tP 0 800,oB 800 124 [.pt 801 0,.d (.i (V2.tm)),.own 802 4,.own 803 3,ps 804 4 (V2.a),ps 805 5 (V2.b),ps 806 5 (V2.c),ps 807 10 (V2.d)],oB 801 137 [.d (.sl (aA l)),.d (.i (q4))],oR 802 27 5 (aG V2.ks),oR 803 4 1 (aM V2.ls),(.o 804,aK 210 4 fI),(.o 805,aK 58 5 cJ),(.o 806,aK 58 5 cJ),(.o 807,aK 157 10 jJ)]) ?_ ?_))))))
 · refine sq (rT [0,5,47] (s4 (bK (robj:=[(801,.box 137 [.d (.sl (aA (l))),.d (.i (q+1+1))])]) (rl:=[(0,801)]) (bor:=[]) (cK (l) (q+1+1) _ (by omega) hl) rfl rfl rfl rfl ⟨bU rfl rfl rfl rfl (cI rfl rfl (aV rfl (aD rfl (aD rfl aJ)) trivial)),rfl⟩ rfl (.inl rfl) (aI ⟨rfl,trivial⟩) (fun _ hj=>nomatch hj) (bk (sq (rT [0,5,47,48] (s2 (cd rfl (fun c48=> ?_) fun c48=> ?_))))))))
   · refine sq (rE [0,5] (s6 (iD (bK (robj:=[(801,.box 137 [.d (.sl (aA (l))),.d (.i (q+1+1+1))])]) (rl:=[(0,801)]) (bor:=[]) (cK (l) (q+1+1+1) _ (by omega) hl) rfl rfl rfl rfl ⟨bU rfl rfl rfl rfl (cI rfl rfl (aV rfl (aD rfl (aD rfl aJ)) trivial)),rfl⟩ rfl (.inl rfl) (aI ⟨rfl,trivial⟩) (fun _ hj=>nomatch hj) (s1 (cP (robj:=[(800,.box 124 [.pt 801 0,.d (.i (V.tm)),.own 802 4,.own 803 3,ps 804 4 (V.a),ps 805 5 (V.b),ps 806 5 (V.c),ps 807 10 (V.d)]),(801,.box 137 [.d (.sl (aA l)),.d (.i (q+1+1+1+1))]),(802,.row 27 5 (aG V.ks)),(803,.row 4 1 (aM V.ls)),(804,aK 210 4 fI),(805,aK 58 5 cJ),(806,aK 58 5 cJ),(807,aK 157 10 jJ)]) (rl:=[]) (bor:=[]) (news:=[]) (fp l (q+1+1+1+1) V ⟨7,bO l (q+1) 4,0,0,0,0,bO l (q+1+1+1) 40,0,0,[]⟩ hV.ok (by simp) (by omega)) rfl rfl rfl rfl ⟨bU rfl rfl rfl rfl (dX rfl (aD rfl (aD rfl (aD rfl (aD rfl (aD rfl (aD rfl (aD rfl (aD rfl (aD rfl (aD rfl aJ)))))))))) (aV rfl (eF rfl rfl rfl (aD rfl (bQ rfl rfl rfl (bQ rfl rfl rfl (bF rfl rfl rfl (bF rfl rfl rfl (bF rfl rfl rfl (bF rfl rfl rfl aJ)))))))) (aV rfl (aD rfl (aD rfl aJ)) (bV rfl rfl (bV rfl rfl (aW rfl rfl (aW rfl rfl (aW rfl rfl (aW rfl rfl trivial))))))))),rfl⟩ (by rintro _ ⟨W3,ok3,hw3,rfl⟩;exact⟨rfl,.inl rfl,fun j hj=>nomatch hj⟩) (aI ⟨rfl,rfl,rfl,rfl,rfl,rfl,rfl,rfl,trivial⟩) (fun j hj=>nomatch hj) ?_))))))
     rintro _ ⟨W3,ok3,hw3,rfl⟩
     refine rE [0] (s3 (cP (robj:=[(800,.box 124 [.pt 801 0,.d (.i (W3.tm)),.own 802 4,.own 803 3,ps 804 4 (W3.a),ps 805 5 (W3.b),ps 806 5 (W3.c),ps 807 10 (W3.d)]),(801,.box 137 [.d (.sl (aA l)),.d (.i (q+1+1+1+1))]),(802,.row 27 5 (aG W3.ks)),(803,.row 4 1 (aM W3.ls)),(804,aK 210 4 fI),(805,aK 58 5 cJ),(806,aK 58 5 cJ),(807,aK 157 10 jJ)]) (rl:=[]) (bor:=[]) (news:=[]) (fp l (q+1+1+1+1) W3 ⟨8,bO l (q+1) 4,0,0,0,0,0,0,0,[]⟩ hw3.ok (by simp) (by have:=hw3.few;omega)) rfl rfl rfl rfl ⟨bU rfl rfl rfl rfl (dX rfl (aD rfl (aD rfl (aD rfl (aD rfl (aD rfl (aD rfl (aD rfl (aD rfl (aD rfl (aD rfl aJ)))))))))) (aV rfl (eF rfl rfl rfl (aD rfl (bQ rfl rfl rfl (bQ rfl rfl rfl (bF rfl rfl rfl (bF rfl rfl rfl (bF rfl rfl rfl (bF rfl rfl rfl aJ)))))))) (aV rfl (aD rfl (aD rfl aJ)) (bV rfl rfl (bV rfl rfl (aW rfl rfl (aW rfl rfl (aW rfl rfl (aW rfl rfl trivial))))))))),rfl⟩ (by rintro _ ⟨W4,ok4,hw4,rfl⟩;exact⟨rfl,.inl rfl,fun j hj=>nomatch hj⟩) (aI ⟨rfl,rfl,rfl,rfl,rfl,rfl,rfl,rfl,trivial⟩) (fun j hj=>nomatch hj) ?_))
     rintro _ ⟨W4,ok4,hw4,rfl⟩
     first
     |(exact wq [] [] ⟨W4,q+1+1+1+1,⟨(hw3.trans hw4).le (by omega),by omega,by omega⟩,rfl⟩ qz)
     |(exact wq [] [] ⟨U,q+1+1+1+1,⟨hU.le (by omega),by omega,by omega⟩,rfl⟩ qz)
     |(exact wq [] [] ⟨V,q+1+1+1,⟨(fK.of.refl hV.ok).le (by omega),by omega,by omega⟩,rfl⟩ qz)
   refine sq (rT [0,5,63] (s2 (cd rfl (fun c63=> ?_) fun c63=> ?_)))
   · refine sq (rT [0,5,6] (s4 (bK (robj:=[(801,.box 137 [.d (.sl (aA (l))),.d (.i (q+1+1+1))])]) (rl:=[(0,801)]) (bor:=[]) (cK (l) (q+1+1+1) _ (by omega) hl) rfl rfl rfl rfl ⟨bU rfl rfl rfl rfl (cI rfl rfl (aV rfl (aD rfl (aD rfl aJ)) trivial)),rfl⟩ rfl (.inl rfl) (aI ⟨rfl,trivial⟩) (fun _ hj=>nomatch hj) (s1 (bk ?_)))))
     obtain⟨k0,hk0,hk9⟩: ∃k0:Nat,bO l (q+1+1+1) 9=(k0:Int)∧k0≤8:=by have:=cC l (p:=q+1+1+1) (n:=9) (by omega) (by omega);exact⟨(bO l (q+1+1+1) 9).toNat,by omega,by omega⟩
     obtain⟨x5,hx5⟩: ∃x5:Int,x5=bO l (q+1) 4:=⟨_,rfl⟩
     refine SW.loopW (n:=k0) (fun x s=> ∃(U:fK),(x≤k0∧U.of V (k0 - x))∧s=[tP 0 800,tI 5 x5,tI 6 (x:Nat),oB 800 124 [.pt 801 0,.d (.i (U.tm)),.own 802 4,.own 803 3,ps 804 4 (U.a),ps 805 5 (U.b),ps 806 5 (U.c),ps 807 10 (U.d)],oB 801 137 [.d (.sl (aA l)),.d (.i (q+1+1+1+1))],oR 802 27 5 (aG U.ks),oR 803 4 1 (aM U.ls),(.o 804,aK 210 4 fI),(.o 805,aK 58 5 cJ),(.o 806,aK 58 5 cJ),(.o 807,aK 157 10 jJ)]) ?_ ?_
     · refine wq [] [] (⟨V,⟨by omega,(fK.of.refl hV.ok).le (by omega)⟩,rfl⟩) ?_
       repeat' apply ai
       all_goals first|exact qx|exact congrArg D.i hk0|exact congrArg D.i hx5.symm|rfl|exact qz
     rintro n s ⟨U,⟨hx,hU⟩,rfl⟩
     have hUd:=hU.few
     refine sq (sq (rT [0,5,6,71] (s2 (cd rfl (fun c71=> ?_) fun c71=> ?_))))
     · have hn0:0<n:=by simp at c71;omega
       refine sk (sq (bk (rE [0,5,6] (s3 (cP (robj:=[(800,.box 124 [.pt 801 0,.d (.i (U.tm)),.own 802 4,.own 803 3,ps 804 4 (U.a),ps 805 5 (U.b),ps 806 5 (U.c),ps 807 10 (U.d)]),(801,.box 137 [.d (.sl (aA l)),.d (.i (q+1+1+1+1))]),(802,.row 27 5 (aG U.ks)),(803,.row 4 1 (aM U.ls)),(804,aK 210 4 fI),(805,aK 58 5 cJ),(806,aK 58 5 cJ),(807,aK 157 10 jJ)]) (rl:=[]) (bor:=[]) (news:=[]) (fp l (q+1+1+1+1) U ⟨2,x5,0,0,0,0,0,0,0,[]⟩ hU.ok (by simp) (by omega)) rfl rfl rfl rfl ⟨bU rfl rfl rfl rfl (dX rfl (aD rfl (aD rfl (aD rfl (aD rfl (aD rfl (aD rfl (aD rfl (aD rfl (aD rfl (aD rfl aJ)))))))))) (aV rfl (eF rfl rfl rfl (aD rfl (bQ rfl rfl rfl (bQ rfl rfl rfl (bF rfl rfl rfl (bF rfl rfl rfl (bF rfl rfl rfl (bF rfl rfl rfl aJ)))))))) (aV rfl (aD rfl (aD rfl aJ)) (bV rfl rfl (bV rfl rfl (aW rfl rfl (aW rfl rfl (aW rfl rfl (aW rfl rfl trivial))))))))),rfl⟩ (by rintro _ ⟨W3,ok3,hw3,rfl⟩;exact⟨rfl,.inl rfl,fun j hj=>nomatch hj⟩) (aI ⟨rfl,rfl,rfl,rfl,rfl,rfl,rfl,rfl,trivial⟩) (fun j hj=>nomatch hj) ?_)))))
       rintro _ ⟨W3,ok3,hw3,rfl⟩
       refine rT [0,5,6] (s3 (wq [] [] (⟨n - 1,by omega,W3,⟨by omega,(hU.trans hw3).le (by omega)⟩,rfl⟩) ?_))
       repeat' apply ai
       all_goals first|exact qx|(refine congrArg D.i ?_;rw[aB (by omega)];omega)|rfl|exact qz
     refine xt ?_
     first
     |(exact wq [] [] ⟨W4,q+1+1+1+1,⟨(hw3.trans hw4).le (by omega),by omega,by omega⟩,rfl⟩ qz)
     |(exact wq [] [] ⟨U,q+1+1+1+1,⟨hU.le (by omega),by omega,by omega⟩,rfl⟩ qz)
     |(exact wq [] [] ⟨V,q+1+1+1,⟨(fK.of.refl hV.ok).le (by omega),by omega,by omega⟩,rfl⟩ qz)
   refine sk ?_
   first
   |(exact wq [] [] ⟨W4,q+1+1+1+1,⟨(hw3.trans hw4).le (by omega),by omega,by omega⟩,rfl⟩ qz)
   |(exact wq [] [] ⟨U,q+1+1+1+1,⟨hU.le (by omega),by omega,by omega⟩,rfl⟩ qz)
   |(exact wq [] [] ⟨V,q+1+1+1,⟨(fK.of.refl hV.ok).le (by omega),by omega,by omega⟩,rfl⟩ qz)
 rintro s ⟨V2,q4,⟨hV2,hq4⟩,rfl⟩
 have hV2d:=hV2.few
 refine sq (rT [0,7] (s5 (ij cV rfl rfl rfl rfl rfl (s1 (sq (rE [0,7] (s1 (cP (robj:=[(800,.box 124 [.pt 801 0,.d (.i (V2.tm)),.own 802 4,.own 803 3,ps 804 4 (V2.a),ps 805 5 (V2.b),ps 806 5 (V2.c),ps 807 10 (V2.d)]),(801,.box 137 [.d (.sl (aA l)),.d (.i (q4))]),(802,.row 27 5 (aG V2.ks)),(803,.row 4 1 (aM V2.ls)),(804,aK 210 4 fI),(805,aK 58 5 cJ),(806,aK 58 5 cJ),(807,aK 157 10 jJ)]) (rl:=[]) (bor:=[]) (news:=[]) (fk l q4 V2 6 0 (by omega) hl hV2.ok (by omega) (by omega)) rfl rfl rfl rfl ⟨bU rfl rfl rfl rfl (cI rfl rfl (cI rfl rfl (aV rfl (eF rfl rfl rfl (aD rfl (bQ rfl rfl rfl (bQ rfl rfl rfl (bF rfl rfl rfl (bF rfl rfl rfl (bF rfl rfl rfl (bF rfl rfl rfl aJ)))))))) (aV rfl (aD rfl (aD rfl aJ)) (bV rfl rfl (bV rfl rfl (aW rfl rfl (aW rfl rfl (aW rfl rfl (aW rfl rfl trivial)))))))))),rfl⟩ (by rintro _ ⟨V3,q7,hw7,rfl⟩;exact⟨rfl,.inl rfl,fun j hj=>nomatch hj⟩) (aI ⟨rfl,rfl,rfl,rfl,rfl,rfl,rfl,rfl,trivial⟩) (fun j hj=>nomatch hj) ?_))))))))
 rintro _ ⟨V3,q7,hw7,rfl⟩
 refine sq (sq (rT [0,7,8] (s1 (bk ?_))))
 obtain⟨a7,ha7⟩: ∃a7:Nat,a7=V2.a:=⟨_,rfl⟩
 have hw7d:=hw7.1.few
 refine SW.loopW (n:=12) (fun x s=> ∃(i:Nat) (U:fK),x=12 - i∧(i≤12∧U.of V3 i)∧s=[tP 0 800,tI 7 (a7:Nat),tI 8 (i:Nat),oB 800 124 [.pt 801 0,.d (.i (U.tm)),.own 802 4,.own 803 3,ps 804 4 (U.a),ps 805 5 (U.b),ps 806 5 (U.c),ps 807 10 (U.d)],oB 801 137 [.d (.sl (aA l)),.d (.i (q7))],oR 802 27 5 (aG U.ks),oR 803 4 1 (aM U.ls),(.o 804,aK 210 4 fI),(.o 805,aK 58 5 cJ),(.o 806,aK 58 5 cJ),(.o 807,aK 157 10 jJ)]) ?_ ?_
 · refine wq [] [] (⟨0,V3,rfl,⟨by omega,fK.of.refl hw7.1.ok⟩,rfl⟩) ?_
   repeat' apply ai
   all_goals first|exact qx|rfl|(rw[ha7])|exact qz
 rintro n s ⟨i7,U,rfl,⟨hi7,hU⟩,rfl⟩
 have hUd:=hU.few
 refine sq (sq (rT [0,7,8,97] (s3 (y4 (y1 (aEf cV rfl rfl rfl rfl rfl rk (y2 (ai pk (cd rfl (fun c97=> ?_) fun c97=> ?_)))))))))
 · have hi12:i7<12:=by have h9:=c97;simp only[gb,aXb,decide_eq_true_eq] at h9;omega
   refine sk (sq (bk (rE [0,7,8] (s3 (cP (robj:=[(800,.box 124 [.pt 801 0,.d (.i (U.tm)),.own 802 4,.own 803 3,ps 804 4 (U.a),ps 805 5 (U.b),ps 806 5 (U.c),ps 807 10 (U.d)]),(801,.box 137 [.d (.sl (aA l)),.d (.i (q7))]),(802,.row 27 5 (aG U.ks)),(803,.row 4 1 (aM U.ls)),(804,aK 210 4 fI),(805,aK 58 5 cJ),(806,aK 58 5 cJ),(807,aK 157 10 jJ)]) (rl:=[]) (bor:=[]) (news:=[]) (fp l q7 U ⟨4,0,0,0,a7,0,0,0,0,[]⟩ hU.ok (by simp) (by omega)) rfl rfl rfl rfl ⟨bU rfl rfl rfl rfl (dX rfl (aD rfl (aD rfl (aD rfl (aD rfl (aD rfl (aD rfl (aD rfl (aD rfl (aD rfl (aD rfl aJ)))))))))) (aV rfl (eF rfl rfl rfl (aD rfl (bQ rfl rfl rfl (bQ rfl rfl rfl (bF rfl rfl rfl (bF rfl rfl rfl (bF rfl rfl rfl (bF rfl rfl rfl aJ)))))))) (aV rfl (aD rfl (aD rfl aJ)) (bV rfl rfl (bV rfl rfl (aW rfl rfl (aW rfl rfl (aW rfl rfl (aW rfl rfl trivial))))))))),rfl⟩ (by rintro _ ⟨W3,ok3,hw3,rfl⟩;exact⟨rfl,.inl rfl,fun j hj=>nomatch hj⟩) (aI ⟨rfl,rfl,rfl,rfl,rfl,rfl,rfl,rfl,trivial⟩) (fun j hj=>nomatch hj) ?_)))))
   rintro _ ⟨W3,ok3,hw3,rfl⟩
   refine rT [0,7,8] (s3 (wq [] [] (⟨12 - (i7+1),by omega,i7+1,W3,rfl,⟨by omega,hU.trans hw3⟩,rfl⟩) ?_))
   repeat' apply ai
   all_goals first|exact qx|exact congrArg D.i (aB (by omega))|rfl|exact qz
 refine xt (rE [] (s1 (cP (robj:=[(800,.box 124 [.pt 801 0,.d (.i (U.tm)),.own 802 4,.own 803 3,ps 804 4 (U.a),ps 805 5 (U.b),ps 806 5 (U.c),ps 807 10 (U.d)]),(801,.box 137 [.d (.sl (aA l)),.d (.i (q7))]),(802,.row 27 5 (aG U.ks)),(803,.row 4 1 (aM U.ls)),(804,aK 210 4 fI),(805,aK 58 5 cJ),(806,aK 58 5 cJ),(807,aK 157 10 jJ)]) (rl:=[]) (bor:=[]) (news:=[]) (fj l q7 U 40 0 (by omega) hl hU.ok (by omega) (by omega)) rfl rfl rfl rfl ⟨bU rfl rfl rfl rfl (cI rfl rfl (cI rfl rfl (aV rfl (eF rfl rfl rfl (aD rfl (bQ rfl rfl rfl (bQ rfl rfl rfl (bF rfl rfl rfl (bF rfl rfl rfl (bF rfl rfl rfl (bF rfl rfl rfl aJ)))))))) (aV rfl (aD rfl (aD rfl aJ)) (bV rfl rfl (bV rfl rfl (aW rfl rfl (aW rfl rfl (aW rfl rfl (aW rfl rfl trivial)))))))))),rfl⟩ (by rintro _ ⟨W9,q9,hw9,rfl⟩;exact⟨rfl,.inl rfl,fun j hj=>nomatch hj⟩) (aI ⟨rfl,rfl,rfl,rfl,rfl,rfl,rfl,rfl,trivial⟩) (fun j hj=>nomatch hj) ?_)))
 rintro _ ⟨W9,q9,hw9,rfl⟩
 refine cW [oB 800 124 [.pt 801 0,.d (.i (W9.tm)),.own 802 4,.own 803 3,ps 804 4 (W9.a),ps 805 5 (W9.b),ps 806 5 (W9.c),ps 807 10 (W9.d)],oB 801 137 [.d (.sl (aA l)),.d (.i (q9))],oR 802 27 5 (aG W9.ks),oR 803 4 1 (aM W9.ls),(.o 804,aK 210 4 fI),(.o 805,aK 58 5 cJ),(.o 806,aK 58 5 cJ),(.o 807,aK 157 10 jJ)] ⟨W9,q9,⟨(hV.trans (hV2.trans (hw7.1.trans (hU.trans hw9.1)))).le (by omega),by omega,by omega⟩,rfl⟩ (rq [] [] rfl ?_)
 repeat' apply ai
 all_goals try exact qx
 all_goals(first|with_reducible rfl|(rfl))
set_option maxHeartbeats 6400000 in
theorem aVb (l:List UInt8) (p:Int) (W:fK) (r:Int) (hp:0≤p∧p≤870000) (hl:l.length≤2000) (hW:W.ok) (hd:W.d≤96000):ui 140 2 [tP 0 800,tI 1 r,oB 800 124 [.pt 801 0,.d (.i (W.tm)),.own 802 4,.own 803 3,ps 804 4 (W.a),ps 805 5 (W.b),ps 806 5 (W.c),ps 807 10 (W.d)],oB 801 137 [.d (.sl (aA l)),.d (.i (p))],oR 802 27 5 (aG W.ks),oR 803 4 1 (aM W.ls),(.o 804,aK 210 4 fI),(.o 805,aK 58 5 cJ),(.o 806,aK 58 5 cJ),(.o 807,aK 157 10 jJ)] (fun s=> ∃(W2:fK) (q:Int),(W2.of W 520∧p≤q∧q≤p+1200)∧s=[oB 800 124 [.pt 801 0,.d (.i (W2.tm)),.own 802 4,.own 803 3,ps 804 4 (W2.a),ps 805 5 (W2.b),ps 806 5 (W2.c),ps 807 10 (W2.d)],oB 801 137 [.d (.sl (aA l)),.d (.i (q))],oR 802 27 5 (aG W2.ks),oR 803 4 1 (aM W2.ls),(.o 804,aK 210 4 fI),(.o 805,aK 58 5 cJ),(.o 806,aK 58 5 cJ),(.o 807,aK 157 10 jJ)]):=by
 refine yv Tryz.func140 rfl (sq (rT [0,1,4] (s4 (bK (robj:=[(801,.box 137 [.d (.sl (aA (l))),.d (.i (p))])]) (rl:=[(0,801)]) (bor:=[]) (cK (l) (p) _ (by omega) hl) rfl rfl rfl rfl ⟨bU rfl rfl rfl rfl (cI rfl rfl (aV rfl (aD rfl (aD rfl aJ)) trivial)),rfl⟩ rfl (.inl rfl) (aI ⟨rfl,trivial⟩) (fun _ hj=>nomatch hj) (s1 (sq ?_))))))
 obtain⟨i,hi,hil⟩:=wO (show 0≤bO l p 4∧bO l p 4≤3 by have:=cC l (p:=p) (n:=4) (by omega) (by omega);omega)
 obtain⟨v,hv⟩: ∃v:Int,v=bO l (p+1) 24:=⟨_,rfl⟩
 refine rT [0,1,4,18] (s4 (bK (robj:=[(801,.box 137 [.d (.sl (aA (l))),.d (.i (p+1))])]) (rl:=[(0,801)]) (bor:=[]) (cK (l) (p+1) _ (by omega) hl) rfl rfl rfl rfl ⟨bU rfl rfl rfl rfl (cI rfl rfl (aV rfl (aD rfl (aD rfl aJ)) trivial)),rfl⟩ rfl (.inl rfl) (aI ⟨rfl,trivial⟩) (fun _ hj=>nomatch hj) (bk (SW.midW (fun s=> ∃cb:Bool,s=[tP 0 800,tI 1 r,tI 4 (i:Nat),tI 18 v,tB 27 cb,oB 800 124 [.pt 801 0,.d (.i (W.tm)),.own 802 4,.own 803 3,ps 804 4 (W.a),ps 805 5 (W.b),ps 806 5 (W.c),ps 807 10 (W.d)],oB 801 137 [.d (.sl (aA l)),.d (.i (p+1+1))],oR 802 27 5 (aG W.ks),oR 803 4 1 (aM W.ls),(.o 804,aK 210 4 fI),(.o 805,aK 58 5 cJ),(.o 806,aK 58 5 cJ),(.o 807,aK 157 10 jJ)]) ?_ ?_))))
 · refine sq (rT [0,1,4,18,27] (s2 (cd rfl (fun c27=> ?_) fun c27=> ?_)))
   · refine sk (wq [] [] ⟨?c1,rfl⟩ ?_)
     repeat' apply ai
     all_goals try exact qx
     try any_goals first|with_reducible rfl|exact congrArg D.i hi|exact congrArg D.i hv.symm|rfl
   refine sq (rT [0,1,4,18,27] (s2 (cd rfl (fun c27=> ?_) fun c27=> ?_)))
   · refine sk (wq [] [] ⟨?c2,rfl⟩ ?_)
     repeat' apply ai
     all_goals try exact qx
     try any_goals first|with_reducible rfl|exact congrArg D.i hi|exact congrArg D.i hv.symm|rfl
   refine rT [0,1,4,18,27] (s2 (wq [] [] ⟨?c3,rfl⟩ ?_))
   repeat' apply ai
   all_goals try exact qx
   try any_goals first|with_reducible rfl|exact congrArg D.i hi|exact congrArg D.i hv.symm|rfl
 rintro s ⟨cb27,rfl⟩
 refine cd rfl (fun c27=> ?_) fun c27=> ?_
 · refine rE [] (s1 (cP (robj:=[(800,.box 124 [.pt 801 0,.d (.i (W.tm)),.own 802 4,.own 803 3,ps 804 4 (W.a),ps 805 5 (W.b),ps 806 5 (W.c),ps 807 10 (W.d)]),(801,.box 137 [.d (.sl (aA l)),.d (.i (p+1+1))]),(802,.row 27 5 (aG W.ks)),(803,.row 4 1 (aM W.ls)),(804,aK 210 4 fI),(805,aK 58 5 cJ),(806,aK 58 5 cJ),(807,aK 157 10 jJ)]) (rl:=[]) (bor:=[]) (news:=[]) (aTj l (p+1+1) W (by omega) hl hW (by omega)) rfl rfl rfl rfl ⟨bU rfl rfl rfl rfl (aV rfl (eF rfl rfl rfl (aD rfl (bQ rfl rfl rfl (bQ rfl rfl rfl (bF rfl rfl rfl (bF rfl rfl rfl (bF rfl rfl rfl (bF rfl rfl rfl aJ)))))))) (aV rfl (aD rfl (aD rfl aJ)) (bV rfl rfl (bV rfl rfl (aW rfl rfl (aW rfl rfl (aW rfl rfl (aW rfl rfl trivial)))))))),rfl⟩ (by rintro _ ⟨W2,q2,hw2,rfl⟩;exact⟨rfl,.inl rfl,fun j hj=>nomatch hj⟩) (aI ⟨rfl,rfl,rfl,rfl,rfl,rfl,rfl,rfl,trivial⟩) (fun j hj=>nomatch hj) ?_))
   rintro _ ⟨W2,q2,hw2,rfl⟩
   refine cW [oB 800 124 [.pt 801 0,.d (.i (W2.tm)),.own 802 4,.own 803 3,ps 804 4 (W2.a),ps 805 5 (W2.b),ps 806 5 (W2.c),ps 807 10 (W2.d)],oB 801 137 [.d (.sl (aA l)),.d (.i (q2))],oR 802 27 5 (aG W2.ks),oR 803 4 1 (aM W2.ls),(.o 804,aK 210 4 fI),(.o 805,aK 58 5 cJ),(.o 806,aK 58 5 cJ),(.o 807,aK 157 10 jJ)] ⟨W2,q2,⟨(hw2.1).le (by omega),by omega,by omega⟩,rfl⟩ (rq [] [] rfl ?_)
   repeat' apply ai
   all_goals try exact qx
   all_goals(first|with_reducible rfl|(rfl))
 refine SW.midW (fun s=> ∃cb:Bool,s=[tP 0 800,tI 1 r,tI 4 (i:Nat),tI 18 v,tB 33 cb,oB 800 124 [.pt 801 0,.d (.i (W.tm)),.own 802 4,.own 803 3,ps 804 4 (W.a),ps 805 5 (W.b),ps 806 5 (W.c),ps 807 10 (W.d)],oB 801 137 [.d (.sl (aA l)),.d (.i (p+1+1))],oR 802 27 5 (aG W.ks),oR 803 4 1 (aM W.ls),(.o 804,aK 210 4 fI),(.o 805,aK 58 5 cJ),(.o 806,aK 58 5 cJ),(.o 807,aK 157 10 jJ)]) ?_ ?_
 · refine sq (rT [0,1,4,18,33] (s2 (cd rfl (fun c33=> ?_) fun c33=> ?_)))
   · refine sk (wq [] [] ⟨?c4,rfl⟩ ?_)
     repeat' apply ai
     all_goals try exact qx
     try any_goals first|with_reducible rfl|exact congrArg D.i hi|exact congrArg D.i hv.symm|rfl
   refine sq (rT [0,1,4,18,33] (s2 (cd rfl (fun c33=> ?_) fun c33=> ?_)))
   · refine sk (wq [] [] ⟨?c5,rfl⟩ ?_)
     repeat' apply ai
     all_goals try exact qx
     try any_goals first|with_reducible rfl|exact congrArg D.i hi|exact congrArg D.i hv.symm|rfl
   refine sq (rT [0,1,4,18,33] (s2 (cd rfl (fun c33=> ?_) fun c33=> ?_)))
   · refine sk (wq [] [] ⟨?c6,rfl⟩ ?_)
     repeat' apply ai
     all_goals try exact qx
     try any_goals first|with_reducible rfl|exact congrArg D.i hi|exact congrArg D.i hv.symm|rfl
   refine sq (rT [0,1,4,18,33] (s2 (cd rfl (fun c33=> ?_) fun c33=> ?_)))
   · refine sk (wq [] [] ⟨?c7,rfl⟩ ?_)
     repeat' apply ai
     all_goals try exact qx
     try any_goals first|with_reducible rfl|exact congrArg D.i hi|exact congrArg D.i hv.symm|rfl
   refine sq (rT [0,1,4,18,33] (s2 (cd rfl (fun c33=> ?_) fun c33=> ?_)))
   · refine sk (wq [] [] ⟨?c8,rfl⟩ ?_)
     repeat' apply ai
     all_goals try exact qx
     try any_goals first|with_reducible rfl|exact congrArg D.i hi|exact congrArg D.i hv.symm|rfl
   refine rT [0,1,4,18,33] (s2 (wq [] [] ⟨?c9,rfl⟩ ?_))
   repeat' apply ai
   all_goals try exact qx
   try any_goals first|with_reducible rfl|exact congrArg D.i hi|exact congrArg D.i hv.symm|rfl
 rintro s ⟨cb33,rfl⟩
 refine cd rfl (fun c33=> ?_) fun c33=> ?_
 · refine rE [] (s5 (iD (bK (robj:=[(801,.box 137 [.d (.sl (aA (l))),.d (.i (p+1+1))])]) (rl:=[(0,801)]) (bor:=[]) (cK (l) (p+1+1) _ (by omega) hl) rfl rfl rfl rfl ⟨bU rfl rfl rfl rfl (cI rfl rfl (aV rfl (aD rfl (aD rfl aJ)) trivial)),rfl⟩ rfl (.inl rfl) (aI ⟨rfl,trivial⟩) (fun _ hj=>nomatch hj) ?_)))
   obtain⟨m7,hm7,hbm7⟩: ∃m7:Nat,wrap64 (1+bO l (p+1+1) 7)=(m7:Int)∧1≤m7∧m7≤7:=by have:=cC l (p:=p+1+1) (n:=7) (by omega) (by omega);rw[aB (by omega)];exact⟨(1+bO l (p+1+1) 7).toNat,by omega,by omega,by omega⟩
   refine s2 (cP (robj:=[(800,.box 124 [.pt 801 0,.d (.i (W.tm)),.own 802 4,.own 803 3,ps 804 4 (W.a),ps 805 5 (W.b),ps 806 5 (W.c),ps 807 10 (W.d)]),(801,.box 137 [.d (.sl (aA l)),.d (.i (p+1+1+1))]),(802,.row 27 5 (aG W.ks)),(803,.row 4 1 (aM W.ls)),(804,aK 210 4 fI),(805,aK 58 5 cJ),(806,aK 58 5 cJ),(807,aK 157 10 jJ)]) (rl:=[]) (bor:=[]) (news:=[]) (fk l (p+1+1+1) W m7 r (by omega) hl hW (by omega) (by omega)) rfl rfl rfl rfl ⟨bU rfl rfl rfl rfl (cI rfl (congrArg D.i hm7) (cI rfl rfl (aV rfl (eF rfl rfl rfl (aD rfl (bQ rfl rfl rfl (bQ rfl rfl rfl (bF rfl rfl rfl (bF rfl rfl rfl (bF rfl rfl rfl (bF rfl rfl rfl aJ)))))))) (aV rfl (aD rfl (aD rfl aJ)) (bV rfl rfl (bV rfl rfl (aW rfl rfl (aW rfl rfl (aW rfl rfl (aW rfl rfl trivial)))))))))),rfl⟩ (by rintro _ ⟨W2,q2,hw2,rfl⟩;exact⟨rfl,.inl rfl,fun j hj=>nomatch hj⟩) (aI ⟨rfl,rfl,rfl,rfl,rfl,rfl,rfl,rfl,trivial⟩) (fun j hj=>nomatch hj) ?_)
   rintro _ ⟨W2,q2,hw2,rfl⟩
   refine cW [oB 800 124 [.pt 801 0,.d (.i (W2.tm)),.own 802 4,.own 803 3,ps 804 4 (W2.a),ps 805 5 (W2.b),ps 806 5 (W2.c),ps 807 10 (W2.d)],oB 801 137 [.d (.sl (aA l)),.d (.i (q2))],oR 802 27 5 (aG W2.ks),oR 803 4 1 (aM W2.ls),(.o 804,aK 210 4 fI),(.o 805,aK 58 5 cJ),(.o 806,aK 58 5 cJ),(.o 807,aK 157 10 jJ)] ⟨W2,q2,⟨(hw2.1).le (by omega),by omega,by omega⟩,rfl⟩ (rq [] [] rfl ?_)
   repeat' apply ai
   all_goals try exact qx
   all_goals(first|with_reducible rfl|(rfl))
 refine SW.midW (fun s=> ∃cb:Bool,s=[tP 0 800,tI 1 r,tI 4 (i:Nat),tI 18 v,tB 49 cb,oB 800 124 [.pt 801 0,.d (.i (W.tm)),.own 802 4,.own 803 3,ps 804 4 (W.a),ps 805 5 (W.b),ps 806 5 (W.c),ps 807 10 (W.d)],oB 801 137 [.d (.sl (aA l)),.d (.i (p+1+1))],oR 802 27 5 (aG W.ks),oR 803 4 1 (aM W.ls),(.o 804,aK 210 4 fI),(.o 805,aK 58 5 cJ),(.o 806,aK 58 5 cJ),(.o 807,aK 157 10 jJ)]) ?_ ?_
 · refine sq (rT [0,1,4,18,49] (s2 (cd rfl (fun c49=> ?_) fun c49=> ?_)))
   · refine sk (wq [] [] ⟨?c10,rfl⟩ ?_)
     repeat' apply ai
     all_goals try exact qx
     try any_goals first|with_reducible rfl|exact congrArg D.i hi|exact congrArg D.i hv.symm|rfl
   refine rT [0,1,4,18,49] (s2 (wq [] [] ⟨?c11,rfl⟩ ?_))
   repeat' apply ai
   all_goals try exact qx
   try any_goals first|with_reducible rfl|exact congrArg D.i hi|exact congrArg D.i hv.symm|rfl
 rintro s ⟨cb49,rfl⟩
 refine cd rfl (fun c49=> ?_) fun c49=> ?_
 · refine rE [] (s5 (iD (bK (robj:=[(801,.box 137 [.d (.sl (aA (l))),.d (.i (p+1+1))])]) (rl:=[(0,801)]) (bor:=[]) (cK (l) (p+1+1) _ (by omega) hl) rfl rfl rfl rfl ⟨bU rfl rfl rfl rfl (cI rfl rfl (aV rfl (aD rfl (aD rfl aJ)) trivial)),rfl⟩ rfl (.inl rfl) (aI ⟨rfl,trivial⟩) (fun _ hj=>nomatch hj) ?_)))
   obtain⟨m7,hm7,hbm7⟩: ∃m7:Nat,wrap64 (1+bO l (p+1+1) 20)=(m7:Int)∧1≤m7∧m7≤20:=by have:=cC l (p:=p+1+1) (n:=20) (by omega) (by omega);rw[aB (by omega)];exact⟨(1+bO l (p+1+1) 20).toNat,by omega,by omega,by omega⟩
   refine s2 (cP (robj:=[(800,.box 124 [.pt 801 0,.d (.i (W.tm)),.own 802 4,.own 803 3,ps 804 4 (W.a),ps 805 5 (W.b),ps 806 5 (W.c),ps 807 10 (W.d)]),(801,.box 137 [.d (.sl (aA l)),.d (.i (p+1+1+1))]),(802,.row 27 5 (aG W.ks)),(803,.row 4 1 (aM W.ls)),(804,aK 210 4 fI),(805,aK 58 5 cJ),(806,aK 58 5 cJ),(807,aK 157 10 jJ)]) (rl:=[]) (bor:=[]) (news:=[]) (fj l (p+1+1+1) W m7 r (by omega) hl hW (by omega) (by omega)) rfl rfl rfl rfl ⟨bU rfl rfl rfl rfl (cI rfl (congrArg D.i hm7) (cI rfl rfl (aV rfl (eF rfl rfl rfl (aD rfl (bQ rfl rfl rfl (bQ rfl rfl rfl (bF rfl rfl rfl (bF rfl rfl rfl (bF rfl rfl rfl (bF rfl rfl rfl aJ)))))))) (aV rfl (aD rfl (aD rfl aJ)) (bV rfl rfl (bV rfl rfl (aW rfl rfl (aW rfl rfl (aW rfl rfl (aW rfl rfl trivial)))))))))),rfl⟩ (by rintro _ ⟨W2,q2,hw2,rfl⟩;exact⟨rfl,.inl rfl,fun j hj=>nomatch hj⟩) (aI ⟨rfl,rfl,rfl,rfl,rfl,rfl,rfl,rfl,trivial⟩) (fun j hj=>nomatch hj) ?_)
   rintro _ ⟨W2,q2,hw2,rfl⟩
   refine cW [oB 800 124 [.pt 801 0,.d (.i (W2.tm)),.own 802 4,.own 803 3,ps 804 4 (W2.a),ps 805 5 (W2.b),ps 806 5 (W2.c),ps 807 10 (W2.d)],oB 801 137 [.d (.sl (aA l)),.d (.i (q2))],oR 802 27 5 (aG W2.ks),oR 803 4 1 (aM W2.ls),(.o 804,aK 210 4 fI),(.o 805,aK 58 5 cJ),(.o 806,aK 58 5 cJ),(.o 807,aK 157 10 jJ)] ⟨W2,q2,⟨(hw2.1).le (by omega),by omega,by omega⟩,rfl⟩ (rq [] [] rfl ?_)
   repeat' apply ai
   all_goals try exact qx
   all_goals(first|with_reducible rfl|(rfl))
 refine SW.midW (fun s=> ∃cb:Bool,s=[tP 0 800,tI 4 (i:Nat),tI 18 v,tB 61 cb,oB 800 124 [.pt 801 0,.d (.i (W.tm)),.own 802 4,.own 803 3,ps 804 4 (W.a),ps 805 5 (W.b),ps 806 5 (W.c),ps 807 10 (W.d)],oB 801 137 [.d (.sl (aA l)),.d (.i (p+1+1))],oR 802 27 5 (aG W.ks),oR 803 4 1 (aM W.ls),(.o 804,aK 210 4 fI),(.o 805,aK 58 5 cJ),(.o 806,aK 58 5 cJ),(.o 807,aK 157 10 jJ)]) ?_ ?_
 · refine sq (rT [0,4,18,61] (s2 (cd rfl (fun c61=> ?_) fun c61=> ?_)))
   · refine sk (wq [] [] ⟨?c12,rfl⟩ ?_)
     repeat' apply ai
     all_goals try exact qx
     try any_goals first|with_reducible rfl|exact congrArg D.i hi|exact congrArg D.i hv.symm|rfl
   refine rT [0,4,18,61] (s2 (wq [] [] ⟨?c13,rfl⟩ ?_))
   repeat' apply ai
   all_goals try exact qx
   try any_goals first|with_reducible rfl|exact congrArg D.i hi|exact congrArg D.i hv.symm|rfl
 rintro s ⟨cb61,rfl⟩
 refine cd rfl (fun c61=> ?_) fun c61=> ?_
 · refine rE [] (s3 (cP (robj:=[(800,.box 124 [.pt 801 0,.d (.i (W.tm)),.own 802 4,.own 803 3,ps 804 4 (W.a),ps 805 5 (W.b),ps 806 5 (W.c),ps 807 10 (W.d)]),(801,.box 137 [.d (.sl (aA l)),.d (.i (p+1+1))]),(802,.row 27 5 (aG W.ks)),(803,.row 4 1 (aM W.ls)),(804,aK 210 4 fI),(805,aK 58 5 cJ),(806,aK 58 5 cJ),(807,aK 157 10 jJ)]) (rl:=[]) (bor:=[]) (news:=[]) (fp l (p+1+1) W ⟨2,i,0,0,0,0,0,0,0,[]⟩ hW (by simp) (by omega)) rfl rfl rfl rfl ⟨bU rfl rfl rfl rfl (dX rfl (aD rfl (aD rfl (aD rfl (aD rfl (aD rfl (aD rfl (aD rfl (aD rfl (aD rfl (aD rfl aJ)))))))))) (aV rfl (eF rfl rfl rfl (aD rfl (bQ rfl rfl rfl (bQ rfl rfl rfl (bF rfl rfl rfl (bF rfl rfl rfl (bF rfl rfl rfl (bF rfl rfl rfl aJ)))))))) (aV rfl (aD rfl (aD rfl aJ)) (bV rfl rfl (bV rfl rfl (aW rfl rfl (aW rfl rfl (aW rfl rfl (aW rfl rfl trivial))))))))),rfl⟩ (by rintro _ ⟨W2,ok2,hw2,rfl⟩;exact⟨rfl,.inl rfl,fun j hj=>nomatch hj⟩) (aI ⟨rfl,rfl,rfl,rfl,rfl,rfl,rfl,rfl,trivial⟩) (fun j hj=>nomatch hj) ?_))
   rintro _ ⟨W2,ok2,hw2,rfl⟩
   refine cW [oB 800 124 [.pt 801 0,.d (.i (W2.tm)),.own 802 4,.own 803 3,ps 804 4 (W2.a),ps 805 5 (W2.b),ps 806 5 (W2.c),ps 807 10 (W2.d)],oB 801 137 [.d (.sl (aA l)),.d (.i ((p+1+1)))],oR 802 27 5 (aG W2.ks),oR 803 4 1 (aM W2.ls),(.o 804,aK 210 4 fI),(.o 805,aK 58 5 cJ),(.o 806,aK 58 5 cJ),(.o 807,aK 157 10 jJ)] ⟨W2,(p+1+1),⟨(hw2).le (by omega),by omega,by omega⟩,rfl⟩ (rq [] [] rfl ?_)
   repeat' apply ai
   all_goals try exact qx
   all_goals(first|with_reducible rfl|(rfl))
 refine sq (rT [0,4,18,68] (s2 (cd rfl (fun c68=> ?_) fun c68=> ?_)))
 · refine rE [] (s6 (iD (bK (robj:=[(801,.box 137 [.d (.sl (aA (l))),.d (.i (p+1+1))])]) (rl:=[(0,801)]) (bor:=[]) (cK (l) (p+1+1) _ (by omega) hl) rfl rfl rfl rfl ⟨bU rfl rfl rfl rfl (cI rfl rfl (aV rfl (aD rfl (aD rfl aJ)) trivial)),rfl⟩ rfl (.inl rfl) (aI ⟨rfl,trivial⟩) (fun _ hj=>nomatch hj) (s1 (cP (robj:=[(800,.box 124 [.pt 801 0,.d (.i (W.tm)),.own 802 4,.own 803 3,ps 804 4 (W.a),ps 805 5 (W.b),ps 806 5 (W.c),ps 807 10 (W.d)]),(801,.box 137 [.d (.sl (aA l)),.d (.i (p+1+1+1))]),(802,.row 27 5 (aG W.ks)),(803,.row 4 1 (aM W.ls)),(804,aK 210 4 fI),(805,aK 58 5 cJ),(806,aK 58 5 cJ),(807,aK 157 10 jJ)]) (rl:=[]) (bor:=[]) (news:=[]) (fp l (p+1+1+1) W ⟨7,i,0,0,0,0,bO l (p+1+1) 50,0,0,[]⟩ hW (by simp) (by omega)) rfl rfl rfl rfl ⟨bU rfl rfl rfl rfl (dX rfl (aD rfl (aD rfl (aD rfl (aD rfl (aD rfl (aD rfl (aD rfl (aD rfl (aD rfl (aD rfl aJ)))))))))) (aV rfl (eF rfl rfl rfl (aD rfl (bQ rfl rfl rfl (bQ rfl rfl rfl (bF rfl rfl rfl (bF rfl rfl rfl (bF rfl rfl rfl (bF rfl rfl rfl aJ)))))))) (aV rfl (aD rfl (aD rfl aJ)) (bV rfl rfl (bV rfl rfl (aW rfl rfl (aW rfl rfl (aW rfl rfl (aW rfl rfl trivial))))))))),rfl⟩ (by rintro _ ⟨W2,ok2,hw2,rfl⟩;exact⟨rfl,.inl rfl,fun j hj=>nomatch hj⟩) (aI ⟨rfl,rfl,rfl,rfl,rfl,rfl,rfl,rfl,trivial⟩) (fun j hj=>nomatch hj) ?_)))))
   rintro _ ⟨W2,ok2,hw2,rfl⟩
   refine cW [oB 800 124 [.pt 801 0,.d (.i (W2.tm)),.own 802 4,.own 803 3,ps 804 4 (W2.a),ps 805 5 (W2.b),ps 806 5 (W2.c),ps 807 10 (W2.d)],oB 801 137 [.d (.sl (aA l)),.d (.i ((p+1+1+1)))],oR 802 27 5 (aG W2.ks),oR 803 4 1 (aM W2.ls),(.o 804,aK 210 4 fI),(.o 805,aK 58 5 cJ),(.o 806,aK 58 5 cJ),(.o 807,aK 157 10 jJ)] ⟨W2,(p+1+1+1),⟨(hw2).le (by omega),by omega,by omega⟩,rfl⟩ (rq [] [] rfl ?_)
   repeat' apply ai
   all_goals try exact qx
   all_goals(first|with_reducible rfl|(rfl))
 refine SW.midW (fun s=> ∃cb:Bool,s=[tP 0 800,tI 4 (i:Nat),tI 18 v,tB 79 cb,oB 800 124 [.pt 801 0,.d (.i (W.tm)),.own 802 4,.own 803 3,ps 804 4 (W.a),ps 805 5 (W.b),ps 806 5 (W.c),ps 807 10 (W.d)],oB 801 137 [.d (.sl (aA l)),.d (.i (p+1+1))],oR 802 27 5 (aG W.ks),oR 803 4 1 (aM W.ls),(.o 804,aK 210 4 fI),(.o 805,aK 58 5 cJ),(.o 806,aK 58 5 cJ),(.o 807,aK 157 10 jJ)]) ?_ ?_
 · refine sq (rT [0,4,18,79] (s2 (cd rfl (fun c79=> ?_) fun c79=> ?_)))
   · refine sk (wq [] [] ⟨?c14,rfl⟩ ?_)
     repeat' apply ai
     all_goals try exact qx
     try any_goals first|with_reducible rfl|exact congrArg D.i hi|exact congrArg D.i hv.symm|rfl
   refine rT [0,4,18,79] (s2 (wq [] [] ⟨?c15,rfl⟩ ?_))
   repeat' apply ai
   all_goals try exact qx
   try any_goals first|with_reducible rfl|exact congrArg D.i hi|exact congrArg D.i hv.symm|rfl
 rintro s ⟨cb79,rfl⟩
 refine cd rfl (fun c79=> ?_) fun c79=> ?_
 · refine rE [] (s3 (cP (robj:=[(800,.box 124 [.pt 801 0,.d (.i (W.tm)),.own 802 4,.own 803 3,ps 804 4 (W.a),ps 805 5 (W.b),ps 806 5 (W.c),ps 807 10 (W.d)]),(801,.box 137 [.d (.sl (aA l)),.d (.i (p+1+1))]),(802,.row 27 5 (aG W.ks)),(803,.row 4 1 (aM W.ls)),(804,aK 210 4 fI),(805,aK 58 5 cJ),(806,aK 58 5 cJ),(807,aK 157 10 jJ)]) (rl:=[]) (bor:=[]) (news:=[]) (fp l (p+1+1) W ⟨8,i,0,0,0,0,0,0,0,[]⟩ hW (by simp) (by omega)) rfl rfl rfl rfl ⟨bU rfl rfl rfl rfl (dX rfl (aD rfl (aD rfl (aD rfl (aD rfl (aD rfl (aD rfl (aD rfl (aD rfl (aD rfl (aD rfl aJ)))))))))) (aV rfl (eF rfl rfl rfl (aD rfl (bQ rfl rfl rfl (bQ rfl rfl rfl (bF rfl rfl rfl (bF rfl rfl rfl (bF rfl rfl rfl (bF rfl rfl rfl aJ)))))))) (aV rfl (aD rfl (aD rfl aJ)) (bV rfl rfl (bV rfl rfl (aW rfl rfl (aW rfl rfl (aW rfl rfl (aW rfl rfl trivial))))))))),rfl⟩ (by rintro _ ⟨W2,ok2,hw2,rfl⟩;exact⟨rfl,.inl rfl,fun j hj=>nomatch hj⟩) (aI ⟨rfl,rfl,rfl,rfl,rfl,rfl,rfl,rfl,trivial⟩) (fun j hj=>nomatch hj) ?_))
   rintro _ ⟨W2,ok2,hw2,rfl⟩
   refine cW [oB 800 124 [.pt 801 0,.d (.i (W2.tm)),.own 802 4,.own 803 3,ps 804 4 (W2.a),ps 805 5 (W2.b),ps 806 5 (W2.c),ps 807 10 (W2.d)],oB 801 137 [.d (.sl (aA l)),.d (.i ((p+1+1)))],oR 802 27 5 (aG W2.ks),oR 803 4 1 (aM W2.ls),(.o 804,aK 210 4 fI),(.o 805,aK 58 5 cJ),(.o 806,aK 58 5 cJ),(.o 807,aK 157 10 jJ)] ⟨W2,(p+1+1),⟨(hw2).le (by omega),by omega,by omega⟩,rfl⟩ (rq [] [] rfl ?_)
   repeat' apply ai
   all_goals try exact qx
   all_goals(first|with_reducible rfl|(rfl))
 refine sq (rT [0,4,18,86] (s2 (cd rfl (fun c86=> ?_) fun c86=> ?_)))
 · refine SW.regDE cV mo [] 13 (fun _=>none) rfl rfl (by kernel_rfl) ?_
   refine s5 (bK (robj:=[(801,.box 137 [.d (.sl (aA (l))),.d (.i (p+1+1))])]) (rl:=[(0,801)]) (bor:=[]) (cK (l) (p+1+1) _ (by omega) hl) rfl rfl rfl rfl ⟨bU rfl rfl rfl rfl (cI rfl rfl (aV rfl (aD rfl (aD rfl aJ)) trivial)),rfl⟩ rfl (.inl rfl) (aI ⟨rfl,trivial⟩) (fun _ hj=>nomatch hj) (s5 (bK (robj:=[(801,.box 137 [.d (.sl (aA (l))),.d (.i (p+1+1+1))])]) (rl:=[(0,801)]) (bor:=[]) (cK (l) (p+1+1+1) _ (by omega) hl) rfl rfl rfl rfl ⟨bU rfl rfl rfl rfl (cI rfl rfl (aV rfl (aD rfl (aD rfl aJ)) trivial)),rfl⟩ rfl (.inl rfl) (aI ⟨rfl,trivial⟩) (fun _ hj=>nomatch hj) (s1 (ek (robj:=[(800,.box 124 [.pt 801 0,.d (.i (W.tm)),.own 802 4,.own 803 3,ps 804 4 (W.a),ps 805 5 (W.b),ps 806 5 (W.c),ps 807 10 (W.d)]),(801,.box 137 [.d (.sl (aA l)),.d (.i (p+1+1+1+1))]),(802,.row 27 5 (aG W.ks)),(803,.row 4 1 (aM W.ls)),(804,aK 210 4 fI),(805,aK 58 5 cJ),(806,aK 58 5 cJ),(807,aK 157 10 jJ)]) (rl:=[]) (bor:=[]) (news:=[]) (fp l (p+1+1+1+1) W ⟨wrap64 (9+bO l (p+1+1) 2),bO l (p+1+1+1) 3,0,0,0,0,0,0,0,[]⟩ hW (by simp) (by omega)) rfl rfl rfl rfl ⟨bU rfl rfl rfl rfl (dX rfl (aD rfl (aD rfl (aD rfl (aD rfl (aD rfl (aD rfl (aD rfl (aD rfl (aD rfl (aD rfl aJ)))))))))) (aV rfl (eF rfl rfl rfl (aD rfl (bQ rfl rfl rfl (bQ rfl rfl rfl (bF rfl rfl rfl (bF rfl rfl rfl (bF rfl rfl rfl (bF rfl rfl rfl aJ)))))))) (aV rfl (aD rfl (aD rfl aJ)) (bV rfl rfl (bV rfl rfl (aW rfl rfl (aW rfl rfl (aW rfl rfl (aW rfl rfl trivial))))))))),rfl⟩ (by rintro _ ⟨W2,ok2,hw2,rfl⟩;exact⟨rfl,.inl rfl,fun j hj=>nomatch hj⟩) (aI ⟨rfl,rfl,rfl,rfl,rfl,rfl,rfl,rfl,trivial⟩) (fun j hj=>nomatch hj) ⟨_,W,false,(fK.of.refl hW).le (by omega),rfl⟩ ?_)))))
   rintro _ ⟨W2,ok2,hw2,rfl⟩
   refine ai (by kernel_rfl) (cW [oB 800 124 [.pt 801 0,.d (.i (W2.tm)),.own 802 4,.own 803 3,ps 804 4 (W2.a),ps 805 5 (W2.b),ps 806 5 (W2.c),ps 807 10 (W2.d)],oB 801 137 [.d (.sl (aA l)),.d (.i ((p+1+1+1+1)))],oR 802 27 5 (aG W2.ks),oR 803 4 1 (aM W2.ls),(.o 804,aK 210 4 fI),(.o 805,aK 58 5 cJ),(.o 806,aK 58 5 cJ),(.o 807,aK 157 10 jJ)] ⟨W2,(p+1+1+1+1),⟨(hw2).le (by omega),by omega,by omega⟩,rfl⟩ (rq [] [] rfl ?_))
   repeat' apply ai
   all_goals try exact qx
   all_goals(first|with_reducible rfl|(rfl))
 refine SW.midW (fun s=> ∃cb:Bool,s=[tP 0 800,tI 4 (i:Nat),tI 18 v,tB 102 cb,oB 800 124 [.pt 801 0,.d (.i (W.tm)),.own 802 4,.own 803 3,ps 804 4 (W.a),ps 805 5 (W.b),ps 806 5 (W.c),ps 807 10 (W.d)],oB 801 137 [.d (.sl (aA l)),.d (.i (p+1+1))],oR 802 27 5 (aG W.ks),oR 803 4 1 (aM W.ls),(.o 804,aK 210 4 fI),(.o 805,aK 58 5 cJ),(.o 806,aK 58 5 cJ),(.o 807,aK 157 10 jJ)]) ?_ ?_
 · refine sq (rT [0,4,18,102] (s2 (cd rfl (fun c102=> ?_) fun c102=> ?_)))
   · refine sk (wq [] [] ⟨?c16,rfl⟩ ?_)
     repeat' apply ai
     all_goals try exact qx
     try any_goals first|with_reducible rfl|exact congrArg D.i hi|exact congrArg D.i hv.symm|rfl
   refine rT [0,4,18,102] (s2 (wq [] [] ⟨?c17,rfl⟩ ?_))
   repeat' apply ai
   all_goals try exact qx
   try any_goals first|with_reducible rfl|exact congrArg D.i hi|exact congrArg D.i hv.symm|rfl
 rintro s ⟨cb102,rfl⟩
 refine cd rfl (fun c102=> ?_) fun c102=> ?_
 · refine sq (rT [0,4,5] (s6 (ai (by exact⟨by rw[bE];exact hW.four,by omega,by omega⟩) (ai (by rw[aW6,bY (by rw[hW.four];omega)];exact⟨⟨by rw[bE];exact hW.four,by omega⟩,aW8 rfl,rfl⟩) (xp (gS (W.ks.getD i .zero) (by have:=(hW.at (show i<4 by omega)).1;omega)) (ai (by rw[aW6,bY (by rw[hW.four];omega)];rfl) ?_))))))
   refine s6 (sq (rT [0,4,5,120] (s4 (cd rfl (fun c120=> ?_) fun c120=> ?_))))
   · refine sq ?_
     have hn0:0< (aZ (W.ks.getD i .zero)).1.inbox.length:=by have h9:=of_decide_eq_true c120;rw[aC] at h9;omega
     obtain⟨j,hj,hjl⟩: ∃j:Nat,bO l (p+1+1) ((aE (aZ (W.ks.getD i .zero)).1.inbox).length:Int)=(j:Int)∧j< (aZ (W.ks.getD i .zero)).1.inbox.length:=by have:=cC l (p:=p+1+1) (n:=((aE (aZ (W.ks.getD i .zero)).1.inbox).length:Int)) (by omega) (by rw[aC];omega);rw[aC] at *; exact⟨(bO l (p+1+1) ((aZ (W.ks.getD i .zero)).1.inbox.length:Int)).toNat,by omega,by omega⟩
     refine rD [0,4,7] (s9 (bK (robj:=[(801,.box 137 [.d (.sl (aA (l))),.d (.i (p+1+1))])]) (rl:=[(0,801)]) (bor:=[]) (cK (l) (p+1+1) _ (by omega) hl) rfl rfl rfl rfl ⟨bU rfl rfl rfl rfl (cI rfl rfl (aV rfl (aD rfl (aD rfl aJ)) trivial)),rfl⟩ rfl (.inl rfl) (aI ⟨rfl,trivial⟩) (fun _ hj=>nomatch hj) (ai (by rw[hj,aW6,aQ hjl];exact⟨⟨by omega,by rw[aC];omega⟩,rfl⟩) (ai (by rw[hj,aW6,aQ hjl];exact⟨aW8 rfl,rfl⟩) (s2 (ai (by kernel_rfl) (wa [tP 0 800,tI 4 (i:Nat),tP 7 7,oB 800 124 [.pt 801 0,.d (.i (W.tm)),.own 802 4,.own 803 3,ps 804 4 (W.a),ps 805 5 (W.b),ps 806 5 (W.c),ps 807 10 (W.d)],oB 801 137 [.d (.sl (aA l)),.d (.i (p+1+1+1))],oR 802 27 5 (aG W.ks),oR 803 4 1 (aM W.ls),(.o 804,aK 210 4 fI),(.o 805,aK 58 5 cJ),(.o 806,aK 58 5 cJ),(.o 807,aK 157 10 jJ),oB 7 58 [.d (.i ((aZ (W.ks.getD i .zero)).1.inbox.getD j .zero).frm),.d (.i ((aZ (W.ks.getD i .zero)).1.inbox.getD j .zero).num),.d (.i ((aZ (W.ks.getD i .zero)).1.inbox.getD j .zero).to),.d (.i ((aZ (W.ks.getD i .zero)).1.inbox.getD j .zero).til),.d (.s ((aZ (W.ks.getD i .zero)).1.inbox.getD j .zero).text)]] [] [] ?_ ?_)))))))
     · repeat' apply ai
       all_goals first|exact qx|((rw[hj,aW6,aQ hjl];rfl))|exact qz
     refine rE [] (s7 (cP (robj:=[(800,.box 124 [.pt 801 0,.d (.i (W.tm)),.own 802 4,.own 803 3,ps 804 4 (W.a),ps 805 5 (W.b),ps 806 5 (W.c),ps 807 10 (W.d)]),(801,.box 137 [.d (.sl (aA l)),.d (.i (p+1+1+1))]),(802,.row 27 5 (aG W.ks)),(803,.row 4 1 (aM W.ls)),(804,aK 210 4 fI),(805,aK 58 5 cJ),(806,aK 58 5 cJ),(807,aK 157 10 jJ)]) (rl:=[]) (bor:=[]) (news:=[]) (fp l (p+1+1+1) W ⟨11,i,((aZ (W.ks.getD i .zero)).1.inbox.getD j .zero).frm,((aZ (W.ks.getD i .zero)).1.inbox.getD j .zero).num,0,0,0,0,0,[]⟩ hW (by simp) (by omega)) rfl rfl rfl rfl ⟨bU rfl rfl rfl rfl (dX rfl (aD rfl (aD rfl (aD rfl (aD rfl (aD rfl (aD rfl (aD rfl (aD rfl (aD rfl (aD rfl aJ)))))))))) (aV rfl (eF rfl rfl rfl (aD rfl (bQ rfl rfl rfl (bQ rfl rfl rfl (bF rfl rfl rfl (bF rfl rfl rfl (bF rfl rfl rfl (bF rfl rfl rfl aJ)))))))) (aV rfl (aD rfl (aD rfl aJ)) (bV rfl rfl (bV rfl rfl (aW rfl rfl (aW rfl rfl (aW rfl rfl (aW rfl rfl trivial))))))))),rfl⟩ (by rintro _ ⟨W2,ok2,hw2,rfl⟩;exact⟨rfl,.inl rfl,fun j hj=>nomatch hj⟩) (aI ⟨rfl,rfl,rfl,rfl,rfl,rfl,rfl,rfl,trivial⟩) (fun j hj=>nomatch hj) ?_))
     rintro _ ⟨W2,ok2,hw2,rfl⟩
     first
     |(refine cW [oB 800 124 [.pt 801 0,.d (.i (W2.tm)),.own 802 4,.own 803 3,ps 804 4 (W2.a),ps 805 5 (W2.b),ps 806 5 (W2.c),ps 807 10 (W2.d)],oB 801 137 [.d (.sl (aA l)),.d (.i ((p+1+1+1)))],oR 802 27 5 (aG W2.ks),oR 803 4 1 (aM W2.ls),(.o 804,aK 210 4 fI),(.o 805,aK 58 5 cJ),(.o 806,aK 58 5 cJ),(.o 807,aK 157 10 jJ)] ⟨W2,(p+1+1+1),⟨(hw2).le (by omega),by omega,by omega⟩,rfl⟩ (rq [] [] rfl ?_)
       repeat' apply ai
       all_goals try exact qx
       all_goals(first|with_reducible rfl|(rfl)))
     |(refine cW [oB 800 124 [.pt 801 0,.d (.i (W.tm)),.own 802 4,.own 803 3,ps 804 4 (W.a),ps 805 5 (W.b),ps 806 5 (W.c),ps 807 10 (W.d)],oB 801 137 [.d (.sl (aA l)),.d (.i ((p+1+1)))],oR 802 27 5 (aG W.ks),oR 803 4 1 (aM W.ls),(.o 804,aK 210 4 fI),(.o 805,aK 58 5 cJ),(.o 806,aK 58 5 cJ),(.o 807,aK 157 10 jJ)] ⟨W,(p+1+1),⟨(fK.of.refl hW).le (by omega),by omega,by omega⟩,rfl⟩ (rq [] [] rfl ?_)
       repeat' apply ai
       all_goals try exact qx
       all_goals(first|with_reducible rfl|(rfl)))
   refine sk ?_
   first
   |(refine cW [oB 800 124 [.pt 801 0,.d (.i (W2.tm)),.own 802 4,.own 803 3,ps 804 4 (W2.a),ps 805 5 (W2.b),ps 806 5 (W2.c),ps 807 10 (W2.d)],oB 801 137 [.d (.sl (aA l)),.d (.i ((p+1+1+1)))],oR 802 27 5 (aG W2.ks),oR 803 4 1 (aM W2.ls),(.o 804,aK 210 4 fI),(.o 805,aK 58 5 cJ),(.o 806,aK 58 5 cJ),(.o 807,aK 157 10 jJ)] ⟨W2,(p+1+1+1),⟨(hw2).le (by omega),by omega,by omega⟩,rfl⟩ (rq [] [] rfl ?_)
     repeat' apply ai
     all_goals try exact qx
     all_goals(first|with_reducible rfl|(rfl)))
   |(refine cW [oB 800 124 [.pt 801 0,.d (.i (W.tm)),.own 802 4,.own 803 3,ps 804 4 (W.a),ps 805 5 (W.b),ps 806 5 (W.c),ps 807 10 (W.d)],oB 801 137 [.d (.sl (aA l)),.d (.i ((p+1+1)))],oR 802 27 5 (aG W.ks),oR 803 4 1 (aM W.ls),(.o 804,aK 210 4 fI),(.o 805,aK 58 5 cJ),(.o 806,aK 58 5 cJ),(.o 807,aK 157 10 jJ)] ⟨W,(p+1+1),⟨(fK.of.refl hW).le (by omega),by omega,by omega⟩,rfl⟩ (rq [] [] rfl ?_)
     repeat' apply ai
     all_goals try exact qx
     all_goals(first|with_reducible rfl|(rfl)))
 refine sq (rT [0,4,18,141] (s2 (cd rfl (fun c141=> ?_) fun c141=> ?_)))
 · refine rE [] (s5 (iD (bK (robj:=[(801,.box 137 [.d (.sl (aA (l))),.d (.i (p+1+1))])]) (rl:=[(0,801)]) (bor:=[]) (cK (l) (p+1+1) _ (by omega) hl) rfl rfl rfl rfl ⟨bU rfl rfl rfl rfl (cI rfl rfl (aV rfl (aD rfl (aD rfl aJ)) trivial)),rfl⟩ rfl (.inl rfl) (aI ⟨rfl,trivial⟩) (fun _ hj=>nomatch hj) (s3 (cP (robj:=[(800,.box 124 [.pt 801 0,.d (.i (W.tm)),.own 802 4,.own 803 3,ps 804 4 (W.a),ps 805 5 (W.b),ps 806 5 (W.c),ps 807 10 (W.d)]),(801,.box 137 [.d (.sl (aA l)),.d (.i (p+1+1+1))]),(802,.row 27 5 (aG W.ks)),(803,.row 4 1 (aM W.ls)),(804,aK 210 4 fI),(805,aK 58 5 cJ),(806,aK 58 5 cJ),(807,aK 157 10 jJ)]) (rl:=[]) (bor:=[]) (news:=[]) (fp l (p+1+1+1) W ⟨wrap64 (12+bO l (p+1+1) 2),i,0,0,0,0,0,0,0,[]⟩ hW (by simp) (by omega)) rfl rfl rfl rfl ⟨bU rfl rfl rfl rfl (dX rfl (aD rfl (aD rfl (aD rfl (aD rfl (aD rfl (aD rfl (aD rfl (aD rfl (aD rfl (aD rfl aJ)))))))))) (aV rfl (eF rfl rfl rfl (aD rfl (bQ rfl rfl rfl (bQ rfl rfl rfl (bF rfl rfl rfl (bF rfl rfl rfl (bF rfl rfl rfl (bF rfl rfl rfl aJ)))))))) (aV rfl (aD rfl (aD rfl aJ)) (bV rfl rfl (bV rfl rfl (aW rfl rfl (aW rfl rfl (aW rfl rfl (aW rfl rfl trivial))))))))),rfl⟩ (by rintro _ ⟨W2,ok2,hw2,rfl⟩;exact⟨rfl,.inl rfl,fun j hj=>nomatch hj⟩) (aI ⟨rfl,rfl,rfl,rfl,rfl,rfl,rfl,rfl,trivial⟩) (fun j hj=>nomatch hj) ?_)))))
   rintro _ ⟨W2,ok2,hw2,rfl⟩
   refine cW [oB 800 124 [.pt 801 0,.d (.i (W2.tm)),.own 802 4,.own 803 3,ps 804 4 (W2.a),ps 805 5 (W2.b),ps 806 5 (W2.c),ps 807 10 (W2.d)],oB 801 137 [.d (.sl (aA l)),.d (.i ((p+1+1+1)))],oR 802 27 5 (aG W2.ks),oR 803 4 1 (aM W2.ls),(.o 804,aK 210 4 fI),(.o 805,aK 58 5 cJ),(.o 806,aK 58 5 cJ),(.o 807,aK 157 10 jJ)] ⟨W2,(p+1+1+1),⟨(hw2).le (by omega),by omega,by omega⟩,rfl⟩ (rq [] [] rfl ?_)
   repeat' apply ai
   all_goals try exact qx
   all_goals(first|with_reducible rfl|(rfl))
 refine SW.midW (fun s=> ∃cb:Bool,s=[tP 0 800,tB 153 cb,oB 800 124 [.pt 801 0,.d (.i (W.tm)),.own 802 4,.own 803 3,ps 804 4 (W.a),ps 805 5 (W.b),ps 806 5 (W.c),ps 807 10 (W.d)],oB 801 137 [.d (.sl (aA l)),.d (.i (p+1+1))],oR 802 27 5 (aG W.ks),oR 803 4 1 (aM W.ls),(.o 804,aK 210 4 fI),(.o 805,aK 58 5 cJ),(.o 806,aK 58 5 cJ),(.o 807,aK 157 10 jJ)]) ?_ ?_
 · refine sq (rT [0,18,153] (s2 (cd rfl (fun c153=> ?_) fun c153=> ?_)))
   · refine sk (wq [] [] ⟨?c18,rfl⟩ ?_)
     repeat' apply ai
     all_goals try exact qx
     try any_goals first|with_reducible rfl|exact congrArg D.i hi|exact congrArg D.i hv.symm|rfl
   refine sq (rT [0,18,153] (s2 (cd rfl (fun c153=> ?_) fun c153=> ?_)))
   · refine sk (wq [] [] ⟨?c19,rfl⟩ ?_)
     repeat' apply ai
     all_goals try exact qx
     try any_goals first|with_reducible rfl|exact congrArg D.i hi|exact congrArg D.i hv.symm|rfl
   refine rT [0,153] (s2 (wq [] [] ⟨?c20,rfl⟩ ?_))
   repeat' apply ai
   all_goals try exact qx
   try any_goals first|with_reducible rfl|exact congrArg D.i hi|exact congrArg D.i hv.symm|rfl
 rintro s ⟨cb153,rfl⟩
 refine cd rfl (fun c153=> ?_) fun c153=> ?_
 · refine rE [] (s1 (cP (robj:=[(800,.box 124 [.pt 801 0,.d (.i (W.tm)),.own 802 4,.own 803 3,ps 804 4 (W.a),ps 805 5 (W.b),ps 806 5 (W.c),ps 807 10 (W.d)]),(801,.box 137 [.d (.sl (aA l)),.d (.i (p+1+1))]),(802,.row 27 5 (aG W.ks)),(803,.row 4 1 (aM W.ls)),(804,aK 210 4 fI),(805,aK 58 5 cJ),(806,aK 58 5 cJ),(807,aK 157 10 jJ)]) (rl:=[]) (bor:=[]) (news:=[]) (aVa l (p+1+1) W (by omega) hl hW (by omega)) rfl rfl rfl rfl ⟨bU rfl rfl rfl rfl (aV rfl (eF rfl rfl rfl (aD rfl (bQ rfl rfl rfl (bQ rfl rfl rfl (bF rfl rfl rfl (bF rfl rfl rfl (bF rfl rfl rfl (bF rfl rfl rfl aJ)))))))) (aV rfl (aD rfl (aD rfl aJ)) (bV rfl rfl (bV rfl rfl (aW rfl rfl (aW rfl rfl (aW rfl rfl (aW rfl rfl trivial)))))))),rfl⟩ (by rintro _ ⟨W2,q2,hw2,rfl⟩;exact⟨rfl,.inl rfl,fun j hj=>nomatch hj⟩) (aI ⟨rfl,rfl,rfl,rfl,rfl,rfl,rfl,rfl,trivial⟩) (fun j hj=>nomatch hj) ?_))
   rintro _ ⟨W2,q2,hw2,rfl⟩
   refine cW [oB 800 124 [.pt 801 0,.d (.i (W2.tm)),.own 802 4,.own 803 3,ps 804 4 (W2.a),ps 805 5 (W2.b),ps 806 5 (W2.c),ps 807 10 (W2.d)],oB 801 137 [.d (.sl (aA l)),.d (.i (q2))],oR 802 27 5 (aG W2.ks),oR 803 4 1 (aM W2.ls),(.o 804,aK 210 4 fI),(.o 805,aK 58 5 cJ),(.o 806,aK 58 5 cJ),(.o 807,aK 157 10 jJ)] ⟨W2,q2,⟨(hw2.1).le (by omega),by omega,by omega⟩,rfl⟩ (rq [] [] rfl ?_)
   repeat' apply ai
   all_goals try exact qx
   all_goals(first|with_reducible rfl|(rfl))
 refine sq (rT [0,8] (s1 (bk (SW.loopW (n:=4) (fun x s=> ∃(i:Nat) (V:fK) (q:Int),x=4 - i∧(i≤4∧V.of W (100*i)∧p≤q∧q≤p+2+260*i)∧s=[tP 0 800,tI 8 (i:Nat),oB 800 124 [.pt 801 0,.d (.i (V.tm)),.own 802 4,.own 803 3,ps 804 4 (V.a),ps 805 5 (V.b),ps 806 5 (V.c),ps 807 10 (V.d)],oB 801 137 [.d (.sl (aA l)),.d (.i (q))],oR 802 27 5 (aG V.ks),oR 803 4 1 (aM V.ls),(.o 804,aK 210 4 fI),(.o 805,aK 58 5 cJ),(.o 806,aK 58 5 cJ),(.o 807,aK 157 10 jJ)]) ?_ ?_))))
 · exact wq [] [] (⟨0,W,p+1+1,rfl,⟨by omega,fK.of.refl hW,by omega,by omega⟩,rfl⟩) qz
 rintro n s ⟨i,V,q,rfl,⟨hi4,hV,hq⟩,rfl⟩
 have hVd:=hV.few
 refine sq (sq (rT [0,8,20] (s2 (cd rfl (fun c20=> ?_) fun c20=> ?_))))
 · have hi5:i<4:=by simp at c20;omega
   refine sk (sq (bk (sq (rE [0,8] (s1 (cP (robj:=[(800,.box 124 [.pt 801 0,.d (.i (V.tm)),.own 802 4,.own 803 3,ps 804 4 (V.a),ps 805 5 (V.b),ps 806 5 (V.c),ps 807 10 (V.d)]),(801,.box 137 [.d (.sl (aA l)),.d (.i (q))]),(802,.row 27 5 (aG V.ks)),(803,.row 4 1 (aM V.ls)),(804,aK 210 4 fI),(805,aK 58 5 cJ),(806,aK 58 5 cJ),(807,aK 157 10 jJ)]) (rl:=[]) (bor:=[]) (news:=[]) (fk l q V 7 0 (by omega) hl hV.ok (by omega) (by omega)) rfl rfl rfl rfl ⟨bU rfl rfl rfl rfl (cI rfl rfl (cI rfl rfl (aV rfl (eF rfl rfl rfl (aD rfl (bQ rfl rfl rfl (bQ rfl rfl rfl (bF rfl rfl rfl (bF rfl rfl rfl (bF rfl rfl rfl (bF rfl rfl rfl aJ)))))))) (aV rfl (aD rfl (aD rfl aJ)) (bV rfl rfl (bV rfl rfl (aW rfl rfl (aW rfl rfl (aW rfl rfl (aW rfl rfl trivial)))))))))),rfl⟩ (by rintro _ ⟨W3,q3,hw3,rfl⟩;exact⟨rfl,.inl rfl,fun j hj=>nomatch hj⟩) (aI ⟨rfl,rfl,rfl,rfl,rfl,rfl,rfl,rfl,trivial⟩) (fun j hj=>nomatch hj) ?_))))))
   rintro _ ⟨W3,q3,hw3,rfl⟩
   refine rE [0,8] (s1 (cP (robj:=[(800,.box 124 [.pt 801 0,.d (.i (W3.tm)),.own 802 4,.own 803 3,ps 804 4 (W3.a),ps 805 5 (W3.b),ps 806 5 (W3.c),ps 807 10 (W3.d)]),(801,.box 137 [.d (.sl (aA l)),.d (.i (q3))]),(802,.row 27 5 (aG W3.ks)),(803,.row 4 1 (aM W3.ls)),(804,aK 210 4 fI),(805,aK 58 5 cJ),(806,aK 58 5 cJ),(807,aK 157 10 jJ)]) (rl:=[]) (bor:=[]) (news:=[]) (fj l q3 W3 20 0 (by omega) hl hw3.1.ok (by have:=hw3.1.few;omega) (by omega)) rfl rfl rfl rfl ⟨bU rfl rfl rfl rfl (cI rfl rfl (cI rfl rfl (aV rfl (eF rfl rfl rfl (aD rfl (bQ rfl rfl rfl (bQ rfl rfl rfl (bF rfl rfl rfl (bF rfl rfl rfl (bF rfl rfl rfl (bF rfl rfl rfl aJ)))))))) (aV rfl (aD rfl (aD rfl aJ)) (bV rfl rfl (bV rfl rfl (aW rfl rfl (aW rfl rfl (aW rfl rfl (aW rfl rfl trivial)))))))))),rfl⟩ (by rintro _ ⟨W4,q4,hw4,rfl⟩;exact⟨rfl,.inl rfl,fun j hj=>nomatch hj⟩) (aI ⟨rfl,rfl,rfl,rfl,rfl,rfl,rfl,rfl,trivial⟩) (fun j hj=>nomatch hj) ?_))
   rintro _ ⟨W4,q4,hw4,rfl⟩
   refine rT [0,8] (s3 (wq [] [] (⟨4 - (i+1),by omega,i+1,W4,q4,rfl,⟨by omega,(hV.trans (hw3.1.trans hw4.1)).le (by omega),by omega,by omega⟩,rfl⟩) ?_))
   repeat' apply ai
   all_goals first|exact qx|exact congrArg D.i (aB (by omega))|rfl|exact qz
 refine xt (cW [oB 800 124 [.pt 801 0,.d (.i (V.tm)),.own 802 4,.own 803 3,ps 804 4 (V.a),ps 805 5 (V.b),ps 806 5 (V.c),ps 807 10 (V.d)],oB 801 137 [.d (.sl (aA l)),.d (.i (q))],oR 802 27 5 (aG V.ks),oR 803 4 1 (aM V.ls),(.o 804,aK 210 4 fI),(.o 805,aK 58 5 cJ),(.o 806,aK 58 5 cJ),(.o 807,aK 157 10 jJ)] ⟨V,q,⟨(hV).le (by omega),by omega,by omega⟩,rfl⟩ (rq [] [] rfl ?_))
 repeat' apply ai
 all_goals try exact qx
 all_goals(first|with_reducible rfl|(rfl))
theorem jm (n:Int):Sp 24 1 [tI 0 n] [tV 0 (.e (.agg [.d (.i ((gQ n)).id),.d (.b ((gQ n)).up),.d (.s ((gQ n)).log),.d (.i ((gQ n)).forced),.d (.sl (aY ((gQ n)).halves))]))]:=by
 refine sb Tryz.func24 rfl (sq (rT [0,2] (s1 (sq (sq (rT [0,2,5] (s1 (xp (dS _) (ai rfl ?_)))))))))
 refine s1 (cd rfl (fun c5=> ?_) fun c5=> ?_)
 · refine sq (rT [2] (s2 (rt ?_)))
   have hk:gQ n= .zero:=by unfold gQ;rw[if_neg];intro h;rw[h] at c5;simp at c5
   refine rq [] [] rfl ?_
   repeat' apply ai
   all_goals try exact qx
   all_goals(rw[hk];try rfl)
 refine sk (sq (rT [2] (s3 (rt ?_))))
 have hk:gQ n=⟨n,true,[],0,[]⟩:=by unfold gQ;rw[if_pos];simpa using c5
 refine rq [] [] rfl ?_
 repeat' apply ai
 all_goals try exact qx
 all_goals(rw[hk];try rfl)
set_option maxHeartbeats 1600000 in
theorem nm:Sp 138 0 [] [tV 0 (.e (.agg [.d (.i (0)),.own 802 4,.own 803 3,ps 804 4 (0),ps 805 5 (0),ps 806 5 (0)])),oR 802 27 5 (aG (rJ 4)),oR 803 4 1 (aM (yes 3)),(.o 804,aK 210 4 fI),(.o 805,aK 58 5 cJ),(.o 806,aK 58 5 cJ)]:=by
 refine sb Tryz.func138 rfl (sq (rT [0] (s1 (sq (rT [0,1] (s3 (sq (sq (SW.nilBox 1 802 1 27 5 rfl rfl rfl (SW.nilBox 1 803 2 4 1 rfl rfl rfl (rT [0,1,2] (s1 (bk (SW.loopW (n:=4) (fun m s=> ∃i:Nat,m=4 - i∧i≤4∧s=[tP 0 0,tP 1 1,tI 2 (i:Nat),oB 0 99 [.d (.i 0),.nil,.nil,.nil,.nil,.nil],oB 1 99 [.d (.i 0),.own 802 (i),.own 803 0,.nil,.nil,.nil],oR 802 27 5 (aG (rJ (i))),oR 803 4 1 []]) ?_ ?_))))))))))))))
 · refine wq [] [] (⟨0,rfl,by omega,rfl⟩) ?_
   repeat' apply ai
   all_goals first|exact qx|exact congrArg D.i (aB (by omega))|(simp[bE,lY,cS,sI];done)|exact rK _|exact uS _|rfl|exact qz
 rintro n s ⟨i,rfl,hi,rfl⟩
 refine sq (sq (rT [0,1,2,6] (s2 (cd rfl (fun c6=> ?_) fun c6=> ?_))))
 · have hi2:i<4:=by simp at c6;omega
   refine sk (sq (bk (rD [0,1,2] (s3 (xp (jm _) (ai rfl ?_))))))
   refine s1 (ai (by refine⟨rfl,(bE _).trans (lY _),by simp,?_⟩;show(_+1)*64≤_;omega) (s2 (ai (by kernel_rfl) (rT [0,1,2] (s3 (wq [] [] (⟨4 - (i+1),by omega,i+1,rfl,by omega,rfl⟩) ?_))))))
   repeat' apply ai
   all_goals first|exact qx|exact congrArg D.i (aB (by omega))|(simp[bE,lY,cS,sI];done)|exact rK _|exact uS _|rfl|exact qz
 have hi4:i=4:=by simp at c6;omega
 subst hi4
 refine xt (sq (sq (rT [0,1,3] (s1 (bk (SW.loopW (n:=3) (fun m s=> ∃j:Nat,m=3 - j∧j≤3∧s=[tP 0 0,tP 1 1,tI 3 (j:Nat),oB 0 99 [.d (.i 0),.nil,.nil,.nil,.nil,.nil],oB 1 99 [.d (.i 0),.own 802 4,.own 803 (j),.nil,.nil,.nil],oR 802 27 5 (aG (rJ 4)),oR 803 4 1 (aM (yes (j)))]) ?_ ?_))))))
 · refine wq [] [] (⟨0,rfl,by omega,rfl⟩) ?_
   repeat' apply ai
   all_goals first|exact qx|exact congrArg D.i (aB (by omega))|(simp[bE,lY,cS,sI];done)|exact rK _|exact uS _|rfl|exact qz
 rintro n s ⟨j,rfl,hj,rfl⟩
 refine sq (sq (rT [0,1,3,18] (s3 (cd rfl (fun c18=> ?_) fun c18=> ?_))))
 · have hj2:j<3:=by rw[aB (by omega)] at c18;simp at c18;omega
   refine sk (sq (bk (rT [0,1,3] (s3 (ai (by refine⟨rfl,(cS _).trans (sI _),by simp,?_⟩;show(_+1)*1≤_;omega) (s2 (rT [0,1,3] (s3 (wq [] [] (⟨3 - (j+1),by omega,j+1,rfl,by omega,rfl⟩) ?_)))))))))
   repeat' apply ai
   all_goals first|exact qx|exact congrArg D.i (aB (by omega))|(simp[bE,lY,cS,sI];done)|exact rK _|exact uS _|rfl|exact qz
 have hj4:j=3:=by rw[aB (by omega)] at c18;simp at c18;omega
 subst hj4
 refine xt (sq (SW.newPool 804 210 4 fI rfl (SW.newPool 805 58 5 cJ rfl (SW.newPool 806 58 5 cJ rfl (rT [0] (s2 (rt (rq [] [] rfl ?_))))))))
 repeat' apply ai
 all_goals try exact qx
 all_goals first|with_reducible rfl|rfl
set_option maxHeartbeats 3200000 in
theorem aPt (l:List UInt8) (p:Int) (n:Nat) (hp:0≤p∧p≤700000) (hl:l.length≤2000) (hn:1≤n∧n≤100):ui 98 2 [tP 0 801,tI 1 (n:Nat),oB 801 137 [.d (.sl (aA l)),.d (.i (p))]] (fun s=> ∃(W:fK) (q:Int),(W.of eY 60000∧p≤q∧q≤p+20+1200*n)∧s=[tP 0 800,oB 800 124 [.pt 801 0,.d (.i (W.tm)),.own 802 4,.own 803 3,ps 804 4 (W.a),ps 805 5 (W.b),ps 806 5 (W.c),ps 807 10 (W.d)],oB 801 137 [.d (.sl (aA l)),.d (.i (q))],oR 802 27 5 (aG W.ks),oR 803 4 1 (aM W.ls),(.o 804,aK 210 4 fI),(.o 805,aK 58 5 cJ),(.o 806,aK 58 5 cJ),(.o 807,aK 157 10 jJ)]):=by
 refine yv Tryz.func98 rfl (sq (rT [0,1] (s1 (sq (rT [0,1,5] (s1 (bK (robj:=[]) (rl:=[]) (bor:=[]) nm rfl rfl rfl rfl ⟨trivial,rfl⟩ rfl (.inl rfl) (fun p hp=>nomatch hp) (fun j hj=>by simp[kN,cD,iO] at hj;rcases hj with rfl|rfl|rfl|rfl|rfl<;>rfl) (s3 (SW.midW (fun s=> ∃r:Int,s=[tP 0 801,tI 1 (n:Nat),tP 5 800,tI 6 r,oB 800 124 [.pt 801 0,.d (.i (eY.tm)),.own 802 4,.own 803 3,ps 804 4 (eY.a),ps 805 5 (eY.b),ps 806 5 (eY.c),ps 807 10 (eY.d)],oB 801 137 [.d (.sl (aA l)),.d (.i (p+1))],oR 802 27 5 (aG eY.ks),oR 803 4 1 (aM eY.ls),(.o 804,aK 210 4 fI),(.o 805,aK 58 5 cJ),(.o 806,aK 58 5 cJ),(.o 807,aK 157 10 jJ)]) ?_ ?_)))))))))
 · have hpv:=cC l (p:=p) (n:=5) (by omega) (by omega)
   refine SW.newPool 807 157 10 jJ rfl (wa [tP 0 801,tI 1 (n:Nat),tP 5 800,oB 800 124 [.pt 801 0,.d (.i (eY.tm)),.own 802 4,.own 803 3,ps 804 4 (eY.a),ps 805 5 (eY.b),ps 806 5 (eY.c),ps 807 10 (eY.d)],oB 801 137 [.d (.sl (aA l)),.d (.i (p))],oR 802 27 5 (aG eY.ks),oR 803 4 1 (aM eY.ls),(.o 804,aK 210 4 fI),(.o 805,aK 58 5 cJ),(.o 806,aK 58 5 cJ),(.o 807,aK 157 10 jJ)] [(800,11)] [] qz (rT [0,1,5,6] (s2 (bK (robj:=[(801,.box 137 [.d (.sl (aA (l))),.d (.i (p))])]) (rl:=[(0,801)]) (bor:=[]) (cK (l) (p) _ (by omega) hl) rfl rfl rfl rfl ⟨bU rfl rfl rfl rfl (cI rfl rfl (aV rfl (aD rfl (aD rfl aJ)) trivial)),rfl⟩ rfl (.inl rfl) (aI ⟨rfl,trivial⟩) (fun _ hj=>nomatch hj) ?_))))
   refine ai ⟨rfl,hpv.1,hpv.2⟩ (ai (aFw (l:=[0,0,3,6,12]) (by simp;omega) rfl) (s1 (wq [] [] ⟨?r1,rfl⟩ ?_)))
   repeat' apply ai
   all_goals try exact qx
   try any_goals rfl
 rintro s ⟨r,rfl⟩
 refine sq (rE [0,1,5,6] (s1 (cP (robj:=[(800,.box 124 [.pt 801 0,.d (.i (eY.tm)),.own 802 4,.own 803 3,ps 804 4 (eY.a),ps 805 5 (eY.b),ps 806 5 (eY.c),ps 807 10 (eY.d)]),(801,.box 137 [.d (.sl (aA l)),.d (.i (p+1))]),(802,.row 27 5 (aG eY.ks)),(803,.row 4 1 (aM eY.ls)),(804,aK 210 4 fI),(805,aK 58 5 cJ),(806,aK 58 5 cJ),(807,aK 157 10 jJ)]) (rl:=[]) (bor:=[]) (news:=[]) (aTj l (p+1) eY (by omega) hl aG8 (by decide)) rfl rfl rfl rfl ⟨bU rfl rfl rfl rfl (aV rfl (eF rfl rfl rfl (aD rfl (bQ rfl rfl rfl (bQ rfl rfl rfl (bF rfl rfl rfl (bF rfl rfl rfl (bF rfl rfl rfl (bF rfl rfl rfl aJ)))))))) (aV rfl (aD rfl (aD rfl aJ)) (bV rfl rfl (bV rfl rfl (aW rfl rfl (aW rfl rfl (aW rfl rfl (aW rfl rfl trivial)))))))),rfl⟩ (by rintro _ ⟨W1,q1,hw1,rfl⟩;exact⟨rfl,.inl rfl,fun j hj=>nomatch hj⟩) (aI ⟨rfl,rfl,rfl,rfl,rfl,rfl,rfl,rfl,trivial⟩) (fun j hj=>nomatch hj) ?_)))
 rintro _ ⟨W1,q1,hw1,rfl⟩
 refine sq (sq (rT [5,6,7] (s2 (bK (robj:=[(801,.box 137 [.d (.sl (aA (l))),.d (.i (q1))])]) (rl:=[(0,801)]) (bor:=[]) (cK (l) (q1) _ (by omega) hl) rfl rfl rfl rfl ⟨bU rfl rfl rfl rfl (cI rfl rfl (aV rfl (aD rfl (aD rfl aJ)) trivial)),rfl⟩ rfl (.inl rfl) (aI ⟨rfl,trivial⟩) (fun _ hj=>nomatch hj) (s1 (bk ?_))))))
 have hw1d:=hw1.1.few
 have hs0:eY.d=0:=rfl
 obtain⟨k0,hk0,hkn⟩: ∃k0:Nat,bO l q1 (n:Int)=(k0:Int)∧k0<n:=by have:=cC l (p:=q1) (n:=(n:Int)) (by omega) (by omega);exact⟨(bO l q1 (n:Int)).toNat,by omega,by omega⟩
 refine SW.loopW (n:=k0) (fun x s=> ∃(V:fK) (q:Int),(x≤k0∧V.of eY (1+520*(k0 - x))∧p≤q∧q≤p+12+1200*(k0 - x:Nat))∧s=[tP 5 800,tI 6 r,tI 7 (x:Nat),oB 800 124 [.pt 801 0,.d (.i (V.tm)),.own 802 4,.own 803 3,ps 804 4 (V.a),ps 805 5 (V.b),ps 806 5 (V.c),ps 807 10 (V.d)],oB 801 137 [.d (.sl (aA l)),.d (.i (q))],oR 802 27 5 (aG V.ks),oR 803 4 1 (aM V.ls),(.o 804,aK 210 4 fI),(.o 805,aK 58 5 cJ),(.o 806,aK 58 5 cJ),(.o 807,aK 157 10 jJ)]) ?_ ?_
 · refine wq [] [] (⟨W1,q1+1,⟨by omega,hw1.1.le (by omega),by omega,by omega⟩,rfl⟩) ?_
   repeat' apply ai
   all_goals first|exact qx|exact congrArg D.i hk0|rfl|exact qz
 rintro n s ⟨V,q,⟨hx,hV,hq⟩,rfl⟩
 have hVd:=hV.few
 refine sq (sq (rT [5,6,7,23] (s2 (cd rfl (fun c23=> ?_) fun c23=> ?_))))
 · have hn0:0<n:=by simp at c23;omega
   refine sk (sq (bk (rE [5,6,7] (s2 (cP (robj:=[(800,.box 124 [.pt 801 0,.d (.i (V.tm)),.own 802 4,.own 803 3,ps 804 4 (V.a),ps 805 5 (V.b),ps 806 5 (V.c),ps 807 10 (V.d)]),(801,.box 137 [.d (.sl (aA l)),.d (.i (q))]),(802,.row 27 5 (aG V.ks)),(803,.row 4 1 (aM V.ls)),(804,aK 210 4 fI),(805,aK 58 5 cJ),(806,aK 58 5 cJ),(807,aK 157 10 jJ)]) (rl:=[]) (bor:=[]) (news:=[]) (aVb l q V r (by omega) hl hV.ok (by omega)) rfl rfl rfl rfl ⟨bU rfl rfl rfl rfl (cI rfl rfl (aV rfl (eF rfl rfl rfl (aD rfl (bQ rfl rfl rfl (bQ rfl rfl rfl (bF rfl rfl rfl (bF rfl rfl rfl (bF rfl rfl rfl (bF rfl rfl rfl aJ)))))))) (aV rfl (aD rfl (aD rfl aJ)) (bV rfl rfl (bV rfl rfl (aW rfl rfl (aW rfl rfl (aW rfl rfl (aW rfl rfl trivial))))))))),rfl⟩ (by rintro _ ⟨W3,q3,hw3,rfl⟩;exact⟨rfl,.inl rfl,fun j hj=>nomatch hj⟩) (aI ⟨rfl,rfl,rfl,rfl,rfl,rfl,rfl,rfl,trivial⟩) (fun j hj=>nomatch hj) ?_)))))
   rintro _ ⟨W3,q3,hw3,rfl⟩
   refine rT [5,6,7] (s3 (wq [] [] (⟨n - 1,by omega,W3,q3,⟨by omega,(hV.trans hw3.1).le (by omega),by omega,by omega⟩,rfl⟩) ?_))
   repeat' apply ai
   all_goals first|exact qx|(refine congrArg D.i ?_;rw[aB (by omega)];omega)|rfl|exact qz
 refine xt (sq (rT [4] (s2 (rt (cW [tP 0 800,oB 800 124 [.pt 801 0,.d (.i (V.tm)),.own 802 4,.own 803 3,ps 804 4 (V.a),ps 805 5 (V.b),ps 806 5 (V.c),ps 807 10 (V.d)],oB 801 137 [.d (.sl (aA l)),.d (.i (q))],oR 802 27 5 (aG V.ks),oR 803 4 1 (aM V.ls),(.o 804,aK 210 4 fI),(.o 805,aK 58 5 cJ),(.o 806,aK 58 5 cJ),(.o 807,aK 157 10 jJ)] ⟨V,q,⟨hV.le (by omega),by omega,by omega⟩,rfl⟩ (rq [] [] rfl ?_))))))
 repeat' apply ai
 all_goals try exact qx
 all_goals(first|with_reducible rfl|(rfl))
end Go.Proofs.YthbgjfegalcenaaGreatDoor
namespace Go.Ab
open Int renaming toNat_natCast→aW6,tmod→aXm
open List renaming length_append→aW7,length_cons→aW9,length_nil→aXa,length_take→aXc,getD_eq_getElem?_getD→aXe,length_drop→aXf,getElem?_eq_getElem→aXg,getElem?_eq_some_iff→aXh,range→aXj,mem_map→aXk,all_eq_true→aXl,take_length→aXn,mem_singleton→aXo,mem_iff_getElem?→aXq,mem_cons→aXr
open Nat renaming le_of_ble_eq_true→aW8,zero_le→aXd,le_refl→aXi,add_mul→aXp
open Bool renaming and_eq_true→aXb
open Go Go.RowKit
set_option linter.unusedVariables false
set_option linter.unusedSimpArgs false
theorem aNc (k:bC) (n:bA): (fF k n).1.time=k.time∧(fF k n).1.next=k.next:=by
 unfold fF
 repeat' split
 all_goals exact⟨rfl,rfl⟩
theorem zj {k:bC} {rec:List UInt8} (h: (cL k rec).2=true):dC k=true∧(eM k rec).2=true∧(cL k rec).1=(eM k rec).1∧dC (eM k rec).1=true:=by
 unfold cL at h ⊢
 split at h
 · rename_i hk
   rw[if_pos hk]
   unfold kW at h ⊢
   split at h
   · rename_i hx
     rw[if_pos hx]
     simp only[aXb] at hx
     exact⟨hk,hx.1,rfl,hx.2⟩
   · cases h
 · cases h
theorem aCu {n:bA} (h:eL n=true):eB (fZ n)=(n,true):=aB6 _ n h (by unfold fZ;rw[if_pos h])
theorem aJk {n:bA} (h: ¬eL n=true):fZ n=[]:=by unfold fZ;rw[if_neg h]
theorem av {k:bC} {w:List UInt8} {n:bA} (hw: ∀b∈w,b≠32) (h1: (w==jG||w==jM)=false) (h2: (w==iG||w==fL||w==hG||w==fP)=true):eM k (cT w n)=if eL n then fN k w n else(k,false):=by
 have e:cT w n=w++32::fZ n:=by simp[cT]
 obtain⟨q1,q2,q3⟩:=mX (w:=w) (r:=fZ n) hw
 rw[e]
 by_cases hn:eL n=true
 · rw[if_pos hn,aB9 q3 (by rw[q1];exact h1) (by rw[q1];exact h2) (by rw[q2,aCu hn]),q1,q2,aCu hn]
 · rw[if_neg hn,rZ q3 (by rw[q1];exact h1) (by rw[q1];exact h2) (by rw[q2,aJk hn];rfl)]
theorem aJl {k:bC} {n:bA} (h:n.til≤k.time):uB k n=false:=by
 unfold uB
 rw[decide_eq_false (show ¬k.time<n.til by omega)]
 simp
theorem aNd {k:bC} {x:bC×Bool} (h:x.2=false):kW k x=(k,false):=by
 unfold kW
 rw[h];simp
theorem aKv {l:List bA} {f m:Int} (h: ∀x∈l,¬(x.frm=f∧x.num=m)):aS l f m<0:=by
 rcases gR (nJ l f m) l.length 0 with h1|⟨k,h1,_,h2,h3,_⟩
 · rw[aS,h1];decide
 · have hk:k<l.length:=by omega
   unfold nJ at h3
   simp only[aXb,beq_iff_eq] at h3
   exact absurd h3 (h _ (dB hk))
theorem aPu {l:List cA} {f m:Int} (h: ∀x∈l,¬(x.frm=f∧x.num=m)):gN l f m<0:=by
 rcases gR (rY l f m) l.length 0 with h1|⟨k,h1,_,h2,h3,_⟩
 · rw[gN,h1];decide
 · have hk:k<l.length:=by omega
   unfold rY at h3
   simp only[aXb,beq_iff_eq] at h3
   exact absurd h3 (h _ (dB hk))
theorem ec {l:List bA} {f m:Int}:aS l f m<0↔ ∀x∈l,¬(x.frm=f∧x.num=m):=⟨fun h x hx=>zS h hx,aKv⟩
theorem aEn {l:List cA} {f m:Int}:gN l f m<0↔ ∀x∈l,¬(x.frm=f∧x.num=m):=⟨fun h x hx=>iq h hx,aPu⟩
theorem aEo {l:List bA} {f m:Int} (h:0≤aS l f m): (aS l f m).toNat<l.length∧(l.getD (aS l f m).toNat .zero).frm=f∧(l.getD (aS l f m).toNat .zero).num=m:=by
 rcases gR (nJ l f m) l.length 0 with h1|⟨k,h1,_,h2,h3,_⟩
 · rw[aS,h1] at h;omega
 · have e:aS l f m=k:=h1
   unfold nJ at h3
   simp only[aXb,beq_iff_eq] at h3
   rw[e,aW6]
   exact⟨by omega,h3⟩
section
variable {α:Type}
theorem aG9 {p:α→Bool} {n x:α} {l:List α}:x∈qQ p n l↔x=n∨x∈l:=by
 unfold qQ
 rw[List.mem_append,aXr]
 conv=>rhs;rw[← List.takeWhile_append_dropWhile (p:=p) (l:=l)]
 rw[List.mem_append]
 constructor
 · rintro(h|h|h)<;>simp[h]
 · rintro(h|h|h)<;>simp[h]
def Srt (lt:α→α→Prop) (l:List α):Prop:=l.Pairwise lt
theorem zk {p:α→Bool} {n:α}: ∀{l:List α},(∀x∈l,p x=true)→qQ p n l=l++[n]
 | [],_=>rfl
 |a::l,h=>by
  have ih:=zk (n:=n) (l:=l) fun x hx=>h x (List.mem_cons_of_mem _ hx)
  unfold qQ at ih ⊢
  rw[List.takeWhile_cons_of_pos (h a (List.mem_cons_self ..)),List.dropWhile_cons_of_pos (h a (List.mem_cons_self ..)),List.cons_append,ih];rfl
theorem aKw {l:List α} {i:Nat} {x:α} (h:x∈gK l i): ∃j,j≠i∧l[j]? =some x:=by
 unfold gK at h
 rcases List.mem_append.1 h with h|h
 · obtain⟨j,hj⟩:=aXq.1 h
   rw[List.getElem?_take] at hj
   split at hj
   · exact⟨j,by omega,hj⟩
   · cases hj
 · obtain⟨j,hj⟩:=aXq.1 h
   rw[List.getElem?_drop] at hj
   exact⟨i+1+j,by omega,hj⟩
end
def ltN (a b:bA):Prop:=cE a.frm a.num b.frm b.num=true
def ltM (a b:cA):Prop:=cE a.frm a.num b.frm b.num=true
theorem zl {a b c d:Int}:cE a b c d=true↔a<c∨a=c∧b<d:=by simp[cE]
theorem aw {a b:Int}: ¬cE a b a b=true:=by rw[zl];omega
theorem aCv {a b c d e f:Int} (h1:cE a b c d=true) (h2:cE c d e f=true):cE a b e f=true:=by rw[zl] at *; omega
theorem aHa {l:List bA}:kC l=true↔(∀x∈l,eL x=true)∧Srt ltN l:=by
 constructor
 · intro h
   refine⟨fun x hx=>tF h hx,?_⟩
   have hs: ∀i,i+1<l.length→ltN (l.getD i .zero) (l.getD (i+1) .zero):=fun i hi=>by
    have h1:=aXl.1 h (i+1) (List.mem_range.2 hi)
    unfold lU at h1
    simp only[aXb,Bool.or_eq_true,beq_iff_eq] at h1
    rcases h1.2 with h2|h2
    · omega
    · exact h2
   have key: ∀d i,i+d+1<l.length→ltN (l.getD i .zero) (l.getD (i+d+1) .zero):=by
    intro d
    induction d with
    |zero=>intro i hi;exact hs i hi
    |succ d ih=>intro i hi;exact aCv (ih i (by omega)) (hs _ (by omega))
   refine List.pairwise_iff_getElem.2 fun i j hi hj hij=> ?_
   have:=key (j - i - 1) i (by omega)
   rw[show i+(j - i - 1)+1=j by omega,aXe,aXe,aXg hi,aXg hj] at this
   exact this
 · rintro⟨h1,h2⟩
   refine aXl.2 fun i hi=> ?_
   have hi:=List.mem_range.1 hi
   unfold lU
   simp only[aXb,Bool.or_eq_true,beq_iff_eq]
   refine⟨h1 _ (dB hi),?_⟩
   by_cases e:i=0
   · exact .inl e
   · refine .inr ?_
     have:=List.pairwise_iff_getElem.1 h2 (i - 1) i (by omega) hi (by omega)
     rw[aXe,aXe,aXg hi,aXg (by omega)]
     exact this
theorem aHb {l:List cA}:oK l=true↔(∀x∈l,kB x=true)∧Srt ltM l:=by
 constructor
 · intro h
   refine⟨fun x hx=>wF h hx,?_⟩
   have hs: ∀i,i+1<l.length→ltM (l.getD i .zero) (l.getD (i+1) .zero):=fun i hi=>by
    have h1:=aXl.1 h (i+1) (List.mem_range.2 hi)
    unfold mU at h1
    simp only[aXb,Bool.or_eq_true,beq_iff_eq] at h1
    rcases h1.2 with h2|h2
    · omega
    · exact h2
   have key: ∀d i,i+d+1<l.length→ltM (l.getD i .zero) (l.getD (i+d+1) .zero):=by
    intro d
    induction d with
    |zero=>intro i hi;exact hs i hi
    |succ d ih=>intro i hi;exact aCv (ih i (by omega)) (hs _ (by omega))
   refine List.pairwise_iff_getElem.2 fun i j hi hj hij=> ?_
   have:=key (j - i - 1) i (by omega)
   rw[show i+(j - i - 1)+1=j by omega,aXe,aXe,aXg hi,aXg hj] at this
   exact this
 · rintro⟨h1,h2⟩
   refine aXl.2 fun i hi=> ?_
   have hi:=List.mem_range.1 hi
   unfold mU
   simp only[aXb,Bool.or_eq_true,beq_iff_eq]
   refine⟨h1 _ (dB hi),?_⟩
   by_cases e:i=0
   · exact .inl e
   · refine .inr ?_
     have:=List.pairwise_iff_getElem.1 h2 (i - 1) i (by omega) hi (by omega)
     rw[aXe,aXe,aXg hi,aXg (by omega)]
     exact this
theorem aR3 {l:List bA} (h:Srt ltN l) {i j:Nat} {x y:bA} (hi:l[i]? =some x) (hj:l[j]? =some y) (e:x.frm=y.frm∧x.num=y.num):i=j:=by
 obtain⟨hi1,hi2⟩:=aXh.1 hi
 obtain⟨hj1,hj2⟩:=aXh.1 hj
 rcases Nat.lt_trichotomy i j with h1|h1|h1
 · have:=List.pairwise_iff_getElem.1 h i j hi1 hj1 h1
   rw[hi2,hj2,ltN,e.1,e.2] at this
   exact absurd this aw
 · exact h1
 · have:=List.pairwise_iff_getElem.1 h j i hj1 hi1 h1
   rw[hi2,hj2,ltN,e.1,e.2] at this
   exact absurd this aw
theorem aPw {l:List bA} (h:Srt ltN l) {f m:Int} (hp:0≤aS l f m):aS (gK l (aS l f m).toNat) f m<0:=aKv fun x hx e=>by
 obtain⟨h1,h2,h3⟩:=aEo hp
 obtain⟨j,hj,hjx⟩:=aKw hx
 refine hj (aR3 h hjx (y:=l.getD (aS l f m).toNat .zero) ?_ ⟨by rw[e.1,h2],by rw[e.2,h3]⟩)
 rw[aXe,aXg h1];rfl
theorem jE {k:bC}:dC k=true↔(eR k.id=true∧(0≤k.time∧k.time≤999)∧(1≤k.next∧k.next≤100)∧k.held.length≤6∧k.marks.length≤12∧k.inbox.length≤6)∧
 ((∀x∈k.held,eL x=true)∧Srt ltN k.held)∧((∀x∈k.marks,kB x=true)∧Srt ltM k.marks)∧((∀x∈k.inbox,eL x=true)∧Srt ltN k.inbox)∧
 (∀n∈k.held,¬(n.frm=k.id∧k.next≤n.num)∧k.time<n.til∧cq k.id n=true∧gN k.marks n.frm n.num<0)∧
 (∀m∈k.marks,¬(m.frm=k.id∧k.next≤m.num)∧k.time<m.til)∧
 (∀n∈k.inbox,¬(n.frm=k.id∧k.next≤n.num)∧n.to=k.id∧ ¬(k.time<n.til∧gN k.marks n.frm n.num<0)):=by
 have key: ∀{α:Type} {z:α} {l:List α} {P:Nat→Bool} {R:α→Prop},(∀i,P i=true↔R (l.getD i z))→((aXj l.length).all P=true↔ ∀x∈l,R x):=by
  intro α z l P R h
  constructor
  · intro h1 x hx
    obtain⟨i,hi⟩:=aXq.1 hx
    have hlt:=(aXh.1 hi).1
    have:=(h i).1 (aXl.1 h1 i (List.mem_range.2 hlt))
    rw[aXe,hi] at this
    exact this
  · intro h1
    exact aXl.2 fun i hi=>(h i).2 (h1 _ (dB (List.mem_range.1 hi)))
 unfold dC
 simp only[aXb,aHa,aHb,decide_eq_true_eq,iK]
 rw[key (z:=bA.zero) (l:=k.held) (P:=tR k) (R:=fun n=> ¬(n.frm=k.id∧k.next≤n.num)∧k.time<n.til∧cq k.id n=true∧gN k.marks n.frm n.num<0) (fun i=>by
  unfold tR
  simp only[aXb,Bool.not_eq_true',Bool.and_eq_false_iff,beq_eq_false_iff_ne,decide_eq_true_eq,decide_eq_false_iff_not]
  constructor
  · rintro⟨⟨⟨h1,h2⟩,h3⟩,h4⟩;exact⟨fun h=>by rcases h1 with h1|h1;exact h1 h.1;exact h1 h.2,h2,h3,h4⟩
  · rintro⟨h1,h2,h3,h4⟩;exact⟨⟨⟨by by_cases e: (k.held.getD i bA.zero).frm=k.id;exact .inr fun h=>h1 ⟨e,h⟩;exact .inl e,h2⟩,h3⟩,h4⟩),
  key (z:=cA.zero) (l:=k.marks) (P:=xD k) (R:=fun m=> ¬(m.frm=k.id∧k.next≤m.num)∧k.time<m.til) (fun i=>by
   unfold xD
   simp only[aXb,Bool.not_eq_true',Bool.and_eq_false_iff,beq_eq_false_iff_ne,decide_eq_true_eq,decide_eq_false_iff_not]
   constructor
   · rintro⟨h1,h2⟩;exact⟨fun h=>by rcases h1 with h1|h1;exact h1 h.1;exact h1 h.2,h2⟩
   · rintro⟨h1,h2⟩;exact⟨by by_cases e: (k.marks.getD i cA.zero).frm=k.id;exact .inr fun h=>h1 ⟨e,h⟩;exact .inl e,h2⟩),
  key (z:=bA.zero) (l:=k.inbox) (P:=sQ k) (R:=fun n=> ¬(n.frm=k.id∧k.next≤n.num)∧n.to=k.id∧ ¬(k.time<n.til∧gN k.marks n.frm n.num<0)) (fun i=>by
   unfold sQ
   simp only[aXb,Bool.not_eq_true',Bool.and_eq_false_iff,beq_eq_false_iff_ne,decide_eq_true_eq,decide_eq_false_iff_not,beq_iff_eq]
   constructor
   · rintro⟨⟨h1,h2⟩,h3⟩;exact⟨fun h=>by rcases h1 with h1|h1;exact h1 h.1;exact h1 h.2,h2,fun h=>by rcases h3 with h3|h3;exact h3 h.1;exact h3 h.2⟩
   · rintro⟨h1,h2,h3⟩;exact⟨⟨by by_cases e: (k.inbox.getD i bA.zero).frm=k.id;exact .inr fun h=>h1 ⟨e,h⟩;exact .inl e,h2⟩,by by_cases e:k.time< (k.inbox.getD i bA.zero).til;exact .inr fun h=>h3 ⟨e,h⟩;exact .inl e⟩)]
 constructor
 · rintro⟨⟨⟨⟨⟨⟨⟨⟨⟨⟨⟨a1,a2⟩,a3⟩,a4⟩,a5⟩,a6⟩,a7⟩,a8⟩,a9⟩,b1⟩,b2⟩,b3⟩;exact⟨⟨a1,a2,a3,a4,a5,a6⟩,a7,a8,a9,b1,b2,b3⟩
 · rintro⟨⟨a1,a2,a3,a4,a5,a6⟩,a7,a8,a9,b1,b2,b3⟩;exact⟨⟨⟨⟨⟨⟨⟨⟨⟨⟨⟨a1,a2⟩,a3⟩,a4⟩,a5⟩,a6⟩,a7⟩,a8⟩,a9⟩,b1⟩,b2⟩,b3⟩
theorem ax {l:List bA} {n x:bA}:x∈kD l n↔x=n∨x∈l:=aG9
theorem aJm {l:List cA} {n x:cA}:x∈pR l n↔x=n∨x∈l:=aG9
theorem aJn {k:bC} {x:bC×Bool} (h1:x.2=true) (h2:dC x.1=true):kW k x=(x.1,true):=by
 unfold kW;rw[if_pos (by rw[h1,h2];rfl)]
theorem tJ {k:bC} {rec:List UInt8} (hk:dC k=true) (h1: (eM k rec).2=true) (h2:dC (eM k rec).1=true):cL k rec=((eM k rec).1,true):=by
 rw[uL hk,aJn h1 h2]
theorem aEp {k:bC} {rec:List UInt8} (hk:dC k=true) (h1: (eM k rec).2=false): (cL k rec).2=false:=by
 rw[uL hk,aNd h1]
theorem jn {k:bC} {n:bA} (h: (fF k n).2=true): (uB k n=true∧(k.held.length:Int)+k.marks.length+1≤12)∧
 (fF k n).1=if n.to==k.id then{k with inbox:=kD k.inbox n,marks:=pR k.marks ⟨n.frm,n.num,n.til⟩} else{k with held:=kD k.held n}:=by
 unfold fF at h ⊢
 split at h
 · rename_i hx
   rw[if_pos hx]
   simp only[aXb,decide_eq_true_eq] at hx
   exact⟨hx,rfl⟩
 · cases h
theorem sv {k:bC} {n:bA} (h:uB k n=true):eL n=true∧k.time<n.til∧aS k.held n.frm n.num<0∧aS k.inbox n.frm n.num<0∧gN k.marks n.frm n.num<0:=by
 unfold uB at h
 simp only[aXb,decide_eq_true_eq] at h
 exact⟨h.1.1.1.1,h.1.1.1.2,h.1.1.2,h.1.2,h.2⟩
theorem aJo {k:bC} {n:bA} (h: (fF k n).2=true): (n.to=k.id→n∈(fF k n).1.inbox∧n∉ (fF k n).1.held∧(⟨n.frm,n.num,n.til⟩:cA)∈(fF k n).1.marks)∧
 (n.to≠k.id→n∉ (fF k n).1.inbox∧n∈(fF k n).1.held∧ ∀m∈(fF k n).1.marks,¬(m.frm=n.frm∧m.num=n.num)):=by
 obtain⟨⟨q1,_⟩,q2⟩:=jn h
 obtain⟨_,_,q3,q4,q5⟩:=sv q1
 rw[q2]
 constructor
 · intro e
   rw[if_pos (by simp[e])]
   exact⟨ax.2 (.inl rfl),fun hm=>zS q3 hm ⟨rfl,rfl⟩,aJm.2 (.inl rfl)⟩
 · intro e
   rw[if_neg (by simp[e])]
   exact⟨fun hm=>zS q4 hm ⟨rfl,rfl⟩,ax.2 (.inl rfl),fun m hm=>iq q5 hm⟩
theorem zm (k:bC) {w:List UInt8} {m:cA} (hm:kB m=true) (hw: ∀b∈w,b≠32) (h1: (w==jG||w==jM)=false) (h2: (w==iG||w==fL||w==hG||w==fP)=false) (h3: (w==nP||w==jY||w==iF)=true):eM k (iE w m)=iL k w m:=by
 have e:iE w m=w++32::wE m:=by simp[iE,wE]
 obtain⟨q1,q2,q3⟩:=mX (w:=w) (r:=wE m) hw
 obtain⟨l1,l2,l3,_⟩:=aCg hm
 rw[e,aCa q3 (by rw[q1];exact h1) (by rw[q1];exact h2) (by rw[q1];exact h3) (by rw[q2,l1,l2];rfl),q1,q2,l3]
theorem aJp (k:bC) {n:Nat} (hn:n<100000):eM k (pJ n)=lH k jM n:=by
 have e:pJ n=jM++32::jZ n:=by simp[pJ]
 obtain⟨h1,h2,h3⟩:=mX (w:=jM) (r:=jZ n) (by decide)
 rw[e,wt h3 (by rw[h1];rfl) (by rw[h2,mY hn];rfl),h1,h2,sA (mY hn)]
theorem getD_some {α:Type} {l:List α} {i:Nat} {z:α} (h:i<l.length):l[i]? =some (l.getD i z):=by
 rw[aXe,aXg h];rfl
def aJq (n:bA):cA:=⟨n.frm,n.num,n.til⟩
theorem aNe {n:bA} (h:eL n=true):kB (aJq n)=true:=by
 unfold eL at h
 unfold kB aJq
 simp only[aXb] at h ⊢
 exact⟨⟨h.1.1.1.1,h.1.1.2⟩,h.1.2⟩
theorem aR4 {l m:List cA} {f n:Int} (h:gN m f n<0) (hs: ∀x∈l,x∈m):gN l f n<0:=aEn.2 fun x hx=>aEn.1 h x (hs x hx)
theorem aR5 {l m:List bA} {f n:Int} (h:aS m f n<0) (hs: ∀x∈l,x∈m):aS l f n<0:=ec.2 fun x hx=>ec.1 h x (hs x hx)
theorem mN: ∀{rs ts:List (List UInt8)} {k k2:bC},gX k rs=(k2,true)→gX k (rs++ts)=gX k2 ts
 | [],ts,k,k2,h=>by simp only[gX,Prod.mk.injEq,and_true] at h;rw[h];rfl
 |r::rs,ts,k,k2,h=>by
  simp only[gX,List.cons_append] at h ⊢
  split at h
  · rename_i hx
    rw[if_pos hx];exact mN h
  · cases h
theorem sK {k k2:bC} {r:List UInt8} (h:cL k r=(k2,true)):gX k [r]=(k2,true):=by
 simp only[gX];rw[h,if_pos rfl]
theorem sL {k:bC} (hk:dC k=true) {h i:List bA} {m:List cA} (hh:h.Sublist k.held) (hm:m.Sublist k.marks) (hi:i.Sublist k.inbox) (hc:i=[]∨m=k.marks):dC ⟨k.id,k.time,k.next,h,m,i⟩=true:=by
 obtain⟨⟨k1,k2,k3,k4,k5,k6⟩,⟨n1,s1⟩,⟨n2,s2⟩,⟨n3,s3⟩,c1,c2,c3⟩:=jE.1 hk
 refine jE.2 ⟨⟨k1,k2,k3,Nat.le_trans hh.length_le k4,Nat.le_trans hm.length_le k5,Nat.le_trans hi.length_le k6⟩,⟨fun x hx=>n1 x (hh.subset hx),s1.sublist hh⟩,⟨fun x hx=>n2 x (hm.subset hx),s2.sublist hm⟩,⟨fun x hx=>n3 x (hi.subset hx),s3.sublist hi⟩,
  fun n hn=> ?_,fun x hx=>c2 x (hm.subset hx),fun n hn=> ?_⟩
 · obtain⟨q1,q2,q3,q4⟩:=c1 n (hh.subset hn)
   exact⟨q1,q2,q3,aR4 q4 fun x hx=>hm.subset hx⟩
 · rcases hc with rfl|rfl
   · cases hn
   · exact c3 n (hi.subset hn)
theorem aPx {α:Type} {lt:α→α→Prop} {l:List α} (h:Srt lt l) {i:Nat} {z:α} (hi:i<l.length): ∀x∈l.take i,lt x (l.getD i z):=by
 intro x hx
 obtain⟨j,hj⟩:=aXq.1 hx
 rw[List.getElem?_take] at hj
 split at hj
 · rename_i hji
   obtain⟨hj1,hj2⟩:=aXh.1 hj
   have:=List.pairwise_iff_getElem.1 h j i hj1 hi hji
   rw[hj2] at this
   rw[aXe,aXg hi];exact this
 · cases hj
theorem zn {l:List bA} (h:Srt ltN l) {i:Nat} (hi:i<l.length):kD (l.take i) (l.getD i .zero)=l.take (i+1)∧aS (l.take i) (l.getD i .zero).frm (l.getD i .zero).num<0:=by
 have hp:=aPx h (z:=bA.zero) hi
 refine⟨by rw[yF,zk fun x hx=>hp x hx,eP (z:=bA.zero) hi],ec.2 fun x hx e=> ?_⟩
 have:=hp x hx
 rw[ltN,e.1,e.2] at this
 exact aw this
theorem aJr {l:List cA} (h:Srt ltM l) {i:Nat} (hi:i<l.length):pR (l.take i) (l.getD i .zero)=l.take (i+1)∧gN (l.take i) (l.getD i .zero).frm (l.getD i .zero).num<0:=by
 have hp:=aPx h (z:=cA.zero) hi
 refine⟨by rw[ez,zk fun x hx=>hp x hx,eP (z:=cA.zero) hi],aEn.2 fun x hx e=> ?_⟩
 have:=hp x hx
 rw[ltM,e.1,e.2] at this
 exact aw this
theorem fm {α:Type} {l:List α}: ([]:List α).Sublist l:=List.nil_sublist _
theorem zo {k:bC} (hk:dC k=true): ∀i,i≤k.marks.length→gX ⟨k.id,k.time,k.next,[],[],[]⟩ ((k.marks.take i).map (iE iF))=(⟨k.id,k.time,k.next,[],k.marks.take i,[]⟩,true)
 |0,_=>rfl
 |i+1,hi=>by
  have ih:=zo hk i (by omega)
  obtain⟨_,_,⟨n2,s2⟩,_⟩:=jE.1 hk
  rw[eP (z:=cA.zero) (show i<k.marks.length by omega),List.map_append,mN ih]
  refine sK ?_
  have hm:=n2 _ (dB (z:=cA.zero) (show i<k.marks.length by omega))
  obtain⟨e1,e2⟩:=aJr s2 (show i<k.marks.length by omega)
  have hd:eM ⟨k.id,k.time,k.next,[],k.marks.take i,[]⟩ (iE iF (k.marks.getD i .zero))=(⟨k.id,k.time,k.next,[],k.marks.take (i+1),[]⟩,true):=by
   rw[zm _ hm (by decide) rfl rfl rfl]
   unfold iL
   rw[if_neg (by rw[show(iF==nP)=false by decide];simp),if_neg (by rw[show(iF==jY)=false by decide];simp),if_pos (by rw[decide_eq_true e2];rfl),e1]
  rw[tJ (sL hk fm (List.take_sublist _ _) fm (.inl rfl)) (by rw[hd]) (by rw[hd];exact sL hk fm (List.take_sublist _ _) fm (.inl rfl)),hd,← eP (z:=cA.zero) (show i<k.marks.length by omega)]
theorem aPy {x:bC} {n:bA} (hn:eL n=true) (h1:aS x.held n.frm n.num<0) (h2:aS x.inbox n.frm n.num<0):eM x (cT hG n)=({x with held:=kD x.held n},true):=by
 rw[av (by decide) rfl rfl,if_pos hn]
 unfold fN
 rw[if_neg (by rw[show(hG==iG)=false by decide];simp),if_neg (by rw[show(hG==fL)=false by decide];simp),if_neg (by simp;omega),if_pos (by decide)]
theorem aNf {x:bC} {n:bA} (hn:eL n=true) (h1:aS x.held n.frm n.num<0) (h2:aS x.inbox n.frm n.num<0):eM x (cT fP n)=({x with inbox:=kD x.inbox n},true):=by
 rw[av (by decide) rfl rfl,if_pos hn]
 unfold fN
 rw[if_neg (by rw[show(fP==iG)=false by decide];simp),if_neg (by rw[show(fP==fL)=false by decide];simp),if_neg (by simp;omega),if_neg (by decide),if_pos (by decide)]
theorem aCw {k:bC} (hk:dC k=true): ∀i,i≤k.held.length→gX ⟨k.id,k.time,k.next,[],k.marks,[]⟩ ((k.held.take i).map (cT hG))=(⟨k.id,k.time,k.next,k.held.take i,k.marks,[]⟩,true)
 |0,_=>rfl
 |i+1,hi=>by
  have ih:=aCw hk i (by omega)
  obtain⟨_,⟨n1,s1⟩,_⟩:=jE.1 hk
  rw[eP (z:=bA.zero) (show i<k.held.length by omega),List.map_append,mN ih]
  refine sK ?_
  obtain⟨e1,e2⟩:=zn s1 (show i<k.held.length by omega)
  have hd:=aPy (x:=⟨k.id,k.time,k.next,k.held.take i,k.marks,[]⟩) (n1 _ (dB (z:=bA.zero) (show i<k.held.length by omega))) e2 (ec.2 fun x hx=>nomatch hx)
  rw[e1] at hd
  rw[tJ (sL hk (List.take_sublist _ _) (List.Sublist.refl _) fm (.inl rfl)) (by rw[hd]) (by rw[hd];exact sL hk (List.take_sublist _ _) (List.Sublist.refl _) fm (.inl rfl)),hd,← eP (z:=bA.zero) (show i<k.held.length by omega)]
def Ap (k:bC):Prop:= ∀n∈k.inbox,aS k.held n.frm n.num<0
theorem Ap.nil {k:bC} (h:k.inbox=[]):Ap k:=fun n hn=>by rw[h] at hn;cases hn
theorem Ap.less {k x:bC} (h:Ap k) (hi: ∀n∈x.inbox,n∈k.inbox) (hh: ∀n∈x.held,n∈k.held):Ap x:=fun n hn=>aR5 (h n (hi n hn)) hh
theorem aKx {α:Type} {l:List α} {i:Nat} {x:α} (h:x∈gK l i):x∈l:=by
 obtain⟨j,_,hj⟩:=aKw h
 exact aXq.2 ⟨j,hj⟩
theorem Ap.put {k:bC} {n:bA} (h:Ap k) (hn:aS k.inbox n.frm n.num<0) {x:bC} (hx:x.held=kD k.held n) (hi:x.inbox=k.inbox):Ap x:=fun m hm=>by
 rw[hi] at hm
 rw[hx]
 refine ec.2 fun y hy e=> ?_
 rcases ax.1 hy with rfl|hy
 · exact ec.1 hn m hm ⟨e.1.symm,e.2.symm⟩
 · exact ec.1 (h m hm) y hy e
theorem Ap.come {k:bC} {n:bA} (h:Ap k) (hn:aS k.held n.frm n.num<0) {x:bC} (hx:x.inbox=kD k.inbox n) (hi:x.held=k.held):Ap x:=fun m hm=>by
 rw[hx] at hm
 rw[hi]
 rcases ax.1 hm with rfl|hm
 · exact hn
 · exact h m hm
theorem aCx {k:bC} (h:Ap k) (n:bA):Ap (fF k n).1:=by
 by_cases h1: (fF k n).2=true
 · obtain⟨⟨q1,_⟩,q2⟩:=jn h1
   obtain⟨_,_,q3,q4,_⟩:=sv q1
   rw[q2]
   split
   · exact h.come q3 rfl rfl
   · exact h.put q4 rfl rfl
 · unfold fF at h1 ⊢
   split
   · rename_i hx;rw[if_pos hx] at h1;exact absurd rfl h1
   · exact h
theorem aNg {k:bC} (h:Ap k) (rec:List UInt8):Ap (eM k rec).1:=by
 have hnum: ∀w n,Ap (lH k w n).1:=fun w n=>by
  unfold lH
  split
  · exact h.less (fun m hm=>hm) fun m hm=>(List.mem_filter.1 hm).1
  · split
    · exact h.less (fun m hm=>hm) fun m hm=>hm
    · exact h
 have hnote: ∀w n,Ap (fN k w n).1:=fun w n=>by
  unfold fN
  split
  · exact aCx (h.less (x:={k with next:=wrap64 (k.next+1)}) (fun m hm=>hm) fun m hm=>hm) n
  · split
    · exact aCx h n
    · split
      · exact h
      · rename_i h3
        simp only[Bool.or_eq_true,decide_eq_true_eq,not_or,Int.not_le] at h3
        split
        · exact h.put h3.2 rfl rfl
        · split
          · exact h.come h3.1 rfl rfl
          · exact h
 have hmark: ∀w m,Ap (iL k w m).1:=fun w m=>by
  unfold iL
  split
  · exact h.less (fun m hm=>hm) fun m hm=>aKx hm
  · split
    · exact h.less (fun m hm=>aKx hm) fun m hm=>hm
    · split
      · exact h.less (fun m hm=>hm) fun m hm=>hm
      · exact h
 unfold eM
 repeat' split
 all_goals first|exact hnum _ _|exact hnote _ _|exact hmark _ _|exact h
theorem aNh {k:bC} (h:Ap k) (rec:List UInt8):Ap (cL k rec).1:=by
 unfold cL
 split
 · unfold kW
   split
   · exact aNg h rec
   · exact h
 · exact Ap.nil rfl
theorem aCy: ∀{rs:List (List UInt8)} {k:bC},Ap k→Ap (gX k rs).1
 | [],k,h=>h
 |r::rs,k,h=>by
  unfold gX
  split
  · exact aCy (aNh h r)
  · exact Ap.nil rfl
theorem ua (id:Int): (dU id).inbox=[]:=by
 unfold dU
 split<;>rfl
theorem aNi (id:Int) (rs:List (List UInt8)):Ap (eU id rs).1:=by
 unfold eU
 split
 · exact aCy (Ap.nil (ua id))
 · exact Ap.nil rfl
theorem zp {k:bC} (hk:dC k=true) (ha:Ap k): ∀i,i≤k.inbox.length→gX ⟨k.id,k.time,k.next,k.held,k.marks,[]⟩ ((k.inbox.take i).map (cT fP))=(⟨k.id,k.time,k.next,k.held,k.marks,k.inbox.take i⟩,true)
 |0,_=>rfl
 |i+1,hi=>by
  have ih:=zp hk ha i (by omega)
  obtain⟨_,_,_,⟨n3,s3⟩,_⟩:=jE.1 hk
  have hm:=dB (z:=bA.zero) (show i<k.inbox.length by omega)
  rw[eP (z:=bA.zero) (show i<k.inbox.length by omega),List.map_append,mN ih]
  refine sK ?_
  obtain⟨e1,e2⟩:=zn s3 (show i<k.inbox.length by omega)
  have hd:=aNf (x:=⟨k.id,k.time,k.next,k.held,k.marks,k.inbox.take i⟩) (n3 _ hm) (ha _ hm) e2
  rw[e1] at hd
  rw[tJ (sL hk (List.Sublist.refl _) (List.Sublist.refl _) (List.take_sublist _ _) (.inr rfl)) (by rw[hd]) (by rw[hd];exact sL hk (List.Sublist.refl _) (List.Sublist.refl _) (List.take_sublist _ _) (.inr rfl)),hd,← eP (z:=bA.zero) (show i<k.inbox.length by omega)]
theorem wT {id t n:Int} (h1:eR id=true) (h2:0≤t∧t≤999) (h3:1≤n∧n≤100):dC ⟨id,t,n,[],[],[]⟩=true:=
 jE.2 ⟨⟨h1,h2,h3,by simp,by simp,by simp⟩,⟨fun x hx=>(nomatch hx),List.Pairwise.nil⟩,⟨fun x hx=>(nomatch hx),List.Pairwise.nil⟩,⟨fun x hx=>(nomatch hx),List.Pairwise.nil⟩,fun x hx=>(nomatch hx),fun x hx=>(nomatch hx),fun x hx=>(nomatch hx)⟩
theorem aNj {id t:Int} (h1:eR id=true) (h2:0≤t∧t≤999):gX ⟨id,0,1,[],[],[]⟩ (if 0<t then [lQ t.toNat] else [])=(⟨id,t,1,[],[],[]⟩,true):=by
 split
 · rename_i h
   refine sK ?_
   have e: ((t.toNat:Nat):Int)=t:=by omega
   have hd:eM ⟨id,0,1,[],[],[]⟩ (lQ t.toNat)=(⟨id,t,1,[],[],[]⟩,true):=by
    rw[yg _ (by omega),e]
    unfold lH
    rw[if_pos (by simpa using h)];rfl
   rw[tJ (wT h1 (by omega) (by omega)) (by rw[hd]) (by rw[hd];exact wT h1 h2 (by omega)),hd]
 · rename_i h
   have:t=0:=by omega
   subst this;rfl
theorem aNk {id t n:Int} (h1:eR id=true) (h2:0≤t∧t≤999) (h3:1≤n∧n≤100):gX ⟨id,t,1,[],[],[]⟩ (if 1<n then [pJ n.toNat] else [])=(⟨id,t,n,[],[],[]⟩,true):=by
 split
 · rename_i h
   refine sK ?_
   have e: ((n.toNat:Nat):Int)=n:=by omega
   have hd:eM ⟨id,t,1,[],[],[]⟩ (pJ n.toNat)=(⟨id,t,n,[],[],[]⟩,true):=by
    rw[aJp _ (by omega),e]
    unfold lH
    rw[if_neg (by rw[show(jM==jG)=false by decide];simp),if_pos (by simpa using h)]
   rw[tJ (wT h1 h2 (by omega)) (by rw[hd]) (by rw[hd];exact wT h1 h2 h3),hd]
 · rename_i h
   have:n=1:=by omega
   subst this;rfl
theorem aPz {k:bC} (hk:dC k=true) (ha:Ap k):eU k.id (eH k)=(k,true):=by
 obtain⟨⟨h1,h2,h3,_⟩,_⟩:=jE.1 hk
 have e0:eU k.id (eH k)=gX ⟨k.id,0,1,[],[],[]⟩ (iw k):=by
  unfold eU eH dU
  rw[if_pos h1,if_pos hk,if_pos h1]
 have hm:=zo hk k.marks.length (aXi _)
 have hh:=aCw hk k.held.length (aXi _)
 have hi:=zp hk ha k.inbox.length (aXi _)
 rw[aXn] at hm hh hi
 rw[e0]
 unfold iw
 rw[List.append_assoc,List.append_assoc,List.append_assoc,mN (aNj h1 h2),mN (aNk h1 h2 h3),mN hm,mN hh,hi]
theorem ay {s s':List UInt8} {n j:Nat} (e:s'.take n=s.take n) (h:j<n):s'.getD j 0=s.getD j 0:=by
 have:=congrArg (fun l=>l[j]?) e
 simp only[List.getElem?_take,h,if_true] at this
 rw[aXe,aXe,this]
theorem aCz {s s':List UInt8} {n m:Nat} (e:s'.take n=s.take n) (h:m≤n):s'.take m=s.take m:=by
 have:=congrArg (List.take m) e
 rwa [List.take_take,List.take_take,Nat.min_eq_left h] at this
theorem qp {s s' r:List UInt8} {n:Nat} (h:hF s=some (r,n)) (e:s'.take n=s.take n) (hl:n≤s'.length):hF s'=some (r,n):=by
 unfold hF at h
 split at h
 · cases h
 · rename_i i hi
   obtain⟨q1,q2,q3,q4,q5⟩:=wC hi
   split at h
   · cases h
   · rename_i m hm
     split at h
     · rename_i hc
       cases h
       obtain⟨c1,c2,c3,c4⟩:=hc
       have hi':uH s'=some i:=ep q1 q2 (by omega) (by rw[ay e (by omega)];exact q4) fun j h1 h2=>by rw[ay e (by omega)];exact q5 j h1 h2
       unfold hF
       rw[hi']
       simp only
       rw[aCz e (show i≤i+2+m by omega),hm]
       simp only
       rw[if_pos ⟨c1,c2,hl,by rw[ay e (by omega)];exact c4⟩,aCz e (show i+1+m≤i+2+m by omega)]
     · cases h
theorem gu: ∀(n:Nat) {a b:List UInt8},a.length≤n→(bM a).2=a.length→bM (a++b)=((bM a).1++(bM b).1,a.length+(bM b).2)
 |0,a,b,hn,h=>by
  obtain rfl:a=[]:=List.eq_nil_of_length_eq_zero (by omega)
  rw[eG kY];simp
 |n+1,a,b,hn,h=>by
  cases hr:hF a with
  |none=>
   rw[eG hr] at h
   obtain rfl:a=[]:=List.eq_nil_of_length_eq_zero h.symm
   rw[eG kY];simp
  |some p=>
   obtain⟨r,c⟩:=p
   have hs:=nX hr
   rw[hZ hr] at h ⊢
   have h2:hF (a++b)=some (r,c):=qp hr (by rw[List.take_append_of_le_length (by omega)]) (by rw[aW7];omega)
   have ih:=gu n (a:=a.drop c) (b:=b) (by rw[aXf];omega) (by rw[aXf];simp only at h;omega)
   rw[hZ h2,List.drop_append_of_le_length (by omega),ih,aXf]
   simp only[List.cons_append]
   refine Prod.ext rfl ?_
   simp only;omega
theorem aJs {rec t:List UInt8} (h:iY rec=true):hF (cU rec++t)=some (rec,(cU rec).length):=by
 have h1: (1:Int)≤rec.length∧(rec.length:Int)≤60:=by simpa[iY,iK] using h
 have hl:=aGi (n:=rec.length) (by omega)
 have e:cU rec++t=jZ rec.length++(58::(rec++59::t)):=by simp[cU]
 have hlen: (cU rec).length=(jZ rec.length).length+2+rec.length:=by simp only[cU,aW7,aW9,aXa];omega
 generalize hd:jZ rec.length=d at*
 have hdd: ∀b∈d,gM b=true:=by rw[← hd];exact zI _
 have hat: ∀j,j<d.length→(d++(58::(rec++59::t))).getD j 0≠58:=fun j hj=>by
  rw[aXe,List.getElem?_append_left hj,aXg hj]
  have:=hdd _ (List.getElem_mem hj)
  intro e9
  simp only[Option.getD_some] at e9
  rw[e9] at this
  exact absurd this (by decide)
 have hc:uH (d++(58::(rec++59::t)))=some d.length:=ep (aXd _) (by omega) (by simp) (by rw[aXe,List.getElem?_append_right (aXi _)];simp) fun j _ hj=>hat j hj
 have ht: (d++(58::(rec++59::t))).take d.length=d:=List.take_left' rfl
 have hn:jP d=some rec.length:=by rw[← hd];exact mY (by omega)
 unfold hF
 rw[e,hc]
 simp only
 rw[ht,hn]
 simp only
 have hg: (d++(58::(rec++59::t))).getD (d.length+1+rec.length) 0=59:=by
  rw[aXe,List.getElem?_append_right (by omega),show d.length+1+rec.length - d.length=rec.length+1 by omega,List.getElem?_cons_succ,List.getElem?_append_right (aXi _)]
  simp
 rw[if_pos ⟨by omega,by omega,by simp only[aW7,aW9];omega,hg⟩]
 have hcut: ((d++(58::(rec++59::t))).take (d.length+1+rec.length)).drop (d.length+1)=rec:=by
  rw[show d++(58::(rec++59::t))=(d++[58])++(rec++59::t) by simp,show d.length+1+rec.length=(d++[58]).length+rec.length by simp,List.take_append,List.take_of_length_le (by simp),Nat.add_sub_cancel_left,List.take_left' rfl,show d.length+1=(d++[58]).length by simp,List.drop_left' rfl]
 rw[hcut,hlen]
theorem oT: ∀{recs:List (List UInt8)},recs.all iY=true→bM (dD recs)=(recs,(dD recs).length)
 | [],_=>by rw[aGk,eG kY];rfl
 |r::rs,h=>by
  simp only[List.all_cons,aXb] at h
  have e:dD (r::rs)=cU r++dD rs:=by simp[dD]
  rw[e,hZ (aJs h.1),List.drop_left' rfl,oT h.2,aW7]
theorem nn: ∀(f:Nat) {l:List UInt8} {n:Nat},(l.take n).length≤f→((bM (l.take n)).1 <+: (bM l).1)∧bM (l.take (bM (l.take n)).2)=bM (l.take n)
 |0,l,n,hf=>by
  have e:l.take n=[]:=List.eq_nil_of_length_eq_zero (by omega)
  rw[e,eG kY]
  exact⟨List.nil_prefix,by rw[List.take_zero,eG kY]⟩
 |f+1,l,n,hf=>by
  cases hr:hF (l.take n) with
  |none=>
   rw[eG hr]
   exact⟨List.nil_prefix,by rw[List.take_zero,eG kY]⟩
  |some p=>
   obtain⟨r,c⟩:=p
   have hs:=nX hr
   have hc:c≤n∧c≤l.length:=by have:=hs.2.1;rw[aXc] at this;omega
   have h2:hF l=some (r,c):=qp hr (by rw[List.take_take,Nat.min_eq_left hc.1]) hc.2
   have ed: (l.take n).drop c=(l.drop c).take (n - c):=by rw[List.drop_take]
   obtain⟨i1,i2⟩:=nn f (l:=l.drop c) (n:=n - c) (by rw[← ed,aXf];omega)
   have i3:=(qP _ ((l.drop c).take (n - c)) (aXi _)).1
   rw[aXc,aXf] at i3
   rw[hZ hr,hZ h2,ed]
   simp only
   refine⟨(List.cons_prefix_cons).2 ⟨rfl,i1⟩,?_⟩
   have h3:hF (l.take (c+(bM ((l.drop c).take (n - c))).2))=some (r,c):=qp h2 (by rw[List.take_take,Nat.min_eq_left (by omega)]) (by rw[aXc];omega)
   rw[hZ h3,List.drop_take,Nat.add_sub_cancel_left,i2]
theorem zq: ∀{rs ts:List (List UInt8)} {k:bC},(gX k (rs++ts)).2=true→(gX k rs).2=true
 | [],ts,k,h=>rfl
 |r::rs,ts,k,h=>by
  rw[List.cons_append] at h
  unfold gX at h ⊢
  split at h
  · rename_i hx
    rw[if_pos hx];exact zq h
  · cases h
theorem aJt {id:Int} {rs ts:List (List UInt8)} (hp:rs <+: ts) (h: (eU id ts).2=true): (eU id rs).2=true:=by
 obtain⟨us,rfl⟩:=hp
 unfold eU at h ⊢
 split at h
 · rename_i hx
   rw[if_pos hx];exact zq h
 · cases h
theorem gG {k:aH}:aR k=true↔eR k.id=true∧dA k.log k.forced=true∧k.halves.length≤3∧(k.up=true∨k.halves.length=0)∧(aZ k).2=true∧(xE k).2=true∧(aXj k.halves.length).all (iI k.halves)=true:=by
 constructor
 · intro h
   unfold aR at h
   simp only[aXb] at h
   obtain⟨⟨⟨h1,h2⟩,h3⟩,h4⟩:=h
   obtain⟨q1,q2,q3,q4⟩:=eJ h1
   exact⟨q1,q2,q3,q4,h2,h3,h4⟩
 · rintro⟨q1,q2,q3,q4,h2,h3,h4⟩
   unfold aR jX
   have q3': ((k.halves.length:Nat):Int)≤3:=by omega
   have q4': (k.up||decide (k.halves.length=0))=true:=by
    rcases q4 with h|h
    · rw[h];rfl
    · rw[decide_eq_true h,Bool.or_true]
   rw[q1,q2,decide_eq_true q3',q4',h2,h3,h4];rfl
theorem mO {k:aH} (h:aR k=true):bR k=(aZ k).1:=if_pos h
theorem aR6 {k:aH} (h:aR k=true):aZ k=(bR k,true):=Prod.ext (mO h).symm (gG.1 h).2.2.2.2.1
theorem aJu {k:aH} (h:aR k=true): (bR k).id=k.id:=by rw[mO h];exact aG4 h
theorem aJv {k:aH} (h:aR k=true):dC (bR k)=true:=by rw[mO h];exact gA h
theorem aVc {k:aH} (h:aR k=true):Ap (bR k):=by rw[mO h];exact aNi _ _
theorem aKy {k:aH} (h:aR k=true):aR {k with up:=true}=true:=by
 obtain⟨q1,q2,q3,_,h2,h3,h4⟩:=gG.1 h
 exact gG.2 ⟨q1,q2,q3,.inl rfl,h2,h3,h4⟩
theorem aP0 {k:aH} (h:aR k=true):bR (dP k)=bR k:=by
 have e:dP k={k with up:=true}:=if_pos h
 rw[e,mO (aKy h),mO h];rfl
theorem aC0 (l:List UInt8) (f keep:Int): (bM (l.take (jH l f keep))).2=jH l f keep∧(bM (l.take (jH l f keep))).1 <+: (bM l).1∧(l.take (jH l f keep)).length=jH l f keep:=by
 obtain⟨h1,h2⟩:=nn _ (l:=l) (n:=(gI l f keep).toNat) (aXi _)
 have h3:bM (l.take (jH l f keep))=bM (l.take (gI l f keep).toNat):=h2
 refine⟨by rw[h3];rfl,by rw[h3];exact h1,?_⟩
 rw[aXc]
 have:=iv l f keep
 omega
theorem aJw {l:List UInt8} {f keep:Int} (h:dA l f=true):dA (l.take (jH l f keep)) (jH l f keep)=true:=by
 obtain⟨h1,h2,h3,h4⟩:=iC h
 obtain⟨r1,r2,r3⟩:=aC0 l f keep
 have:=iv l f keep
 simp only[dA,iK,aXb,decide_eq_true_eq]
 refine⟨⟨⟨by omega,by omega⟩,by rw[r1,r3]⟩,?_⟩
 rw[aW6,List.take_take,Nat.min_self,r1]
theorem aKz {k:aH} (h:aR k=true) (keep:Int):dM k keep=⟨k.id,false,k.log.take (jH k.log k.forced keep),jH k.log k.forced keep,[]⟩:=by
 obtain⟨_,q2,_⟩:=gG.1 h
 unfold dM fU
 rw[if_pos h,if_pos q2]
theorem aEq {k:aH} (h:aR k=true) (keep:Int):aR (dM k keep)=true:=by
 obtain⟨q1,q2,q3,_,h2,h3,h4⟩:=gG.1 h
 obtain⟨r1,r2,r3⟩:=aC0 k.log k.forced keep
 have e: (eU k.id (bM (k.log.take (jH k.log k.forced keep))).1).2=true:=aJt r2 h2
 rw[aKz h]
 refine gG.2 ⟨q1,aJw q2,by simp,.inr rfl,e,?_,rfl⟩
 unfold xE
 simp only
 rw[aW6,List.take_take,Nat.min_self];exact e
theorem sw {k:aH} (h:aR k=true) (hf:k.forced=k.log.length) (keep:Int):bR (dP (dM k keep))=bR k:=by
 obtain⟨q1,q2,q3,_,h2,h3,h4⟩:=gG.1 h
 obtain⟨_,_,s3,_⟩:=iC q2
 rw[aP0 (aEq h keep),mO (aEq h keep),mO h,aKz h]
 have ea:gI k.log k.forced keep=k.log.length:=by
  unfold gI
  rw[hf,if_neg (by omega)];omega
 have e:jH k.log k.forced keep=k.log.length:=by
  unfold jH
  rw[ea,aW6,aXn,s3]
 unfold aZ
 simp only
 rw[e,aXn]
theorem qq {k:aH} (h:dA k.log k.forced=true):jN k={k with forced:=k.log.length}:=by
 unfold jN eT
 rw[if_pos h]
theorem aEr {l:List UInt8} {f:Int} (h:dA l f=true):dA l l.length=true:=by
 obtain⟨h1,h2,h3,h4⟩:=iC h
 simp only[dA,iK,aXb,decide_eq_true_eq]
 exact⟨⟨⟨h1,by omega⟩,h3⟩,by rw[aW6,aXn,h3]⟩
theorem qr {k:aH} (h:aR k=true):aR (jN k)=true:=by
 obtain⟨q1,q2,q3,q4,h2,h3,h4⟩:=gG.1 h
 rw[qq q2]
 refine gG.2 ⟨q1,aEr q2,q3,q4,h2,?_,h4⟩
 unfold xE
 simp only
 rw[aW6,aXn];exact h2
theorem jo {k:aH} (h:aR k=true):bR (jN k)=bR k:=by
 obtain⟨q1,q2,_⟩:=gG.1 h
 rw[mO (qr h),mO h,qq q2];rfl
theorem aEs (n:bA): (fZ n).length≤35:=by
 by_cases h:eL n=true
 · obtain⟨p1,p2,p3,p4,p5⟩:=mH h
   have q1:=bS (k:=0) (n:=n.frm.toNat) (by simp;omega)
   have q2:=bS (k:=1) (n:=n.num.toNat) (by simp;omega)
   have q3:=bS (k:=0) (n:=n.to.toNat) (by simp;omega)
   have q4:=bS (k:=2) (n:=n.til.toNat) (by simp;omega)
   rw[fZ,if_pos h]
   simp only[kO,aW7,aW9,aXa];omega
 · rw[fZ,if_neg h];simp
theorem np {r:List UInt8} (h1:1≤r.length) (h2:r.length≤60):iY r=true:=by
 simp only[iY,iK,aXb,decide_eq_true_eq];omega
theorem zr {w:List UInt8} {n:bA} (h:w.length≤5):iY (cT w n)=true:=by
 have:=aEs n
 exact np (by simp only[cT,aW7,aW9,aXa];omega) (by simp only[cT,aW7,aW9,aXa];omega)
theorem aJx {n:Nat} (h:n≤1000000):iY (lQ n)=true:=
 np (by simp only[lQ,aW7,aW9,aXa];omega) (by have:=da h;omega)
theorem aJy {n:Nat} (h:n≤1000000):iY (pJ n)=true:=
 np (by simp only[pJ,aW7,aW9,aXa];omega) (by have:=sm h;omega)
theorem aJz {w:List UInt8} {m:cA} (hw:w.length≤5) (h: (0≤m.frm∧m.frm≤1000000)∧(0≤m.num∧m.num≤1000000)∧(0≤m.til∧m.til≤1000000)):iY (iE w m)=true:=
 np (by simp only[iE,aW7,aW9,aXa];omega) (by have:=wK (w:=w) h;omega)
theorem sy {k:bC}: (eH k).all iY=true:=by
 by_cases hk:dC k=true
 · obtain⟨⟨_,ht,hn,_⟩,⟨n1,_⟩,⟨n2,_⟩,⟨n3,_⟩,_⟩:=jE.1 hk
   refine aXl.2 fun r hr=> ?_
   unfold eH at hr
   rw[if_pos hk] at hr
   unfold iw at hr
   simp only[List.mem_append,aXk] at hr
   rcases hr with(((hr|hr)|⟨m,hm,rfl⟩)|⟨n,hm,rfl⟩)|⟨n,hm,rfl⟩
   · split at hr
     · rw[aXo.1 hr];exact aJx (by omega)
     · cases hr
   · split at hr
     · rw[aXo.1 hr];exact aJy (by omega)
     · cases hr
   · have:=qT (n2 m hm)
     exact aJz (by decide) (by omega)
   · exact zr (by decide)
   · exact zr (by decide)
 · unfold eH;rw[if_neg hk];rfl
theorem ta: ∀{recs:List (List UInt8)},recs.all iY=true→(dD recs).length≤64*recs.length
 | [],_=>by simp[dD]
 |r::rs,h=>by
  simp only[List.all_cons,aXb] at h
  have e:dD (r::rs)=cU r++dD rs:=by simp[dD]
  have:=aGj h.1
  have ih:=ta h.2
  rw[e,aW7,aW9];omega
theorem zt (k:bC): (dD (eH k)).length≤1664:=by
 have h1:=ta (sy (k:=k))
 have h2:=(oA (k:=k)).1
 omega
theorem tb {l:List UInt8} {f:Int} {rec:List UInt8} (h:dA l f=true) (hr:iY rec=true) (hl:l.length+(cU rec).length≤2400):dA (l++cU rec) f=true∧bM (l++cU rec)=((bM l).1++[rec],l.length+(cU rec).length)∧(l++cU rec).take f.toNat=l.take f.toNat:=by
 obtain⟨h1,h2,h3,h4⟩:=iC h
 have hs:bM (cU rec)=([rec],(cU rec).length):=by
  have:=oT (recs:=[rec]) (by simp[hr])
  simpa[dD] using this
 have ha:=gu _ (b:=cU rec) (aXi _) h3
 rw[hs] at ha
 have ht: (l++cU rec).take f.toNat=l.take f.toNat:=List.take_append_of_le_length (by omega)
 refine⟨?_,ha,ht⟩
 simp only[dA,iK,aXb,decide_eq_true_eq]
 refine⟨⟨⟨by rw[aW7];exact hl,by rw[aW7];omega⟩,by rw[ha,aW7]⟩,by rw[ht];exact h4⟩
theorem aEt {recs:List (List UInt8)} (h:recs.all iY=true) (hl: (dD recs).length≤2400):dA (dD recs) (dD recs).length=true:=by
 have:=oT h
 simp only[dA,iK,aXb,decide_eq_true_eq]
 exact⟨⟨⟨hl,by omega⟩,by rw[this]⟩,by rw[aW6,aXn,this]⟩
theorem tc {id:Int} {rs:List (List UInt8)} {r:List UInt8} {k x:bC} (h:eU id rs=(k,true)) (hd:cL k r=(x,true)):eU id (rs++[r])=(x,true):=by
 unfold eU at h ⊢
 split at h
 · rename_i hx
   rw[if_pos hx,mN h,sK hd]
 · cases h
theorem aP1 {k:aH} {rec:List UInt8} (hok:aR k=true) (h: (jD k rec).2=true): (cL (bR k) rec).2=true∧aR (jD k rec).1=true∧bR (jD k rec).1=(cL (bR k) rec).1∧(jD k rec).1.id=k.id∧(jD k rec).1.up=k.up∧(jD k rec).1.halves=k.halves∧
 ((k.log.length+(cU rec).length≤2400∧(jD k rec).1.log=k.log++cU rec∧(jD k rec).1.forced=k.forced)∨(jD k rec).1.log.length≤1664+(cU rec).length∧2400<k.log.length+(cU rec).length)∧iY rec=true:=by
 obtain⟨q1,q2,q3,q4,h2,h3,h4⟩:=gG.1 hok
 have h2':aZ k=(bR k,true):=aR6 hok
 unfold jD at h ⊢
 rw[h2'] at h ⊢
 simp only at h ⊢
 by_cases hd: (cL (bR k) rec).2=true
 · rw[if_pos hd] at h ⊢
   have hd2:cL (bR k) rec=((cL (bR k) rec).1,true):=Prod.ext rfl hd
   by_cases ha: (bJ k.log k.forced rec).2=true
   · rw[if_pos ha]
     have hy:iY rec=true∧k.log.length+(cU rec).length≤2400:=Classical.byContradiction fun hn=>by rw[wJ q2 hn] at ha;cases ha
     rw[qY q2 hy]
     obtain⟨s1,s2,s3⟩:=tb q2 hy.1 hy.2
     have hk:aZ (jC k (k.log++cU rec,k.forced))=((cL (bR k) rec).1,true):=by
      unfold aZ jC
      simp only
      rw[s2]
      exact tc h2' hd2
     have ho:aR (jC k (k.log++cU rec,k.forced))=true:=gG.2 ⟨q1,s1,q3,q4,by rw[hk],by unfold xE jC;simp only;rw[s3];exact h3,h4⟩
     exact⟨hd,ho,by rw[mO ho,hk],rfl,rfl,rfl,.inl ⟨hy.2,rfl,rfl⟩,hy.1⟩
   · rw[if_neg ha] at h ⊢
     have hpk: (eH (bR k)).all iY=true∧(dD (eH (bR k))).length≤2400:=⟨sy,by have:=zt (bR k);omega⟩
     rw[xI q2 hpk] at h ⊢
     simp only[if_true] at h ⊢
     by_cases hb: (bJ (dD (eH (bR k))) ((dD (eH (bR k))).length:Int) rec).2=true
     · rw[if_pos hb]
       have sp:=aEt hpk.1 hpk.2
       have hy:iY rec=true∧(dD (eH (bR k))).length+(cU rec).length≤2400:=Classical.byContradiction fun hn=>by rw[wJ sp hn] at hb;cases hb
       rw[qY sp hy]
       obtain⟨s1,s2,s3⟩:=tb sp hy.1 hy.2
       have hback:eU k.id (bM (dD (eH (bR k)))).1=(bR k,true):=by
        rw[oT hpk.1,← aJu hok];exact aPz (aJv hok) (aVc hok)
       have hk:aZ (jC k (dD (eH (bR k))++cU rec,((dD (eH (bR k))).length:Int)))=((cL (bR k) rec).1,true):=by
        unfold aZ jC
        simp only
        rw[s2]
        exact tc hback hd2
       have ho:aR (jC k (dD (eH (bR k))++cU rec,((dD (eH (bR k))).length:Int)))=true:=gG.2 ⟨q1,s1,q3,q4,by rw[hk],by unfold xE jC;simp only;rw[s3,aW6,aXn,hback],h4⟩
       refine⟨hd,ho,by rw[mO ho,hk],rfl,rfl,rfl,.inr ⟨?_,?_⟩,hy.1⟩
       · show(dD _++cU rec).length≤_
         rw[aW7];have:=zt (bR k);omega
       · exact Classical.byContradiction fun hn=>ha (by rw[qY q2 ⟨hy.1,by omega⟩])
     · rw[if_neg hb] at h;cases h
 · rw[if_neg hd] at h;cases h
theorem td {k:aH} {rec:List UInt8} (hok:aR k=true) (h: (cY k rec).2=true): (cL (bR k) rec).2=true∧aR (cY k rec).1=true∧bR (cY k rec).1=(cL (bR k) rec).1∧(cY k rec).1.id=k.id∧(cY k rec).1.up=k.up∧(cY k rec).1.halves=k.halves∧(cY k rec).1.forced=(cY k rec).1.log.length∧
 ((k.log.length+(cU rec).length≤2400∧(cY k rec).1.log=k.log++cU rec)∨(cY k rec).1.log.length≤1664+(cU rec).length∧2400<k.log.length+(cU rec).length)∧iY rec=true:=by
 have hl: (jD k rec).2=true:=by
  unfold cY at h
  split at h
  · assumption
  · cases h
 obtain⟨a1,a2,a3,a4,a5,a6,a7,a8⟩:=aP1 hok hl
 have hs:=(gG.1 a2).2.1
 rw[so hl]
 have e:=qq hs
 refine⟨a1,qr a2,(jo a2).trans a3,?_,?_,?_,?_,?_,a8⟩
 · simp only;rw[e];exact a4
 · simp only;rw[e];exact a5
 · simp only;rw[e];exact a6
 · simp only;rw[e]
 · simp only;rw[e]
   rcases a7 with h|h
   · exact .inl ⟨h.1,h.2.1⟩
   · exact .inr h
def rL (k:aH) (keep:Int):bC:=bR (dP (dM k keep))
theorem aHc {k:bC} {n:bA} (hf:n.frm=k.id) (hm:n.num=k.next) (h: (cL k (cT iG n)).2=true):
 (cL k (cT iG n)).1.next=k.next+1∧(n.to=k.id→n∈(cL k (cT iG n)).1.inbox)∧(n.to≠k.id→n∈(cL k (cT iG n)).1.held):=by
 obtain⟨hk,h1,h2,h3⟩:=zj h
 obtain⟨⟨_,_,hn,_⟩,_⟩:=jE.1 hk
 rw[h2]
 have hr:=av (k:=k) (w:=iG) (n:=n) (by decide) rfl rfl
 rw[hr] at h1 ⊢
 split at h1
 · rename_i hok
   rw[if_pos hok]
   have e:fN k iG n=fF {k with next:=wrap64 (k.next+1)} n:=by
    unfold fN
    rw[if_pos (by rw[hf,hm];simp)]
   rw[e] at h1 ⊢
   obtain⟨_,q2⟩:=jn h1
   have hx: (fF {k with next:=wrap64 (k.next+1)} n).1.next=k.next+1:=by rw[(aNc _ _).2];exact aB (by omega)
   obtain⟨e1,e2⟩:=aJo h1
   exact⟨hx,fun ht=>(e1 ht).1,fun ht=>(e2 ht).2.1⟩
 · cases h1
theorem aVd {k:aH} {tu til:Int} {tx:List UInt8} (hok:aR k=true) (h: (bD k tu til tx).2≠0):k.up=true∧(cY k (cT iG (iJ k tu til tx))).2=true∧bD k tu til tx=((cY k (cT iG (iJ k tu til tx))).1,(aZ k).1.next):=by
 unfold bD at h ⊢
 rw[if_pos hok] at h ⊢
 split at h
 · rename_i hu
   rw[if_pos hu]
   split at h
   · rename_i hl
     rw[if_pos hl]
     exact⟨hu,hl,rfl⟩
   · exact absurd rfl h
 · exact absurd rfl h
theorem aEu {k:aH} {tu til:Int} {tx:List UInt8} (hok:aR k=true) (h: (bD k tu til tx).2≠0):aR (bD k tu til tx).1=true∧(bD k tu til tx).2=(bR k).next∧(∀m,rL (bD k tu til tx).1 m=bR (bD k tu til tx).1)∧(bR (bD k tu til tx).1).next=(bR k).next+1∧
 (tu=k.id→iJ k tu til tx∈(bR (bD k tu til tx).1).inbox)∧(tu≠k.id→iJ k tu til tx∈(bR (bD k tu til tx).1).held):=by
 obtain⟨hu,hl,e⟩:=aVd hok h
 rw[e]
 obtain⟨a1,a2,a3,a4,a5,a6,a7,_⟩:=td hok hl
 have hid:=aJu hok
 obtain⟨b1,b2,b3⟩:=aHc (k:=bR k) (n:=iJ k tu til tx) hid.symm (by rw[mO hok];rfl) a1
 refine⟨a2,by rw[mO hok],fun m=>sw a2 a7 m,?_,?_,?_⟩
 · simp only;rw[a3];exact b1
 · intro ht;simp only;rw[a3];exact b2 (by rw[hid];exact ht)
 · intro ht;simp only;rw[a3];exact b3 (by rw[hid];exact ht)
theorem aR7 {k:aH} {tu til:Int} {tx:List UInt8} (hok:aR k=true) (h: (bD k tu til tx).2=0): (bD k tu til tx).1=k:=by
 have hn:1≤(aZ k).1.next:=by
  obtain⟨⟨_,_,h3,_⟩,_⟩:=jE.1 (gA hok)
  omega
 unfold bD at h ⊢
 rw[if_pos hok] at h ⊢
 split
 · rename_i hu
   rw[if_pos hu] at h
   split
   · rename_i hl
     rw[if_pos hl] at h
     simp only at h;omega
   · rfl
 · rfl
theorem aR8 {k:aH} {tu til:Int} {tx tx2:List UInt8} (hok:aR k=true) (h: (bD k tu til tx).2≠0) (m:Int): (bD (dP (dM (bD k tu til tx).1 m)) tu til tx2).2=0∨(bD k tu til tx).2< (bD (dP (dM (bD k tu til tx).1 m)) tu til tx2).2:=by
 obtain⟨a1,a2,a3,a4,_⟩:=aEu hok h
 have hy:aR (dP (dM (bD k tu til tx).1 m))=true:=by
  have hf:=aEq a1 m
  rw[show dP (dM (bD k tu til tx).1 m)={dM (bD k tu til tx).1 m with up:=true} from if_pos hf]
  exact aKy hf
 by_cases h2: (bD (dP (dM (bD k tu til tx).1 m)) tu til tx2).2=0
 · exact .inl h2
 · obtain⟨_,b2,_⟩:=aEu hy h2
   refine .inr ?_
   rw[b2,a2]
   have:=a3 m
   unfold rL at this
   rw[this,a4];omega
theorem aJ0 {k:bC} {f n:Int} (hk:dC k=true) (hp:0≤aS k.inbox f n) (h: (cL k (iE jY ⟨f,n,(k.inbox.getD (aS k.inbox f n).toNat .zero).til⟩)).2=true):
 k.inbox.getD (aS k.inbox f n).toNat .zero∉ (cL k (iE jY ⟨f,n,(k.inbox.getD (aS k.inbox f n).toNat .zero).til⟩)).1.inbox∧
 (cL (cL k (iE jY ⟨f,n,(k.inbox.getD (aS k.inbox f n).toNat .zero).til⟩)).1 (cT fL (k.inbox.getD (aS k.inbox f n).toNat .zero))).2=false:=by
 obtain⟨_,h1,h2,h3⟩:=zj h
 obtain⟨_,_,_,⟨n3,s3⟩,_,_,c3⟩:=jE.1 hk
 obtain⟨p1,p2,p3⟩:=aEo hp
 have hm:=dB (z:=bA.zero) p1
 have hno:=n3 _ hm
 have hmk:kB ⟨f,n,(k.inbox.getD (aS k.inbox f n).toNat .zero).til⟩=true:=by
  have:=aNe hno
  unfold aJq at this
  rw[p2,p3] at this;exact this
 have hd:iL k jY ⟨f,n,(k.inbox.getD (aS k.inbox f n).toNat .zero).til⟩=({k with inbox:=gK k.inbox (aS k.inbox f n).toNat},true):=by
  unfold iL
  rw[if_neg (by rw[show(jY==nP)=false by decide];simp),if_pos (by simp[hp])]
 rw[h2]
 rw[zm k hmk (by decide) rfl rfl rfl,hd] at h1 h3 ⊢
 refine⟨fun hx=> ?_,?_⟩
 · have:=aPw s3 hp
   exact ec.1 this _ hx ⟨p2,p3⟩
 · generalize hg:k.inbox.getD (aS k.inbox f n).toNat .zero=nt at*
   refine aEp h3 ?_
   rw[av (by decide) rfl rfl,if_pos hno]
   unfold fN
   rw[if_neg (by rw[show(fL==iG)=false by decide];simp)]
   split
   · have hfr:uB {k with inbox:=gK k.inbox (aS k.inbox f n).toNat} nt=false:=by
      by_cases ht:k.time<nt.til
      · obtain⟨_,_,q3⟩:=c3 _ hm
        have hmm: ¬gN k.marks nt.frm nt.num<0:=fun hq=>q3 ⟨ht,hq⟩
        unfold uB
        simp only
        rw[decide_eq_false hmm,Bool.and_false]
      · exact aJl (k:={k with inbox:=gK k.inbox (aS k.inbox f n).toNat}) (by show nt.til≤k.time;omega)
     unfold fF
     rw[hfr];rfl
   · split
     · rfl
     · rw[if_neg (by decide),if_neg (by decide)]
theorem aVe {k:aH} {f n:Int} (hok:aR k=true) (h: (aX k f n).2.2=true):k.up=true∧0≤aS (bR k).inbox f n∧(cY k (nL k f n)).2=true∧aX k f n=((cY k (nL k f n)).1,(bR k).inbox.getD (aS (bR k).inbox f n).toNat .zero,true):=by
 rw[mO hok]
 by_cases hc:k.up=true∧0≤aS (aZ k).1.inbox f n
 · by_cases hl: (cY k (nL k f n)).2=true
   · exact⟨hc.1,hc.2,hl,aj hok hc hl⟩
   · rw[vQ hok hc hl] at h;cases h
 · rw[ah hok hc] at h;cases h
theorem aR9 {k:aH} {f n:Int} (hok:aR k=true) (h: (aX k f n).2.2=true): (aX k f n).2.1∈(bR k).inbox∧(aX k f n).2.1.frm=f∧(aX k f n).2.1.num=n∧(aX k f n).2.1.to=k.id∧aR (aX k f n).1=true∧
 (aX k f n).2.1∉ (rL (aX k f n).1 0).inbox∧(cL (rL (aX k f n).1 0) (cT fL (aX k f n).2.1)).2=false:=by
 obtain⟨hu,hp,hl,e⟩:=aVe hok h
 obtain⟨a1,a2,a3,a4,a5,a6,a7,_⟩:=td hok hl
 obtain⟨p1,p2,p3⟩:=aEo hp
 have hm:=dB (z:=bA.zero) p1
 have hkk:=aJv hok
 obtain⟨_,_,_,_,_,_,c3⟩:=jE.1 hkk
 have hto:=(c3 _ hm).2.1
 rw[aJu hok] at hto
 rw[e]
 have er:nL k f n=iE jY ⟨f,n,((bR k).inbox.getD (aS (bR k).inbox f n).toNat .zero).til⟩:=by rw[mO hok];rfl
 rw[er] at a1
 obtain⟨b1,b2⟩:=aJ0 hkk hp a1
 have hr:rL (cY k (nL k f n)).1 0=(cL (bR k) (iE jY ⟨f,n,((bR k).inbox.getD (aS (bR k).inbox f n).toNat .zero).til⟩)).1:=by
  unfold rL
  rw[sw a2 a7,a3,er]
 refine⟨hm,p2,p3,hto,a2,?_,?_⟩
 · simp only;rw[hr];exact b1
 · simp only;rw[hr];exact b2
def KQ (k:aH):Prop:=k.log.length≤20000∧k.halves.length≤100∧ ∀x∈k.halves,x.got.length≤100
theorem ju.kq {k:aH} (h:ju k):KQ k:=⟨by have:=h.1;omega,by have:=h.2.1;omega,fun x hx=>by have:=h.2.2 x hx;omega⟩
theorem KQ.log {k:aH} (h:KQ k):k.log.length≤140737488355328:=by have:=h.1;omega
theorem KQ.idd {k:aH} (h:KQ k) (i:Int):KQ {k with id:=i}:=h
theorem KQ.upp {k:aH} (h:KQ k) (b:Bool):KQ {k with up:=b}:=h
theorem KQ.frc {k:aH} (h:KQ k) (f:Int):KQ {k with forced:=f}:=h
theorem KQ.shelf {k:aH} (h:KQ k) {l:List UInt8} (hl:l.length≤20000) (f:Int):KQ {k with log:=l,forced:=f}:=⟨hl,h.2⟩
theorem KQ.lgg {k:aH} (h:KQ k) {l:List UInt8} (hl:l.length≤20000):KQ {k with log:=l}:=⟨hl,h.2⟩
theorem KQ.half {k:aH} (h:ju k) {x:dR} (hx:x.got.length≤100):KQ {k with halves:=k.halves++[x]}:=
 ⟨by have:=h.1;show k.log.length≤_;omega,by have:=h.2.1;show(k.halves++[x]).length≤_;simp;omega,fun y hy=>by
  rcases List.mem_append.1 hy with hy|hy
  · have:=h.2.2 y hy;omega
  · rw[aXo.1 hy];exact hx⟩
theorem KQ.zero:KQ .zero:=⟨by show(0:Nat)≤_;omega,by show(0:Nat)≤_;omega,fun _ hx=>nomatch hx⟩
theorem tZ (l:List UInt8) (f:Int): (eT l f).1.length≤l.length:=by
 unfold eT
 split
 · exact aXi _
 · exact aXd _
theorem oG {l:List UInt8} {f:Int} {rec:List UInt8} (h:l.length≤2400): (bJ l f rec).1.1.length≤2400:=by
 unfold bJ
 split
 · split
   · rename_i hc
     simp only[aXb,decide_eq_true_eq] at hc
     show(l++cU rec).length≤_
     rw[aW7];omega
   · exact h
 · show(0:Nat)≤_;omega
structure yO (x k:aH):Prop where
 ok:aR x=true
 time: (bR x).time=(bR k).time
 next: (bR x).next=(bR k).next
theorem yO.refl {k:aH} (h:aR k=true):yO k k:=⟨h,rfl,rfl⟩
theorem yO.trans {a b c:aH} (h:yO a b) (g:yO b c):yO a c:=⟨h.ok,h.time.trans g.time,h.next.trans g.next⟩
theorem yO.halves {k:aH} {l:List dR} (hok:aR k=true) (hu:k.up=true) (hl:l.length≤3) (h:HOk l):yO (dZ k l) k:=by
 have h2:=mv hok hu hl h
 have e:bR (dZ k l)=bR k:=by rw[mO h2,mO hok];rfl
 exact⟨h2,by rw[e],by rw[e]⟩
theorem yO.forced {k:aH} (hok:aR k=true):yO (jN k) k:=⟨qr hok,by rw[jo hok],by rw[jo hok]⟩
theorem aVf {f:cF} {a:Int} (hf:eO f=true) (hk:f.kind=1) (ha:a=2∨a=3):eO (bw a f)=true∧(bw a f).src=f.dst∧(bw a f).dst=f.src:=by
 refine⟨?_,rfl,rfl⟩
 unfold eO at hf ⊢
 rw[if_pos hk] at hf
 simp only[aXb,decide_eq_true_eq] at hf
 obtain⟨⟨⟨⟨⟨⟨h1,h2⟩,h3⟩,h4⟩,h5⟩,h6⟩,⟨⟨h7,h8⟩,h9⟩,h10⟩:=hf
 have e1: ¬(bw a f).kind=1:=by show ¬a=1;omega
 have e2: (bw a f).kind=2∨(bw a f).kind=3:=ha
 rw[if_neg e1,if_pos e2]
 simp only[aXb,decide_eq_true_eq]
 exact⟨⟨⟨⟨⟨⟨h2,h1⟩,h3⟩,h4⟩,h5⟩,h6⟩,⟨⟨rfl,rfl⟩,rfl⟩,h10⟩
def aK0 (k:aH) (f:cF) (r:aH×List cF):Prop:=
 yO r.1 k∧(∀g∈r.2,eO g=true∧g.src=k.id∧g.dst=f.src)∧r.2.length≤1
theorem aK0.nil {k x:aH} {f:cF} (h:yO x k):aK0 k f (x,[]):=⟨h,fun _ hg=>(nomatch hg),aXd _⟩
theorem aK0.one {k x:aH} {f:cF} {a:Int} (h:yO x k) (hf:eO f=true) (hk:f.kind=1) (hd:f.dst=k.id) (ha:a=2∨a=3):aK0 k f (x,[bw a f]):=
 ⟨h,fun g hg=>by rw[aXo.1 hg];obtain⟨q1,q2,q3⟩:=aVf hf hk ha;exact⟨q1,q2.trans hd,q3⟩,aXi _⟩
theorem zu {k:aH} {keep:Int} (h:k.log.length≤140737488355328): (dM k keep).log.length≤140737488355328:=by
 unfold dM
 split
 · show(fU k.log k.forced keep).1.length≤_
   unfold fU
   split
   · show(k.log.take _).length≤_
     rw[aXc];omega
   · exact aXd _
 · exact aXd _
theorem aHd {k:aH} (h:k.log.length≤140737488355328): (dP k).log.length≤140737488355328:=by
 unfold dP
 split
 · exact h
 · exact aXd _
end Go.Ab
namespace Go.Proofs.YthbgjfegalcenaaGreatDoor
open Int renaming toNat_natCast→aW6,tmod→aXm
open List renaming length_append→aW7,length_cons→aW9,length_nil→aXa,length_take→aXc,getD_eq_getElem?_getD→aXe,length_drop→aXf,getElem?_eq_getElem→aXg,getElem?_eq_some_iff→aXh,range→aXj,mem_map→aXk,all_eq_true→aXl,take_length→aXn,mem_singleton→aXo,mem_iff_getElem?→aXq,mem_cons→aXr
open Nat renaming le_of_ble_eq_true→aW8,zero_le→aXd,le_refl→aXi,add_mul→aXp
open Bool renaming and_eq_true→aXb
open Go Go.Ab Go.RowKit
set_option linter.unusedVariables false
set_option linter.unusedSimpArgs false
set_option maxRecDepth 9000
theorem wU {B:Nat} {ds:List D} (h:vS tab B 8 22 ds): ∃l:List UInt8,ds=[.sl (aA l)]∧l.length≤B:=by
 obtain⟨rows,rfl,h1,h2⟩:=h
 have h3: ∀r∈rows,r=[.u (Ab.byteOf r).toNat]:=fun r hr=>by
  obtain⟨n,rfl,hn⟩:=h2 r hr
  simp[Lit.wf,IntKind.min,IntKind.max,IntKind.signed,IntKind.bits] at hn
  simp[Ab.byteOf]
  omega
 refine⟨jR rows,?_,?_⟩
 · congr 2
   unfold jR aA
   rw[List.map_map]
   conv=>lhs;rw[← List.map_id rows]
   exact List.map_congr_left fun r hr=>h3 r hr
 have h1:rows.length*1≤B:=h1
 simpa[jR] using h1
theorem aK1 {l:List bA} {n:bA} {i:Nat} (hg: (aE l).getD i []=(l.getD i .zero).row):xC (lE aLl.zero ((aE l).getD (Int.toNat (i:Int)) []) 0) [.i n.frm,.i n.num,.i n.to,.i n.til,.s n.text]=decide (l.getD i .zero=n):=by
 rw[aW6,hg]
 generalize l.getD i .zero=m
 obtain⟨a,b,c,d,e⟩:=m
 obtain⟨a2,b2,c2,d2,e2⟩:=n
 rw[Bool.eq_iff_iff]
 simp[bA.row,lE,aH0,xC,eqD,and_assoc,zy,toS]
theorem aW4 {l:List bA} {n:bA} {i:Nat} (hg: (aE l).getD i []=(l.getD i .zero).row) (h:xC (lE aLl.zero ((aE l).getD (Int.toNat (i:Int)) []) 0) [.i n.frm,.i n.num,.i n.to,.i n.til,.s n.text]=true):l.getD i .zero=n:=by rw[aK1 hg] at h;exact of_decide_eq_true h
theorem aW5 {l:List bA} {n:bA} {i:Nat} (hg: (aE l).getD i []=(l.getD i .zero).row) (h:xC (lE aLl.zero ((aE l).getD (Int.toNat (i:Int)) []) 0) [.i n.frm,.i n.num,.i n.to,.i n.til,.s n.text]=false): ¬l.getD i .zero=n:=by rw[aK1 hg] at h;exact of_decide_eq_false h
set_option maxHeartbeats 800000 in
theorem uT (l:List bA) (n:bA) (hl:l.length≤100000):Sp 44 2 [tD 0 (.sl (aE l)),tV 1 n.V] [tB 0 (decide (n∈l))]:=by
 refine sb Tryz.func44 rfl (sq (rT [0,3] (s2 (sq (sq (rT [0,3,5] (s1 (bk (SW.loopW (n:=l.length) (fun m s=> ∃i:Nat,m=l.length - i∧i≤l.length∧n∉l.take i∧s=[tD 0 (.sl (aE l)),tP 3 3,tI 5 (i:Nat),oB 3 58 [.d (.i n.frm),.d (.i n.num),.d (.i n.to),.d (.i n.til),.d (.s n.text)]]) ?_ ?_)))))))))
 · exact wq (σ':=[tD 0 (.sl (aE l)),tP 3 3,tI 5 (0:Nat),oB 3 58 [.d (.i n.frm),.d (.i n.num),.d (.i n.to),.d (.i n.til),.d (.s n.text)]]) [] [] (⟨0,rfl,aXd _,by simp,rfl⟩) qz
 rintro n s ⟨i,rfl,hi,hno,rfl⟩
 refine sq (sq (rT [0,3,5,9] (s4 (cd rfl (fun c9=> ?_) fun c9=> ?_))))
 · have hi2:i<l.length:=by simpa[aC] using c9
   have hg:=aQ (l:=l) hi2
   have hlen:=aC l
   refine sk (sq (bk (sq (rD [0,3,5,17] (s2 (ai (by rw[aW6,hg];exact⟨⟨by omega,by rw[hlen];omega⟩,rfl⟩) (ai (by rw[aW6,hg];exact⟨aW8 rfl,rfl⟩) (s1 (aOy cV (lE aLl.zero ((aE l).getD (Int.toNat (i:Int)) []) 0) [.i n.frm,.i n.num,.i n.to,.i n.til,.s n.text] rfl rfl rfl (by kernel_rfl) (by kernel_rfl) (by kernel_rfl) (by kernel_rfl) rfl rfl (ai (by kernel_rfl) (cd rfl (fun c17=> ?_) fun c17=> ?_)))))))))))
   · have hat:l.getD i .zero=n:=aW4 hg c17
     refine sq (rT [4] (s1 (rt (bN rfl (congrArg D.b ?_)))))
     rw[decide_eq_true (hat▸dB hi2)]
   have hat: ¬l.getD i .zero=n:=aW5 hg c17
   refine sk (rT [0,3,5] (s3 ?_))
   have hno2:n∉l.take (i+1):=by rw[eP (z:=bA.zero) hi2];simp only[List.mem_append,aXo,not_or];exact⟨hno,fun e=>hat e.symm⟩
   refine wq [] [] (⟨l.length - (i+1),by omega,i+1,rfl,by omega,hno2,rfl⟩) ?_
   repeat' apply ai
   all_goals first|exact qx|exact congrArg D.i (aB (by omega))|rfl|exact qz
 have hie:i=l.length:=by simp[aC] at c9;omega
 refine xt (sq (rT [4] (s1 (rt (bN rfl (congrArg D.b ?_))))))
 rw[decide_eq_false (by rw[hie,aXn] at hno;exact hno)]
set_option maxHeartbeats 3200000 in
theorem ub (l:List dR) (hl:l.length≤100000∧ ∀x∈l,x.got.length≤100000):Sp 35 2 [tD 0 (.sl (aY l)),tD 1 (.sl (aY l))] [tB 0 true]:=by
 refine sb Tryz.func35 rfl (sq (rT [0,1] (s1 (sq (sq (rT [0,1,11] (s5 (cd rfl (fun c11=> ?_) fun c11=> ?_))))))))
 · simp at c11
 refine sk (sq (sq (rT [0,1,5] (s1 (bk (SW.loopW (n:=l.length) (fun n s=> ∃i:Nat,n=l.length - i∧i≤l.length∧s=[tD 0 (.sl (aY l)),tD 1 (.sl (aY l)),tI 5 (i:Nat)]) ?_ ?_))))))
 · exact wq (σ':=[tD 0 (.sl (aY l)),tD 1 (.sl (aY l)),tI 5 (0:Nat)]) [] [] (⟨0,rfl,aXd _,rfl⟩) qz
 rintro n s ⟨i,rfl,hi,rfl⟩
 refine sq (sq (rT [0,1,5,15] (s4 (cd rfl (fun c15=> ?_) fun c15=> ?_))))
 · have hi2:i<l.length:=by simpa[aF] using c15
   have hg:=gE (l:=l) hi2
   have hmem:l.getD i .zero∈l:=dB hi2
   have hgl:=hl.2 _ hmem
   have hsl: (aRc ((List.drop 5 ((aY l).getD (Int.toNat (i:Int)) [])).getD 0 (.i 0)))=cM (l.getD i .zero).got:=by rw[aW6,hg];rfl
   refine sk (sq (bk (sq (sq (rD [0,1,5,95] (s2 (ai (by rw[aW6,hg];exact⟨⟨by omega,by rw[aF];omega⟩,rfl⟩) (s1 (ai (by rw[aW6,hg];exact⟨aW8 rfl,rfl⟩) (s2 (ai (by rw[aW6,hg];exact⟨⟨by omega,by rw[aF];omega⟩,rfl⟩) (s1 (ai (by rw[aW6,hg];exact⟨aW8 rfl,rfl⟩) (s2 (y2 (ai (fun h=>(by rw[aW6,hg];exact⟨⟨by omega,by rw[aF];omega⟩,rfl⟩)) (ai rk (y1 (ai (fun h=>(by rw[aW6,hg];exact⟨aW8 rfl,rfl⟩)) (ai rk (y2 (ai (fun h=>(by rw[aW6,hg];exact⟨⟨by omega,by rw[aF];omega⟩,rfl⟩)) (ai rk (y1 (ai (fun h=>(by rw[aW6,hg];exact⟨aW8 rfl,rfl⟩)) (ai rk (y1 (ai pk (s1 (y2 (ai (fun h=>(by rw[aW6,hg];exact⟨⟨by omega,by rw[aF];omega⟩,rfl⟩)) (ai rk (y1 (ai (fun h=>(by rw[aW6,hg];exact⟨aW8 rfl,rfl⟩)) (ai rk (y2 (ai (fun h=>(by rw[aW6,hg];exact⟨⟨by omega,by rw[aF];omega⟩,rfl⟩)) (ai rk (y1 (ai (fun h=>(by rw[aW6,hg];exact⟨aW8 rfl,rfl⟩)) (ai rk (y1 (ai pk (s1 (y2 (ai (fun h=>(by rw[aW6,hg];exact⟨⟨by omega,by rw[aF];omega⟩,rfl⟩)) (ai rk (y1 (ai (fun h=>(by rw[aW6,hg];exact⟨aW8 rfl,rfl⟩)) (ai rk (y2 (ai (fun h=>(by rw[aW6,hg];exact⟨⟨by omega,by rw[aF];omega⟩,rfl⟩)) (ai rk (y1 (ai (fun h=>(by rw[aW6,hg];exact⟨aW8 rfl,rfl⟩)) (ai rk (y1 (ai pk (s1 (y2 (ai (fun h=>(by rw[aW6,hg];exact⟨⟨by omega,by rw[aF];omega⟩,rfl⟩)) (ai rk (y1 (ai (fun h=>(by rw[aW6,hg];exact⟨aW8 rfl,rfl⟩)) (ai rk (y2 (ai (fun h=>(by rw[aW6,hg];exact⟨⟨by omega,by rw[aF];omega⟩,rfl⟩)) (ai rk (y1 (ai (fun h=>(by rw[aW6,hg];exact⟨aW8 rfl,rfl⟩)) (ai rk (y1 (ai pk (s1 (y2 (ai (fun h=>(by rw[aW6,hg];exact⟨⟨by omega,by rw[aF];omega⟩,rfl⟩)) (ai rk (y1 (ai (fun h=>(by rw[aW6,hg];exact⟨aW8 rfl,rfl⟩)) (ai rk (y3 (ai (fun h=>(by rw[aW6,hg];exact⟨⟨by omega,by rw[aF];omega⟩,rfl⟩)) (ai rk (y1 (ai (fun h=>(by rw[aW6,hg];exact⟨aW8 rfl,rfl⟩)) (ai rk (y2 (ai pk (ai (by kernel_rfl) (cd rfl (fun c95=> ?_) fun c95=> ?_))))))))))))))))))))))))))))))))))))))))))))))))))))))))))))))))))))))))))))))))))))))))))
   · exact absurd c95 (by simp[gb])
   refine sk (sq (rT [0,1,5,6] (s1 (bk (SW.loopW (n:=(l.getD i .zero).got.length) (fun n s=> ∃k:Nat,n=(l.getD i .zero).got.length - k∧k≤(l.getD i .zero).got.length∧s=[tD 0 (.sl (aY l)),tD 1 (.sl (aY l)),tI 5 (i:Nat),tI 6 (k:Nat)]) ?_ ?_)))))
   · exact wq (σ':=[tD 0 (.sl (aY l)),tD 1 (.sl (aY l)),tI 5 (i:Nat),tI 6 (0:Nat)]) [] [] (⟨0,rfl,aXd _,rfl⟩) qz
   rintro n s ⟨k,rfl,hk,rfl⟩
   refine sq (sq (rT [0,1,5,6,103] (s3 (ai (by rw[aW6,hg];exact⟨⟨by omega,by rw[aF];omega⟩,rfl⟩) (s1 (ai (by rw[aW6,hg];exact⟨aW8 rfl,rfl⟩) (s2 (cd rfl (fun c103=> ?_) fun c103=> ?_))))))))
   · have hk2:k< (l.getD i .zero).got.length:=by rw[hsl,bI] at c103;simpa using c103
     have hg2:=mI (l:=(l.getD i .zero).got) hk2
     refine sk (sq (bk (sq (rD [0,1,5,6,122] (s2 (ai (by rw[aW6,hg];exact⟨⟨by omega,by rw[aF];omega⟩,rfl⟩) (s1 (ai (by rw[aW6,hg];exact⟨aW8 rfl,rfl⟩) (s1 (ai (by rw[hsl,aW6,hg2];exact⟨⟨by omega,by rw[bI];omega⟩,rfl⟩) (ai (by rw[hsl,aW6,hg2];exact⟨aW8 rfl,rfl⟩) (s2 (ai (by rw[aW6,hg];exact⟨⟨by omega,by rw[aF];omega⟩,rfl⟩) (s1 (ai (by rw[aW6,hg];exact⟨aW8 rfl,rfl⟩) (s1 (ai (by rw[hsl,aW6,hg2];exact⟨⟨by omega,by rw[bI];omega⟩,rfl⟩) (ai (by rw[hsl,aW6,hg2];exact⟨aW8 rfl,rfl⟩) (aOy cV (lE aQe.zero ((aRc ((List.drop 5 ((aY l).getD (Int.toNat (i:Int)) [])).getD 0 (.i 0))).getD (Int.toNat (k:Int)) []) 0) (lE aQe.zero ((aRc ((List.drop 5 ((aY l).getD (Int.toNat (i:Int)) [])).getD 0 (.i 0))).getD (Int.toNat (k:Int)) []) 0) rfl rfl rfl (by kernel_rfl) (by kernel_rfl) (by kernel_rfl) (by kernel_rfl) rfl rfl ?_)))))))))))))))))))
     refine ai (by kernel_rfl) (cd rfl (fun c122=> ?_) fun c122=> ?_)
     · exact absurd c122 (by simp[xC,eqD,lE,aH0])
     refine sk (rT [0,1,5,6] (s3 (wq [] [] (⟨(l.getD i .zero).got.length - (k+1),by omega,k+1,rfl,by omega,rfl⟩) ?_)))
     repeat' apply ai
     all_goals first|exact qx|exact congrArg D.i (aB (by omega))|rfl|exact qz
   refine xt (rT [0,1,5] (s3 (wq [] [] (⟨l.length - (i+1),by omega,i+1,rfl,by omega,rfl⟩) ?_)))
   repeat' apply ai
   all_goals first|exact qx|exact congrArg D.i (aB (by omega))|rfl|exact qz
 refine xt (sq (rT [4] (s1 (rt (bN rfl ?_)))))
 rfl
set_option maxHeartbeats 1600000 in
theorem lB (k:aH) (hk:k.halves.length≤100000∧ ∀x∈k.halves,x.got.length≤100000):Sp 22 2 [tV 0 k.V,tV 1 k.V] [tB 0 true]:=by
 refine sb Tryz.func22 rfl (sq (rT [2,3] (s3 (sq (rT [4] (s6 (y4 (y1 (ai pk (s1 (y4 (aDp cV [.s k.log,.i k.forced] [.s k.log,.i k.forced] rfl rfl rfl (by kernel_rfl) (by kernel_rfl) (by kernel_rfl) (by kernel_rfl) rfl rfl rk (ai pk (s1 (y4 (xc (fun h=>ub k.halves hk) (ai rfl (ai rk ?_))))))))))))))))))
 refine ai pk (s1 (rt (bN rfl (congrArg D.b ?_))))
 simp[xC,eqD]
set_option maxHeartbeats 800000 in
theorem gv (k:aH) (hl:k.log.length≤140737488355328):Sp 34 1 [tV 0 k.V] [tV 0 ((rL k 0).V)]:=by
 refine sb Tryz.func34 rfl (sq (rT [1,2] (s2 (sq (rT [2] (s1 (xp (wR k 0 hl) (ai rfl ?_))))))))
 refine xp (wS (dM k 0) (zu hl)) (ai rfl ?_)
 refine xp (oS (dP (dM k 0)) (aHd (zu hl))) (ai rfl ?_)
 exact s1 (rt (rq [] [] rfl qz))
theorem aTk (l:List UInt8) (p:Int) (rs:List (List UInt8)) (hr:1≤rs.length) (hp:0≤p∧p≤1000000) (hl:l.length≤2000):Sp 134 2 [tP 0 0,tO 1 5 rs.length,oB 0 137 [.d (.sl (aA l)),.d (.i (p))],oR 5 9 1 (bB (rs))] [tD 0 (.s (rs.getD (bO l p (rs.length:Int)).toNat [])),oB 0 137 [.d (.sl (aA l)),.d (.i (p+1))],oR 5 9 1 (bB (rs))]:=by
 have hv:=cC l (p:=p) (n:=(rs.length:Int)) hp (by omega)
 refine sb Tryz.func134 rfl (sq (rT [0,1] (s1 (sq (rT [4] (s3 (ai (by exact aL _) (bK (robj:=[(0,.box 137 [.d (.sl (aA (l))),.d (.i (p))])]) (rl:=[(0,0)]) (bor:=[]) (cK (l) (p) _ (by omega) hl) rfl rfl rfl rfl ⟨bU rfl rfl rfl rfl (cI rfl rfl (aV rfl (aD rfl (aD rfl aJ)) trivial)),rfl⟩ rfl (.inl rfl) (aI ⟨rfl,trivial⟩) (fun _ hj=>nomatch hj) (ai (by exact⟨aL _,hv.1,hv.2⟩) (ai (oldS (by omega) rfl) (s1 (rt (rq [] [] rfl ?_)))))))))))))
 repeat' apply ai
 all_goals try exact qx
 all_goals first|with_reducible rfl|(rw[fV (by omega)];rfl)|rfl
set_option maxHeartbeats 1600000 in
theorem zw (l:List UInt8) (p:Int) (tx:List UInt8) (hp:0≤p∧p≤790000) (hl:l.length≤2000) (htx:tx.length≤10000):ui 163 2 [tP 0 0,tD 1 (.s tx),oB 0 137 [.d (.sl (aA l)),.d (.i (p))]] (fun s=> ∃(x:List UInt8) (q:Int),(p≤q∧q≤p+10∧x.length≤2*tx.length+1)∧s=[tD 0 (.s x),oB 0 137 [.d (.sl (aA l)),.d (.i (q))]]):=by
 have hall1: ∀y∈([[32],[48],[45],[49],[120],[58],[59]]:List (List UInt8)),y.length≤1:=by decide
 have hall2: ∀y∈([[57],[45],[59],[32],[10]]:List (List UInt8)),y.length≤1:=by decide
 refine yv Tryz.func163 rfl (sq (rT [0,1] (s1 (sq (SW.midW (fun s=> ∃(cb:Bool) (q2:Int),(p≤q2∧q2≤p+1∧(cb=false→1≤tx.length))∧s=[tP 0 0,tD 1 (.s tx),tB 13 cb,oB 0 137 [.d (.sl (aA l)),.d (.i (q2))]]) ?_ ?_)))))
 · refine rF [0,1,13] (s1 (s1 (s1 (s1 (ai (fun h1=> ?_) (fun h1=> ?_))))))
   · refine s1 (ai (fun _=> ?_) (fun h=>absurd h (by rw[h1];simp)))
     refine iD (bK (robj:=[(0,.box 137 [.d (.sl (aA (l))),.d (.i (p))])]) (rl:=[(0,0)]) (bor:=[]) (cK (l) (p) _ (by omega) hl) rfl rfl rfl rfl ⟨bU rfl rfl rfl rfl (cI rfl rfl (aV rfl (aD rfl (aD rfl aJ)) trivial)),rfl⟩ rfl (.inl rfl) (aI ⟨rfl,trivial⟩) (fun _ hj=>nomatch hj) (ai (fun _=> ?_) (fun h=>absurd h (by rw[h1];simp))))
     refine s1 (ai pk (wq [] [] ⟨?c1,p+1,⟨by omega,by omega,?e1⟩,rfl⟩ ?_))
     repeat' apply ai
     all_goals try exact qx
     all_goals try rfl
     all_goals(intro _;have h2: ¬tx=[]:=(by simpa[gb] using h1);have:=List.length_pos_iff.2 h2;omega)
   refine⟨I 0,?_⟩
   refine ai (fun h=>absurd h (by rw[h1];simp)) (fun _=>⟨I 0,?_⟩)
   refine ai (fun h=>absurd h (by rw[h1];simp)) (fun _=>⟨B false,?_⟩)
   refine ai (by constructor<;>intro h<;>first|trivial|(simp[gb,h] at h1;done)) (wq [] [] ⟨?d1,p,⟨by omega,by omega,?f1⟩,rfl⟩ ?_)
   repeat' apply ai
   all_goals try exact qx
   all_goals try rfl
   all_goals(intro h;have h2:tx=[]:=(by simpa[gb] using h1);simp[h2] at h)
 rintro s ⟨cb,q2,hq2,rfl⟩
 refine cd rfl (fun c13=> ?_) fun c13=> ?_
 · refine sq (rT [4] (s2 (rt (cW _ ⟨?za2,q2,⟨by omega,by omega,?zn2⟩,rfl⟩ (eA _ [] [] rfl ?_ rfl rfl)))))
   all_goals try(refine qs ?_;(repeat' first|exact qx|apply ai))
   try any_goals with_reducible rfl
   try any_goals rfl
   all_goals((try simp only[aW7,aXc,aXf]);omega)
 have htl:=hq2.2.2 c13
 refine sk (sq ?_)
 obtain⟨i,hi,hil⟩: ∃i:Nat,bO l q2 (tx.length:Int)=(i:Int)∧i<tx.length:=by have:=cC l (p:=q2) (n:=(tx.length:Int)) (by omega) (by omega);exact⟨(bO l q2 (tx.length:Int)).toNat,by omega,by omega⟩
 refine rT [0,1,5] (s3 (bK (robj:=[(0,.box 137 [.d (.sl (aA (l))),.d (.i (q2))])]) (rl:=[(0,0)]) (bor:=[]) (cK (l) (q2) _ (by omega) hl) rfl rfl rfl rfl ⟨bU rfl rfl rfl rfl (cI rfl rfl (aV rfl (aD rfl (aD rfl aJ)) trivial)),rfl⟩ rfl (.inl rfl) (aI ⟨rfl,trivial⟩) (fun _ hj=>nomatch hj) (s1 (sq (sq (wa [tP 0 0,tD 1 (.s tx),tI 5 (i:Nat),oB 0 137 [.d (.sl (aA l)),.d (.i (q2+1))]] [] [] ?_ ?_))))))
 · repeat' apply ai
   all_goals first|exact qx|exact congrArg D.i hi|rfl|exact qz
 have hwi:wrap64 ((i:Int)+1)=(i:Int)+1:=aB (by omega)
 refine rT [0,1,5,20] (s1 (bK (robj:=[(0,.box 137 [.d (.sl (aA (l))),.d (.i (q2+1))])]) (rl:=[(0,0)]) (bor:=[]) (cK (l) (q2+1) _ (by omega) hl) rfl rfl rfl rfl ⟨bU rfl rfl rfl rfl (cI rfl rfl (aV rfl (aD rfl (aD rfl aJ)) trivial)),rfl⟩ rfl (.inl rfl) (aI ⟨rfl,trivial⟩) (fun _ hj=>nomatch hj) (bk (sq (rT [0,1,5,20,21] (ai (by first|trivial|(show _≤9223372036854775807;(try simp only[aW7,aW9,aXa,aXc,aXf]);omega)) (s1 (cd rfl (fun c21=> ?_) fun c21=> ?_))))))))
 · refine sq (rD [4] (s2 (ai (by(try rw[hwi]);simp[te,fE,gH] at *; omega) (s2 (ai (by first|trivial|(show _≤9223372036854775807;(try simp only[aW7,aW9,aXa,aXc,aXf]);omega)) (ai (by(try rw[hwi]);simp[te,fE,gH] at *; omega) (ai (by first|trivial|(show _≤9223372036854775807;(try simp only[aW7,aW9,aXa,aXc,aXf]);omega)) (s1 (ai (by kernel_rfl) (rt (cW _ ⟨?za3,q2+1+1,⟨by omega,by omega,?zn3⟩,rfl⟩ (eA _ [] [] rfl ?_ rfl rfl))))))))))))
   all_goals try(refine qs ?_;(repeat' first|exact qx|apply ai))
   try any_goals with_reducible rfl
   try any_goals rfl
   all_goals((try simp only[aW7,aXc,aXf]);omega)
 refine sq (rT [0,1,5,20,31] (ai (by first|trivial|(show _≤9223372036854775807;(try simp only[aW7,aW9,aXa,aXc,aXf]);omega)) (s1 (cd rfl (fun c31=> ?_) fun c31=> ?_))))
 · refine sq ?_
   have ho:=hall1 (([[32],[48],[45],[49],[120],[58],[59]]:List (List UInt8)).getD (bO l (q2+1+1) (([[32],[48],[45],[49],[120],[58],[59]]:List (List UInt8)).length:Int)).toNat []) (dB (by have:=cC l (p:=q2+1+1) (n:=7) (by omega) (by omega);simp;omega))
   have ho2:=ho
   simp only[aW9,aXa] at ho2
   refine rD [4] (s2 (ai (by(try rw[hwi]);simp[te,fE,gH] at *; omega) (s1 (ai (by exact⟨by simp,by decide⟩) (bK (robj:=[(0,.box 137 [.d (.sl (aA l)),.d (.i (q2+1+1))]),(37,.row 9 1 (bB ([[32],[48],[45],[49],[120],[58],[59]]:List (List UInt8))))]) (rl:=[(0,0),(5,37)]) (bor:=[]) (aTk l (q2+1+1) ([[32],[48],[45],[49],[120],[58],[59]]:List (List UInt8)) (by simp) (by omega) hl) rfl rfl rfl rfl ⟨bU rfl rfl rfl rfl (jA rfl rfl rfl rfl (aV rfl (aD rfl (aD rfl aJ)) (bV rfl rfl trivial))),rfl⟩ rfl (.inl rfl) (aI ⟨rfl,rfl,trivial⟩) (fun j hj=>nomatch hj) (ai (by first|trivial|(show _≤9223372036854775807;(try simp only[aW7,aW9,aXa,aXc,aXf]);omega)) (s2 (ai (by(try rw[hwi]);simp[te,fE,gH] at *; omega) (ai (by first|trivial|(show _≤9223372036854775807;(try simp only[aW7,aW9,aXa,aXc,aXf]);omega)) (s1 (ai (by kernel_rfl) (rt (cW _ ⟨?za4,q2+1+1+1,⟨by omega,by omega,?zn4⟩,rfl⟩ (eA _ [] [] rfl ?_ rfl rfl))))))))))))))
   all_goals try(refine qs ?_;(repeat' first|exact qx|apply ai))
   try any_goals with_reducible rfl
   try any_goals rfl
   all_goals((try simp only[aW7,aXc,aXf]);omega)
 refine sq (rT [0,1,5,20,44] (ai (by first|trivial|(show _≤9223372036854775807;(try simp only[aW7,aW9,aXa,aXc,aXf]);omega)) (s1 (cd rfl (fun c44=> ?_) fun c44=> ?_))))
 · refine sq ?_
   have ho:=hall2 (([[57],[45],[59],[32],[10]]:List (List UInt8)).getD (bO l (q2+1+1) (([[57],[45],[59],[32],[10]]:List (List UInt8)).length:Int)).toNat []) (dB (by have:=cC l (p:=q2+1+1) (n:=5) (by omega) (by omega);simp;omega))
   have ho2:=ho
   simp only[aW9,aXa] at ho2
   refine rD [4] (s2 (ai (by(try rw[hwi]);simp[te,fE,gH] at *; omega) (s1 (ai (by exact⟨by simp,by decide⟩) (bK (robj:=[(0,.box 137 [.d (.sl (aA l)),.d (.i (q2+1+1))]),(50,.row 9 1 (bB ([[57],[45],[59],[32],[10]]:List (List UInt8))))]) (rl:=[(0,0),(5,50)]) (bor:=[]) (aTk l (q2+1+1) ([[57],[45],[59],[32],[10]]:List (List UInt8)) (by simp) (by omega) hl) rfl rfl rfl rfl ⟨bU rfl rfl rfl rfl (jA rfl rfl rfl rfl (aV rfl (aD rfl (aD rfl aJ)) (bV rfl rfl trivial))),rfl⟩ rfl (.inl rfl) (aI ⟨rfl,rfl,trivial⟩) (fun j hj=>nomatch hj) (ai (by first|trivial|(show _≤9223372036854775807;(try simp only[aW7,aW9,aXa,aXc,aXf]);omega)) (s2 (ai (by first|trivial|(show _≤9223372036854775807;(try simp only[aW7,aW9,aXa,aXc,aXf]);omega)) (ai (by(try rw[hwi]);simp[te,fE,gH] at *; omega) (ai (by first|trivial|(show _≤9223372036854775807;(try simp only[aW7,aW9,aXa,aXc,aXf]);omega)) (s1 (ai (by kernel_rfl) (rt (cW _ ⟨?za5,q2+1+1+1,⟨by omega,by omega,?zn5⟩,rfl⟩ (eA _ [] [] rfl ?_ rfl rfl)))))))))))))))
   all_goals try(refine qs ?_;(repeat' first|exact qx|apply ai))
   try any_goals with_reducible rfl
   try any_goals rfl
   all_goals((try simp only[aW7,aXc,aXf]);omega)
 refine sq (rT [1,5,58] (ai (by first|trivial|(show _≤9223372036854775807;(try simp only[aW7,aW9,aXa,aXc,aXf]);omega)) (s1 (cd rfl (fun c58=> ?_) fun c58=> ?_))))
 · refine sq (rT [4] (s2 (ai (by first|trivial|(show _≤9223372036854775807;(try simp only[aW7,aW9,aXa,aXc,aXf]);omega)) (s1 (rt (cW _ ⟨?za6,q2+1+1,⟨by omega,by omega,?zn6⟩,rfl⟩ (eA _ [] [] rfl ?_ rfl rfl)))))))
   all_goals try(refine qs ?_;(repeat' first|exact qx|apply ai))
   try any_goals with_reducible rfl
   try any_goals rfl
   all_goals((try simp only[aW7,aXc,aXf]);omega)
 refine sk (sq (rT [4] (s2 (ai (by(try rw[hwi]);simp[te,fE,gH] at *; omega) (s1 (rt (cW _ ⟨?za7,q2+1+1,⟨by omega,by omega,?zn7⟩,rfl⟩ (eA _ [] [] rfl ?_ rfl rfl))))))))
 all_goals try(refine qs ?_;(repeat' first|exact qx|apply ai))
 try any_goals with_reducible rfl
 try any_goals rfl
 all_goals((try simp only[aW7,aXc,aXf]);omega)
set_option maxHeartbeats 3200000 in
theorem uc (l:List UInt8) (p:Int) (hp:0≤p∧p≤780000) (hl:l.length≤2000):ui 119 1 [tP 0 0,oB 0 137 [.d (.sl (aA l)),.d (.i (p))]] (fun s=> ∃(lg:List UInt8) (fr q:Int),(lg.length≤20000∧p≤q∧q≤p+1500)∧s=[tV 0 (.e (.agg [.d (.s lg),.d (.i fr)])),oB 0 137 [.d (.sl (aA l)),.d (.i (q))]]):=by
 refine yv Tryz.func119 rfl (sq (rT [0,2] (s1 (sq (rT [0,2,3] (s3 (sq (sq (rT [0,2,3,4] (s1 (bK (robj:=[(0,.box 137 [.d (.sl (aA (l))),.d (.i (p))])]) (rl:=[(0,0)]) (bor:=[]) (cK (l) (p) _ (by omega) hl) rfl rfl rfl rfl ⟨bU rfl rfl rfl rfl (cI rfl rfl (aV rfl (aD rfl (aD rfl aJ)) trivial)),rfl⟩ rfl (.inl rfl) (aI ⟨rfl,trivial⟩) (fun _ hj=>nomatch hj) (s1 (bk ?_)))))))))))))
 obtain⟨n0,hn0,hn9⟩: ∃n0:Nat,bO l p 9=(n0:Int)∧n0≤8:=by have:=cC l (p:=p) (n:=9) (by omega) (by omega);exact⟨(bO l p 9).toNat,by omega,by omega⟩
 refine SW.loopW (n:=n0) (fun x s=> ∃(lg:List UInt8) (fr q:Int),(x≤n0∧lg.length≤2400∧p+1≤q∧q≤p+1+131*(n0 - x:Nat))∧s=[tP 0 0,tP 2 2,tP 3 3,tI 4 (x:Nat),oB 0 137 [.d (.sl (aA l)),.d (.i (q))],oB 2 24 [.d (.s ([])),.d (.i (0))],oB 3 24 [.d (.s (lg)),.d (.i (fr))]]) ?_ ?_
 · refine wq [] [] ⟨[],0,p+1,⟨by omega,by simp,by omega,by omega⟩,rfl⟩ ?_
   repeat' apply ai
   all_goals try exact qx
   all_goals try rfl
   all_goals exact congrArg D.i hn0
 rintro n s ⟨lg,fr,q,⟨hxn,hlg,hq⟩,rfl⟩
 refine sq (sq (rT [0,2,3,4,10] (s1 (ai (by first|trivial|(show _≤9223372036854775807;(try simp only[aW7,aW9,aXa,aXc,aXf]);omega)) (cd rfl (fun c10=> ?_) fun c10=> ?_)))))
 · have hn1:0<n:=by simp at c10;omega
   refine sk (sq (bk (sq (SW.regDE cV mo [0,2,3,4] 2 (fun _=>none) rfl rfl (by kernel_rfl) ?_))))
   refine s2 (ek (robj:=[(0,.box 137 [.d (.sl (aA l)),.d (.i (q))])]) (rl:=[(0,0)]) (bor:=[]) (news:=[]) (gt l q (by omega) hl) rfl rfl rfl rfl ⟨bU rfl rfl rfl rfl (aV rfl (aD rfl (aD rfl aJ)) trivial),rfl⟩ (by rintro _ ⟨x,q9,hx,rfl⟩;exact⟨rfl,.inl rfl,fun j hj=>nomatch hj⟩) (aI ⟨rfl,trivial⟩) (fun j hj=>nomatch hj) ⟨_,[],q,⟨by omega,by omega,by simp⟩,rfl⟩ ?_)
   rintro _ ⟨x,q9,hx,rfl⟩
   refine xp (tY lg fr x (by omega) (by omega)) (ai rfl ?_)
   refine s1 (s8 (ai (by kernel_rfl) (sq (rT [0,2,3,4,22] (s1 (bK (robj:=[(0,.box 137 [.d (.sl (aA (l))),.d (.i (q9))])]) (rl:=[(0,0)]) (bor:=[]) (cK (l) (q9) _ (by omega) hl) rfl rfl rfl rfl ⟨bU rfl rfl rfl rfl (cI rfl rfl (aV rfl (aD rfl (aD rfl aJ)) trivial)),rfl⟩ rfl (.inl rfl) (aI ⟨rfl,trivial⟩) (fun _ hj=>nomatch hj) (ai (by first|trivial|(show _≤9223372036854775807;(try simp only[aW7,aW9,aXa,aXc,aXf]);omega)) (cd rfl (fun c22=> ?_) fun c22=> ?_))))))))
   · refine rT [0,2,3,4] (s1 (xp (iT (bJ lg fr x).1.1 (bJ lg fr x).1.2 (by have:=oG (f:=fr) (rec:=x) hlg;omega)) (ai rfl ?_)))
     refine s1 (rT [0,2,3,4] (s1 (ai (by first|trivial|(show _≤9223372036854775807;(try simp only[aW7,aW9,aXa,aXc,aXf]);omega)) (s1 ?_))))
     first
     |(refine wq (σ':=[tP 0 0,tP 2 2,tP 3 3,tI 4 (n - 1:Nat),oB 0 137 [.d (.sl (aA l)),.d (.i ((q9+1)))],oB 2 24 [.d (.s ([])),.d (.i (0))],oB 3 24 [.d (.s ((eT (bJ lg fr x).1.1 (bJ lg fr x).1.2).1)),.d (.i ((eT (bJ lg fr x).1.1 (bJ lg fr x).1.2).2))]]) [] [] (⟨n - 1,by omega,(eT (bJ lg fr x).1.1 (bJ lg fr x).1.2).1,(eT (bJ lg fr x).1.1 (bJ lg fr x).1.2).2,q9+1,⟨by omega,Nat.le_trans (tZ _ _) (oG hlg),by omega,by omega⟩,rfl⟩) ?_
       repeat' apply ai
       all_goals first|exact qx|(refine congrArg D.i ?_;rw[aB (by omega)];omega)|rfl|exact qz)
     |(refine wq [] [] (⟨n - 1,by omega,(bJ lg fr x).1.1,(bJ lg fr x).1.2,q9+1,⟨by omega,oG hlg,by omega,by omega⟩,rfl⟩) ?_
       repeat' apply ai
       all_goals first|exact qx|(refine congrArg D.i ?_;rw[aB (by omega)];omega)|rfl|exact qz)
   refine sk (rT [0,2,3,4] (s1 (ai (by first|trivial|(show _≤9223372036854775807;(try simp only[aW7,aW9,aXa,aXc,aXf]);omega)) (s1 ?_))))
   first
   |(refine wq (σ':=[tP 0 0,tP 2 2,tP 3 3,tI 4 (n - 1:Nat),oB 0 137 [.d (.sl (aA l)),.d (.i ((q9+1)))],oB 2 24 [.d (.s ([])),.d (.i (0))],oB 3 24 [.d (.s ((eT (bJ lg fr x).1.1 (bJ lg fr x).1.2).1)),.d (.i ((eT (bJ lg fr x).1.1 (bJ lg fr x).1.2).2))]]) [] [] (⟨n - 1,by omega,(eT (bJ lg fr x).1.1 (bJ lg fr x).1.2).1,(eT (bJ lg fr x).1.1 (bJ lg fr x).1.2).2,q9+1,⟨by omega,Nat.le_trans (tZ _ _) (oG hlg),by omega,by omega⟩,rfl⟩) ?_
     repeat' apply ai
     all_goals first|exact qx|(refine congrArg D.i ?_;rw[aB (by omega)];omega)|rfl|exact qz)
   |(refine wq [] [] (⟨n - 1,by omega,(bJ lg fr x).1.1,(bJ lg fr x).1.2,q9+1,⟨by omega,oG hlg,by omega,by omega⟩,rfl⟩) ?_
     repeat' apply ai
     all_goals first|exact qx|(refine congrArg D.i ?_;rw[aB (by omega)];omega)|rfl|exact qz)
 refine xt (SW.midW (fun s=> ∃(lh:List UInt8) (fg q2:Int),(lh.length≤20000∧q≤q2∧q2≤q+100)∧s=[tP 2 2,tP 3 3,oB 0 137 [.d (.sl (aA l)),.d (.i (q2))],oB 2 24 [.d (.s ([])),.d (.i (0))],oB 3 24 [.d (.s (lh)),.d (.i (fg))]]) ?_ ?_)
 · refine sq (rT [0,2,3,26] (s1 (bK (robj:=[(0,.box 137 [.d (.sl (aA (l))),.d (.i (q))])]) (rl:=[(0,0)]) (bor:=[]) (cK (l) (q) _ (by omega) hl) rfl rfl rfl rfl ⟨bU rfl rfl rfl rfl (cI rfl rfl (aV rfl (aD rfl (aD rfl aJ)) trivial)),rfl⟩ rfl (.inl rfl) (aI ⟨rfl,trivial⟩) (fun _ hj=>nomatch hj) (bk (sq (rT [0,2,3,26,27] (ai (by first|trivial|(show _≤9223372036854775807;(try simp only[aW7,aW9,aXa,aXc,aXf]);omega)) (s1 (cd rfl (fun c27=> ?_) fun c27=> ?_)))))))))
   · refine rE [2,3] (s3 (cP (robj:=[(0,.box 137 [.d (.sl (aA l)),.d (.i (q+1))])]) (rl:=[(0,0)]) (bor:=[]) (news:=[]) (zw l (q+1) lg (by omega) hl (by omega)) rfl rfl rfl rfl ⟨bU rfl rfl rfl rfl (cI rfl rfl (aV rfl (aD rfl (aD rfl aJ)) trivial)),rfl⟩ (by rintro _ ⟨y,q4,hy,rfl⟩;exact⟨rfl,.inl rfl,fun j hj=>nomatch hj⟩) (aI ⟨rfl,trivial⟩) (fun j hj=>nomatch hj) ?_))
     rintro _ ⟨y,q4,hy,rfl⟩
     refine s2 ?_
     first
     |(exact wq [] [] (⟨y,fr,q4,⟨by omega,by omega,by omega⟩,rfl⟩) qz)
     |(exact wq [] [] (⟨lh,fr,(q5+1),⟨by omega,by omega,by omega⟩,rfl⟩) qz)
     |(exact wq [] [] (⟨lg,fr,(q+1),⟨by omega,by omega,by omega⟩,rfl⟩) qz)
     |(exact wq [] [] (⟨lg,?fz8,q+1+1+1,⟨by omega,by omega,by omega⟩,rfl⟩) qz)
   refine sq (rT [0,2,3,26,34] (ai (by first|trivial|(show _≤9223372036854775807;(try simp only[aW7,aW9,aXa,aXc,aXf]);omega)) (s1 (cd rfl (fun c34=> ?_) fun c34=> ?_))))
   · have hv:=cC l (p:=q+1+1) (n:=3) (by omega) (by omega)
     refine rD [2,3] (s3 (ai (by first|trivial|(show _≤9223372036854775807;(try simp only[aW7,aW9,aXa,aXc,aXf]);omega)) (s4 (ai (by first|trivial|(show _≤9223372036854775807;(try simp only[aW7,aW9,aXa,aXc,aXf]);omega)) (bK (robj:=[(0,.box 137 [.d (.sl (aA (l))),.d (.i (q+1))])]) (rl:=[(0,0)]) (bor:=[]) (cK (l) (q+1) _ (by omega) hl) rfl rfl rfl rfl ⟨bU rfl rfl rfl rfl (cI rfl rfl (aV rfl (aD rfl (aD rfl aJ)) trivial)),rfl⟩ rfl (.inl rfl) (aI ⟨rfl,trivial⟩) (fun _ hj=>nomatch hj) (ai (by exact⟨by simp,aW8 rfl⟩) (s1 (bK (robj:=[(0,.box 137 [.d (.sl (aA (l))),.d (.i (q+1+1))])]) (rl:=[(0,0)]) (bor:=[]) (cK (l) (q+1+1) _ (by omega) hl) rfl rfl rfl rfl ⟨bU rfl rfl rfl rfl (cI rfl rfl (aV rfl (aD rfl (aD rfl aJ)) trivial)),rfl⟩ rfl (.inl rfl) (aI ⟨rfl,trivial⟩) (fun _ hj=>nomatch hj) ?_))))))))
     refine ai ⟨rfl,hv.1,hv.2⟩ (ai (aFw (l:=[-1,wrap64 (((lg.length:Nat):Int)+1),bO l (q+1) (wrap64 (((lg.length:Nat):Int)+1))]) (by simp;omega) rfl) (s2 (ai (by kernel_rfl) ?_)))
     first
     |(exact wq [] [] (⟨y,fr,q4,⟨by omega,by omega,by omega⟩,rfl⟩) qz)
     |(exact wq [] [] (⟨lh,fr,(q5+1),⟨by omega,by omega,by omega⟩,rfl⟩) qz)
     |(exact wq [] [] (⟨lg,fr,(q+1),⟨by omega,by omega,by omega⟩,rfl⟩) qz)
     |(exact wq [] [] (⟨lg,?fz9,q+1+1+1,⟨by omega,by omega,by omega⟩,rfl⟩) qz)
   refine sq (rT [0,2,3,52] (ai (by first|trivial|(show _≤9223372036854775807;(try simp only[aW7,aW9,aXa,aXc,aXf]);omega)) (s1 (cd rfl (fun c52=> ?_) fun c52=> ?_))))
   · refine sq (rT [0,2,3,5] (s1 (bk (SW.loopW (n:=41) (fun x s=> ∃(i:Nat) (lh:List UInt8) (q5:Int),x=41 - i∧(i≤40∧lh.length≤2400+70*i∧q+1≤q5∧q5≤q+1+2*i)∧s=[tP 0 0,tP 2 2,tP 3 3,tI 5 (i:Nat),oB 0 137 [.d (.sl (aA l)),.d (.i (q5))],oB 2 24 [.d (.s ([])),.d (.i (0))],oB 3 24 [.d (.s (lh)),.d (.i (fr))]]) ?_ ?_))))
     · refine wq [] [] ⟨0,lg,q+1,rfl,⟨by omega,by omega,by omega,by omega⟩,rfl⟩ ?_
       repeat' apply ai
       all_goals try exact qx
       all_goals try rfl
     rintro n s ⟨i,lh,q5,rfl,⟨hi,hlh,hq5⟩,rfl⟩
     have hp2:=cC l (p:=q5) (n:=3) (by omega) (by omega)
     refine sq (sq (rT [0,2,3,5,58] (s2 (bK (robj:=[(0,.box 137 [.d (.sl (aA (l))),.d (.i (q5))])]) (rl:=[(0,0)]) (bor:=[]) (cK (l) (q5) _ (by omega) hl) rfl rfl rfl rfl ⟨bU rfl rfl rfl rfl (cI rfl rfl (aV rfl (aD rfl (aD rfl aJ)) trivial)),rfl⟩ rfl (.inl rfl) (aI ⟨rfl,trivial⟩) (fun _ hj=>nomatch hj) (ai (by first|trivial|(show _≤9223372036854775807;(try simp only[aW7,aW9,aXa,aXc,aXf]);omega)) (ai (by first|trivial|(show _≤9223372036854775807;(try simp only[aW7,aW9,aXa,aXc,aXf]);omega)) (cd rfl (fun c58=> ?_) fun c58=> ?_)))))))
     · have hi3:i<40:=by have h9:=of_decide_eq_true c58;rw[aB (by omega)] at h9;omega
       refine sk (sq (bk (SW.regDE cV mo [0,2,3,5] 5 (fun _=>none) rfl rfl (by kernel_rfl) ?_)))
       refine s3 (bK (robj:=[(0,.box 137 [.d (.sl (aA (l))),.d (.i (q5+1))])]) (rl:=[(0,0)]) (bor:=[]) (cK (l) (q5+1) _ (by omega) hl) rfl rfl rfl rfl ⟨bU rfl rfl rfl rfl (cI rfl rfl (aV rfl (aD rfl (aD rfl aJ)) trivial)),rfl⟩ rfl (.inl rfl) (aI ⟨rfl,trivial⟩) (fun _ hj=>nomatch hj) (ai (by first|trivial|(show _≤9223372036854775807;(try simp only[aW7,aW9,aXa,aXc,aXf]);omega)) ?_))
       have hp3:=cC l (p:=q5+1) (n:=3) (by omega) (by omega)
       refine ek (robj:=[]) (rl:=[]) (bor:=[]) (news:=[]) (pF [102] (wrap64 (58+bO l (q5+1) 3)) rfl (by rw[aB (by omega)];omega)) rfl rfl rfl rfl ⟨cI rfl rfl (cI rfl rfl trivial),rfl⟩ (by rintro _ ⟨x1,hx1,rfl⟩;exact⟨rfl,.inl rfl,fun j hj=>nomatch hj⟩) (fun p hp=>nomatch hp) (fun j hj=>nomatch hj) ⟨_,[],by simp,rfl⟩ ?_
       rintro _ ⟨x1,hx1,rfl⟩
       rw[aB (n:=58+bO l (q5+1) 3) (by omega)] at hx1
       have hst:=nZ (rec:=x1) (by omega)
       refine xp (pE x1 (by omega)) (ai rfl ?_)
       refine s1 (ai (by first|trivial|(show _≤9223372036854775807;(try simp only[aW7,aW9,aXa,aXc,aXf]);omega)) (s5 (ai (by kernel_rfl) (rT [0,2,3,5] (s1 (ai (by first|trivial|(show _≤9223372036854775807;(try simp only[aW7,aW9,aXa,aXc,aXf]);omega)) (s1 (wq [] [] ⟨41 - (i+1),by omega,i+1,lh++cU x1,q5+1+1,rfl,⟨by omega,by rw[aW7];omega,by omega,by omega⟩,rfl⟩ ?_))))))))
       repeat' apply ai
       all_goals try exact qx
       all_goals try rfl
       all_goals exact congrArg D.i (aB (by omega))
     refine xt ?_
     first
     |(exact wq [] [] (⟨y,fr,q4,⟨by omega,by omega,by omega⟩,rfl⟩) qz)
     |(exact wq [] [] (⟨lh,fr,(q5+1),⟨by omega,by omega,by omega⟩,rfl⟩) qz)
     |(exact wq [] [] (⟨lg,fr,(q+1),⟨by omega,by omega,by omega⟩,rfl⟩) qz)
     |(exact wq [] [] (⟨lg,?fz10,q+1+1+1,⟨by omega,by omega,by omega⟩,rfl⟩) qz)
   refine sk ?_
   first
   |(exact wq [] [] (⟨y,fr,q4,⟨by omega,by omega,by omega⟩,rfl⟩) qz)
   |(exact wq [] [] (⟨lh,fr,(q5+1),⟨by omega,by omega,by omega⟩,rfl⟩) qz)
   |(exact wq [] [] (⟨lg,fr,(q+1),⟨by omega,by omega,by omega⟩,rfl⟩) qz)
   |(exact wq [] [] (⟨lg,?fz11,q+1+1+1,⟨by omega,by omega,by omega⟩,rfl⟩) qz)
 rintro s ⟨lh,fg,q2,hq2,rfl⟩
 exact sq (rT [2] (s2 (rt (cW [tV 0 (.e (.agg [.d (.s lh),.d (.i fg)])),oB 0 137 [.d (.sl (aA l)),.d (.i (q2))]] ⟨lh,fg,q2,⟨by omega,by omega,by omega⟩,rfl⟩ (rq [] [] rfl qz)))))
end Go.Proofs.YthbgjfegalcenaaGreatDoor
namespace Go.Ab
open Int renaming toNat_natCast→aW6,tmod→aXm
open List renaming length_append→aW7,length_cons→aW9,length_nil→aXa,length_take→aXc,getD_eq_getElem?_getD→aXe,length_drop→aXf,getElem?_eq_getElem→aXg,getElem?_eq_some_iff→aXh,range→aXj,mem_map→aXk,all_eq_true→aXl,take_length→aXn,mem_singleton→aXo,mem_iff_getElem?→aXq,mem_cons→aXr
open Nat renaming le_of_ble_eq_true→aW8,zero_le→aXd,le_refl→aXi,add_mul→aXp
open Bool renaming and_eq_true→aXb
open Go Go.RowKit
theorem aSa {P:Program} {T:hO} (hT:dQ P T) {o:Oper} {σ:St} {t:TypeId} {len:Nat} {parts:Array (Nat×Operand)} {d oo n:Nat} {e:TypeId} {es:Nat} {rows:List (List D)} {R:List (dH×Option K)} {p:Prop} {k:List (dH×Option K)→List (dH×K)→Prop}
 (ho:o.op= .buildSlice t len parts) (ha:vX T σ t len parts.toList o.dst=some (p,R,[(.o oo,.row e es rows),(.t d,.v (.e (.c (.own oo n))))])) (hp:p) (hn:rows.length=n)
 (h:k R [(.o oo,.dead),(.t d,.v (Dv (.sl rows)))]): ∃R W,xR P o R W∧bT R σ∧k R W:=by
 obtain⟨h1,h2⟩:=ba hT ho p R _ ha hp
 refine⟨R,_,?_,h2,h⟩
 intro cx σ' ι S a w hr hw hb next Q hn2
 refine h1 cx σ' ι S a w hr hw hb next Q (fun ι' S' a' w' hw'=> ?_)
 have hf:=hw'.freeze (s:=d) (o:=oo) (n:=n) (e:=e) (es:=es) (rows:=rows) (by simp[iN,lR]) (by simp[iN,lR]) hn
 refine hn2 _ _ a' w' (hf.congr fun l=> ?_)
 simp only[iN,lR]
 by_cases q1:dH.t d=l
 · simp[q1]
 · by_cases q2:dH.o oo=l
   · simp[q1,q2]
   · simp[q1,q2]
end Go.Ab
namespace Go.Proofs.YthbgjfegalcenaaGreatDoor
open Int renaming toNat_natCast→aW6,tmod→aXm
open List renaming length_append→aW7,length_cons→aW9,length_nil→aXa,length_take→aXc,getD_eq_getElem?_getD→aXe,length_drop→aXf,getElem?_eq_getElem→aXg,getElem?_eq_some_iff→aXh,range→aXj,mem_map→aXk,all_eq_true→aXl,take_length→aXn,mem_singleton→aXo,mem_iff_getElem?→aXq,mem_cons→aXr
open Nat renaming le_of_ble_eq_true→aW8,zero_le→aXd,le_refl→aXi,add_mul→aXp
open Bool renaming and_eq_true→aXb
open Go Go.Ab Go.RowKit
set_option linter.unusedVariables false
set_option linter.unusedSimpArgs false
set_option maxRecDepth 9000
set_option maxHeartbeats 6400000 in
theorem yP (l:List UInt8) (p:Int) (hp:0≤p∧p≤600000) (hl:l.length≤2000):ui 77 1 [tP 0 801,oB 801 137 [.d (.sl (aA l)),.d (.i (p))]] (fun s=> ∃(W2:fK) (k1:aH) (q3:Int),(W2.ok∧KQ k1∧p≤q3∧q3≤p+18000)∧s=[tV 0 (.tup [.agg [.d (.i (W2.tm)),.own 802 4,.own 803 3,ps 804 4 (W2.a),ps 805 5 (W2.b),ps 806 5 (W2.c)],.agg [.d (.i (k1).id),.d (.b (k1).up),.d (.s (k1).log),.d (.i (k1).forced),.d (.sl (aY (k1).halves))]]),oB 801 137 [.d (.sl (aA l)),.d (.i (q3))],oR 802 27 5 (aG W2.ks),oR 803 4 1 (aM W2.ls),(.o 804,aK 210 4 fI),(.o 805,aK 58 5 cJ),(.o 806,aK 58 5 cJ)]):=by
 refine yv Tryz.func77 rfl (sq (rT [0,2,3] (s2 (sq (rE [0,2,3,4] (s1 (cP (robj:=[(801,.box 137 [.d (.sl (aA l)),.d (.i (p))])]) (rl:=[]) (bor:=[]) (news:=[800,802,803,804,805,806,807]) (aPt l (p) 12 (by omega) hl (by omega)) rfl rfl rfl rfl ⟨bU rfl rfl rfl rfl (cI rfl rfl (aV rfl (aD rfl (aD rfl aJ)) trivial)),rfl⟩ (by rintro _ ⟨W,q1,hw,rfl⟩;exact⟨rfl,.inl rfl,fun j hj=>hj⟩) (aI ⟨rfl,trivial⟩) (fun j hj=>by simp at hj;rcases hj with rfl|rfl|rfl|rfl|rfl|rfl|rfl<;>rfl) ?_)))))))
 rintro _ ⟨W,q1,hw,rfl⟩
 refine s1 (SW.midW (fun s=> ∃(W2:fK) (q2:Int),(W2.ok∧q1≤q2∧q2≤q1+200)∧s=[tP 0 801,tP 2 2,tP 3 3,tP 4 800,oB 800 124 [.pt 801 0,.d (.i (W2.tm)),.own 802 4,.own 803 3,ps 804 4 (W2.a),ps 805 5 (W2.b),ps 806 5 (W2.c),ps 807 10 (W2.d)],oB 801 137 [.d (.sl (aA l)),.d (.i (q2))],oR 802 27 5 (aG W2.ks),oR 803 4 1 (aM W2.ls),(.o 804,aK 210 4 fI),(.o 805,aK 58 5 cJ),(.o 806,aK 58 5 cJ),(.o 807,aK 157 10 jJ),oB 2 99 [.d (.i 0),.nil,.nil,.nil,.nil,.nil],oB 3 27 [.d (.i 0),.d (.b false),.d (.s []),.d (.i 0),.nil]]) ?_ ?_)
 · refine sq (rT [0,2,3,4,11] (s1 (bK (robj:=[(801,.box 137 [.d (.sl (aA (l))),.d (.i (q1))])]) (rl:=[(0,801)]) (bor:=[]) (cK (l) (q1) _ (by omega) hl) rfl rfl rfl rfl ⟨bU rfl rfl rfl rfl (cI rfl rfl (aV rfl (aD rfl (aD rfl aJ)) trivial)),rfl⟩ rfl (.inl rfl) (aI ⟨rfl,trivial⟩) (fun _ hj=>nomatch hj) (ai (by first|trivial|(show _≤9223372036854775807;(try simp only[aW7,aW9,aXa,aXc,aXf]);omega)) (cd rfl (fun c11=> ?_) fun c11=> ?_)))))
   · refine rE [0,2,3,4] (s1 (cP (robj:=[(800,.box 124 [.pt 801 0,.d (.i (W.tm)),.own 802 4,.own 803 3,ps 804 4 (W.a),ps 805 5 (W.b),ps 806 5 (W.c),ps 807 10 (W.d)]),(801,.box 137 [.d (.sl (aA l)),.d (.i (q1+1))]),(802,.row 27 5 (aG W.ks)),(803,.row 4 1 (aM W.ls)),(804,aK 210 4 fI),(805,aK 58 5 cJ),(806,aK 58 5 cJ),(807,aK 157 10 jJ)]) (rl:=[]) (bor:=[]) (news:=[]) (fk l (q1+1) W 7 0 (by omega) hl hw.1.ok (by have:=hw.1.few;have h0:eY.d=0:=rfl;omega) (by omega)) rfl rfl rfl rfl ⟨bU rfl rfl rfl rfl (cI rfl rfl (cI rfl rfl (aV rfl (eF rfl rfl rfl (aD rfl (bQ rfl rfl rfl (bQ rfl rfl rfl (bF rfl rfl rfl (bF rfl rfl rfl (bF rfl rfl rfl (bF rfl rfl rfl aJ)))))))) (aV rfl (aD rfl (aD rfl aJ)) (bV rfl rfl (bV rfl rfl (aW rfl rfl (aW rfl rfl (aW rfl rfl (aW rfl rfl trivial)))))))))),rfl⟩ (by rintro _ ⟨W3,q3,hw3,rfl⟩;exact⟨rfl,.inl rfl,fun j hj=>nomatch hj⟩) (aI ⟨rfl,rfl,rfl,rfl,rfl,rfl,rfl,rfl,trivial⟩) (fun j hj=>nomatch hj) ?_))
     rintro _ ⟨W3,q3,hw3,rfl⟩
     first
     |(exact wq [] [] (⟨W3,q3,⟨hw3.1.ok,by omega,by omega⟩,rfl⟩) qz)
     |(exact wq [] [] (⟨W,q1+1,⟨hw.1.ok,by omega,by omega⟩,rfl⟩) qz)
   refine sk ?_
   first
   |(exact wq [] [] (⟨W3,q3,⟨hw3.1.ok,by omega,by omega⟩,rfl⟩) qz)
   |(exact wq [] [] (⟨W,q1+1,⟨hw.1.ok,by omega,by omega⟩,rfl⟩) qz)
 rintro s ⟨W2,q2,⟨hW,hq2⟩,rfl⟩
 refine sq (rT [0,2,3,5] (s6 (sq ?_)))
 obtain⟨i,hi,hil⟩:=wO (show 0≤bO l q2 4∧bO l q2 4≤3 by have:=cC l (p:=q2) (n:=4) (by omega) (by omega);omega)
 have hsm:=hW.at hil
 have hs1:=hsm.1
 have hs2:=hsm.2.1
 refine rD [0,2,3,5,6] (s3 (bK (robj:=[(801,.box 137 [.d (.sl (aA (l))),.d (.i (q2))])]) (rl:=[(0,801)]) (bor:=[]) (cK (l) (q2) _ (by omega) hl) rfl rfl rfl rfl ⟨bU rfl rfl rfl rfl (cI rfl rfl (aV rfl (aD rfl (aD rfl aJ)) trivial)),rfl⟩ rfl (.inl rfl) (aI ⟨rfl,trivial⟩) (fun _ hj=>nomatch hj) (ai (by rw[hi];exact⟨by rw[bE];exact hW.four,by omega,by omega⟩) (ai (by rw[hi,aW6,bY (by rw[hW.four];exact hil)];exact⟨⟨by rw[bE];exact hW.four,hil⟩,aW8 rfl,rfl⟩) (bK (robj:=[]) (rl:=[(0,24)]) (bor:=[]) (jj (W2.ks.getD i .zero) ⟨by have:=hsm.2.1;omega,fun x hx=>by have:=hsm.2.2 x hx;omega⟩) rfl rfl rfl rfl ⟨dX rfl (aD (by rw[hi,aW6,bY (by rw[hW.four];exact hil)];rfl) (aD (by rw[hi,aW6,bY (by rw[hW.four];exact hil)];rfl) (aD (by rw[hi,aW6,bY (by rw[hW.four];exact hil)];rfl) (aD (by rw[hi,aW6,bY (by rw[hW.four];exact hil)];rfl) (aD (by rw[hi,aW6,bY (by rw[hW.four];exact hil)];rfl) aJ))))) trivial,rfl⟩ rfl (.inl rfl) (fun p hp=>nomatch hp) (fun j hj=>by(obtain rfl:j=0:=by simpa[kN,cD,iO] using hj);rfl) ?_)))))
 refine s2 (ai (by kernel_rfl) (SW.midW (fun s=> ∃(k1:aH) (q3:Int),(KQ k1∧q2≤q3∧q3≤q2+1600)∧s=[tP 2 2,tP 3 3,tP 5 5,tP 6 6,oB 801 137 [.d (.sl (aA l)),.d (.i (q3))],oB 2 99 [.d (.i 0),.nil,.nil,.nil,.nil,.nil],oB 3 27 [.d (.i 0),.d (.b false),.d (.s []),.d (.i 0),.nil],oB 5 99 [.d (.i (W2.tm)),.own 802 4,.own 803 3,ps 804 4 (W2.a),ps 805 5 (W2.b),ps 806 5 (W2.c)],oB 6 27 [.d (.i (k1).id),.d (.b (k1).up),.d (.s (k1).log),.d (.i (k1).forced),.d (.sl (aY (k1).halves))],oR 802 27 5 (aG W2.ks),oR 803 4 1 (aM W2.ls),(.o 804,aK 210 4 fI),(.o 805,aK 58 5 cJ),(.o 806,aK 58 5 cJ)]) ?_ ?_))
 · refine sq (wa [tP 0 801,tP 2 2,tP 3 3,tP 5 5,tP 6 6,oB 801 137 [.d (.sl (aA l)),.d (.i (q2+1))],oB 2 99 [.d (.i 0),.nil,.nil,.nil,.nil,.nil],oB 3 27 [.d (.i 0),.d (.b false),.d (.s []),.d (.i 0),.nil],oB 5 99 [.d (.i (W2.tm)),.own 802 4,.own 803 3,ps 804 4 (W2.a),ps 805 5 (W2.b),ps 806 5 (W2.c)],oB 6 27 [.d (.i ((W2.ks.getD i .zero)).id),.d (.b ((W2.ks.getD i .zero)).up),.d (.s ((W2.ks.getD i .zero)).log),.d (.i ((W2.ks.getD i .zero)).forced),.own 24 (W2.ks.getD i .zero).halves.length],oR 24 85 6 (aY (W2.ks.getD i .zero).halves),oR 802 27 5 (aG W2.ks),oR 803 4 1 (aM W2.ls),(.o 804,aK 210 4 fI),(.o 805,aK 58 5 cJ),(.o 806,aK 58 5 cJ)] [] [] qz (rT [0,2,3,5,6,26] (s1 (bK (robj:=[(801,.box 137 [.d (.sl (aA (l))),.d (.i (q2+1))])]) (rl:=[(0,801)]) (bor:=[]) (cK (l) (q2+1) _ (by omega) hl) rfl rfl rfl rfl ⟨bU rfl rfl rfl rfl (cI rfl rfl (aV rfl (aD rfl (aD rfl aJ)) trivial)),rfl⟩ rfl (.inl rfl) (aI ⟨rfl,trivial⟩) (fun _ hj=>nomatch hj) ?_))))
   refine bk (sq (rT [0,2,3,5,6,26,27] (ai (by first|trivial|(show _≤9223372036854775807;(try simp only[aW7,aW9,aXa,aXc,aXf]);omega)) (s1 (cd rfl (fun c27=> ?_) fun c27=> ?_)))))
   · have hv:=cC l (p:=q2+1+1) (n:=3) (by omega) (by omega)
     refine rD [2,3,5,6] (s2 (ai (by first|trivial|(show _≤9223372036854775807;(try simp only[aW7,aW9,aXa,aXc,aXf]);omega)) (ai (by decide) (ai (by exact⟨by simp,aW8 rfl⟩) (s1 (bK (robj:=[(801,.box 137 [.d (.sl (aA (l))),.d (.i (q2+1+1))])]) (rl:=[(0,801)]) (bor:=[]) (cK (l) (q2+1+1) _ (by omega) hl) rfl rfl rfl rfl ⟨bU rfl rfl rfl rfl (cI rfl rfl (aV rfl (aD rfl (aD rfl aJ)) trivial)),rfl⟩ rfl (.inl rfl) (aI ⟨rfl,trivial⟩) (fun _ hj=>nomatch hj) (ai ⟨rfl,hv.1,hv.2⟩ (ai (aFw (l:=[-1,4,aXm (wrap64 ((W2.ks.getD i .zero).id+1)) 4]) (by simp;omega) rfl) (s2 (ai (by kernel_rfl) (wq (σ':=[tP 2 2,tP 3 3,tP 5 5,tP 6 6,oB 801 137 [.d (.sl (aA l)),.d (.i ((q2+1+1+1)))],oB 2 99 [.d (.i 0),.nil,.nil,.nil,.nil,.nil],oB 3 27 [.d (.i 0),.d (.b false),.d (.s []),.d (.i 0),.nil],oB 5 99 [.d (.i (W2.tm)),.own 802 4,.own 803 3,ps 804 4 (W2.a),ps 805 5 (W2.b),ps 806 5 (W2.c)],oB 6 27 [.d (.i (({(W2.ks.getD i .zero) with id:=([-1,4,aXm (wrap64 ((W2.ks.getD i .zero).id+1)) 4]:List Int).getD (bO l (q2+1+1) 3).toNat 0}:aH)).id),.d (.b (({(W2.ks.getD i .zero) with id:=([-1,4,aXm (wrap64 ((W2.ks.getD i .zero).id+1)) 4]:List Int).getD (bO l (q2+1+1) 3).toNat 0}:aH)).up),.d (.s (({(W2.ks.getD i .zero) with id:=([-1,4,aXm (wrap64 ((W2.ks.getD i .zero).id+1)) 4]:List Int).getD (bO l (q2+1+1) 3).toNat 0}:aH)).log),.d (.i (({(W2.ks.getD i .zero) with id:=([-1,4,aXm (wrap64 ((W2.ks.getD i .zero).id+1)) 4]:List Int).getD (bO l (q2+1+1) 3).toNat 0}:aH)).forced),.d (.sl (aY (({(W2.ks.getD i .zero) with id:=([-1,4,aXm (wrap64 ((W2.ks.getD i .zero).id+1)) 4]:List Int).getD (bO l (q2+1+1) 3).toNat 0}:aH)).halves))],oR 802 27 5 (aG W2.ks),oR 803 4 1 (aM W2.ls),(.o 804,aK 210 4 fI),(.o 805,aK 58 5 cJ),(.o 806,aK 58 5 cJ)]) [] [24] (⟨({(W2.ks.getD i .zero) with id:=([-1,4,aXm (wrap64 ((W2.ks.getD i .zero).id+1)) 4]:List Int).getD (bO l (q2+1+1) 3).toNat 0}:aH),(q2+1+1+1),⟨KQ.idd hsm.kq _,by omega,by omega⟩,rfl⟩) ?_)))))))))))
     repeat' apply ai
     all_goals first|exact qx|exact aF _|exact congrArg (fun r:List D=>D.i (zy (r.getD 0 (.i 0)))) (gV (l:=[-1,4,aXm (wrap64 ((W2.ks.getD i .zero).id+1)) 4]) (by simp;omega))|exact qz
   refine sq (rT [0,2,3,5,6,26,39] (ai (by first|trivial|(show _≤9223372036854775807;(try simp only[aW7,aW9,aXa,aXc,aXf]);omega)) (s1 (cd rfl (fun c39=> ?_) fun c39=> ?_))))
   · refine rE [2,3,5,6] (s1 (cP (robj:=[(801,.box 137 [.d (.sl (aA l)),.d (.i (q2+1+1))])]) (rl:=[(0,801)]) (bor:=[]) (news:=[]) (uc l (q2+1+1) (by omega) hl) rfl rfl rfl rfl ⟨bU rfl rfl rfl rfl (aV rfl (aD rfl (aD rfl aJ)) trivial),rfl⟩ (by rintro _ ⟨lg,fr,q4,hs4,rfl⟩;exact⟨rfl,.inl rfl,fun j hj=>nomatch hj⟩) (aI ⟨rfl,trivial⟩) (fun j hj=>nomatch hj) ?_))
     rintro _ ⟨lg,fr,q4,hs4,rfl⟩
     refine s2 (wq (σ':=[tP 2 2,tP 3 3,tP 5 5,tP 6 6,oB 801 137 [.d (.sl (aA l)),.d (.i (q4))],oB 2 99 [.d (.i 0),.nil,.nil,.nil,.nil,.nil],oB 3 27 [.d (.i 0),.d (.b false),.d (.s []),.d (.i 0),.nil],oB 5 99 [.d (.i (W2.tm)),.own 802 4,.own 803 3,ps 804 4 (W2.a),ps 805 5 (W2.b),ps 806 5 (W2.c)],oB 6 27 [.d (.i (({(W2.ks.getD i .zero) with log:=lg,forced:=fr}:aH)).id),.d (.b (({(W2.ks.getD i .zero) with log:=lg,forced:=fr}:aH)).up),.d (.s (({(W2.ks.getD i .zero) with log:=lg,forced:=fr}:aH)).log),.d (.i (({(W2.ks.getD i .zero) with log:=lg,forced:=fr}:aH)).forced),.d (.sl (aY (({(W2.ks.getD i .zero) with log:=lg,forced:=fr}:aH)).halves))],oR 802 27 5 (aG W2.ks),oR 803 4 1 (aM W2.ls),(.o 804,aK 210 4 fI),(.o 805,aK 58 5 cJ),(.o 806,aK 58 5 cJ)]) [] [24] (⟨({(W2.ks.getD i .zero) with log:=lg,forced:=fr}:aH),q4,⟨KQ.shelf hsm.kq (by omega) _,by omega,by omega⟩,rfl⟩) ?_)
     repeat' apply ai
     all_goals first|exact qx|exact aF _|rfl|exact qz
   refine sq (rT [0,2,3,5,6,26,44] (ai (by first|trivial|(show _≤9223372036854775807;(try simp only[aW7,aW9,aXa,aXc,aXf]);omega)) (s1 (cd rfl (fun c44=> ?_) fun c44=> ?_))))
   · have hv:=cC l (p:=q2+1+1) (n:=4) (by omega) (by omega)
     refine rD [2,3,5,6] (s8 (ai (by first|trivial|(show _≤9223372036854775807;(try simp only[aW7,aW9,aXa,aXc,aXf]);omega)) (ai (by exact⟨by simp,aW8 rfl⟩) (s1 (bK (robj:=[(801,.box 137 [.d (.sl (aA (l))),.d (.i (q2+1+1))])]) (rl:=[(0,801)]) (bor:=[]) (cK (l) (q2+1+1) _ (by omega) hl) rfl rfl rfl rfl ⟨bU rfl rfl rfl rfl (cI rfl rfl (aV rfl (aD rfl (aD rfl aJ)) trivial)),rfl⟩ rfl (.inl rfl) (aI ⟨rfl,trivial⟩) (fun _ hj=>nomatch hj) (ai ⟨rfl,hv.1,hv.2⟩ (ai (aFw (l:=[-1,0,(((W2.ks.getD i .zero).log.length:Nat):Int),wrap64 ((((W2.ks.getD i .zero).log.length:Nat):Int)+1)]) (by simp;omega) rfl) (s3 (ai (by kernel_rfl) (wq (σ':=[tP 2 2,tP 3 3,tP 5 5,tP 6 6,oB 801 137 [.d (.sl (aA l)),.d (.i ((q2+1+1+1)))],oB 2 99 [.d (.i 0),.nil,.nil,.nil,.nil,.nil],oB 3 27 [.d (.i 0),.d (.b false),.d (.s []),.d (.i 0),.nil],oB 5 99 [.d (.i (W2.tm)),.own 802 4,.own 803 3,ps 804 4 (W2.a),ps 805 5 (W2.b),ps 806 5 (W2.c)],oB 6 27 [.d (.i (({(W2.ks.getD i .zero) with forced:=([-1,0,(((W2.ks.getD i .zero).log.length:Nat):Int),wrap64 ((((W2.ks.getD i .zero).log.length:Nat):Int)+1)]:List Int).getD (bO l (q2+1+1) 4).toNat 0}:aH)).id),.d (.b (({(W2.ks.getD i .zero) with forced:=([-1,0,(((W2.ks.getD i .zero).log.length:Nat):Int),wrap64 ((((W2.ks.getD i .zero).log.length:Nat):Int)+1)]:List Int).getD (bO l (q2+1+1) 4).toNat 0}:aH)).up),.d (.s (({(W2.ks.getD i .zero) with forced:=([-1,0,(((W2.ks.getD i .zero).log.length:Nat):Int),wrap64 ((((W2.ks.getD i .zero).log.length:Nat):Int)+1)]:List Int).getD (bO l (q2+1+1) 4).toNat 0}:aH)).log),.d (.i (({(W2.ks.getD i .zero) with forced:=([-1,0,(((W2.ks.getD i .zero).log.length:Nat):Int),wrap64 ((((W2.ks.getD i .zero).log.length:Nat):Int)+1)]:List Int).getD (bO l (q2+1+1) 4).toNat 0}:aH)).forced),.d (.sl (aY (({(W2.ks.getD i .zero) with forced:=([-1,0,(((W2.ks.getD i .zero).log.length:Nat):Int),wrap64 ((((W2.ks.getD i .zero).log.length:Nat):Int)+1)]:List Int).getD (bO l (q2+1+1) 4).toNat 0}:aH)).halves))],oR 802 27 5 (aG W2.ks),oR 803 4 1 (aM W2.ls),(.o 804,aK 210 4 fI),(.o 805,aK 58 5 cJ),(.o 806,aK 58 5 cJ)]) [] [24] (⟨({(W2.ks.getD i .zero) with forced:=([-1,0,(((W2.ks.getD i .zero).log.length:Nat):Int),wrap64 ((((W2.ks.getD i .zero).log.length:Nat):Int)+1)]:List Int).getD (bO l (q2+1+1) 4).toNat 0}:aH),(q2+1+1+1),⟨KQ.frc hsm.kq _,by omega,by omega⟩,rfl⟩) ?_))))))))))
     repeat' apply ai
     all_goals first|exact qx|exact aF _|exact congrArg (fun r:List D=>D.i (zy (r.getD 0 (.i 0)))) (gV (l:=[-1,0,(((W2.ks.getD i .zero).log.length:Nat):Int),wrap64 ((((W2.ks.getD i .zero).log.length:Nat):Int)+1)]) (by simp;omega))|exact qz
   refine sq (rT [0,2,3,5,6,26,62] (ai (by first|trivial|(show _≤9223372036854775807;(try simp only[aW7,aW9,aXa,aXc,aXf]);omega)) (s1 (cd rfl (fun c62=> ?_) fun c62=> ?_))))
   · refine rX [2,3,5,6] (sx cV rfl (by first|trivial|rfl) (sx cV rfl vc (sx cV rfl vc (bK (robj:=[(801,.box 137 [.d (.sl (aA (l))),.d (.i (q2+1+1))])]) (rl:=[(0,801)]) (bor:=[]) (cK (l) (q2+1+1) _ (by omega) hl) rfl rfl rfl rfl ⟨bU rfl rfl rfl rfl (cI rfl rfl (aV rfl (aD rfl (aD rfl aJ)) trivial)),rfl⟩ rfl (.inl rfl) (aI ⟨rfl,trivial⟩) (fun _ hj=>nomatch hj) (sx cV rfl vc (bK (robj:=[(801,.box 137 [.d (.sl (aA (l))),.d (.i (q2+1+1+1))])]) (rl:=[(0,801)]) (bor:=[]) (cK (l) (q2+1+1+1) _ (by omega) hl) rfl rfl rfl rfl ⟨bU rfl rfl rfl rfl (cI rfl rfl (aV rfl (aD rfl (aD rfl aJ)) trivial)),rfl⟩ rfl (.inl rfl) (aI ⟨rfl,trivial⟩) (fun _ hj=>nomatch hj) (sx cV rfl vc (sx cV rfl vc (bK (robj:=[(801,.box 137 [.d (.sl (aA (l))),.d (.i (q2+1+1+1+1))])]) (rl:=[(0,801)]) (bor:=[]) (cK (l) (q2+1+1+1+1) _ (by omega) hl) rfl rfl rfl rfl ⟨bU rfl rfl rfl rfl (cI rfl rfl (aV rfl (aD rfl (aD rfl aJ)) trivial)),rfl⟩ rfl (.inl rfl) (aI ⟨rfl,trivial⟩) (fun _ hj=>nomatch hj) ?_)))))))))
     refine sx cV rfl vc (bK (robj:=[(801,.box 137 [.d (.sl (aA (l))),.d (.i (q2+1+1+1+1+1))])]) (rl:=[(0,801)]) (bor:=[]) (cK (l) (q2+1+1+1+1+1) _ (by omega) hl) rfl rfl rfl rfl ⟨bU rfl rfl rfl rfl (cI rfl rfl (aV rfl (aD rfl (aD rfl aJ)) trivial)),rfl⟩ rfl (.inl rfl) (aI ⟨rfl,trivial⟩) (fun _ hj=>nomatch hj) (sx cV rfl vc (bK (robj:=[(801,.box 137 [.d (.sl (aA (l))),.d (.i (q2+1+1+1+1+1+1))])]) (rl:=[(0,801)]) (bor:=[]) (cK (l) (q2+1+1+1+1+1+1) _ (by omega) hl) rfl rfl rfl rfl ⟨bU rfl rfl rfl rfl (cI rfl rfl (aV rfl (aD rfl (aD rfl aJ)) trivial)),rfl⟩ rfl (.inl rfl) (aI ⟨rfl,trivial⟩) (fun _ hj=>nomatch hj) (sx cV rfl vc (aSa cV rfl rfl ⟨by simp,aW8 rfl⟩ rfl (sx cV rfl vc (sx cV rfl (by exact⟨by simp,aW8 rfl⟩) ?_)))))))
     refine sx cV rfl (by exact⟨rfl,aF _,by intro r hr;rw[aXo.1 hr];rfl,by show(_+1)*64≤_;omega⟩) (sx cV rfl (by first|trivial|rfl) (sx cV rfl ⟨by kernel_rfl,aW8 (by kernel_rfl)⟩ (⟨by kernel_rfl,?_⟩)))
     refine wq [] [24] (⟨({(W2.ks.getD i .zero) with halves:=(W2.ks.getD i .zero).halves++[(⟨bO l (q2+1+1) 5,wrap64 (1+bO l (q2+1+1+1) 3),bO l (q2+1+1+1+1) 4,9,bO l (q2+1+1+1+1+1) 26,[⟨bO l (q2+1+1+1+1+1+1) 9,[97,98,99,100]⟩]⟩:dR)]}:aH),(q2+1+1+1+1+1+1+1),⟨KQ.half hsm (by show(1:Nat)≤100;omega),by omega,by omega⟩,rfl⟩) ?_
     repeat' apply ai
     all_goals first|exact qx|exact congrArg D.sl (pC _ _).symm|(simp[aF];done)|rfl|exact qz
   refine sq (rT [0,2,3,5,6,26,83] (ai (by first|trivial|(show _≤9223372036854775807;(try simp only[aW7,aW9,aXa,aXc,aXf]);omega)) (s1 (cd rfl (fun c83=> ?_) fun c83=> ?_))))
   · refine rT [2,3,5,6] (s5 (wq (σ':=[tP 2 2,tP 3 3,tP 5 5,tP 6 6,oB 801 137 [.d (.sl (aA l)),.d (.i ((q2+1+1)))],oB 2 99 [.d (.i 0),.nil,.nil,.nil,.nil,.nil],oB 3 27 [.d (.i 0),.d (.b false),.d (.s []),.d (.i 0),.nil],oB 5 99 [.d (.i (W2.tm)),.own 802 4,.own 803 3,ps 804 4 (W2.a),ps 805 5 (W2.b),ps 806 5 (W2.c)],oB 6 27 [.d (.i (({(W2.ks.getD i .zero) with up:= !(W2.ks.getD i .zero).up}:aH)).id),.d (.b (({(W2.ks.getD i .zero) with up:= !(W2.ks.getD i .zero).up}:aH)).up),.d (.s (({(W2.ks.getD i .zero) with up:= !(W2.ks.getD i .zero).up}:aH)).log),.d (.i (({(W2.ks.getD i .zero) with up:= !(W2.ks.getD i .zero).up}:aH)).forced),.d (.sl (aY (({(W2.ks.getD i .zero) with up:= !(W2.ks.getD i .zero).up}:aH)).halves))],oR 802 27 5 (aG W2.ks),oR 803 4 1 (aM W2.ls),(.o 804,aK 210 4 fI),(.o 805,aK 58 5 cJ),(.o 806,aK 58 5 cJ)]) [] [24] (⟨({(W2.ks.getD i .zero) with up:= !(W2.ks.getD i .zero).up}:aH),(q2+1+1),⟨KQ.upp hsm.kq _,by omega,by omega⟩,rfl⟩) ?_))
     repeat' apply ai
     all_goals first|exact qx|exact aF _|rfl|exact qz
   refine sq (rT [0,2,3,5,6,89] (ai (by first|trivial|(show _≤9223372036854775807;(try simp only[aW7,aW9,aXa,aXc,aXf]);omega)) (s1 (cd rfl (fun c89=> ?_) fun c89=> ?_))))
   · refine SW.regDE cV mo [2,3,5,6] 4 (fun _=>none) rfl rfl (by kernel_rfl) ?_
     refine s4 (ek (robj:=[(801,.box 137 [.d (.sl (aA l)),.d (.i (q2+1+1))])]) (rl:=[(0,801)]) (bor:=[]) (news:=[]) (gt l (q2+1+1) (by omega) hl) rfl rfl rfl rfl ⟨bU rfl rfl rfl rfl (aV rfl (aD rfl (aD rfl aJ)) trivial),rfl⟩ (by rintro _ ⟨x,q4,hx,rfl⟩;exact⟨rfl,.inl rfl,fun j hj=>nomatch hj⟩) (aI ⟨rfl,trivial⟩) (fun j hj=>nomatch hj) ⟨_,[],q2+1+1,⟨by omega,by omega,by simp⟩,rfl⟩ ?_)
     rintro _ ⟨x,q4,hx,rfl⟩
     have hst:=nZ (rec:=x) (by omega)
     refine xp (pE x (by omega)) (ai rfl ?_)
     refine s1 (ai (by first|trivial|(show _≤9223372036854775807;(try simp only[aW7,aW9,aXa,aXc,aXf]);omega)) (s7 (ai (by kernel_rfl) (wq [] [24] (⟨({(W2.ks.getD i .zero) with log:=(W2.ks.getD i .zero).log++cU x}:aH),q4,⟨KQ.lgg hsm.kq (by have:=hsm.1;rw[aW7];omega),by omega,by omega⟩,rfl⟩) ?_))))
     repeat' apply ai
     all_goals first|exact qx|exact aF _|rfl|exact qz
   refine sk (wq [] [24] (⟨(W2.ks.getD i .zero),(q2+1+1),⟨hsm.kq,by omega,by omega⟩,rfl⟩) ?_)
   repeat' apply ai
   all_goals first|exact qx|exact aF _|rfl|exact qz
 rintro s ⟨k1,q3,⟨hk1,hq3⟩,rfl⟩
 exact sq (rD [2,3] (s4 (ai (by kernel_rfl) (rt (cW [tV 0 (.tup [.agg [.d (.i (W2.tm)),.own 802 4,.own 803 3,ps 804 4 (W2.a),ps 805 5 (W2.b),ps 806 5 (W2.c)],.agg [.d (.i (k1).id),.d (.b (k1).up),.d (.s (k1).log),.d (.i (k1).forced),.d (.sl (aY (k1).halves))]]),oB 801 137 [.d (.sl (aA l)),.d (.i (q3))],oR 802 27 5 (aG W2.ks),oR 803 4 1 (aM W2.ls),(.o 804,aK 210 4 fI),(.o 805,aK 58 5 cJ),(.o 806,aK 58 5 cJ)] ⟨W2,k1,q3,⟨hW,hk1,by omega,by omega⟩,rfl⟩ (rq [] [] rfl qz))))))
set_option maxHeartbeats 1600000 in
theorem tK (l:List UInt8) (hl:l.length≤140737488355328):ui 41 1 [tD 0 (.sl (aA l))] (fun s=> ∃(k:aH) (n1:bA),(KQ k∧ND n1)∧s=[tV 0 (.tup [.agg [.d (.i (k).id),.d (.b (k).up),.d (.s (k).log),.d (.i (k).forced),.d (.sl (aY (k).halves))],.c (.d (.i n1.to)),.c (.d (.i n1.til)),.c (.d (.s n1.text))])]):=by
 have hl2: (l.take 2000).length≤2000:=by simp;omega
 refine yv Tryz.func41 rfl (sq (rT [0,2] (s4 (sq (rT [2,6] (s1 (kv [(0,801)] (gr l hl) rfl rfl rfl rfl rfl rfl rfl (fun j hj=>by(obtain rfl:j=0:=by simpa[kN,cD,iO] using hj);rfl) (s1 (sq (rE [2,6,8] (s1 (cP (robj:=[(801,.box 137 [.d (.sl (aA (l.take 2000))),.d (.i (0))])]) (rl:=[]) (bor:=[]) (news:=[802,803,804,805,806]) (yP (l.take 2000) (0) (by omega) hl2) rfl rfl rfl rfl ⟨bU rfl rfl rfl rfl (aV rfl (aD rfl (aD rfl aJ)) trivial),rfl⟩ (by rintro _ ⟨W2,k,q2,hw2,rfl⟩;exact⟨rfl,.inl rfl,fun j hj=>hj⟩) (aI ⟨rfl,trivial⟩) (fun j hj=>by simp at hj;rcases hj with rfl|rfl|rfl|rfl|rfl<;>rfl) ?_))))))))))))
 rintro _ ⟨W2,k,q2,hw2,rfl⟩
 have hkq:=hw2.2.1
 have hkl:=hkq.1
 refine s7 (sq (rE [2,8,9] (s1 (cP (robj:=[(801,.box 137 [.d (.sl (aA (l.take 2000))),.d (.i (q2))])]) (rl:=[(0,801)]) (bor:=[]) (news:=[]) (dy (l.take 2000) (q2) (by omega) hl2) rfl rfl rfl rfl ⟨bU rfl rfl rfl rfl (aV rfl (aD rfl (aD rfl aJ)) trivial),rfl⟩ (by rintro _ ⟨n1,q6,hn1,hq6,rfl⟩;exact⟨rfl,.inl rfl,fun j hj=>nomatch hj⟩) (aI ⟨rfl,trivial⟩) (fun j hj=>nomatch hj) ?_))))
 rintro _ ⟨n1,q6,hn1,hq6,rfl⟩
 exact s2 (sq (rD [2,3,4,5] (s9 (s2 (ai (by kernel_rfl) (rt (cW [tV 0 (.tup [.agg [.d (.i (k).id),.d (.b (k).up),.d (.s (k).log),.d (.i (k).forced),.d (.sl (aY (k).halves))],.c (.d (.i n1.to)),.c (.d (.i n1.til)),.c (.d (.s n1.text))])] ⟨k,n1,⟨hkq,hn1⟩,rfl⟩ (rq [] [] rfl qz))))))))
end Go.Proofs.YthbgjfegalcenaaGreatDoor
namespace Go.Ab
open Int renaming toNat_natCast→aW6,tmod→aXm
open List renaming length_append→aW7,length_cons→aW9,length_nil→aXa,length_take→aXc,getD_eq_getElem?_getD→aXe,length_drop→aXf,getElem?_eq_getElem→aXg,getElem?_eq_some_iff→aXh,range→aXj,mem_map→aXk,all_eq_true→aXl,take_length→aXn,mem_singleton→aXo,mem_iff_getElem?→aXq,mem_cons→aXr
open Nat renaming le_of_ble_eq_true→aW8,zero_le→aXd,le_refl→aXi,add_mul→aXp
open Bool renaming and_eq_true→aXb
structure KG (k:aH):Prop where
 log:k.log.length≤140737488355328
 hal:k.halves.length≤100000∧ ∀x∈k.halves,x.got.length≤100000
theorem KG.of {k x:aH} (h:KG k) (hl:x.log.length≤140737488355328) (hh:x.halves=k.halves∨x.halves=[]):KG x:=by
 refine⟨hl,?_⟩
 rcases hh with e|e
 · rw[e];exact h.hal
 · rw[e];exact⟨aXd _,fun _ hx=>nomatch hx⟩
theorem KQ.kg {k:aH} (h:KQ k):KG k:=⟨h.log,by have:=h.2.1;omega,fun x hx=>by have:=h.2.2 x hx;omega⟩
theorem ju.kg {k:aH} (h:ju k):KG k:=h.kq.kg
theorem KG.start (n:Int):KG (gQ n):=(wQ n).kg
theorem KG.fall {k:aH} (h:KG k) (keep:Int):KG (dM k keep):=h.of (zu h.log) (by unfold dM;split<;>exact .inr rfl)
theorem KG.rise {k:aH} (h:KG k):KG (dP k):=h.of (aHd h.log) (by unfold dP;split;exact .inl rfl;exact .inr rfl)
theorem aJ1 {k:aH} (h:k.log.length≤140737488355328): (jN k).log.length≤140737488355328:=Nat.le_trans (tZ _ _) h
theorem qA {k:aH} {rec:List UInt8} (h:k.log.length≤140737488355328): (cY k rec).1.log.length≤140737488355328∧(cY k rec).1.halves=k.halves:=by
 obtain⟨h1,h2⟩:=yf (rec:=rec) h
 unfold cY
 split
 · exact⟨aJ1 h1,h2⟩
 · exact⟨h,rfl⟩
theorem KG.time {k:aH} (h:KG k):KG (dY k).1:=by
 refine h.of ?_ ?_
 · unfold dY
   split
   · split
     · exact(qA h.log).1
     · exact h.log
   · exact aXd _
 · unfold dY
   split
   · split
     · exact .inl (qA h.log).2
     · exact .inl rfl
   · exact .inr rfl
theorem KG.own {k:aH} (h:KG k) (tu til:Int) (tx:List UInt8):KG (bD k tu til tx).1:=by
 refine h.of ?_ ?_
 · unfold bD
   split
   · split
     · split
       · exact(qA h.log).1
       · exact h.log
     · exact h.log
   · exact aXd _
 · unfold bD
   split
   · split
     · split
       · exact .inl (qA h.log).2
       · exact .inl rfl
     · exact .inl rfl
   · exact .inr rfl
theorem KG.eat {k:aH} (h:KG k) (f n:Int):KG (aX k f n).1:=by
 refine h.of ?_ ?_
 · unfold aX
   split
   · split
     · split
       · exact(qA h.log).1
       · exact h.log
     · exact h.log
   · exact aXd _
 · unfold aX
   split
   · split
     · split
       · exact .inl (qA h.log).2
       · exact .inl rfl
     · exact .inl rfl
   · exact .inr rfl
theorem jp (k:aH):KB (bR k):=by
 unfold bR
 split
 · rename_i h;exact nB h
 · exact KB.zero
theorem aVg {k:aH} {tu til:Int} {tx:List UInt8} (h: (bD k tu til tx).2≠0):aR k=true:=by
 unfold bD at h
 split at h
 · assumption
 · exact absurd rfl h
theorem aSb {k:aH} {tu til:Int} {tx:List UInt8} (h:aR k=false):bD k tu til tx=(.zero,0):=by
 unfold bD
 rw[if_neg (by rw[h];decide)]
theorem aVh {k:aH} {f n:Int} (h: (aX k f n).2.2=true):aR k=true:=by
 unfold aX at h
 split at h
 · assumption
 · cases h
end Go.Ab
