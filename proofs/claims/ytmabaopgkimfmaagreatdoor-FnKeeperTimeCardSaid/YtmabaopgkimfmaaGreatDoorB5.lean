/- Plain functions, and contracts of the functions that the law reaches. -/
import Derived.Test.YtmabaopgkimfmaaGreatDoorB4
set_option maxHeartbeats 12800000
namespace Go.Ab
open Int renaming toNat_natCast→aXy
open List renaming length_append→aXz,length_cons→aX1,length_nil→aX2,length_take→aX4,getD_eq_getElem?_getD→aX6,length_drop→aX7,getElem?_eq_getElem→aX9,getElem?_eq_some_iff→aYa,range→aYb,mem_map→aYc,all_eq_true→aYd,take_length→aYe
open Nat renaming le_of_ble_eq_true→aX0,zero_le→aX5,le_refl→aX8
open Bool renaming and_eq_true→aX3
open Go Go.RowKit
set_option linter.unusedVariables false
theorem aJ4 {P:Program} {ops:Array Oper} {o:Oper} {σ:St} {R:List (dK×Option K)} {W:List (dK×K)} {j s:Nat} {want:Bool} (hg:o.guard=some (j,want)) (hs: (ops[j]?).bind (·.dst)=some s) (hl:gOf want (aV σ (.t s))=some true) (h:vW P o R W):
 ItT P ops o ((.t s,aV σ (.t s))::R,W):=by
 intro cx σ1 ι S a w hr hw hb next Q hn
 have hls:aV σ1 (.t s)=aV σ (.t s):=hr (.t s,aV σ (.t s)) (List.mem_cons_self ..)
 rw[ic hw hg hs (by rw[hls];exact hl),aC rfl]
 exact .inl (h cx σ1 ι S a w (fun p hp=>hr p (List.mem_cons_of_mem _ hp)) hw hb next Q hn)
def aJ5 (P:Program) (ops:List Oper):List Oper→St→List bz→(St→List bz→Prop)→Prop
 | [],σ,acc,k=>k σ acc
 |o::os,σ,acc,k=>match o.guard with
  |none=> ∃R W,vW P o R W∧bV R σ∧nC σ W fun σ'=>aJ5 P ops os σ' (acc++[pD (R,W)]) k
  |some (j,want)=>match(ops[j]?).bind (·.dst),o.dst with
   |some s,some d=>match gOf want (aV σ (.t s)) with
    |some g=>(g=true→ ∃R W,vW P o R W∧bV R σ∧nC σ W fun σ'=>aJ5 P ops os σ' (acc++[pD ((.t s,aV σ (.t s))::R,W)]) k)∧
     (g=false→ ∃X,oh σ (.t d) (.cv s want false X) fun σ'=>aJ5 P ops os σ' (acc++[pD ([(.t s,aV σ (.t s))],[(.t d,.cv s want false X)])]) k)
    |none=>False
   |_,_=>False
theorem az {P:Program} {ops:Array Oper} {k:St→List bz→Prop}: ∀(l:List Oper) (σ:St) (acc:List bz),aJ5 P ops.toList l σ acc k→ ∃ts:List mN,xX P ops l ts∧kG ts σ∧k (eY ts σ) (acc++ts.map pD)
 | [],σ,acc,h=>⟨[],trivial,trivial,by simpa[aJ5,eY] using h⟩
 |o::os,σ,acc,h=>by
  simp only[aJ5] at h
  split at h
  · rename_i hg
    obtain⟨R,W,h1,h2,h3⟩:=h
    rw[jW] at h3
    obtain⟨ts,q1,q2,q4⟩:=az os _ _ h3
    exact⟨(R,W)::ts,⟨xW hg h1,q1⟩,⟨h2,q2⟩,by simpa[eY] using q4⟩
  · rename_i j want hg
    split at h<;>try(exact h.elim)
    rename_i s d hs hd
    split at h<;>try(exact h.elim)
    rename_i g hl
    have hs': (ops[j]?).bind (·.dst)=some s:=by simpa using hs
    cases g with
    |true=>
     obtain⟨R,W,h1,h2,h3⟩:=h.1 rfl
     rw[jW] at h3
     obtain⟨ts,q1,q2,q4⟩:=az os _ _ h3
     refine⟨((.t s,aV σ (.t s))::R,W)::ts,⟨aJ4 hg hs' hl h1,q1⟩,⟨?_,q2⟩,by simpa[eY] using q4⟩
     intro p hp
     rcases List.mem_cons.1 hp with rfl|hp
     · rfl
     · exact h2 p hp
    |false=>
     obtain⟨X,h3⟩:=h.2 rfl
     rw[nW] at h3
     obtain⟨ts,q1,q2,q4⟩:=az os _ _ h3
     have hi:=ui (P:=P) (o:=o) (R:=[]) (X:=X) hg hs' hd hl (by simp) (by simp)
     refine⟨([(.t s,aV σ (.t s))],[(.t d,.cv s want false X)])::ts,⟨hi,q1⟩,⟨?_,by simpa[iP] using q2⟩,by simpa[eY,iP] using q4⟩
     intro p hp
     rw[List.mem_singleton.1 hp]
theorem SW.regXF {P:Program} {io:List Nat} {Q:Ex→St→Prop} {σ:St} (hm:P.follows .mixedOrders=true) (ks:List Nat) {id:Nat} {ops:Array Oper} (h:aJ5 P ops.toList ops.toList σ [] fun σ' ns=>zD ops.toList ns=true∧qT ks σ' (Q .norm)):SW P io (.region id ops true) Q σ:=by
 intro cx ι S a w hio hw hf
 have hfit: ∀o∈ops.toList,∀d,o.dst=some d→d<cx.N:=fun o ho=>wY (by simpa[tJ] using hf) ho
 obtain⟨ts,h1,h2,h4,h5⟩:=az (ops:=ops) ops.toList σ [] h
 rw[List.nil_append] at h4
 rw[lY] at h5
 obtain⟨q1,q2⟩:=yC _ _ h1
 refine wp_region_any hm (xY (cx:=cx) (σ:=σ) (ts:=ts) (by simpa using q1) (fun i o t ho ht=>q2 i o t (by simpa using ho) ht) h2 (by have:=wD h4;simpa[pL,vC] using this) hfit (fun ι' S' a' w' hw'=>⟨_,ι',S',h5,hw'.keep ks⟩)
  ops.size (Array.replicate ops.size false) σ ι S a _ (by simp) (fun l=> ?_) hw.drew (fun k o ho hk=> ?_) ?_)
 · have hL: ∀i,(Array.replicate ops.size false).getD i false=false:=fun i=>by
    rw[Array.getD_eq_getD_getElem?,Array.getElem?_replicate];split<;>rfl
   have: ∀n,part ts (fun i=>(Array.replicate ops.size false).getD i false) σ l n=aV σ l:=by
    intro n
    induction n with
    |zero=>rfl
    |succ n ih=>rw[lX,aB (by rw[hL];simp),ih]
   rw[this]
 · rw[Array.getD_eq_getD_getElem?,Array.getElem?_replicate] at hk;split at hk<;>cases hk
 · exact Nat.le_trans (List.length_filter_le _ _) (by simp)
theorem aUi: ∀{rs:List (List UInt8)} {k:bH},OZ k→OZ (gN k rs).1
 | [],k,h=>h
 |r::rs,k,h=>by
  unfold gN
  split
  · exact aUi (aXw k r)
  · exact .inr rfl
theorem aXx (id:Int) (rs:List (List UInt8)):OZ (eI id rs).1:=by
 unfold eI
 split
 · exact aUi (aPv _)
 · exact .inr rfl
theorem aSu {k:bH} (h:OZ k):0≤k.time∧k.time≤999:=by
 rcases h with h|rfl
 · exact(jJ.1 h).1.2.1
 · exact⟨Int.le_refl _,by decide⟩
theorem aJ6 (k:aK):0≤(bA k).1.time∧(bA k).1.time≤999:=aSu (aXx _ _)
end Go.Ab
namespace Go.Proofs.YtmabaopgkimfmaaGreatDoor
open Int renaming toNat_natCast→aXy
open List renaming length_append→aXz,length_cons→aX1,length_nil→aX2,length_take→aX4,getD_eq_getElem?_getD→aX6,length_drop→aX7,getElem?_eq_getElem→aX9,getElem?_eq_some_iff→aYa,range→aYb,mem_map→aYc,all_eq_true→aYd,take_length→aYe
open Nat renaming le_of_ble_eq_true→aX0,zero_le→aX5,le_refl→aX8
open Bool renaming and_eq_true→aX3
open Go Go.Ab Go.RowKit
set_option linter.unusedVariables false
set_option linter.unusedSimpArgs false
set_option maxRecDepth 9000
theorem aAd (l:List UInt8) (p:Int) (hp:0≤p∧p≤500000) (hl:l.length≤2000):tn 117 1 [tP 0 801,oB 801 177 [.d (.sl (aE l)),.d (.i (p))]] (fun s=> ∃(k:aK) (q:Int),(KQ k∧p≤q∧q≤p+19000)∧s=[(.t 0,.v k.V),oB 801 177 [.d (.sl (aE l)),.d (.i (q))]]):=by
 refine ul Tryz.func117 rfl (sq (rT [0,2] (s1 (sq (rE [0,2,4] (s1 (dB (robj:=[(801,.box 177 [.d (.sl (aE l)),.d (.i (p))])]) (rl:=[]) (bor:=[]) (news:=[802,803,804,805,806]) (sP l (p) (by omega) hl) rfl rfl rfl rfl ⟨bY rfl rfl rfl rfl (bB rfl (aG rfl (aG rfl aN)) trivial),rfl⟩ (by rintro _ ⟨W2,k,q2,hw2,rfl⟩;exact⟨rfl,.inl rfl,fun j hj=>hj⟩) (aM ⟨rfl,trivial⟩) (fun j hj=>by simp at hj;rcases hj with rfl|rfl|rfl|rfl|rfl<;>rfl) ?_)))))))
 rintro _ ⟨W2,k,q2,hw2,rfl⟩
 have hkq:=hw2.2.1
 have hkl:=hkq.1
 refine s7 (sq (sq (rT [0,2,4,5] (s1 (bk (SW.loopW (n:=400) (fun x s=> ∃(i:Nat) (k:aK) (q:Int),x=400 - i∧(i≤400∧KQ k∧q2≤q∧q≤q2+i)∧s=[tP 0 801,tP 2 2,tP 4 4,tI 5 (i:Nat),oB 801 177 [.d (.sl (aE l)),.d (.i (q))],oB 2 31 [.d (.i 0),.d (.b false),.d (.s []),.d (.i 0),.nil],oB 4 31 [.d (.i (k).id),.d (.b (k).up),.d (.s (k).log),.d (.i (k).forced),.d (.sl (aZ (k).halves))]]) ?_ ?_))))))
 · refine wq [] [] ⟨0,k,q2,rfl,⟨by omega,hkq,by omega,by omega⟩,rfl⟩ ?_
   repeat' apply ai
   all_goals try exact qx
   all_goals try rfl
 rintro n s ⟨i,k,q,rfl,⟨hi4,hkq,hq⟩,rfl⟩
 have hkl:=hkq.1
 refine sq (sq (rT [0,2,4,5,14] (s1 (ai (by first|trivial|(show _≤9223372036854775807;(try simp only[aXz,aX1,aX2,aX4,aX7]);omega)) (cd rfl (fun c14=> ?_) fun c14=> ?_)))))
 · have hi5:i<400:=by simp at c14;omega
   refine sk (sq (bk (sq (rT [0,2,4,5,6,7] (s1 (xp (gW k (by omega)) (ai rfl ?_)))))))
   refine s6 (sq (SW.midW (fun s=> ∃(cb:Bool) (q4:Int),(q≤q4∧q4≤q+1)∧s=[tP 0 801,tP 2 2,tP 4 4,tI 5 (i:Nat),tP 6 6,tB 38 cb,oB 801 177 [.d (.sl (aE l)),.d (.i (q4))],oB 2 31 [.d (.i 0),.d (.b false),.d (.s []),.d (.i 0),.nil],oB 4 31 [.d (.i (k).id),.d (.b (k).up),.d (.s (k).log),.d (.i (k).forced),.d (.sl (aZ (k).halves))],oB 6 44 [.d (.i ((bA k).1).id),.d (.i ((bA k).1).time),.d (.i ((bA k).1).next),.d (.sl (aI ((bA k).1).held)),.d (.sl (aS ((bA k).1).marks)),.d (.sl (aI ((bA k).1).inbox))]]) ?_ ?_))
   · refine SW.regXF mo [0,2,4,5,6,38] (sx cK rfl vc (sx cK rfl vc (sx cK rfl vc (ai (fun h1=> ?_) (fun h1=> ?_)))))
     · refine sx cK rfl (by first|trivial|rfl) (ai (fun _=> ?_) (fun h=>absurd h (by rw[h1];simp)))
       refine sx cK rfl (by first|trivial|rfl) (ai (fun _=> ?_) (fun h=>absurd h (by rw[h1];simp)))
       refine sx cK rfl vc (ai (fun _=> ?_) (fun h=>absurd h (by rw[h1];simp)))
       refine sx cK rfl vc (ai (fun _=> ?_) (fun h=>absurd h (by rw[h1];simp)))
       refine sx cK rfl vc (ai (fun _=> ?_) (fun h=>absurd h (by rw[h1];simp)))
       refine bP (robj:=[(801,.box 177 [.d (.sl (aE (l))),.d (.i (q))])]) (rl:=[(0,801)]) (bor:=[]) (cR (l) (q) _ (by omega) hl) rfl rfl rfl rfl ⟨bY rfl rfl rfl rfl (cQ rfl rfl (bB rfl (aG rfl (aG rfl aN)) trivial)),rfl⟩ rfl (.inl rfl) (aM ⟨rfl,trivial⟩) (fun _ hj=>nomatch hj) (ai (fun _=> ?_) (fun h=>absurd h (by rw[h1];simp)))
       refine sx cK rfl vc (ai (fun _=> ?_) (fun h=>absurd h (by rw[h1];simp)))
       refine sx cK rfl vc (sx cK rfl pk (sx cK rfl vc (ai (fun h2=> ?_) (fun h2=> ?_))))
       · refine sx cK rfl (by first|trivial|rfl) (ai (fun _=> ?_) (fun h=>absurd h (by rw[h2];simp)))
         refine sx cK rfl vc (ai (fun _=> ?_) (fun h=>absurd h (by rw[h2];simp)))
         refine sx cK rfl vc (sx cK rfl pk (⟨by kernel_rfl,?_⟩))
         refine wq [] [] ⟨?cb1,(q+1),⟨by omega,by omega⟩,rfl⟩ ?_
         repeat' apply ai
         all_goals try exact qx
         all_goals try rfl
       refine⟨I 0,?_⟩
       refine ai (fun h=>absurd h (by rw[h2];simp)) (fun _=>⟨I 0,?_⟩)
       refine ai (fun h=>absurd h (by rw[h2];simp)) (fun _=>⟨B false,?_⟩)
       refine sx cK rfl (by constructor<;>intro h<;>first|trivial|exact h|(simp[gb,nY];done)|(simp[gb,h] at h2;done)|(simp_all[gb,nY];done)) (⟨by kernel_rfl,?_⟩)
       refine wq [] [] ⟨?cb2,(q+1),⟨by omega,by omega⟩,rfl⟩ ?_
       repeat' apply ai
       all_goals try exact qx
       all_goals try rfl
     refine⟨I 0,?_⟩
     refine ai (fun h=>absurd h (by rw[h1];simp)) (fun _=>⟨I 0,?_⟩)
     refine ai (fun h=>absurd h (by rw[h1];simp)) (fun _=>⟨I 0,?_⟩)
     refine ai (fun h=>absurd h (by rw[h1];simp)) (fun _=>⟨I 0,?_⟩)
     refine ai (fun h=>absurd h (by rw[h1];simp)) (fun _=>⟨I 0,?_⟩)
     refine ai (fun h=>absurd h (by rw[h1];simp)) (fun _=>⟨I 0,?_⟩)
     refine ai (fun h=>absurd h (by rw[h1];simp)) (fun _=>⟨I 0,?_⟩)
     refine ai (fun h=>absurd h (by rw[h1];simp)) (fun _=>⟨B false,?_⟩)
     refine sx cK rfl (by constructor<;>intro h<;>first|trivial|exact h|(simp[gb,nY];done)|(simp[gb,h] at h1;done)|(simp_all[gb,nY];done)) (sx cK rfl vc (ai (fun h2=> ?_) (fun h2=> ?_)))
     · refine sx cK rfl (by first|trivial|rfl) (ai (fun _=> ?_) (fun h=>absurd h (by rw[h2];simp)))
       refine sx cK rfl vc (ai (fun _=> ?_) (fun h=>absurd h (by rw[h2];simp)))
       refine sx cK rfl vc (sx cK rfl pk (⟨by kernel_rfl,?_⟩))
       refine wq [] [] ⟨?cb3,q,⟨by omega,by omega⟩,rfl⟩ ?_
       repeat' apply ai
       all_goals try exact qx
       all_goals try rfl
     refine⟨I 0,?_⟩
     refine ai (fun h=>absurd h (by rw[h2];simp)) (fun _=>⟨I 0,?_⟩)
     refine ai (fun h=>absurd h (by rw[h2];simp)) (fun _=>⟨B false,?_⟩)
     refine sx cK rfl (by constructor<;>intro h<;>first|trivial|exact h|(simp[gb,nY];done)|(simp[gb,h] at h2;done)|(simp_all[gb,nY];done)) (⟨by kernel_rfl,?_⟩)
     refine wq [] [] ⟨?cb4,q,⟨by omega,by omega⟩,rfl⟩ ?_
     repeat' apply ai
     all_goals try exact qx
     all_goals try rfl
   rintro s ⟨cb,q4,hq4,rfl⟩
   refine cd rfl (fun c38=> ?_) fun c38=> ?_
   · refine xt (sq (rT [2] (s2 (rt ?_))))
     first|refine cX [(.t 0,.v k.V),oB 801 177 [.d (.sl (aE l)),.d (.i (q4))]] ⟨k,q4,⟨hkq,by omega,by omega⟩,rfl⟩ ?_|refine cX [(.t 0,.v k.V),oB 801 177 [.d (.sl (aE l)),.d (.i (q))]] ⟨k,q,⟨hkq,by omega,by omega⟩,rfl⟩ ?_
     exact rq [] [] rfl qz
   refine sk (sq ?_)
   have htm:=aJ6 k
   have hrg: -1≤(wrap64 ((bA k).1.time+1))∧(wrap64 ((bA k).1.time+1))≤9999:=by rw[aF (by omega)];omega
   have qd:=mD hrg
   refine rD [0,2,4,5] (s4 (ai (by first|trivial|(show _≤9223372036854775807;(try simp only[aXz,aX1,aX2,aX4,aX7]);omega)) (xp (vU (wrap64 ((bA k).1.time+1)) hrg) (ai rfl ?_))))
   refine ai (by first|trivial|(show _≤9223372036854775807;(try simp only[aXz,aX1,aX2,aX4,aX7]);omega)) (xp (pS k.log k.forced ([116,105,109,101,32]++mB (wrap64 ((bA k).1.time+1))) (by omega) (by simp only[aXz,aX1,aX2];omega)) (ai rfl ?_))
   refine s5 (ai (by kernel_rfl) (rT [0,2,4,5] (s2 (xp (iD (bC k.log k.forced ([116,105,109,101,32]++mB (wrap64 ((bA k).1.time+1)))).1.1 (bC k.log k.forced ([116,105,109,101,32]++mB (wrap64 ((bA k).1.time+1)))).1.2 (by have:=tg (f:=k.forced) (rec:=[116,105,109,101,32]++mB (wrap64 ((bA k).1.time+1))) hkl;omega)) (ai rfl ?_)))))
   refine s2 (rT [0,2,4,5] (s1 (ai (by first|trivial|(show _≤9223372036854775807;(try simp only[aXz,aX1,aX2,aX4,aX7]);omega)) (s1 (wq (σ':=[tP 0 801,tP 2 2,tP 4 4,tI 5 ((i+1):Nat),oB 801 177 [.d (.sl (aE l)),.d (.i (q4))],oB 2 31 [.d (.i 0),.d (.b false),.d (.s []),.d (.i 0),.nil],oB 4 31 [.d (.i (({k with log:=(cY (bC k.log k.forced ([116,105,109,101,32]++mB (wrap64 ((bA k).1.time+1)))).1.1 (bC k.log k.forced ([116,105,109,101,32]++mB (wrap64 ((bA k).1.time+1)))).1.2).1,forced:=(cY (bC k.log k.forced ([116,105,109,101,32]++mB (wrap64 ((bA k).1.time+1)))).1.1 (bC k.log k.forced ([116,105,109,101,32]++mB (wrap64 ((bA k).1.time+1)))).1.2).2}:aK)).id),.d (.b (({k with log:=(cY (bC k.log k.forced ([116,105,109,101,32]++mB (wrap64 ((bA k).1.time+1)))).1.1 (bC k.log k.forced ([116,105,109,101,32]++mB (wrap64 ((bA k).1.time+1)))).1.2).1,forced:=(cY (bC k.log k.forced ([116,105,109,101,32]++mB (wrap64 ((bA k).1.time+1)))).1.1 (bC k.log k.forced ([116,105,109,101,32]++mB (wrap64 ((bA k).1.time+1)))).1.2).2}:aK)).up),.d (.s (({k with log:=(cY (bC k.log k.forced ([116,105,109,101,32]++mB (wrap64 ((bA k).1.time+1)))).1.1 (bC k.log k.forced ([116,105,109,101,32]++mB (wrap64 ((bA k).1.time+1)))).1.2).1,forced:=(cY (bC k.log k.forced ([116,105,109,101,32]++mB (wrap64 ((bA k).1.time+1)))).1.1 (bC k.log k.forced ([116,105,109,101,32]++mB (wrap64 ((bA k).1.time+1)))).1.2).2}:aK)).log),.d (.i (({k with log:=(cY (bC k.log k.forced ([116,105,109,101,32]++mB (wrap64 ((bA k).1.time+1)))).1.1 (bC k.log k.forced ([116,105,109,101,32]++mB (wrap64 ((bA k).1.time+1)))).1.2).1,forced:=(cY (bC k.log k.forced ([116,105,109,101,32]++mB (wrap64 ((bA k).1.time+1)))).1.1 (bC k.log k.forced ([116,105,109,101,32]++mB (wrap64 ((bA k).1.time+1)))).1.2).2}:aK)).forced),.d (.sl (aZ (({k with log:=(cY (bC k.log k.forced ([116,105,109,101,32]++mB (wrap64 ((bA k).1.time+1)))).1.1 (bC k.log k.forced ([116,105,109,101,32]++mB (wrap64 ((bA k).1.time+1)))).1.2).1,forced:=(cY (bC k.log k.forced ([116,105,109,101,32]++mB (wrap64 ((bA k).1.time+1)))).1.1 (bC k.log k.forced ([116,105,109,101,32]++mB (wrap64 ((bA k).1.time+1)))).1.2).2}:aK)).halves))]]) [] [] ⟨400 - (i+1),by omega,i+1,({k with log:=(cY (bC k.log k.forced ([116,105,109,101,32]++mB (wrap64 ((bA k).1.time+1)))).1.1 (bC k.log k.forced ([116,105,109,101,32]++mB (wrap64 ((bA k).1.time+1)))).1.2).1,forced:=(cY (bC k.log k.forced ([116,105,109,101,32]++mB (wrap64 ((bA k).1.time+1)))).1.1 (bC k.log k.forced ([116,105,109,101,32]++mB (wrap64 ((bA k).1.time+1)))).1.2).2}:aK),q4,rfl,⟨by omega,KQ.shelf hkq (Nat.le_trans (pT _ _) (tg hkl)) _,by omega,by omega⟩,rfl⟩ ?_)))))
   repeat' apply ai
   all_goals try exact qx
   all_goals try rfl
   all_goals exact aA D.i (aF (by omega))
 refine xt (sq (rT [2] (s2 (rt ?_))))
 first|refine cX [(.t 0,.v k.V),oB 801 177 [.d (.sl (aE l)),.d (.i (q4))]] ⟨k,q4,⟨hkq,by omega,by omega⟩,rfl⟩ ?_|refine cX [(.t 0,.v k.V),oB 801 177 [.d (.sl (aE l)),.d (.i (q))]] ⟨k,q,⟨hkq,by omega,by omega⟩,rfl⟩ ?_
 exact rq [] [] rfl qz
theorem bx (l:List UInt8) (hl:l.length≤140737488355328):tn 52 1 [tD 0 (.sl (aE l))] (fun s=> ∃k:aK,KQ k∧s=[(.t 0,.v k.V)]):=by
 have hl2: (l.take 2000).length≤2000:=by simp;omega
 refine ul Tryz.func52 rfl (sq (rT [0,2] (s1 (sq (rT [2,3] (s1 (kr [(0,801)] (gq l hl) rfl rfl rfl rfl rfl rfl rfl (fun j hj=>by(obtain rfl:j=0:=by simpa[kU,cE,iS] using hj);rfl) (s1 (sq (sq (rT [2,3,10] (s1 (bP (robj:=[(801,.box 177 [.d (.sl (aE ((l.take 2000)))),.d (.i (0))])]) (rl:=[(0,801)]) (bor:=[]) (cR ((l.take 2000)) (0) _ (by omega) hl2) rfl rfl rfl rfl ⟨bY rfl rfl rfl rfl (cQ rfl rfl (bB rfl (aG rfl (aG rfl aN)) trivial)),rfl⟩ rfl (.inl rfl) (aM ⟨rfl,trivial⟩) (fun _ hj=>nomatch hj) (s1 (cd rfl (fun c10=> ?_) fun c10=> ?_)))))))))))))))
 · refine sq (rE [2] (s1 (dB (robj:=[(801,.box 177 [.d (.sl (aE (l.take 2000))),.d (.i (0+1))])]) (rl:=[]) (bor:=[]) (news:=[]) (aAd (l.take 2000) (0+1) (by omega) hl2) rfl rfl rfl rfl ⟨bY rfl rfl rfl rfl (bB rfl (aG rfl (aG rfl aN)) trivial),rfl⟩ (by rintro _ ⟨k,q2,hk2,rfl⟩;exact⟨rfl,.inl rfl,fun j hj=>nomatch hj⟩) (aM ⟨rfl,trivial⟩) (fun j hj=>nomatch hj) ?_)))
   rintro _ ⟨k,q2,hk2,rfl⟩
   exact s1 (rt (cX [(.t 0,.v k.V)] ⟨k,hk2.1,rfl⟩ (rq [] [] rfl qz)))
 refine sk (sq (rE [2,5] (s1 (dB (robj:=[(801,.box 177 [.d (.sl (aE (l.take 2000))),.d (.i (0+1))])]) (rl:=[]) (bor:=[]) (news:=[802,803,804,805,806]) (sP (l.take 2000) (0+1) (by omega) hl2) rfl rfl rfl rfl ⟨bY rfl rfl rfl rfl (bB rfl (aG rfl (aG rfl aN)) trivial),rfl⟩ (by rintro _ ⟨W2,k,q2,hw2,rfl⟩;exact⟨rfl,.inl rfl,fun j hj=>hj⟩) (aM ⟨rfl,trivial⟩) (fun j hj=>by simp at hj;rcases hj with rfl|rfl|rfl|rfl|rfl<;>rfl) ?_))))
 rintro _ ⟨W2,k,q2,hw2,rfl⟩
 have hkq:=hw2.2.1
 have hkl:=hkq.1
 exact s7 (sq (rT [2] (s2 (rt (cX [(.t 0,.v k.V)] ⟨k,hkq,rfl⟩ (rq [] [] rfl qz))))))
theorem fp (l:List UInt8) (hl:l.length≤140737488355328):Sp 13 1 [tD 0 (.sl (aE l))] [tB 0 true]:=by
 refine sb Tryz.func13 rfl (sq (rT [0] (s1 (sq (sq (rT [0,10] (s3 (cd rfl (fun c10=> ?_) fun c10=> ?_))))))))
 · refine sq (rT [2] (s1 (rt (bQ rfl ?_))))
   rfl
 refine sk (sq (rE [3] (s1 (dB (robj:=[]) (rl:=[]) (bor:=[]) (news:=[]) (bx l hl) rfl rfl rfl rfl ⟨cQ rfl rfl trivial,rfl⟩ (by rintro _ ⟨k,hkq,rfl⟩;exact⟨rfl,.inl rfl,fun j hj=>nomatch hj⟩) (fun p hp=>nomatch hp) (fun j hj=>nomatch hj) ?_))))
 rintro _ ⟨k,hkq,rfl⟩
 have hg:=hkq.kg
 have hkl:=hkq.1
 have hkb:=aE1 k
 have hgt:=hg.time
 refine s2 (sq (rT [3,4,5] (s1 (xp (wS k hg.log) (ai rfl ?_)))))
 refine s6 (sq (rT [3,4,5,6,7] (s1 (xp (nd k hg.log) (ai rfl ?_)))))
 refine s6 (sq (sq (rT [3,4,5,6,7,35] (s4 (y2 (xc (fun h=>pU (cF k).1 hgt.hal) (ai rfl (ai rk ?_))))))))
 refine y1 (ai pk (s1 (y2 (ai pk (cd rfl (fun c35=> ?_) fun c35=> ?_)))))
 · refine sq (rT [2] (s4 (y2 (xc (fun h=>pU (cF k).1 hgt.hal) (ai rfl (ai rk ?_))))))
   refine ai pk (s1 (rt (bQ rfl (aA D.b ?_))))
   simp[gb]
 have hyes: (cF k).2=true:=by simpa[gb] using c35
 obtain⟨a1,a2⟩:=aP4 (aK6 hyes) hyes
 have htr:=(jJ.1 (aP1 (aK6 hyes))).1.2.1
 have hw9:wrap64 ((bS k).time+1)=(bS k).time+1:=aF (by omega)
 refine sk (sq (rD [2] (s1 (xp (aBf (cF k).1 hgt.log) (ai rfl ?_)))))
 refine s2 (xp (gK k hg.log) (ai rfl ?_))
 refine s4 (y1 (xc (fun h=>(lI (cF k).1 hgt.log)) (ai rfl (ai rk ?_))))
 refine ai pk (s1 (ai (by kernel_rfl) (rt (bQ rfl (aA D.b ?_)))))
 rw[a2,hw9]
 simp[gb,a1]
end Go.Proofs.YtmabaopgkimfmaaGreatDoor
