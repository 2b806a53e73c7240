/- Plain functions, and contracts of the functions that the law reaches. -/
import Derived.Deep.Slices
import Derived.WideShapes
import GoSem.ClaimJoined
import Derived.Shelf.Utf8.RuneCount
import Derived.Shelf.Strconv.Itoa0
import Derived.Shelf.Strconv.Itoa1
import Derived.Shelf.LaysM
import Derived.Shelf.Strconv.Itoa2
import Derived.Shelf.Strconv.Itoa3
import Derived.Shelf.Strings.Search1
import Derived.Shelf.Strings.Search2
import Derived.Shelf.Strings.Search3
import Derived.Shelf.Strings.Cut
import Derived.Shelf.Strings.Count
import Derived.Shelf.Strings.Shaped
import Derived.Shelf.Strings.Split
import Derived.Shelf.Unicode.DecodeSlow
import Derived.Test.YthbgjfegalcenaaGreatDoorProg
import Derived.Test.YthbgjfegalcenaaGreatDoorB1
namespace Go.Ab
open Int renaming toNat_natCast→aW6,tmod→aXm
open List renaming length_append→aW7,length_cons→aW9,length_nil→aXa,length_take→aXc,getD_eq_getElem?_getD→aXe,length_drop→aXf,getElem?_eq_getElem→aXg,getElem?_eq_some_iff→aXh,range→aXj,mem_map→aXk,all_eq_true→aXl,take_length→aXn,mem_singleton→aXo,mem_iff_getElem?→aXq,mem_cons→aXr
open Nat renaming le_of_ble_eq_true→aW8,zero_le→aXd,le_refl→aXi,add_mul→aXp
open Bool renaming and_eq_true→aXb
open Go Go.RowKit
set_option linter.unusedVariables false
set_option linter.unusedSimpArgs false
def wE (m:cA):List UInt8:=jZ m.frm.toNat++32::(jZ m.num.toNat++32::jZ m.til.toNat)
theorem qT {m:cA} (h:kB m=true): (0≤m.frm∧m.frm≤3)∧(1≤m.num∧m.num≤99)∧(1≤m.til∧m.til≤999):=by
 simp only[kB,eR,iK,aXb,decide_eq_true_eq] at h
 omega
theorem aGc {n:bA} (h:eL n=true):kB ⟨n.frm,n.num,n.til⟩=true:=by
 simp only[eL,kB,aXb] at h ⊢
 exact⟨⟨h.1.1.1.1,h.1.1.2⟩,h.1.2⟩
theorem aPg {s:List UInt8} (h: ∀b∈s,b≠32):fX s=false:=by
 unfold fX
 rw[List.any_eq_false]
 intro b hb
 have:=h b hb
 simpa using this
theorem wz {s:List UInt8} (h:fX s=false):Lib.count s [32]=0:=by rw[tE,h];rfl
theorem aU3 {a b c:List UInt8} (ha: ∀x∈a,x≠32) (hb: ∀x∈b,x≠32) (hc: ∀x∈c,x≠32):
 dG (a++32::(b++32::c))=[a,b,c]∧mW 3 (a++32::(b++32::c))=[]∧bH (a++32::(b++32::c))=a∧bH (mW 1 (a++32::(b++32::c)))=b∧bH (mW 2 (a++32::(b++32::c)))=c:=by
 obtain⟨a1,a2,a3⟩:=mX (r:=b++32::c) ha
 obtain⟨b1,b2,b3⟩:=mX (r:=c) hb
 have c3:=aPg hc
 obtain⟨_,c1,c2⟩:=(fY c).2 c3
 have hn:Lib.count (a++32::(b++32::c)) [32]=2:=by
  rw[tE,if_pos a3,a2,tE,if_pos b3,b2,wz c3]
 refine⟨?_,?_,a1,?_,?_⟩
 · rw[dG,hn]
   simp only[iU,a1,a2,a3,b1,b2,b3,if_true]
 · simp only[mW,a2,b2,c2]
 · simp only[mW,a2,b1]
 · simp only[mW,a2,b2,c1]
theorem xa {n:Int} (h:0≤n):pa n=jZ n.toNat:=if_neg (by omega)
theorem aGd {m:cA} (h:kB m=true):ga m=wE m:=by
 obtain⟨h1,h2,h3⟩:=qT h
 unfold ga wE
 rw[xa (by omega),xa (by omega),xa (by omega)]
 simp
theorem aCg {m:cA} (h:kB m=true):iQ (dG (wE m))=true∧(dG (wE m)).length=3∧three (dG (wE m))=m∧mW 3 (wE m)=[]∧iA (wE m)=m:=by
 obtain⟨h1,h2,h3⟩:=qT h
 obtain⟨q1,q2,q3,q4,q5⟩:=aU3 (vK m.frm.toNat) (vK m.num.toNat) (vK m.til.toNat)
 have e: ∀{x:Int},0≤x→((x.toNat:Nat):Int)=x:=fun h=>by omega
 have w1:jP (jZ m.frm.toNat)=some m.frm.toNat:=mY (by omega)
 have w2:jP (jZ m.num.toNat)=some m.num.toNat:=mY (by omega)
 have w3:jP (jZ m.til.toNat)=some m.til.toNat:=mY (by omega)
 have u1:jB (jZ m.frm.toNat)=m.frm:=by rw[jB,w1];exact e (by omega)
 have u2:jB (jZ m.num.toNat)=m.num:=by rw[jB,w2];exact e (by omega)
 have u3:jB (jZ m.til.toNat)=m.til:=by rw[jB,w3];exact e (by omega)
 have v1:gW (jZ m.frm.toNat)=m.frm:=by rw[vL (by omega),e (by omega)]
 have v2:gW (jZ m.num.toNat)=m.num:=by rw[vL (by omega),e (by omega)]
 have v3:gW (jZ m.til.toNat)=m.til:=by rw[vL (by omega),e (by omega)]
 unfold wE
 refine⟨?_,?_,?_,q2,?_⟩
 · rw[q1];simp[iQ,w1,w2,w3]
 · rw[q1];rfl
 · rw[q1];simp[three,u1,u2,u3]
 · unfold iA dO
   have q6:bH (mW 0 (jZ m.frm.toNat++32::(jZ m.num.toNat++32::jZ m.til.toNat)))=jZ m.frm.toNat:=q3
   rw[q6,q4,q5,v1,v2,v3]
theorem xb {s:List UInt8} (h:fX s=true):s=bH s++32::aO s:=by
 obtain⟨q1,q2,q3,q4⟩:=(fY s).1 h
 have h3:s[(bH s).length]'q4=32:=by
  have h1:Lib.indexByte s 32=(bH s).length:=q1
  have h2:s.drop (bH s).length=s[(bH s).length]'q4::s.drop ((bH s).length+1):=List.drop_eq_getElem_cons q4
  have h4:s.drop (bH s).length=s.dropWhile (· != 32):=by
   have h5:=List.takeWhile_append_dropWhile (p:=(· != (32:UInt8))) (l:=s)
   have h6:s.take (bH s).length++s.drop (bH s).length=s:=List.take_append_drop _ _
   rw[q2] at h6
   exact List.append_cancel_left (h6.trans h5.symm)
  have h7: ∀l:List UInt8,∀x t,l.dropWhile (· != 32)=x::t→x=32:=by
   intro l
   induction l with
   |nil=>intro x t h;cases h
   |cons y l ih=>
    intro x t h
    by_cases hy:y=32
    · subst hy
      simp at h
      exact h.1.symm
    · rw[List.dropWhile_cons_of_pos (by simpa using hy)] at h
      exact ih x t h
  exact h7 s _ _ (h4.symm.trans h2)
 have h8:s.take (bH s).length++s.drop (bH s).length=s:=List.take_append_drop _ _
 rw[q2,List.drop_eq_getElem_cons q4,h3,q3] at h8
 exact h8.symm
theorem aGe {s:List UInt8} (h: (dG s).length=3): ∃a b c,dG s=[a,b,c]∧s=a++32::(b++32::c):=by
 have h0:=wj _ s rfl
 have hn:Lib.count s [32]=2:=by
  rw[dG] at h;omega
 have h1:fX s=true:=by
  cases hs:fX s with
  |true=>rfl
  |false=>rw[wz hs] at hn;cases hn
 rw[tE,if_pos h1] at hn
 have h2:fX (aO s)=true:=by
  cases hs:fX (aO s) with
  |true=>rfl
  |false=>rw[wz hs] at hn;cases hn
 have hn2:Lib.count s [32]=2:=by rw[tE,if_pos h1];exact hn
 refine⟨bH s,bH (aO s),aO (aO s),?_,?_⟩
 · rw[dG,hn2]
   simp only[iU,h1,h2,if_true]
 · rw[← xb h2,← xb h1]
theorem aMh {s:List UInt8} (h: (iQ (dG s)&&(dG s).length==3)=true):s=wE (three (dG s)):=by
 rw[aXb,beq_iff_eq] at h
 obtain⟨a,b,c,hl,hs⟩:=aGe h.2
 have hk:=h.1
 rw[hl] at hk ⊢
 simp only[iQ,List.all_cons,List.all_nil,Bool.and_true,aXb] at hk
 obtain⟨ha,hb,hc⟩:=hk
 obtain⟨x,hx⟩:=Option.isSome_iff_exists.1 ha
 obtain⟨y,hy⟩:=Option.isSome_iff_exists.1 hb
 obtain⟨z,hz⟩:=Option.isSome_iff_exists.1 hc
 unfold wE three
 simp only[List.getD_cons_zero,List.getD_cons_succ,sA hx,sA hy,sA hz,aW6,(uY hx).1,(uY hy).1,(uY hz).1]
 exact hs
theorem iu {l:List bA} (hk:kC l=true) {f m:Int} (hp:0≤aS l f m):eL (l.getD (aS l f m).toNat .zero)=true∧(l.getD (aS l f m).toNat .zero).frm=f∧(l.getD (aS l f m).toNat .zero).num=m∧(aS l f m).toNat<l.length:=by
 rcases gR (nJ l f m) l.length 0 with h|⟨k,h,_,h2,h3,_⟩
 · rw[aS,h] at hp;omega
 · have e:aS l f m=k:=h
   rw[e,aW6]
   have h4:=h3
   unfold nJ at h4
   simp only[aXb,beq_iff_eq] at h4
   exact⟨tF hk (dB (by omega)),h4.1,h4.2,by omega⟩
theorem wF {l:List cA} (h:oK l=true) {x:cA} (hx:x∈l):kB x=true:=by
 obtain⟨i,hi⟩:=aXq.1 hx
 have hlt:=(aXh.1 hi).1
 have h1:=aXl.1 h i (List.mem_range.2 hlt)
 unfold mU at h1
 rw[aXb] at h1
 have h2:=h1.1
 rw[aXe,hi] at h2
 exact h2
theorem aGf {k:bC} {m:cA} (hm:kB m=false) {p:cA→Bool}:dC {k with marks:=qQ p m k.marks}=false:=by
 cases h:dC {k with marks:=qQ p m k.marks} with
 |false=>rfl
 |true=>
  obtain⟨_,⟨_,h2,_⟩,_⟩:=(cB _).1 h
  rw[wF h2 (yE.2 (.inl rfl))] at hm
  cases hm
theorem lp {l:List bA} (hk:kC l=true) {m:cA} (hm:kB m=false): ¬(0≤aS l m.frm m.num∧(l.getD (aS l m.frm m.num).toNat .zero).til=m.til):=by
 rintro⟨h1,h2⟩
 obtain⟨q1,q2,q3,_⟩:=iu hk h1
 have:=aGc q1
 rw[q2,q3,h2] at this
 rw[show m=⟨m.frm,m.num,m.til⟩ from rfl,this] at hm
 cases hm
theorem aIw {k:bC} (hk:dC k=true) {w:List UInt8} {m:cA} (hm:kB m=false):kW k (iL k w m)=(k,false):=by
 obtain⟨_,⟨h1,_,h2⟩,_⟩:=(cB _).1 hk
 unfold iL
 rw[if_neg (by
  intro h
  simp only[aXb,decide_eq_true_eq,beq_iff_eq] at h
  exact lp h1 hm ⟨h.1.2,h.2⟩),if_neg (by
  intro h
  simp only[aXb,decide_eq_true_eq,beq_iff_eq] at h
  exact lp h2 hm ⟨h.1.2,h.2⟩)]
 split
 · exact qS (.inr (aGf hm))
 · exact qS (.inl rfl)
def lq (k:bC) (w:List UInt8) (m:cA):bC×Bool:=
 if w==nP then(if decide (aS k.held m.frm m.num<0)||(k.held.getD (aS k.held m.frm m.num).toNat .zero).til != m.til then(k,false) else lf k m.frm m.num)
 else if w==jY then(if decide (aS k.inbox m.frm m.num<0)||(k.inbox.getD (aS k.inbox m.frm m.num).toNat .zero).til != m.til then(k,false) else li k m.frm m.num)
 else if w==iF then(if gN k.marks m.frm m.num≥0 then(k,false) else({k with marks:=oM k.marks m},true))
 else(k,false)
theorem lr {l:List bA} {m:cA} (h: ¬(0≤aS l m.frm m.num∧(l.getD (aS l m.frm m.num).toNat .zero).til=m.til)): (decide (aS l m.frm m.num<0)||(l.getD (aS l m.frm m.num).toNat .zero).til != m.til)=true:=by
 by_cases h1:aS l m.frm m.num<0
 · simp[h1]
 · have h2: ¬(l.getD (aS l m.frm m.num).toNat .zero).til=m.til:=fun e=>h ⟨by omega,e⟩
   rw[Bool.or_eq_true]
   exact .inr (by simpa only[bne_iff_ne,ne_eq] using h2)
theorem aMi {k:bC} (hk:dC k=true) {w:List UInt8} {m:cA} (hm:kB m=false):kW k (lq k w m)=(k,false):=by
 obtain⟨_,⟨h1,_,h2⟩,_⟩:=(cB _).1 hk
 unfold lq
 rw[if_pos (lr (lp h1 hm)),if_pos (lr (lp h2 hm))]
 split
 · exact qS (.inl rfl)
 · split
   · exact qS (.inl rfl)
   · split
     · split
       · exact qS (.inl rfl)
       · exact qS (.inr (aGf hm))
     · exact qS (.inl rfl)
theorem aAh {k:bC} (hk:dC k=true) {i:Nat} (hi:i<k.held.length):gN k.marks (k.held.getD i .zero).frm (k.held.getD i .zero).num<0:=by
 obtain⟨_,_,h,_⟩:=(cB _).1 hk
 have h1:=aXl.1 h i (List.mem_range.2 hi)
 unfold tR at h1
 simp only[aXb,decide_eq_true_eq] at h1
 exact h1.2
theorem aMj {k:bC} (hk:dC k=true) (w:List UInt8) (m:cA):iL k w m=lq k w m:=by
 obtain⟨_,⟨h1,_,h2⟩,_⟩:=(cB _).1 hk
 have l1: (nP==jY)=false:=by decide
 have l2: (nP==iF)=false:=by decide
 have l3: (jY==iF)=false:=by decide
 have l4: (jY==nP)=false:=by decide
 have l5: (iF==nP)=false:=by decide
 have l6: (iF==jY)=false:=by decide
 unfold iL lq
 by_cases w1:w=nP
 · subst w1
   rw[if_pos (show(nP==nP)=true by decide)]
   by_cases h:0≤aS k.held m.frm m.num∧(k.held.getD (aS k.held m.frm m.num).toNat .zero).til=m.til
   · obtain⟨q1,q2,q3,q4⟩:=iu h1 h.1
     have hu:=aAh hk q4
     rw[q2,q3] at hu
     rw[if_pos (by rw[h.2];simp[h.1]),if_neg (by rw[h.2];simp[h.1]),lf,if_pos h.1,h.2,ir (n:=⟨m.frm,m.num,m.til⟩) hu]
   · rw[if_pos (lr h),if_neg (by
      intro h9
      simp only[aXb,decide_eq_true_eq,beq_iff_eq] at h9
      exact h ⟨h9.1.2,h9.2⟩),if_neg (by rw[l1];simp),if_neg (by rw[l2];simp)]
 · have w1': (w==nP)=false:=by simpa using w1
   rw[if_neg (by rw[w1'];simp),if_neg (show ¬(w==nP)=true by rw[w1'];simp)]
   by_cases w2:w=jY
   · subst w2
     rw[if_pos (show(jY==jY)=true by decide)]
     by_cases h:0≤aS k.inbox m.frm m.num∧(k.inbox.getD (aS k.inbox m.frm m.num).toNat .zero).til=m.til
     · rw[if_pos (by rw[h.2];simp[h.1]),if_neg (by rw[h.2];simp[h.1]),li,if_pos h.1]
     · rw[if_pos (lr h),if_neg (by
        intro h9
        simp only[aXb,decide_eq_true_eq,beq_iff_eq] at h9
        exact h ⟨h9.1.2,h9.2⟩),if_neg (by rw[l3];simp)]
   · have w2': (w==jY)=false:=by simpa using w2
     rw[if_neg (by rw[w2'];simp),if_neg (show ¬(w==jY)=true by rw[w2'];simp)]
     by_cases w3:w=iF
     · subst w3
       rw[if_pos (show(iF==iF)=true by decide)]
       by_cases h:gN k.marks m.frm m.num<0
       · rw[if_pos (by simp[h]),if_neg (by omega),ir h]
       · rw[if_neg (by simp[h]),if_pos (by omega)]
     · have w3': (w==iF)=false:=by simpa using w3
       rw[if_neg (by rw[w3'];simp),if_neg (show ¬(w==iF)=true by rw[w3'];simp)]
theorem aIx {k:bC} (hk:dC k=true) (w r:List UInt8):
 qR k (if iQ (dG r)&&(dG r).length==3 then iL k w (three (dG r)) else(k,false)) (if !(mW 3 r==[])|| !(r==ga (iA r)) then(k,false) else lq k w (iA r)):=by
 by_cases h: ∃m,kB m=true∧r=wE m
 · obtain⟨m,hm,rfl⟩:=h
   obtain⟨q1,q2,q3,q4,q5⟩:=aCg hm
   rw[q3,q4,q5,aGd hm,q1,q2,if_pos (by decide),if_neg (by simp),aMj hk]
   exact .rfl
 · have hL:kW k (if iQ (dG r)&&(dG r).length==3 then iL k w (three (dG r)) else(k,false))=(k,false):=by
    split
    · rename_i h1
      refine aIw hk ?_
      cases h2:kB (three (dG r)) with
      |false=>rfl
      |true=>exact absurd ⟨_,h2,aMh h1⟩ h
    · exact qS (.inl rfl)
   have hR:kW k (if !(mW 3 r==[])|| !(r==ga (iA r)) then(k,false) else lq k w (iA r))=(k,false):=by
    split
    · exact qS (.inl rfl)
    · rename_i h1
      refine aMi hk ?_
      cases h2:kB (iA r) with
      |false=>rfl
      |true=>
       refine absurd ⟨_,h2,?_⟩ h
       rw[← aGd h2]
       simp only[Bool.or_eq_true,Bool.not_eq_true',not_or,Bool.not_eq_false,beq_iff_eq] at h1
       exact h1.2
   exact hL.trans hR.symm
theorem pc (k:bC) (rec:List UInt8):pI k rec=cL k rec:=by
 unfold pI cL
 by_cases hk:dC k=true
 · rw[if_pos hk,if_pos hk]
   symm
   show qR k _ _
   obtain⟨⟨_,⟨t0,_⟩,⟨n0,_⟩,_⟩,_⟩:=(cB _).1 hk
   have hS: ∀w r,bH rec=w→aO rec=r→gO k rec=(if w==jG then(if gW r≤k.time then(k,false) else(kR k (gW r),true))
    else if w==iG then(if !(eB r).2||(eB r).1.frm != k.id||(eB r).1.num != k.next then(k,false) else mZ {k with next:=wrap64 (k.next+1)} (eB r).1)
    else if w==fL then(if !(eB r).2||(eB r).1.frm==k.id then(k,false) else mZ k (eB r).1)
    else if w==jM then(if gW r≤k.next then(k,false) else({k with next:=gW r},true))
    else if w==hG||w==fP then
     (if !(eB r).2||decide (aS k.held (eB r).1.frm (eB r).1.num≥0)||decide (aS k.inbox (eB r).1.frm (eB r).1.num≥0) then(k,false)
      else if w==hG then({k with held:=kE k.held (eB r).1},true) else({k with inbox:=kE k.inbox (eB r).1},true))
    else if !(mW 3 r==[])|| !(r==ga (iA r)) then(k,false) else lq k w (iA r)):=by
    rintro w r rfl rfl;rfl
   have hI: ∀w r,bH rec=w→aO rec=r→eM k rec=(if fX rec then
    if w==jG||w==jM then(if(jP r).isSome then lH k w (jB r) else(k,false))
    else if w==iG||w==fL||w==hG||w==fP then(if(eB r).2 then fN k w (eB r).1 else(k,false))
    else if w==nP||w==jY||w==iF then(if iQ (dG r)&&(dG r).length==3 then iL k w (three (dG r)) else(k,false))
    else(k,false)
    else(k,false)):=by
    rintro w r rfl rfl;rfl
   cases hs:fX rec with
   |false=>
    obtain⟨_,_,hr⟩:=(fY rec).2 hs
    rw[hI _ _ rfl rfl,hs,hS _ _ rfl hr]
    have hd:gW []= -1:=rfl
    have hrd:eB []=(.zero,false):=rfl
    have hl: ([]==ga (iA []))=false:=by
     have:ga (iA [])≠[]:=by simp[ga]
     simpa using this
    rw[hd,hrd,hl]
    refine .no (.inl rfl) (.inl ?_)
    rw[if_pos (show(-1:Int)≤k.time by omega),if_pos (show(-1:Int)≤k.next by omega)]
    simp
   |true=>
    rw[hI _ _ rfl rfl,hs,hS _ _ rfl rfl,if_pos rfl]
    generalize aO rec=r
    generalize bH rec=w
    by_cases e1:w=jG
    · subst e1;exact aIt hk r
    by_cases e2:w=jM
    · subst e2;exact aIu hk r
    by_cases e3:w=iG
    · subst e3;exact aMg (eB r)
    by_cases e4:w=fL
    · subst e4;exact aGb (eB r)
    by_cases e5:w=hG∨w=fP
    · have hx:=aIv (k:=k) w e5 (eB r)
      rcases e5 with rfl|rfl<;>exact hx
    have b1: (w==jG)=false:=by simpa using e1
    have b2: (w==jM)=false:=by simpa using e2
    have b3: (w==iG)=false:=by simpa using e3
    have b4: (w==fL)=false:=by simpa using e4
    have b5: (w==hG)=false:=by simpa using fun h=>e5 (.inl h)
    have b6: (w==fP)=false:=by simpa using fun h=>e5 (.inr h)
    rw[b1,b2,b3,b4,b5,b6]
    show qR k (if w==nP||w==jY||w==iF then _ else(k,false)) (if !(mW 3 r==[])|| !(r==ga (iA r)) then(k,false) else lq k w (iA r))
    cases h7: (w==nP||w==jY||w==iF) with
    |true=>exact aIx hk w r
    |false=>
     simp only[Bool.or_eq_false_iff] at h7
     refine .no (.inl rfl) (.inl ?_)
     split
     · rfl
     · unfold lq
       rw[h7.1.1,h7.1.2,h7.2];rfl
 · rw[if_neg hk,if_neg hk]
structure iB where
 num:Int
 data:List UInt8
 deriving DecidableEq
structure dR where
 frm:Int
 num:Int
 to:Int
 til:Int
 size:Int
 got:List iB
 deriving DecidableEq
structure aH where
 id:Int
 up:Bool
 log:List UInt8
 forced:Int
 halves:List dR
 deriving DecidableEq
def iB.row (m:iB):List D:=[.i m.num,.s m.data]
def cM (l:List iB):List (List D):=l.map iB.row
def dR.row (h:dR):List D:=[.i h.frm,.i h.num,.i h.to,.i h.til,.i h.size,.sl (cM h.got)]
def aY (l:List dR):List (List D):=l.map dR.row
abbrev iB.V (m:iB):V:= .e (.agg [.d (.i m.num),.d (.s m.data)])
abbrev dR.V (h:dR):V:= .e (.agg [.d (.i h.frm),.d (.i h.num),.d (.i h.to),.d (.i h.til),.d (.i h.size),.d (.sl (cM h.got))])
abbrev aH.V (k:aH):V:= .e (.agg [.d (.i k.id),.d (.b k.up),.d (.s k.log),.d (.i k.forced),.d (.sl (aY k.halves))])
def iB.zero:iB:=⟨0,[]⟩
def dR.zero:dR:=⟨0,0,0,0,0,[]⟩
def aH.zero:aH:=⟨0,false,[],0,[]⟩
theorem bI (l:List iB): (cM l).length=l.length:=by simp[cM]
theorem aF (l:List dR): (aY l).length=l.length:=by simp[aY]
theorem qU (l:List iB): ∀r∈cM l,r.length=2:=by
 intro r hr
 obtain⟨b,_,rfl⟩:=aXk.1 hr
 rfl
theorem sR (l:List dR): ∀r∈aY l,r.length=6:=by
 intro r hr
 obtain⟨b,_,rfl⟩:=aXk.1 hr
 rfl
theorem mI {l:List iB} {i:Nat} (h:i<l.length): (cM l).getD i []=(l.getD i .zero).row:=by
 rw[aXe,aXe]
 simp[cM,h]
theorem gE {l:List dR} {i:Nat} (h:i<l.length): (aY l).getD i []=(l.getD i .zero).row:=by
 rw[aXe,aXe]
 simp[aY,h]
theorem zU (l:List iB) (x:iB):cM l++[x.row]=cM (l++[x]):=by simp[cM]
theorem pC (l:List dR) (x:dR):aY l++[x.row]=aY (l++[x]):=by simp[aY]
theorem aGg (l:List iB) (a b:Nat): ∀r∈((cM l).take a).drop b,r.length=2:=fun r hr=>qU l r (List.mem_of_mem_take (List.mem_of_mem_drop hr))
theorem lu (l:List dR) (a b:Nat): ∀r∈((aY l).take a).drop b,r.length=6:=fun r hr=>sR l r (List.mem_of_mem_take (List.mem_of_mem_drop hr))
def wG (m:iB):Bool:=iK m.num 0 999&&decide ((m.data.length:Int)=4)
def oN (l:List iB) (i:Nat):Bool:=wG (l.getD i .zero)&&(aXj i).all fun j=> !((l.getD j .zero).num==(l.getD i .zero).num)
def qW (h:dR):Bool:=eR h.frm&&eR h.to&&iK h.num 1 99&&iK h.til 1 999&&iK h.size 1 24&&decide ((h.got.length:Int)≤14)
def mJ (h:dR):Bool:=qW h&&(aXj h.got.length).all (oN h.got)
def iM (l:List dR) (f n:Int) (i:Nat):Bool:=(l.getD i .zero).frm==f&&(l.getD i .zero).num==n
def gZ (l:List dR) (f n:Int):Int:=lG (iM l f n) 0 l.length
def iI (l:List dR) (i:Nat):Bool:=mJ (l.getD i .zero)&&(aXj i).all fun j=> !iM l (l.getD i .zero).frm (l.getD i .zero).num j
def jX (k:aH):Bool:=eR k.id&&dA k.log k.forced&&decide ((k.halves.length:Int)≤3)&&(k.up||decide (k.halves.length=0))
def aZ (k:aH):bC×Bool:=eU k.id (bM k.log).1
def xE (k:aH):bC×Bool:=eU k.id (bM (k.log.take k.forced.toNat)).1
def aR (k:aH):Bool:=jX k&&(aZ k).2&&(xE k).2&&(aXj k.halves.length).all (iI k.halves)
theorem iC {l:List UInt8} {f:Int} (h:dA l f=true):l.length≤2400∧(0≤f∧f≤l.length)∧(bM l).2=l.length∧((bM (l.take f.toNat)).2:Int)=f:=by
 simp only[dA,iK,aXb,decide_eq_true_eq] at h
 exact⟨h.1.1.1,h.1.1.2,h.1.2,h.2⟩
theorem aMk {s r:List UInt8} {n:Nat} (h:hF s=some (r,n)):r.length≤s.length:=by
 unfold hF at h
 split at h
 · cases h
 · split at h
   · cases h
   · split at h
     · cases h
       rw[aXf,aXc];omega
     · cases h
theorem gf: ∀(k:Nat) (s:List UInt8),s.length≤k→ ∀x∈(bM s).1,x.length≤s.length
 |0,s,h,x,hx=>by
  obtain rfl:s=[]:=List.eq_nil_of_length_eq_zero (by omega)
  rw[eG kY] at hx;cases hx
 |k+1,s,h,x,hx=>by
  cases hr:hF s with
  |none=>rw[eG hr] at hx;cases hx
  |some p=>
   obtain⟨r,n⟩:=p
   have h1:=nX hr
   rw[hZ hr] at hx
   rcases aXr.1 hx with rfl|hx
   · exact aMk hr
   · have:=gf k (s.drop n) (by rw[aXf];omega) x hx
     rw[aXf] at this;omega
theorem nY (s:List UInt8) (h:s.length≤900000): (bM s).1.length≤900000∧ ∀x∈(bM s).1,x.length≤900000:=
 ⟨by have:=(qP s.length s (aXi _)).2;omega,fun x hx=>by have:=gf s.length s (aXi _) x hx;omega⟩
theorem lV {h:dR} (hh:qW h=true):eR h.frm=true∧eR h.to=true∧(1≤h.num∧h.num≤99)∧(1≤h.til∧h.til≤999)∧(1≤h.size∧h.size≤24)∧h.got.length≤14:=by
 simp only[qW,iK,aXb,decide_eq_true_eq] at hh
 obtain⟨⟨⟨⟨⟨h1,h2⟩,h3⟩,h4⟩,h5⟩,h6⟩:=hh
 exact⟨h1,h2,h3,h4,h5,by omega⟩
theorem eJ {k:aH} (h:jX k=true):eR k.id=true∧dA k.log k.forced=true∧k.halves.length≤3∧(k.up=true∨k.halves.length=0):=by
 simp only[jX,aXb,Bool.or_eq_true,decide_eq_true_eq] at h
 obtain⟨⟨⟨h1,h2⟩,h3⟩,h4⟩:=h
 exact⟨h1,h2,by omega,h4⟩
theorem sd {l:List iB} {i:Nat} (h1:wG (l.getD i .zero)=true) (h2: ∀j,j<i→((l.getD j .zero).num==(l.getD i .zero).num)=false):oN l i=true:=by
 unfold oN
 rw[h1,Bool.true_and]
 exact iP fun j hj=>by rw[h2 j hj];rfl
theorem se {l:List iB} {i:Nat} (h1:wG (l.getD i .zero)=false):oN l i=false:=by
 unfold oN;rw[h1];rfl
theorem xd {l:List iB} {i j:Nat} (hj:j<i) (h2: ((l.getD j .zero).num==(l.getD i .zero).num)=true):oN l i=false:=by
 unfold oN
 rw[fS hj (by rw[h2];rfl),Bool.and_false]
theorem aDy {l:List dR} {i:Nat} (h1:mJ (l.getD i .zero)=true) (h2: ∀j,j<i→iM l (l.getD i .zero).frm (l.getD i .zero).num j=false):iI l i=true:=by
 unfold iI
 rw[h1,Bool.true_and]
 exact iP fun j hj=>by rw[h2 j hj];rfl
theorem aDz {l:List dR} {i:Nat} (h1:mJ (l.getD i .zero)=false):iI l i=false:=by
 unfold iI;rw[h1];rfl
theorem aGh {l:List dR} {i j:Nat} (hj:j<i) (h2:iM l (l.getD i .zero).frm (l.getD i .zero).num j=true):iI l i=false:=by
 unfold iI
 rw[fS hj (by rw[h2];rfl),Bool.and_false]
theorem aMl (l:List dR) (f m:Int): -1≤gZ l f m∧gZ l f m<l.length:=by
 rcases gR (iM l f m) l.length 0 with h|⟨k,h,_,h2,_⟩<;>rw[gZ,h]<;>omega
theorem aIy {l:List dR} {i:Nat} (hi:i<l.length): (decide (gZ l (l.getD i .zero).frm (l.getD i .zero).num< (i:Int)))= !((aXj i).all fun j=> !iM l (l.getD i .zero).frm (l.getD i .zero).num j):=by
 have hself:iM l (l.getD i .zero).frm (l.getD i .zero).num i=true:=by simp[iM]
 by_cases h: ∃j,j<i∧iM l (l.getD i .zero).frm (l.getD i .zero).num j=true
 · obtain⟨j,hj,hji⟩:=h
   rw[fS hj (by rw[hji];rfl)]
   rcases gR (iM l (l.getD i .zero).frm (l.getD i .zero).num) l.length 0 with h1|⟨k,h1,_,h2,h3,h4⟩
   · exact decide_eq_true (by rw[gZ,h1];omega)
   · refine decide_eq_true ?_
     rw[gZ,h1]
     by_cases hk:k<i
     · omega
     · have:=h4 j (aXd _) (by omega)
       rw[hji] at this;cases this
 · have h0: ∀j,j<i→iM l (l.getD i .zero).frm (l.getD i .zero).num j=false:=fun j hj=>by
    cases hh:iM l (l.getD i .zero).frm (l.getD i .zero).num j with
    |false=>rfl
    |true=>exact absurd ⟨j,hj,hh⟩ h
   rw[iP (fun j hj=>by rw[h0 j hj];rfl),gZ,mB (aXd _) (by omega) (fun j _ hj=>h0 j hj) hself]
   simp
theorem aTg (a b:Int):decide (a>b)= !decide (a≤b):=by
 by_cases h:a≤b
 · simp[h,Int.not_lt.2 h]
 · simp[h,Int.not_le.1 h]
theorem mixC {a:Bool} {n:Int} (h: (!a||n != 4)=true): (!a|| !decide (n=4))=true:=by
 have e: (n != 4)= !decide (n=4):=by by_cases h:n=4<;>simp[h]
 rw[← e];exact h
theorem aW2 {a:Bool} {n:Int} (h: (!a||n != 4)=false): (a&&decide (n=4))=true:=by
 have e: (n != 4)= !decide (n=4):=by by_cases h:n=4<;>simp[h]
 rw[e] at h
 cases a<;>simp_all
theorem lv {l:List dR} {i:Nat} {c:Bool} (hi:i<l.length) (h: (!mJ (l.getD i .zero)||decide (gZ l (l.getD i .zero).frm (l.getD i .zero).num< (i:Int)))=c):iI l i= !c:=by
 subst h
 rw[aIy hi,iI,Bool.not_or,Bool.not_not,Bool.not_not]
theorem xF {k:aH} (h:jX k=false):aR k=false:=by rw[aR,h];rfl
theorem sf {k:aH} {a b:Bool} (h: (!a|| !b)=true) (h2: ((aZ k).2=a∧(xE k).2=b)∨((aZ k).2=b∧(xE k).2=a)):aR k=false:=by
 unfold aR
 rcases h2 with⟨h1,h2⟩|⟨h1,h2⟩<;>rw[h1,h2]<;>cases a<;>cases b<;>simp_all
theorem lw {k:aH} {a b:Bool} (hh:jX k=true) (h: (!a|| !b)=false) (h2: ((aZ k).2=a∧(xE k).2=b)∨((aZ k).2=b∧(xE k).2=a)):aR k=(aXj k.halves.length).all (iI k.halves):=by
 unfold aR
 rcases h2 with⟨h1,h2⟩|⟨h1,h2⟩<;>rw[h1,h2,hh]<;>cases a<;>cases b<;>simp_all
theorem lx {h:dR} {c:Bool} (hh: (!eR h.frm|| !eR h.to|| !iK h.num 1 99|| !iK h.til 1 999|| !iK h.size 1 24||decide (((cM h.got).length:Int)>14))=c):qW h= !c:=by
 subst hh
 rw[bI,aTg]
 unfold qW
 simp only[Bool.not_or,Bool.not_not]
theorem zV {k:aH} {c:Bool} (hh: (!eR k.id|| !dA k.log k.forced||decide (((aY k.halves).length:Int)>3)||(!k.up&&decide (((aY k.halves).length:Int)>0)))=c):jX k= !c:=by
 subst hh
 have e:decide ((k.halves.length:Int)>0)= !decide (k.halves.length=0):=by
  by_cases h:k.halves.length=0
  · rw[h];rfl
  · rw[decide_eq_true (show(k.halves.length:Int)>0 by omega),decide_eq_false h];rfl
 rw[aF,aTg,e]
 unfold jX
 simp only[Bool.not_or,Bool.not_not,Bool.not_and]
theorem xe {l:List UInt8} {f:Int} (h: (decide ((l.length:Int)>2400)|| !iK f 0 l.length)=true):dA l f=false:=by
 unfold dA
 rcases Bool.or_eq_true _ _▸h with h|h
 · rw[decide_eq_false (show ¬l.length≤2400 by have:=of_decide_eq_true h;omega)];rfl
 · rw[Bool.not_eq_true'] at h
   rw[h];simp
theorem sg {l:List UInt8} {f:Int} (h: (decide ((l.length:Int)>2400)|| !iK f 0 l.length)=false): (l.length≤2400∧0≤f∧f≤l.length)∧dA l f=(((bM l).2:Int)==(l.length:Int)&&((bM (l.take f.toNat)).2:Int)==f):=by
 rw[Bool.or_eq_false_iff] at h
 have h1:l.length≤2400:=by have:=of_decide_eq_false h.1;omega
 have h2:iK f 0 l.length=true:=by simpa using h.2
 have h3:0≤f∧f≤l.length:=by simpa[iK] using h2
 refine⟨⟨h1,h3⟩,?_⟩
 unfold dA
 rw[decide_eq_true h1,h2,Bool.true_and,Bool.true_and]
 congr 1
 by_cases e: (bM l).2=l.length
 · rw[e];simp
 · rw[decide_eq_false e]
   symm
   rw[beq_eq_false_iff_ne]
   omega
def aH.row (k:aH):List D:=[.i k.id,.b k.up,.s k.log,.i k.forced,.sl (aY k.halves)]
def eT (l:List UInt8) (f:Int):List UInt8×Int:=if dA l f then(l,l.length) else([],0)
def gI (l:List UInt8) (f keep:Int):Int:=f+(if 0<min keep (l.length - f) then min keep (l.length - f) else 0)
def jH (l:List UInt8) (f keep:Int):Nat:=(bM (l.take (gI l f keep).toNat)).2
def fU (l:List UInt8) (f keep:Int):List UInt8×Int:=if dA l f then(l.take (jH l f keep),jH l f keep) else([],0)
def cU (rec:List UInt8):List UInt8:=jZ rec.length++[58]++rec++[59]
def iY (rec:List UInt8):Bool:=iK rec.length 1 60
def bJ (l:List UInt8) (f:Int) (rec:List UInt8): (List UInt8×Int)×Bool:=
 if dA l f then(if iY rec&&decide (l.length+(cU rec).length≤2400) then((l++cU rec,f),true) else((l,f),false)) else(([],0),false)
def dD (recs:List (List UInt8)):List UInt8:=(recs.map cU).flatten
def eE (l:List UInt8) (f:Int) (recs:List (List UInt8)): (List UInt8×Int)×Bool:=
 if dA l f then(if recs.all iY&&decide ((dD recs).length≤2400) then((dD recs,(dD recs).length),true) else((l,f),false)) else(([],0),false)
theorem ly {l:List UInt8} {f keep:Int} (h:0≤f∧f≤l.length):f≤gI l f keep∧gI l f keep≤l.length:=by
 unfold gI
 split<;>omega
theorem iv (l:List UInt8) (f keep:Int):jH l f keep≤l.length:=by
 have:=(qP _ (l.take (gI l f keep).toNat) (aXi _)).1
 rw[aXc] at this
 unfold jH;omega
theorem xf {l:List UInt8} {f keep:Int}:jH l f keep≤(gI l f keep).toNat:=by
 have:=(qP _ (l.take (gI l f keep).toNat) (aXi _)).1
 rw[aXc] at this
 unfold jH;omega
theorem aMm {l:List UInt8} {f keep:Int}: (l.take (gI l f keep).toNat).take (jH l f keep)=l.take (jH l f keep):=by
 rw[List.take_take];congr 1;have:=xf (l:=l) (f:=f) (keep:=keep);omega
theorem aGi {n:Nat} (h:n<100): (jZ n).length≤2:=bS (k:=1) (by simpa using h)
theorem aGj {rec:List UInt8} (h:iY rec=true):rec.length+3≤(cU rec).length∧(cU rec).length≤rec.length+4∧rec.length≤60:=by
 have h1: (1:Int)≤rec.length∧(rec.length:Int)≤60:=by simpa[iY,iK] using h
 have h2:=aGi (n:=rec.length) (by omega)
 have h3:1≤(jZ rec.length).length:=List.length_pos_iff.2 (aDq _)
 simp only[cU,aW7,aW9,aXa];omega
theorem nZ {rec:List UInt8} (h:rec.length≤900000): (cU rec).length≤rec.length+8:=by
 have h2:=bS (k:=5) (n:=rec.length) (by simp;omega)
 simp only[cU,aW7,aW9,aXa];omega
theorem aD0 (recs:List (List UInt8)) (r:List UInt8):dD (recs++[r])=dD recs++cU r:=by simp[dD]
theorem aGk:dD []=[]:=rfl
def dM (k:aH) (keep:Int):aH:=if aR k then⟨k.id,false,(fU k.log k.forced keep).1,(fU k.log k.forced keep).2,[]⟩ else .zero
def dP (k:aH):aH:=if aR k then{k with up:=true} else .zero
def jN (k:aH):aH:={k with log:=(eT k.log k.forced).1,forced:=(eT k.log k.forced).2}
def eS (k:aH):aH×Bool:=if aR k then(if !k.up||k.forced==k.log.length then(k,false) else(jN k,true)) else(.zero,false)
def bR (k:aH):bC:=if aR k then(aZ k).1 else .zero
theorem eK {k:aH} (h:aR k=true):jX k=true∧k.log.length≤2400∧(0≤k.forced∧k.forced≤k.log.length)∧k.halves.length≤3∧(k.up=true∨k.halves=[])∧ ∀x∈k.halves,x.got.length≤14:=by
 have h1:jX k=true:=by
  cases hh:jX k with
  |true=>rfl
  |false=>rw[xF hh] at h;cases h
 obtain⟨_,q1,q2,q3⟩:=eJ h1
 obtain⟨q4,q5,_,_⟩:=iC q1
 refine⟨h1,q4,q5,q2,q3.imp (fun h=>h) (fun h=>List.eq_nil_of_length_eq_zero h),fun x hx=> ?_⟩
 unfold aR at h
 rw[aXb] at h
 obtain⟨i,hi⟩:=aXq.1 hx
 have hlt:=(aXh.1 hi).1
 have h2:=aXl.1 h.2 i (List.mem_range.2 hlt)
 unfold iI at h2
 rw[aXb] at h2
 have h3:=h2.1
 rw[aXe,hi] at h3
 have h3:mJ x=true:=h3
 unfold mJ at h3
 rw[aXb] at h3
 exact(lV h3.1).2.2.2.2.2
def ju (k:aH):Prop:=k.log.length≤2400∧k.halves.length≤4∧ ∀x∈k.halves,x.got.length≤15
theorem aMn {k:aH} (h:aR k=true) (hu:k.up=false):dP k=⟨k.id,true,k.log,k.forced,[]⟩:=by
 obtain⟨_,_,_,_,h4,_⟩:=eK h
 have h5:k.halves=[]:=by
  rcases h4 with h4|h4
  · rw[hu] at h4;cases h4
  · exact h4
 rw[dP,if_pos h,← h5]
def xG (b:Int):Nat→Int
 |0=>0
 |d+1=>xG b d+nW b ((d+1:Nat):Int)
def pd (b n:Int):Int:=aXm (wrap64 (Int.tdiv (eX (eX (wrap64 (wrap64 (n*31)+b)))) 16)) (xG b b.toNat)
def bu (b:Int) (r:Int):Nat→Nat→Int
 |0,_=>b
 |f+1,d=>if(d:Int)<b then(if r<xG b d then d else bu b r f (d+1)) else b
def kZ (b n:Int):Int:=if tQ b n then(if n<b then 1 else bu b (pd b n) 6 1) else 0
theorem vO {b:Int} (hb:1≤b∧b≤6): ∀{d:Nat},(d:Int)≤6→0≤xG b d∧xG b d≤70*d∧(1≤d→10≤xG b d)
 |0,_=>by simp[xG]
 |d+1,h=>by
  have ih:=vO hb (d:=d) (by omega)
  have hw:=vI (b:=b) (d:=((d+1:Nat):Int)) hb (by omega)
  unfold xG
  refine⟨by omega,by omega,fun _=> ?_⟩
  by_cases h0:d=0
  · subst h0
    have:=hw.2.2 rfl
    omega
  · have:=ih.2.2 (by omega);omega
theorem xg {b r:Int} (hb:1≤b): ∀(f d:Nat),1≤d→1≤bu b r f d∧bu b r f d≤b
 |0,d,h=>by unfold bu;omega
 |f+1,d,h=>by
  unfold bu
  split
  · split
    · omega
    · exact xg hb f (d+1) (by omega)
  · omega
theorem tT {b n:Int} (h:tQ b n=true):1≤kZ b n∧kZ b n≤b:=by
 obtain⟨hb,_⟩:=xZ h
 unfold kZ
 rw[if_pos h]
 split
 · omega
 · exact xg hb.1 6 1 (aXi _)
theorem aPh {b r:Int} {f d:Nat} (hd: (d:Int)<b) (h:r<xG b d):bu b r (f+1) d=d:=by
 unfold bu;rw[if_pos hd,if_pos h]
theorem aMo {b r:Int} {f d:Nat} (hd: (d:Int)<b) (h: ¬r<xG b d):bu b r (f+1) d=bu b r f (d+1):=by
 conv=>lhs;unfold bu
 rw[if_pos hd,if_neg h]
theorem lz {b r:Int} {f d:Nat} (hd: ¬(d:Int)<b):bu b r f d=b:=by
 cases f with
 |zero=>rfl
 |succ f=>unfold bu;rw[if_neg hd]
def tG (u:List Bool) (b:Int):Nat→Int→Int
 |0,a=>a
 |f+1,a=>if u.getD a.toNat false then tG u b f (aXm (wrap64 (a+1)) b) else a
def zW (b x:Int) (u:List Bool):List Bool:=u.set (tG u b 6 (aXm (wrap64 (Int.tdiv (eX x) 16)) b)).toNat true
def aGl (b:Int):Nat→Int→List Bool→List Bool
 |0,_,u=>u
 |k+1,x,u=>aGl b k (eX x) (zW b x u)
def xH (b n:Int):List Bool:=aGl b (kZ b n).toNat (eX (wrap64 (wrap64 (n*7)+1))) (List.replicate 6 false)
def aU4 (u:List Bool):List Int:=((aXj u.length).filter fun i=>u.getD i false).map fun(i:Nat)=>((i:Nat):Int)
def cQ (b n:Int):List Int:=if tQ b n then(if n<b then [n] else aU4 (xH b n)) else []
theorem fe {u:List Bool} {b a:Int} {f:Nat} (h:u.getD a.toNat false=false):tG u b f a=a:=by
 cases f with
 |zero=>rfl
 |succ f=>unfold tG;rw[h];rfl
theorem zX {u:List Bool} {b a:Int} {f:Nat} (h:u.getD a.toNat false=true):tG u b (f+1) a=tG u b f (aXm (wrap64 (a+1)) b):=by
 conv=>lhs;unfold tG
 rw[if_pos h]
theorem xh {u:List Bool} {b:Int} (hb:1≤b∧b≤6) {f:Int} (hf:0≤f∧f<b) (hfree:u.getD f.toNat false=false): ∀(g:Nat) (a:Int),0≤a∧a<b→((f+b - a) % b).toNat≤g→
 (0≤tG u b g a∧tG u b g a<b)∧u.getD (tG u b g a).toNat false=false
 |0,a,ha,hg=>by
  have e:a=f:=by
   by_cases h:a<f
   · have: (f+b - a) % b=f - a:=by
      rw[show f+b - a=(f - a)+b by omega,Int.add_emod_right,Int.emod_eq_of_lt (by omega) (by omega)]
     omega
   · by_cases h2:a=f
     · exact h2
     · have: (f+b - a) % b=f+b - a:=Int.emod_eq_of_lt (by omega) (by omega)
       omega
  subst e
  exact⟨ha,hfree⟩
 |g+1,a,ha,hg=>by
  cases hu:u.getD a.toNat false with
  |false=>rw[fe hu];exact⟨ha,hu⟩
  |true=>
   have hne:a≠f:=fun e=>by subst e;rw[hfree] at hu;cases hu
   obtain⟨q1,q2⟩:=aIm hb hf ha hne
   rw[zX hu]
   exact xh hb hf hfree g _ q2 (by omega)
theorem aCh {b x:Int} (hb:1≤b∧b≤6):0≤aXm (wrap64 (Int.tdiv (eX x) 16)) b∧aXm (wrap64 (Int.tdiv (eX x) 16)) b<b:=by
 have hr:=cp x
 exact nV (x:=wrap64 (Int.tdiv (eX x) 16)) (n:=b) (by rw[aB (by have:=pP hr.1 (n:=16) (by omega);omega)];exact(pP hr.1 (by omega)).1) hb.1
def UOk (b:Int) (u:List Bool):Prop:=u.length=6∧ ∀i:Nat,b≤i→u.getD i false=false
theorem aGm {b:Int} {u:List Bool} (hb:1≤b∧b≤6) (h:UOk b u) (hc: (u.count true:Int)<b): ∃f:Int,(0≤f∧f<b)∧u.getD f.toNat false=false:=by
 obtain⟨f,hf1,hf2⟩:=aFx (u:=u.take b.toNat) (by
  have h1: (u.take b.toNat).count true≤u.count true:=(List.take_sublist _ _).count_le _
  rw[aXc,h.1];omega)
 rw[aXc,h.1] at hf1
 refine⟨f,by omega,?_⟩
 rw[yD (by omega)] at hf2
 rw[aW6];exact hf2
theorem aGn {b x:Int} {u:List Bool} (hb:1≤b∧b≤6) (h:UOk b u) (hc: (u.count true:Int)<b):UOk b (zW b x u)∧(zW b x u).count true=u.count true+1:=by
 obtain⟨f,hf,hfree⟩:=aGm hb h hc
 have ha:=aCh (x:=x) hb
 obtain⟨q1,q2⟩:=xh hb hf hfree 6 _ ha (by
  have:=Int.emod_lt_of_pos (f+b - aXm (wrap64 (Int.tdiv (eX x) 16)) b) (show 0<b by omega)
  have:=Int.emod_nonneg (f+b - aXm (wrap64 (Int.tdiv (eX x) 16)) b) (show b≠0 by omega)
  omega)
 refine⟨⟨by rw[zW,List.length_set];exact h.1,fun i hi=> ?_⟩,?_⟩
 · rw[zW,aXe,List.getElem?_set_ne (by omega),← aXe]
   exact h.2 i hi
 · exact aLx (by rw[h.1];omega) q2
theorem yH (b:Int):UOk b (List.replicate 6 false)∧(List.replicate 6 false).count true=0:=by
 refine⟨⟨rfl,fun i _=> ?_⟩,rfl⟩
 rw[aXe,List.getElem?_replicate]
 split<;>rfl
def dT (t:List UInt8):List (List UInt8):=if iK t.length 1 24 then(aXj ((t.length+3) / 4)).map fun i=>(aXj 4).map fun j=>t.getD (4*i+j) 0 else []
def aAi (a b:List UInt8):List UInt8:=(aXj 4).map fun i=>u8 (nq (jF a i) (jF b i))
def yI (bl:List (List UInt8)):List UInt8→List Int→List UInt8
 |x,[]=>x
 |x,k::ks=>yI bl (aAi x (bl.getD k.toNat [])) ks
def zY (t:List UInt8) (n:Int):List UInt8:=
 if dT t=[]∨cQ (dT t).length n=[] then [] else yI (dT t) [0,0,0,0] (cQ (dT t).length n)
def lQ (n:Nat):List UInt8:=jG++[32]++jZ n
def pJ (n:Nat):List UInt8:=jM++[32]++jZ n
def iE (w:List UInt8) (m:cA):List UInt8:=w++[32]++jZ m.frm.toNat++[32]++jZ m.num.toNat++[32]++jZ m.til.toNat
def cT (w:List UInt8) (n:bA):List UInt8:=w++[32]++fZ n
def iw (k:bC):List (List UInt8):=
 (if 0<k.time then [lQ k.time.toNat] else [])++(if 1<k.next then [pJ k.next.toNat] else [])++k.marks.map (iE iF)++k.held.map (cT hG)++k.inbox.map (cT fP)
def eH (k:bC):List (List UInt8):=if dC k then iw k else []
def jC (k:aH) (s:List UInt8×Int):aH:={k with log:=s.1,forced:=s.2}
def jD (k:aH) (rec:List UInt8):aH×Bool:=
 if(cL (aZ k).1 rec).2 then
  if(bJ k.log k.forced rec).2 then(jC k (bJ k.log k.forced rec).1,true)
  else if(eE k.log k.forced (eH (aZ k).1)).2 then
   if(bJ (eE k.log k.forced (eH (aZ k).1)).1.1 (eE k.log k.forced (eH (aZ k).1)).1.2 rec).2 then
    (jC k (bJ (eE k.log k.forced (eH (aZ k).1)).1.1 (eE k.log k.forced (eH (aZ k).1)).1.2 rec).1,true)
   else(k,false)
  else(k,false)
 else(k,false)
def cY (k:aH) (rec:List UInt8):aH×Bool:=if(jD k rec).2 then(jN (jD k rec).1,true) else(k,false)
def dY (k:aH):aH×Bool:=if aR k then(if k.up then cY k (lQ ((aZ k).1.time+1).toNat) else(k,false)) else(.zero,false)
def iJ (k:aH) (to til:Int) (text:List UInt8):bA:=⟨k.id,(aZ k).1.next,to,til,text⟩
def bD (k:aH) (to til:Int) (text:List UInt8):aH×Int:=
 if aR k then(if k.up then(if(cY k (cT iG (iJ k to til text))).2 then((cY k (cT iG (iJ k to til text))).1,(aZ k).1.next) else(k,0)) else(k,0)) else(.zero,0)
def nL (k:aH) (f n:Int):List UInt8:=iE jY ⟨f,n,((aZ k).1.inbox.getD (aS (aZ k).1.inbox f n).toNat .zero).til⟩
def aX (k:aH) (f n:Int):aH×bA×Bool:=
 if aR k then
  (if k.up&&decide (0≤aS (aZ k).1.inbox f n) then(if(cY k (nL k f n)).2 then((cY k (nL k f n)).1,(aZ k).1.inbox.getD (aS (aZ k).1.inbox f n).toNat .zero,true) else(k,.zero,false)) else(k,.zero,false))
 else(.zero,.zero,false)
def cF.zero:cF:=⟨0,0,0,0,0,0,0,0,0,[]⟩
def aGo (k:aH) (n:bA) (mix:Int):cF:=⟨1,k.id,iX k.id n.to,n.frm,n.num,n.to,n.til,n.text.length,mix,zY n.text mix⟩
def eQ (k:aH) (f n mix:Int):cF×Bool:=
 if aR k&&k.up&&iK mix 0 999&&decide (0≤aS (aZ k).1.held f n) then(aGo k ((aZ k).1.held.getD (aS (aZ k).1.held f n).toNat .zero) mix,true) else(.zero,false)
def eN (k:aH):aH×Bool:=
 if aR k then(if k.up&&(eE k.log k.forced (eH (aZ k).1)).2 then(jC k (eE k.log k.forced (eH (aZ k).1)).1,true) else(k,false)) else(.zero,false)
section
variable {τ σ':St} {rl:List (Nat×Nat)} {bor:List Nat} {r:St}
end
section
variable {P:Program} {T:hO} {o:Oper} {σ:St} {x y:Operand} {d ob j:Nat} {t ty:TypeId} {ti:TI} {Rx Ry:List (dH×Option K)} {k:List (dH×Option K)→List (dH×K)→Prop}
end
theorem aD1 {d:Int} (h:2≤d∧d≤6):wrap64 (d*wrap64 (d - 1))≠0:=by
 rw[aB (n:=d - 1) (by omega)]
 have:d=2∨d=3∨d=4∨d=5∨d=6:=by omega
 rcases this with rfl|rfl|rfl|rfl|rfl<;>(rw[aB (by omega)];omega)
theorem th {b n:Int} (h:tQ b n=true) (hn:n<b):kZ b n=1:=by rw[kZ,if_pos h,if_pos hn]
theorem aAj {b n:Int} (h:tQ b n=true) (hn: ¬n<b):kZ b n=bu b (pd b n) 6 1:=by rw[kZ,if_pos h,if_neg hn]
theorem aMp {b r:Int} {j:Nat} (hj:j+1≤6) (hle: ((j+1:Nat):Int)≤b) (h: ¬r<xG b (j+1)):bu b r (6 - j) (j+1)=bu b r (6 - (j+1)) (j+1+1):=by
 by_cases hb: ((j+1:Nat):Int)<b
 · rw[show 6 - j=(6 - (j+1))+1 by omega,aMo hb h]
 · rw[lz hb,lz (by omega)]
theorem aMq {b r:Int} {j:Nat} (hj:j+1≤6) (hle: ((j+1:Nat):Int)≤b) (h:r<xG b (j+1)):bu b r (6 - j) (j+1)=((j+1:Nat):Int):=by
 by_cases hb: ((j+1:Nat):Int)<b
 · rw[show 6 - j=(6 - (j+1))+1 by omega,aPh hb h]
 · rw[lz hb];omega
theorem aIz {b n:Int} (hb:1≤b∧b≤6):0≤pd b n∧pd b n<xG b b.toNat:=by
 have h1:=(vO hb (d:=b.toNat) (by omega)).2.2 (by omega)
 have hr:=cp (eX (wrap64 (wrap64 (n*31)+b)))
 exact nV (x:=wrap64 (Int.tdiv (eX (eX (wrap64 (wrap64 (n*31)+b)))) 16)) (by rw[aB (by have:=pP hr.1 (n:=16) (by omega);omega)];exact(pP hr.1 (by omega)).1) (by omega)
theorem xi {u:List Bool} {b:Int} (hb:1≤b∧b≤6) {f:Int} (hf:0≤f∧f<b) (hfree:u.getD f.toNat false=false): ∀(g h:Nat) (a:Int),0≤a∧a<b→((f+b - a) % b).toNat≤g→((f+b - a) % b).toNat≤h→tG u b g a=tG u b h a
 |g,h,a,ha,hg,hh=>by
  cases hu:u.getD a.toNat false with
  |false=>rw[fe hu,fe hu]
  |true=>
   have hne:a≠f:=fun e=>by subst e;rw[hfree] at hu;cases hu
   obtain⟨q1,q2⟩:=aIm hb hf ha hne
   match g,h,hg,hh with
   |0,_,hg,_=>omega
   |_+1,0,_,hh=>omega
   |g+1,h+1,hg,hh=>
    rw[zX hu,zX hu]
    exact xi hb hf hfree g h _ q2 (by omega) (by omega)
theorem aPi {u:List Bool} {b:Int} (hb:1≤b∧b≤6) {f:Int} (hf:0≤f∧f<b) (hfree:u.getD f.toNat false=false) {a:Int} (ha:0≤a∧a<b) (hu:u.getD a.toNat false=true):tG u b 6 a=tG u b 6 (aXm (wrap64 (a+1)) b):=by
 have h1:=Int.emod_lt_of_pos (f+b - a) (show 0<b by omega)
 have h2:=Int.emod_nonneg (f+b - a) (show b≠0 by omega)
 rw[xi hb hf hfree 6 7 a ha (by omega) (by omega),zX hu]
def pS (u:List Bool) (i:Nat):List Int:=((aXj i).filter fun i=>u.getD i false).map fun(i:Nat)=>((i:Nat):Int)
theorem xj {u:List Bool} {i:Nat} (h:u.getD i false=true):pS u (i+1)=pS u i++[(i:Int)]:=by
 unfold pS
 rw[List.range_succ,List.filter_append,List.map_append,List.filter_cons_of_pos (by exact h)]
 rfl
theorem pf {u:List Bool} {i:Nat} (h:u.getD i false=false):pS u (i+1)=pS u i:=by
 unfold pS
 rw[List.range_succ,List.filter_append,List.map_append,List.filter_cons_of_neg (by rw[h];exact Bool.false_ne_true)]
 exact List.append_nil _
theorem xk {u:List Bool}:pS u u.length=aU4 u:=rfl
theorem sh {u:List Bool} {i:Nat} (h: ∀j,i≤j→u.getD j false=false): ∀{m:Nat},i≤m→pS u m=pS u i
 |0,hm=>by rw[Nat.le_zero.1 hm]
 |m+1,hm=>by
  by_cases e:i=m+1
  · rw[e]
  · rw[pf (h m (by omega)),sh h (by omega)]
theorem gg (u:List Bool) (i:Nat): (pS u i).length≤i:=by
 unfold pS
 rw[List.length_map]
 exact Nat.le_trans (List.length_filter_le _ _) (by simp)
theorem aI0 {u:List Bool} {i:Nat} {x:Int} (h:x∈pS u i):0≤x∧u.getD x.toNat false=true:=by
 unfold pS at h
 obtain⟨j,hj,rfl⟩:=aXk.1 h
 have:=(List.mem_filter.1 hj).2
 exact⟨by omega,by rw[aW6];exact this⟩
theorem zZ {b n:Int} (h: ¬tQ b n=true):cQ b n=[]:=if_neg h
theorem cw {b n:Int} (h:tQ b n=true) (hn:n<b):cQ b n=[n]:=by rw[cQ,if_pos h,if_pos hn]
theorem pg {b n:Int} (h:tQ b n=true) (hn: ¬n<b):cQ b n=aU4 (xH b n):=by rw[cQ,if_pos h,if_neg hn]
theorem ph {b:Int} (hb:1≤b∧b≤6): ∀(k:Nat) (x:Int) (u:List Bool),UOk b u→((u.count true:Int)+k≤b)→UOk b (aGl b k x u)
 |0,x,u,h,_=>h
 |k+1,x,u,h,hc=>by
  obtain⟨h1,h2⟩:=aGn (x:=x) hb h (by omega)
  exact ph hb k (eX x) _ h1 (by rw[h2];omega)
theorem wH {b n:Int}: ∀x∈cQ b n,0≤x∧x<b:=by
 intro x hx
 by_cases h:tQ b n=true
 · obtain⟨hb,hn⟩:=xZ h
   by_cases hs:n<b
   · rw[cw h hs] at hx
     simp at hx;omega
   · rw[pg h hs] at hx
     have hu:UOk b (xH b n):=ph hb _ _ _ (yH b).1 (by rw[(yH b).2];have:=tT h;omega)
     obtain⟨q1,q2⟩:=aI0 (i:=(xH b n).length) hx
     refine⟨q1,?_⟩
     by_cases hlt:x<b
     · exact hlt
     · rw[hu.2 x.toNat (by omega)] at q2;cases q2
 · rw[zZ h] at hx;cases hx
theorem ma (b n:Int): (cQ b n).length≤6:=by
 by_cases h:tQ b n=true
 · obtain⟨hb,hn⟩:=xZ h
   by_cases hs:n<b
   · rw[cw h hs];simp
   · rw[pg h hs]
     have hu:UOk b (xH b n):=ph hb _ _ _ (yH b).1 (by rw[(yH b).2];have:=tT h;omega)
     rw[← xk]
     have:=gg (xH b n) (xH b n).length
     have:=hu.1;omega
 · rw[zZ h];simp
def cy (t:List UInt8) (i c:Nat):List UInt8:=(aXj c).map fun j=>t.getD (4*i+j) 0
def wI (t:List UInt8) (k:Nat):List (List UInt8):=(aXj k).map fun i=>cy t i 4
def xl (a b:List UInt8) (k:Nat):List UInt8:=(aXj k).map fun i=>u8 (nq (jF a i) (jF b i))
theorem aa (t:List UInt8) (i c:Nat):cy t i (c+1)=cy t i c++[t.getD (4*i+c) 0]:=by
 unfold cy;rw[List.range_succ,List.map_append];rfl
theorem aI1 (t:List UInt8) (k:Nat):wI t (k+1)=wI t k++[cy t k 4]:=by
 unfold wI;rw[List.range_succ,List.map_append];rfl
theorem aI2 (a b:List UInt8) (k:Nat):xl a b (k+1)=xl a b k++[u8 (nq (jF a k) (jF b k))]:=by
 unfold xl;rw[List.range_succ,List.map_append];rfl
theorem mM (t:List UInt8) (i c:Nat): (cy t i c).length=c:=by simp[cy]
theorem ab (t:List UInt8) (k:Nat): (wI t k).length=k:=by simp[wI]
theorem mb (a b:List UInt8) (k:Nat): (xl a b k).length=k:=by simp[xl]
theorem xm {t:List UInt8} (h:iK t.length 1 24=true):dT t=wI t ((t.length+3) / 4):=if_pos h
theorem aCi {t:List UInt8} (h: ¬iK t.length 1 24=true):dT t=[]:=if_neg h
theorem aI3 {t:List UInt8}: (dT t).length≤6∧ ∀x∈dT t,x.length=4:=by
 by_cases h:iK t.length 1 24=true
 · rw[xm h]
   refine⟨?_,fun x hx=> ?_⟩
   · rw[ab]
     have h1: (1:Int)≤t.length∧(t.length:Int)≤24:=by simpa[iK] using h
     omega
   · obtain⟨i,_,rfl⟩:=aXk.1 hx
     exact mM t i 4
 · rw[aCi h];exact⟨by simp,fun x hx=>by cases hx⟩
theorem sj (a b:List UInt8): (aAi a b).length=4:=by simp[aAi]
theorem xn (bl:List (List UInt8)): ∀(x:List UInt8) (l:List Int) (k:Int),yI bl x (l++[k])=aAi (yI bl x l) (bl.getD k.toNat [])
 |x,[],k=>rfl
 |x,j::l,k=>xn bl _ l k
def aPj (bl:List (List UInt8)) (ks:List Int) (i:Nat):List UInt8:=if i=0 then [] else yI bl [0,0,0,0] (ks.take i)
theorem aI4 {bl:List (List UInt8)} {ks:List Int} {i:Nat} (h:i<ks.length) {x:List UInt8}:yI bl x (ks.take (i+1))=aAi (yI bl x (ks.take i)) (bl.getD (ks.getD i 0).toNat []):=by
 rw[eP (z:=0) h,xn]
theorem mc {bl:List (List UInt8)} {ks:List Int}: ∀{x:List UInt8},x.length=4→(yI bl x ks).length=4:=by
 induction ks with
 |nil=>intro x h;exact h
 |cons k ks ih=>intro x h;exact ih (sj _ _)
theorem md {t:List UInt8} {n:Int} (h:dT t=[]∨cQ (dT t).length n=[]):zY t n=[]:=if_pos h
theorem me {t:List UInt8} {n:Int} (h: ¬(dT t=[]∨cQ (dT t).length n=[])):zY t n=yI (dT t) [0,0,0,0] (cQ (dT t).length n):=if_neg h
theorem aI5 (n:Int):cQ ((([]:List (List UInt8)).length:Nat):Int) n=[]:=zZ (by simp[tQ,iK])
theorem aI6 {t:List UInt8} {n:Int}:zY t n=aPj (dT t) (cQ (dT t).length n) (cQ (dT t).length n).length:=by
 by_cases h:cQ (dT t).length n=[]
 · rw[md (.inr h),h];rfl
 · have h2: ¬dT t=[]:=fun e=>h (by rw[e];exact aI5 n)
   rw[me (by rintro(h3|h3);exact h2 h3;exact h h3),aPj,if_neg (by rw[List.length_eq_zero_iff];exact h),aXn]
theorem xo (t:List UInt8) (n:Int): (zY t n).length≤4:=by
 rw[aI6,aPj]
 split
 · simp
 · rw[mc rfl];omega
theorem aU5 {t:List UInt8} {n:Int} {i:Nat} (h:i< (cQ (dT t).length n).length):0≤(cQ (dT t).length n).getD i 0∧(cQ (dT t).length n).getD i 0< (dT t).length∧((dT t).getD ((cQ (dT t).length n).getD i 0).toNat []).length=4:=by
 have h1:=wH (b:=(dT t).length) (n:=n) ((cQ (dT t).length n).getD i 0) (by rw[aXe,aXg h];exact List.getElem_mem _)
 refine⟨h1.1,h1.2,(aI3 (t:=t)).2 _ ?_⟩
 rw[aXe,aXg (by omega)];exact List.getElem_mem _
theorem getD_none {α:Type} {l:List α} {i:Nat} {z:α} (h:l.length≤i):l.getD i z=z:=by
 rw[aXe,List.getElem?_eq_none h];rfl
deriving instance DecidableEq for cF
theorem aMr {k:bC} {r:List UInt8} (h: (cL k r).2=true):dC (cL k r).1=true:=by
 unfold cL at h ⊢
 split at h
 · rename_i hk
   rw[if_pos hk]
   unfold kW at h ⊢
   split at h
   · rename_i hx
     rw[if_pos hx]
     simp only[aXb] at hx
     exact hx.2
   · cases h
 · cases h
theorem aCj: ∀{rs:List (List UInt8)} {k:bC},dC k=true→(gX k rs).2=true→dC (gX k rs).1=true
 | [],k,hk,h=>hk
 |r::rs,k,hk,h=>by
  unfold gX at h ⊢
  split at h
  · rename_i hd
    rw[if_pos hd]
    exact aCj (aMr hd) h
  · cases h
theorem aD2 {id:Int} (h:eR id=true):dC (dU id)=true:=by
 simp[dC,dU,h,iK,kC,oK]
theorem aMs {id:Int} {rs:List (List UInt8)} (h: (eU id rs).2=true):dC (eU id rs).1=true:=by
 unfold eU at h ⊢
 split at h
 · rename_i hn
   rw[if_pos hn]
   exact aCj (aD2 hn) h
 · cases h
theorem gA {k:aH} (h:aR k=true):dC (aZ k).1=true:=by
 unfold aR at h
 simp only[aXb] at h
 exact aMs h.1.1.2
theorem kJ {k:aH} (h:aR k=true):bR k=(aZ k).1:=if_pos h
theorem aD3 {k:aH} (h: ¬aR k=true):bR k= .zero:=if_neg h
theorem mf {k:aH} {f n mix:Int} (h: ¬(aR k&&k.up&&iK mix 0 999&&decide (0≤aS (aZ k).1.held f n))=true):eQ k f n mix=(.zero,false):=if_neg h
theorem aAk {k:aH} {f n mix:Int} (h1:aR k=true) (h2:k.up=true) (h3:iK mix 0 999=true) (h4:0≤aS (aZ k).1.held f n):eQ k f n mix=(aGo k ((aZ k).1.held.getD (aS (aZ k).1.held f n).toNat .zero) mix,true):=by
 unfold eQ
 rw[if_pos (by rw[h1,h2,h3,decide_eq_true h4];rfl)]
theorem sB {k:aH} (h:aR k=true) {f n:Int} (hp:0≤aS (aZ k).1.held f n): ∃j:Nat,aS (aZ k).1.held f n=j∧j< (aZ k).1.held.length∧((aZ k).1.held.getD j .zero).text.length≤140737488355328:=by
 obtain⟨j,hj⟩:=Int.eq_ofNat_of_zero_le hp
 have hlt:=(fT (aZ k).1.held f n).2
 refine⟨j,hj,by omega,?_⟩
 have h6:=eZ (gA h)
 exact h6.2.1 _ (dB (z:=bA.zero) (l:=(aZ k).1.held) (i:=j) (by omega))
structure qX where
 frm:Int
 to:Int
 data:List UInt8
 done:Bool
 deriving DecidableEq
def qX.row (p:qX):List D:=[.i p.frm,.i p.to,.s p.data,.b p.done]
abbrev qX.V (p:qX):V:= .e (.agg [.d (.i p.frm),.d (.i p.to),.d (.s p.data),.d (.b p.done)])
def qX.zero:qX:=⟨0,0,[],false⟩
def xq (l:List qX):List (List D):=l.map qX.row
def aG (l:List aH):List (List D):=l.map aH.row
structure pj where
 time:Int
 keepers:List aH
 links:List Bool
 radio:List qX
 sent:List bA
 got:List bA
 deriving DecidableEq
def pj.row (r:pj):List D:=[.i r.time,.sl (aG r.keepers),.sl (aM r.links),.sl (xq r.radio),.sl (aE r.sent),.sl (aE r.got)]
abbrev pj.V (r:pj):V:= .e (.agg [.d (.i r.time),.d (.sl (aG r.keepers)),.d (.sl (aM r.links)),.d (.sl (xq r.radio)),.d (.sl (aE r.sent)),.d (.sl (aE r.got))])
def pj.zero:pj:=⟨0,[],[],[],[],[]⟩
theorem bE (l:List aH): (aG l).length=l.length:=by simp[aG]
theorem bY {l:List aH} {i:Nat} (h:i<l.length): (aG l).getD i []=(l.getD i aH.zero).row:=by
 rw[aXe,aXe]
 simp[aG,h]
theorem mh {l:List UInt8} {f:Int} {rec:List UInt8} (h: ¬dA l f=true):bJ l f rec=(([],0),false):=if_neg h
theorem wJ {l:List UInt8} {f:Int} {rec:List UInt8} (h:dA l f=true) (h2: ¬(iY rec=true∧l.length+(cU rec).length≤2400)):bJ l f rec=((l,f),false):=by
 unfold bJ
 rw[if_pos h,if_neg (by simpa using h2)]
theorem qY {l:List UInt8} {f:Int} {rec:List UInt8} (h:dA l f=true) (h2:iY rec=true∧l.length+(cU rec).length≤2400):bJ l f rec=((l++cU rec,f),true):=by
 unfold bJ
 rw[if_pos h,if_pos (by simpa using h2)]
theorem gh {l:List UInt8} {f:Int} {recs:List (List UInt8)} (h: ¬dA l f=true):eE l f recs=(([],0),false):=if_neg h
theorem uK {l:List UInt8} {f:Int} {recs:List (List UInt8)} (h:dA l f=true) (h2: ¬(recs.all iY=true∧(dD recs).length≤2400)):eE l f recs=((l,f),false):=by
 unfold eE
 rw[if_pos h,if_neg (by simpa using h2)]
theorem xI {l:List UInt8} {f:Int} {recs:List (List UInt8)} (h:dA l f=true) (h2:recs.all iY=true∧(dD recs).length≤2400):eE l f recs=((dD recs,((dD recs).length:Int)),true):=by
 unfold eE
 rw[if_pos h,if_pos (by simpa using h2)]
theorem mi {recs:List (List UInt8)} {i:Nat} (h:i<recs.length):dD (recs.take (i+1))=dD (recs.take i)++cU (recs.getD i []):=by
 rw[eP (z:=[]) h,aD0]
theorem xr (recs:List (List UInt8)) (i:Nat): (dD (recs.take i)).length≤(dD recs).length:=by
 conv=>rhs;rw[← List.take_append_drop i recs]
 unfold dD
 rw[List.map_append,List.flatten_append,aW7]
 omega
theorem xJ: ∀{recs:List (List UInt8)},(∀r∈recs,r.length≤900000)→(dD recs).length≤recs.length*900008
 | [],_=>by simp[dD]
 |r::recs,h=>by
  have h1:=nZ (h r (List.mem_cons_self ..))
  have h2:=xJ (recs:=recs) fun x hx=>h x (List.mem_cons_of_mem _ hx)
  have h3:=h r (List.mem_cons_self ..)
  have e:dD (r::recs)=cU r++dD recs:=by simp[dD]
  rw[e,aW7,aW9]
  omega
theorem aGp {recs:List (List UInt8)} {i:Nat} (h:i<recs.length) (hb:iY (recs.getD i [])=false): ¬recs.all iY=true:=by
 intro h9
 rw[aXl.1 h9 _ (dB h)] at hb
 cases hb
theorem aCk {recs:List (List UInt8)} (hk: ∀j,j<recs.length→iY (recs.getD j [])=true):recs.all iY=true:=by
 rw[aXl]
 intro x hx
 obtain⟨i,hi⟩:=aXq.1 hx
 have hlt:=(aXh.1 hi).1
 have:=hk i hlt
 rw[aXe,hi] at this
 exact this
theorem mj {a:Bool} {n m:Nat} {c:Bool} (h: (!a||decide (wrap64 ((n:Int)+(m:Int))>2400))=c) (hn:n≤2400) (hm:m≤1000000): (a=true∧n+m≤2400)↔c=false:=by
 subst h
 rw[aB (by omega)]
 cases a
 · simp
 · simp;omega
theorem aPk {a:Bool} {n:Nat} (h: (!a||decide ((n:Int)>2400))=false):a=true∧n≤2400:=by
 cases a
 · cases h
 · exact⟨rfl,by have h9:=of_decide_eq_false (show decide ((n:Int)>2400)=false from h);omega⟩
theorem aMt {a:Bool} {n:Nat} (h: (!a||decide ((n:Int)>2400))=true):a=false∨2400<n:=by
 cases a
 · exact .inl rfl
 · exact .inr (by have h9:=of_decide_eq_true (show decide ((n:Int)>2400)=true from h);omega)
def vP (k:bC):List (List UInt8):=if 0<k.time then [lQ k.time.toNat] else []
def yJ (k:bC):List (List UInt8):=vP k++(if 1<k.next then [pJ k.next.toNat] else [])
def oU (k:bC) (i:Nat):List (List UInt8):=yJ k++(k.marks.take i).map (iE iF)
def pY (k:bC) (i:Nat):List (List UInt8):=oU k k.marks.length++(k.held.take i).map (cT hG)
def oV (k:bC) (i:Nat):List (List UInt8):=pY k k.held.length++(k.inbox.take i).map (cT fP)
theorem aCl {k:bC} (h:k.time>0):vP k=[lQ k.time.toNat]:=if_pos h
theorem aGq {k:bC} (h: ¬k.time>0):vP k=[]:=if_neg h
theorem aCm {k:bC} (h:k.next>1):yJ k=vP k++[pJ k.next.toNat]:=by rw[yJ,if_pos h]
theorem aGr {k:bC} (h: ¬k.next>1):yJ k=vP k:=by rw[yJ,if_neg h,List.append_nil]
theorem xu (k:bC):oU k 0=yJ k:=by simp[oU]
theorem xv (k:bC):pY k 0=oU k k.marks.length:=by simp[pY]
theorem xw (k:bC):oV k 0=pY k k.held.length:=by simp[oV]
theorem xx {k:bC} {i:Nat} (h:i<k.marks.length):oU k (i+1)=oU k i++[iE iF (k.marks.getD i .zero)]:=by
 unfold oU
 rw[eP (z:=cA.zero) h,List.map_append,← List.append_assoc];rfl
theorem xy {k:bC} {i:Nat} (h:i<k.held.length):pY k (i+1)=pY k i++[cT hG (k.held.getD i .zero)]:=by
 unfold pY
 rw[eP (z:=bA.zero) h,List.map_append,← List.append_assoc];rfl
theorem xz {k:bC} {i:Nat} (h:i<k.inbox.length):oV k (i+1)=oV k i++[cT fP (k.inbox.getD i .zero)]:=by
 unfold oV
 rw[eP (z:=bA.zero) h,List.map_append,← List.append_assoc];rfl
theorem aCn (k:bC):oV k k.inbox.length=iw k:=by
 unfold oV pY oU yJ vP iw
 rw[aXn,aXn,aXn]
theorem ya (k:bC): (yJ k).length≤2:=by
 unfold yJ vP
 split<;>split<;>simp
theorem yb (k:bC) (i:Nat): (oU k i).length≤2+k.marks.length:=by
 have:=ya k
 unfold oU
 rw[aW7,List.length_map,aXc];omega
theorem yc (k:bC) (i:Nat): (pY k i).length≤2+k.marks.length+k.held.length:=by
 have:=yb k k.marks.length
 unfold pY
 rw[aW7,List.length_map,aXc];omega
theorem ml (k:bC) (i:Nat): (oV k i).length≤2+k.marks.length+k.held.length+k.inbox.length:=by
 have:=yc k k.held.length
 unfold oV
 rw[aW7,List.length_map,aXc];omega
theorem ae {k:bC} (h:dC k=true):eH k=oV k k.inbox.length:=by rw[aCn];exact if_pos h
theorem cz {k:bC} (h: ¬dC k=true):eH k=[]:=if_neg h
theorem yd {k:bC} (hk:dC k=true) {i:Nat} (h:i<k.marks.length): (0≤(k.marks.getD i .zero).frm∧(k.marks.getD i .zero).frm≤3)∧(1≤(k.marks.getD i .zero).num∧(k.marks.getD i .zero).num≤99)∧(1≤(k.marks.getD i .zero).til∧(k.marks.getD i .zero).til≤999):=by
 obtain⟨_,⟨_,h5,_⟩,_⟩:=(cB k).1 hk
 exact qT (wF h5 (dB h))
theorem lO (n:bA): (fZ n).length≤60:=by
 by_cases h:eL n=true
 · obtain⟨p1,p2,p3,p4,p5⟩:=mH h
   have q1:=bS (k:=3) (n:=n.frm.toNat) (by simp;omega)
   have q2:=bS (k:=3) (n:=n.num.toNat) (by simp;omega)
   have q3:=bS (k:=3) (n:=n.to.toNat) (by simp;omega)
   have q4:=bS (k:=3) (n:=n.til.toNat) (by simp;omega)
   rw[fZ,if_pos h]
   simp only[kO,aW7,aW9,aXa];omega
 · rw[fZ,if_neg h];simp
theorem wK {w:List UInt8} {m:cA} (h: (0≤m.frm∧m.frm≤1000000)∧(0≤m.num∧m.num≤1000000)∧(0≤m.til∧m.til≤1000000)): (iE w m).length≤w.length+30:=by
 have q1:=bS (k:=6) (n:=m.frm.toNat) (by simp;omega)
 have q2:=bS (k:=6) (n:=m.num.toNat) (by simp;omega)
 have q3:=bS (k:=6) (n:=m.til.toNat) (by simp;omega)
 unfold iE
 simp only[aW7,aW9,aXa];omega
theorem tH (w:List UInt8) (n:bA): (cT w n).length≤w.length+61:=by
 have:=lO n
 unfold cT
 simp only[aW7,aW9,aXa];omega
theorem da {n:Nat} (h:n≤1000000): (lQ n).length≤12:=by
 have:=bS (k:=6) (n:=n) (by simp;omega)
 unfold lQ jG
 simp only[aW7,aW9,aXa];omega
theorem sm {n:Nat} (h:n≤1000000): (pJ n).length≤12:=by
 have:=bS (k:=6) (n:=n) (by simp;omega)
 unfold pJ jM
 simp only[aW7,aW9,aXa];omega
theorem oA {k:bC}: (eH k).length≤26∧ ∀r∈eH k,r.length≤100:=by
 by_cases hk:dC k=true
 · obtain⟨⟨_,ht,hn,h1,h2,h3⟩,⟨h4,h5,h6⟩,_⟩:=(cB k).1 hk
   rw[ae hk]
   refine⟨by have:=ml k k.inbox.length;omega,fun r hr=> ?_⟩
   rw[aCn] at hr
   unfold iw at hr
   simp only[List.mem_append,aXk] at hr
   rcases hr with(((hr|hr)|⟨m,hm,rfl⟩)|⟨m,hm,rfl⟩)|⟨m,hm,rfl⟩
   · split at hr
     · rw[aXo.1 hr];have:=da (n:=k.time.toNat) (by omega);omega
     · cases hr
   · split at hr
     · rw[aXo.1 hr];have:=sm (n:=k.next.toNat) (by omega);omega
     · cases hr
   · obtain⟨q1,q2,q3⟩:=qT (wF h5 hm)
     have:=wK (w:=iF) (m:=m) (by omega)
     have e:iF.length=4:=rfl
     omega
   · have:=tH hG m
     have e:hG.length=4:=rfl
     omega
   · have:=tH fP m
     have e:fP.length=5:=rfl
     omega
 · rw[cz hk];exact⟨by simp,fun r hr=>by cases hr⟩
def dJ (k:aH): (List UInt8×Int)×Bool:=eE k.log k.forced (eH (aZ k).1)
theorem aD4 {k:aH} {rec:List UInt8} (h1: ¬(cL (aZ k).1 rec).2=true):jD k rec=(k,false):=by
 unfold jD;rw[if_neg h1]
theorem pD {k:aH} {rec:List UInt8} (h1: (cL (aZ k).1 rec).2=true) (h2: (bJ k.log k.forced rec).2=true):jD k rec=(jC k (bJ k.log k.forced rec).1,true):=by
 unfold jD;rw[if_pos h1,if_pos h2]
theorem sn {k:aH} {rec:List UInt8} (h1: (cL (aZ k).1 rec).2=true) (h2: ¬(bJ k.log k.forced rec).2=true) (h3: ¬(dJ k).2=true):jD k rec=(k,false):=by
 unfold jD
 rw[if_pos h1,if_neg h2]
 show(if(dJ k).2=true then(if(bJ (dJ k).1.1 (dJ k).1.2 rec).2=true then(jC k (bJ (dJ k).1.1 (dJ k).1.2 rec).1,true) else(k,false)) else(k,false))=_
 rw[if_neg h3]
theorem pn {k:aH} {rec:List UInt8} (h1: (cL (aZ k).1 rec).2=true) (h2: ¬(bJ k.log k.forced rec).2=true) (h3: (dJ k).2=true) (h4: ¬(bJ (dJ k).1.1 (dJ k).1.2 rec).2=true):jD k rec=(k,false):=by
 unfold jD
 rw[if_pos h1,if_neg h2]
 show(if(dJ k).2=true then(if(bJ (dJ k).1.1 (dJ k).1.2 rec).2=true then(jC k (bJ (dJ k).1.1 (dJ k).1.2 rec).1,true) else(k,false)) else(k,false))=_
 rw[if_pos h3,if_neg h4]
theorem po {k:aH} {rec:List UInt8} (h1: (cL (aZ k).1 rec).2=true) (h2: ¬(bJ k.log k.forced rec).2=true) (h3: (dJ k).2=true) (h4: (bJ (dJ k).1.1 (dJ k).1.2 rec).2=true):jD k rec=(jC k (bJ (dJ k).1.1 (dJ k).1.2 rec).1,true):=by
 unfold jD
 rw[if_pos h1,if_neg h2]
 show(if(dJ k).2=true then(if(bJ (dJ k).1.1 (dJ k).1.2 rec).2=true then(jC k (bJ (dJ k).1.1 (dJ k).1.2 rec).1,true) else(k,false)) else(k,false))=_
 rw[if_pos h3,if_pos h4]
theorem aMu {k:aH} (hs:dA k.log k.forced=true) (h: ¬(dJ k).2=true): (dJ k).1=(k.log,k.forced):=by
 unfold dJ eE at h ⊢
 rw[if_pos hs] at h ⊢
 split at h
 · exact absurd rfl h
 · rename_i h9
   rw[if_neg h9]
theorem ix {k:aH} (hl:k.log.length≤140737488355328): (dJ k).1.1.length≤140737488355328:=by
 unfold dJ eE
 split
 · split
   · rename_i h9
     simp only[aXb,decide_eq_true_eq] at h9
     show(dD _).length≤_
     omega
   · exact hl
 · simp
theorem ye {k:aH} {rec:List UInt8} (hs:dA k.log k.forced=true) (h1: (cL (aZ k).1 rec).2=true) (h2: ¬(bJ k.log k.forced rec).2=true) (h4: ¬(bJ (dJ k).1.1 (dJ k).1.2 rec).2=true):jD k rec=(k,false):=by
 by_cases h3: (dJ k).2=true
 · exact pn h1 h2 h3 h4
 · exact sn h1 h2 h3
theorem oC {k:aH} {rec:List UInt8} (hs:dA k.log k.forced=true) (h1: (cL (aZ k).1 rec).2=true) (h2: ¬(bJ k.log k.forced rec).2=true) (h4: (bJ (dJ k).1.1 (dJ k).1.2 rec).2=true):jD k rec=(jC k (bJ (dJ k).1.1 (dJ k).1.2 rec).1,true):=by
 by_cases h3: (dJ k).2=true
 · exact po h1 h2 h3 h4
 · rw[aMu hs h3] at h4
   exact absurd h4 h2
def fW (k:aH) (rec:List UInt8) (fc:Bool):aH×Bool:=if(jD k rec).2 then(if fc then jN (jD k rec).1 else(jD k rec).1,true) else(k,false)
theorem oO {l:List UInt8} {f:Int} {rec:List UInt8} (hl:l.length≤140737488355328): (bJ l f rec).1.1.length≤140737488355328:=by
 unfold bJ
 split
 · split
   · rename_i h9
     simp only[aXb,decide_eq_true_eq] at h9
     show(l++cU rec).length≤_
     rw[aW7];omega
   · exact hl
 · simp
theorem yf {k:aH} {rec:List UInt8} (hl:k.log.length≤140737488355328): (jD k rec).1.log.length≤140737488355328∧(jD k rec).1.halves=k.halves:=by
 unfold jD
 split
 · split
   · exact⟨oO hl,rfl⟩
   · split
     · split
       · exact⟨oO (ix hl),rfl⟩
       · exact⟨hl,rfl⟩
     · exact⟨hl,rfl⟩
 · exact⟨hl,rfl⟩
theorem so {k:aH} {rec:List UInt8} (h: (jD k rec).2=true):cY k rec=(jN (jD k rec).1,true):=if_pos h
theorem aI7 {k:aH} {rec:List UInt8} (h: ¬(jD k rec).2=true):cY k rec=(k,false):=if_neg h
theorem nB {k:aH} (h:aR k=true):KB (aZ k).1:=(eZ (gA h)).seven.big
theorem gJ {a:Bool} (h: (!a)=false):a=true:=by simpa using h
theorem kV {a:Bool} (h: (!a)=true): ¬a=true:=by simpa using h
theorem yg (k:bC) {n:Nat} (hn:n<100000):eM k (lQ n)=lH k jG n:=by
 have e:lQ n=jG++32::jZ n:=by simp[lQ]
 obtain⟨h1,h2,h3⟩:=mX (w:=jG) (r:=jZ n) (by decide)
 rw[e,wt h3 (by rw[h1];rfl) (by rw[h2,mY hn];rfl),h1,h2,sA (mY hn)]
theorem uL {k:bC} (hk:dC k=true) (rec:List UInt8):cL k rec=kW k (eM k rec):=if_pos hk
theorem aMv {k:bC} (hk:dC k=true) (h:k.time≥999): ¬(cL k (lQ (k.time+1).toNat)).2=true:=by
 obtain⟨⟨_,ht,_⟩,_⟩:=(cB k).1 hk
 rw[uL hk,yg k (by omega)]
 have e: (((k.time+1).toNat:Nat):Int)=k.time+1:=by omega
 rw[e]
 have hd:lH k jG (k.time+1)=(kR k (k.time+1),true):=by
  unfold lH
  rw[if_pos (by rw[decide_eq_true (by omega)];rfl)]
 rw[hd]
 unfold kW
 rw[if_neg]
 · simp
 · intro h9
   simp only[Bool.true_and] at h9
   obtain⟨⟨_,ht2,_⟩,_⟩:=(cB _).1 h9
   have e2: (kR k (k.time+1)).time=k.time+1:=rfl
   omega
theorem aMw {k:bC} (hk:dC k=true) {n:bA} (h:fZ n=[]): ¬(cL k (cT iG n)).2=true:=by
 have e:cT iG n=iG++32::[]:=by rw[cT,h];simp
 obtain⟨h1,h2,h3⟩:=mX (w:=iG) (r:=[]) (by decide)
 rw[uL hk,e,rZ h3 (by rw[h1];rfl) (by rw[h1];rfl) (by rw[h2];rfl)]
 simp[kW]
theorem mn {k:aH} {rec:List UInt8} (h: ¬(cY k rec).2=true): (cY k rec).1=k:=by
 unfold cY at h ⊢
 split at h
 · exact absurd rfl h
 · rename_i h9;rw[if_neg h9]
theorem mq {k:aH} {rec:List UInt8} (h: ¬(cL (aZ k).1 rec).2=true):cY k rec=(k,false):=by
 unfold cY;rw[aD4 h];rfl
theorem yh {k:aH} (h: ¬aR k=true):dY k=(.zero,false):=if_neg h
theorem bh {k:aH} (h:aR k=true) (hu: ¬k.up=true):dY k=(k,false):=by rw[dY,if_pos h,if_neg hu]
theorem gi {k:aH} (h:aR k=true) (hu:k.up=true):dY k=cY k (lQ ((aZ k).1.time+1).toNat):=by rw[dY,if_pos h,if_pos hu]
theorem tj {k:aH} (h:aR k=true) (ht: (aZ k).1.time≥999):dY k=(k,false):=by
 by_cases hu:k.up=true
 · rw[gi h hu,mq (aMv (gA h) ht)]
 · exact bh h hu
theorem gj {k:aH} {to til:Int} {text:List UInt8} (h: ¬aR k=true):bD k to til text=(.zero,0):=if_neg h
theorem db {k:aH} {to til:Int} {text:List UInt8} (h:aR k=true) (hu: ¬k.up=true):bD k to til text=(k,0):=by rw[bD,if_pos h,if_neg hu]
theorem af {k:aH} {to til:Int} {text:List UInt8} (h:aR k=true) (hl: ¬(cY k (cT iG (iJ k to til text))).2=true):bD k to til text=(k,0):=by
 rw[bD,if_pos h]
 split
 · first|rfl|rw[if_neg hl]
 · rfl
theorem mr {k:aH} {to til:Int} {text:List UInt8} (h:aR k=true) (hu:k.up=true) (hl: (cY k (cT iG (iJ k to til text))).2=true):bD k to til text=((cY k (cT iG (iJ k to til text))).1,(aZ k).1.next):=by
 rw[bD,if_pos h,if_pos hu,if_pos hl]
theorem yi {k:aH} {to til:Int} {text:List UInt8} (h:aR k=true) (hn:fZ (iJ k to til text)=[]):bD k to til text=(k,0):=by
 refine af h ?_
 rw[mq (aMw (gA h) hn)]
 simp
theorem gk {k:aH} {f n:Int} (h: ¬aR k=true):aX k f n=(.zero,.zero,false):=if_neg h
theorem ah {k:aH} {f n:Int} (h:aR k=true) (hc: ¬(k.up=true∧0≤aS (aZ k).1.inbox f n)):aX k f n=(k,.zero,false):=by
 rw[aX,if_pos h,if_neg (by simpa using hc)]
theorem vQ {k:aH} {f n:Int} (h:aR k=true) (hc:k.up=true∧0≤aS (aZ k).1.inbox f n) (hl: ¬(cY k (nL k f n)).2=true):aX k f n=(k,.zero,false):=by
 rw[aX,if_pos h,if_pos (by simpa using hc),if_neg hl]
theorem aj {k:aH} {f n:Int} (h:aR k=true) (hc:k.up=true∧0≤aS (aZ k).1.inbox f n) (hl: (cY k (nL k f n)).2=true):aX k f n=((cY k (nL k f n)).1,(aZ k).1.inbox.getD (aS (aZ k).1.inbox f n).toNat .zero,true):=by
 rw[aX,if_pos h,if_pos (by simpa using hc),if_pos hl]
theorem iy {k:aH} (h:aR k=true) {f n:Int} (hp:0≤aS (aZ k).1.inbox f n): ∃j:Nat,aS (aZ k).1.inbox f n=j∧j< (aZ k).1.inbox.length∧((0≤f∧f≤1000000)∧(0≤n∧n≤1000000)∧(0≤((aZ k).1.inbox.getD j .zero).til∧((aZ k).1.inbox.getD j .zero).til≤1000000)):=by
 obtain⟨j,hj⟩:=Int.eq_ofNat_of_zero_le hp
 have hlt:=(fT (aZ k).1.inbox f n).2
 obtain⟨_,⟨_,_,h6⟩,_⟩:=(cB _).1 (gA h)
 obtain⟨q1,q2,q3⟩:=iu h6 hp
 rw[hj,aW6] at q1 q2 q3
 obtain⟨p1,p2,p3,p4,p5⟩:=mH q1
 exact⟨j,hj,by omega,by omega,by omega,by omega⟩
theorem yj {k:aH} (h: ¬aR k=true):eN k=(.zero,false):=if_neg h
theorem tk {k:aH} (h:aR k=true) (hu: ¬k.up=true):eN k=(k,false):=by
 rw[eN,if_pos h,if_neg (by simp[hu])]
theorem aAl {k:aH} (h:aR k=true) (hp: ¬(dJ k).2=true):eN k=(k,false):=by
 rw[eN,if_pos h,if_neg]
 intro h9
 simp only[aXb] at h9
 exact hp h9.2
theorem aAm {k:aH} (h:aR k=true) (hu:k.up=true) (hp: (dJ k).2=true):eN k=(jC k (dJ k).1,true):=by
 rw[eN,if_pos h,if_pos]
 · rfl
 · rw[hu];exact hp
def wL (b:Int) (m:iB):Bool:=tQ b m.num&&decide (m.data.length=4)
def unk (kn:List (List UInt8)) (j:Int):Bool:=(kn.getD j.toNat []).isEmpty
def jO (kn:List (List UInt8)) (ks:List Int):List Int:=ks.filter (unk kn)
def qZ (kn:List (List UInt8)):List UInt8→List Int→List UInt8
 |x,[]=>x
 |x,j::js=>qZ kn (if unk kn j then x else aAi x (kn.getD j.toNat [])) js
def jI (b:Int) (kn:List (List UInt8)) (m:iB):List (List UInt8)×Bool:=
 if wL b m&&(jO kn (cQ b m.num)).length==1 then(kn.set ((jO kn (cQ b m.num)).getD 0 0).toNat (qZ kn m.data (cQ b m.num)),true) else(kn,false)
def cO (b:Int):List iB→List (List UInt8)×Bool→List (List UInt8)×Bool
 | [],s=>s
 |m::l,s=>cO b l ((jI b s.1 m).1,s.2||(jI b s.1 m).2)
def sC (b:Int) (l:List iB):Nat→List (List UInt8)→List (List UInt8)
 |0,kn=>kn
 |f+1,kn=>if(cO b l (kn,false)).2 then sC b l f (cO b l (kn,false)).1 else(cO b l (kn,false)).1
def eI (b:Int) (l:List iB):List (List UInt8):=if iK b 1 6 then sC b l 7 (List.replicate b.toNat []) else []
def bv (b:Int) (kn:List (List UInt8)):Prop:=(kn.length:Int)=b∧ ∀x∈kn,x.length=0∨x.length=4
def uM (kn:List (List UInt8)):Nat:=kn.countP (·.isEmpty)
theorem bv.at {b:Int} {kn:List (List UInt8)} (h:bv b kn) {j:Nat} (hj:j<kn.length): (kn.getD j []).length=0∨(kn.getD j []).length=4:=h.2 _ (dB hj)
theorem bv.start {b:Int} (hb:0≤b):bv b (List.replicate b.toNat []):=by
 refine⟨by rw[List.length_replicate];omega,fun x hx=> ?_⟩
 rw[(List.mem_replicate.1 hx).2];exact .inl rfl
theorem ak {kn:List (List UInt8)}: ∀{ks:List Int} {x:List UInt8},x.length=4→(qZ kn x ks).length=4
 | [],x,h=>h
 |j::js,x,h=>by
  unfold qZ
  refine ak ?_
  split
  · exact h
  · exact sj _ _
theorem aCo {kn:List (List UInt8)} {ks:List Int} {j:Int} (h:j∈jO kn ks):j∈ks∧unk kn j=true:=by
 unfold jO at h
 exact List.mem_filter.1 h
theorem aGs: ∀{kn:List (List UInt8)} {j:Nat} {x:List UInt8},j<kn.length→(kn.getD j []).isEmpty=true→x.isEmpty=false→uM (kn.set j x)+1=uM kn
 | [],j,x,h,_,_=>by simp at h
 |y::kn,0,x,h,h1,h2=>by
  have h1:y.isEmpty=true:=h1
  simp[uM,List.countP_cons,h1,h2]
 |y::kn,j+1,x,h,h1,h2=>by
  have ih:=aGs (kn:=kn) (j:=j) (x:=x) (by simpa using h) (by simpa using h1) h2
  simp only[uM,List.set_cons_succ,List.countP_cons] at ih ⊢
  omega
theorem aI8 {b:Int} {kn:List (List UInt8)} {m:iB} (h:bv b kn):bv b (jI b kn m).1∧((jI b kn m).2=true→uM (jI b kn m).1+1=uM kn)∧((jI b kn m).2=false→(jI b kn m).1=kn):=by
 unfold jI
 split
 · rename_i hc
   simp only[aXb,beq_iff_eq,wL,decide_eq_true_eq] at hc
   obtain⟨⟨h1,h4⟩,hl⟩:=hc
   have hm: (jO kn (cQ b m.num)).getD 0 0∈jO kn (cQ b m.num):=dB (by omega)
   obtain⟨q1,q2⟩:=aCo hm
   have hr:=wH _ q1
   have hx:=ak (kn:=kn) (ks:=cQ b m.num) h4
   have hlt: ((jO kn (cQ b m.num)).getD 0 0).toNat<kn.length:=by have:=h.1;omega
   refine⟨⟨by rw[List.length_set];exact h.1,fun x hx'=> ?_⟩,fun _=> ?_,fun h9=>by cases h9⟩
   · rcases List.mem_or_eq_of_mem_set hx' with h9|h9
     · exact h.2 x h9
     · rw[h9];exact .inr hx
   · refine aGs hlt q2 ?_
     cases hq:qZ kn m.data (cQ b m.num) with
     |nil=>rw[hq] at hx;cases hx
     |cons _ _=>rfl
 · exact⟨h,fun h9=>(by cases h9),fun _=>rfl⟩
theorem sD {b:Int}: ∀{l:List iB} {s:List (List UInt8)×Bool},bv b s.1→bv b (cO b l s).1∧uM (cO b l s).1≤uM s.1∧(s.2=false→(cO b l s).2=true→uM (cO b l s).1<uM s.1)∧(s.2=true→(cO b l s).2=true)
 | [],s,h=>⟨h,aXi _,fun h1 h2=>(by
  have h2:s.2=true:=h2
  rw[h1] at h2;cases h2),fun h1=>h1⟩
 |m::l,s,h=>by
  obtain⟨p1,p2,p3⟩:=aI8 (m:=m) h
  obtain⟨r1,r2,r3,r4⟩:=sD (l:=l) (s:=((jI b s.1 m).1,s.2||(jI b s.1 m).2)) p1
  unfold cO
  cases hd: (jI b s.1 m).2 with
  |true=>
   have:=p2 hd
   rw[hd] at r1 r2 r3 r4
   have r2:uM (cO b l ((jI b s.1 m).1,s.2||true)).1≤uM (jI b s.1 m).1:=r2
   exact⟨r1,by omega,fun _ _=>by omega,fun h1=>r4 (by simp)⟩
  |false=>
   have e:=p3 hd
   rw[hd] at r1 r2 r3 r4
   refine⟨r1,by rw[e] at r2 ⊢; exact r2,fun h1 h2=> ?_,fun h1=>r4 (by simp[h1])⟩
   have:=r3 (by simp[h1]) h2
   simp only[e] at this ⊢
   exact this
theorem yk {kn:List (List UInt8)} {ks:List Int} {j:Int} (h:unk kn j=true):jO kn (ks++[j])=jO kn ks++[j]:=by
 unfold jO;rw[List.filter_append,List.filter_cons_of_pos h];rfl
theorem aAn {kn:List (List UInt8)} {ks:List Int} {j:Int} (h:unk kn j=false):jO kn (ks++[j])=jO kn ks:=by
 unfold jO;rw[List.filter_append,List.filter_cons_of_neg (by rw[h];exact Bool.false_ne_true)];exact List.append_nil _
theorem iz {kn:List (List UInt8)}: ∀{ks:List Int} {x:List UInt8} {j:Int},qZ kn x (ks++[j])=if unk kn j then qZ kn x ks else aAi (qZ kn x ks) (kn.getD j.toNat [])
 | [],x,j=>by
  show(if unk kn j then x else aAi x (kn.getD j.toNat []))=_
  rfl
 |k::ks,x,j=>iz (ks:=ks)
theorem aMy {kn:List (List UInt8)} {ks:List Int} {x:List UInt8} {j:Int} (h:unk kn j=true):qZ kn x (ks++[j])=qZ kn x ks:=by rw[iz,if_pos h]
theorem aPl {kn:List (List UInt8)} {ks:List Int} {x:List UInt8} {j:Int} (h:unk kn j=false):qZ kn x (ks++[j])=aAi (qZ kn x ks) (kn.getD j.toNat []):=by rw[iz,if_neg (by rw[h];exact Bool.false_ne_true)]
theorem ms {b:Int} {m:iB}: ∀{l:List iB} {s:List (List UInt8)×Bool},cO b (l++[m]) s=((jI b (cO b l s).1 m).1,(cO b l s).2||(jI b (cO b l s).1 m).2)
 | [],s=>rfl
 |k::l,s=>ms (l:=l)
theorem sr {b:Int} {l:List iB}: ∀(f g:Nat) {kn:List (List UInt8)},bv b kn→uM kn<f→uM kn<g→sC b l f kn=sC b l g kn
 |0,_,kn,_,h,_=>absurd h (by omega)
 |_+1,0,kn,_,_,h=>absurd h (by omega)
 |f+1,g+1,kn,hk,hf,hg=>by
  obtain⟨r1,r2,r3,_⟩:=sD (l:=l) (s:=(kn,false)) hk
  unfold sC
  split
  · rename_i hd
    have hlt:=r3 rfl hd
    have hlt:uM (cO b l (kn,false)).1<uM kn:=hlt
    exact sr f g r1 (by omega) (by omega)
  · rfl
theorem aRt (kn:List (List UInt8)):uM kn≤kn.length:=List.countP_le_length
theorem aRu {b:Int} (hb:b≤6) {l:List iB} {kn:List (List UInt8)} (hk:bv b kn) (hd: (cO b l (kn,false)).2=true):sC b l 7 kn=sC b l 7 (cO b l (kn,false)).1∧uM (cO b l (kn,false)).1<uM kn∧bv b (cO b l (kn,false)).1:=by
 obtain⟨r1,r2,r3,_⟩:=sD (l:=l) (s:=(kn,false)) hk
 have hlt:uM (cO b l (kn,false)).1<uM kn:=r3 rfl hd
 have h6:uM kn≤6:=by have:=aRt kn;have:=hk.1;omega
 refine⟨?_,hlt,r1⟩
 rw[sr 7 8 hk (by omega) (by omega)]
 show(if(cO b l (kn,false)).2 then sC b l 7 (cO b l (kn,false)).1 else(cO b l (kn,false)).1)=_
 rw[if_pos hd]
theorem aPm {b:Int} {l:List iB} {kn:List (List UInt8)} (hd: (cO b l (kn,false)).2=false):sC b l 7 kn=(cO b l (kn,false)).1:=by
 show(if(cO b l (kn,false)).2 then sC b l 6 (cO b l (kn,false)).1 else(cO b l (kn,false)).1)=_
 rw[if_neg (by rw[hd];exact Bool.false_ne_true)]
theorem aD5 {kn:List (List UInt8)} {j:Nat} {x:List UInt8} (h:j<kn.length): (bB kn).set j (dI ((bB kn).getD j []) 0 [D.s x])=bB (kn.set j x):=by
 rw[fV h]
 show(bB kn).set j [D.s x]=_
 rw[bB,bB,← List.map_set (f:=fun y:List UInt8=>[D.s y])]
theorem aCp {b:Int} {m:iB} {c:Bool} (h: (!(tQ b m.num&&decide ((m.data.length:Int)=4)))=c):wL b m= !c:=by
 subst h
 unfold wL
 rw[Bool.not_not]
 congr 1
 exact decide_eq_decide.2 (by omega)
theorem aGt {b:Int} {m:iB} (h:wL b m=true):m.data.length=4:=by
 unfold wL at h
 rw[aXb] at h
 exact of_decide_eq_true h.2
theorem aU6 {n:Nat} (h: ((n:Int)==1)=true):n=1:=by
 have h9: (n:Int)=1:=by simpa using h
 omega
theorem aI9 {n:Nat} (h: ((n:Int)==1)=false): ¬n=1:=by
 have h9: ¬(n:Int)=1:=by simpa using h
 omega
def rA:List (List UInt8)→List UInt8:=List.flatten
def dW (size:Int) (l:List iB):List UInt8×Bool:=
 if iK size 1 24 then
  (if(eI ((size+3) / 4) l).any (·.isEmpty) then([],false)
   else if((rA (eI ((size+3) / 4) l)).drop size.toNat).any (· != 0) then([],false)
   else((rA (eI ((size+3) / 4) l)).take size.toNat,true))
 else([],false)
theorem aJa {b:Int} {l:List iB} (hb:1≤b∧b≤6):bv b (eI b l):=by
 have key: ∀(f:Nat) {kn:List (List UInt8)},bv b kn→bv b (sC b l f kn):=by
  intro f
  induction f with
  |zero=>intro kn h;exact h
  |succ f ih=>
   intro kn h
   have r:=(sD (l:=l) (s:=(kn,false)) h).1
   unfold sC
   split
   · exact ih r
   · exact r
 unfold eI
 rw[if_pos (by simp[iK];omega)]
 exact key 7 (bv.start (by omega))
theorem aJb {b:Int} {l:List iB} (h: ¬iK b 1 6=true):eI b l=[]:=if_neg h
def wM (kn:List (List UInt8)) (i:Nat):List UInt8:=(kn.take i).flatten
theorem ja {kn:List (List UInt8)} {i:Nat} (h:i<kn.length):wM kn (i+1)=wM kn i++kn.getD i []:=by
 unfold wM
 rw[eP (z:=([]:List UInt8)) h,List.flatten_append]
 simp
theorem aGu {kn:List (List UInt8)} (h: ∀x∈kn,x.length=0∨x.length=4): ∀{i:Nat},(wM kn i).length≤4*i
 |0=>by simp[wM]
 |i+1=>by
  have ih:=aGu h (i:=i)
  by_cases hi:i<kn.length
  · rw[ja hi,aW7]
    have:=h _ (dB (z:=([]:List UInt8)) hi)
    omega
  · have e:wM kn (i+1)=wM kn i:=by unfold wM;rw[List.take_of_length_le (by omega),List.take_of_length_le (by omega)]
    rw[e];omega
theorem aGv {kn:List (List UInt8)} (h: ∀x∈kn,x.length=0∨x.length=4): ∀{i:Nat},i≤kn.length→(∀j,j<i→(kn.getD j []).length≠0)→(wM kn i).length=4*i
 |0,_,_=>by simp[wM]
 |i+1,hi,hj=>by
  have ih:=aGv h (i:=i) (by omega) (fun j hj2=>hj j (by omega))
  rw[ja (by omega),aW7,ih]
  have h1:=h _ (dB (z:=([]:List UInt8)) (i:=i) (show i<kn.length by omega))
  have h2:=hj i (by omega)
  omega
theorem aCq (kn:List (List UInt8)):wM kn kn.length=rA kn:=by unfold wM rA;rw[aXn]
theorem aAo {kn:List (List UInt8)} {i:Nat} (h:i<kn.length) (he:kn.getD i []=[]):kn.any (·.isEmpty)=true:=by
 rw[List.any_eq_true]
 exact⟨_,dB (z:=([]:List UInt8)) h,by rw[he];rfl⟩
theorem aD6 {kn:List (List UInt8)} (h: ∀j,j<kn.length→(kn.getD j []).length≠0):kn.any (·.isEmpty)=false:=by
 rw[← Bool.not_eq_true,List.any_eq_true]
 rintro⟨x,hx,he⟩
 obtain⟨i,hi⟩:=aXq.1 hx
 have hlt:=(aXh.1 hi).1
 have:=h i hlt
 rw[aXe,hi] at this
 have e:x=[]:=by simpa using he
 rw[e] at this;exact this rfl
theorem aD7 {l:List UInt8} {n i:Nat} (h1:n≤i) (h2:i<l.length) (h:l.getD i 0≠0): (l.drop n).any (· != 0)=true:=by
 rw[List.any_eq_true]
 refine⟨l.getD i 0,?_,by simpa using h⟩
 rw[aXq]
 exact⟨i - n,by rw[List.getElem?_drop,show n+(i - n)=i by omega,aXe,aXg h2];rfl⟩
theorem aGw {l:List UInt8} {n:Nat} (h: ∀i,n≤i→i<l.length→l.getD i 0=0): (l.drop n).any (· != 0)=false:=by
 rw[← Bool.not_eq_true,List.any_eq_true]
 rintro⟨x,hx,he⟩
 obtain⟨i,hi⟩:=aXq.1 hx
 rw[List.getElem?_drop] at hi
 have hlt:=(aXh.1 hi).1
 have:=h (n+i) (by omega) hlt
 rw[aXe,hi] at this
 have e:x=0:=this
 rw[e] at he;cases he
theorem aGx {size:Int} {l:List iB} (h: ¬iK size 1 24=true):dW size l=([],false):=if_neg h
theorem aD8 {size:Int} {l:List iB} (h:iK size 1 24=true) (h2: (eI ((size+3) / 4) l).any (·.isEmpty)=true):dW size l=([],false):=by
 unfold dW;rw[if_pos h,if_pos h2]
theorem aD9 {size:Int} {l:List iB} (h:iK size 1 24=true) (h2: (eI ((size+3) / 4) l).any (·.isEmpty)=false) (h3: ((rA (eI ((size+3) / 4) l)).drop size.toNat).any (· != 0)=true):dW size l=([],false):=by
 unfold dW;rw[if_pos h,if_neg (by rw[h2];exact Bool.false_ne_true),if_pos h3]
theorem aGy {size:Int} {l:List iB} (h:iK size 1 24=true) (h2: (eI ((size+3) / 4) l).any (·.isEmpty)=false) (h3: ((rA (eI ((size+3) / 4) l)).drop size.toNat).any (· != 0)=false):dW size l=((rA (eI ((size+3) / 4) l)).take size.toNat,true):=by
 unfold dW;rw[if_pos h,if_neg (by rw[h2];exact Bool.false_ne_true),if_neg (by rw[h3];exact Bool.false_ne_true)]
def nI (l:List cF):List (List D):=l.map cF.row
theorem lW (l:List cF): (nI l).length=l.length:=by simp[nI]
def bw (kind:Int) (f:cF):cF:=⟨kind,f.dst,f.src,f.frm,f.num,f.to,f.til,0,0,[]⟩
def sS (f:cF):dR:=⟨f.frm,f.num,f.to,f.til,f.size,[]⟩
def sE (l:List iB):List iB:=if 14≤l.length then l.drop 1 else l
def pq (l:List iB) (m:iB):List iB:=sE (l.filter fun x=> !(x.num==m.num))++[m]
def gY (l:List dR):List dR:=if 3≤l.length then l.drop 1 else l
def dN (l:List dR) (f:cF):List dR×Nat:=
 if gZ l f.frm f.num<0 then(gY l++[sS f],(gY l).length) else(l,(gZ l f.frm f.num).toNat)
def bW (l:List dR) (f:cF):dR:=(dN l f).1.getD (dN l f).2 .zero
def rB (h:dR) (f:cF):Bool:=h.to==f.to&&h.til==f.til&&h.size==f.size
def uN (h:dR) (f:cF):dR:={h with got:=pq h.got ⟨f.mix,f.data⟩}
def bZ (l:List dR) (f:cF):List dR×Int:=
 if rB (bW l f) f then((dN l f).1.set (dN l f).2 (uN (bW l f) f),(dN l f).2) else((dN l f).1,-1)
def dZ (k:aH) (l:List dR):aH:={k with halves:=l}
def fB (f:cF) (text:List UInt8):bA:=⟨f.frm,f.num,f.to,f.til,text⟩
def oP (k:aH) (f:cF) (l:List dR) (i:Nat):aH×List cF:=
 let x:=dW f.size (l.getD i .zero).got
 if x.2 then
  let k2:=dZ k (gK l i)
  let r:=fW k2 (cT fL (fB f x.1)) true
  if fZ (fB f x.1)=[] then(k2,[]) else(r.1,if r.2 then [bw 2 f] else [])
 else(dZ k l,[])
def dV (k:aH) (f:cF):aH×List cF:=
 if f.til≤(aZ k).1.time then(k,[bw 3 f]) else
 if 0≤aS (aZ k).1.held f.frm f.num∨0≤gN (aZ k).1.marks f.frm f.num then(jN k,[bw 2 f]) else
 if f.frm=k.id∨ ¬tQ ((f.size+3) / 4) f.mix=true then(k,[]) else
 if(bZ k.halves f).2<0 then(dZ k (bZ k.halves f).1,[]) else oP k f (bZ k.halves f).1 (bZ k.halves f).2.toNat
def pr (f:cF):List UInt8:=iE nP ⟨f.frm,f.num,f.til⟩
def dc (k:aH) (f:cF):Bool:=
 f.kind==2&&decide (0≤aS (aZ k).1.held f.frm f.num)&&((aZ k).1.held.getD (aS (aZ k).1.held f.frm f.num).toNat .zero).til==f.til&&((aZ k).1.held.getD (aS (aZ k).1.held f.frm f.num).toNat .zero).to==f.to
def dF (k:aH) (f:cF):aH×List cF:=
 if aR k then
  (if k.up&&eO f&&f.dst==k.id then
   (if f.kind=1 then dV k f else if dc k f then((fW k (pr f) false).1,[]) else(k,[]))
  else(k,[]))
 else(.zero,[])
theorem aEa {l:List dR} {i:Nat} {h:dR} (hi:i<l.length): (aY l).set i (dI ((aY l).getD i []) 0 h.row)=aY (l.set i h):=by
 rw[gE hi]
 have:dI ((l.getD i .zero).row) 0 h.row=h.row:=rfl
 rw[this]
 simp[aY,List.map_set]
theorem de {l:List dR} {f:cF} (h:gZ l f.frm f.num<0):dN l f=(gY l++[sS f],(gY l).length):=if_pos h
theorem jb {l:List dR} {f:cF} (h: ¬gZ l f.frm f.num<0):dN l f=(l,(gZ l f.frm f.num).toNat):=if_neg h
theorem mt (l:List dR) (h:l.length≤3): (gY l).length≤2:=by
 unfold gY
 split
 · rw[aXf];omega
 · omega
theorem yl {l:List dR} {f:cF} (hl:l.length≤3): (dN l f).2< (dN l f).1.length∧(dN l f).1.length≤3:=by
 unfold dN
 split
 · have:=mt l hl
   simp;omega
 · rename_i h
   have:=aMl l f.frm f.num
   simp;omega
theorem jc {l:List dR} {f:cF} (h: ¬rB (bW l f) f=true):bZ l f=((dN l f).1,-1):=if_neg h
theorem df {l:List dR} {f:cF} (h:rB (bW l f) f=true):bZ l f=((dN l f).1.set (dN l f).2 (uN (bW l f) f),(((dN l f).2:Nat):Int)):=if_pos h
theorem aEb {l:List dR} {f:cF} (h: ∀x∈l,x.got.length≤14): (bW l f).got.length≤14:=by
 unfold bW
 by_cases hm: (dN l f).2< (dN l f).1.length
 · have h1: (dN l f).1.getD (dN l f).2 .zero∈(dN l f).1:=dB hm
   generalize (dN l f).1.getD (dN l f).2 .zero=y at h1
   unfold dN at h1
   split at h1
   · rcases List.mem_append.1 h1 with h1|h1
     · unfold gY at h1
       split at h1
       · exact h y (List.mem_of_mem_drop h1)
       · exact h y h1
     · rw[aXo.1 h1];exact aXd _
   · exact h y h1
 · rw[aXe,List.getElem?_eq_none (by omega)];exact aXd _
def iS (l:List iB) (n:Int):List iB:=l.filter fun x=> !(x.num==n)
theorem aGz {l:List iB} {n:Int} {m:iB} (h: (m.num != n)=true):iS (l++[m]) n=iS l n++[m]:=by
 have h: (!(m.num==n))=true:=h
 simp[iS,List.filter_append,List.filter_cons,h]
theorem aJc {l:List iB} {n:Int} {m:iB} (h: (m.num != n)=false):iS (l++[m]) n=iS l n:=by
 have h: (!(m.num==n))=false:=h
 simp[iS,List.filter_append,List.filter_cons,h]
theorem ym (l:List iB) (n:Int): (iS l n).length≤l.length:=List.length_filter_le _ _
def GOk (l:List iB):Prop:=(∀m∈l,wG m=true)∧l.Pairwise fun a b=>a.num≠b.num
def HOk (l:List dR):Prop:=(∀h∈l,mJ h=true)∧l.Pairwise fun a b=> ¬(a.frm=b.frm∧a.num=b.num)
theorem pZ {n:Nat} {p:Nat→Bool}: (aXj n).all p=true↔ ∀i,i<n→p i=true:=by
 rw[aXl]
 exact⟨fun h i hi=>h i (List.mem_range.2 hi),fun h i hi=>h i (List.mem_range.1 hi)⟩
theorem nC {α:Type} {l:List α} {i:Nat} {z:α} (h:i<l.length):l.getD i z=l[i]:=by
 rw[aXe,aXg h];rfl
theorem aRv (l:List iB): (aXj l.length).all (oN l)=true↔GOk l:=by
 rw[pZ]
 constructor
 · intro h
   refine⟨fun m hm=> ?_,List.pairwise_iff_getElem.2 fun i j hi hj hij=> ?_⟩
   · obtain⟨i,hi,rfl⟩:=List.mem_iff_getElem.1 hm
     have:=h i hi
     unfold oN at this
     rw[aXb,nC hi] at this
     exact this.1
   · have:=h j hj
     unfold oN at this
     rw[aXb,pZ,nC hj] at this
     have:=this.2 i hij
     rw[nC hi] at this
     simpa using this
 · rintro⟨h1,h2⟩ i hi
   unfold oN
   rw[aXb,pZ,nC hi]
   refine⟨h1 _ (List.getElem_mem hi),fun j hj=> ?_⟩
   rw[nC (by omega)]
   simpa using List.pairwise_iff_getElem.1 h2 j i (by omega) hi hj
theorem aG0 (l:List dR): (aXj l.length).all (iI l)=true↔HOk l:=by
 rw[pZ]
 constructor
 · intro h
   refine⟨fun m hm=> ?_,List.pairwise_iff_getElem.2 fun i j hi hj hij=> ?_⟩
   · obtain⟨i,hi,rfl⟩:=List.mem_iff_getElem.1 hm
     have:=h i hi
     unfold iI at this
     rw[aXb,nC hi] at this
     exact this.1
   · have:=h j hj
     unfold iI at this
     rw[aXb,pZ,nC hj] at this
     have:=this.2 i hij
     unfold iM at this
     rw[nC hi] at this
     rintro⟨e1,e2⟩
     rw[e1,e2] at this
     simp at this
 · rintro⟨h1,h2⟩ i hi
   unfold iI
   rw[aXb,pZ,nC hi]
   refine⟨h1 _ (List.getElem_mem hi),fun j hj=> ?_⟩
   unfold iM
   rw[nC (by omega)]
   have h3:=List.pairwise_iff_getElem.1 h2 j i (by omega) hi hj
   cases hq: (l[j].frm==l[i].frm&&l[j].num==l[i].num) with
   |false=>rfl
   |true=>rw[aXb,beq_iff_eq,beq_iff_eq] at hq;exact absurd hq h3
theorem vR (h:dR):mJ h=true↔qW h=true∧GOk h.got:=by
 unfold mJ
 rw[aXb,aRv]
theorem mu {k:aH} (h:aR k=true):HOk k.halves:=by
 unfold aR at h
 rw[aXb] at h
 exact(aG0 _).1 h.2
theorem mv {k:aH} {l:List dR} (hok:aR k=true) (hu:k.up=true) (hl:l.length≤3) (h:HOk l):aR (dZ k l)=true:=by
 have hl': ((l.length:Nat):Int)≤3:=by omega
 unfold aR jX at hok ⊢
 simp only[aXb] at hok ⊢
 obtain⟨⟨⟨⟨⟨⟨h1,h2⟩,h3⟩,h4⟩,h5⟩,h6⟩,h7⟩:=hok
 exact⟨⟨⟨⟨⟨⟨h1,h2⟩,decide_eq_true hl'⟩,by show(k.up||_)=true;rw[hu];rfl⟩,h5⟩,h6⟩,(aG0 _).2 h⟩
theorem aKo {l l':List dR} (hs:l'.Sublist l) (h:HOk l):HOk l':=⟨fun x hx=>h.1 x (hs.subset hx),h.2.sublist hs⟩
theorem aMz {α:Type} (l:List α) (i:Nat): (gK l i).Sublist l:=by
 unfold gK
 have h1: (l.drop (i+1)).Sublist (l.drop i):=by
  rw[← List.drop_drop];exact List.drop_sublist _ _
 exact(List.Sublist.append (List.Sublist.refl _) h1).trans (by rw[List.take_append_drop];exact List.Sublist.refl _)
theorem aKp {l:List dR} (h:HOk l) (i:Nat):HOk (gK l i):=aKo (aMz l i) h
theorem aRw {l:List iB} {m:iB} (h:GOk l) (hm:wG m=true) (hl:l.length≤14):GOk (pq l m)∧(pq l m).length≤14:=by
 have h1: (l.filter fun x=> !(x.num==m.num)).length≤l.length:=List.length_filter_le _ _
 have hsub: (sE (l.filter fun x=> !(x.num==m.num))).Sublist (l.filter fun x=> !(x.num==m.num)):=by
  unfold sE
  split
  · exact List.drop_sublist _ _
  · exact List.Sublist.refl _
 have hlen: (sE (l.filter fun x=> !(x.num==m.num))).length≤13:=by
  unfold sE
  split
  · rw[aXf];omega
  · omega
 refine⟨⟨fun x hx=> ?_,?_⟩,by unfold pq;simp;omega⟩
 · rcases List.mem_append.1 hx with hx|hx
   · exact h.1 x (List.mem_filter.1 (hsub.subset hx)).1
   · rw[aXo.1 hx];exact hm
 · unfold pq
   rw[List.pairwise_append]
   refine⟨(h.2.sublist List.filter_sublist).sublist hsub,by simp,fun a ha b hb=> ?_⟩
   rw[aXo.1 hb]
   have:=(List.mem_filter.1 (hsub.subset ha)).2
   simpa using this
theorem jd {f:cF} (hf:eO f=true) (hk:f.kind=1):qW (sS f)=true∧wG ⟨f.mix,f.data⟩=true∧(1≤f.size∧f.size≤24)∧(0≤f.mix∧f.mix≤999)∧f.data.length=4:=by
 have h:=hf
 unfold eO at h
 rw[if_pos hk] at h
 simp only[aXb,decide_eq_true_eq] at h
 obtain⟨⟨⟨⟨⟨⟨h1,h2⟩,h3⟩,h4⟩,h5⟩,h6⟩,⟨⟨h7,h8⟩,h9⟩,h10⟩:=h
 have q7:1≤f.size∧f.size≤24:=by simpa[iK] using h7
 have q8:0≤f.mix∧f.mix≤999:=by simpa[iK] using h8
 refine⟨?_,?_,q7,q8,h9⟩
 · unfold qW sS
   simp only[h3,h4,h5,h6,h7,aXa];rfl
 · unfold wG
   simp only[h8,h9];rfl
theorem aG1 {l:List dR} {f n:Int} (h:gZ l f n<0): ∀x∈l,¬(x.frm=f∧x.num=n):=by
 intro x hx ⟨e1,e2⟩
 obtain⟨i,hi,rfl⟩:=List.mem_iff_getElem.1 hx
 rcases gR (iM l f n) l.length 0 with h1|⟨k,h1,_⟩
 · have h2:iM l f n i=true:=by unfold iM;rw[nC hi,e1,e2];simp
   have: ∀(m j:Nat),lG (iM l f n) j m= -1→ ∀q,j≤q→q<j+m→iM l f n q=false:=by
    intro m
    induction m with
    |zero=>intro j _ q h3 h4;omega
    |succ m ih=>
     intro j hj q h3 h4
     unfold lG at hj
     split at hj
     · have: ((j:Nat):Int)= -1:=hj
       omega
     · rename_i hne
       by_cases e:q=j
       · subst e;simpa using hne
       · exact ih (j+1) hj q (by omega) (by omega)
   have:=this l.length 0 h1 i (aXd _) (by omega)
   rw[h2] at this;cases this
 · unfold gZ at h;omega
theorem aJd {l:List dR} {f n:Int} (h: ¬gZ l f n<0): (gZ l f n).toNat<l.length∧(l.getD (gZ l f n).toNat .zero).frm=f∧(l.getD (gZ l f n).toNat .zero).num=n:=by
 rcases gR (iM l f n) l.length 0 with h1|⟨k,h1,h2,h3,h4,_⟩
 · exact absurd (show gZ l f n<0 by unfold gZ;omega) h
 · have e: (gZ l f n).toNat=k:=by unfold gZ;omega
   rw[e]
   unfold iM at h4
   rw[aXb,beq_iff_eq,beq_iff_eq] at h4
   exact⟨by omega,h4⟩
theorem aRx {l:List dR} {f:cF} (h:HOk l) (hl:l.length≤3) (hf:eO f=true) (hk:f.kind=1):HOk (dN l f).1:=by
 by_cases hn:gZ l f.frm f.num<0
 · rw[de hn]
   have hsub: (gY l).Sublist l:=by
    unfold gY
    split
    · exact List.drop_sublist _ _
    · exact List.Sublist.refl _
   have h2:=aKo hsub h
   refine⟨fun x hx=> ?_,?_⟩
   · rcases List.mem_append.1 hx with hx|hx
     · exact h2.1 x hx
     · rw[aXo.1 hx,vR]
       exact⟨(jd hf hk).1,by simp[sS],by simp[sS]⟩
   · rw[List.pairwise_append]
     refine⟨h2.2,by simp,fun a ha b hb=> ?_⟩
     rw[aXo.1 hb]
     exact aG1 hn a (hsub.subset ha)
 · rw[jb hn];exact h
theorem aU7 {α:Type} {R:α→α→Prop} {l:List α} {i:Nat} {x:α} (h:l.Pairwise R) (hi:i<l.length) (h1: ∀y,R y l[i]→R y x) (h2: ∀y,R l[i] y→R x y): (l.set i x).Pairwise R:=by
 rw[List.pairwise_iff_getElem] at h ⊢
 intro a b ha hb hab
 simp only[List.length_set] at ha hb
 simp only[List.getElem_set]
 by_cases c1:i=a
 · by_cases c2:i=b
   · omega
   · rw[if_pos c1,if_neg c2]
     subst c1
     exact h2 _ (h i b ha hb hab)
 · by_cases c2:i=b
   · rw[if_neg c1,if_pos c2]
     subst c2
     exact h1 _ (h a i ha hb hab)
   · rw[if_neg c1,if_neg c2]
     exact h a b ha hb hab
theorem aKq {l:List dR} {f:cF} (h:HOk l) (hl:l.length≤3) (hf:eO f=true) (hk:f.kind=1):HOk (bZ l f).1∧(bZ l f).1.length≤3:=by
 have hp:=aRx h hl hf hk
 have hlt:=yl (f:=f) hl
 by_cases hfit:rB (bW l f) f=true
 · rw[df hfit]
   have hh:bW l f=(dN l f).1[(dN l f).2]:=nC hlt.1
   have hok:=hp.1 _ (List.getElem_mem hlt.1)
   rw[← hh,vR] at hok
   have hg:=aRw hok.2 (jd hf hk).2.1 (lV hok.1).2.2.2.2.2
   refine⟨⟨fun x hx=> ?_,?_⟩,by simpa using hlt.2⟩
   · rcases List.mem_or_eq_of_mem_set hx with hx|rfl
     · exact hp.1 x hx
     · rw[vR]
       refine⟨?_,hg.1⟩
       have h1:=hok.1
       unfold qW at h1 ⊢
       simp only[aXb] at h1 ⊢
       exact⟨h1.1,decide_eq_true (by have:=hg.2;show((pq (bW l f).got ⟨f.mix,f.data⟩).length:Int)≤14;omega)⟩
   · refine aU7 hp.2 hlt.1 (fun y hy=> ?_) (fun y hy=> ?_)
     · rw[← hh] at hy;exact hy
     · rw[← hh] at hy;exact hy
 · rw[jc hfit]
   exact⟨hp,hlt.2⟩
theorem aJe {l:List dR} {f:cF} {i:Nat} (h: (bZ l f).2=(i:Int)):i< (bZ l f).1.length:=by
 by_cases hfit:rB (bW l f) f=true
 · rw[df hfit] at h ⊢
   have h: (((dN l f).2:Nat):Int)=(i:Int):=h
   have h2: (dN l f).2< (dN l f).1.length:=by
    by_cases hn:gZ l f.frm f.num<0
    · rw[de hn];simp
    · rw[jb hn];exact(aJd hn).1
   simp only[List.length_set];omega
 · rw[jc hfit] at h
   have h: (-1:Int)=(i:Int):=h
   omega
theorem aG2 (size:Int) (l:List iB): (dW size l).1.length≤size.toNat:=by
 unfold dW
 split
 · split
   · exact aXd _
   · split
     · exact aXd _
     · rw[aXc];omega
 · exact aXd _
section
variable {k:aH} {f:cF} {l:List dR} {i:Nat}
theorem mw (h: ¬(dW f.size (l.getD i .zero).got).2=true):oP k f l i=(dZ k l,[]):=if_neg h
theorem ff (h: (dW f.size (l.getD i .zero).got).2=true) (he:fZ (fB f (dW f.size (l.getD i .zero).got).1)=[]):oP k f l i=(dZ k (gK l i),[]):=by
 rw[oP,if_pos h,if_pos he]
theorem al (h: (dW f.size (l.getD i .zero).got).2=true) (he: ¬fZ (fB f (dW f.size (l.getD i .zero).got).1)=[]) (hw: ¬(fW (dZ k (gK l i)) (cT fL (fB f (dW f.size (l.getD i .zero).got).1)) true).2=true):
 oP k f l i=((fW (dZ k (gK l i)) (cT fL (fB f (dW f.size (l.getD i .zero).got).1)) true).1,[]):=by
 rw[oP,if_pos h,if_neg he,if_neg hw]
theorem my (h: (dW f.size (l.getD i .zero).got).2=true) (he: ¬fZ (fB f (dW f.size (l.getD i .zero).got).1)=[]) (hw: (fW (dZ k (gK l i)) (cT fL (fB f (dW f.size (l.getD i .zero).got).1)) true).2=true):
 oP k f l i=((fW (dZ k (gK l i)) (cT fL (fB f (dW f.size (l.getD i .zero).got).1)) true).1,[bw 2 f]):=by
 rw[oP,if_pos h,if_neg he,if_pos hw]
end
theorem gl {k:aH} {rec:List UInt8} {fc:Bool} (hl:k.log.length≤140737488355328): (fW k rec fc).1.halves=k.halves:=by
 unfold fW
 split
 · have:=(yf (k:=k) (rec:=rec) hl).2
   cases fc
   · exact this
   · exact this
 · rfl
theorem ss {k:aH} {f:cF} (hok:aR k=true) (hu:k.up=true) (hf:eO f=true) (hk:f.kind=1):HOk (dV k f).1.halves∧(dV k f).1.halves.length≤3:=by
 have h0:=mu hok
 have hlg:=eK hok
 have h1:=aKq (f:=f) h0 hlg.2.2.2.1 hf hk
 have hcut: ∀i,HOk (gK (bZ k.halves f).1 i)∧(gK (bZ k.halves f).1 i).length≤3:=fun i=>⟨aKp h1.1 i,Nat.le_trans (yG _ i) h1.2⟩
 unfold dV
 split
 · exact⟨h0,hlg.2.2.2.1⟩
 · split
   · exact⟨h0,hlg.2.2.2.1⟩
   · split
     · exact⟨h0,hlg.2.2.2.1⟩
     · split
       · exact h1
       · by_cases h2: (dW f.size ((bZ k.halves f).1.getD (bZ k.halves f).2.toNat .zero).got).2=true
         · by_cases h3:fZ (fB f (dW f.size ((bZ k.halves f).1.getD (bZ k.halves f).2.toNat .zero).got).1)=[]
           · rw[ff h2 h3];exact hcut _
           · have hlog: (dZ k (gK (bZ k.halves f).1 (bZ k.halves f).2.toNat)).log.length≤140737488355328:=by show k.log.length≤_;omega
             by_cases h4: (fW (dZ k (gK (bZ k.halves f).1 (bZ k.halves f).2.toNat)) (cT fL (fB f (dW f.size ((bZ k.halves f).1.getD (bZ k.halves f).2.toNat .zero).got).1)) true).2=true
             · rw[my h2 h3 h4];dsimp only;rw[gl hlog];exact hcut _
             · rw[al h2 h3 h4];dsimp only;rw[gl hlog];exact hcut _
         · rw[mw h2];exact h1
theorem aKr {l:List dR} (h:HOk l): ∀x∈l,x.got.length≤14:=fun x hx=>(lV ((vR x).1 (h.1 x hx)).1).2.2.2.2.2
section
variable {k:aH} {f:cF}
theorem yn (h: ¬aR k=true):dF k f=(.zero,[]):=if_neg h
theorem yo (h:aR k=true) (h2: ¬(k.up&&eO f&&f.dst==k.id)=true):dF k f=(k,[]):=by rw[dF,if_pos h,if_neg h2]
theorem je (h:aR k=true) (h2: (k.up&&eO f&&f.dst==k.id)=true) (h3:f.kind=1):dF k f=dV k f:=by rw[dF,if_pos h,if_pos h2,if_pos h3]
theorem yp (h:aR k=true) (h2: (k.up&&eO f&&f.dst==k.id)=true) (h3: ¬f.kind=1) (h4:dc k f=true):dF k f=((fW k (pr f) false).1,[]):=by rw[dF,if_pos h,if_pos h2,if_neg h3,if_pos h4]
theorem pw (h:aR k=true) (h2: (k.up&&eO f&&f.dst==k.id)=true) (h3: ¬f.kind=1) (h4: ¬dc k f=true):dF k f=(k,[]):=by rw[dF,if_pos h,if_pos h2,if_neg h3,if_neg h4]
end
theorem aCr {k:aH} {f:cF} {c:Bool} (hok:aR k=true) (h: (f.kind != 2||decide (aS (aZ k).1.held f.frm f.num<0)||zy ((List.drop 3 ((aE (aZ k).1.held).getD (aS (aZ k).1.held f.frm f.num).toNat [])).getD 0 (.i 0)) != f.til||
 zy ((List.drop 2 ((aE (aZ k).1.held).getD (aS (aZ k).1.held f.frm f.num).toNat [])).getD 0 (.i 0)) != f.to)=c):dc k f= !c:=by
 subst h
 unfold dc
 by_cases hp:0≤aS (aZ k).1.held f.frm f.num
 · obtain⟨j,hj,hjl,_⟩:=sB hok hp
   rw[hj,aW6,aQ hjl]
   show _= !(f.kind != 2||decide ((j:Int)<0)||((aZ k).1.held.getD j .zero).til != f.til||((aZ k).1.held.getD j .zero).to != f.to)
   have e1:decide ((j:Int)<0)=false:=by simp
   have e2:decide (0≤(j:Int))=true:=by simp
   rw[e1,e2]
   simp only[bne]
   cases f.kind==2<;>cases ((aZ k).1.held.getD j .zero).til==f.til<;>cases ((aZ k).1.held.getD j .zero).to==f.to<;>rfl
 · have e1:decide (aS (aZ k).1.held f.frm f.num<0)=true:=by simp;omega
   have e2:decide (0≤aS (aZ k).1.held f.frm f.num)=false:=by simp;omega
   rw[e1,e2]
   simp
theorem aPn {k:aH} {f:cF} (hok:aR k=true) (h: (f.kind != 2||decide (aS (aZ k).1.held f.frm f.num<0)||zy ((List.drop 3 ((aE (aZ k).1.held).getD (aS (aZ k).1.held f.frm f.num).toNat [])).getD 0 (.i 0)) != f.til||
 zy ((List.drop 2 ((aE (aZ k).1.held).getD (aS (aZ k).1.held f.frm f.num).toNat [])).getD 0 (.i 0)) != f.to)=true): ¬dc k f=true:=by rw[aCr hok h];simp
theorem aM0 {k:aH} {f:cF} (hok:aR k=true) (h: (f.kind != 2||decide (aS (aZ k).1.held f.frm f.num<0)||zy ((List.drop 3 ((aE (aZ k).1.held).getD (aS (aZ k).1.held f.frm f.num).toNat [])).getD 0 (.i 0)) != f.til||
 zy ((List.drop 2 ((aE (aZ k).1.held).getD (aS (aZ k).1.held f.frm f.num).toNat [])).getD 0 (.i 0)) != f.to)=false):dc k f=true:=by rw[aCr hok h];rfl
structure EvR where
 kind:Int
 at_:Int
 frm:Int
 num:Int
 word:Int
 mix:Int
 keep:Int
 dst:Int
 til:Int
 text:List UInt8
def EvR.row (e:EvR):List D:=[.i e.kind,.i e.at_,.i e.frm,.i e.num,.i e.word,.i e.mix,.i e.keep,.i e.dst,.i e.til,.s e.text]
abbrev EvR.V (e:EvR):V:= .e (.agg [.d (.i e.kind),.d (.i e.at_),.d (.i e.frm),.d (.i e.num),.d (.i e.word),.d (.i e.mix),.d (.i e.keep),.d (.i e.dst),.d (.i e.til),.d (.s e.text)])
def Adj (a b:Int):Prop:=(0≤a∧a≤3)∧(0≤b∧b≤3)∧ ¬(a=3∧b=3)
def FP (f:cF):Prop:=Adj f.src f.dst∧f.data.length≤1000
def PP (p:qX):Prop:=Adj p.frm p.to∧p.data.length≤1000
def fI (r:List D):Prop:= ∃p:qX,r=p.row∧PP p
def cJ (r:List D):Prop:= ∃n:bA,r=n.row∧n.text.length≤1000000
def jJ (r:List D):Prop:=True
theorem yq:fI [.i 0,.i 0,.s [],.b false]:=⟨⟨0,0,[],false⟩,rfl,by unfold PP Adj;simp⟩
theorem aG3:cJ [.i 0,.i 0,.i 0,.i 0,.s []]:=⟨⟨0,0,0,0,[]⟩,rfl,aXd _⟩
def dg (a b:Int):Int:=if a<b then a else b
theorem aEc {a b:Int} (h:Adj a b):0≤dg a b∧dg a b≤2:=by
 obtain⟨h1,h2,h3⟩:=h
 unfold dg
 split<;>omega
theorem rC:ju .zero:=⟨aXd _,aXd _,fun x h=>(by cases h)⟩
def Sm (k' k:aH):Prop:=k'.log.length≤2400∧k'.halves=k.halves
theorem Sm.ks {k k':aH} (h:Sm k' k) (hk:ju k):ju k':=⟨h.1,by rw[h.2];exact hk.2.1,by rw[h.2];exact hk.2.2⟩
theorem Sm.refl {k:aH} (h:k.log.length≤2400):Sm k k:=⟨h,rfl⟩
theorem dh {l:List UInt8} {f:Int} {rec:List UInt8} (h:l.length≤2400): (bJ l f rec).1.1.length≤2400:=by
 unfold bJ
 split
 · split
   · rename_i h9
     simp only[aXb,decide_eq_true_eq] at h9
     show(l++cU rec).length≤_
     rw[aW7];exact h9.2
   · exact h
 · exact aXd _
theorem bi {l:List UInt8} {f:Int} {recs:List (List UInt8)} (h:l.length≤2400): (eE l f recs).1.1.length≤2400:=by
 unfold eE
 split
 · split
   · rename_i h9
     simp only[aXb,decide_eq_true_eq] at h9
     exact h9.2
   · exact h
 · exact aXd _
theorem aJf {k:aH} {rec:List UInt8} (h:k.log.length≤2400):Sm (jD k rec).1 k:=by
 unfold jD
 split
 · split
   · exact⟨dh h,rfl⟩
   · split
     · split
       · exact⟨dh (bi h),rfl⟩
       · exact Sm.refl h
     · exact Sm.refl h
 · exact Sm.refl h
theorem px {l:List UInt8} {f:Int} (h:l.length≤2400): (eT l f).1.length≤2400:=by
 unfold eT
 split
 · exact h
 · exact aXd _
theorem am {k:aH} (h:k.log.length≤2400):Sm (jN k) k:=⟨px h,rfl⟩
theorem uO {k:aH} {rec:List UInt8} {fc:Bool} (h:k.log.length≤2400):Sm (fW k rec fc).1 k:=by
 have hl:=aJf (rec:=rec) h
 unfold fW
 split
 · cases fc
   · exact hl
   · exact⟨(am hl.1).1,hl.2⟩
 · exact Sm.refl h
theorem py {k:aH} {rec:List UInt8} (h:k.log.length≤2400):Sm (cY k rec).1 k:=uO (fc:=true) h
theorem ao {k:aH} (h:ju k):ju (dY k).1:=by
 unfold dY
 split
 · split
   · exact(py h.1).ks h
   · exact h
 · exact rC
theorem aM1 {k:aH} {a b:Int} {t:List UInt8} (h:ju k):ju (bD k a b t).1:=by
 unfold bD
 split
 · split
   · split
     · exact(py h.1).ks h
     · exact h
   · exact h
 · exact rC
theorem aM2 {k:aH} {a b:Int} (h:ju k):ju (aX k a b).1:=by
 unfold aX
 split
 · split
   · split
     · exact(py h.1).ks h
     · exact h
   · exact h
 · exact rC
theorem ap {k:aH} (h:ju k):ju (eN k).1:=by
 unfold eN
 split
 · split
   · exact(show Sm (jC k (eE k.log k.forced (eH (aZ k).1)).1) k from⟨bi h.1,rfl⟩).ks h
   · exact h
 · exact rC
theorem wN {k:aH} (h:ju k):ju (eS k).1:=by
 unfold eS
 split
 · split
   · exact h
   · exact(am h.1).ks h
 · exact rC
theorem aJg {k:aH} {keep:Int} (h:ju k):ju (dM k keep):=by
 unfold dM
 split
 · refine⟨?_,aXd _,fun x hx=>(by cases hx)⟩
   show(fU k.log k.forced keep).1.length≤_
   have:=h.1
   unfold fU
   split
   · show(k.log.take _).length≤_
     rw[aXc];omega
   · exact aXd _
 · exact rC
theorem aJh {k:aH} (h:ju k):ju (dP k):=by
 unfold dP
 split
 · exact h
 · exact rC
theorem aM3 {k:aH} (hl:k.log.length≤2400) (h:HOk k.halves∧k.halves.length≤3):ju k:=⟨hl,by have:=h.2;omega,fun x hx=>by have:=aKr h.1 x hx;omega⟩
theorem aAp {k:aH} {f:cF} (h:k.log.length≤2400): (dV k f).1.log.length≤2400:=by
 unfold dV
 split
 · exact h
 · split
   · exact(am h).1
   · split
     · exact h
     · split
       · exact h
       · by_cases h2: (dW f.size ((bZ k.halves f).1.getD (bZ k.halves f).2.toNat .zero).got).2=true
         · by_cases h3:fZ (fB f (dW f.size ((bZ k.halves f).1.getD (bZ k.halves f).2.toNat .zero).got).1)=[]
           · rw[ff h2 h3];exact h
           · have hlog: (dZ k (gK (bZ k.halves f).1 (bZ k.halves f).2.toNat)).log.length≤2400:=h
             by_cases h4: (fW (dZ k (gK (bZ k.halves f).1 (bZ k.halves f).2.toNat)) (cT fL (fB f (dW f.size ((bZ k.halves f).1.getD (bZ k.halves f).2.toNat .zero).got).1)) true).2=true
             · rw[my h2 h3 h4];exact(uO hlog).1
             · rw[al h2 h3 h4];exact(uO hlog).1
         · rw[mw h2];exact h
theorem aJi {k:aH} {f:cF} (h:ju k):ju (dF k f).1:=by
 by_cases hok:aR k=true
 · by_cases hgo: (k.up&&eO f&&f.dst==k.id)=true
   · have h1:k.up=true:=by simp at hgo;exact hgo.1.1
     have h2:eO f=true:=by simp at hgo;exact hgo.1.2
     by_cases hk:f.kind=1
     · rw[je hok hgo hk]
       exact aM3 (aAp h.1) (ss hok h1 h2 hk)
     · by_cases hl:dc k f=true
       · rw[yp hok hgo hk hl];exact(uO h.1).ks h
       · rw[pw hok hgo hk hl];exact h
   · rw[yo hok hgo];exact h
 · rw[yn hok];exact rC
theorem aRz {kind:Int} {f:cF} (h:eO f=true):FP (bw kind f):=by
 have hs:=mF h
 refine⟨⟨hs.2.1,hs.1,?_⟩,aXd _⟩
 intro ⟨e1,e2⟩
 have e1:f.dst=3:=e1
 have e2:f.src=3:=e2
 by_cases hk:f.kind=1
 · have:=(aLz h hk).2;omega
 · have:=(aL0 h hk).2;omega
theorem aEd {k:aH} {f:cF} (h:eO f=true): (∀g∈(dV k f).2,FP g)∧(dV k f).2.length≤1:=by
 have one: ∀c,(∀g∈[bw c f],FP g)∧[bw c f].length≤1:=fun c=>⟨fun g hg=>by rw[aXo.1 hg];exact aRz h,aXi _⟩
 have none: (∀g∈([]:List cF),FP g)∧([]:List cF).length≤1:=⟨fun g hg=>(by cases hg),aXd _⟩
 unfold dV
 split
 · exact one 3
 · split
   · exact one 2
   · split
     · exact none
     · split
       · exact none
       · by_cases h2: (dW f.size ((bZ k.halves f).1.getD (bZ k.halves f).2.toNat .zero).got).2=true
         · by_cases h3:fZ (fB f (dW f.size ((bZ k.halves f).1.getD (bZ k.halves f).2.toNat .zero).got).1)=[]
           · rw[ff h2 h3];exact none
           · by_cases h4: (fW (dZ k (gK (bZ k.halves f).1 (bZ k.halves f).2.toNat)) (cT fL (fB f (dW f.size ((bZ k.halves f).1.getD (bZ k.halves f).2.toNat .zero).got).1)) true).2=true
             · rw[my h2 h3 h4];exact one 2
             · rw[al h2 h3 h4];exact none
         · rw[mw h2];exact none
theorem aKs {k:aH} {f:cF}: (∀g∈(dF k f).2,FP g)∧(dF k f).2.length≤1:=by
 have none: (∀g∈([]:List cF),FP g)∧([]:List cF).length≤1:=⟨fun g hg=>(by cases hg),aXd _⟩
 by_cases hok:aR k=true
 · by_cases hgo: (k.up&&eO f&&f.dst==k.id)=true
   · have h2:eO f=true:=by simp at hgo;exact hgo.1.2
     by_cases hk:f.kind=1
     · rw[je hok hgo hk];exact aEd h2
     · by_cases hl:dc k f=true
       · rw[yp hok hgo hk hl];exact none
       · rw[pw hok hgo hk hl];exact none
   · rw[yo hok hgo];exact none
 · rw[yn hok];exact none
theorem aM4 (k:bC) (n:bA): (fF k n).1.id=k.id:=by
 unfold fF
 repeat' split
 all_goals rfl
theorem aPo (k:bC) (w:List UInt8) (n:Int): (lH k w n).1.id=k.id:=by
 unfold lH
 repeat' split
 all_goals rfl
theorem aM5 (k:bC) (w:List UInt8) (n:bA): (fN k w n).1.id=k.id:=by
 unfold fN
 repeat' split
 all_goals first|rfl|exact aM4 _ _
theorem aM6 (k:bC) (w:List UInt8) (m:cA): (iL k w m).1.id=k.id:=by
 unfold iL
 repeat' split
 all_goals rfl
theorem aM7 (k:bC) (rec:List UInt8): (eM k rec).1.id=k.id:=by
 unfold eM
 repeat' split
 all_goals first|rfl|exact aPo _ _ _|exact aM5 _ _ _|exact aM6 _ _ _
theorem aM8 {k:bC} {rec:List UInt8} (h: (cL k rec).2=true): (cL k rec).1.id=k.id:=by
 unfold cL at h ⊢
 split at h
 · rename_i hk
   rw[if_pos hk]
   unfold kW
   split
   · exact aM7 k rec
   · rfl
 · cases h
theorem aCs: ∀{rs:List (List UInt8)} {k:bC},(gX k rs).2=true→(gX k rs).1.id=k.id
 | [],k,_=>rfl
 |r::rs,k,h=>by
  unfold gX at h ⊢
  split at h
  · rename_i hd
    rw[if_pos hd,aCs h,aM8 hd]
  · cases h
theorem aG4 {k:aH} (h:aR k=true): (aZ k).1.id=k.id:=by
 unfold aR at h
 simp only[aXb] at h
 have h2:=h.1.1.2
 unfold aZ eU at h2 ⊢
 split at h2
 · rename_i hn
   rw[if_pos hn,aCs h2]
   unfold dU
   rw[if_pos hn]
 · cases h2
theorem aEe {a b:Int} (ha:eR a=true) (hb:eR b=true) (h:a≠b):Adj a (iX a b)∧(a - iX a b=1∨iX a b - a=1):=by
 have h1:0≤a∧a≤3:=by simpa[eR,iK] using ha
 have h2:0≤b∧b≤3:=by simpa[eR,iK] using hb
 have e:iX a b=if a<b then a+1 else a - 1:=by
  unfold iX
  rw[ha,hb,beq_eq_false_iff_ne.2 h];rfl
 rw[e]
 unfold Adj
 split<;>omega
theorem aU8 {k:aH} {a b c:Int} (h: (eQ k a b c).2=true):FP (eQ k a b c).1:=by
 unfold eQ at h ⊢
 split at h
 · rename_i hc
   rw[if_pos hc]
   simp only[aXb,decide_eq_true_eq] at hc
   obtain⟨⟨⟨hok,hu⟩,hm⟩,hat⟩:=hc
   obtain⟨j,hj,hjl,_⟩:=sB hok hat
   rw[hj,aW6]
   have hp:=(cB _).1 (gA hok)
   have hh:=pZ.1 hp.2.2.1 j hjl
   have hn:=pZ.1 hp.2.1.1 j hjl
   unfold tR at hh
   unfold lU eL at hn
   simp only[aXb] at hh hn
   have hw:=hh.1.2
   unfold cq at hw
   simp only[aXb] at hw
   have hid:=aG4 hok
   have h1:eR k.id=true:=by rw[← hid];exact hp.1.1
   have h2:=hn.1.1.1.1.2
   have h3:k.id≠((aZ k).1.held.getD j .zero).to:=by rw[← hid];simpa using hw.1
   exact⟨(aEe h1 h2 h3).1,by have:=xo ((aZ k).1.held.getD j .zero).text c;show(zY _ c).length≤_;omega⟩
 · cases h
section
variable {P:Program} {T:hO} {o:Oper} {σ σ1:St} {x:Operand} {t e:TypeId} {s1 s2 d j es n:Nat} {s3:List C} {Z:gw} {R:List (dH×Option K)} {g:Bool} {k:List (dH×Option K)→V→Prop}
theorem aEf (hT:dQ P T) (ho:o.op= .call {callee:= .builtin .len,args:= #[x],argTypes:= #[t]}) (hd:o.dst=some d) (ht:T t=some ⟨.sl e,s1,s2,s3⟩) (hx:ev σ1 x=some (.e (.c (ps j es n)),R)) (hl:aT σ1 (.o j)=some (.zone Z))
 (hr:g=true→oW σ (R++[(.o j,some (.zone Z))])) (h:k (R++[(.o j,some (.zone Z))]) (I n)): ∃R X,(g=true→xR P o R [(.t d,.v X)]∧bT R σ1)∧(g=true→oW σ R)∧k R X:=by
 obtain⟨R',W',h1,h2,e1,e2⟩:=ij (k:=fun R' W'=>R'=R++[(.o j,some (.zone Z))]∧W'=[(.t d,.v (I n))]) hT ho hd ht hx hl ⟨rfl,rfl⟩
 subst e1;subst e2
 exact⟨_,_,fun _=>⟨h1,h2⟩,hr,h⟩
end
theorem yr {l:List cF} {i:Nat} (h:i<l.length): (nI l).getD i []=(l.getD i cF.zero).row:=by
 rw[aXe,aXe]
 simp[nI,h]
def gm (a n:Nat):Nat:=a+min n (30 - a)
theorem yt {a n:Nat} (h:a≤30):gm a n≤30:=by unfold gm;omega
structure WOk (ks:List aH) (ls:List Bool) (a b c:Nat):Prop where
 four:ks.length=4
 small: ∀k∈ks,ju k
 three:ls.length=3
 ra:a≤30
 rb:b≤6
 rc:c≤6
theorem WOk.at {ks:List aH} {ls:List Bool} {a b c i:Nat} (h:WOk ks ls a b c) (hi:i<4):ju (ks.getD i .zero):=h.small _ (dB (by rw[h.four];exact hi))
theorem WOk.set {ks:List aH} {ls:List Bool} {a b c:Nat} (h:WOk ks ls a b c) {k:aH} (hk:ju k) (i:Nat):WOk (ks.set i k) ls a b c:=
 ⟨by rw[List.length_set];exact h.four,fun x hx=>by rcases List.mem_or_eq_of_mem_set hx with hx|rfl;exact h.small x hx;exact hk,h.three,h.ra,h.rb,h.rc⟩
theorem WOk.to {ks:List aH} {ls:List Bool} {a b c a' b' c':Nat} (h:WOk ks ls a b c) (h1:a'≤30) (h2:b'≤6) (h3:c'≤6):WOk ks ls a' b' c':=⟨h.four,h.small,h.three,h1,h2,h3⟩
theorem WOk.links {ks:List aH} {ls ls':List Bool} {a b c:Nat} (h:WOk ks ls a b c) (h1:ls'.length=3):WOk ks ls' a b c:=⟨h.four,h.small,h1,h.ra,h.rb,h.rc⟩
theorem bL {l:List aH} {i:Nat} {k:aH} (hi:i<l.length): (aG l).set i (dI ((aG l).getD i []) 0 k.row)=aG (l.set i k):=by
 rw[bY hi]
 have:dI ((l.getD i .zero).row) 0 k.row=k.row:=rfl
 rw[this]
 simp[aG,List.map_set]
theorem aEg {l:List Bool} {i:Nat} {x:Bool} (hi:i<l.length): (aM l).set i (dI ((aM l).getD i []) 0 [D.b x])=aM (l.set i x):=by
 rw[lM hi]
 have:dI [D.b (l.getD i false)] 0 [D.b x]=[D.b x]:=rfl
 rw[this]
 simp[aM,List.map_set]
theorem wO {a:Int} (h:0≤a∧a≤3): ∃i:Nat,a=(i:Int)∧i<4:=⟨a.toNat,by omega,by omega⟩
theorem aPp {k:aH} {a b:Int} (h:ju k): (aX k a b).2.1.text.length≤1000000:=by
 unfold aX
 split
 · rename_i hok
   split
   · split
     · rename_i hc _
       simp only[aXb,decide_eq_true_eq] at hc
       obtain⟨j,hj,hjl,_⟩:=iy hok hc.2
       rw[hj,aW6]
       have h6:=(cB _).1 (gA hok)
       have hn:=tF h6.2.1.2.2 (dB (z:=bA.zero) hjl)
       unfold eL zH at hn
       simp only[aXb] at hn
       have h24:1≤(((aZ k).1.inbox.getD j .zero).text.length:Int)∧(((aZ k).1.inbox.getD j .zero).text.length:Int)≤24:=by simpa[iK] using hn.2.2
       show((aZ k).1.inbox.getD j .zero).text.length≤_
       omega
     · exact aXd _
   · exact aXd _
 · exact aXd _
def mgC (j j2:Nat):C→C
 | .z o Q=> .z (if o=j2 then j else o) Q
 |c=>c
def mgE (j j2:Nat):E→E
 | .c x=> .c (mgC j j2 x)
 | .agg cs=> .agg (cs.map (mgC j j2))
def mgV (j j2:Nat):V→V
 | .e x=> .e (mgE j j2 x)
 | .tup xs=> .tup (xs.map (mgE j j2))
def mgK (j j2:Nat):K→K
 | .v x=> .v (mgV j j2 x)
 | .cv s w b x=> .cv s w b (mgV j j2 x)
 | .box ty cs=> .box ty (cs.map (mgC j j2))
 |k=>k
def mgS (j j2:Nat) (σ:St):St:=σ.map fun p=>(p.1,if p.1= .o j2 then .dead else mgK j j2 p.2)
theorem oQ (j j2:Nat) (σ:St) (l:dH):aT (mgS j j2 σ) l=(aT σ l).map fun k=>if l= .o j2 then .dead else mgK j j2 k:=by
 induction σ with
 |nil=>rfl
 |cons p r ih=>
  unfold mgS at ih ⊢
  rw[List.map_cons]
  unfold aT
  by_cases h:p.1=l
  · simp[h]
  · simp only[h,if_false];exact ih
def dj:Value→Value→Value
 | .tuple a,.tuple b=> .tuple (a++b)
 |p,_=>p
theorem mz {p q v:Value} (hp: ∃vs,p= .tuple vs) (hq: ∃vs,q= .tuple vs):vo (dj p q) v↔vo p v∨vo q v:=by
 obtain⟨a,rfl⟩:=hp
 obtain⟨b,rfl⟩:=hq
 simp[vo,dj]
theorem aEh {p:Value} (hp: ∃vs,p= .tuple vs) {b:Nat}:uZ p b↔ ∃v,vo p v∧blk v=some b:=by
 obtain⟨a,rfl⟩:=hp
 simp[vo,uZ]
section
variable {σ:St} {ι ν:Nat→Value} {S:Nat→Prop} {w:World} {j j2 es:Nat} {e:TypeId} {Pr:List D→Prop}
theorem CR.mg (h1:aT σ (.o j)=some (aK e es Pr)) (h2:aT σ (.o j2)=some (aK e es Pr)) (hne:j≠j2) (hp: ∃vs,ι j= .tuple vs) (hq: ∃vs,ι j2= .tuple vs) {c:C} {v:Value} (h:CR σ ι w S c v):
 CR (mgS j j2 σ) (fun o=>if o=j then dj (ι j) (ι j2) else ι o) w S (mgC j j2 c) v:=by
 cases c with
 |d x=>exact h
 |nil=>exact h
 |own o n=>
  refine⟨h.1,?_⟩
  rcases h.2 with⟨e',es',rows,hl,hn,hv⟩|hl
  · have ho:o≠j:=fun e=>by rw[e,h1] at hl;cases hl
    have ho2:o≠j2:=fun e=>by rw[e,h2] at hl;cases hl
    refine .inl ⟨e',es',rows,by rw[oQ,hl];simp[ho2,mgK],hn,fun hh=> ?_⟩
    dsimp only;rw[if_neg ho];exact hv hh
  · right;rw[oQ,hl];simp[mgK]
 |pt o k=>
  refine⟨h.1,?_⟩
  rcases h.2 with⟨ty,cs,hl,b,hi,hv⟩|hl
  · have ho:o≠j:=fun e=>by rw[e,h1] at hl;cases hl
    have ho2:o≠j2:=fun e=>by rw[e,h2] at hl;cases hl
    refine .inl ⟨ty,cs.map (mgC j j2),by rw[oQ,hl];simp[ho2,mgK],b,?_,hv⟩
    dsimp only;rw[if_neg ho];exact hi
  · right;rw[oQ,hl];simp[mgK]
 |pe o n i k=>
  refine⟨h.1,?_⟩
  rcases h.2 with⟨e',es',rows,hl,hn,hv⟩|hl
  · have ho:o≠j:=fun e=>by rw[e,h1] at hl;cases hl
    have ho2:o≠j2:=fun e=>by rw[e,h2] at hl;cases hl
    refine .inl ⟨e',es',rows,by rw[oQ,hl];simp[ho2,mgK],hn,fun hh=> ?_⟩
    dsimp only;rw[if_neg ho];exact hv hh
  · right;rw[oQ,hl];simp[mgK]
 |rp cs=>exact h
 |z o Q=>
  refine⟨h.1,?_⟩
  have hj:aT (mgS j j2 σ) (.o j)=some (aK e es Pr):=by rw[oQ,h1];simp[hne,mgK]
  rcases h.2 with⟨Z,hl,hv⟩|hl
  · by_cases ho2:o=j2
    · subst ho2
      rw[h2] at hl;cases hl
      refine .inl ⟨aOh e es Pr,by rw[if_pos rfl];exact hj,fun p hpp=>hv p fun v hv'=> ?_⟩
      rw[if_pos rfl] at hpp
      dsimp only at hpp
      rw[if_pos rfl] at hpp
      exact hpp v ((mz hp hq).2 (.inr hv'))
    · rw[if_neg ho2]
      by_cases ho:o=j
      · subst ho
        rw[h1] at hl;cases hl
        refine .inl ⟨aOh e es Pr,hj,fun p hpp=>hv p fun v hv'=> ?_⟩
        dsimp only at hpp
        rw[if_pos rfl] at hpp
        exact hpp v ((mz hp hq).2 (.inl hv'))
      · refine .inl ⟨Z,by rw[oQ,hl];simp[ho2,mgK],fun p hpp=>hv p ?_⟩
        dsimp only at hpp
        rw[if_neg ho] at hpp
        exact hpp
  · have ho2:o≠j2:=fun e=>by rw[e,h2] at hl;cases hl
    right;rw[if_neg ho2,oQ,hl];simp[ho2,mgK]
theorem ER.mg (h1:aT σ (.o j)=some (aK e es Pr)) (h2:aT σ (.o j2)=some (aK e es Pr)) (hne:j≠j2) (hp: ∃vs,ι j= .tuple vs) (hq: ∃vs,ι j2= .tuple vs) {c:E} {v:Value} (h:ER σ ι w S c v):
 ER (mgS j j2 σ) (fun o=>if o=j then dj (ι j) (ι j2) else ι o) w S (mgE j j2 c) v:=by
 cases c with
 |c x=>exact CR.mg h1 h2 hne hp hq h
 |agg cs=>
  obtain⟨vs,hv,hl,hk⟩:=h
  refine⟨vs,hv,by simp[hl],fun k c u hc hu=> ?_⟩
  rw[List.getElem?_map] at hc
  cases hx:cs[k]? with
  |none=>rw[hx] at hc;cases hc
  |some c0=>rw[hx] at hc;cases hc;exact CR.mg h1 h2 hne hp hq (hk k c0 u hx hu)
theorem lZ.mg (h1:aT σ (.o j)=some (aK e es Pr)) (h2:aT σ (.o j2)=some (aK e es Pr)) (hne:j≠j2) (hp: ∃vs,ι j= .tuple vs) (hq: ∃vs,ι j2= .tuple vs) {c:V} {v:Value} (h:lZ σ ι w S c v):
 lZ (mgS j j2 σ) (fun o=>if o=j then dj (ι j) (ι j2) else ι o) w S (mgV j j2 c) v:=by
 cases c with
 |e x=>exact ER.mg h1 h2 hne hp hq h
 |tup cs=>
  obtain⟨vs,hv,hl,hk⟩:=h
  refine⟨vs,hv,by simp[hl],fun k c u hc hu=> ?_⟩
  rw[List.getElem?_map] at hc
  cases hx:cs[k]? with
  |none=>rw[hx] at hc;cases hc
  |some c0=>rw[hx] at hc;cases hc;exact ER.mg h1 h2 hne hp hq (hk k c0 u hx hu)
theorem lC.mg (h1:aT σ (.o j)=some (aK e es Pr)) (h2:aT σ (.o j2)=some (aK e es Pr)) (hne:j≠j2) (hp: ∃vs,ι j= .tuple vs) (hq: ∃vs,ι j2= .tuple vs) {o b:Nat} (h:lC (mgS j j2 σ) (fun o=>if o=j then dj (ι j) (ι j2) else ι o) o b):
 o≠j2∧(lC σ ι o b∨(o=j∧lC σ ι j2 b)):=by
 obtain⟨⟨k,hk,hl⟩,hb⟩:=h
 rw[oQ] at hk
 by_cases ho2:o=j2
 · subst ho2
   rw[h2] at hk
   simp at hk
   subst hk
   exact hl.elim
 · refine⟨ho2,?_⟩
   by_cases ho:o=j
   · subst ho
     dsimp only at hb
     rw[if_pos rfl,aEh (by obtain⟨a,ha⟩:=hp;obtain⟨b,hb⟩:=hq;rw[ha,hb];exact⟨_,rfl⟩)] at hb
     obtain⟨v,hv,hbv⟩:=hb
     rcases(mz hp hq).1 hv with hv|hv
     · exact .inl ⟨⟨_,h1,trivial⟩,(aEh hp).2 ⟨v,hv,hbv⟩⟩
     · exact .inr ⟨rfl,⟨_,h2,trivial⟩,(aEh hq).2 ⟨v,hv,hbv⟩⟩
   · left
     dsimp only at hb
     rw[if_neg ho] at hb
     cases hx:aT σ (.o o) with
     |none=>rw[hx] at hk;cases hk
     |some k0=>
      rw[hx] at hk
      simp[ho2] at hk
      subst hk
      refine⟨⟨k0,hx,?_⟩,hb⟩
      cases k0<;>first|trivial|exact hl
theorem VR.mg (h:VR σ ι ν S w) (h1:aT σ (.o j)=some (aK e es Pr)) (h2:aT σ (.o j2)=some (aK e es Pr)) (hne:j≠j2):VR (mgS j j2 σ) (fun o=>if o=j then dj (ι j) (ι j2) else ι o) ν S w:=by
 have hp: ∃vs,ι j= .tuple vs:=(h.objs j _ h1).1
 have hq: ∃vs,ι j2= .tuple vs:=(h.objs j2 _ h2).1
 refine⟨fun s k hk=> ?_,fun o k hk=> ?_,fun o b hm=> ?_,fun o o' b hm hm'=> ?_,h.sz⟩
 · rw[oQ] at hk
   cases hx:aT σ (.t s) with
   |none=>rw[hx] at hk;cases hk
   |some k0=>
    rw[hx] at hk
    simp at hk
    subst hk
    have:=h.slots s k0 hx
    cases k0 with
    |v x=>exact lZ.mg h1 h2 hne hp hq this
    |cv s w b x=>exact⟨fun hb=>lZ.mg h1 h2 hne hp hq (this.1 hb),this.2⟩
    |_=>trivial
 · rw[oQ] at hk
   by_cases ho2:o=j2
   · subst ho2;rw[h2] at hk;simp at hk;subst hk;trivial
   · cases hx:aT σ (.o o) with
     |none=>rw[hx] at hk;cases hk
     |some k0=>
      rw[hx] at hk
      simp[ho2] at hk
      subst hk
      have ho':=h.objs o k0 hx
      by_cases ho:o=j
      · subst ho
        rw[h1] at hx;cases hx
        rw[if_pos rfl]
        refine⟨by obtain⟨a,ha⟩:=hp;obtain⟨b,hb⟩:=hq;rw[ha,hb];exact⟨_,rfl⟩,fun v hv=> ?_⟩
        rcases(mz hp hq).1 hv with hv|hv
        · exact(h.objs o _ h1).2 v hv
        · exact(h.objs j2 _ h2).2 v hv
      · rw[if_neg ho]
        cases k0 with
        |box ty cs=>
         obtain⟨b,vs,q1,q2,q3,q4⟩:=ho'
         refine⟨b,vs,q1,q2,by simp[q3],fun k c u hc hu=> ?_⟩
         rw[List.getElem?_map] at hc
         cases hy:cs[k]? with
         |none=>rw[hy] at hc;cases hc
         |some c0=>rw[hy] at hc;cases hc;exact CR.mg h1 h2 hne hp hq (q4 k c0 u hy hu)
        |row e es rows=>exact ho'
        |zone Z=>exact ho'
        |_=>trivial
 · rcases(lC.mg h1 h2 hne hp hq hm).2 with h'|⟨_,h'⟩
   · exact h.mutS _ b h'
   · exact h.mutS _ b h'
 · obtain⟨n1,c1⟩:=lC.mg h1 h2 hne hp hq hm
   obtain⟨n2,c2⟩:=lC.mg h1 h2 hne hp hq hm'
   rcases c1 with c1|⟨rfl,c1⟩<;>rcases c2 with c2|⟨rfl,c2⟩
   · exact h.inj o o' b c1 c2
   · exact(n1 (h.inj o j2 b c1 c2)).elim
   · exact(n2 (h.inj o' j2 b c2 c1)).elim
   · rfl
end
theorem RW.mg {P:Program} {cx:Cx P} {σ:St} {ι:Nat→Value} {S:Nat→Prop} {a:Act} {w:World} {j j2 es:Nat} {e:TypeId} {Pr:List D→Prop} (h:RW cx σ ι S a w) (h1:aT σ (.o j)=some (aK e es Pr)) (h2:aT σ (.o j2)=some (aK e es Pr)) (hne:j≠j2) (hk:cx.kio j2=none):
 RW cx (mgS j j2 σ) (fun o=>if o=j then dj (ι j) (ι j2) else ι o) S a w:=by
 have hp: ∃vs,ι j= .tuple vs:=(h.vr.objs j _ h1).1
 have hq: ∃vs,ι j2= .tuple vs:=(h.vr.objs j2 _ h2).1
 refine⟨h.vr.mg h1 h2 hne,h.size,h.defers,h.fr,fun o b hm=> ?_,h.rd,fun o k ho=> ?_⟩
 · rcases(lC.mg h1 h2 hne hp hq hm).2 with h'|⟨_,h'⟩
   · exact h.own _ b h'
   · exact h.own _ b h'
 · obtain⟨k',hk',hev⟩:=h.io o k ho
   have ho2:o≠j2:=fun e=>by rw[e,hk] at ho;cases ho
   refine⟨mgK j j2 k',by rw[oQ,hk'];simp[ho2],?_⟩
   refine nQ.trans hev ?_
   by_cases hj:o=j
   · subst hj
     rw[h1] at hk';cases hk'
     rw[if_pos rfl]
     exact⟨rfl,fun v hv=>(mz hp hq).2 (.inl hv)⟩
   · rw[if_neg hj]
     cases k'<;>simp[nQ,mgK,gw.refl]
theorem SW.merge {P:Program} {io:List Nat} {Q:Ex→St→Prop} {σ:St} {c:Code} (j j2:Nat) {e:TypeId} {es:Nat} {Pr:List D→Prop} (h1:aT σ (.o j)=some (aK e es Pr)) (h2:aT σ (.o j2)=some (aK e es Pr)) (hne:j≠j2) (hk:iO j2 io=false) (h:SW P io c Q (mgS j j2 σ)):SW P io c Q σ:=fun cx ι S a w hio hw hf=>
 h cx _ S a w hio (hw.mg h1 h2 hne (by
  cases hx:cx.kio j2 with
  |none=>rfl
  |some k=>exact absurd (hP.2 (hio j2 k hx)) (by rw[hk];simp))) hf
def aKt (P:Program) (io:List Nat) (s q:St):Prop:= ∀c Q,SW P io c Q q→SW P io c Q s
section
variable {P:Program} {io:List Nat} {σ q:St} {Q:Ex→St→Prop}
theorem na (h:WK io (fun x=>x=q) σ):aKt P io σ q:=fun c Q hq=>SW.wk h (fun s hs=>by subst hs;exact hq)
theorem aG5 (j j2:Nat) {e:TypeId} {es:Nat} {Pr:List D→Prop} (h1:aT σ (.o j)=some (aK e es Pr)) (h2:aT σ (.o j2)=some (aK e es Pr)) (hne:j≠j2) (hk:iO j2 io=false) (h:aKt P io (mgS j j2 σ) q):aKt P io σ q:=
 fun c Q hq=>SW.merge j j2 h1 h2 hne hk (h c Q hq)
theorem SW.midL {A:Type} (ok:A→Prop) (st:A→St) {x y:Code} (h:SW P io x (kc (fun s=> ∃a,ok a∧aKt P io s (st a)) Q) σ) (hy: ∀a,ok a→SW P io y Q (st a)):SW P io (.seq x y) Q σ:=
 SW.mid _ h fun s ⟨a,h1,h2⟩=>h2 y Q (hy a h1)
end
theorem vq {p:Prop} (h:p:=by first|exact True.intro|rfl|exact aW8 rfl|exact⟨rfl,aW8 rfl⟩|exact⟨by kernel_rfl,aW8 (by kernel_rfl)⟩|omega|((repeat' apply And.intro)<;>first|trivial|rfl|exact aW8 rfl|omega)|(simp;done)|(simp;omega)):p:=h
theorem s1 {p1 k:Prop} (x:k) (h1:p1:=by exact vq):p1∧k:=⟨h1,x⟩
theorem s2 {p1 p2 k:Prop} (x:k) (h1:p1:=by exact vq) (h2:p2:=by exact vq):p1∧p2∧k:=⟨h1,h2,x⟩
theorem s3 {p1 p2 p3 k:Prop} (x:k) (h1:p1:=by exact vq) (h2:p2:=by exact vq) (h3:p3:=by exact vq):p1∧p2∧p3∧k:=⟨h1,h2,h3,x⟩
theorem s4 {p1 p2 p3 p4 k:Prop} (x:k) (h1:p1:=by exact vq) (h2:p2:=by exact vq) (h3:p3:=by exact vq) (h4:p4:=by exact vq):p1∧p2∧p3∧p4∧k:=⟨h1,h2,h3,h4,x⟩
theorem s5 {p1 p2 p3 p4 p5 k:Prop} (x:k) (h1:p1:=by exact vq) (h2:p2:=by exact vq) (h3:p3:=by exact vq) (h4:p4:=by exact vq) (h5:p5:=by exact vq):p1∧p2∧p3∧p4∧p5∧k:=⟨h1,h2,h3,h4,h5,x⟩
theorem s6 {p1 p2 p3 p4 p5 p6 k:Prop} (x:k) (h1:p1:=by exact vq) (h2:p2:=by exact vq) (h3:p3:=by exact vq) (h4:p4:=by exact vq) (h5:p5:=by exact vq) (h6:p6:=by exact vq):p1∧p2∧p3∧p4∧p5∧p6∧k:=⟨h1,h2,h3,h4,h5,h6,x⟩
theorem s7 {p1 p2 p3 p4 p5 p6 p7 k:Prop} (x:k) (h1:p1:=by exact vq) (h2:p2:=by exact vq) (h3:p3:=by exact vq) (h4:p4:=by exact vq) (h5:p5:=by exact vq) (h6:p6:=by exact vq) (h7:p7:=by exact vq):p1∧p2∧p3∧p4∧p5∧p6∧p7∧k:=⟨h1,h2,h3,h4,h5,h6,h7,x⟩
theorem s8 {p1 p2 p3 p4 p5 p6 p7 p8 k:Prop} (x:k) (h1:p1:=by exact vq) (h2:p2:=by exact vq) (h3:p3:=by exact vq) (h4:p4:=by exact vq) (h5:p5:=by exact vq) (h6:p6:=by exact vq) (h7:p7:=by exact vq) (h8:p8:=by exact vq):p1∧p2∧p3∧p4∧p5∧p6∧p7∧p8∧k:=⟨h1,h2,h3,h4,h5,h6,h7,h8,x⟩
theorem s9 {p1 p2 p3 p4 p5 p6 p7 p8 p9 k:Prop} (x:k) (h1:p1:=by exact vq) (h2:p2:=by exact vq) (h3:p3:=by exact vq) (h4:p4:=by exact vq) (h5:p5:=by exact vq) (h6:p6:=by exact vq) (h7:p7:=by exact vq) (h8:p8:=by exact vq) (h9:p9:=by exact vq):p1∧p2∧p3∧p4∧p5∧p6∧p7∧p8∧p9∧k:=⟨h1,h2,h3,h4,h5,h6,h7,h8,h9,x⟩
theorem y1 {w1 p1 q1 k:Prop} (x:k) (h1:w1→p1:=by intro _;exact vq) (j1:q1:=by exact rk): (w1→p1)∧q1∧k:=⟨h1,j1,x⟩
theorem y2 {w1 p1 q1 w2 p2 q2 k:Prop} (x:k) (h1:w1→p1:=by intro _;exact vq) (j1:q1:=by exact rk) (h2:w2→p2:=by intro _;exact vq) (j2:q2:=by exact rk): (w1→p1)∧q1∧(w2→p2)∧q2∧k:=⟨h1,j1,h2,j2,x⟩
theorem y3 {w1 p1 q1 w2 p2 q2 w3 p3 q3 k:Prop} (x:k) (h1:w1→p1:=by intro _;exact vq) (j1:q1:=by exact rk) (h2:w2→p2:=by intro _;exact vq) (j2:q2:=by exact rk) (h3:w3→p3:=by intro _;exact vq) (j3:q3:=by exact rk): (w1→p1)∧q1∧(w2→p2)∧q2∧(w3→p3)∧q3∧k:=⟨h1,j1,h2,j2,h3,j3,x⟩
theorem y4 {w1 p1 q1 w2 p2 q2 w3 p3 q3 w4 p4 q4 k:Prop} (x:k) (h1:w1→p1:=by intro _;exact vq) (j1:q1:=by exact rk) (h2:w2→p2:=by intro _;exact vq) (j2:q2:=by exact rk) (h3:w3→p3:=by intro _;exact vq) (j3:q3:=by exact rk) (h4:w4→p4:=by intro _;exact vq) (j4:q4:=by exact rk): (w1→p1)∧q1∧(w2→p2)∧q2∧(w3→p3)∧q3∧(w4→p4)∧q4∧k:=⟨h1,j1,h2,j2,h3,j3,h4,j4,x⟩
section
variable {P:Program} {σ σ1 σin:St} {o:Oper} {f n:Nat} {X:V}
def aKu (σ:St) (o:Oper) (f n:Nat) (σin:St) (X:V) (k:List (dH×Option K)→Tmp→Prop):Prop:=match o.op,o.dst with
 | .call c,some d=>match c.callee,evA σ c.args.toList with
  | .value (.func f'),some (Xs,Ra)=>match Nat.beq f' f&&(Nat.beq Xs.length n&&(Xs.all oX&&oX X)) with
   |true=>σin=eV 0 Xs∧k Ra d
   |false=>False
  |_,_=>False
 |_,_=>False
theorem yu {k:List (dH×Option K)→Tmp→Prop} (h:aKu σ o f n σin X k): ∃c d Xs Ra,o.op= .call c∧c.callee= .value (.func f)∧o.dst=some d∧evA σ c.args.toList=some (Xs,Ra)∧Xs.length=n∧σin=eV 0 Xs∧Xs.all oX=true∧oX X=true∧k Ra d:=by
 unfold aKu at h
 split at h<;>try exact h.elim
 rename_i c d ho hd
 split at h<;>try exact h.elim
 rename_i f' Xs Ra hc hx
 split at h<;>try exact h.elim
 rename_i hb
 simp only[aXb] at hb
 obtain⟨h1,h2,h3,h4⟩:=hb
 have h1:=Nat.eq_of_beq_eq_true h1
 subst h1
 exact⟨c,d,Xs,Ra,ho,hc,hd,hx,Nat.eq_of_beq_eq_true h2,h.1,h3,h4,h.2⟩
theorem xp {k:List (dH×Option K)→List (dH×K)→Prop} (hs:Spec P f n σin [(.t 0,.v X)]) (h:aKu σ o f n σin X fun Ra d=>k Ra [(.t d,.v X)]): ∃R W,xR P o R W∧bT R σ∧k R W:=by
 obtain⟨c,d,Xs,Ra,h1,h2,h3,h4,h5,h6,h7,h8,h9⟩:=yu h
 exact ki hs h1 h2 h3 h4 h5 h6 h7 h8 h9
theorem xc {g:Bool} {d:Tmp} {k:List (dH×Option K)→V→Prop} (hs:g=true→Spec P f n σin [(.t 0,.v X)]) (h:aKu σ1 o f n σin X fun Ra d'=>match Nat.beq d' d with|true=>(g=true→oW σ Ra)∧k Ra X|false=>False): ∃R X,(g=true→xR P o R [(.t d,.v X)]∧bT R σ1)∧(g=true→oW σ R)∧k R X:=by
 obtain⟨c,d',Xs,Ra,h1,h2,h3,h4,h5,h6,h7,h8,h9⟩:=yu h
 split at h9
 · rename_i hb
   have hb:=Nat.eq_of_beq_eq_true hb
   subst hb
   exact aOe hs h1 h2 h3 h4 h5 h6 h7 h8 h9.1 h9.2
 · exact h9.elim
end
section
variable {P:Program} {io:List Nat} {Q:Ex→St→Prop} {s σ':St} {rl:List (Nat×Nat)} {bor:List Nat}
theorem wq {J:St→Prop} (rl:List (Nat×Nat)) (bor:List Nat) (h:J σ') (h1:qL s σ' rl bor σ') (h2:bd σ' rl bor=true:=by rfl) (h3:zA io σ' rl bor=true:=by rfl):WK io J s:=Ab.wk σ' rl bor h (qs h1) h2 h3
theorem wa {c:Code} (σ':St) (rl:List (Nat×Nat)) (bor:List Nat) (h1:qL s σ' rl bor σ') (h:SW P io c Q σ') (h2:bd σ' rl bor=true:=by rfl) (h3:zA io σ' rl bor=true:=by rfl):SW P io c Q s:=SW.weaken σ' rl bor ⟨qs h1,h2⟩ h3 h
theorem rq {T:hO} {rs:List ResultVar} {X:V} (rl:List (Nat×Nat)) (bor:List Nat) (h1:aHt T s rs=some X) (h2:qL ((.t 0,.v X)::eC s) σ' rl bor σ') (h3:bd σ' rl bor=true:=by rfl) (h4:uy io σ' rl bor=true:=by rfl):be T io rs σ' s:=eA X rl bor h1 (qs h2) h3 h4
theorem sq {x y:Code} (h:SW P io x (kc (SW P io y Q) Q) s):SW P io (.seq x y) Q s:=SW.seq h
theorem sk (h:Q .norm s):SW P io .skip Q s:=SW.skip h
theorem bk {id:Nat} {c:Code} (h:SW P io c (aHr id Q) s):SW P io (.block id c) Q s:=SW.block h
theorem xt {id:Nat} (h:Q (.exit id) s):SW P io (.exit id) Q s:=SW.exit h
theorem rt (h:Q .ret s):SW P io .ret Q s:=SW.ret h
theorem cd {c:Operand} {x y:Code} {t:Bool} {R:List (dH×Option K)} (hc:ev s c=some (B t,R)) (h1:t=true→SW P io x Q s) (h2:t=false→SW P io y Q s):SW P io (.cond c x y) Q s:=SW.cond hc h1 h2
end
theorem qx {p:Prop} (h:p:=by first|exact True.intro|with_reducible rfl|exact aWu):p:=h
theorem qz {p:Prop} (h:p:=by(repeat' apply ai)<;>first|exact True.intro|with_reducible rfl|exact aWu|rfl|(simp;done)|omega):p:=h
abbrev tI (s:Nat) (x:Int):dH×K:=(.t s,.v (I x))
abbrev tB (s:Nat) (x:Bool):dH×K:=(.t s,.v (B x))
abbrev tD (s:Nat) (x:D):dH×K:=(.t s,.v (Dv x))
abbrev tP (s o:Nat):dH×K:=(.t s,.v (.e (.c (.pt o 0))))
abbrev tO (s o n:Nat):dH×K:=(.t s,.v (.e (.c (.own o n))))
abbrev tV (s:Nat) (x:V):dH×K:=(.t s,.v x)
abbrev oB (o:Nat) (t:TypeId) (cs:List C):dH×K:=(.o o,.box t cs)
abbrev oR (o:Nat) (t:TypeId) (n:Nat) (r:List (List D)):dH×K:=(.o o,.row t n r)
end Go.Ab
namespace Go.Proofs.YthbgjfegalcenaaGreatDoor
open Int renaming toNat_natCast→aW6,tmod→aXm
open List renaming length_append→aW7,length_cons→aW9,length_nil→aXa,length_take→aXc,getD_eq_getElem?_getD→aXe,length_drop→aXf,getElem?_eq_getElem→aXg,getElem?_eq_some_iff→aXh,range→aXj,mem_map→aXk,all_eq_true→aXl,take_length→aXn,mem_singleton→aXo,mem_iff_getElem?→aXq,mem_cons→aXr
open Nat renaming le_of_ble_eq_true→aW8,zero_le→aXd,le_refl→aXi,add_mul→aXp
open Bool renaming and_eq_true→aXb
open Go Go.Ab Go.RowKit
set_option linter.unusedVariables false
abbrev Sp:=Ab.Spec Tryz.prog
abbrev ui:=Ab.SpecE Tryz.prog
theorem mo:Tryz.prog.follows .mixedOrders=true:=by kernel_rfl
theorem rT {io:List Nat} {Q:Ex→St→Prop} {σ:St} (ks:List Nat) {id:Nat} {ops:Array Oper} (h:goC Tryz.prog tab ops.toList false ops.toList σ [] fun σ' _=>rQ ks σ' (Q .norm)):SW Tryz.prog io (.region id ops false) Q σ:=SW.regT cV ks h
theorem rD {io:List Nat} {Q:Ex→St→Prop} {σ:St} (ks:List Nat) {id:Nat} {ops:Array Oper} (h:goC Tryz.prog tab ops.toList true ops.toList σ [] fun σ' ns=>ck ops.toList ns=true∧rQ ks σ' (Q .norm)):SW Tryz.prog io (.region id ops true) Q σ:=SW.regD cV mo ks h
theorem rE {io:List Nat} {Q:Ex→St→Prop} {σ:St} (ks:List Nat) {id:Nat} {ops:Array Oper} (h:goE Tryz.prog tab io ops.toList ops.toList σ fun σ'=>rQ ks σ' (Q .norm)):SW Tryz.prog io (.region id ops false) Q σ:=SW.regE cV ks h
theorem rF {io:List Nat} {Q:Ex→St→Prop} {σ:St} (ks:List Nat) {id:Nat} {ops:Array Oper} (h:goF Tryz.prog tab io ops.toList ops.toList σ fun σ'=>rQ ks σ' (Q .norm)):SW Tryz.prog io (.region id ops false) Q σ:=SW.regF cV ks h
theorem rX {io:List Nat} {Q:Ex→St→Prop} {σ:St} (ks:List Nat) {id:Nat} {ops:Array Oper} (h:goX Tryz.prog ops.toList σ [] fun σ' ns=>ck ops.toList ns=true∧rQ ks σ' (Q .norm)):SW Tryz.prog io (.region id ops true) Q σ:=SW.regX mo ks h
theorem sb {f:FuncId} {fn:Func} {c:Code} {n:Nat} {σin:St} {σout:St} (hf:Tryz.prog.funcs[f]? =some fn) (hb:fn.body=some c) (h:SW Tryz.prog ((cD σin).filter fun o=>iO o (cD σout)) c (aSe tab ((cD σin).filter fun o=>iO o (cD σout)) fn.results.toList σout) σin) (hname: (fn.name== "runtime.NumGoroutine")=false:=by kernel_rfl) (hn:n≤fn.ntmps:=by decide) (hfit:tN fn.ntmps c=true:=by kernel_rfl) (hsl:sP n σin=true:=by rfl):Sp f n σin σout:=aC9 cV hf hb hname hn hfit hsl h
theorem yv {f:FuncId} {fn:Func} {c:Code} {n:Nat} {σin:St} {Qo:St→Prop} (hf:Tryz.prog.funcs[f]? =some fn) (hb:fn.body=some c) (h:SW Tryz.prog (cD σin) c (aOf tab (cD σin) fn.results.toList Qo) σin) (hname: (fn.name== "runtime.NumGoroutine")=false:=by kernel_rfl) (hn:n≤fn.ntmps:=by decide) (hfit:tN fn.ntmps c=true:=by kernel_rfl) (hsl:sP n σin=true:=by rfl):ui f n σin Qo:=aAe cV hf hb hname hn hfit hsl h
end Go.Proofs.YthbgjfegalcenaaGreatDoor
namespace Go.Ab
open Int renaming toNat_natCast→aW6,tmod→aXm
open List renaming length_append→aW7,length_cons→aW9,length_nil→aXa,length_take→aXc,getD_eq_getElem?_getD→aXe,length_drop→aXf,getElem?_eq_getElem→aXg,getElem?_eq_some_iff→aXh,range→aXj,mem_map→aXk,all_eq_true→aXl,take_length→aXn,mem_singleton→aXo,mem_iff_getElem?→aXq,mem_cons→aXr
open Nat renaming le_of_ble_eq_true→aW8,zero_le→aXd,le_refl→aXi,add_mul→aXp
open Bool renaming and_eq_true→aXb
open Go Go.RowKit
set_option linter.unusedVariables false
set_option linter.unusedSimpArgs false
def pz (T:hO) (sz:Nat):Nat→List (Nat×TypeId)→Bool
 |off,[]=>Nat.beq off sz
 |off,p::r=>Nat.beq p.1 off&&(match T p.2 with|some fi=>pz T sz (off+fi.size) r|none=>false)
def jf (T:hO):Nat→TypeId→Bool
 |0,_=>false
 |n+1,t=>match T t with
  |none=>false
  |some ti=>match ti.kind with
   | .int .i64=>true
   | .int .u8=>true
   | .bool=>true
   | .str=>true
   | .sl e=>jf T n e
   | .st fs=>pz T ti.size 0 fs&&fs.all fun p=>jf T n p.2
   |_=>false
def vS (T:hO) (B:Nat):Nat→TypeId→List D→Prop
 |0,_,_=>False
 |n+1,t,ds=>match T t with
  |none=>False
  |some ti=>match ti.kind with
   | .int .i64=> ∃x,ds=[.i x]∧(Lit.int .i64 x).wf=true
   | .int .u8=> ∃x,ds=[.u x]∧(Lit.int .u8 x).wf=true
   | .bool=> ∃b,ds=[.b b]
   | .str=> ∃l,ds=[.s l]∧l.length≤B
   | .sl e=> ∃rows,ds=[.sl rows]∧(match T e with|some ei=>rows.length*ei.bytes≤B|none=>False)∧ ∀r∈rows,vS T B n e r
   | .st fs=>ds.length=ti.size∧ ∀p∈fs,match T p.2 with|some fi=>vS T B n p.2 ((ds.drop p.1).take fi.size)|none=>False
   |_=>False
section
variable {H:Type} {enc:TypeId×Value→H} {P:Program} {W:World} {sp:Nat→Bool} {held:Bool} {T:hO} {B:Nat}
theorem jg (hT:dQ P T) {t:TypeId} {ti:TI} (h:T t=some ti):P.cellsOf t=ti.size∧P.bytesOf t=ti.bytes:=by
 obtain⟨i,z,hi,h1,h2,_⟩:=(hT t ti h).info
 exact⟨by simp[Program.cellsOf,hi,h1],by simp[Program.bytesOf,hi,h2]⟩
theorem aR0 {a:Addr} {v:Value} (h:W.cell? a=some v):a.block<W.heap.size:=by
 unfold World.cell? at h
 cases hq:W.heap[a.block]? with
 |none=>rw[hq] at h;simp at h
 |some o=>exact(Array.getElem?_eq_some_iff.1 hq).1
theorem aG6 {base:Nat} {a:Addr} {n:Nat} {cs:List Value} (h:W.cells? base a n=some cs):cs.length=n∧ ∀(k:Nat) v,cs[k]? =some v→W.cell? (a.add k)=some v:=by
 unfold World.cells? at h
 split at h
 · have key: ∀(l:List Nat) (cs:List Value),l.mapM (fun i=>W.cell? (a.add i))=some cs→cs.length=l.length∧ ∀(k:Nat) v,cs[k]? =some v→ ∃i,l[k]? =some i∧W.cell? (a.add i)=some v:=by
    intro l
    induction l with
    |nil=>intro cs h;simp at h;subst h;exact⟨rfl,by simp⟩
    |cons x r ih=>
     intro cs h
     rw[List.mapM_cons] at h
     obtain⟨v,h1,h⟩:=Option.bind_eq_some_iff.1 h
     obtain⟨vs,h2,h⟩:=Option.bind_eq_some_iff.1 h
     cases h
     obtain⟨q1,q2⟩:=ih vs h2
     refine⟨by simp[q1],fun k u hu=> ?_⟩
     cases k with
     |zero=>simp at hu;subst hu;exact⟨x,rfl,h1⟩
     |succ k=>simpa using q2 k u (by simpa using hu)
   obtain⟨q1,q2⟩:=key _ _ h
   refine⟨by simpa using q1,fun k v hv=> ?_⟩
   obtain⟨i,h1,h2⟩:=q2 k v hv
   have:=(aXh.1 h1)
   obtain⟨h3,h4⟩:=this
   simp at h4
   rw[h4];exact h2
 · cases h
def SW0 (W:World):Nat→Prop:=fun b=>b<W.heap.size
def Rd (W:World) (ds:List D) (cs:List Value):Prop:=ds.length=cs.length∧ ∀(k:Nat) x v,ds[k]? =some x→cs[k]? =some v→DR W (SW0 W) x v
theorem Rd.one {x:D} {v:Value} (h:DR W (SW0 W) x v):Rd W [x] [v]:=⟨rfl,fun k y u h1 h2=>by
 cases k with
 |zero=>simp at h1 h2;subst h1;subst h2;exact h
 |succ k=>simp at h1⟩
theorem Rd.append {ds es:List D} {cs vs:List Value} (h:Rd W ds cs) (k:Rd W es vs):Rd W (ds++es) (cs++vs):=by
 refine⟨by simp[h.1,k.1],fun i x v h1 h2=> ?_⟩
 by_cases hi:i<ds.length
 · rw[List.getElem?_append_left hi] at h1
   rw[List.getElem?_append_left (by rw[← h.1];exact hi)] at h2
   exact h.2 i x v h1 h2
 · rw[List.getElem?_append_right (by omega)] at h1
   rw[List.getElem?_append_right (by rw[← h.1];omega),← h.1] at h2
   exact k.2 _ x v h1 h2
def aPr (enc:TypeId×Value→H) (P:Program) (W:World) (sp:Nat→Bool) (held:Bool) (T:hO) (B N:Nat) (t:TypeId):Prop:=
 ∀fuel cs d ps,DataW.trod enc P W 0 sp held fuel t cs=some (d,ps)→(d.weights P t).all (· ≤B)=true→ ∃ds,Rd W ds cs∧vS T B N t ds
theorem nb (hT:dQ P T) {N sz fuel:Nat}: ∀(fs:List Field) (off:Nat) (cs:List Value) (xs:List (DataW H×List MemPlace)),pz T sz off (fs.map fun f=>(f.offset,f.type))=true→cs.length=sz→off≤sz→
 (∀f∈fs,aPr enc P W sp held T B N f.type)→fs.mapM (fun f=>DataW.trod enc P W 0 sp held fuel f.type ((cs.drop f.offset).take (P.cellsOf f.type)))=some xs→(DataW.weightsEach P (fs.map (·.type)) (xs.map (·.1))).all (· ≤B)=true→
 ∃ds,Rd W ds (cs.drop off)∧ ∀p∈fs.map (fun f=>(f.offset,f.type)),off≤p.1∧match T p.2 with|some fi=>vS T B N p.2 ((ds.drop (p.1 - off)).take fi.size)|none=>False
 | [],off,cs,xs,ht,hl,ho,_,_,_=>by
  have:off=sz:=Nat.eq_of_beq_eq_true ht
  exact⟨[],by rw[List.drop_eq_nil_of_le (by omega)];exact⟨rfl,by simp⟩,by simp⟩
 |f::fs,off,cs,xs,ht,hl,ho,hop,hm,hw=>by
  simp only[List.map_cons,pz,aXb] at ht
  obtain⟨h1,h2⟩:=ht
  have h1:=Nat.eq_of_beq_eq_true h1
  cases hf:T f.type with
  |none=>rw[hf] at h2;cases h2
  |some fi=>
   rw[hf] at h2
   simp only at h2
   rw[List.mapM_cons] at hm
   obtain⟨x,hx,hm⟩:=Option.bind_eq_some_iff.1 hm
   obtain⟨ys,hy,hm⟩:=Option.bind_eq_some_iff.1 hm
   cases hm
   obtain⟨hc1,hc2⟩:=jg hT hf
   simp only[List.map_cons,DataW.weightsEach,List.all_append,aXb] at hw
   obtain⟨ds,hr,hty⟩:=hop f (List.mem_cons_self ..) _ _ _ _ hx hw.1
   have hoff:off+fi.size≤sz:=by
    have key: ∀(l:List (Nat×TypeId)) (o:Nat),pz T sz o l=true→o≤sz:=by
     intro l
     induction l with
     |nil=>intro o h;exact Nat.le_of_eq (Nat.eq_of_beq_eq_true h)
     |cons p r ih=>
      intro o h
      simp only[pz,aXb] at h
      cases hq:T p.2 with
      |none=>rw[hq] at h;cases h.2
      |some qi=>rw[hq] at h;have:=ih _ h.2;omega
    exact key _ _ h2
   obtain⟨es,hr2,hty2⟩:=nb hT fs (off+fi.size) cs ys h2 hl hoff (fun g hg=>hop g (List.mem_cons_of_mem _ hg)) hy hw.2
   rw[hc1,h1] at hr
   have hdl:ds.length=fi.size:=by rw[hr.1,aXc,aXf];omega
   refine⟨ds++es,?_,fun p hp=> ?_⟩
   · have e:cs.drop off=(cs.drop off).take fi.size++cs.drop (off+fi.size):=by
      rw[← List.drop_drop,List.take_append_drop]
     rw[e];exact hr.append hr2
   · rcases aXr.1 hp with rfl|hp
     · refine⟨Nat.le_of_eq h1.symm,?_⟩
       simp only[hf,h1,Nat.sub_self,List.drop_zero]
       rw[List.take_append_of_le_length (by omega),← hdl,aXn];exact hty
     · obtain⟨q1,q2⟩:=hty2 p hp
       refine⟨by omega,?_⟩
       cases hq:T p.2 with
       |none=>rw[hq] at q2;exact q2
       |some qi=>
        rw[hq] at q2
        simp only at q2 ⊢
        rw[List.drop_append,List.drop_eq_nil_of_le (by omega),List.nil_append,hdl,show p.1 - off - fi.size=p.1 - (off+fi.size) by omega]
        exact q2
theorem dk {e:TypeId}: ∀{l:List (DataW H)},(DataW.weightsAll P e l).all (· ≤B)=true→ ∀d∈l,(d.weights P e).all (· ≤B)=true
 | [],_,d,hd=>by cases hd
 |x::r,h,d,hd=>by
  simp only[DataW.weightsAll,List.all_append,aXb] at h
  rcases aXr.1 hd with rfl|hd
  · exact h.1
  · exact dk h.2 d hd
theorem jh (hT:dQ P T): ∀(N:Nat) (t:TypeId),jf T N t=true→aPr enc P W sp held T B N t
 |0,t,h=>by cases h
 |N+1,t,h=>by
  intro fuel cs d ps htr hw
  unfold jf at h
  cases ht:T t with
  |none=>rw[ht] at h;cases h
  |some ti=>
   rw[ht] at h
   simp only at h
   have hok:=hT t ti ht
   have hk:=hok.kind
   cases fuel with
   |zero=>cases htr
   |succ fuel=>
    cases hkk:ti.kind with
    |int k=>
     rw[hkk] at h hk
     simp only[mD] at hk
     unfold DataW.trod at htr
     rw[hk] at htr
     split at htr<;>rename_i he<;>try(cases he;done)
     · rename_i _ _ kk mm
       cases he
       split at htr
       · rename_i hc
         cases htr
         obtain⟨rfl,hwf⟩:=hc
         cases kk<;>try(cases h;done)
         · exact⟨[.i mm],.one (.i _),by unfold vS;simp only[ht,hkk];exact⟨_,rfl,hwf⟩⟩
         · exact⟨[.u mm],.one (.u _),by unfold vS;simp only[ht,hkk];exact⟨_,rfl,hwf⟩⟩
       · cases htr
     all_goals cases htr
    |bool=>
     rw[hkk] at hk
     simp only[mD] at hk
     unfold DataW.trod at htr
     rw[hk] at htr
     split at htr<;>rename_i he<;>try(cases he;done)
     · cases htr
       exact⟨[.b _],.one (.b _),by unfold vS;simp only[ht,hkk];exact⟨_,rfl⟩⟩
     all_goals cases htr
    |str=>
     rw[hkk] at hk
     simp only[mD] at hk
     unfold DataW.trod at htr
     rw[hk] at htr
     split at htr<;>rename_i he<;>try(cases he;done)
     · rename_i _ s
       split at htr
       · cases htr
         refine⟨[.s s.data.toList],.one (.s _),?_⟩
         unfold vS;simp only[ht,hkk]
         exact⟨_,rfl,by simpa[DataW.weights] using hw⟩
       · cases htr
     all_goals cases htr
    |sl e=>
     rw[hkk] at h hk
     simp only[mD] at hk
     simp only at h
     have hih:=jh hT N e h
     cases he:T e with
     |none=>cases N with
      |zero=>cases h
      |succ N=>unfold jf at h;rw[he] at h;cases h
     |some ei=>
      obtain⟨hc1,hc2⟩:=jg hT he
      have hep:=(hT e ei he).pos
      rcases Deep.open_slice hk htr with⟨rfl,hx⟩|⟨a,len,cap,m,n,Df,Pl,rfl,hb,hl,hm,hmm,hx,hel⟩
      · refine⟨[.sl []],.one (.sl [] none 0 0 ⟨0,0,none⟩ (fun _ _=>undef) (by simp) (by simp[maxLen]) (by simp) (by simp) (by simp) (by simp)),?_⟩
        unfold vS;simp only[ht,hkk]
        exact⟨[],rfl,by simp[he],by simp⟩
      · cases hx
        simp only[DataW.weights,hk,List.all_cons,List.all_append,aXb,decide_eq_true_eq,List.length_map,List.length_range] at hw
        have hlm:len≤m:=by rw[hmm];split<;>omega
        have hrow: ∀i,i<len→ ∃r,(∃cs',W.cells? 0 (a.add (i*ei.size)) ei.size=some cs'∧Rd W r cs')∧vS T B N e r:=by
         intro i hi
         obtain⟨cs',h1,h2⟩:=hel i (by omega)
         rw[hc1] at h1
         obtain⟨r,q1,q2⟩:=hih _ _ _ _ h2 (dk hw.2.1 _ (aXk.2 ⟨i,List.mem_range.2 hi,rfl⟩))
         exact⟨r,⟨cs',h1,q1⟩,q2⟩
        obtain⟨rf,hrf⟩: ∃rf:Nat→List D,∀i,i<len→(∃cs',W.cells? 0 (a.add (i*ei.size)) ei.size=some cs'∧Rd W (rf i) cs')∧vS T B N e (rf i):=
         ⟨fun i=>if hi:i<len then Classical.choose (hrow i hi) else [],fun i hi=>by dsimp only;rw[dif_pos hi];exact Classical.choose_spec (hrow i hi)⟩
        have hget: ∀(i:Nat) r,((aXj len).map rf)[i]? =some r→i<len∧r=rf i:=by
         intro i r hr
         rw[List.getElem?_map] at hr
         by_cases hi:i<len
         · rw[List.getElem?_range hi] at hr;simp at hr;exact⟨hi,hr.symm⟩
         · rw[List.getElem?_eq_none (by simpa using hi)] at hr;cases hr
        have hlen: ∀i,i<len→(rf i).length=ei.size:=by
         intro i hi
         obtain⟨⟨cs',h1,h2⟩,_⟩:=hrf i hi
         rw[h2.1,(aG6 h1).1]
        have hcell: ∀i,i<len→ ∀(k:Nat) x,(rf i)[k]? =some x→ ∃v,W.cell? (a.add (i*ei.size+k))=some v∧DR W (SW0 W) x v:=by
         intro i hi k x hx
         obtain⟨⟨cs',h1,h2⟩,_⟩:=hrf i hi
         have hk':k<cs'.length:=by rw[← h2.1];exact(aXh.1 hx).1
         refine⟨cs'[k],?_,h2.2 k x _ hx (aXg hk')⟩
         have:=(aG6 h1).2 k _ (aXg hk')
         rwa [Deep.add_add] at this
        refine⟨[.sl ((aXj len).map rf)],.one ?_,?_⟩
        · have e1: ((aXj len).map rf).length=len:=by simp
          have:=DR.sl (w:=W) (S:=SW0 W) ((aXj len).map rf) (some a) cap ei.size a (fun i k=>(W.cell? (a.add (i*ei.size+k))).getD undef) (by rw[e1];exact hl) hm
           (fun r hr=>by obtain⟨i,hi,rfl⟩:=aXk.1 hr;exact hlen i (List.mem_range.1 hi)) (fun _=>rfl)
           (fun i r k d hi hk=>by
            obtain⟨h1,rfl⟩:=hget i r hi
            obtain⟨v,h2,h3⟩:=hcell i h1 k d hk
            have hb: (a.add (i*ei.size+k)).block=a.block:=by unfold Addr.add;split<;>rfl
            exact⟨by have:=aR0 h2;rw[hb] at this;exact this,by rw[h2];rfl⟩)
           (fun i r k d hi hk=>by
            obtain⟨h1,rfl⟩:=hget i r hi
            obtain⟨v,h2,h3⟩:=hcell i h1 k d hk
            rw[h2];exact h3)
          rw[e1] at this;exact this
        · unfold vS;simp only[ht,hkk]
          refine⟨_,rfl,?_,fun r hr=> ?_⟩
          · simp only[he]
            rw[List.length_map,List.length_range,← hc2]
            have:=hw.1
            rw[aXp] at this
            omega
          · obtain⟨i,hi,rfl⟩:=aXk.1 hr
            exact(hrf i (List.mem_range.1 hi)).2
    |st fs=>
     rw[hkk] at h hk
     simp only[mD] at hk
     obtain⟨fields,hu,hfs⟩:=hk
     simp only[aXb] at h
     unfold DataW.trod at htr
     rw[hu] at htr
     have htr: (if cs.length=P.cellsOf t then(fields.toList.mapM fun f=>DataW.trod enc P W 0 sp held fuel f.type ((cs.drop f.offset).take (P.cellsOf f.type))).map fun xs=>(DataW.agg (xs.map (·.1)),xs.flatMap (·.2)) else none)=some (d,ps):=htr
     split at htr
     · rename_i hcl
       obtain⟨xs,hxs,hmk⟩:=Option.map_eq_some_iff.1 htr
       cases hmk
       have hsz:=(jg hT ht).1
       simp only[DataW.weights,hu] at hw
       obtain⟨ds,h1,h2⟩:=nb hT fields.toList 0 cs xs (by rw[hfs];exact h.1) (by rw[hcl,hsz]) (aXd _)
        (fun f hf=>jh hT N f.type (by
         have:=aXl.1 h.2 (f.offset,f.type) (by rw[← hfs];exact aXk.2 ⟨f,hf,rfl⟩)
         exact this)) hxs hw
       refine⟨ds,by simpa using h1,?_⟩
       unfold vS;simp only[ht,hkk]
       refine⟨by have:=h1.1;simp at this;rw[this,hcl,hsz],fun p hp=> ?_⟩
       rw[← hfs] at hp
       have:=(h2 p hp).2
       simpa using this
     · cases htr
    |arr n e=>rw[hkk] at h;cases h
    |ptr e=>rw[hkk] at h;cases h
end
section
variable {H:Type} {enc:TypeId×Value→H} {P:Program} {W:World} {sp:Nat→Bool} {held:Bool} {T:hO} {B:Nat}
theorem fh (hT:dQ P T) (N:Nat) {t:TypeId} {ti:TI} (ht:T t=some ti) (hd:jf T N t=true) {v:Value} {d:DataW H} {ps:List MemPlace} {r:Reach} {base:Nat} (h:DataW.Trod enc P W 0 sp held t v d ps) (hv:Value.okWide P W r base t v) (hw: (d.weights P t).all (· ≤B)=true):
 ∃ds,vS T B N t ds∧(ti.kind.agg=true→ ∀σ ι,lZ σ ι W (SW0 W) (.e (.agg (ds.map C.d))) v)∧(ti.kind.agg=false→ ∃x,ds=[x]∧ ∀σ ι,lZ σ ι W (SW0 W) (Dv x) v):=by
 obtain⟨fuel,hf⟩:=h
 obtain⟨ds,h1,h2⟩:=jh hT N t hd _ _ _ _ hf hw
 refine⟨ds,h2,fun ha=> ?_,fun ha=> ?_⟩
 · have hk:=(hT t ti ht).kind
   have hcs: ∃cs,v= .agg cs:=by
    cases hkk:ti.kind<;>rw[hkk] at ha hk<;>simp only[TK.agg] at ha<;>try(cases ha;done)
    · simp only[mD] at hk
      obtain⟨fields,hu,_⟩:=hk
      obtain⟨cs,hcs,_⟩:=WideShapes.okWide_struct hu hv
      exact⟨cs,hcs⟩
    · cases N with
      |zero=>cases hd
      |succ N=>unfold jf at hd;rw[ht] at hd;simp only[hkk] at hd;cases hd
   obtain⟨cs,rfl⟩:=hcs
   intro σ ι
   have h1:Rd W ds cs.toList:=h1
   refine⟨cs.toList,by simp,by rw[List.length_map,h1.1],fun k c u hc hu=> ?_⟩
   rw[List.getElem?_map] at hc
   cases hq:ds[k]? with
   |none=>rw[hq] at hc;cases hc
   |some x=>rw[hq] at hc;cases hc;exact h1.2 k x u hq hu
 · have hk:=(hT t ti ht).kind
   have hone:v.cells.toList=[v]:=by
    cases hkk:ti.kind<;>rw[hkk] at ha hk<;>simp only[TK.agg] at ha<;>try(cases ha;done)
    all_goals simp only[mD] at hk
    · obtain⟨n,rfl⟩:=WideShapes.okWide_int hk hv;rfl
    · obtain⟨n,rfl⟩:=WideShapes.okWide_bool hk hv;rfl
    · obtain⟨n,rfl⟩:=WideShapes.okWide_string hk hv;rfl
    · obtain⟨a,l,c,rfl⟩:=WideShapes.okWide_slice hk hv;rfl
    · obtain⟨a,rfl⟩:=WideShapes.okWide_pointer hk hv;rfl
   rw[hone] at h1
   match ds,h1.1 with
   | [x],_=>exact⟨x,rfl,fun σ ι=>h1.2 0 x v rfl rfl⟩
theorem ji (hgb:GB P W fun _=>False) {f:FuncId} {n:Nat} {Xs:List V} (hs:Spec P f n (eV 0 Xs) [(.t 0,.v (Ab.B true))]) {args:Array Value} (hn:Xs.length=n) (hsz:args.size=n) (hX: ∀(i:Nat) X v,Xs[i]? =some X→args[i]? =some v→ ∀σ ι,lZ σ ι W (SW0 W) X v):
 Calls P f args W fun e W'=>e= .returned (.bool true)∧Below W.heap.size W W':=by
 have hlo: ∀o,aT (eV 0 Xs) (.o o)=none:=fun o=>by have:=lD 0 Xs [] o;simpa[aT] using this
 have hvr:VR (eV 0 Xs) (fun _=>undef) (fun i=>(args[i]?).getD undef) (SW0 W) W:=by
  refine⟨fun s k hk=> ?_,(fun o k hk=>by rw[hlo] at hk;cases hk),fun o b hm=> ?_,fun o o' b hm=> ?_,fun b hb=>hb⟩
  · rcases uF 0 Xs [] s k (by simpa using hk) with⟨X,h1,rfl,_,h2⟩|h
    · have h3:s<args.size:=by omega
      have:args[s]? =some args[s]:=Array.getElem?_eq_getElem h3
      show lZ _ _ _ _ X ((args[s]?).getD undef)
      rw[this]
      exact hX s X _ (by simpa using h1) this _ _
    · cases h
  · obtain⟨⟨k,hk,_⟩,_⟩:=hm;rw[hlo] at hk;cases hk
  · obtain⟨⟨k,hk,_⟩,_⟩:=hm;rw[hlo] at hk;cases hk
 refine(hs.2 _ _ _ W args (hgb.weak fun b ⟨o,⟨k,hk,_⟩,_⟩=>by rw[hlo] at hk;cases hk) hvr hsz fun i hi=> ?_).mono fun e W' ⟨v,ι',S',he,hp⟩=> ?_
 · rw[Array.getElem?_eq_getElem (by omega)];rfl
 · have hv:=hp.vr.slots 0 (.v (Ab.B true)) rfl
   simp only[rN,lZ,ER,CR] at hv
   refine⟨?_,hp.fr.os,hp.fr.tape,hp.fr.output,hp.fr.size,fun k hk=>hp.fr.block k hk fun⟨o,⟨q,hq,_⟩,_⟩=>by rw[hlo] at hq;cases hq⟩
   rw[he];cases hv;rfl
end
end Go.Ab
namespace Go.Proofs.YthbgjfegalcenaaGreatDoor
open Int renaming toNat_natCast→aW6,tmod→aXm
open List renaming length_append→aW7,length_cons→aW9,length_nil→aXa,length_take→aXc,getD_eq_getElem?_getD→aXe,length_drop→aXf,getElem?_eq_getElem→aXg,getElem?_eq_some_iff→aXh,range→aXj,mem_map→aXk,all_eq_true→aXl,take_length→aXn,mem_singleton→aXo,mem_iff_getElem?→aXq,mem_cons→aXr
open Nat renaming le_of_ble_eq_true→aW8,zero_le→aXd,le_refl→aXi,add_mul→aXp
open Bool renaming and_eq_true→aXb
open Go Go.Ab Go.RowKit
set_option linter.unusedVariables false
set_option linter.unusedSimpArgs false
set_option maxRecDepth 9000
theorem gL (n lo hi:Int):Sp 73 3 [tI 0 n,tI 1 lo,tI 2 hi] [tB 0 (iK n lo hi)]:=by
 refine sb Tryz.func73 rfl (sq (rT [0,1,2] (s1 (sq (rT [6] (s4 (y3 (ai pk (s1 (rt (bN rfl ?_)))))))))))
 simp[iK,gb]
theorem dL (n lo hi:Int):Sp 101 3 [tI 0 n,tI 1 lo,tI 2 hi] [tB 0 (iK n lo hi)]:=by
 refine sb Tryz.func101 rfl (sq (rT [0,1,2] (s1 (sq (rT [6] (s4 (y3 (ai pk (s1 (rt (bN rfl ?_)))))))))))
 simp[iK,gb]
theorem jK (n:Int):Sp 63 1 [tI 0 n] [tB 0 (eR n)]:=by
 refine sb Tryz.func63 rfl (sq (rT [0] (s1 (sq (rT [2] (s1 (xp (gL _ _ _) (ai rfl ?_))))))))
 refine s1 (rt (bN rfl ?_))
 first|rfl|(simp;done)|(simp_all;done)
theorem dS (n:Int):Sp 67 1 [tI 0 n] [tB 0 (eR n)]:=by
 refine sb Tryz.func67 rfl (sq (rT [0] (s1 (sq (rT [2] (s1 (xp (dL _ _ _) (ai rfl ?_))))))))
 refine s1 (rt (bN rfl ?_))
 first|rfl|(simp;done)|(simp_all;done)
theorem sT (a b c d:Int):Sp 169 4 [tI 0 a,tI 1 b,tI 2 c,tI 3 d] [tB 0 (cE a b c d)]:=by
 refine sb Tryz.func169 rfl (sq (rT [0,1,2,3] (s1 (sq (rT [8] (s4 (y4 (y3 (ai (fun h=>pk) (ai rk (ai pk (s1 (rt (bN rfl (congrArg D.b ?_)))))))))))))))
 simp[cE,gb]
theorem rG (a b c d:Int):Sp 198 4 [tI 0 a,tI 1 b,tI 2 c,tI 3 d] [tB 0 (cE a b c d)]:=by
 refine sb Tryz.func198 rfl (sq (rT [0,1,2,3] (s1 (sq (rT [8] (s4 (y4 (y3 (ai (fun h=>pk) (ai rk (ai pk (s1 (rt (bN rfl (congrArg D.b ?_)))))))))))))))
 simp[cE,gb]
theorem aAq (m:cA):Sp 170 1 [tV 0 m.V] [tB 0 (kB m)]:=by
 refine sb Tryz.func170 rfl (sq (rT [1] (s2 (sq (rT [2] (s2 (xp (jK _) (ai rfl ?_))))))))
 refine s1 (y2 (xc (fun h=>(gL _ _ _)) (ai rfl (ai rk ?_))))
 refine ai pk (s1 (y2 (xc (fun h=>(gL _ _ _)) (ai rfl (ai rk ?_)))))
 refine ai pk (s1 (rt (bN rfl (congrArg D.b ?_))))
 simp[kB,gb]
theorem aAr (s:List UInt8) (hl:s.length≤140737488355328):Sp 158 1 [tD 0 (.s s)] [tB 0 (zH s)]:=by
 refine sb Tryz.func158 rfl (sq (rT [0] (s1 (sq (sq (rT [0,3] (s1 (bk (SW.loopW (n:=s.length) (fun n q=> ∃i:Nat,n=s.length - i∧i≤s.length∧(∀k,k<i→vJ s k=true)∧q=[tD 0 (.s s),tI 3 (i:Nat)]) ?_ ?_)))))))))
 · exact wq (σ':=[tD 0 (.s s),tI 3 (0:Nat)]) [] [] (⟨0,rfl,aXd _,fun k h=>absurd h (by omega),rfl⟩) qz
 rintro n s ⟨i,rfl,hi,hk,rfl⟩
 refine sq (sq (rT [0,3,7] (s4 (cd rfl (fun c7=> ?_) fun c7=> ?_))))
 · have hi2:i<s.length:=by simpa using c7
   have hb8:=kI s i
   have hw:wrap64 ((s.getD ((i:Nat):Int).toNat 0).toNat:Int)=jF s i:=aB (by unfold jF at hb8;rw[aW6];omega)
   refine sk (sq (bk (sq (rT [0,3,15] (s2 (ai (by exact⟨by omega,by omega⟩) (s1 (xp (gL _ _ _) (ai rfl ?_)))))))))
   refine s1 (cd rfl (fun c15=> ?_) fun c15=> ?_)
   · refine sq (rT [2] (s1 (rt (bN rfl (congrArg D.b ?_)))))
     have hs:vJ s i=false:=by
      have h9:=c15
      rw[hw] at h9
      simpa[vJ] using h9
     rw[zH,fS hi2 hs];rfl
   refine sk (rT [0,3] (s3 ?_))
   have hs:vJ s i=true:=by
    have h9:=c15
    rw[hw] at h9
    simpa[vJ] using h9
   refine wq [] [] (⟨s.length - (i+1),by omega,i+1,rfl,by omega,fun k h=>by by_cases e:k=i;exact e▸hs;exact hk k (by omega),rfl⟩) ?_
   repeat' apply ai
   all_goals first|exact qx|exact congrArg D.i (aB (by omega))|exact qz
 have hi3:i=s.length:=by simp at c7;omega
 refine xt (sq (rT [2] (s2 (xp (gL _ _ _) (ai rfl ?_)))))
 refine s1 (rt (bN rfl (congrArg D.b ?_)))
 subst hi3
 rw[zH,iP hk];rfl
theorem sU (n:bA) (hl:n.text.length≤140737488355328):Sp 113 1 [tV 0 n.V] [tB 0 (eL n)]:=by
 refine sb Tryz.func113 rfl (sq (rT [1] (s2 (sq (rT [2] (s2 (xp (jK _) (ai rfl ?_))))))))
 refine s1 (y2 (xc (fun h=>(jK _)) (ai rfl (ai rk ?_))))
 refine ai pk (s1 (y2 (xc (fun h=>(gL _ _ _)) (ai rfl (ai rk ?_)))))
 refine ai pk (s1 (y2 (xc (fun h=>(gL _ _ _)) (ai rfl (ai rk ?_)))))
 refine ai pk (s1 (y2 (xc (fun h=>(aAr n.text hl)) (ai rfl (ai rk ?_)))))
 refine ai pk (s1 (rt (bN rfl (congrArg D.b ?_))))
 simp[eL,gb,Bool.and_assoc]
set_option maxHeartbeats 800000 in
theorem xK (n:bA) (hl:n.text.length≤140737488355328):Sp 136 1 [tV 0 n.V] [tB 0 (eL n)]:=by
 refine sb Tryz.func136 rfl (sq (rT [1] (s2 (sq (sq (rT [1,37] (s2 (xp (dS _) (ai rfl ?_)))))))))
 refine s2 (y2 (xc (fun h=>(dS _)) (ai rfl (ai rk ?_))))
 refine y1 (ai pk (s1 (y2 (xc (fun h=>(dL _ _ _)) (ai rfl (ai rk ?_))))))
 refine y1 (ai pk (s1 (y2 (xc (fun h=>(dL _ _ _)) (ai rfl (ai rk ?_))))))
 refine y1 (ai pk (s1 (y4 (ai pk (s1 (y4 (ai pk (cd rfl (fun c37=> ?_) fun c37=> ?_))))))))
 · refine sq (rT [2] (s1 (rt (bN rfl (congrArg D.b ?_)))))
   cases h:eL n with
   |false=>rfl
   |true=>
    exfalso
    simp only[eL,zH,aXb] at h
    obtain⟨⟨⟨⟨h1,h2⟩,h3⟩,h4⟩,h5,h6⟩:=h
    simp only[iK,aXb,decide_eq_true_eq] at h6
    simp only[h1,h2,h3,h4,Bool.not_true,Bool.false_or,Bool.or_eq_true,decide_eq_true_eq] at c37
    omega
 have hf:eR n.frm=true∧eR n.to=true∧iK n.num 1 99=true∧iK n.til 1 999=true∧1≤n.text.length∧n.text.length≤24:=by
  simp only[gb,Bool.or_eq_false_iff,Bool.not_eq_false,decide_eq_false_iff_not,Bool.not_eq_eq_eq_not,Bool.not_false] at c37
  grind
 refine sk (sq (sq (rT [1,3] (s1 (bk (SW.loopW (n:=n.text.length) (fun m q=> ∃i:Nat,m=n.text.length - i∧i≤n.text.length∧(∀k,k<i→vJ n.text k=true)∧q=[tP 1 1,tI 3 (i:Nat),oB 1 58 [.d (.i n.frm),.d (.i n.num),.d (.i n.to),.d (.i n.til),.d (.s n.text)]]) ?_ ?_))))))
 · exact wq (σ':=[tP 1 1,tI 3 (0:Nat),oB 1 58 [.d (.i n.frm),.d (.i n.num),.d (.i n.to),.d (.i n.til),.d (.s n.text)]]) [] [] (⟨0,rfl,aXd _,fun k h=>absurd h (by omega),rfl⟩) qz
 rintro n s ⟨i,rfl,hi,hk,rfl⟩
 refine sq (sq (rT [1,3,42] (s5 (cd rfl (fun c42=> ?_) fun c42=> ?_))))
 · have hi2:i<n.text.length:=by simpa using c42
   refine sk (sq (bk (sq (rT [1,3,56] (s3 (ai (by exact⟨by omega,by omega⟩) (s2 (y3 (ai (fun h=>(by exact⟨by omega,by omega⟩)) (ai rk (y1 (ai pk (cd rfl (fun c56=> ?_) fun c56=> ?_)))))))))))))
   · refine sq (rT [2] (s1 (rt (bN rfl (congrArg D.b ?_)))))
     have hs:vJ n.text i=false:=by
      have h9:=c56
      rw[aW6] at h9
      simp[gb] at h9
      simp[vJ,iK,jF];omega
     rw[eL,zH,fS hi2 hs];simp
   refine sk (rT [1,3] (s3 ?_))
   have hs:vJ n.text i=true:=by
    have h9:=c56
    rw[aW6] at h9
    simp[gb] at h9
    simp[vJ,iK,jF];omega
   refine wq [] [] (⟨n.text.length - (i+1),by omega,i+1,rfl,by omega,fun k h=>by by_cases e:k=i;exact e▸hs;exact hk k (by omega),rfl⟩) ?_
   repeat' apply ai
   all_goals first|exact qx|exact congrArg D.i (aB (by omega))|exact qz
 have hi3:i=n.text.length:=by simp at c42;omega
 refine xt (sq (rT [2] (s1 (rt (bN rfl (congrArg D.b ?_))))))
 subst hi3
 obtain⟨h1,h2,h3,h4,h5,h6⟩:=hf
 rw[eL,zH,iP hk,h1,h2,h3,h4]
 simp[iK];omega
theorem lP (l:List bA) (f m:Int) (hl:l.length≤1000000):Sp 104 3 [tD 0 (.sl (aE l)),tI 1 f,tI 2 m] [tI 0 (aS l f m)]:=by
 refine sb Tryz.func104 rfl (sq (rT [0,1,2] (s1 (sq (sq (rT [1,2,9,10,11] (s3 (bk (SW.loopW (n:=l.length) (fun n q=> ∃i:Nat,n=l.length - i∧i≤l.length∧(∀k,k<i→nJ l f m k=false)∧q=[tI 1 f,tI 2 m,tD 9 (.sl (aE l)),tI 10 (l.length:Nat),tI 11 (i:Nat)]) ?_ ?_)))))))))
 · refine wq (σ':=[tI 1 f,tI 2 m,tD 9 (.sl (aE l)),tI 10 (l.length:Nat),tI 11 (0:Nat)]) [] [] (⟨0,rfl,aXd _,fun k h=>absurd h (by omega),rfl⟩) ?_
   repeat' apply ai
   all_goals first|exact qx|(rw[aC];done)|rfl|exact qz
 rintro n s ⟨i,rfl,hi,hk,rfl⟩
 refine sq (rT [1,2,9,10,11,12] (s1 (sq (cd rfl (fun c12=> ?_) fun c12=> ?_))))
 · have hi2:i<l.length:=by simpa using c12
   have hg:=aQ (l:=l) hi2
   refine sk (sq (bk (sq (rT [1,2,7,8,9,10,11] (s1 (ai (by rw[aW6,hg];exact⟨⟨by omega,by rw[aC];omega⟩,rfl⟩) (ai (by rw[aW6,hg];exact⟨aW8 rfl,rfl⟩) (s3 (sq (rT [1,2,7,9,10,11,25] (s5 (y4 (ai pk (cd rfl (fun c25=> ?_) fun c25=> ?_))))))))))))))
   · refine sq (rT [6] (s2 (rt (bN rfl (congrArg D.i ?_)))))
     have hs:nJ l f m i=true:=by
      have h9:=c25
      rw[aW6,hg] at h9
      exact h9
     exact(mB (aXd _) (by omega) (fun j _ h=>hk j h) hs).symm
   refine sk (rT [1,2,9,10,11] (s2 ?_))
   have hs:nJ l f m i=false:=by
    have h9:=c25
    rw[aW6,hg] at h9
    exact h9
   refine wq [] [] (⟨l.length - (i+1),by omega,i+1,rfl,by omega,fun k h=>by by_cases e:k=i;exact e▸hs;exact hk k (by omega),rfl⟩) ?_
   repeat' apply ai
   all_goals first|exact qx|exact congrArg D.i (aB (by omega))|exact qz
 have hi3:i=l.length:=by simp at c12;omega
 refine xt (sq (rT [6] (s1 (rt (bN rfl (congrArg D.i ?_))))))
 exact(mG (fun j _ h=>hk j (by omega))).symm
theorem gB (l:List bA) (f m:Int) (hl:l.length≤1000000):Sp 100 3 [tD 0 (.sl (aE l)),tI 1 f,tI 2 m] [tI 0 (aS l f m)]:=by
 refine sb Tryz.func100 rfl (sq (rT [0,1,2] (s1 (sq (sq (rT [0,1,2,7] (s1 (bk (SW.loopW (n:=l.length) (fun n q=> ∃i:Nat,n=l.length - i∧i≤l.length∧(∀k,k<i→nJ l f m k=false)∧q=[tD 0 (.sl (aE l)),tI 1 f,tI 2 m,tI 7 (i:Nat)]) ?_ ?_)))))))))
 · exact wq (σ':=[tD 0 (.sl (aE l)),tI 1 f,tI 2 m,tI 7 (0:Nat)]) [] [] (⟨0,rfl,aXd _,fun k h=>absurd h (by omega),rfl⟩) qz
 rintro n s ⟨i,rfl,hi,hk,rfl⟩
 refine sq (sq (rT [0,1,2,7,11] (s4 (cd rfl (fun c11=> ?_) fun c11=> ?_))))
 · have hi2:i<l.length:=by simpa[aC] using c11
   have hg:=aQ (l:=l) hi2
   refine sk (sq (bk (sq (rT [0,1,2,7,29] (s2 (ai (by rw[aW6,hg];exact⟨⟨by omega,by rw[aC];omega⟩,rfl⟩) (s1 (ai (by rw[aW6,hg];exact⟨aW8 rfl,rfl⟩) (s3 (y2 (ai (fun h=>(by rw[aW6,hg];exact⟨⟨by omega,by rw[aC];omega⟩,rfl⟩)) (ai rk (y1 (ai (fun h=>(by rw[aW6,hg];exact⟨aW8 rfl,rfl⟩)) (ai rk (y2 (ai pk (cd rfl (fun c29=> ?_) fun c29=> ?_))))))))))))))))))
   · refine sq (rT [6] (s2 (rt (bN rfl (congrArg D.i ?_)))))
     have hs:nJ l f m i=true:=by
      have h9:=c29
      rw[aW6,hg] at h9
      exact h9
     exact(mB (aXd _) (by omega) (fun j _ h=>hk j h) hs).symm
   refine sk (rT [0,1,2,7] (s3 ?_))
   have hs:nJ l f m i=false:=by
    have h9:=c29
    rw[aW6,hg] at h9
    exact h9
   refine wq [] [] (⟨l.length - (i+1),by omega,i+1,rfl,by omega,fun k h=>by by_cases e:k=i;exact e▸hs;exact hk k (by omega),rfl⟩) ?_
   repeat' apply ai
   all_goals first|exact qx|exact congrArg D.i (aB (by omega))|exact qz
 have hi3:i=l.length:=by simp[aC] at c11;omega
 refine xt (sq (rT [6] (s1 (rt (bN rfl (congrArg D.i ?_))))))
 exact(mG (fun j _ h=>hk j (by omega))).symm
theorem sV (l:List cA) (f m:Int) (hl:l.length≤1000000):Sp 132 3 [tD 0 (.sl (aP l)),tI 1 f,tI 2 m] [tI 0 (gN l f m)]:=by
 refine sb Tryz.func132 rfl (sq (rT [0,1,2] (s1 (sq (sq (rT [1,2,9,10,11] (s3 (bk (SW.loopW (n:=l.length) (fun n q=> ∃i:Nat,n=l.length - i∧i≤l.length∧(∀k,k<i→rY l f m k=false)∧q=[tI 1 f,tI 2 m,tD 9 (.sl (aP l)),tI 10 (l.length:Nat),tI 11 (i:Nat)]) ?_ ?_)))))))))
 · refine wq (σ':=[tI 1 f,tI 2 m,tD 9 (.sl (aP l)),tI 10 (l.length:Nat),tI 11 (0:Nat)]) [] [] (⟨0,rfl,aXd _,fun k h=>absurd h (by omega),rfl⟩) ?_
   repeat' apply ai
   all_goals first|exact qx|(rw[aN];done)|rfl|exact qz
 rintro n s ⟨i,rfl,hi,hk,rfl⟩
 refine sq (rT [1,2,9,10,11,12] (s1 (sq (cd rfl (fun c12=> ?_) fun c12=> ?_))))
 · have hi2:i<l.length:=by simpa using c12
   have hg:=bX (l:=l) hi2
   refine sk (sq (bk (sq (rT [1,2,7,8,9,10,11] (s1 (ai (by rw[aW6,hg];exact⟨⟨by omega,by rw[aN];omega⟩,rfl⟩) (ai (by rw[aW6,hg];exact⟨aW8 rfl,rfl⟩) (s3 (sq (rT [1,2,7,9,10,11,25] (s5 (y4 (ai pk (cd rfl (fun c25=> ?_) fun c25=> ?_))))))))))))))
   · refine sq (rT [6] (s2 (rt (bN rfl (congrArg D.i ?_)))))
     have hs:rY l f m i=true:=by
      have h9:=c25
      rw[aW6,hg] at h9
      exact h9
     exact(mB (aXd _) (by omega) (fun j _ h=>hk j h) hs).symm
   refine sk (rT [1,2,9,10,11] (s2 ?_))
   have hs:rY l f m i=false:=by
    have h9:=c25
    rw[aW6,hg] at h9
    exact h9
   refine wq [] [] (⟨l.length - (i+1),by omega,i+1,rfl,by omega,fun k h=>by by_cases e:k=i;exact e▸hs;exact hk k (by omega),rfl⟩) ?_
   repeat' apply ai
   all_goals first|exact qx|exact congrArg D.i (aB (by omega))|exact qz
 have hi3:i=l.length:=by simp at c12;omega
 refine xt (sq (rT [6] (s1 (rt (bN rfl (congrArg D.i ?_))))))
 exact(mG (fun j _ h=>hk j (by omega))).symm
theorem oD (l:List cA) (f m:Int) (hl:l.length≤1000000):Sp 168 3 [tD 0 (.sl (aP l)),tI 1 f,tI 2 m] [tI 0 (gN l f m)]:=by
 refine sb Tryz.func168 rfl (sq (rT [0,1,2] (s1 (sq (sq (rT [0,1,2,7] (s1 (bk (SW.loopW (n:=l.length) (fun n q=> ∃i:Nat,n=l.length - i∧i≤l.length∧(∀k,k<i→rY l f m k=false)∧q=[tD 0 (.sl (aP l)),tI 1 f,tI 2 m,tI 7 (i:Nat)]) ?_ ?_)))))))))
 · exact wq (σ':=[tD 0 (.sl (aP l)),tI 1 f,tI 2 m,tI 7 (0:Nat)]) [] [] (⟨0,rfl,aXd _,fun k h=>absurd h (by omega),rfl⟩) qz
 rintro n s ⟨i,rfl,hi,hk,rfl⟩
 refine sq (sq (rT [0,1,2,7,11] (s4 (cd rfl (fun c11=> ?_) fun c11=> ?_))))
 · have hi2:i<l.length:=by simpa[aN] using c11
   have hg:=bX (l:=l) hi2
   refine sk (sq (bk (sq (rT [0,1,2,7,29] (s2 (ai (by rw[aW6,hg];exact⟨⟨by omega,by rw[aN];omega⟩,rfl⟩) (s1 (ai (by rw[aW6,hg];exact⟨aW8 rfl,rfl⟩) (s3 (y2 (ai (fun h=>(by rw[aW6,hg];exact⟨⟨by omega,by rw[aN];omega⟩,rfl⟩)) (ai rk (y1 (ai (fun h=>(by rw[aW6,hg];exact⟨aW8 rfl,rfl⟩)) (ai rk (y2 (ai pk (cd rfl (fun c29=> ?_) fun c29=> ?_))))))))))))))))))
   · refine sq (rT [6] (s2 (rt (bN rfl (congrArg D.i ?_)))))
     have hs:rY l f m i=true:=by
      have h9:=c29
      rw[aW6,hg] at h9
      exact h9
     exact(mB (aXd _) (by omega) (fun j _ h=>hk j h) hs).symm
   refine sk (rT [0,1,2,7] (s3 ?_))
   have hs:rY l f m i=false:=by
    have h9:=c29
    rw[aW6,hg] at h9
    exact h9
   refine wq [] [] (⟨l.length - (i+1),by omega,i+1,rfl,by omega,fun k h=>by by_cases e:k=i;exact e▸hs;exact hk k (by omega),rfl⟩) ?_
   repeat' apply ai
   all_goals first|exact qx|exact congrArg D.i (aB (by omega))|exact qz
 have hi3:i=l.length:=by simp[aN] at c11;omega
 refine xt (sq (rT [6] (s1 (rt (bN rfl (congrArg D.i ?_))))))
 exact(mG (fun j _ h=>hk j (by omega))).symm
theorem aEi (id:Int) (n:bA):Sp 131 2 [tI 0 id,tV 1 n.V] [tB 0 (cq id n)]:=by
 refine sb Tryz.func131 rfl (sq (rT [0,3] (s2 (sq (rT [4] (s5 (y4 (y1 (xc (fun h=>(gL _ _ _)) (ai rfl (ai rk ?_)))))))))))
 refine y4 (y2 (xc (fun h=>(gL _ _ _)) (ai rfl (ai rk ?_))))
 refine ai (fun h=>pk) (ai rk (ai pk (s1 (rt (bN rfl (congrArg D.b ?_))))))
 first|(simp only[cq,iK,gb];done)|(simp only[cq,iK,gb];grind)
theorem aAs (n:bA) (id:Int):Sp 167 2 [tV 0 n.V,tI 1 id] [tB 0 (cq id n)]:=by
 refine sb Tryz.func167 rfl (sq (rT [1,2] (s2 (sq (rT [4] (s5 (y4 (ai pk (s1 (y4 (y4 (y1 (ai (fun h=>pk) (ai rk (ai pk (s1 (rt (bN rfl (congrArg D.b ?_)))))))))))))))))))
 first|(simp only[cq,iK,gb];done)|(simp only[cq,iK,gb];grind)
set_option maxHeartbeats 800000 in
theorem dl (l:List bA) (hx: ∀x∈l,x.text.length≤140737488355328) (hl:l.length≤100000):Sp 129 1 [tD 0 (.sl (aE l))] [tB 0 (kC l)]:=by
 refine sb Tryz.func129 rfl (sq (rT [0] (s1 (sq (sq (rT [0,5,6,7] (s3 (bk (SW.loopW (n:=l.length) (fun n q=> ∃i:Nat,n=l.length - i∧i≤l.length∧(∀k,k<i→lU l k=true)∧q=[tD 0 (.sl (aE l)),tD 5 (.sl (aE l)),tI 6 (l.length:Nat),tI 7 (i:Nat)]) ?_ ?_)))))))))
 · refine wq (σ':=[tD 0 (.sl (aE l)),tD 5 (.sl (aE l)),tI 6 (l.length:Nat),tI 7 (0:Nat)]) [] [] (⟨0,rfl,aXd _,fun k h=>absurd h (by omega),rfl⟩) ?_
   repeat' apply ai
   all_goals first|exact qx|(rw[aC];done)|rfl|exact qz
 rintro n s ⟨i,rfl,hi,hk,rfl⟩
 refine sq (rT [0,5,6,7,8] (s1 (sq (cd rfl (fun c8=> ?_) fun c8=> ?_))))
 · have hi2:i<l.length:=by simpa using c8
   have hg:=aQ (l:=l) hi2
   have hmem:l.getD i .zero∈l:=by rw[aXe,aXg hi2];exact List.getElem_mem _
   refine sk (sq (bk (sq (rT [0,3,4,5,6,7] (s1 (ai (by rw[aW6,hg];exact⟨⟨by omega,by rw[aC];omega⟩,rfl⟩) (ai (by rw[aW6,hg];exact⟨aW8 rfl,rfl⟩) (s3 (sq (rD [0,5,6,7,38] (s1 (xp (sU (l.getD i .zero) (hx _ hmem)) (ai (by rw[aW6,hg];rfl) ?_)))))))))))))
   refine s2 (y4 (y2 (ai (fun h=>(by have h0:0<i:=(by have h9:=h;simp[gb] at h9;omega);rw[fG h0 (by omega),aW6,aQ (by omega),aC];exact⟨⟨by omega,by omega⟩,rfl⟩)) (ai rk (y1 (ai (fun h=>(by have h0:0<i:=(by have h9:=h;simp[gb] at h9;omega);rw[fG h0 (by omega),aW6,aQ (by omega)];exact⟨aW8 rfl,rfl⟩)) (ai rk (y3 (ai (fun h=>(by have h0:0<i:=(by have h9:=h;simp[gb] at h9;omega);rw[fG h0 (by omega),aW6,aQ (by omega),aC];exact⟨⟨by omega,by omega⟩,rfl⟩)) (ai rk (y1 (ai (fun h=>(by have h0:0<i:=(by have h9:=h;simp[gb] at h9;omega);rw[fG h0 (by omega),aW6,aQ (by omega)];exact⟨aW8 rfl,rfl⟩)) (ai rk (y4 (xc (fun h=>(sT _ _ _ _)) (ai rfl (ai rk ?_)))))))))))))))))
   refine y1 (ai (fun h=>pk) (ai rk (ai pk (ai (by kernel_rfl) (cd rfl (fun c38=> ?_) fun c38=> ?_)))))
   · refine sq (rT [2] (s1 (rt (bN rfl (congrArg D.b ?_)))))
     have hs:lU l i=false:=uI c38 (fun h0=>by simp only[fG h0 (show i≤1000000 by omega),aW6,hg,aQ (show i - 1<l.length by omega)];rfl)
     rw[kC,fS hi2 hs]
   refine sk (rT [0,5,6,7] (s2 ?_))
   have hs:lU l i=true:=uI c38 (fun h0=>by simp only[fG h0 (show i≤1000000 by omega),aW6,hg,aQ (show i - 1<l.length by omega)];rfl)
   refine wq [] [] (⟨l.length - (i+1),by omega,i+1,rfl,by omega,fun k h=>by by_cases e:k=i;exact e▸hs;exact hk k (by omega),rfl⟩) ?_
   repeat' apply ai
   all_goals first|exact qx|exact congrArg D.i (aB (by omega))|exact qz
 have hi3:i=l.length:=by simp at c8;omega
 refine xt (sq (rT [2] (s1 (rt (bN rfl (congrArg D.b ?_))))))
 subst hi3
 rw[kC,iP hk]
set_option maxHeartbeats 800000 in
theorem bj (l:List bA) (most:Int) (hx: ∀x∈l,x.text.length≤140737488355328) (hl:l.length≤100000):Sp 165 2 [tD 0 (.sl (aE l)),tI 1 most] [tB 0 (decide ((l.length:Int)≤most)&&kC l)]:=by
 refine sb Tryz.func165 rfl (sq (rT [0,1] (s1 (sq (sq (rT [0,9] (s4 (cd rfl (fun c9=> ?_) fun c9=> ?_))))))))
 · refine sq (rT [4] (s1 (rt (bN rfl (congrArg D.b ?_)))))
   simp[aC] at c9
   simp[Int.not_le.2 c9]
 have hm: (l.length:Int)≤most:=by simp[aC] at c9;omega
 refine sk (sq (sq (rT [0,5] (s1 (bk (SW.loopW (n:=l.length) (fun n q=> ∃i:Nat,n=l.length - i∧i≤l.length∧(∀k,k<i→lU l k=true)∧q=[tD 0 (.sl (aE l)),tI 5 (i:Nat)]) ?_ ?_))))))
 · exact wq (σ':=[tD 0 (.sl (aE l)),tI 5 (0:Nat)]) [] [] (⟨0,rfl,aXd _,fun k h=>absurd h (by omega),rfl⟩) qz
 rintro n s ⟨i,rfl,hi,hk,rfl⟩
 refine sq (sq (rT [0,5,13] (s4 (cd rfl (fun c13=> ?_) fun c13=> ?_))))
 · have hi2:i<l.length:=by simpa[aC] using c13
   have hg:=aQ (l:=l) hi2
   have hmem:l.getD i .zero∈l:=by rw[aXe,aXg hi2];exact List.getElem_mem _
   refine sk (sq (bk (sq (rD [0,5,51] (s2 (ai (by rw[aW6,hg];exact⟨⟨by omega,by rw[aC];omega⟩,rfl⟩) (ai (by rw[aW6,hg];exact⟨aW8 rfl,rfl⟩) (xp (xK (l.getD i .zero) (hx _ hmem)) (ai (by rw[aW6,hg];rfl) ?_)))))))))
   refine s2 (y4 (y2 (ai (fun h=>(by have h0:0<i:=(by have h9:=h;simp[gb] at h9;omega);rw[fG h0 (by omega),aW6,aQ (by omega),aC];exact⟨⟨by omega,by omega⟩,rfl⟩)) (ai rk (y1 (ai (fun h=>(by have h0:0<i:=(by have h9:=h;simp[gb] at h9;omega);rw[fG h0 (by omega),aW6,aQ (by omega)];exact⟨aW8 rfl,rfl⟩)) (ai rk (y3 (ai (fun h=>(by have h0:0<i:=(by have h9:=h;simp[gb] at h9;omega);rw[fG h0 (by omega),aW6,aQ (by omega),aC];exact⟨⟨by omega,by omega⟩,rfl⟩)) (ai rk (y1 (ai (fun h=>(by have h0:0<i:=(by have h9:=h;simp[gb] at h9;omega);rw[fG h0 (by omega),aW6,aQ (by omega)];exact⟨aW8 rfl,rfl⟩)) (ai rk (y2 (ai (fun h=>(by rw[aW6,hg];exact⟨⟨by omega,by rw[aC];omega⟩,rfl⟩)) (ai rk (y1 (ai (fun h=>(by rw[aW6,hg];exact⟨aW8 rfl,rfl⟩)) (ai rk (y2 (ai (fun h=>(by rw[aW6,hg];exact⟨⟨by omega,by rw[aC];omega⟩,rfl⟩)) (ai rk (y1 (ai (fun h=>(by rw[aW6,hg];exact⟨aW8 rfl,rfl⟩)) (ai rk (xc (fun h=>(rG _ _ _ _)) (ai rfl (ai rk ?_))))))))))))))))))))))))))))
   refine y1 (ai (fun h=>pk) (ai rk (ai pk (ai (by kernel_rfl) (cd rfl (fun c51=> ?_) fun c51=> ?_)))))
   · refine sq (rT [4] (s1 (rt (bN rfl (congrArg D.b ?_)))))
     have hs:lU l i=false:=uI c51 (fun h0=>by simp only[fG h0 (show i≤1000000 by omega),aW6,hg,aQ (show i - 1<l.length by omega)];rfl)
     rw[kC,fS hi2 hs];simp
   refine sk (rT [0,5] (s3 ?_))
   have hs:lU l i=true:=uI c51 (fun h0=>by simp only[fG h0 (show i≤1000000 by omega),aW6,hg,aQ (show i - 1<l.length by omega)];rfl)
   refine wq [] [] (⟨l.length - (i+1),by omega,i+1,rfl,by omega,fun k h=>by by_cases e:k=i;exact e▸hs;exact hk k (by omega),rfl⟩) ?_
   repeat' apply ai
   all_goals first|exact qx|exact congrArg D.i (aB (by omega))|exact qz
 have hi3:i=l.length:=by simp[aC] at c13;omega
 refine xt (sq (rT [4] (s1 (rt (bN rfl (congrArg D.b ?_))))))
 subst hi3
 rw[kC,iP hk];simp[hm]
set_option maxHeartbeats 800000 in
theorem yw (l:List cA) (hl:l.length≤100000):Sp 130 1 [tD 0 (.sl (aP l))] [tB 0 (oK l)]:=by
 refine sb Tryz.func130 rfl (sq (rT [0] (s1 (sq (sq (rT [0,5,6,7] (s3 (bk (SW.loopW (n:=l.length) (fun n q=> ∃i:Nat,n=l.length - i∧i≤l.length∧(∀k,k<i→mU l k=true)∧q=[tD 0 (.sl (aP l)),tD 5 (.sl (aP l)),tI 6 (l.length:Nat),tI 7 (i:Nat)]) ?_ ?_)))))))))
 · refine wq (σ':=[tD 0 (.sl (aP l)),tD 5 (.sl (aP l)),tI 6 (l.length:Nat),tI 7 (0:Nat)]) [] [] (⟨0,rfl,aXd _,fun k h=>absurd h (by omega),rfl⟩) ?_
   repeat' apply ai
   all_goals first|exact qx|(rw[aN];done)|rfl|exact qz
 rintro n s ⟨i,rfl,hi,hk,rfl⟩
 refine sq (rT [0,5,6,7,8] (s1 (sq (cd rfl (fun c8=> ?_) fun c8=> ?_))))
 · have hi2:i<l.length:=by simpa using c8
   have hg:=bX (l:=l) hi2
   have hmem:l.getD i .zero∈l:=by rw[aXe,aXg hi2];exact List.getElem_mem _
   refine sk (sq (bk (sq (rT [0,3,4,5,6,7] (s1 (ai (by rw[aW6,hg];exact⟨⟨by omega,by rw[aN];omega⟩,rfl⟩) (ai (by rw[aW6,hg];exact⟨aW8 rfl,rfl⟩) (s3 (sq (rD [0,5,6,7,38] (s1 (xp (aAq (l.getD i .zero)) (ai (by rw[aW6,hg];rfl) ?_)))))))))))))
   refine s2 (y4 (y2 (ai (fun h=>(by have h0:0<i:=(by have h9:=h;simp[gb] at h9;omega);rw[fG h0 (by omega),aW6,bX (by omega),aN];exact⟨⟨by omega,by omega⟩,rfl⟩)) (ai rk (y1 (ai (fun h=>(by have h0:0<i:=(by have h9:=h;simp[gb] at h9;omega);rw[fG h0 (by omega),aW6,bX (by omega)];exact⟨aW8 rfl,rfl⟩)) (ai rk (y3 (ai (fun h=>(by have h0:0<i:=(by have h9:=h;simp[gb] at h9;omega);rw[fG h0 (by omega),aW6,bX (by omega),aN];exact⟨⟨by omega,by omega⟩,rfl⟩)) (ai rk (y1 (ai (fun h=>(by have h0:0<i:=(by have h9:=h;simp[gb] at h9;omega);rw[fG h0 (by omega),aW6,bX (by omega)];exact⟨aW8 rfl,rfl⟩)) (ai rk (y4 (xc (fun h=>(sT _ _ _ _)) (ai rfl (ai rk ?_)))))))))))))))))
   refine y1 (ai (fun h=>pk) (ai rk (ai pk (ai (by kernel_rfl) (cd rfl (fun c38=> ?_) fun c38=> ?_)))))
   · refine sq (rT [2] (s1 (rt (bN rfl (congrArg D.b ?_)))))
     have hs:mU l i=false:=uJ c38 (fun h0=>by simp only[fG h0 (show i≤1000000 by omega),aW6,hg,bX (show i - 1<l.length by omega)];rfl)
     rw[oK,fS hi2 hs]
   refine sk (rT [0,5,6,7] (s2 ?_))
   have hs:mU l i=true:=uJ c38 (fun h0=>by simp only[fG h0 (show i≤1000000 by omega),aW6,hg,bX (show i - 1<l.length by omega)];rfl)
   refine wq [] [] (⟨l.length - (i+1),by omega,i+1,rfl,by omega,fun k h=>by by_cases e:k=i;exact e▸hs;exact hk k (by omega),rfl⟩) ?_
   repeat' apply ai
   all_goals first|exact qx|exact congrArg D.i (aB (by omega))|exact qz
 have hi3:i=l.length:=by simp at c8;omega
 refine xt (sq (rT [2] (s1 (rt (bN rfl (congrArg D.b ?_))))))
 subst hi3
 rw[oK,iP hk]
set_option maxHeartbeats 3200000 in
theorem xL (k:bC) (hx: ∀x∈k.held,x.text.length≤140737488355328) (hy: ∀x∈k.inbox,x.text.length≤140737488355328):Sp 89 1 [tV 0 k.V] [tB 0 (dC k)]:=by
 refine sb Tryz.func89 rfl (sq (rT [1] (s2 (sq (sq (rT [1,42] (s2 (xp (jK _) (ai rfl ?_)))))))))
 refine s2 (y2 (xc (fun h=>(gL _ _ _)) (ai rfl (ai rk ?_))))
 refine y1 (ai pk (s1 (y2 (xc (fun h=>(gL _ _ _)) (ai rfl (ai rk ?_))))))
 refine y1 (ai pk (s1 (y4 (ai pk (s1 (y4 (ai pk (s1 (y4 (ai pk (cd rfl (fun c42=> ?_) fun c42=> ?_)))))))))))
 · refine sq (rT [2] (s1 (rt (bN rfl (congrArg D.b ?_)))))
   refine(oL fun h=> ?_).symm
   obtain⟨⟨h1,h2,h3,h4,h5,h6⟩,⟨h7,h8,h9⟩,h10,h11,h12⟩:=(cB k).1 h
   simp only[gb,iK,aC,aN,h1,Bool.not_true,Bool.false_or,Bool.or_eq_true,Bool.not_eq_eq_eq_not,Bool.and_eq_false_iff,decide_eq_true_eq,decide_eq_false_iff_not,Bool.not_eq_true'] at c42
   omega
 have hf:eR k.id=true∧(0≤k.time∧k.time≤999)∧(1≤k.next∧k.next≤100)∧k.held.length≤6∧k.marks.length≤12∧k.inbox.length≤6:=by
  simp only[gb,iK,aC,aN,Bool.or_eq_false_iff,Bool.not_eq_false,decide_eq_false_iff_not,Bool.not_eq_eq_eq_not,Bool.not_false,aXb,decide_eq_true_eq] at c42
  obtain⟨⟨⟨⟨⟨q1,q2⟩,q3⟩,q4⟩,q5⟩,q6⟩:=c42
  exact⟨q1,q2,q3,by omega,by omega,by omega⟩
 obtain⟨f1,f2,f3,f4,f5,f6⟩:=hf
 refine sk (sq (sq (rT [1,58] (s2 (xp (dl k.held hx (by omega)) (ai rfl ?_))))))
 refine s2 (y2 (xc (fun h=>(yw k.marks (by omega))) (ai rfl (ai rk ?_))))
 refine y1 (ai pk (s1 (y2 (xc (fun h=>(dl k.inbox hy (by omega))) (ai rfl (ai rk ?_))))))
 refine y1 (ai pk (cd rfl (fun c58=> ?_) fun c58=> ?_))
 · refine sq (rT [2] (s1 (rt (bN rfl (congrArg D.b ?_)))))
   refine(oL fun h=> ?_).symm
   obtain⟨⟨h1,h2,h3,h4,h5,h6⟩,⟨h7,h8,h9⟩,h10,h11,h12⟩:=(cB k).1 h
   rw[h7,h8,h9] at c58
   cases c58
 have hg3:kC k.held=true∧oK k.marks=true∧kC k.inbox=true:=by
  simp only[gb,Bool.or_eq_false_iff,Bool.not_eq_false,Bool.not_eq_eq_eq_not,Bool.not_false] at c58
  exact⟨c58.1.1,c58.1.2,c58.2⟩
 refine sk (sq (sq (rT [1,60,61,62] (s4 (bk (SW.loopW (n:=k.held.length) (fun n q=> ∃i:Nat,n=k.held.length - i∧i≤k.held.length∧(∀j,j<i→tR k j=true)∧q=[tP 1 1,tD 60 (.sl (aE k.held)),tI 61 (k.held.length:Nat),tI 62 (i:Nat),oB 1 32 [.d (.i k.id),.d (.i k.time),.d (.i k.next),.d (.sl (aE k.held)),.d (.sl (aP k.marks)),.d (.sl (aE k.inbox))]]) ?_ ?_))))))
 · refine wq (σ':=[tP 1 1,tD 60 (.sl (aE k.held)),tI 61 (k.held.length:Nat),tI 62 (0:Nat),oB 1 32 [.d (.i k.id),.d (.i k.time),.d (.i k.next),.d (.sl (aE k.held)),.d (.sl (aP k.marks)),.d (.sl (aE k.inbox))]]) [] [] (⟨0,rfl,aXd _,fun j h=>absurd h (by omega),rfl⟩) ?_
   repeat' apply ai
   all_goals first|exact qx|(rw[aC];done)|rfl|exact qz
 rintro n s ⟨i,rfl,hi,hk,rfl⟩
 refine sq (rT [1,60,61,62,63] (s1 (sq (cd rfl (fun c63=> ?_) fun c63=> ?_))))
 · have hi2:i<k.held.length:=by simpa using c63
   have hg:=aQ (l:=k.held) hi2
   refine sk (sq (bk (sq (rT [1,4,60,61,62] (ai (by rw[aW6,hg];exact⟨⟨by omega,by rw[aC];omega⟩,rfl⟩) (ai (by rw[aW6,hg];exact⟨aW8 rfl,rfl⟩) (s2 (sq (wa [tP 1 1,tD 60 (.sl (aE k.held)),tI 61 (k.held.length:Nat),tI 62 (i:Nat),oB 1 32 [.d (.i k.id),.d (.i k.time),.d (.i k.next),.d (.sl (aE k.held)),.d (.sl (aP k.marks)),.d (.sl (aE k.inbox))],tP 4 4,oB 4 58 [.d (.i (k.held.getD i .zero).frm),.d (.i (k.held.getD i .zero).num),.d (.i (k.held.getD i .zero).to),.d (.i (k.held.getD i .zero).til),.d (.s (k.held.getD i .zero).text)]] [] [] ?_ ?_)))))))))
   · repeat' apply ai
     all_goals first|exact qx|(rw[aW6,hg];rfl)|exact qz
   refine rT [1,60,61,62,101] (s6 (y4 (y1 (ai pk (s1 (y4 (y1 (ai pk (s1 (y3 (xc (fun h=>(aEi k.id (k.held.getD i .zero))) (ai rfl (ai rk ?_)))))))))))))
   refine y1 (ai pk (s1 (y4 (y2 (xc (fun h=>(sV k.marks _ _ (by omega))) (ai rfl (ai rk ?_)))))))
   refine y1 (ai pk (cd rfl (fun c101=> ?_) fun c101=> ?_))
   · refine sq (rT [2] (s1 (rt (bN rfl (congrArg D.b ?_)))))
     refine(oL fun h=> ?_).symm
     obtain⟨⟨h1,h2,h3,h4,h5,h6⟩,⟨h7,h8,h9⟩,h10,h11,h12⟩:=(cB k).1 h
     rw[fS hi2 (zJ c101)] at h10
     cases h10
   refine sk (rT [1,60,61,62] (s2 ?_))
   have hs:tR k i=true:=zJ c101
   refine wq [] [] (⟨k.held.length - (i+1),by omega,i+1,rfl,by omega,fun j h=>by by_cases e:j=i;exact e▸hs;exact hk j (by omega),rfl⟩) ?_
   repeat' apply ai
   all_goals first|exact qx|exact congrArg D.i (aB (by omega))|exact qz
 have hiA:i=k.held.length:=by simp at c63;omega
 have hkA:=hk
 clear hk hi
 refine xt (sq (sq (rT [1,104,105,106] (s4 (bk (SW.loopW (n:=k.marks.length) (fun n q=> ∃i:Nat,n=k.marks.length - i∧i≤k.marks.length∧(∀j,j<i→xD k j=true)∧q=[tP 1 1,tD 104 (.sl (aP k.marks)),tI 105 (k.marks.length:Nat),tI 106 (i:Nat),oB 1 32 [.d (.i k.id),.d (.i k.time),.d (.i k.next),.d (.sl (aE k.held)),.d (.sl (aP k.marks)),.d (.sl (aE k.inbox))]]) ?_ ?_))))))
 · refine wq (σ':=[tP 1 1,tD 104 (.sl (aP k.marks)),tI 105 (k.marks.length:Nat),tI 106 (0:Nat),oB 1 32 [.d (.i k.id),.d (.i k.time),.d (.i k.next),.d (.sl (aE k.held)),.d (.sl (aP k.marks)),.d (.sl (aE k.inbox))]]) [] [] (⟨0,rfl,aXd _,fun j h=>absurd h (by omega),rfl⟩) ?_
   repeat' apply ai
   all_goals first|exact qx|(rw[aN];done)|rfl|exact qz
 rintro n s ⟨i,rfl,hi,hk,rfl⟩
 refine sq (rT [1,104,105,106,107] (s1 (sq (cd rfl (fun c107=> ?_) fun c107=> ?_))))
 · have hi2:i<k.marks.length:=by simpa using c107
   have hg:=bX (l:=k.marks) hi2
   refine sk (sq (bk (sq (rT [1,6,104,105,106] (ai (by rw[aW6,hg];exact⟨⟨by omega,by rw[aN];omega⟩,rfl⟩) (ai (by rw[aW6,hg];exact⟨aW8 rfl,rfl⟩) (s2 (sq (wa [tP 1 1,tD 104 (.sl (aP k.marks)),tI 105 (k.marks.length:Nat),tI 106 (i:Nat),oB 1 32 [.d (.i k.id),.d (.i k.time),.d (.i k.next),.d (.sl (aE k.held)),.d (.sl (aP k.marks)),.d (.sl (aE k.inbox))],tP 6 6,oB 6 112 [.d (.i (k.marks.getD i .zero).frm),.d (.i (k.marks.getD i .zero).num),.d (.i (k.marks.getD i .zero).til)]] [] [] ?_ ?_)))))))))
   · repeat' apply ai
     all_goals first|exact qx|(rw[aW6,hg];rfl)|exact qz
   refine rT [1,104,105,106,128] (s6 (y4 (y1 (ai pk (s1 (y4 (y1 (ai pk (cd rfl (fun c128=> ?_) fun c128=> ?_)))))))))
   · refine sq (rT [2] (s1 (rt (bN rfl (congrArg D.b ?_)))))
     refine(oL fun h=> ?_).symm
     obtain⟨⟨h1,h2,h3,h4,h5,h6⟩,⟨h7,h8,h9⟩,h10,h11,h12⟩:=(cB k).1 h
     rw[fS hi2 (zK c128)] at h11
     cases h11
   refine sk (rT [1,104,105,106] (s2 ?_))
   have hs:xD k i=true:=zK c128
   refine wq [] [] (⟨k.marks.length - (i+1),by omega,i+1,rfl,by omega,fun j h=>by by_cases e:j=i;exact e▸hs;exact hk j (by omega),rfl⟩) ?_
   repeat' apply ai
   all_goals first|exact qx|exact congrArg D.i (aB (by omega))|exact qz
 have hiB:i=k.marks.length:=by simp at c107;omega
 have hkB:=hk
 clear hk hi
 refine xt (sq (sq (rT [1,131,132,133] (s4 (bk (SW.loopW (n:=k.inbox.length) (fun n q=> ∃i:Nat,n=k.inbox.length - i∧i≤k.inbox.length∧(∀j,j<i→sQ k j=true)∧q=[tP 1 1,tD 131 (.sl (aE k.inbox)),tI 132 (k.inbox.length:Nat),tI 133 (i:Nat),oB 1 32 [.d (.i k.id),.d (.i k.time),.d (.i k.next),.d (.sl (aE k.held)),.d (.sl (aP k.marks)),.d (.sl (aE k.inbox))]]) ?_ ?_))))))
 · refine wq (σ':=[tP 1 1,tD 131 (.sl (aE k.inbox)),tI 132 (k.inbox.length:Nat),tI 133 (0:Nat),oB 1 32 [.d (.i k.id),.d (.i k.time),.d (.i k.next),.d (.sl (aE k.held)),.d (.sl (aP k.marks)),.d (.sl (aE k.inbox))]]) [] [] (⟨0,rfl,aXd _,fun j h=>absurd h (by omega),rfl⟩) ?_
   repeat' apply ai
   all_goals first|exact qx|(rw[aC];done)|rfl|exact qz
 rintro n s ⟨i,rfl,hi,hk,rfl⟩
 refine sq (rT [1,131,132,133,134] (s1 (sq (cd rfl (fun c134=> ?_) fun c134=> ?_))))
 · have hi2:i<k.inbox.length:=by simpa using c134
   have hg:=aQ (l:=k.inbox) hi2
   refine sk (sq (bk (sq (rT [1,8,131,132,133] (ai (by rw[aW6,hg];exact⟨⟨by omega,by rw[aC];omega⟩,rfl⟩) (ai (by rw[aW6,hg];exact⟨aW8 rfl,rfl⟩) (s2 (sq (wa [tP 1 1,tD 131 (.sl (aE k.inbox)),tI 132 (k.inbox.length:Nat),tI 133 (i:Nat),oB 1 32 [.d (.i k.id),.d (.i k.time),.d (.i k.next),.d (.sl (aE k.held)),.d (.sl (aP k.marks)),.d (.sl (aE k.inbox))],tP 8 8,oB 8 58 [.d (.i (k.inbox.getD i .zero).frm),.d (.i (k.inbox.getD i .zero).num),.d (.i (k.inbox.getD i .zero).to),.d (.i (k.inbox.getD i .zero).til),.d (.s (k.inbox.getD i .zero).text)]] [] [] ?_ ?_)))))))))
   · repeat' apply ai
     all_goals first|exact qx|(rw[aW6,hg];rfl)|exact qz
   refine rT [1,131,132,133,172] (s6 (y4 (y1 (ai pk (s1 (y4 (y1 (ai pk (s1 (y4 (y4 (y4 (xc (fun h=>(sV k.marks _ _ (by omega))) (ai rfl (ai rk ?_)))))))))))))))
   refine y1 (ai (fun h=>pk) (ai rk (ai pk (cd rfl (fun c172=> ?_) fun c172=> ?_))))
   · refine sq (rT [2] (s1 (rt (bN rfl (congrArg D.b ?_)))))
     refine(oL fun h=> ?_).symm
     obtain⟨⟨h1,h2,h3,h4,h5,h6⟩,⟨h7,h8,h9⟩,h10,h11,h12⟩:=(cB k).1 h
     rw[fS hi2 (wD c172)] at h12
     cases h12
   refine sk (rT [1,131,132,133] (s2 ?_))
   have hs:sQ k i=true:=wD c172
   refine wq [] [] (⟨k.inbox.length - (i+1),by omega,i+1,rfl,by omega,fun j h=>by by_cases e:j=i;exact e▸hs;exact hk j (by omega),rfl⟩) ?_
   repeat' apply ai
   all_goals first|exact qx|exact congrArg D.i (aB (by omega))|exact qz
 have hiC:i=k.inbox.length:=by simp at c134;omega
 refine xt (sq (rT [2] (s1 (rt (bN rfl (congrArg D.b ?_))))))
 refine((cB k).2 ⟨⟨f1,f2,f3,f4,f5,f6⟩,hg3,iP ?_,iP ?_,iP ?_⟩).symm
 · rw[← hiA];exact hkA
 · rw[← hiB];exact hkB
 rw[← hiC];exact hk
theorem or4 (a b c d:Bool): (c||a||b||d)=(a||b||c||d):=by cases a<;>cases b<;>cases c<;>cases d<;>rfl
theorem or3 (a b c:Bool): (b||a||c)=(a||b||c):=by cases a<;>cases b<;>cases c<;>rfl
theorem or2 (a b:Bool): (b||a)=(a||b):=by cases a<;>cases b<;>rfl
theorem aTi (a b c d:Bool): (!(a&&b&&c)||d)=(!a|| !b|| !c||d):=by cases a<;>cases b<;>cases c<;>cases d<;>rfl
set_option maxHeartbeats 800000 in
theorem tl (l:List cA) (hl:l.length≤100000):Sp 166 1 [tD 0 (.sl (aP l))] [tB 0 (decide (l.length≤12)&&oK l)]:=by
 refine sb Tryz.func166 rfl (sq (rT [0] (s1 (sq (sq (rT [0,7] (s3 (cd rfl (fun c7=> ?_) fun c7=> ?_))))))))
 · have hm: ¬l.length≤12:=by simp[aN] at c7;omega
   refine sq (rT [2] (s1 (rt (bN rfl (congrArg D.b ?_)))))
   simp[hm]
 have hm:l.length≤12:=by simp[aN] at c7;omega
 refine sk (sq (sq (rT [0,3] (s1 (bk (SW.loopW (n:=l.length) (fun n q=> ∃i:Nat,n=l.length - i∧i≤l.length∧(∀k,k<i→mU l k=true)∧q=[tD 0 (.sl (aP l)),tI 3 (i:Nat)]) ?_ ?_))))))
 · exact wq (σ':=[tD 0 (.sl (aP l)),tI 3 (0:Nat)]) [] [] (⟨0,rfl,aXd _,fun k h=>absurd h (by omega),rfl⟩) qz
 rintro n s ⟨i,rfl,hi,hk,rfl⟩
 refine sq (sq (rT [0,3,11] (s4 (cd rfl (fun c11=> ?_) fun c11=> ?_))))
 · have hi2:i<l.length:=by simpa[aN] using c11
   have hg:=bX (l:=l) hi2
   refine sk (sq (bk (sq (rT [0,3,4] (s2 (ai (by rw[aW6,hg];exact⟨⟨by omega,by rw[aN];omega⟩,rfl⟩) (ai (by rw[aW6,hg];exact⟨aW8 rfl,rfl⟩) (s2 (sq (wa [tD 0 (.sl (aP l)),tI 3 (i:Nat),tP 4 4,oB 4 112 [.d (.i (l.getD i .zero).frm),.d (.i (l.getD i .zero).num),.d (.i (l.getD i .zero).til)]] [] [] ?_ ?_))))))))))
   · repeat' apply ai
     all_goals first|exact qx|(rw[aW6,hg];rfl)|exact qz
   refine rD [0,3,57] (s2 (xp (dS _) (ai rfl ?_)))
   refine s2 (y2 (xc (fun h=>(dL _ _ _)) (ai rfl (ai rk ?_))))
   refine y1 (ai pk (s1 (y2 (xc (fun h=>(dL _ _ _)) (ai rfl (ai rk ?_))))))
   refine y1 (ai pk (s1 (y4 (y2 (ai (fun h=>(by have h0:0<i:=(by have h9:=h;simp[gb] at h9;omega);rw[fG h0 (by omega),aW6,bX (by omega),aN];exact⟨⟨by omega,by omega⟩,rfl⟩)) (ai rk (y1 (ai (fun h=>(by have h0:0<i:=(by have h9:=h;simp[gb] at h9;omega);rw[fG h0 (by omega),aW6,bX (by omega)];exact⟨aW8 rfl,rfl⟩)) (ai rk (y3 (ai (fun h=>(by have h0:0<i:=(by have h9:=h;simp[gb] at h9;omega);rw[fG h0 (by omega),aW6,bX (by omega),aN];exact⟨⟨by omega,by omega⟩,rfl⟩)) (ai rk (y1 (ai (fun h=>(by have h0:0<i:=(by have h9:=h;simp[gb] at h9;omega);rw[fG h0 (by omega),aW6,bX (by omega)];exact⟨aW8 rfl,rfl⟩)) (ai rk (y4 (xc (fun h=>(rG _ _ _ _)) (ai rfl (ai rk ?_)))))))))))))))))))
   refine y1 (ai (fun h=>pk) (ai rk (ai pk (ai (by kernel_rfl) (cd rfl (fun c57=> ?_) fun c57=> ?_)))))
   · refine sq (rT [2] (s1 (rt (bN rfl (congrArg D.b ?_)))))
     have hs:mU l i=false:=uJ ((aTi _ _ _ _).trans c57) (fun h0=>by simp only[fG h0 (show i≤1000000 by omega),aW6,bX (show i - 1<l.length by omega)];rfl)
     rw[oK,fS hi2 hs];simp
   refine sk (rT [0,3] (s3 ?_))
   have hs:mU l i=true:=uJ ((aTi _ _ _ _).trans c57) (fun h0=>by simp only[fG h0 (show i≤1000000 by omega),aW6,bX (show i - 1<l.length by omega)];rfl)
   refine wq [] [] (⟨l.length - (i+1),by omega,i+1,rfl,by omega,fun k h=>by by_cases e:k=i;exact e▸hs;exact hk k (by omega),rfl⟩) ?_
   repeat' apply ai
   all_goals first|exact qx|exact congrArg D.i (aB (by omega))|exact qz
 have hi3:i=l.length:=by simp[aN] at c11;omega
 refine xt (sq (rT [2] (s1 (rt (bN rfl (congrArg D.b ?_))))))
 subst hi3
 rw[oK,iP hk];simp[hm]
set_option maxHeartbeats 3200000 in
theorem xM (k:bC) (hb1:k.held.length≤100000∧k.marks.length≤100000∧k.inbox.length≤100000) (hx: ∀x∈k.held,x.text.length≤140737488355328) (hy: ∀x∈k.inbox,x.text.length≤140737488355328):Sp 126 1 [tV 0 k.V] [tB 0 (dC k)]:=by
 refine sb Tryz.func126 rfl (sq (rT [1] (s2 (sq (sq (rT [1,42] (s2 (xp (dS _) (ai rfl ?_)))))))))
 refine s2 (y2 (xc (fun h=>(dL _ _ _)) (ai rfl (ai rk ?_))))
 refine y1 (ai pk (s1 (y2 (xc (fun h=>(dL _ _ _)) (ai rfl (ai rk ?_))))))
 refine y1 (ai pk (s1 (y2 (xc (fun h=>(bj k.held 6 hx hb1.1)) (ai rfl (ai rk ?_))))))
 refine y1 (ai pk (s1 (y2 (xc (fun h=>(tl k.marks hb1.2.1)) (ai rfl (ai rk ?_))))))
 refine y1 (ai pk (s1 (y2 (xc (fun h=>(bj k.inbox 6 hy hb1.2.2)) (ai rfl (ai rk ?_))))))
 refine y1 (ai pk (cd rfl (fun c42=> ?_) fun c42=> ?_))
 · refine sq (rT [2] (s1 (rt (bN rfl (congrArg D.b ?_)))))
   refine(oL fun h=> ?_).symm
   obtain⟨⟨h1,h2,h3,h4,h5,h6⟩,⟨h7,h8,h9⟩,h10,h11,h12⟩:=(cB k).1 h
   have h4b: ((k.held.length:Int)≤6):=by omega
   have h6b: ((k.inbox.length:Int)≤6):=by omega
   simp only[gb,iK,h1,h7,h8,h9,h5,h4b,h6b,h2.1,h2.2,h3.1,h3.2,decide_true,Bool.and_true,Bool.not_true,Bool.or_false] at c42
   cases c42
 have hf: (eR k.id=true∧(0≤k.time∧k.time≤999)∧(1≤k.next∧k.next≤100)∧k.held.length≤6∧k.marks.length≤12∧k.inbox.length≤6)∧kC k.held=true∧oK k.marks=true∧kC k.inbox=true:=by
  simp only[gb,iK,Bool.or_eq_false_iff,Bool.not_eq_false,decide_eq_false_iff_not,Bool.not_eq_eq_eq_not,Bool.not_false,aXb,decide_eq_true_eq] at c42
  obtain⟨⟨⟨⟨⟨q1,q2⟩,q3⟩,q4,q4b⟩,q5,q5b⟩,q6,q6b⟩:=c42
  exact⟨⟨q1,q2,q3,by omega,by omega,by omega⟩,q4b,q5b,q6b⟩
 obtain⟨⟨f1,f2,f3,f4,f5,f6⟩,hg3⟩:=hf
 refine sk (sq (sq (rT [1,3] (s1 (bk (SW.loopW (n:=k.held.length) (fun n q=> ∃i:Nat,n=k.held.length - i∧i≤k.held.length∧(∀j,j<i→tR k j=true)∧q=[tP 1 1,tI 3 (i:Nat),oB 1 32 [.d (.i k.id),.d (.i k.time),.d (.i k.next),.d (.sl (aE k.held)),.d (.sl (aP k.marks)),.d (.sl (aE k.inbox))]]) ?_ ?_))))))
 · refine wq (σ':=[tP 1 1,tI 3 (0:Nat),oB 1 32 [.d (.i k.id),.d (.i k.time),.d (.i k.next),.d (.sl (aE k.held)),.d (.sl (aP k.marks)),.d (.sl (aE k.inbox))]]) [] [] (⟨0,rfl,aXd _,fun j h=>absurd h (by omega),rfl⟩) ?_
   repeat' apply ai
   all_goals first|exact qx|(rw[aC];done)|rfl|exact qz
 rintro n s ⟨i,rfl,hi,hk,rfl⟩
 refine sq (sq (rT [1,3,47] (s5 (cd rfl (fun c47=> ?_) fun c47=> ?_))))
 · have hi2:i<k.held.length:=by simpa[aC] using c47
   have hg:=aQ (l:=k.held) hi2
   refine sk (sq (bk (sq (rT [1,3,4] (s3 (ai (by rw[aW6,hg];exact⟨⟨by omega,by rw[aC];omega⟩,rfl⟩) (ai (by rw[aW6,hg];exact⟨aW8 rfl,rfl⟩) (s2 (sq (wa [tP 1 1,tI 3 (i:Nat),oB 1 32 [.d (.i k.id),.d (.i k.time),.d (.i k.next),.d (.sl (aE k.held)),.d (.sl (aP k.marks)),.d (.sl (aE k.inbox))],tP 4 4,oB 4 58 [.d (.i (k.held.getD i .zero).frm),.d (.i (k.held.getD i .zero).num),.d (.i (k.held.getD i .zero).to),.d (.i (k.held.getD i .zero).til),.d (.s (k.held.getD i .zero).text)]] [] [] ?_ ?_))))))))))
   · repeat' apply ai
     all_goals first|exact qx|(rw[aW6,hg];rfl)|exact qz
   refine rT [1,3,90] (s6 (y3 (xc (fun h=>(aAs (k.held.getD i .zero) k.id)) (ai rfl (ai rk ?_)))))
   refine y1 (ai pk (s1 (y4 (y4 (y3 (ai (fun h=>pk) (ai rk (ai pk (s1 (y4 (y2 (xc (fun h=>(oD k.marks _ _ (by omega))) (ai rfl (ai rk ?_))))))))))))))
   refine y1 (ai pk (cd rfl (fun c90=> ?_) fun c90=> ?_))
   · refine sq (rT [2] (s1 (rt (bN rfl (congrArg D.b ?_)))))
     refine(oL fun h=> ?_).symm
     obtain⟨⟨h1,h2,h3,h4,h5,h6⟩,⟨h7,h8,h9⟩,h10,h11,h12⟩:=(cB k).1 h
     rw[fS hi2 (zJ ((or4 _ _ _ _).trans c90))] at h10
     cases h10
   refine sk (rT [1,3] (s3 ?_))
   have hs:tR k i=true:=zJ ((or4 _ _ _ _).trans c90)
   refine wq [] [] (⟨k.held.length - (i+1),by omega,i+1,rfl,by omega,fun j h=>by by_cases e:j=i;exact e▸hs;exact hk j (by omega),rfl⟩) ?_
   repeat' apply ai
   all_goals first|exact qx|exact congrArg D.i (aB (by omega))|exact qz
 have hiA:i=k.held.length:=by simp[aC] at c47;omega
 have hkA:=hk
 clear hk hi
 refine xt (sq (sq (rT [1,5] (s1 (bk (SW.loopW (n:=k.marks.length) (fun n q=> ∃i:Nat,n=k.marks.length - i∧i≤k.marks.length∧(∀j,j<i→xD k j=true)∧q=[tP 1 1,tI 5 (i:Nat),oB 1 32 [.d (.i k.id),.d (.i k.time),.d (.i k.next),.d (.sl (aE k.held)),.d (.sl (aP k.marks)),.d (.sl (aE k.inbox))]]) ?_ ?_))))))
 · refine wq (σ':=[tP 1 1,tI 5 (0:Nat),oB 1 32 [.d (.i k.id),.d (.i k.time),.d (.i k.next),.d (.sl (aE k.held)),.d (.sl (aP k.marks)),.d (.sl (aE k.inbox))]]) [] [] (⟨0,rfl,aXd _,fun j h=>absurd h (by omega),rfl⟩) ?_
   repeat' apply ai
   all_goals first|exact qx|(rw[aN];done)|rfl|exact qz
 rintro n s ⟨i,rfl,hi,hk,rfl⟩
 refine sq (sq (rT [1,5,95] (s5 (cd rfl (fun c95=> ?_) fun c95=> ?_))))
 · have hi2:i<k.marks.length:=by simpa[aN] using c95
   have hg:=bX (l:=k.marks) hi2
   refine sk (sq (bk (sq (rT [1,5,6] (s3 (ai (by rw[aW6,hg];exact⟨⟨by omega,by rw[aN];omega⟩,rfl⟩) (ai (by rw[aW6,hg];exact⟨aW8 rfl,rfl⟩) (s2 (sq (wa [tP 1 1,tI 5 (i:Nat),oB 1 32 [.d (.i k.id),.d (.i k.time),.d (.i k.next),.d (.sl (aE k.held)),.d (.sl (aP k.marks)),.d (.sl (aE k.inbox))],tP 6 6,oB 6 112 [.d (.i (k.marks.getD i .zero).frm),.d (.i (k.marks.getD i .zero).num),.d (.i (k.marks.getD i .zero).til)]] [] [] ?_ ?_))))))))))
   · repeat' apply ai
     all_goals first|exact qx|(rw[aW6,hg];rfl)|exact qz
   refine rT [1,5,121] (s6 (y4 (y4 (y3 (ai (fun h=>pk) (ai rk (ai pk (cd rfl (fun c121=> ?_) fun c121=> ?_))))))))
   · refine sq (rT [2] (s1 (rt (bN rfl (congrArg D.b ?_)))))
     refine(oL fun h=> ?_).symm
     obtain⟨⟨h1,h2,h3,h4,h5,h6⟩,⟨h7,h8,h9⟩,h10,h11,h12⟩:=(cB k).1 h
     rw[fS hi2 (zK ((or2 _ _).trans c121))] at h11
     cases h11
   refine sk (rT [1,5] (s3 ?_))
   have hs:xD k i=true:=zK ((or2 _ _).trans c121)
   refine wq [] [] (⟨k.marks.length - (i+1),by omega,i+1,rfl,by omega,fun j h=>by by_cases e:j=i;exact e▸hs;exact hk j (by omega),rfl⟩) ?_
   repeat' apply ai
   all_goals first|exact qx|exact congrArg D.i (aB (by omega))|exact qz
 have hiB:i=k.marks.length:=by simp[aN] at c95;omega
 have hkB:=hk
 clear hk hi
 refine xt (sq (sq (rT [1,7] (s1 (bk (SW.loopW (n:=k.inbox.length) (fun n q=> ∃i:Nat,n=k.inbox.length - i∧i≤k.inbox.length∧(∀j,j<i→sQ k j=true)∧q=[tP 1 1,tI 7 (i:Nat),oB 1 32 [.d (.i k.id),.d (.i k.time),.d (.i k.next),.d (.sl (aE k.held)),.d (.sl (aP k.marks)),.d (.sl (aE k.inbox))]]) ?_ ?_))))))
 · refine wq (σ':=[tP 1 1,tI 7 (0:Nat),oB 1 32 [.d (.i k.id),.d (.i k.time),.d (.i k.next),.d (.sl (aE k.held)),.d (.sl (aP k.marks)),.d (.sl (aE k.inbox))]]) [] [] (⟨0,rfl,aXd _,fun j h=>absurd h (by omega),rfl⟩) ?_
   repeat' apply ai
   all_goals first|exact qx|(rw[aC];done)|rfl|exact qz
 rintro n s ⟨i,rfl,hi,hk,rfl⟩
 refine sq (sq (rT [1,7,126] (s5 (cd rfl (fun c126=> ?_) fun c126=> ?_))))
 · have hi2:i<k.inbox.length:=by simpa[aC] using c126
   have hg:=aQ (l:=k.inbox) hi2
   refine sk (sq (bk (sq (rT [1,7,8] (s3 (ai (by rw[aW6,hg];exact⟨⟨by omega,by rw[aC];omega⟩,rfl⟩) (ai (by rw[aW6,hg];exact⟨aW8 rfl,rfl⟩) (s2 (sq (wa [tP 1 1,tI 7 (i:Nat),oB 1 32 [.d (.i k.id),.d (.i k.time),.d (.i k.next),.d (.sl (aE k.held)),.d (.sl (aP k.marks)),.d (.sl (aE k.inbox))],tP 8 8,oB 8 58 [.d (.i (k.inbox.getD i .zero).frm),.d (.i (k.inbox.getD i .zero).num),.d (.i (k.inbox.getD i .zero).to),.d (.i (k.inbox.getD i .zero).til),.d (.s (k.inbox.getD i .zero).text)]] [] [] ?_ ?_))))))))))
   · repeat' apply ai
     all_goals first|exact qx|(rw[aW6,hg];rfl)|exact qz
   refine rT [1,7,169] (s6 (y4 (y4 (y3 (ai (fun h=>pk) (ai rk (ai pk (s1 (y4 (y4 (y4 (xc (fun h=>(oD k.marks _ _ (by omega))) (ai rfl (ai rk ?_))))))))))))))
   refine y1 (ai (fun h=>pk) (ai rk (ai pk (cd rfl (fun c169=> ?_) fun c169=> ?_))))
   · refine sq (rT [2] (s1 (rt (bN rfl (congrArg D.b ?_)))))
     refine(oL fun h=> ?_).symm
     obtain⟨⟨h1,h2,h3,h4,h5,h6⟩,⟨h7,h8,h9⟩,h10,h11,h12⟩:=(cB k).1 h
     rw[fS hi2 (wD ((or3 _ _ _).trans c169))] at h12
     cases h12
   refine sk (rT [1,7] (s3 ?_))
   have hs:sQ k i=true:=wD ((or3 _ _ _).trans c169)
   refine wq [] [] (⟨k.inbox.length - (i+1),by omega,i+1,rfl,by omega,fun j h=>by by_cases e:j=i;exact e▸hs;exact hk j (by omega),rfl⟩) ?_
   repeat' apply ai
   all_goals first|exact qx|exact congrArg D.i (aB (by omega))|exact qz
 have hiC:i=k.inbox.length:=by simp[aC] at c126;omega
 refine xt (sq (rT [2] (s1 (rt (bN rfl (congrArg D.b ?_))))))
 refine((cB k).2 ⟨⟨f1,f2,f3,f4,f5,f6⟩,hg3,iP ?_,iP ?_,iP ?_⟩).symm
 · rw[← hiA];exact hkA
 · rw[← hiB];exact hkB
 rw[← hiC];exact hk
theorem uP (n:Nat) (hn:n≤1000000000):Sp 97 1 [tI 0 (n:Nat)] [tD 0 (.s (jZ n))]:=by
 induction n using Nat.strongRecOn
 rename_i n ih
 refine sb Tryz.func97 rfl (sq (rT [0] (s1 (sq (sq (rT [0,4] (s2 (cd rfl (fun c4=> ?_) fun c4=> ?_))))))))
 · simp at c4
   omega
 refine sk (sq (sq (rT [0,6] (s2 (cd rfl (fun c6=> ?_) fun c6=> ?_)))))
 · simp at c6
   omega
 refine sk (sq (sq (rT [0,12] (s2 (cd rfl (fun c12=> ?_) fun c12=> ?_)))))
 · have h10:n<10:=by simp at c12;omega
   refine sq (rT [2] (s3 (ai (by exact⟨by simp,aW8 rfl⟩) (ai (by exact⟨rfl,congrArg (fun r=>[r]) (aDo _)⟩) (s1 (rt (bN rfl (congrArg D.s ?_))))))))
   rw[nH h10,← aF0 h10]
   rfl
 have h10: ¬n<10:=by simp at c12;omega
 have hq:wrap64 (Int.tdiv (n:Int) 10)=((n / 10:Nat):Int):=by rw[Int.tdiv_eq_ediv_of_nonneg (by omega),aB (by omega)];omega
 have hr:aXm (n:Int) 10=((n % 10:Nat):Int):=by rw[Int.tmod_eq_emod_of_nonneg (by omega)];omega
 have hdl:=aKi (n / 10)
 refine sk (sq (rD [2] (s1 (ai (by omega) (xp (ih (n / 10) (by omega) (by omega)) (ai (by rw[hq];rfl) ?_))))))
 refine s1 (ai (by omega) (s2 (ai (by exact⟨by simp,aW8 rfl⟩) (ai (by exact⟨rfl,congrArg (fun r=>[r]) (aDo _)⟩) (ai (by show _≤9223372036854775807;simp only[jR,List.length_map,aW9,aXa];omega) (s1 (ai (by kernel_rfl) (rt (bN rfl (congrArg D.s ?_))))))))))
 refine Eq.trans ?_ (uG (by omega)).symm
 rw[hr,← aF0 (Nat.mod_lt n (by decide))]
 rfl
theorem dm (s:List UInt8) (hl:s.length≤140737488355328):Sp 72 1 [tD 0 (.s s)] [tV 0 (.tup [.c (.d (.i (match jP s with|some n=>(n:Int)|none=>0))),.c (.d (.b (jP s).isSome))])]:=by
 refine sb Tryz.func72 rfl (sq (rT [0] (s2 (sq (sq (rT [0,19] (s2 (xp (gL _ _ _) (ai rfl ?_)))))))))
 refine s2 (y1 (ai (fun h=>(by have h9:=h;simp[gb,iK] at h9;exact⟨by omega,by omega⟩)) (ai rk (y4 (y1 (ai (fun h=>pk) (ai rk (ai pk (cd rfl (fun c19=> ?_) fun c19=> ?_)))))))))
 · refine sq (rT [2,3] (s2 (rt ?_)))
   have hno:jP s=none:=by
    unfold jP
    rw[if_neg]
    rintro⟨h1,h2,h3⟩
    have h4:iK (s.length:Int) 1 5=true:=by simp only[iK,aXb,decide_eq_true_eq];omega
    rw[h4] at c19
    simp only[Bool.not_true,Bool.false_or,aXb,beq_iff_eq,decide_eq_true_eq] at c19
    refine h2 ⟨UInt8.toNat_inj.1 ?_,by omega⟩
    have h5: ((s.getD 0 0).toNat:Int)=48:=c19.1
    have h6: (48:UInt8).toNat=48:=rfl
    omega
   refine bG rfl rfl ?_
   rw[hno]
   rfl
 have hL: (1≤s.length∧s.length≤5)∧ ¬(s.getD 0 0=48∧1<s.length):=by
  by_cases h1:1≤s.length∧s.length≤5
  · refine⟨h1,fun h2=> ?_⟩
    have h3: (((s.getD (Int.toNat 0) 0).toNat:Int)==48)=true:=by rw[show Int.toNat 0=0 from rfl,h2.1];rfl
    have h4:decide ((s.length:Int)>1)=true:=decide_eq_true (by omega)
    rw[h3,h4] at c19
    simp at c19
  · have h3:iK (s.length:Int) 1 5=false:=by
     cases h:iK (s.length:Int) 1 5 with
     |false=>rfl
     |true=>simp only[iK,aXb,decide_eq_true_eq] at h;omega
    rw[h3] at c19
    simp at c19
 refine sk (sq (rT [0,4] (s1 (sq (sq (rT [0,4,5] (s1 (bk (SW.loopW (n:=s.length) (fun m q=> ∃i:Nat,m=s.length - i∧i≤s.length∧(∀k,k<i→gM (s.getD k 0)=true)∧q=[tD 0 (.s s),tI 4 (pQ (s.take (i)):Nat),tI 5 (i:Nat)]) ?_ ?_)))))))))
 · refine wq (σ':=[tD 0 (.s s),tI 4 (pQ (s.take (0)):Nat),tI 5 (0:Nat)]) [] [] (⟨0,rfl,aXd _,fun k h=>absurd h (by omega),rfl⟩) ?_
   repeat' apply ai
   all_goals first|exact qx|(simp[pQ];done)|exact qz
 rintro n s ⟨i,rfl,hi,hk,rfl⟩
 refine sq (sq (rT [0,4,5,23] (s4 (cd rfl (fun c23=> ?_) fun c23=> ?_))))
 · have hi2:i<s.length:=by simpa using c23
   have hb8:=kI s i
   have hw:wrap64 ((s.getD ((i:Nat):Int).toNat 0).toNat:Int)=jF s i:=aB (by unfold jF at hb8;rw[aW6];omega)
   have hvb:=ov hk hi (by omega)
   refine sk (sq (bk (sq (sq (rT [0,4,5,31] (s2 (ai (by exact⟨by omega,by omega⟩) (s1 (xp (gL _ _ _) (ai rfl ?_))))))))))
   refine s1 (cd rfl (fun c31=> ?_) fun c31=> ?_)
   · refine sq (rT [2,3] (s2 (rt ?_)))
     have hno:jP s=none:=by
      unfold jP
      rw[if_neg]
      rintro⟨h1,h2,h3⟩
      have h9:=c31
      rw[hw,← wg] at h9
      have hs:gM (s.getD i 0)=false:=by simpa using h9
      rw[we hi2 hs] at h3
      cases h3
     refine bG rfl rfl ?_
     rw[hno]
     rfl
   refine sk (rT [0,4,5] (s4 (ai (by exact⟨by omega,by omega⟩) (s4 (rT [0,4,5] (s3 ?_))))))
   have hs:gM (s.getD i 0)=true:=by
    have h9:=c31
    rw[hw,← wg] at h9
    simpa using h9
   refine wq [] [] (⟨s.length - (i+1),by omega,i+1,rfl,by omega,fun k h=>by by_cases e:k=i;exact e▸hs;exact hk k (by omega),rfl⟩) ?_
   repeat' apply ai
   all_goals first|exact qx|(rw[aW6];exact congrArg D.i (aF1 hi2 hs rfl (by omega)).1)|exact congrArg D.i (aB (by omega))|exact qz
 have hi3:i=s.length:=by simp at c23;omega
 refine xt (sq (rT [2,3] (s3 (rt ?_))))
 have hyes:jP s=some (pQ s):=by
  unfold jP
  rw[if_pos ⟨hL.1,hL.2,aB1 (hi3▸hk)⟩]
 refine bG rfl rfl ?_
 rw[hyes,hi3,aXn]
 rfl
theorem uQ (s:List UInt8) (hl:s.length≤140737488355328):Sp 159 1 [tD 0 (.s s)] [tI 0 (gW s)]:=by
 refine sb Tryz.func159 rfl (sq (rT [0] (s1 (sq (sq (rT [0,12] (s4 (y3 (ai pk (cd rfl (fun c12=> ?_) fun c12=> ?_))))))))))
 · have hL: ¬(1≤s.length∧s.length≤4):=by simp[gb] at c12;omega
   refine sq (rT [2] (s1 (rt (bN rfl (congrArg D.i ?_)))))
   unfold gW
   rw[if_neg]
   rintro⟨h1,h2,h3⟩
   exact hL h1
 have hL:1≤s.length∧s.length≤4:=by
  simp only[Bool.or_eq_false_iff,decide_eq_false_iff_not] at c12
  omega
 refine sk (sq (rT [0,3] (s1 (sq (sq (rT [0,3,4] (s1 (bk (SW.loopW (n:=s.length) (fun m q=> ∃i:Nat,m=s.length - i∧i≤s.length∧(∀k,k<i→gM (s.getD k 0)=true)∧q=[tD 0 (.s s),tI 3 (pQ (s.take (i)):Nat),tI 4 (i:Nat)]) ?_ ?_)))))))))
 · refine wq (σ':=[tD 0 (.s s),tI 3 (pQ (s.take (0)):Nat),tI 4 (0:Nat)]) [] [] (⟨0,rfl,aXd _,fun k h=>absurd h (by omega),rfl⟩) ?_
   repeat' apply ai
   all_goals first|exact qx|(simp[pQ];done)|exact qz
 rintro n s ⟨i,rfl,hi,hk,rfl⟩
 refine sq (sq (rT [0,3,4,16] (s4 (cd rfl (fun c16=> ?_) fun c16=> ?_))))
 · have hi2:i<s.length:=by simpa using c16
   have hvb:=ov hk hi (by omega)
   refine sk (sq (bk (sq (sq (rT [0,3,4,28] (s2 (ai (by exact⟨by omega,by omega⟩) (s2 (y2 (ai (fun h=>(by exact⟨by omega,by omega⟩)) (ai rk (y1 (ai pk (cd rfl (fun c28=> ?_) fun c28=> ?_))))))))))))))
   · refine sq (rT [2] (s1 (rt (bN rfl (congrArg D.i ?_)))))
     unfold gW
     rw[if_neg]
     rintro⟨h1,h2,h3⟩
     have hs:gM (s.getD i 0)=false:=by
      have h9:=c28
      rw[aW6] at h9
      simp[gb] at h9
      simp[gM];omega
     rw[we hi2 hs] at h2
     cases h2
   refine sk (rT [0,3,4] (s4 (ai (by exact⟨by omega,by omega⟩) (s4 (rT [0,3,4] (s3 ?_))))))
   have hs:gM (s.getD i 0)=true:=by
    have h9:=c28
    rw[aW6] at h9
    simp[gb] at h9
    simp[gM];omega
   refine wq [] [] (⟨s.length - (i+1),by omega,i+1,rfl,by omega,fun k h=>by by_cases e:k=i;exact e▸hs;exact hk k (by omega),rfl⟩) ?_
   repeat' apply ai
   all_goals first|exact qx|(rw[aW6];exact congrArg D.i (aF1 hi2 hs rfl (by omega)).2)|exact congrArg D.i (aB (by omega))|exact qz
 have hi3:i=s.length:=by simp at c16;omega
 have hvb:=ov hk hi (by omega)
 refine xt (sq (sq (rT [3,40] (s1 (xp (uP (pQ (s.take i)) (by omega)) (ai rfl ?_))))))
 refine s2 (cd rfl (fun c40=> ?_) fun c40=> ?_)
 · refine sq (rT [2] (s1 (rt (bN rfl (congrArg D.i ?_)))))
   unfold gW
   rw[if_neg]
   rintro⟨h1,h2,h3⟩
   rw[hi3,aXn,h3] at c40
   simp at c40
 refine sk (sq (rT [2] (s2 (rt (bN rfl (congrArg D.i ?_))))))
 rw[hi3,aXn] at c40
 unfold gW
 rw[if_pos ⟨hL,aB1 (hi3▸hk),by simpa using c40⟩,hi3,aXn]
set_option maxHeartbeats 800000 in
theorem aAt (s:List UInt8) (hl:s.length≤1000000):Sp 114 1 [tD 0 (.s s)] [tV 0 (.tup [.c (.d (.s (aL2 s))),.c (.d (.i (aDr s:Nat)))])]:=by
 refine sb Tryz.func114 rfl (sq (rT [0] (s2 (sq (sq (rT [0,4] (s1 (bk (SW.loopW (n:=3) (fun m q=> ∃i:Nat,m=3 - i∧(i≤s.length∧i≤3)∧(∀j,j<i→s.getD j 0≠58)∧q=[tD 0 (.s s),tI 4 (i:Nat)]) ?_ ?_)))))))))
 · exact wq (σ':=[tD 0 (.s s),tI 4 (0:Nat)]) [] [] (⟨0,rfl,⟨aXd _,by omega⟩,fun j h=>absurd h (by omega),rfl⟩) qz
 rintro n s ⟨i,rfl,hi,hk,rfl⟩
 refine sq (sq (rT [0,4,13] (s5 (y2 (ai pk (cd rfl (fun c13=> ?_) fun c13=> ?_))))))
 · have hi2:i<s.length∧i<3:=by simp only[aXb,decide_eq_true_eq] at c13;omega
   refine sk (sq (bk (sq (sq (rT [0,4,19] (s2 (ai (by exact⟨by omega,by omega⟩) (s1 (cd rfl (fun c19=> ?_) fun c19=> ?_)))))))))
   · refine xt (rT [0,4] (s3 ?_))
     have hs:s.getD i 0≠58:=by
      have h9:=c19
      rw[aW6] at h9
      intro e
      rw[e] at h9
      exact absurd h9 (by decide)
     refine wq [] [] (⟨3 - (i+1),by omega,i+1,rfl,⟨by omega,by omega⟩,fun j h=>by by_cases e:j=i;exact e▸hs;exact hk j (by omega),rfl⟩) ?_
     repeat' apply ai
     all_goals first|exact qx|exact congrArg D.i (aB (by omega))|exact qz
   have hcol:uH s=some i:=by
    refine wh hi2.2 hi2.1 ?_ hk
    have h9:=c19
    rw[aW6] at h9
    have h10: ((s.getD i 0).toNat:Int)=58:=by simpa only[bne_eq_false_iff_eq] using h9
    apply UInt8.toNat_inj.1
    have h6: (58:UInt8).toNat=58:=rfl
    omega
   have hv:=zL (s.take i)
   have hra:=aO1 hcol
   refine sk (sq (rT [0,4,5] (s2 (ai (by simp[te,fE,gH];omega) (xp (uQ (s.take i) (by rw[aXc];omega)) (ai rfl ?_))))))
   refine s1 (sq (sq (rT [0,4,5,47] (s3 (y2 (ai pk (s1 (y4 (y3 (ai pk (s1 (y4 (y1 (ai (fun h=>(by have h9:=h;simp only[gb,aXb,Bool.not_eq_true',Bool.or_eq_false_iff,decide_eq_false_iff_not] at h9;rw[aB (n:=(i:Int)+2) (by omega),aB (n:=(i:Int)+2+gW (s.take i)) (by omega)] at h9;rw[aB (n:=(i:Int)+1) (by omega),aB (n:=(i:Int)+1+gW (s.take i)) (by omega)];omega)) (ai rk (y1 (ai pk (cd rfl (fun c47=> ?_) fun c47=> ?_))))))))))))))))))
   · refine sq (rT [2,3] (s2 (rt ?_)))
     have hno:hF s=none:=by
      rw[hra,if_neg]
      rintro⟨p1,p2,p3,p4⟩
      have h9:=c47
      rw[aB (n:=(i:Int)+2) (by omega),aB (n:=(i:Int)+2+gW (s.take i)) (by omega),aB (n:=(i:Int)+1) (by omega),aB (n:=(i:Int)+1+gW (s.take i)) (by omega),show((i:Int)+1+gW (s.take i)).toNat=i+1+(gW (s.take i)).toNat by omega,p4] at h9
      simp at h9
      omega
     refine bG rfl rfl ?_
     rw[aL2,aDr,hno]
     rfl
   have hok:1≤gW (s.take i)∧gW (s.take i)≤60∧i+2+(gW (s.take i)).toNat≤s.length∧s.getD (i+1+(gW (s.take i)).toNat) 0=59:=by
    have h9:=c47
    rw[aB (n:=(i:Int)+2) (by omega),aB (n:=(i:Int)+2+gW (s.take i)) (by omega),aB (n:=(i:Int)+1) (by omega),aB (n:=(i:Int)+1+gW (s.take i)) (by omega)] at h9
    simp only[Bool.or_eq_false_iff,decide_eq_false_iff_not,bne_eq_false_iff_eq] at h9
    obtain⟨⟨⟨p1,p2⟩,p3⟩,p4⟩:=h9
    rw[show((i:Int)+1+gW (s.take i)).toNat=i+1+(gW (s.take i)).toNat by omega] at p4
    refine⟨by omega,by omega,by omega,UInt8.toNat_inj.1 ?_⟩
    have h6: (59:UInt8).toNat=59:=rfl
    omega
   refine sk (sq (rT [2,3] (s7 (ai (by rw[aB (n:=(i:Int)+1) (by omega),aB (n:=(i:Int)+1+gW (s.take i)) (by omega)];simp[te,fE,gH];omega) (s6 (rt ?_))))))
   have hyes:=hra.trans (if_pos hok)
   refine bG rfl rfl ?_
   rw[aL2,aDr,hyes]
   rw[aB (n:=(i:Int)+1) (by omega),aB (n:=(i:Int)+1+gW (s.take i)) (by omega),aB (n:=(i:Int)+2) (by omega),aB (n:=(i:Int)+2+gW (s.take i)) (by omega)]
   have e1: ((i:Int)+1).toNat=i+1:=by omega
   have e2: ((i:Int)+1+gW (s.take i)).toNat=i+1+(gW (s.take i)).toNat:=by omega
   have e3: (i:Int)+2+gW (s.take i)=((i+2+(gW (s.take i)).toNat:Nat):Int):=by omega
   rw[e3]
   show V.tup [.c (.d (.s (List.drop ((i:Int)+1).toNat (List.take ((i:Int)+1+gW (s.take i)).toNat s)))),_]=_
   rw[e1,e2]
 have hi3:i=3∨i=s.length:=by
  by_cases h3:i<3
  · right;have h4:decide ((i:Int)<3)=true:=decide_eq_true (by omega)
    rw[h4,Bool.and_true,decide_eq_false_iff_not] at c13;omega
  · left;omega
 refine xt (sq (rT [2,3] (s2 (rt ?_))))
 have hno:hF s=none:=by
  exact fy (kz fun j h3 hjl=>hk j (by omega))
 refine bG rfl rfl ?_
 rw[aL2,aDr,hno]
 rfl
set_option maxHeartbeats 800000 in
theorem qa (s:List UInt8) (hl:s.length≤1000000):Sp 69 1 [tD 0 (.s s)] [tV 0 (.tup [.c (.own 0 (bM s).1.length),.c (.d (.i ((bM s).2:Nat)))]),oR 0 9 1 (bB (bM s).1)]:=by
 refine sb Tryz.func69 rfl (sq (rT [0] (s2 (sq (rT [0,4] (s2 (sq (rT [0,4,5] (s1 (sq (bk (SW.loopW (n:=s.length) (fun m q=> ∃(a:Nat) (o:List (List UInt8)),m=s.length - a∧(a≤s.length∧o.length≤a)∧(o++(bM (s.drop a)).1=(bM s).1∧a+(bM (s.drop a)).2=(bM s).2)∧q=[tD 0 (.s s),tO 4 8 (o).length,tI 5 (a:Nat),oR 8 9 1 (bB (o))]) ?_ ?_))))))))))))
 · refine wq (σ':=[tD 0 (.s s),tO 4 8 ([]).length,tI 5 (0:Nat),oR 8 9 1 (bB ([]))]) [] [] (⟨0,[],rfl,⟨aXd _,by simp⟩,⟨rfl,by rw[List.drop_zero,Nat.zero_add]⟩,rfl⟩) ?_
   repeat' apply ai
   all_goals first|exact qx|rfl|exact qz
 rintro n s ⟨a,o,rfl,ha,hr,rfl⟩
 refine sq (sq (rT [0,4,5,12] (s4 (cd rfl (fun c12=> ?_) fun c12=> ?_))))
 · have ha2:a<s.length:=by simpa using c12
   refine sk (bk (sq (rT [0,4,5,6,7] (s2 (ai (by simp[te,fE,gH];omega) (xp (aAt (s.drop a) (by rw[aXf];omega)) (ai (by show _=eV 0 [Dv (.s (List.drop ((a:Int)).toNat (List.take s.length s)))];rw[aW6,aXn];rfl) ?_)))))))
   refine s5 (sq (sq (rT [0,4,5,6,7,21] (s2 (cd rfl (fun c21=> ?_) fun c21=> ?_)))))
   · have hz:hF (s.drop a)=none:=by
      refine aB2.1 ?_
      have h9: ((aDr (s.drop a):Nat):Int)=0:=by simpa using c21
      omega
     rw[eG hz,List.append_nil,Nat.add_zero] at hr
     refine sq (rT [2,3] (s4 (rt ?_)))
     rw[← hr.1,← hr.2]
     exact eA _ [(0,8)] [] rfl ⟨⟨_,rfl,⟨rfl,rfl,_,_,_,rfl⟩,rfl,trivial⟩,bV rfl rfl trivial⟩ rfl rfl
   obtain⟨r,n,hra⟩: ∃r n,hF (s.drop a)=some (r,n):=by
    cases h:hF (s.drop a) with
    |none=>
     rw[aB2.2 h] at c21
     exact absurd c21 (by decide)
    |some p=>exact⟨p.1,p.2,rfl⟩
   have hS:aL2 (s.drop a)=r:=by rw[aL2,hra]
   have hN:aDr (s.drop a)=n:=by rw[aDr,hra]
   have hrs:=nX hra
   rw[aXf] at hrs
   refine sk (sq (rT [0,4,5,7] (s3 (ai (by refine⟨rfl,aL _,by simp,?_⟩;show(_+1)*16≤_;omega) (s1 (rT [0,4,5] (s4 ?_)))))))
   have hstep:=hZ hra
   rw[List.drop_drop] at hstep
   rw[hstep] at hr
   refine wq [] [] (⟨s.length - (a+n),by omega,a+n,o++[r],rfl,⟨by omega,by rw[aW7];simp;omega⟩,⟨by rw[← hr.1,List.append_assoc];rfl,by rw[← hr.2];simp only;omega⟩,rfl⟩) ?_
   repeat' apply ai
   all_goals first|exact qx|(rw[aW7];done)|(refine congrArg D.i ?_;rw[hN,aB (by omega)];omega)|(rw[hS];exact fC _ _)|(simp[aL];done)|exact qz
 have ha3:a=s.length:=by simp at c12;omega
 have hd0:s.drop a=[]:=by rw[ha3];exact List.drop_length
 rw[hd0,eG kY,List.append_nil,Nat.add_zero] at hr
 refine xt (sq (rT [2,3] (s4 (rt ?_))))
 rw[← hr.1,← hr.2]
 exact eA _ [(0,8)] [] rfl ⟨⟨_,rfl,⟨rfl,rfl,_,_,_,rfl⟩,rfl,trivial⟩,bV rfl rfl trivial⟩ rfl rfl
theorem aq (l:List (List UInt8)) (hl:l.length≤1000000):Sp 74 1 [tD 0 (.sl (bB l))] [tO 0 0 l.length,oR 0 9 1 (bB (l))]:=by
 refine sb Tryz.func74 rfl (sq (rT [0] (s1 (sq (sq (rT [0,6] (s3 (cd rfl (fun c6=> ?_) fun c6=> ?_))))))))
 · refine sq (rT [2] (s1 (SW.nilOwn 2 0 9 1 rfl rfl (rt (rq [] [] rfl ?_)))))
   repeat' apply ai
   all_goals try exact qx
   all_goals(simp[aL] at c6;simp[c6,bB])
 refine sk (sq (rT [0,3] (s2 (ai (by refine⟨rfl,by omega,?_⟩;rw[aL];show((16:Nat):Int)*_≤_;omega) (s1 (sq (rT [3] (s2 (ai (by refine⟨trivial,by simp,zG l⟩) (sq (rT [2] (s2 (rt (rq [(0,9)] [] rfl ?_))))))))))))))
 repeat' apply ai
 all_goals try exact qx
 all_goals first|(simp[aL];done)|(simp;done)
theorem pk3 {p:Prop} (h:p:=by constructor<;>intro h<;>first|(simp only[gb,vG];done)|(simpa only[gb,vG] using h)|(simp only[gb,vG] at h ⊢; first|(simp;done)|(simpa using h))|(simpa[gb,vG] using h)):p:=h
theorem uj (o:List (List UInt8)):nR [tO 0 0 o.length,oR 0 9 1 (bB (o))]:=by
 intro p hp
 simp at hp
 rcases hp with rfl|rfl
 · trivial
 intro r hr d hd
 obtain⟨x,_,rfl⟩:=aXk.1 hr
 simp at hd;subst hd;trivial
set_option maxHeartbeats 1600000 in
theorem qb (s:List UInt8) (hl:s.length≤1000000):Sp 20 1 [tD 0 (.s s)] [tV 0 (.tup [.c (.own 0 (bM s).1.length),.c (.d (.i ((bM s).2:Nat)))]),oR 0 9 1 (bB (bM s).1)]:=by
 refine sb Tryz.func20 rfl (sq (rT [0] (s2 (sq (rT [0,4] (s1 (sq (rT [0,4,5] (s1 (sq (bk (SW.nilOwn 4 8 9 1 rfl rfl (SW.loopW (n:=s.length) (fun m q=> ∃(a:Nat) (o:List (List UInt8)),m=s.length - a∧(a≤s.length∧o.length≤a)∧(o++(bM (s.drop a)).1=(bM s).1∧a+(bM (s.drop a)).2=(bM s).2)∧q=[tD 0 (.s s),tO 4 8 (o).length,tI 5 (a:Nat),oR 8 9 1 (bB (o))]) ?_ ?_)))))))))))))
 · refine wq (σ':=[tD 0 (.s s),tO 4 8 ([]).length,tI 5 (0:Nat),oR 8 9 1 (bB ([]))]) [] [] (⟨0,[],rfl,⟨aXd _,by simp⟩,⟨rfl,by rw[List.drop_zero,Nat.zero_add]⟩,rfl⟩) ?_
   repeat' apply ai
   all_goals first|exact qx|rfl|exact qz
 rintro n s ⟨a,o,rfl,ha,hr,rfl⟩
 refine sq (sq (rT [0,4,5,13] (s4 (cd rfl (fun c13=> ?_) fun c13=> ?_))))
 · have ha2:a<s.length:=by simpa using c13
   refine sk (bk (sq (rT [0,4,5,6] (s2 (sq (bk (SW.loopW (n:=3) (fun m q=> ∃c:Nat,m=a+3 - c∧(a≤c∧c≤a+3∧c≤s.length)∧(∀j,a≤j→j<c→s.getD j 0≠58)∧q=[tD 0 (.s s),tO 4 8 (o).length,tI 5 (a:Nat),tI 6 (c:Nat),oR 8 9 1 (bB (o))]) ?_ ?_)))))))
   · exact wq [] [] (⟨a,by omega,by omega,fun j h1 h2=>absurd h1 (by omega),rfl⟩) qz
   rintro n s ⟨c,rfl,hc,hk,rfl⟩
   refine sq (sq (rT [0,4,5,6,30] (s5 (y4 (ai pk (s1 (y2 (ai (fun h=>(by have h9:=h;simp only[gb,aXb,decide_eq_true_eq] at h9;exact⟨by omega,by omega⟩)) (ai rk (y1 (ai pk (cd rfl (fun c30=> ?_) fun c30=> ?_))))))))))))
   · refine sk (bk (rT [0,4,5,6] (s3 ?_)))
     have hs:s.getD c 0≠58:=by
      have h9:=c30
      simp only[aXb] at h9
      have h10:=h9.2
      rw[aW6] at h10
      intro e
      rw[e] at h10
      exact absurd h10 (by decide)
     have hcl:c<s.length∧c<a+3:=by
      have h9:=c30
      rw[aB (by omega)] at h9
      simp only[aXb,decide_eq_true_eq] at h9
      omega
     refine wq [] [] (⟨a+3 - (c+1),by omega,c+1,rfl,by omega,fun j h1 h2=>by by_cases e:j=c;exact e▸hs;exact hk j h1 (by omega),rfl⟩) ?_
     repeat' apply ai
     all_goals first|exact qx|exact congrArg D.i (aB (by omega))|exact qz
   have hstop:s.length≤c∨a+3≤c∨s.getD c 0=58:=by
    have h9:=c30
    rw[aB (by omega),aW6] at h9
    by_cases h1:c<s.length
    · by_cases h2:c<a+3
      · rw[decide_eq_true (show(c:Int)< (s.length:Int) by omega),decide_eq_true (show(c:Int)< (a:Int)+3 by omega)] at h9
        have h10: ((s.getD c 0).toNat:Int)=58:=by simpa only[Bool.true_and,bne_eq_false_iff_eq] using h9
        right;right
        apply UInt8.toNat_inj.1
        have h6: (58:UInt8).toNat=58:=rfl
        omega
      · right;left;omega
    · left;omega
   refine xt (sq (sq (rT [0,4,5,6,42] (s5 (y2 (ai (fun h=>(by have h9:=h;simp only[gb,Bool.not_eq_true',decide_eq_false_iff_not] at h9;exact⟨by omega,by omega⟩)) (ai rk (y1 (ai pk (cd rfl (fun c42=> ?_) fun c42=> ?_))))))))))
   · have hz:hF (s.drop a)=none:=by
      refine yC hk ?_
      by_cases h1:c<s.length
      · rcases hstop with h|h|h
        · exact .inl h
        · exact .inr h
        · exfalso
          have h9:=c42
          rw[aW6,h,decide_eq_false (show ¬((c:Int)≥(s.length:Int)) by omega)] at h9
          exact absurd h9 (by decide)
      · exact .inl (by omega)
     rw[eG hz,List.append_nil,Nat.add_zero] at hr
     refine xt (sq (rT [2,3] (s1 (bK (robj:=[(8,.row 9 1 (bB o))]) (rl:=[(0,85)]) (bor:=[8]) (aq o (by omega)) rfl rfl rfl rfl ⟨eW rfl rfl rfl (aL _) rfl trivial,rfl⟩ rfl (.inr (uj o)) (aI ⟨rfl,trivial⟩) (fun j hj=>by(obtain rfl:j=0:=by simpa[kN,cD,iO] using hj);rfl) (s3 (rt ?_))))))
     rw[← hr.1,← hr.2]
     exact eA _ [(0,85)] [] rfl ⟨⟨_,rfl,⟨rfl,rfl,_,_,_,rfl⟩,rfl,trivial⟩,bV rfl rfl trivial⟩ rfl rfl
   have hcl:c<s.length:=by
    have h9:=c42
    simp only[Bool.or_eq_false_iff,decide_eq_false_iff_not] at h9
    omega
   have h58:s.getD c 0=58:=by
    have h9:=c42
    simp only[Bool.or_eq_false_iff,decide_eq_false_iff_not] at h9
    have h10:=h9.2
    rw[aW6] at h10
    have h11: ((s.getD c 0).toNat:Int)=58:=by simpa only[bne_eq_false_iff_eq] using h10
    apply UInt8.toNat_inj.1
    have h6: (58:UInt8).toNat=58:=rfl
    omega
   obtain⟨himp1,himp2⟩:=aO3 hc.1 hk hc.2.1 hcl h58
   have hN:=aIo ((s.take c).drop a)
   have hw1:wrap64 ((c:Int)+1)=((c+1:Nat):Int):=by rw[aB (by omega)];omega
   have hw2:wrap64 (((c+1:Nat):Int)+jB ((s.take c).drop a))=((c+1+(jB ((s.take c).drop a)).toNat:Nat):Int):=by rw[aB (by omega)];omega
   refine sk (sq (rT [0,4,5,6,7,8] (s3 (ai (by simp[te,fE,gH];omega) (xp (dm ((s.take c).drop a) (by rw[aXf,aXc];omega)) (ai rfl ?_))))))
   refine s5 (sq (rT [0,4,5,6,7,8,9] (s5 (sq (sq (SW.wk (J:=fun q=>q=[tD 0 (.s s),tO 4 8 (o).length,tI 5 (a:Nat),tI 6 (c:Nat),tI 7 (jB ((s.take c).drop a)),tB 8 (jP ((s.take c).drop a)).isSome,tI 9 (c+1+(jB ((s.take c).drop a)).toNat:Nat),oR 8 9 1 (bB (o))]) ?_ ?_))))))
   · refine wq [] [] (rfl) ?_
     repeat' apply ai
     all_goals first|exact qx|(rw[hw1];exact congrArg D.i hw2)|(unfold jB;rfl)|exact qz
   rintro q rfl
   refine rT [0,4,5,6,9,73] (s3 (y1 (xc (fun h=>(gL _ _ _)) (ai rfl (ai rk ?_)))))
   refine y1 (ai pk3 (s1 (y4 (ai pk3 (s1 (y2 (ai (fun h=>(by have h9:=h;simp only[gb,Bool.not_eq_true',Bool.or_eq_false_iff,decide_eq_false_iff_not] at h9;exact⟨by omega,by omega⟩)) (ai rk (y1 (ai pk3 (cd rfl (fun c73=> ?_) fun c73=> ?_)))))))))))
   · have hz:hF (s.drop a)=none:=by
      refine himp1 ?_
      rintro⟨n,h1,h2,h3,h4,h5⟩
      have hNn:jB ((s.take c).drop a)=n:=by rw[jB,h1]
      have h9:=c73
      rw[hNn,h1,aW6,aW6,h5] at h9
      simp only[iK,decide_eq_true (show(1:Int)≤(n:Int) by omega),decide_eq_true (show(n:Int)≤60 by omega),decide_eq_false (show ¬(((c+1+n:Nat):Int)≥(s.length:Int)) by omega)] at h9
      simp at h9
     rw[eG hz,List.append_nil,Nat.add_zero] at hr
     refine xt (sq (rT [2,3] (s1 (bK (robj:=[(8,.row 9 1 (bB o))]) (rl:=[(0,85)]) (bor:=[8]) (aq o (by omega)) rfl rfl rfl rfl ⟨eW rfl rfl rfl (aL _) rfl trivial,rfl⟩ rfl (.inr (uj o)) (aI ⟨rfl,trivial⟩) (fun j hj=>by(obtain rfl:j=0:=by simpa[kN,cD,iO] using hj);rfl) (s3 (rt ?_))))))
     rw[← hr.1,← hr.2]
     exact eA _ [(0,85)] [] rfl ⟨⟨_,rfl,⟨rfl,rfl,_,_,_,rfl⟩,rfl,trivial⟩,bV rfl rfl trivial⟩ rfl rfl
   have h9:=c73
   simp only[Bool.or_eq_false_iff,decide_eq_false_iff_not,Bool.not_eq_false,Bool.not_eq_eq_eq_not,Bool.not_false] at h9
   obtain⟨⟨⟨g1,g2⟩,g3⟩,g4⟩:=h9
   obtain⟨n,hn⟩:=Option.isSome_iff_exists.1 g1
   have hNn:jB ((s.take c).drop a)=n:=by rw[jB,hn]
   rw[hNn] at g2 g3 g4
   rw[aW6] at g3 g4
   simp only[iK,aXb,decide_eq_true_eq] at g2
   have h59:s.getD (c+1+n) 0=59:=by
    rw[aW6] at g4
    have h11: ((s.getD (c+1+n) 0).toNat:Int)=59:=by simpa only[bne_eq_false_iff_eq] using g4
    apply UInt8.toNat_inj.1
    have h6: (59:UInt8).toNat=59:=rfl
    omega
   have hra:=himp2 n hn (by omega) (by omega) (by omega) h59
   refine sk (sq (rT [0,4,9] (s5 (ai (by rw[hw1,hNn,aW6];simp[te,fE,gH];omega) (ai (by exact⟨by simp,aW8 rfl⟩) (ai (by refine⟨rfl,aL _,by simp,?_⟩;show(_+1)*16≤_;omega) (s1 (rT [0,4,5] (s3 ?_)))))))))
   have hstep:=hZ hra
   rw[List.drop_drop,show a+(c+2+n - a)=c+2+n by omega] at hstep
   rw[hstep] at hr
   refine wq [] [] (⟨s.length - (c+2+n),by omega,c+2+n,o++[(s.take (c+1+n)).drop (c+1)],rfl,⟨by omega,by rw[aW7];simp;omega⟩,⟨by rw[← hr.1,List.append_assoc];rfl,by rw[← hr.2];simp only;omega⟩,rfl⟩) ?_
   repeat' apply ai
   all_goals first|exact qx|(rw[aW7];done)|(refine congrArg D.i ?_;rw[hNn,aB (by omega)];omega)|(rw[hw1,hNn];exact fC _ _)|(simp[aL];done)|exact qz
 have ha3:a=s.length:=by simp at c13;omega
 have hd0:s.drop a=[]:=by rw[ha3];exact List.drop_length
 rw[hd0,eG kY,List.append_nil,Nat.add_zero] at hr
 refine xt (sq (rT [2,3] (s1 (bK (robj:=[(8,.row 9 1 (bB o))]) (rl:=[(0,85)]) (bor:=[8]) (aq o (by omega)) rfl rfl rfl rfl ⟨eW rfl rfl rfl (aL _) rfl trivial,rfl⟩ rfl (.inr (uj o)) (aI ⟨rfl,trivial⟩) (fun j hj=>by(obtain rfl:j=0:=by simpa[kN,cD,iO] using hj);rfl) (s3 (rt ?_))))))
 rw[← hr.1,← hr.2]
 exact eA _ [(0,85)] [] rfl ⟨⟨_,rfl,⟨rfl,rfl,_,_,_,rfl⟩,rfl,trivial⟩,bV rfl rfl trivial⟩ rfl rfl
end Go.Proofs.YthbgjfegalcenaaGreatDoor
namespace Go.Proofs
open Int renaming toNat_natCast→aW6,tmod→aXm
open List renaming length_append→aW7,length_cons→aW9,length_nil→aXa,length_take→aXc,getD_eq_getElem?_getD→aXe,length_drop→aXf,getElem?_eq_getElem→aXg,getElem?_eq_some_iff→aXh,range→aXj,mem_map→aXk,all_eq_true→aXl,take_length→aXn,mem_singleton→aXo,mem_iff_getElem?→aXq,mem_cons→aXr
open Nat renaming le_of_ble_eq_true→aW8,zero_le→aXd,le_refl→aXi,add_mul→aXp
open Bool renaming and_eq_true→aXb
open Go.Shelf
def Tryz.laysM171_ren:Go.Shelf.Ren:=⟨fun|171=>90|243=>133|246=>171|283=>199|284=>200|285=>201|286=>202|129=>212|317=>211|318=>213|319=>214|320=>215|337=>228|338=>229|n=>n,fun|3=>3|9=>9|2=>2|4=>4|171=>194|0=>0|53=>195|37=>22|5=>5|173=>198|212=>204|51=>205|20=>20|213=>206|46=>207|232=>223|233=>224|n=>n,fun|17=>0|18=>2|19=>3|n=>n⟩
theorem Tryz.laysM171:Go.Proofs.LaysM.n171 Tryz.prog Tryz.laysM171_ren:={
 mixed:=by kernel_rfl
 f129:=Tryz.func212.trans (congrArg some (by kernel_rfl))
 f171:=Tryz.func90.trans (congrArg some (by kernel_rfl))
 f243:=Tryz.func133.trans (congrArg some (by kernel_rfl))
 f246:=Tryz.func171.trans (congrArg some (by kernel_rfl))
 f283:=Tryz.func199.trans (congrArg some (by kernel_rfl))
 f284:=Tryz.func200.trans (congrArg some (by kernel_rfl))
 f285:=Tryz.func201.trans (congrArg some (by kernel_rfl))
 f286:=Tryz.func202.trans (congrArg some (by kernel_rfl))
 f317:=Tryz.func211.trans (congrArg some (by kernel_rfl))
 f318:=Tryz.func213.trans (congrArg some (by kernel_rfl))
 f319:=Tryz.func214.trans (congrArg some (by kernel_rfl))
 f320:=Tryz.func215.trans (congrArg some (by kernel_rfl))
 f337:=Tryz.func228.trans (congrArg some (by kernel_rfl))
 f338:=Tryz.func229.trans (congrArg some (by kernel_rfl))
 t0:=Tryz.underlying0
 a0:=Tryz.isAgg0
 z0:=Tryz.sizeOf0
 v0:=Tryz.zeroValue0
 t2:=Tryz.underlying2
 a2:=Tryz.isAgg2
 z2:=Tryz.sizeOf2
 v2:=Tryz.zeroValue2
 t3:=Tryz.underlying3
 a3:=Tryz.isAgg3
 z3:=Tryz.sizeOf3
 v3:=Tryz.zeroValue3
 t4:=Tryz.underlying4
 a4:=Tryz.isAgg4
 z4:=Tryz.sizeOf4
 v4:=Tryz.zeroValue4
 t5:=Tryz.underlying5
 a5:=Tryz.isAgg5
 z5:=Tryz.sizeOf5
 v5:=Tryz.zeroValue5
 t9:=Tryz.underlying9
 a9:=Tryz.isAgg9
 z9:=Tryz.sizeOf9
 v9:=Tryz.zeroValue9
 t20:=Tryz.underlying20
 a20:=Tryz.isAgg20
 z20:=Tryz.sizeOf20
 v20:=Tryz.zeroValue20
 t37:=Tryz.underlying22
 a37:=Tryz.isAgg22
 z37:=Tryz.sizeOf22
 v37:=Tryz.zeroValue22
 t46:=Tryz.underlying207
 a46:=Tryz.isAgg207
 z46:=Tryz.sizeOf207
 v46:=Tryz.zeroValue207
 t51:=Tryz.underlying205
 a51:=Tryz.isAgg205
 z51:=Tryz.sizeOf205
 v51:=Tryz.zeroValue205
 t53:=Tryz.underlying195
 a53:=Tryz.isAgg195
 z53:=Tryz.sizeOf195
 v53:=Tryz.zeroValue195
 t171:=Tryz.underlying194
 a171:=Tryz.isAgg194
 z171:=Tryz.sizeOf194
 v171:=Tryz.zeroValue194
 t173:=Tryz.underlying198
 a173:=Tryz.isAgg198
 z173:=Tryz.sizeOf198
 v173:=Tryz.zeroValue198
 t212:=Tryz.underlying204
 a212:=Tryz.isAgg204
 z212:=Tryz.sizeOf204
 v212:=Tryz.zeroValue204
 t213:=Tryz.underlying206
 a213:=Tryz.isAgg206
 z213:=Tryz.sizeOf206
 t232:=Tryz.underlying223
 a232:=Tryz.isAgg223
 z232:=Tryz.sizeOf223
 v232:=Tryz.zeroValue223
 t233:=Tryz.underlying224
 a233:=Tryz.isAgg224
 z233:=Tryz.sizeOf224
 v233:=Tryz.zeroValue224
 g17:=by kernel_rfl
 g18:=by kernel_rfl
 g19:=by kernel_rfl
 i0:=by kernel_rfl
 i2:=by kernel_rfl
 i3:=by kernel_rfl
 i4:=by kernel_rfl
 i5:=by kernel_rfl
 i9:=by kernel_rfl
 i20:=by kernel_rfl
 i37:=by kernel_rfl
 i46:=by kernel_rfl
 i51:=by kernel_rfl
 i53:=by kernel_rfl
 i171:=by kernel_rfl
 i173:=by kernel_rfl
 i212:=by kernel_rfl
 i232:=by kernel_rfl
 i233:=by kernel_rfl
 m17:=by kernel_rfl
 m18:=by kernel_rfl
 m19:=by kernel_rfl}
open Go.RowKit Go.Sort Go.Lib in
theorem Tryz.strconv_Itoa (n:Int) (h0: -9223372036854775808≤n) (h1:n≤9223372036854775807) (w:World) (htab:Lib.TabIs Tryz.prog w "internal/strconv.uint64pow10" .u64 Lib.pow10Tab):
 Calls Tryz.prog 90 #[.int .i64 n] w fun e w'=>e= .returned (.string ⟨(Lib.itoa n).toArray⟩)∧ ∃k os,w'=grow (w.drewN k) os:=Any.strconv_Itoa Tryz.laysM171 n h0 h1 w htab
def Tryz.lays145_ren:Go.Shelf.Ren:=⟨fun|145=>149|220=>181|219=>206|217=>221|225=>222|224=>223|267=>224|266=>233|314=>234|n=>n,fun|9=>9|4=>4|59=>158|3=>3|5=>5|46=>207|146=>221|51=>205|n=>n,fun|1=>1|n=>n⟩
theorem Tryz.lays145:Go.Proofs.Lays.n145 Tryz.prog Tryz.lays145_ren:={
 mixed:=by kernel_rfl
 f145:=Tryz.func149.trans (congrArg some (by kernel_rfl))
 f217:=Tryz.func221.trans (congrArg some (by kernel_rfl))
 f219:=Tryz.func206.trans (congrArg some (by kernel_rfl))
 f220:=Tryz.func181.trans (congrArg some (by kernel_rfl))
 f224:=Tryz.func223.trans (congrArg some (by kernel_rfl))
 f225:=Tryz.func222.trans (congrArg some (by kernel_rfl))
 f266:=Tryz.func233.trans (congrArg some (by kernel_rfl))
 f267:=Tryz.func224.trans (congrArg some (by kernel_rfl))
 f314:=Tryz.func234.trans (congrArg some (by kernel_rfl))
 t3:=Tryz.underlying3
 a3:=Tryz.isAgg3
 z3:=Tryz.sizeOf3
 v3:=Tryz.zeroValue3
 t4:=Tryz.underlying4
 a4:=Tryz.isAgg4
 z4:=Tryz.sizeOf4
 v4:=Tryz.zeroValue4
 t5:=Tryz.underlying5
 a5:=Tryz.isAgg5
 z5:=Tryz.sizeOf5
 v5:=Tryz.zeroValue5
 t9:=Tryz.underlying9
 a9:=Tryz.isAgg9
 z9:=Tryz.sizeOf9
 v9:=Tryz.zeroValue9
 t46:=Tryz.underlying207
 a46:=Tryz.isAgg207
 z46:=Tryz.sizeOf207
 v46:=Tryz.zeroValue207
 t51:=Tryz.underlying205
 a51:=Tryz.isAgg205
 z51:=Tryz.sizeOf205
 v51:=Tryz.zeroValue205
 t59:=Tryz.underlying158
 a59:=Tryz.isAgg158
 z59:=Tryz.sizeOf158
 v59:=Tryz.zeroValue158
 t146:=Tryz.underlying221
 a146:=Tryz.isAgg221
 z146:=Tryz.sizeOf221
 v146:=Tryz.zeroValue221
 g1:=by kernel_rfl}
open Go.RowKit Go.Lib in
theorem Tryz.strings_Cut (s sep:ByteArray) (m:Int) (w:World) (hs:s.size<4294967281) (hm:w.cell? ⟨1,0,none⟩=some (.int .i64 m)):
 Calls Tryz.prog 149 #[.string s,.string sep] w fun e w'=>e= .returned (.tuple #[.string ⟨(Lib.cut s.data.toList sep.data.toList).1.toArray⟩,.string ⟨(Lib.cut s.data.toList sep.data.toList).2.1.toArray⟩,.bool (Lib.cut s.data.toList sep.data.toList).2.2])∧ ∃n,w'=w.drewN n:=Any.strings_Cut Tryz.lays145 s sep m w hs hm
def Tryz.lays146_ren:Go.Shelf.Ren:=⟨fun|146=>154|221=>186|268=>207|138=>208|143=>209|195=>225|197=>226|218=>227|219=>206|260=>235|217=>221|225=>222|224=>223|267=>224|266=>233|314=>234|n=>n,fun|9=>9|31=>36|3=>3|4=>4|0=>0|105=>217|21=>21|5=>5|46=>207|119=>230|139=>233|138=>232|146=>221|51=>205|n=>n,fun|1=>1|3=>4|4=>5|n=>n⟩
theorem Tryz.lays146:Go.Proofs.Lays.n146 Tryz.prog Tryz.lays146_ren:={
 mixed:=by kernel_rfl
 f138:=Tryz.func208.trans (congrArg some (by kernel_rfl))
 f143:=Tryz.func209.trans (congrArg some (by kernel_rfl))
 f146:=Tryz.func154.trans (congrArg some (by kernel_rfl))
 f195:=Tryz.func225.trans (congrArg some (by kernel_rfl))
 f197:=Tryz.func226.trans (congrArg some (by kernel_rfl))
 f217:=Tryz.func221.trans (congrArg some (by kernel_rfl))
 f218:=Tryz.func227.trans (congrArg some (by kernel_rfl))
 f219:=Tryz.func206.trans (congrArg some (by kernel_rfl))
 f221:=Tryz.func186.trans (congrArg some (by kernel_rfl))
 f224:=Tryz.func223.trans (congrArg some (by kernel_rfl))
 f225:=Tryz.func222.trans (congrArg some (by kernel_rfl))
 f260:=Tryz.func235.trans (congrArg some (by kernel_rfl))
 f266:=Tryz.func233.trans (congrArg some (by kernel_rfl))
 f267:=Tryz.func224.trans (congrArg some (by kernel_rfl))
 f268:=Tryz.func207.trans (congrArg some (by kernel_rfl))
 f314:=Tryz.func234.trans (congrArg some (by kernel_rfl))
 t0:=Tryz.underlying0
 a0:=Tryz.isAgg0
 z0:=Tryz.sizeOf0
 v0:=Tryz.zeroValue0
 t3:=Tryz.underlying3
 a3:=Tryz.isAgg3
 z3:=Tryz.sizeOf3
 v3:=Tryz.zeroValue3
 t4:=Tryz.underlying4
 a4:=Tryz.isAgg4
 z4:=Tryz.sizeOf4
 v4:=Tryz.zeroValue4
 t5:=Tryz.underlying5
 a5:=Tryz.isAgg5
 z5:=Tryz.sizeOf5
 v5:=Tryz.zeroValue5
 t9:=Tryz.underlying9
 a9:=Tryz.isAgg9
 z9:=Tryz.sizeOf9
 v9:=Tryz.zeroValue9
 t21:=Tryz.underlying21
 a21:=Tryz.isAgg21
 z21:=Tryz.sizeOf21
 v21:=Tryz.zeroValue21
 t31:=Tryz.underlying36
 a31:=Tryz.isAgg36
 z31:=Tryz.sizeOf36
 v31:=Tryz.zeroValue36
 t46:=Tryz.underlying207
 a46:=Tryz.isAgg207
 z46:=Tryz.sizeOf207
 v46:=Tryz.zeroValue207
 t51:=Tryz.underlying205
 a51:=Tryz.isAgg205
 z51:=Tryz.sizeOf205
 v51:=Tryz.zeroValue205
 t105:=Tryz.underlying217
 a105:=Tryz.isAgg217
 z105:=Tryz.sizeOf217
 v105:=Tryz.zeroValue217
 t119:=Tryz.underlying230
 a119:=Tryz.isAgg230
 z119:=Tryz.sizeOf230
 t138:=Tryz.underlying232
 a138:=Tryz.isAgg232
 z138:=Tryz.sizeOf232
 v138:=Tryz.zeroValue232
 t139:=Tryz.underlying233
 a139:=Tryz.isAgg233
 z139:=Tryz.sizeOf233
 v139:=Tryz.zeroValue233
 t146:=Tryz.underlying221
 a146:=Tryz.isAgg221
 z146:=Tryz.sizeOf221
 v146:=Tryz.zeroValue221
 g1:=by kernel_rfl
 g3:=by kernel_rfl
 g4:=by kernel_rfl}
open Go.RowKit Go.Lib in
theorem Tryz.strings_Split (s sep:ByteArray) (m:Int) (w:World) (hs:s.size<4294967281) (hm:w.cell? ⟨1,0,none⟩=some (.int .i64 m)) (h1:1≤sep.size):
 Calls Tryz.prog 154 #[.string s,.string sep] w fun e w'=>
  e= .returned (.slice (some ⟨w.heap.size,0,none⟩) (Lib.countB s sep+1) (Lib.countB s sep+1))∧w'=w.alloc (.cells ((Lib.splitB sep 0 (Lib.countB s sep) s).map Value.string).toArray 9):=Any.strings_Split Tryz.lays146 (by kernel_rfl) s sep m w hs hm h1
def Tryz.lays147_ren:Go.Shelf.Ren:=⟨fun|147=>183|221=>186|268=>207|138=>208|143=>209|195=>225|197=>226|218=>227|219=>206|260=>235|217=>221|225=>222|224=>223|267=>224|266=>233|314=>234|n=>n,fun|9=>9|3=>3|31=>36|4=>4|0=>0|105=>217|21=>21|5=>5|46=>207|119=>230|139=>233|138=>232|146=>221|51=>205|n=>n,fun|1=>1|3=>4|4=>5|n=>n⟩
theorem Tryz.lays147:Go.Proofs.Lays.n147 Tryz.prog Tryz.lays147_ren:={
 mixed:=by kernel_rfl
 f138:=Tryz.func208.trans (congrArg some (by kernel_rfl))
 f143:=Tryz.func209.trans (congrArg some (by kernel_rfl))
 f147:=Tryz.func183.trans (congrArg some (by kernel_rfl))
 f195:=Tryz.func225.trans (congrArg some (by kernel_rfl))
 f197:=Tryz.func226.trans (congrArg some (by kernel_rfl))
 f217:=Tryz.func221.trans (congrArg some (by kernel_rfl))
 f218:=Tryz.func227.trans (congrArg some (by kernel_rfl))
 f219:=Tryz.func206.trans (congrArg some (by kernel_rfl))
 f221:=Tryz.func186.trans (congrArg some (by kernel_rfl))
 f224:=Tryz.func223.trans (congrArg some (by kernel_rfl))
 f225:=Tryz.func222.trans (congrArg some (by kernel_rfl))
 f260:=Tryz.func235.trans (congrArg some (by kernel_rfl))
 f266:=Tryz.func233.trans (congrArg some (by kernel_rfl))
 f267:=Tryz.func224.trans (congrArg some (by kernel_rfl))
 f268:=Tryz.func207.trans (congrArg some (by kernel_rfl))
 f314:=Tryz.func234.trans (congrArg some (by kernel_rfl))
 t0:=Tryz.underlying0
 a0:=Tryz.isAgg0
 z0:=Tryz.sizeOf0
 v0:=Tryz.zeroValue0
 t3:=Tryz.underlying3
 a3:=Tryz.isAgg3
 z3:=Tryz.sizeOf3
 v3:=Tryz.zeroValue3
 t4:=Tryz.underlying4
 a4:=Tryz.isAgg4
 z4:=Tryz.sizeOf4
 v4:=Tryz.zeroValue4
 t5:=Tryz.underlying5
 a5:=Tryz.isAgg5
 z5:=Tryz.sizeOf5
 v5:=Tryz.zeroValue5
 t9:=Tryz.underlying9
 a9:=Tryz.isAgg9
 z9:=Tryz.sizeOf9
 v9:=Tryz.zeroValue9
 t21:=Tryz.underlying21
 a21:=Tryz.isAgg21
 z21:=Tryz.sizeOf21
 v21:=Tryz.zeroValue21
 t31:=Tryz.underlying36
 a31:=Tryz.isAgg36
 z31:=Tryz.sizeOf36
 v31:=Tryz.zeroValue36
 t46:=Tryz.underlying207
 a46:=Tryz.isAgg207
 z46:=Tryz.sizeOf207
 v46:=Tryz.zeroValue207
 t51:=Tryz.underlying205
 a51:=Tryz.isAgg205
 z51:=Tryz.sizeOf205
 v51:=Tryz.zeroValue205
 t105:=Tryz.underlying217
 a105:=Tryz.isAgg217
 z105:=Tryz.sizeOf217
 v105:=Tryz.zeroValue217
 t119:=Tryz.underlying230
 a119:=Tryz.isAgg230
 z119:=Tryz.sizeOf230
 t138:=Tryz.underlying232
 a138:=Tryz.isAgg232
 z138:=Tryz.sizeOf232
 v138:=Tryz.zeroValue232
 t139:=Tryz.underlying233
 a139:=Tryz.isAgg233
 z139:=Tryz.sizeOf233
 v139:=Tryz.zeroValue233
 t146:=Tryz.underlying221
 a146:=Tryz.isAgg221
 z146:=Tryz.sizeOf221
 v146:=Tryz.zeroValue221
 g1:=by kernel_rfl
 g3:=by kernel_rfl
 g4:=by kernel_rfl}
open Go.RowKit Go.Lib in
theorem Tryz.strings_SplitN (s sep:ByteArray) (n:Nat) (m:Int) (w:World) (hs:s.size<4294967281) (hm:w.cell? ⟨1,0,none⟩=some (.int .i64 m)) (h1:1≤sep.size) (hn:1≤n) (hn63:n≤9223372036854775807):
 Calls Tryz.prog 183 #[.string s,.string sep,.int .i64 n] w fun e w'=>
  e= .returned (.slice (some ⟨w.heap.size,0,none⟩) (Lib.splitB sep 0 (min n (s.size+1) - 1) s).length (min n (s.size+1)))∧w'=w.alloc (.cells (Lib.cellsOf (Lib.splitB sep 0 (min n (s.size+1) - 1) s) (min n (s.size+1))) 9):=Any.strings_SplitN Tryz.lays147 (by kernel_rfl) s sep n m w hs hm h1 hn hn63
end Go.Proofs
namespace Go.Proofs.YthbgjfegalcenaaGreatDoor
open Int renaming toNat_natCast→aW6,tmod→aXm
open List renaming length_append→aW7,length_cons→aW9,length_nil→aXa,length_take→aXc,getD_eq_getElem?_getD→aXe,length_drop→aXf,getElem?_eq_getElem→aXg,getElem?_eq_some_iff→aXh,range→aXj,mem_map→aXk,all_eq_true→aXl,take_length→aXn,mem_singleton→aXo,mem_iff_getElem?→aXq,mem_cons→aXr
open Nat renaming le_of_ble_eq_true→aW8,zero_le→aXd,le_refl→aXi,add_mul→aXp
open Bool renaming and_eq_true→aXb
open Go Go.Ab Go.RowKit
set_option linter.unusedVariables false
set_option linter.unusedSimpArgs false
set_option maxRecDepth 9000
theorem dn (n:Nat) (hn:n≤1000000):Ab.Spec Tryz.prog 90 1 [(.t 0,.v (I n))] [(.t 0,.v (Dv (.s (jZ n))))]:=aL4 ⟨Tryz.f90,Tryz.func90,by kernel_rfl,by kernel_rfl⟩ n hn fun w ht=>Tryz.strconv_Itoa n (by omega) (by omega) w ht
theorem aAu (s:List UInt8) (hs:s.length≤1000000):Sp 149 2 [tD 0 (.s s),tD 1 (.s [32])] [tV 0 (.tup [.c (.d (.s (bH s))),.c (.d (.s (aO s))),.c (.d (.b (fX s)))])]:=by
 refine aO4 ⟨Tryz.f149,Tryz.func149,by kernel_rfl,by kernel_rfl⟩ s hs fun w hg=> ?_
 obtain⟨m,hm⟩:=ow hg (g:=1) (by kernel_rfl)
 exact Tryz.strings_Cut ⟨s.toArray⟩ ⟨#[32]⟩ m w (show s.toArray.size<4294967281 by simp;omega) hm
theorem tn (s:List UInt8) (hs:s.length≤1000000):Sp 154 2 [tD 0 (.s s),tD 1 (.s [32])] [tD 0 (.sl (bB (dG s)))]:=by
 refine aIq (e:=9) ⟨Tryz.f154,Tryz.func154,by kernel_rfl,by kernel_rfl⟩ s hs fun w hg=> ?_
 obtain⟨m,hm⟩:=ow hg (g:=1) (by kernel_rfl)
 exact Tryz.strings_Split ⟨s.toArray⟩ ⟨#[32]⟩ m w (show s.toArray.size<4294967281 by simp;omega) hm (show 1≤1 by omega)
theorem qc (s:List UInt8) (hs:s.length≤1000000):Sp 183 3 [tD 0 (.s s),tD 1 (.s [32]),tI 2 5] [tD 0 (.sl (bB (iU 4 s)))]:=by
 refine aF3 (e:=9) ⟨Tryz.f183,Tryz.func183,by kernel_rfl,by kernel_rfl⟩ 4 s hs (by omega) fun w hg=> ?_
 obtain⟨m,hm⟩:=ow hg (g:=1) (by kernel_rfl)
 exact Tryz.strings_SplitN ⟨s.toArray⟩ ⟨#[32]⟩ 5 m w (show s.toArray.size<4294967281 by simp;omega) hm (show 1≤1 by omega) (by omega) (by omega)
theorem aCt (s:List UInt8) (hl:s.length≤140737488355328):Ab.Spec Tryz.prog 72 1 [(.t 0,.v (Dv (.s s)))] [(.t 0,.v (.tup [.c (.d (.i (jB s))),.c (.d (.b (jP s).isSome))]))]:=dm s hl
theorem uR (n:Int) (h:0≤n∧n≤1000000):Sp 90 1 [tI 0 n] [tD 0 (.s (jZ n.toNat))]:=by
 obtain⟨m,rfl⟩:=Int.eq_ofNat_of_zero_le h.1
 exact dn m (by omega)
theorem kP (n:Int) (h:0≤n∧n≤1000000):Sp 97 1 [tI 0 n] [tD 0 (.s (jZ n.toNat))]:=by
 obtain⟨m,rfl⟩:=Int.eq_ofNat_of_zero_le h.1
 exact uP m (by omega)
theorem bm (l:List (List UInt8)) (hl:l.length≤1000000) (hx: ∀x∈l,x.length≤1000000):Sp 153 1 [tD 0 (.sl (bB l))] [tV 0 (.tup [.c (.d (.sl (cZ (kU l)))),.c (.d (.b (iQ l)))])]:=by
 refine sb Tryz.func153 rfl (sq (rT [0] (s2 (sq (rT [0,4] (s1 (sq (sq (rT [4,9,10,11] (s3 (bk (SW.nilOwn 4 8 3 1 rfl rfl (SW.loopW (n:=l.length) (fun m q=> ∃i:Nat,m=l.length - i∧i≤l.length∧(∀j,j<i→(jP (l.getD j [])).isSome=true)∧q=[tO 4 8 (i),tD 9 (.sl (bB l)),tI 10 (l.length:Nat),tI 11 (i:Nat),oR 8 3 1 (cZ ((l.take (i)).map jB))]) ?_ ?_)))))))))))))
 · refine wq (σ':=[tO 4 8 (0),tD 9 (.sl (bB l)),tI 10 (l.length:Nat),tI 11 (0:Nat),oR 8 3 1 (cZ ((l.take (0)).map jB))]) [] [] (⟨0,rfl,aXd _,fun j h=>absurd h (by omega),rfl⟩) ?_
   repeat' apply ai
   all_goals first|exact qx|rfl|(rw[aL];done)|(simp[aL];done)|exact qz
 rintro n s ⟨i,rfl,hi,hk,rfl⟩
 refine sq (rT [4,9,10,11,12] (s1 (sq (cd rfl (fun c12=> ?_) fun c12=> ?_))))
 · have hi2:i<l.length:=by simpa using c12
   have hg:=fV (l:=l) hi2
   refine sk (sq (bk (sq (rT [4,6,9,10,11] (ai (by rw[aW6,hg];exact⟨⟨by omega,by rw[aL];omega⟩,rfl⟩) (ai (by rw[aW6,hg];exact⟨aW8 rfl,rfl⟩) (s1 (sq (wa [tO 4 8 (i),tD 6 (.s (l.getD i [])),tD 9 (.sl (bB l)),tI 10 (l.length:Nat),tI 11 (i:Nat),oR 8 3 1 (cZ ((l.take (i)).map jB))] [] [] ?_ ?_)))))))))
   · repeat' apply ai
     all_goals first|exact qx|(rw[aW6,hg];rfl)|exact qz
   refine rT [4,7,8,9,10,11] (s1 (xp (aCt (l.getD i []) (by have:=hx _ (dB (z:=[]) hi2);omega)) (ai rfl ?_)))
   refine s5 (sq (sq (rT [4,7,9,10,11,21] (s2 (cd rfl (fun c21=> ?_) fun c21=> ?_)))))
   · refine sq (rT [2,3] (s2 (rt ?_)))
     have hno:=aL7 hi2 (by simpa using c21)
     exact eA _ [] [] rfl ⟨⟨_,rfl,congrArg D.sl (show cZ (kU l)=[] by rw[kU,hno];rfl),congrArg D.b hno.symm,trivial⟩,trivial⟩ rfl rfl
   refine sk (rT [4,9,10,11] (s2 (ai (by exact⟨by simp,aW8 rfl⟩) (ai (by refine⟨rfl,by rw[cH,List.length_map,aXc];omega,by simp,?_⟩;show(_+1)*8≤_;omega) (s1 (rT [4,9,10,11] (s2 ?_)))))))
   have hs: (jP (l.getD i [])).isSome=true:=by simpa using c21
   refine wq [] [] (⟨l.length - (i+1),by omega,i+1,rfl,by omega,fun j h=>by by_cases e:j=i;exact e▸hs;exact hk j (by omega),rfl⟩) ?_
   repeat' apply ai
   all_goals first|exact qx|rfl|(rw[aAg hi2];exact oJ _ _)|(exact congrArg D.i (by rw[aB (by omega)];omega))|(simp[cH,aXc];omega)|exact qz
 have hi3:i=l.length:=by simp at c12;omega
 refine xt (sq (rT [2,3] (s3 (rt ?_))))
 have hyes:=aIs (hi3▸hk)
 exact eA _ [] [8] rfl ⟨⟨_,rfl,⟨by simp,_,_,_,rfl,by rw[cH,List.length_map,aXc];omega,.inl (congrArg D.sl (by rw[kU,if_pos hyes,hi3,aXn]))⟩,congrArg D.b hyes.symm,trivial⟩,trivial⟩ rfl rfl
theorem gn (s:List UInt8) (hl:s.length≤1000000):Sp 189 1 [tD 0 (.s s)] [tV 0 (.tup [.c (.d (.s (bH s))),.c (.d (.s (aO s)))])]:=by
 refine sb Tryz.func189 rfl (sq (rT [0] (s2 (sq (sq (rT [0,4] (s1 (bk (SW.loopW (n:=s.length) (fun m q=> ∃i:Nat,m=s.length - i∧i≤s.length∧(∀j,j<i→s.getD j 0≠32)∧q=[tD 0 (.s s),tI 4 (i:Nat)]) ?_ ?_)))))))))
 · exact wq (σ':=[tD 0 (.s s),tI 4 (0:Nat)]) [] [] (⟨0,rfl,aXd _,fun j h=>absurd h (by omega),rfl⟩) qz
 rintro n s ⟨i,rfl,hi,hk,rfl⟩
 refine sq (sq (rT [0,4,8] (s4 (cd rfl (fun c8=> ?_) fun c8=> ?_))))
 · have hi2:i<s.length:=by simpa using c8
   refine sk (sq (bk (sq (rT [0,4,14] (s2 (ai (by exact⟨by omega,by omega⟩) (s1 (cd rfl (fun c14=> ?_) fun c14=> ?_))))))))
   · have h32:s.getD i 0=32:=by
      have h9:=c14
      rw[aW6] at h9
      have h10: ((s.getD i 0).toNat:Int)=32:=by simpa only[beq_iff_eq] using h9
      apply UInt8.toNat_inj.1
      have h6: (32:UInt8).toNat=32:=rfl
      omega
     obtain⟨e1,e2,e3⟩:=aO6 hk hi2 h32
     refine sq (rD [2,3] (s2 (ai (by simp[te,fE,gH];omega) (s3 (ai (by rw[aB (by omega)];simp[te,fE,gH];omega) (s2 (ai (by kernel_rfl) (rt (bG rfl rfl ?_)))))))))
     rw[e1,e2,aB (by omega)]
     simp[fE,gH]
   refine sk (rT [0,4] (s3 ?_))
   have hs:s.getD i 0≠32:=by
    have h9:=c14
    rw[aW6] at h9
    intro e
    rw[e] at h9
    exact absurd h9 (by decide)
   refine wq [] [] (⟨s.length - (i+1),by omega,i+1,rfl,by omega,fun j h=>by by_cases e:j=i;exact e▸hs;exact hk j (by omega),rfl⟩) ?_
   repeat' apply ai
   all_goals first|exact qx|exact congrArg D.i (aB (by omega))|exact qz
 have hi3:i=s.length:=by simp at c8;omega
 refine xt (sq (rT [2,3] (s3 (rt ?_))))
 obtain⟨e1,e2,e3⟩:=aL6 (hi3▸hk)
 refine bG rfl rfl ?_
 rw[e1,e2]
 rfl
theorem go (s:List UInt8) (n:Nat) (hl:s.length≤1000000) (hn:n≤100):Sp 194 2 [tD 0 (.s s),tI 1 (n:Nat)] [tV 0 (.tup [.c (.d (.sl (cZ (fD n s)))),.c (.d (.s (mW n s)))])]:=by
 refine sb Tryz.func194 rfl (sq (rT [0,1] (s2 (sq (rT [0,1,6] (ai (by exact⟨by simp,aW8 rfl⟩) (s1 (sq (sq (rT [0,1,6,7] (s1 (bk (SW.loopW (n:=n) (fun m q=> ∃i:Nat,m=n - i∧i≤n∧q=[tD 0 (.s (mW (i) s)),tI 1 (n:Nat),tO 6 10 (i),tI 7 (i:Nat),oR 10 3 1 (cZ (fD (i) s))]) ?_ ?_)))))))))))))
 · refine wq (σ':=[tD 0 (.s (mW (0) s)),tI 1 (n:Nat),tO 6 10 (0),tI 7 (0:Nat),oR 10 3 1 (cZ (fD (0) s))]) [] [] (⟨0,rfl,aXd _,rfl⟩) ?_
   repeat' apply ai
   all_goals first|exact qx|rfl|exact qz
 rintro n s ⟨i,rfl,hi,rfl⟩
 refine sq (sq (rT [0,1,6,7,13] (s3 (cd rfl (fun c13=> ?_) fun c13=> ?_))))
 · have hi2:i<n:=by simpa using c13
   have hr:=wm i s
   have hr2:=eu (mW i s)
   refine sk (sq (bk (sq (rT [1,6,7,8,9] (s1 (xp (gn (mW i s) (by omega)) (ai rfl ?_)))))))
   refine s5 (sq (rT [1,6,7,9] (s2 (xp (uQ (bH (mW i s)) (by omega)) (ai rfl ?_)))))
   refine ai (by exact⟨by simp,aW8 rfl⟩) (ai (by refine⟨rfl,by rw[cH,bP],by simp,?_⟩;show(_+1)*8≤_;omega) (s1 (rT [0,1,6,7] (s2 (rT [0,1,6,7] (s3 (wq [] [] (⟨n - (i+1),by omega,i+1,rfl,by omega,rfl⟩) ?_)))))))
   repeat' apply ai
   all_goals first|exact qx|rfl|(rw[aIr];exact oJ _ _)|(exact congrArg D.i (by rw[aB (by omega)];omega))|(simp[cH,bP];done)|exact qz
 have hi3:i=n:=by simp at c13;omega
 refine xt (sq (rT [4,5] (s4 (rt ?_))))
 subst hi3
 exact eA _ [] [10] rfl ⟨⟨_,rfl,⟨by simp,_,_,_,rfl,by rw[cH,bP],.inl rfl⟩,rfl,trivial⟩,trivial⟩ rfl rfl
theorem lX (n:bA) (hl:n.text.length≤140737488355328):Sp 57 1 [tV 0 n.V] [tD 0 (.s (fZ n))]:=by
 refine sb Tryz.func57 rfl (sq (rT [1] (s2 (sq (sq (rT [1,5] (s1 (xp (sU _ vc) (ai rfl ?_)))))))))
 refine s1 (cd rfl (fun c5=> ?_) fun c5=> ?_)
 · refine sq (rT [2] (s1 (rt (bN rfl (congrArg D.s ?_)))))
   have hno:eL n=false:=by simpa using c5
   rw[fZ,hno];rfl
 have hok:eL n=true:=by simpa using c5
 obtain⟨p1,p2,p3,p4,p5⟩:=mH hok
 have q1:=bS (k:=3) (n:=n.frm.toNat) (by simp;omega)
 have q2:=bS (k:=3) (n:=n.num.toNat) (by simp;omega)
 have q3:=bS (k:=3) (n:=n.to.toNat) (by simp;omega)
 have q4:=bS (k:=3) (n:=n.til.toNat) (by simp;omega)
 refine sk (sq (rD [2] (s2 (xp (uR n.frm (by omega)) (ai rfl ?_)))))
 refine ai (by show _≤9223372036854775807;simp only[aW7,aW9,aXa];omega) (s2 (xp (uR n.num (by omega)) (ai rfl ?_)))
 refine ai (by show _≤9223372036854775807;simp only[aW7,aW9,aXa];omega) (ai (by show _≤9223372036854775807;simp only[aW7,aW9,aXa];omega) (s2 (xp (uR n.to (by omega)) (ai rfl ?_))))
 refine ai (by show _≤9223372036854775807;simp only[aW7,aW9,aXa];omega) (ai (by show _≤9223372036854775807;simp only[aW7,aW9,aXa];omega) (s2 (xp (uR n.til (by omega)) (ai rfl ?_))))
 refine ai (by show _≤9223372036854775807;simp only[aW7,aW9,aXa];omega) (ai (by show _≤9223372036854775807;simp only[aW7,aW9,aXa];omega) (s2 (ai (by show _≤9223372036854775807;simp only[aW7,aW9,aXa];omega) (s1 (ai (by kernel_rfl) (rt (bN rfl (congrArg D.s ?_))))))))
 rw[fZ,if_pos hok];rfl
theorem kK (n:bA) (hl:n.text.length≤140737488355328):Sp 93 1 [tV 0 n.V] [tD 0 (.s (fZ n))]:=by
 refine sb Tryz.func93 rfl (sq (rT [1] (s2 (sq (sq (rT [1,5] (s1 (xp (xK _ vc) (ai rfl ?_)))))))))
 refine s1 (cd rfl (fun c5=> ?_) fun c5=> ?_)
 · refine sq (rT [2] (s1 (rt (bN rfl (congrArg D.s ?_)))))
   have hno:eL n=false:=by simpa using c5
   rw[fZ,hno];rfl
 have hok:eL n=true:=by simpa using c5
 obtain⟨p1,p2,p3,p4,p5⟩:=mH hok
 have q1:=bS (k:=3) (n:=n.frm.toNat) (by simp;omega)
 have q2:=bS (k:=3) (n:=n.num.toNat) (by simp;omega)
 have q3:=bS (k:=3) (n:=n.to.toNat) (by simp;omega)
 have q4:=bS (k:=3) (n:=n.til.toNat) (by simp;omega)
 refine sk (sq (rD [2] (s2 (xp (kP n.frm (by omega)) (ai rfl ?_)))))
 refine ai (by show _≤9223372036854775807;simp only[aW7,aW9,aXa];omega) (s2 (xp (kP n.num (by omega)) (ai rfl ?_)))
 refine ai (by show _≤9223372036854775807;simp only[aW7,aW9,aXa];omega) (ai (by show _≤9223372036854775807;simp only[aW7,aW9,aXa];omega) (s2 (xp (kP n.to (by omega)) (ai rfl ?_))))
 refine ai (by show _≤9223372036854775807;simp only[aW7,aW9,aXa];omega) (ai (by show _≤9223372036854775807;simp only[aW7,aW9,aXa];omega) (s2 (xp (kP n.til (by omega)) (ai rfl ?_))))
 refine ai (by show _≤9223372036854775807;simp only[aW7,aW9,aXa];omega) (ai (by show _≤9223372036854775807;simp only[aW7,aW9,aXa];omega) (s2 (ai (by show _≤9223372036854775807;simp only[aW7,aW9,aXa];omega) (s1 (ai (by kernel_rfl) (rt (bN rfl (congrArg D.s ?_))))))))
 rw[fZ,if_pos hok];rfl
set_option maxHeartbeats 1600000 in
theorem tp (s:List UInt8) (hl:s.length≤1000000):Sp 151 1 [tD 0 (.s s)] [tV 0 (.tup [.agg [.d (.i ((eB s).1).frm),.d (.i ((eB s).1).num),.d (.i ((eB s).1).to),.d (.i ((eB s).1).til),.d (.s ((eB s).1).text)],.c (.d (.b (eB s).2))])]:=by
 refine sb Tryz.func151 rfl (sq (rT [0,2] (s2 (sq (rT [0,2,4] (s1 (xp (qc s hl) (ai rfl ?_))))))))
 refine s1 (sq (sq (rT [0,2,4,12] (s3 (cd rfl (fun c12=> ?_) fun c12=> ?_)))))
 · refine sq (rT [2,3] (s3 (rt (bG rfl rfl ?_))))
   rw[wn (.inl (by simp[aL] at c12;omega))]
   rfl
 have h5: (iU 4 s).length=5:=by simp[aL] at c12;omega
 refine sk (sq (rT [0,2,4,5,6] (s1 (ai (by refine⟨?_,zG _⟩;rw[aL,h5];simp[te,fE,gH]) (xp (bm ((iU 4 s).take 4) (by rw[aXc];omega) (fun x hx=>by have:=ld 4 s x (List.mem_of_mem_take hx);omega)) (ai (by show _=eV 0 [Dv (.sl (List.drop 0 (List.take 4 (bB (iU 4 s)))))];rw[List.drop_zero,aDt];rfl) ?_))))))
 refine s5 (sq (sq (rT [0,2,4,5,21] (s2 (cd rfl (fun c21=> ?_) fun c21=> ?_)))))
 · refine sq (rT [2,3] (s3 (rt (bG rfl rfl ?_))))
   rw[wn (.inr (.inl (by simpa using c21)))]
   rfl
 have hok:iQ ((iU 4 s).take 4)=true:=by simpa using c21
 refine sk (sq (rD [0,2,7] (s1 (ai (by exact kw (l:=kU ((iU 4 s).take 4)) (by omega) (by rw[iH hok,aXc];omega)) (ai (by have:=iR (l:=kU ((iU 4 s).take 4)) (i:=0) (by rw[iH hok,aXc];omega);first|(rw[show((0:Int)).toNat=((0:Nat):Int).toNat from rfl,this];exact⟨aW8 rfl,rfl⟩)) (s1 (ai (by exact kw (l:=kU ((iU 4 s).take 4)) (by omega) (by rw[iH hok,aXc];omega)) (ai (by have:=iR (l:=kU ((iU 4 s).take 4)) (i:=1) (by rw[iH hok,aXc];omega);first|(rw[show((1:Int)).toNat=((1:Nat):Int).toNat from rfl,this];exact⟨aW8 rfl,rfl⟩)) (s1 (ai (by exact kw (l:=kU ((iU 4 s).take 4)) (by omega) (by rw[iH hok,aXc];omega)) (ai (by have:=iR (l:=kU ((iU 4 s).take 4)) (i:=2) (by rw[iH hok,aXc];omega);first|(rw[show((2:Int)).toNat=((2:Nat):Int).toNat from rfl,this];exact⟨aW8 rfl,rfl⟩)) (s1 (ai (by exact kw (l:=kU ((iU 4 s).take 4)) (by omega) (by rw[iH hok,aXc];omega)) (ai (by have:=iR (l:=kU ((iU 4 s).take 4)) (i:=3) (by rw[iH hok,aXc];omega);first|(rw[show((3:Int)).toNat=((3:Nat):Int).toNat from rfl,this];exact⟨aW8 rfl,rfl⟩)) (s1 (ai (by exact ixS (l:=iU 4 s) (by omega) (by omega)) (ai (by exact ldS (l:=iU 4 s) (by omega) (by omega)) (s3 (ai (by kernel_rfl) (sq (sq (SW.wk (J:=fun q=>q=[tD 0 (.s s),tP 2 2,tP 7 7,oB 2 58 [.d (.i 0),.d (.i 0),.d (.i 0),.d (.i 0),.d (.s [])],oB 7 58 [.d (.i (pB s).frm),.d (.i (pB s).num),.d (.i (pB s).to),.d (.i (pB s).til),.d (.s (pB s).text)]]) ?_ ?_))))))))))))))))))))))
 · refine wq [] [] (rfl) ?_
   repeat' apply ai
   all_goals first|exact qx|exact congrArg D.i (aDu hok h5 (i:=0) (by omega))|exact congrArg D.i (aDu hok h5 (i:=1) (by omega))|exact congrArg D.i (aDu hok h5 (i:=2) (by omega))|exact congrArg D.i (aDu hok h5 (i:=3) (by omega))|exact congrArg D.s (aRi (l:=iU 4 s) (j:=4) (by omega) (by omega))|exact qz
 rintro q rfl
 refine rT [2,7,47] (s1 (xp (sU (pB s) (by have:=ld 4 s _ (dB (z:=[]) (show 4< (iU 4 s).length by omega));show((iU 4 s).getD 4 []).length≤_;omega)) (ai rfl ?_)))
 refine s2 (y1 (xc (fun h=>(lX (pB s) (by have:=ld 4 s _ (dB (z:=[]) (show 4< (iU 4 s).length by omega));show((iU 4 s).getD 4 []).length≤_;omega))) (ai rfl (ai rk ?_))))
 refine y2 (ai pk (cd rfl (fun c47=> ?_) fun c47=> ?_))
 · refine sq (rT [2,3] (s3 (rt (bG rfl rfl ?_))))
   rw[wn (.inr (.inr (by cases h:eL (pB s) with|false=>exact .inl rfl|true=>rw[h] at c47;exact .inr (by simpa using c47))))]
   rfl
 refine sk (sq (rT [2,3] (s3 (rt ?_))))
 have h6:eL (pB s)=true∧fZ (pB s)=s:=by simpa using c47
 refine bG rfl rfl ?_
 rw[aL8 h5 hok h6.1 h6.2]
 rfl
set_option maxHeartbeats 1600000 in
theorem tU (s:List UInt8) (hl:s.length≤1000000):Sp 191 1 [tD 0 (.s s)] [tV 0 (.tup [.agg [.d (.i ((eB s).1).frm),.d (.i ((eB s).1).num),.d (.i ((eB s).1).to),.d (.i ((eB s).1).til),.d (.s ((eB s).1).text)],.c (.d (.b (eB s).2))])]:=by
 refine sb Tryz.func191 rfl (sq (rT [0,2] (s2 (sq (rT [0,2,4,5] (s1 (xp (go s 4 hl (by omega)) (ai rfl ?_))))))))
 refine s5 (sq (rD [0,2,6] (s1 (ai (by exact kw (l:=fD 4 s) (by omega) (by rw[bP];omega)) (ai (by have:=iR (l:=fD 4 s) (i:=0) (by rw[bP];omega);first|(rw[show((0:Int)).toNat=((0:Nat):Int).toNat from rfl,this];exact⟨aW8 rfl,rfl⟩)) (s1 (ai (by exact kw (l:=fD 4 s) (by omega) (by rw[bP];omega)) (ai (by have:=iR (l:=fD 4 s) (i:=1) (by rw[bP];omega);first|(rw[show((1:Int)).toNat=((1:Nat):Int).toNat from rfl,this];exact⟨aW8 rfl,rfl⟩)) (s1 (ai (by exact kw (l:=fD 4 s) (by omega) (by rw[bP];omega)) (ai (by have:=iR (l:=fD 4 s) (i:=2) (by rw[bP];omega);first|(rw[show((2:Int)).toNat=((2:Nat):Int).toNat from rfl,this];exact⟨aW8 rfl,rfl⟩)) (s1 (ai (by exact kw (l:=fD 4 s) (by omega) (by rw[bP];omega)) (ai (by have:=iR (l:=fD 4 s) (i:=3) (by rw[bP];omega);first|(rw[show((3:Int)).toNat=((3:Nat):Int).toNat from rfl,this];exact⟨aW8 rfl,rfl⟩)) (s4 (ai (by kernel_rfl) (sq (sq (SW.wk (J:=fun q=>q=[tD 0 (.s s),tP 2 2,tP 6 6,oB 2 58 [.d (.i 0),.d (.i 0),.d (.i 0),.d (.i 0),.d (.s [])],oB 6 58 [.d (.i (cu s).frm),.d (.i (cu s).num),.d (.i (cu s).to),.d (.i (cu s).til),.d (.s (cu s).text)]]) ?_ ?_)))))))))))))))))))
 · refine wq [] [] (rfl) ?_
   repeat' apply ai
   all_goals first|exact qx|exact congrArg D.i (uh (i:=0) (by omega))|exact congrArg D.i (uh (i:=1) (by omega))|exact congrArg D.i (uh (i:=2) (by omega))|exact congrArg D.i (uh (i:=3) (by omega))|rfl|exact qz
 rintro q rfl
 refine rT [2,6,33] (s3 (y1 (xc (fun h=>(kK (cu s) (by have:=wm 4 s;show(mW 4 s).length≤_;omega))) (ai rfl (ai rk ?_)))))
 refine y2 (ai pk (cd rfl (fun c33=> ?_) fun c33=> ?_))
 · refine sq (rT [2,3] (s3 (rt (bG rfl rfl ?_))))
   have hno:eB s=(.zero,false):=by
    rw[eB,if_pos]
    by_cases h:s=[]
    · exact .inl h
    · rw[show(s==[])=false by simpa using h] at c33;exact .inr (by simpa using c33)
   rw[hno]
   rfl
 refine sk (sq (rT [2,3] (s3 (rt (bG rfl rfl ?_)))))
 have hyes:eB s=(cu s,true):=by
  rw[eB,if_neg]
  rintro(h|h)
  · subst h;simp at c33
  · by_cases h2:s=[]
    · subst h2;simp at c33
    · rw[show(s==[])=false by simpa using h2] at c33;exact h (by simpa using c33)
 rw[hyes]
 rfl
theorem dp (l:List bA) (hl:l.length≤1000000):Sp 156 1 [tD 0 (.sl (aE l))] [tD 0 (.sl (aE l))]:=by
 refine sb Tryz.func156 rfl (sq (rT [0] (s1 (sq (sq (rT [0,6] (s3 (cd rfl (fun c6=> ?_) fun c6=> ?_))))))))
 · refine sq (rT [2] (s1 (rt (eA _ [] [] rfl (kj rfl (congrArg D.sl ?_) trivial) rfl rfl))))
   simp[aC] at c6;simp[c6,aE]
 refine sk (sq (rT [0,3] (s2 (ai (by refine⟨rfl,by omega,?_⟩;rw[aC];show((48:Nat):Int)*_≤_;omega) (s1 (sq (rT [3] (s2 (ai (by refine⟨trivial,by simp,gD l⟩) (sq (rT [2] (s2 (rt (eA _ [] [9] rfl (eW rfl rfl rfl ?_ (congrArg D.sl ?_) trivial) rfl rfl))))))))))))))
 · simp
 simp
theorem yx (l:List cA) (hl:l.length≤1000000):Sp 157 1 [tD 0 (.sl (aP l))] [tD 0 (.sl (aP l))]:=by
 refine sb Tryz.func157 rfl (sq (rT [0] (s1 (sq (sq (rT [0,6] (s3 (cd rfl (fun c6=> ?_) fun c6=> ?_))))))))
 · refine sq (rT [2] (s1 (rt (eA _ [] [] rfl (kj rfl (congrArg D.sl ?_) trivial) rfl rfl))))
   simp[aN] at c6;simp[c6,aP]
 refine sk (sq (rT [0,3] (s2 (ai (by refine⟨rfl,by omega,?_⟩;rw[aN];show((24:Nat):Int)*_≤_;omega) (s1 (sq (rT [3] (s2 (ai (by refine⟨trivial,by simp,lN l⟩) (sq (rT [2] (s2 (rt (eA _ [] [9] rfl (eW rfl rfl rfl ?_ (congrArg D.sl ?_) trivial) rfl rfl))))))))))))))
 · simp
 simp
theorem tW (k:bC) (hb:k.held.length≤1000000∧k.marks.length≤1000000∧k.inbox.length≤1000000):Sp 112 1 [tV 0 k.V] [tV 0 k.V]:=by
 refine sb Tryz.func112 rfl (sq (rT [1,2] (s2 (sq (rT [1,2,3] (s3 (sq (rT [1,2,3] (s2 (xp (dp k.held hb.1) (ai rfl ?_)))))))))))
 refine s2 (sq (rT [1,2,3] (s2 (xp (yx k.marks hb.2.1) (ai rfl ?_)))))
 refine s2 (sq (rT [2,3] (s2 (xp (dp k.inbox hb.2.2) (ai rfl ?_)))))
 exact s2 (sq (rT [2] (s2 (rt (bG rfl rfl rfl)))))
theorem vT (k:bC) (hb:k.held.length≤1000000∧k.marks.length≤1000000∧k.inbox.length≤1000000):Sp 161 1 [tV 0 k.V] [tV 0 k.V]:=by
 refine sb Tryz.func161 rfl (sq (rT [1,2] (s2 (sq (rT [1,2] (ai (by simp) (s2 (ai (by refine⟨trivial,rfl,?_,?_⟩<;>first|exact gD _|exact lN _|(simp only[aC,aN,aXa,Nat.zero_add];show _*48≤_;omega)) (s2 (sq (rT [1,2] (ai (by simp) (s2 (ai (by refine⟨trivial,rfl,?_,?_⟩<;>first|exact gD _|exact lN _|(simp only[aC,aN,aXa,Nat.zero_add];show _*24≤_;omega)) (s2 (sq (rT [1,2] (ai (by simp) (s2 (ai (by refine⟨trivial,rfl,?_,?_⟩<;>first|exact gD _|exact lN _|(simp only[aC,aN,aXa,Nat.zero_add];show _*48≤_;omega)) (s2 (sq (rT [2] (s2 (rt (rq [] [3,8,13] rfl ?_))))))))))))))))))))))))))
 repeat' apply ai
 all_goals try exact qx
 all_goals(first|with_reducible rfl|(simp;done))
set_option maxHeartbeats 800000 in
theorem sW (l:List bA) (n:bA) (hl:l.length≤100000):Sp 185 2 [tD 0 (.sl (aE l)),tV 1 n.V] [tD 0 (.sl (aE (kD l n)))]:=by
 refine sb Tryz.func185 rfl (sq (rT [0,3] (s2 (sq (rT [0,3,5] (s1 (sq (bk (SW.loopW (n:=l.length) (fun m q=> ∃i:Nat,m=l.length - i∧i≤l.length∧(∀j,j<i→cE (l.getD j .zero).frm (l.getD j .zero).num n.frm n.num=true)∧q=[tD 0 (.sl (aE l)),tP 3 3,tI 5 (i:Nat),oB 3 58 [.d (.i (n).frm),.d (.i (n).num),.d (.i (n).to),.d (.i (n).til),.d (.s (n).text)]]) ?_ ?_)))))))))
 · exact wq (σ':=[tD 0 (.sl (aE l)),tP 3 3,tI 5 (0:Nat),oB 3 58 [.d (.i (n).frm),.d (.i (n).num),.d (.i (n).to),.d (.i (n).til),.d (.s (n).text)]]) [] [] (⟨0,rfl,aXd _,fun j h=>absurd h (by omega),rfl⟩) qz
 rintro n s ⟨i,rfl,hi,hk,rfl⟩
 refine sq (sq (rD [0,3,5,26] (s5 (y2 (ai (fun h=>(by have h8:=h;simp[gb,aC] at h8;have h9:i<l.length:=(by omega);rw[aW6,aQ h9];exact⟨⟨by omega,by rw[aC];omega⟩,rfl⟩)) (ai rk (y1 (ai (fun h=>(by have h8:=h;simp[gb,aC] at h8;have h9:i<l.length:=(by omega);rw[aW6,aQ h9];exact⟨aW8 rfl,rfl⟩)) (ai rk (y2 (ai (fun h=>(by have h8:=h;simp[gb,aC] at h8;have h9:i<l.length:=(by omega);rw[aW6,aQ h9];exact⟨⟨by omega,by rw[aC];omega⟩,rfl⟩)) (ai rk (y1 (ai (fun h=>(by have h8:=h;simp[gb,aC] at h8;have h9:i<l.length:=(by omega);rw[aW6,aQ h9];exact⟨aW8 rfl,rfl⟩)) (ai rk (y4 (xc (fun h=>(sT _ _ _ _)) (ai rfl (ai rk ?_)))))))))))))))))))
 refine ai pk (ai (by kernel_rfl) (cd rfl (fun c26=> ?_) fun c26=> ?_))
 · have h9:=c26
   simp only[aXb,decide_eq_true_eq,aC] at h9
   have hi2:i<l.length:=by omega
   have hb:cE (l.getD i .zero).frm (l.getD i .zero).num n.frm n.num=true:=by
    have h10:=h9.2
    rw[aW6,aQ hi2] at h10
    exact h10
   refine sk (bk (rT [0,3,5] (s3 (wq [] [] (⟨l.length - (i+1),by omega,i+1,rfl,by omega,fun j h=>by by_cases e:j=i;exact e▸hb;exact hk j (by omega),rfl⟩) ?_))))
   repeat' apply ai
   all_goals first|exact qx|exact congrArg D.i (aB (by omega))|exact qz
 have hend:i=l.length∨cE (l.getD i .zero).frm (l.getD i .zero).num n.frm n.num=false:=by
  by_cases h:i<l.length
  · right
    have h9:=c26
    rw[decide_eq_true (show((i:Nat):Int)< ((aE l).length:Int) by rw[aC];omega),Bool.true_and,aW6,aQ h] at h9
    exact h9
  · left;omega
 have hins:kD l n=_:=aKl (z:=bA.zero) (p:=fun x=>cE x.frm x.num n.frm n.num) (n:=n) hi hk hend
 refine xt (sq (rD [4] (ai (by simp) (s2 (ai (by exact⟨by rw[aC];exact⟨by first|(simp;done)|(simp;omega),by first|(simp;done)|(simp;omega),by first|(simp;done)|(simp;omega)⟩,gD _⟩) (ai (by exact⟨by first|trivial|rfl|(simp;done),by first|rfl|(simp[aC];done),by first|exact kF l _ _|(simp;done),by(try simp only[aW7,aW9,aXa,aXc,aXf,aC,jT,jU,jV,jW]);show _*48≤_;omega⟩) (s1 (ai (by exact⟨by simp,aW8 rfl⟩) (ai (by exact⟨by first|trivial|rfl|(simp;done),by first|rfl|(simp[aC];done),by first|exact kF l _ _|(simp;done),by(try simp only[aW7,aW9,aXa,aXc,aXf,aC,jT,jU,jV,jW]);show _*48≤_;omega⟩) (s2 (ai (by exact⟨by rw[aC];exact⟨by first|(simp;done)|(simp;omega),by first|(simp;done)|(simp;omega),by first|(simp;done)|(simp;omega)⟩,gD _⟩) (ai (by exact⟨by first|trivial|rfl|(simp;done),by first|rfl|(simp[aC];done),by first|exact kF l _ _|(simp;done),by(try simp only[aW7,aW9,aXa,aXc,aXf,aC,jT,jU,jV,jW]);show _*48≤_;omega⟩) (s1 (ai (by kernel_rfl) (rt (eA _ [] [29] rfl (eW rfl rfl rfl ?_ (congrArg D.sl ?_) trivial) rfl rfl))))))))))))))))
 · rfl
 rw[hins,vN,zP];simp[aE,List.map_take,List.map_drop,bA.row]
theorem dq (l:List bA) (a:Int) (ha:0≤a∧a<l.length) (hl:l.length≤100000):Sp 187 2 [tD 0 (.sl (aE l)),tI 1 a] [tD 0 (.sl (aE (gK l a.toNat)))]:=by
 obtain⟨i,rfl⟩:=Int.eq_ofNat_of_zero_le ha.1
 have hw:wrap64 ((i:Int)+1)=((i+1:Nat):Int):=by rw[aB (by omega)];omega
 refine sb Tryz.func187 rfl (sq (rT [0,1] (s1 (sq (rD [4] (ai (by simp) (s2 (ai (by exact⟨by rw[aC];exact⟨by first|(simp;done)|(simp;omega),by first|(simp;done)|(simp;omega),by first|(simp;done)|(simp;omega)⟩,gD _⟩) (ai (by exact⟨by first|trivial|rfl|(simp;done),by first|rfl|(simp[aC];done),by first|exact kF l _ _|(simp;done),by(try simp only[aW7,aW9,aXa,aXc,aXf,aC,jT,jU,jV,jW]);show _*48≤_;omega⟩) (s3 (ai (by rw[hw];exact⟨by rw[aC];exact⟨by first|(simp;done)|(simp;omega),by first|(simp;done)|(simp;omega),by first|(simp;done)|(simp;omega)⟩,gD _⟩) (ai (by exact⟨by first|trivial|rfl|(simp;done),by first|rfl|(simp[aC];done),by first|exact kF l _ _|(simp;done),by(try simp only[hw]);(try simp only[aW7,aW9,aXa,aXc,aXf,aC,jT,jU,jV,jW]);show _*48≤_;omega⟩) (s1 (ai (by kernel_rfl) (rt (eA _ [] [5] rfl (eW rfl rfl rfl ?_ (congrArg D.sl ?_) trivial) rfl rfl))))))))))))))))
 · rfl
 rw[hw,vN,zP];simp[aE,gK,List.map_take,List.map_drop]
theorem ar {l:List bA} {i:Nat} {n:bA}: (aE (midW (fun x:bA=>cE n.frm n.num x.frm x.num) n (l.take i))).length≤l.length+1:=by
 rw[aC,midW]
 split
 · rw[fR,aXc];omega
 rw[aXc];omega
set_option maxHeartbeats 800000 in
theorem nN (l:List bA) (n:bA) (hl:l.length≤100000):Sp 193 2 [tD 0 (.sl (aE l)),tV 1 n.V] [tD 0 (.sl (aE (kE l n)))]:=by
 refine sb Tryz.func193 rfl (sq (rT [0,3] (s2 (sq (rT [0,3,5] (ai (by simp) (s1 (sq (rT [0,3,5,6] (s1 (sq (sq (rT [0,3,5,6,7] (s1 (bk (SW.loopW (n:=l.length) (fun m q=> ∃i:Nat,m=l.length - i∧i≤l.length∧q=[tD 0 (.sl (aE l)),tP 3 3,tO 5 8 (aE (midW (fun x:bA=>cE n.frm n.num x.frm x.num) n (l.take i))).length,tB 6 ((l.take i).any (fun x:bA=>cE n.frm n.num x.frm x.num)),tI 7 (i:Nat),oB 3 58 [.d (.i (n).frm),.d (.i (n).num),.d (.i (n).to),.d (.i (n).til),.d (.s (n).text)],oR 8 58 5 (aE (midW (fun x:bA=>cE n.frm n.num x.frm x.num) n (l.take i)))]) ?_ ?_))))))))))))))))
 · refine wq (σ':=[tD 0 (.sl (aE l)),tP 3 3,tO 5 8 (aE (midW (fun x:bA=>cE n.frm n.num x.frm x.num) n (l.take 0))).length,tB 6 ((l.take 0).any (fun x:bA=>cE n.frm n.num x.frm x.num)),tI 7 (0:Nat),oB 3 58 [.d (.i (n).frm),.d (.i (n).num),.d (.i (n).to),.d (.i (n).til),.d (.s (n).text)],oR 8 58 5 (aE (midW (fun x:bA=>cE n.frm n.num x.frm x.num) n (l.take 0)))]) [] [] (⟨0,rfl,aXd _,rfl⟩) ?_
   repeat' apply ai
   all_goals first|exact qx|rfl|(simp[midW];done)|exact qz
 rintro n s ⟨i,rfl,hi,rfl⟩
 refine sq (sq (rT [0,3,5,6,7,12] (s4 (cd rfl (fun c12=> ?_) fun c12=> ?_))))
 · have hi2:i<l.length:=by simpa[aC] using c12
   have hg:=aQ (l:=l) hi2
   refine sk (sq (bk (sq (sq (rD [0,3,5,6,7,33] (s3 (y4 (y2 (ai (fun h=>(by have h9:=hi2;rw[aW6,aQ h9];exact⟨⟨by omega,by rw[aC];omega⟩,rfl⟩)) (ai rk (y1 (ai (fun h=>(by have h9:=hi2;rw[aW6,aQ h9];exact⟨aW8 rfl,rfl⟩)) (ai rk (y2 (ai (fun h=>(by have h9:=hi2;rw[aW6,aQ h9];exact⟨⟨by omega,by rw[aC];omega⟩,rfl⟩)) (ai rk (y1 (ai (fun h=>(by have h9:=hi2;rw[aW6,aQ h9];exact⟨aW8 rfl,rfl⟩)) (ai rk (xc (fun h=>(rG _ _ _ _)) (ai rfl (ai rk ?_))))))))))))))))))))))
   refine ai pk (ai (by kernel_rfl) (cd rfl (fun c33=> ?_) fun c33=> ?_))
   · have h9:=c33
     rw[aW6,hg] at h9
     rw[aXb] at h9
     have hq: (l.take i).any (fun x:bA=>cE n.frm n.num x.frm x.num)=false∧cE n.frm n.num (l.getD i .zero).frm (l.getD i .zero).num=true:=⟨by simpa only[Bool.not_eq_true'] using h9.1,h9.2⟩
     have hm:=aF7 (q:=(fun x:bA=>cE n.frm n.num x.frm x.num)) (n:=n) (x:=l.getD i .zero) hq.1 hq.2
     rw[← eP hi2] at hm
     have ha: (l.take (i+1)).any (fun x:bA=>cE n.frm n.num x.frm x.num)=true:=by rw[eP (z:=bA.zero) hi2,lj,hq.1];exact hq.2
     refine sq (rT [0,3,5,7] (s2 (ai (by exact⟨by simp,aW8 rfl⟩) (ai (by exact⟨by first|trivial|rfl|(simp;done),by first|rfl|(simp;done),by first|(simp;done)|(intro r hr;rw[aXo.1 hr];rfl),by(try simp only[aW7,aW9,aXa]);have hm:=ar (l:=l) (i:=i) (n:=n);show _*48≤_;omega⟩) (s1 (rT [0,3,5,6,7] (s1 (rT [0,3,5,6,7] (s3 (ai (by have h9:=hi2;rw[aW6,aQ h9];exact⟨⟨by omega,by rw[aC];omega⟩,rfl⟩) (ai (by have h9:=hi2;rw[aW6,aQ h9];exact⟨aW8 rfl,rfl⟩) (ai (by exact⟨by simp,aW8 rfl⟩) (ai (by exact⟨by first|trivial|rfl|(simp;done),by first|rfl|(simp;done),by first|(simp;done)|(intro r hr;rw[aXo.1 hr];rfl),by(try simp only[aW7,aW9,aXa]);have hm:=ar (l:=l) (i:=i) (n:=n);show _*48≤_;omega⟩) (s1 (rT [0,3,5,6,7] (s3 (wq [] [] (⟨l.length - (i+1),by omega,i+1,rfl,by omega,rfl⟩) ?_)))))))))))))))))
     repeat' apply ai
     all_goals first|exact qx|exact congrArg D.i (by rw[aB (by omega)];omega)|(rw[ha];done)|exact congrArg D.b ha.symm|(rw[hm];simp[aE,aW6];done)|(rw[hm,aW6,hg];simp only[aE,List.map_append,List.map_cons,List.map_nil];rfl)|exact qz
   have h9:=c33
   rw[aW6,hg] at h9
   have hq: (l.take i).any (fun x:bA=>cE n.frm n.num x.frm x.num)=true∨cE n.frm n.num (l.getD i .zero).frm (l.getD i .zero).num=false:=by
    cases h: (l.take i).any (fun x:bA=>cE n.frm n.num x.frm x.num) with
    |true=>exact .inl rfl
    |false=>rw[h] at h9;exact .inr h9
   have hm:=aKm (q:=(fun x:bA=>cE n.frm n.num x.frm x.num)) (n:=n) (x:=l.getD i .zero) hq
   rw[← eP hi2] at hm
   have ha: (l.take (i+1)).any (fun x:bA=>cE n.frm n.num x.frm x.num)=(l.take i).any (fun x:bA=>cE n.frm n.num x.frm x.num):=by
    rw[eP (z:=bA.zero) hi2,lj]
    rcases hq with h|h
    · rw[h];rfl
    · show((l.take i).any (fun x:bA=>cE n.frm n.num x.frm x.num)||(cE n.frm n.num (l.getD i .zero).frm (l.getD i .zero).num))=_
      rw[h,Bool.or_false]
   refine sk (rT [0,3,5,6,7] (s3 (ai (by have h9:=hi2;rw[aW6,aQ h9];exact⟨⟨by omega,by rw[aC];omega⟩,rfl⟩) (ai (by have h9:=hi2;rw[aW6,aQ h9];exact⟨aW8 rfl,rfl⟩) (ai (by exact⟨by simp,aW8 rfl⟩) (ai (by exact⟨by first|trivial|rfl|(simp;done),by first|rfl|(simp;done),by first|(simp;done)|(intro r hr;rw[aXo.1 hr];rfl),by(try simp only[aW7,aW9,aXa]);have hm:=ar (l:=l) (i:=i) (n:=n);show _*48≤_;omega⟩) (s1 (rT [0,3,5,6,7] (s3 (wq [] [] (⟨l.length - (i+1),by omega,i+1,rfl,by omega,rfl⟩) ?_))))))))))
   repeat' apply ai
   all_goals first|exact qx|exact congrArg D.i (by rw[aB (by omega)];omega)|(rw[ha];done)|exact congrArg D.b ha.symm|(rw[hm];simp[aE,aW6];done)|(rw[hm,aW6,hg];simp only[aE,List.map_append,List.map_cons,List.map_nil];rfl)|exact qz
 have hi3:i=l.length:=by simp[aC] at c12;omega
 subst hi3
 refine xt (sq (sq (rT [3,5,46] (s2 (cd rfl (fun c46=> ?_) fun c46=> ?_)))))
 · have he: (l.take l.length).any (fun x:bA=>cE n.frm n.num x.frm x.num)=false:=by simpa using c46
   refine rT [5] (s2 (ai (by exact⟨by simp,aW8 rfl⟩) (ai (by exact⟨by first|trivial|rfl|(simp;done),by first|rfl|(simp;done),by first|(simp;done)|(intro r hr;rw[aXo.1 hr];rfl),by(try simp only[aW7,aW9,aXa]);have hm:=ar (l:=l) (i:=l.length) (n:=n);show _*48≤_;omega⟩) (s1 (sq (rT [4] (s2 (rt (eA _ [] [8] rfl (eW rfl rfl rfl ?_ (congrArg D.sl ?_) trivial) rfl rfl)))))))))
   · rfl
   rw[aXn] at he ⊢; rw[zN,lk,he];simp[aE,bA.row]
 have he: (l.take l.length).any (fun x:bA=>cE n.frm n.num x.frm x.num)=true:=by simpa using c46
 refine sk (sq (rT [4] (s2 (rt (eA _ [] [8] rfl (eW rfl rfl rfl ?_ (congrArg D.sl ?_) trivial) rfl rfl)))))
 · rfl
 rw[aXn] at he ⊢; rw[zN,lk,he];simp[aE,bA.row]
set_option maxHeartbeats 800000 in
theorem xN (l:List cA) (n:cA) (hl:l.length≤100000):Sp 188 2 [tD 0 (.sl (aP l)),tV 1 n.V] [tD 0 (.sl (aP (pR l n)))]:=by
 refine sb Tryz.func188 rfl (sq (rT [0,3] (s2 (sq (rT [0,3,5] (s1 (sq (bk (SW.loopW (n:=l.length) (fun m q=> ∃i:Nat,m=l.length - i∧i≤l.length∧(∀j,j<i→cE (l.getD j .zero).frm (l.getD j .zero).num n.frm n.num=true)∧q=[tD 0 (.sl (aP l)),tP 3 3,tI 5 (i:Nat),oB 3 112 [.d (.i (n).frm),.d (.i (n).num),.d (.i (n).til)]]) ?_ ?_)))))))))
 · exact wq (σ':=[tD 0 (.sl (aP l)),tP 3 3,tI 5 (0:Nat),oB 3 112 [.d (.i (n).frm),.d (.i (n).num),.d (.i (n).til)]]) [] [] (⟨0,rfl,aXd _,fun j h=>absurd h (by omega),rfl⟩) qz
 rintro n s ⟨i,rfl,hi,hk,rfl⟩
 refine sq (sq (rD [0,3,5,26] (s5 (y2 (ai (fun h=>(by have h8:=h;simp[gb,aN] at h8;have h9:i<l.length:=(by omega);rw[aW6,bX h9];exact⟨⟨by omega,by rw[aN];omega⟩,rfl⟩)) (ai rk (y1 (ai (fun h=>(by have h8:=h;simp[gb,aN] at h8;have h9:i<l.length:=(by omega);rw[aW6,bX h9];exact⟨aW8 rfl,rfl⟩)) (ai rk (y2 (ai (fun h=>(by have h8:=h;simp[gb,aN] at h8;have h9:i<l.length:=(by omega);rw[aW6,bX h9];exact⟨⟨by omega,by rw[aN];omega⟩,rfl⟩)) (ai rk (y1 (ai (fun h=>(by have h8:=h;simp[gb,aN] at h8;have h9:i<l.length:=(by omega);rw[aW6,bX h9];exact⟨aW8 rfl,rfl⟩)) (ai rk (y4 (xc (fun h=>(sT _ _ _ _)) (ai rfl (ai rk ?_)))))))))))))))))))
 refine ai pk (ai (by kernel_rfl) (cd rfl (fun c26=> ?_) fun c26=> ?_))
 · have h9:=c26
   simp only[aXb,decide_eq_true_eq,aN] at h9
   have hi2:i<l.length:=by omega
   have hb:cE (l.getD i .zero).frm (l.getD i .zero).num n.frm n.num=true:=by
    have h10:=h9.2
    rw[aW6,bX hi2] at h10
    exact h10
   refine sk (bk (rT [0,3,5] (s3 (wq [] [] (⟨l.length - (i+1),by omega,i+1,rfl,by omega,fun j h=>by by_cases e:j=i;exact e▸hb;exact hk j (by omega),rfl⟩) ?_))))
   repeat' apply ai
   all_goals first|exact qx|exact congrArg D.i (aB (by omega))|exact qz
 have hend:i=l.length∨cE (l.getD i .zero).frm (l.getD i .zero).num n.frm n.num=false:=by
  by_cases h:i<l.length
  · right
    have h9:=c26
    rw[decide_eq_true (show((i:Nat):Int)< ((aP l).length:Int) by rw[aN];omega),Bool.true_and,aW6,bX h] at h9
    exact h9
  · left;omega
 have hins:pR l n=_:=aKl (z:=cA.zero) (p:=fun x=>cE x.frm x.num n.frm n.num) (n:=n) hi hk hend
 refine xt (sq (rD [4] (ai (by simp) (s2 (ai (by exact⟨by rw[aN];exact⟨by first|(simp;done)|(simp;omega),by first|(simp;done)|(simp;omega),by first|(simp;done)|(simp;omega)⟩,lN _⟩) (ai (by exact⟨by first|trivial|rfl|(simp;done),by first|rfl|(simp[aN];done),by first|exact zO l _ _|(simp;done),by(try simp only[aW7,aW9,aXa,aXc,aXf,aN,jT,jU,jV,jW]);show _*24≤_;omega⟩) (s1 (ai (by exact⟨by simp,aW8 rfl⟩) (ai (by exact⟨by first|trivial|rfl|(simp;done),by first|rfl|(simp[aN];done),by first|exact zO l _ _|(simp;done),by(try simp only[aW7,aW9,aXa,aXc,aXf,aN,jT,jU,jV,jW]);show _*24≤_;omega⟩) (s2 (ai (by exact⟨by rw[aN];exact⟨by first|(simp;done)|(simp;omega),by first|(simp;done)|(simp;omega),by first|(simp;done)|(simp;omega)⟩,lN _⟩) (ai (by exact⟨by first|trivial|rfl|(simp;done),by first|rfl|(simp[aN];done),by first|exact zO l _ _|(simp;done),by(try simp only[aW7,aW9,aXa,aXc,aXf,aN,jT,jU,jV,jW]);show _*24≤_;omega⟩) (s1 (ai (by kernel_rfl) (rt (eA _ [] [29] rfl (eW rfl rfl rfl ?_ (congrArg D.sl ?_) trivial) rfl rfl))))))))))))))))
 · rfl
 rw[hins,vN,zP];simp[aP,List.map_take,List.map_drop,cA.row]
theorem au {l:List cA} {i:Nat} {n:cA}: (aP (midW (fun x:cA=>cE n.frm n.num x.frm x.num) n (l.take i))).length≤l.length+1:=by
 rw[aN,midW]
 split
 · rw[fR,aXc];omega
 rw[aXc];omega
set_option maxHeartbeats 800000 in
theorem rH (l:List cA) (n:cA) (hl:l.length≤100000):Sp 197 2 [tD 0 (.sl (aP l)),tV 1 n.V] [tD 0 (.sl (aP (oM l n)))]:=by
 refine sb Tryz.func197 rfl (sq (rT [0,3] (s2 (sq (rT [0,3,5] (ai (by simp) (s1 (sq (rT [0,3,5,6] (s1 (sq (sq (rT [0,3,5,6,7] (s1 (bk (SW.loopW (n:=l.length) (fun m q=> ∃i:Nat,m=l.length - i∧i≤l.length∧q=[tD 0 (.sl (aP l)),tP 3 3,tO 5 8 (aP (midW (fun x:cA=>cE n.frm n.num x.frm x.num) n (l.take i))).length,tB 6 ((l.take i).any (fun x:cA=>cE n.frm n.num x.frm x.num)),tI 7 (i:Nat),oB 3 112 [.d (.i (n).frm),.d (.i (n).num),.d (.i (n).til)],oR 8 112 3 (aP (midW (fun x:cA=>cE n.frm n.num x.frm x.num) n (l.take i)))]) ?_ ?_))))))))))))))))
 · refine wq (σ':=[tD 0 (.sl (aP l)),tP 3 3,tO 5 8 (aP (midW (fun x:cA=>cE n.frm n.num x.frm x.num) n (l.take 0))).length,tB 6 ((l.take 0).any (fun x:cA=>cE n.frm n.num x.frm x.num)),tI 7 (0:Nat),oB 3 112 [.d (.i (n).frm),.d (.i (n).num),.d (.i (n).til)],oR 8 112 3 (aP (midW (fun x:cA=>cE n.frm n.num x.frm x.num) n (l.take 0)))]) [] [] (⟨0,rfl,aXd _,rfl⟩) ?_
   repeat' apply ai
   all_goals first|exact qx|rfl|(simp[midW];done)|exact qz
 rintro n s ⟨i,rfl,hi,rfl⟩
 refine sq (sq (rT [0,3,5,6,7,12] (s4 (cd rfl (fun c12=> ?_) fun c12=> ?_))))
 · have hi2:i<l.length:=by simpa[aN] using c12
   have hg:=bX (l:=l) hi2
   refine sk (sq (bk (sq (sq (rD [0,3,5,6,7,33] (s3 (y4 (y2 (ai (fun h=>(by have h9:=hi2;rw[aW6,bX h9];exact⟨⟨by omega,by rw[aN];omega⟩,rfl⟩)) (ai rk (y1 (ai (fun h=>(by have h9:=hi2;rw[aW6,bX h9];exact⟨aW8 rfl,rfl⟩)) (ai rk (y2 (ai (fun h=>(by have h9:=hi2;rw[aW6,bX h9];exact⟨⟨by omega,by rw[aN];omega⟩,rfl⟩)) (ai rk (y1 (ai (fun h=>(by have h9:=hi2;rw[aW6,bX h9];exact⟨aW8 rfl,rfl⟩)) (ai rk (xc (fun h=>(rG _ _ _ _)) (ai rfl (ai rk ?_))))))))))))))))))))))
   refine ai pk (ai (by kernel_rfl) (cd rfl (fun c33=> ?_) fun c33=> ?_))
   · have h9:=c33
     rw[aW6,hg] at h9
     rw[aXb] at h9
     have hq: (l.take i).any (fun x:cA=>cE n.frm n.num x.frm x.num)=false∧cE n.frm n.num (l.getD i .zero).frm (l.getD i .zero).num=true:=⟨by simpa only[Bool.not_eq_true'] using h9.1,h9.2⟩
     have hm:=aF7 (q:=(fun x:cA=>cE n.frm n.num x.frm x.num)) (n:=n) (x:=l.getD i .zero) hq.1 hq.2
     rw[← eP hi2] at hm
     have ha: (l.take (i+1)).any (fun x:cA=>cE n.frm n.num x.frm x.num)=true:=by rw[eP (z:=cA.zero) hi2,lj,hq.1];exact hq.2
     refine sq (rT [0,3,5,7] (s2 (ai (by exact⟨by simp,aW8 rfl⟩) (ai (by exact⟨by first|trivial|rfl|(simp;done),by first|rfl|(simp;done),by first|(simp;done)|(intro r hr;rw[aXo.1 hr];rfl),by(try simp only[aW7,aW9,aXa]);have hm:=au (l:=l) (i:=i) (n:=n);show _*24≤_;omega⟩) (s1 (rT [0,3,5,6,7] (s1 (rT [0,3,5,6,7] (s3 (ai (by have h9:=hi2;rw[aW6,bX h9];exact⟨⟨by omega,by rw[aN];omega⟩,rfl⟩) (ai (by have h9:=hi2;rw[aW6,bX h9];exact⟨aW8 rfl,rfl⟩) (ai (by exact⟨by simp,aW8 rfl⟩) (ai (by exact⟨by first|trivial|rfl|(simp;done),by first|rfl|(simp;done),by first|(simp;done)|(intro r hr;rw[aXo.1 hr];rfl),by(try simp only[aW7,aW9,aXa]);have hm:=au (l:=l) (i:=i) (n:=n);show _*24≤_;omega⟩) (s1 (rT [0,3,5,6,7] (s3 (wq [] [] (⟨l.length - (i+1),by omega,i+1,rfl,by omega,rfl⟩) ?_)))))))))))))))))
     repeat' apply ai
     all_goals first|exact qx|exact congrArg D.i (by rw[aB (by omega)];omega)|(rw[ha];done)|exact congrArg D.b ha.symm|(rw[hm];simp[aP,aW6];done)|(rw[hm,aW6,hg];simp only[aP,List.map_append,List.map_cons,List.map_nil];rfl)|exact qz
   have h9:=c33
   rw[aW6,hg] at h9
   have hq: (l.take i).any (fun x:cA=>cE n.frm n.num x.frm x.num)=true∨cE n.frm n.num (l.getD i .zero).frm (l.getD i .zero).num=false:=by
    cases h: (l.take i).any (fun x:cA=>cE n.frm n.num x.frm x.num) with
    |true=>exact .inl rfl
    |false=>rw[h] at h9;exact .inr h9
   have hm:=aKm (q:=(fun x:cA=>cE n.frm n.num x.frm x.num)) (n:=n) (x:=l.getD i .zero) hq
   rw[← eP hi2] at hm
   have ha: (l.take (i+1)).any (fun x:cA=>cE n.frm n.num x.frm x.num)=(l.take i).any (fun x:cA=>cE n.frm n.num x.frm x.num):=by
    rw[eP (z:=cA.zero) hi2,lj]
    rcases hq with h|h
    · rw[h];rfl
    · show((l.take i).any (fun x:cA=>cE n.frm n.num x.frm x.num)||(cE n.frm n.num (l.getD i .zero).frm (l.getD i .zero).num))=_
      rw[h,Bool.or_false]
   refine sk (rT [0,3,5,6,7] (s3 (ai (by have h9:=hi2;rw[aW6,bX h9];exact⟨⟨by omega,by rw[aN];omega⟩,rfl⟩) (ai (by have h9:=hi2;rw[aW6,bX h9];exact⟨aW8 rfl,rfl⟩) (ai (by exact⟨by simp,aW8 rfl⟩) (ai (by exact⟨by first|trivial|rfl|(simp;done),by first|rfl|(simp;done),by first|(simp;done)|(intro r hr;rw[aXo.1 hr];rfl),by(try simp only[aW7,aW9,aXa]);have hm:=au (l:=l) (i:=i) (n:=n);show _*24≤_;omega⟩) (s1 (rT [0,3,5,6,7] (s3 (wq [] [] (⟨l.length - (i+1),by omega,i+1,rfl,by omega,rfl⟩) ?_))))))))))
   repeat' apply ai
   all_goals first|exact qx|exact congrArg D.i (by rw[aB (by omega)];omega)|(rw[ha];done)|exact congrArg D.b ha.symm|(rw[hm];simp[aP,aW6];done)|(rw[hm,aW6,hg];simp only[aP,List.map_append,List.map_cons,List.map_nil];rfl)|exact qz
 have hi3:i=l.length:=by simp[aN] at c12;omega
 subst hi3
 refine xt (sq (sq (rT [3,5,46] (s2 (cd rfl (fun c46=> ?_) fun c46=> ?_)))))
 · have he: (l.take l.length).any (fun x:cA=>cE n.frm n.num x.frm x.num)=false:=by simpa using c46
   refine rT [5] (s2 (ai (by exact⟨by simp,aW8 rfl⟩) (ai (by exact⟨by first|trivial|rfl|(simp;done),by first|rfl|(simp;done),by first|(simp;done)|(intro r hr;rw[aXo.1 hr];rfl),by(try simp only[aW7,aW9,aXa]);have hm:=au (l:=l) (i:=l.length) (n:=n);show _*24≤_;omega⟩) (s1 (sq (rT [4] (s2 (rt (eA _ [] [8] rfl (eW rfl rfl rfl ?_ (congrArg D.sl ?_) trivial) rfl rfl)))))))))
   · rfl
   rw[aXn] at he ⊢; rw[vM,lk,he];simp[aP,cA.row]
 have he: (l.take l.length).any (fun x:cA=>cE n.frm n.num x.frm x.num)=true:=by simpa using c46
 refine sk (sq (rT [4] (s2 (rt (eA _ [] [8] rfl (eW rfl rfl rfl ?_ (congrArg D.sl ?_) trivial) rfl rfl)))))
 · rfl
 rw[aXn] at he ⊢; rw[vM,lk,he];simp[aP,cA.row]
set_option maxHeartbeats 1600000 in
theorem yy (k:bC) (t:Int) (hb:k.held.length≤100000∧k.marks.length≤100000∧k.inbox.length≤100000):Sp 182 2 [tV 0 k.V,tI 1 t] [tV 0 ((kR k t).V)]:=by
 refine sb Tryz.func182 rfl (sq (rT [1,2,4] (s2 (sq (rT [1,2,4,5] (s9 (s1 (sq (sq (rT [1,2,4,5,19,20,21] (s4 (bk (SW.nilBox 5 100 3 58 5 rfl rfl rfl (SW.nilBox 5 101 4 112 3 rfl rfl rfl (SW.loopW (n:=k.held.length) (fun m q=> ∃i:Nat,m=k.held.length - i∧i≤k.held.length∧q=[tI 1 t,tP 2 2,tP 4 4,tP 5 5,tD 19 (.sl (aE k.held)),tI 20 (k.held.length:Nat),tI 21 (i:Nat),oB 2 32 [.d (.i k.id),.d (.i k.time),.d (.i k.next),.d (.sl (aE k.held)),.d (.sl (aP k.marks)),.d (.sl (aE k.inbox))],oB 4 32 [.d (.i 0),.d (.i 0),.d (.i 0),.nil,.nil,.nil],oB 5 32 [.d (.i k.id),.d (.i t),.d (.i k.next),.own 100 (aE ((k.held.take i).filter (fun n=>decide (t<n.til)))).length,.own 101 (aP []).length,.d (.sl (aE k.inbox))],oR 100 58 5 (aE ((k.held.take i).filter (fun n=>decide (t<n.til)))),oR 101 112 3 (aP [])]) ?_ ?_)))))))))))))))
 · refine wq (σ':=[tI 1 t,tP 2 2,tP 4 4,tP 5 5,tD 19 (.sl (aE k.held)),tI 20 (k.held.length:Nat),tI 21 (0:Nat),oB 2 32 [.d (.i k.id),.d (.i k.time),.d (.i k.next),.d (.sl (aE k.held)),.d (.sl (aP k.marks)),.d (.sl (aE k.inbox))],oB 4 32 [.d (.i 0),.d (.i 0),.d (.i 0),.nil,.nil,.nil],oB 5 32 [.d (.i k.id),.d (.i t),.d (.i k.next),.own 100 (aE ((k.held.take 0).filter (fun n=>decide (t<n.til)))).length,.own 101 (aP []).length,.d (.sl (aE k.inbox))],oR 100 58 5 (aE ((k.held.take 0).filter (fun n=>decide (t<n.til)))),oR 101 112 3 (aP [])]) [] [] (⟨0,rfl,aXd _,rfl⟩) ?_
   repeat' apply ai
   all_goals first|exact qx|rfl|(rw[aC];done)|(rw[aN];done)|exact qz
 rintro n s ⟨i,rfl,hi,rfl⟩
 refine sq (rT [1,2,4,5,19,20,21,22] (s1 (sq (cd rfl (fun c22=> ?_) fun c22=> ?_))))
 · have hi2:i<k.held.length:=by simpa using c22
   have hg:=aQ (l:=k.held) hi2
   refine sk (sq (bk (sq (rT [1,2,4,5,7,19,20,21] (ai (by rw[aW6,hg];exact⟨⟨by omega,by rw[aC];omega⟩,rfl⟩) (ai (by rw[aW6,hg];exact⟨aW8 rfl,rfl⟩) (s2 (sq (wa [tI 1 t,tP 2 2,tP 4 4,tP 5 5,tD 19 (.sl (aE k.held)),tI 20 (k.held.length:Nat),tI 21 (i:Nat),oB 2 32 [.d (.i k.id),.d (.i k.time),.d (.i k.next),.d (.sl (aE k.held)),.d (.sl (aP k.marks)),.d (.sl (aE k.inbox))],oB 4 32 [.d (.i 0),.d (.i 0),.d (.i 0),.nil,.nil,.nil],oB 5 32 [.d (.i k.id),.d (.i t),.d (.i k.next),.own 100 (aE ((k.held.take i).filter (fun n=>decide (t<n.til)))).length,.own 101 (aP []).length,.d (.sl (aE k.inbox))],oR 100 58 5 (aE ((k.held.take i).filter (fun n=>decide (t<n.til)))),oR 101 112 3 (aP []),tP 7 7,oB 7 58 [.d (.i (k.held.getD i .zero).frm),.d (.i (k.held.getD i .zero).num),.d (.i (k.held.getD i .zero).to),.d (.i (k.held.getD i .zero).til),.d (.s (k.held.getD i .zero).text)]] [] [] ?_ ?_)))))))))
   · repeat' apply ai
     all_goals first|exact qx|(rw[aW6,hg];rfl)|exact qz
   refine rT [1,2,4,5,7,19,20,21,28] (s4 (cd rfl (fun c28=> ?_) fun c28=> ?_))
   · have hp: (fun n:bA=>decide (t<n.til)) (k.held.getD i .zero)=true:=c28
     have hf:=zM (z:=bA.zero) (p:=fun n=>decide (t<n.til)) hi2 hp
     refine rT [1,2,4,5,19,20,21] (s3 (ai (by exact⟨by simp,aW8 rfl⟩) (ai (by exact⟨by first|trivial|rfl|(simp;done),by first|rfl|(simp;done),by first|(simp;done)|(intro r hr;rw[aXo.1 hr];rfl),by(have hm:=(List.length_filter_le (fun n=>decide (t<n.til)) (k.held.take i)));rw[aXc] at hm;simp only[aC,aW9,aXa];show _*48≤_;omega⟩) (s2 (rT [1,2,4,5,19,20,21] (s2 (wq [] [] (⟨k.held.length - (i+1),by omega,i+1,rfl,by omega,rfl⟩) ?_)))))))
     repeat' apply ai
     all_goals first|exact qx|exact congrArg D.i (by rw[aB (by omega)];omega)|(rw[hf];simp[aE,aP,bA.row,cA.row];done)|(rw[hf];done)|exact qz
   have hp: (fun n:bA=>decide (t<n.til)) (k.held.getD i .zero)=false:=c28
   have hf:=ew (z:=bA.zero) (p:=fun n=>decide (t<n.til)) hi2 hp
   refine sk (rT [1,2,4,5,19,20,21] (s2 (wq [] [] (⟨k.held.length - (i+1),by omega,i+1,rfl,by omega,rfl⟩) ?_)))
   repeat' apply ai
   all_goals first|exact qx|exact congrArg D.i (by rw[aB (by omega)];omega)|(rw[hf];simp[aE,aP,bA.row,cA.row];done)|(rw[hf];done)|exact qz
 have hi3:i=k.held.length:=by simp at c22;omega
 subst hi3
 clear hi
 refine xt (sq (sq (rT [1,4,5,37,38,39] (s4 (bk (SW.loopW (n:=k.marks.length) (fun m q=> ∃i:Nat,m=k.marks.length - i∧i≤k.marks.length∧q=[tI 1 t,tP 4 4,tP 5 5,tD 37 (.sl (aP k.marks)),tI 38 (k.marks.length:Nat),tI 39 (i:Nat),oB 4 32 [.d (.i 0),.d (.i 0),.d (.i 0),.nil,.nil,.nil],oB 5 32 [.d (.i k.id),.d (.i t),.d (.i k.next),.own 100 (aE ((k.held.take k.held.length).filter (fun n=>decide (t<n.til)))).length,.own 101 (aP ((k.marks.take i).filter (fun n=>decide (t<n.til)))).length,.d (.sl (aE k.inbox))],oR 100 58 5 (aE ((k.held.take k.held.length).filter (fun n=>decide (t<n.til)))),oR 101 112 3 (aP ((k.marks.take i).filter (fun n=>decide (t<n.til))))]) ?_ ?_))))))
 · refine wq (σ':=[tI 1 t,tP 4 4,tP 5 5,tD 37 (.sl (aP k.marks)),tI 38 (k.marks.length:Nat),tI 39 (0:Nat),oB 4 32 [.d (.i 0),.d (.i 0),.d (.i 0),.nil,.nil,.nil],oB 5 32 [.d (.i k.id),.d (.i t),.d (.i k.next),.own 100 (aE ((k.held.take k.held.length).filter (fun n=>decide (t<n.til)))).length,.own 101 (aP ((k.marks.take 0).filter (fun n=>decide (t<n.til)))).length,.d (.sl (aE k.inbox))],oR 100 58 5 (aE ((k.held.take k.held.length).filter (fun n=>decide (t<n.til)))),oR 101 112 3 (aP ((k.marks.take 0).filter (fun n=>decide (t<n.til))))]) [] [] (⟨0,rfl,aXd _,rfl⟩) ?_
   repeat' apply ai
   all_goals first|exact qx|rfl|(rw[aC];done)|(rw[aN];done)|exact qz
 rintro n s ⟨i,rfl,hi,rfl⟩
 refine sq (rT [1,4,5,37,38,39,40] (s1 (sq (cd rfl (fun c40=> ?_) fun c40=> ?_))))
 · have hi2:i<k.marks.length:=by simpa using c40
   have hg:=bX (l:=k.marks) hi2
   refine sk (sq (bk (sq (rT [1,4,5,9,37,38,39] (ai (by rw[aW6,hg];exact⟨⟨by omega,by rw[aN];omega⟩,rfl⟩) (ai (by rw[aW6,hg];exact⟨aW8 rfl,rfl⟩) (s2 (sq (wa [tI 1 t,tP 4 4,tP 5 5,tD 37 (.sl (aP k.marks)),tI 38 (k.marks.length:Nat),tI 39 (i:Nat),oB 4 32 [.d (.i 0),.d (.i 0),.d (.i 0),.nil,.nil,.nil],oB 5 32 [.d (.i k.id),.d (.i t),.d (.i k.next),.own 100 (aE ((k.held.take k.held.length).filter (fun n=>decide (t<n.til)))).length,.own 101 (aP ((k.marks.take i).filter (fun n=>decide (t<n.til)))).length,.d (.sl (aE k.inbox))],oR 100 58 5 (aE ((k.held.take k.held.length).filter (fun n=>decide (t<n.til)))),oR 101 112 3 (aP ((k.marks.take i).filter (fun n=>decide (t<n.til)))),tP 9 9,oB 9 112 [.d (.i (k.marks.getD i .zero).frm),.d (.i (k.marks.getD i .zero).num),.d (.i (k.marks.getD i .zero).til)]] [] [] ?_ ?_)))))))))
   · repeat' apply ai
     all_goals first|exact qx|(rw[aW6,hg];rfl)|exact qz
   refine rT [1,4,5,9,37,38,39,46] (s4 (cd rfl (fun c46=> ?_) fun c46=> ?_))
   · have hp: (fun n:cA=>decide (t<n.til)) (k.marks.getD i .zero)=true:=c46
     have hf:=zM (z:=cA.zero) (p:=fun n=>decide (t<n.til)) hi2 hp
     refine rT [1,4,5,37,38,39] (s3 (ai (by exact⟨by simp,aW8 rfl⟩) (ai (by exact⟨by first|trivial|rfl|(simp;done),by first|rfl|(simp;done),by first|(simp;done)|(intro r hr;rw[aXo.1 hr];rfl),by(have hm:=(List.length_filter_le (fun n=>decide (t<n.til)) (k.marks.take i)));rw[aXc] at hm;simp only[aN,aW9,aXa];show _*24≤_;omega⟩) (s2 (rT [1,4,5,37,38,39] (s2 (wq [] [] (⟨k.marks.length - (i+1),by omega,i+1,rfl,by omega,rfl⟩) ?_)))))))
     repeat' apply ai
     all_goals first|exact qx|exact congrArg D.i (by rw[aB (by omega)];omega)|(rw[hf];simp[aE,aP,bA.row,cA.row];done)|(rw[hf];done)|exact qz
   have hp: (fun n:cA=>decide (t<n.til)) (k.marks.getD i .zero)=false:=c46
   have hf:=ew (z:=cA.zero) (p:=fun n=>decide (t<n.til)) hi2 hp
   refine sk (rT [1,4,5,37,38,39] (s2 (wq [] [] (⟨k.marks.length - (i+1),by omega,i+1,rfl,by omega,rfl⟩) ?_)))
   repeat' apply ai
   all_goals first|exact qx|exact congrArg D.i (by rw[aB (by omega)];omega)|(rw[hf];simp[aE,aP,bA.row,cA.row];done)|(rw[hf];done)|exact qz
 have hi3:i=k.marks.length:=by simp at c40;omega
 subst hi3
 refine xt (sq (rT [4] (s2 (rt (rq [] [100,101] rfl ?_)))))
 repeat' apply ai
 all_goals try exact qx
 all_goals(first|with_reducible rfl|(simp[kR];done))
set_option maxHeartbeats 1600000 in
theorem yz (k:bC) (t:Int) (hb:k.held.length≤100000∧k.marks.length≤100000∧k.inbox.length≤100000):Sp 190 2 [tV 0 k.V,tI 1 t] [tV 0 ((kR k t).V)]:=by
 refine sb Tryz.func190 rfl (sq (rT [1,2,4] (s2 (sq (rT [1,2,4,5] (ai (by simp) (s1 (sq (sq (rT [1,2,4,5,6] (s1 (bk (SW.loopW (n:=k.held.length) (fun m q=> ∃i:Nat,m=k.held.length - i∧i≤k.held.length∧q=[tI 1 t,tP 2 2,tP 4 4,tO 5 9 (aE ((k.held.take i).filter (fun n=>decide (t<n.til)))).length,tI 6 (i:Nat),oB 2 32 [.d (.i k.id),.d (.i k.time),.d (.i k.next),.d (.sl (aE k.held)),.d (.sl (aP k.marks)),.d (.sl (aE k.inbox))],oB 4 32 [.d (.i 0),.d (.i 0),.d (.i 0),.nil,.nil,.nil],oR 9 58 5 (aE ((k.held.take i).filter (fun n=>decide (t<n.til))))]) ?_ ?_)))))))))))))
 · refine wq (σ':=[tI 1 t,tP 2 2,tP 4 4,tO 5 9 (aE ((k.held.take 0).filter (fun n=>decide (t<n.til)))).length,tI 6 (0:Nat),oB 2 32 [.d (.i k.id),.d (.i k.time),.d (.i k.next),.d (.sl (aE k.held)),.d (.sl (aP k.marks)),.d (.sl (aE k.inbox))],oB 4 32 [.d (.i 0),.d (.i 0),.d (.i 0),.nil,.nil,.nil],oR 9 58 5 (aE ((k.held.take 0).filter (fun n=>decide (t<n.til))))]) [] [] (⟨0,rfl,aXd _,rfl⟩) ?_
   repeat' apply ai
   all_goals first|exact qx|rfl|(rw[aC];done)|(rw[aN];done)|exact qz
 rintro n s ⟨i,rfl,hi,rfl⟩
 refine sq (sq (rT [1,2,4,5,6,14] (s5 (cd rfl (fun c14=> ?_) fun c14=> ?_))))
 · have hi2:i<k.held.length:=by simpa[aC] using c14
   have hg:=aQ (l:=k.held) hi2
   refine sk (sq (bk (sq (rT [1,2,4,5,6,24] (s3 (ai (by rw[aW6,hg];exact⟨⟨by omega,by rw[aC];omega⟩,rfl⟩) (s1 (ai (by rw[aW6,hg];exact⟨aW8 rfl,rfl⟩) (s2 (cd rfl (fun c24=> ?_) fun c24=> ?_))))))))))
   · rw[aW6,hg] at c24
     have hp: (fun n:bA=>decide (t<n.til)) (k.held.getD i .zero)=true:=c24
     have hf:=zM (z:=bA.zero) (p:=fun n=>decide (t<n.til)) hi2 hp
     refine rT [1,2,4,5,6] (s4 (ai (by rw[aW6,hg];exact⟨⟨by omega,by rw[aC];omega⟩,rfl⟩) (ai (by rw[aW6,hg];exact⟨aW8 rfl,rfl⟩) (ai (by exact⟨by simp,aW8 rfl⟩) (ai (by exact⟨by first|trivial|rfl|(simp;done),by first|rfl|(simp;done),by first|(simp;done)|(intro r hr;rw[aXo.1 hr];rfl),by(have hm:=(List.length_filter_le (fun n=>decide (t<n.til)) (k.held.take i)));rw[aXc] at hm;simp only[aC,aW9,aXa];show _*48≤_;omega⟩) (s1 (rT [1,2,4,5,6] (s3 (wq [] [] (⟨k.held.length - (i+1),by omega,i+1,rfl,by omega,rfl⟩) ?_)))))))))
     repeat' apply ai
     all_goals first|exact qx|exact congrArg D.i (by rw[aB (by omega)];omega)|(rw[hf,aW6,hg];exact gc _ _)|(rw[hf];simp[aE,aP];done)|(rw[hf];done)|exact qz
   rw[aW6,hg] at c24
   have hp: (fun n:bA=>decide (t<n.til)) (k.held.getD i .zero)=false:=c24
   have hf:=ew (z:=bA.zero) (p:=fun n=>decide (t<n.til)) hi2 hp
   refine sk (rT [1,2,4,5,6] (s3 (wq [] [] (⟨k.held.length - (i+1),by omega,i+1,rfl,by omega,rfl⟩) ?_)))
   repeat' apply ai
   all_goals first|exact qx|exact congrArg D.i (by rw[aB (by omega)];omega)|(rw[hf,aW6,hg];exact gc _ _)|(rw[hf];simp[aE,aP];done)|(rw[hf];done)|exact qz
 have hi3:i=k.held.length:=by simp[aC] at c14;omega
 subst hi3
 clear hi
 refine xt (sq (rT [1,2,4,5,7] (ai (by simp) (s1 (sq (sq (rT [1,2,4,5,7,8] (s1 (bk (SW.loopW (n:=k.marks.length) (fun m q=> ∃i:Nat,m=k.marks.length - i∧i≤k.marks.length∧q=[tI 1 t,tP 2 2,tP 4 4,tO 5 9 (aE ((k.held.take k.held.length).filter (fun n=>decide (t<n.til)))).length,tO 7 33 (aP ((k.marks.take i).filter (fun n=>decide (t<n.til)))).length,tI 8 (i:Nat),oB 2 32 [.d (.i k.id),.d (.i k.time),.d (.i k.next),.d (.sl (aE k.held)),.d (.sl (aP k.marks)),.d (.sl (aE k.inbox))],oB 4 32 [.d (.i 0),.d (.i 0),.d (.i 0),.nil,.nil,.nil],oR 9 58 5 (aE ((k.held.take k.held.length).filter (fun n=>decide (t<n.til)))),oR 33 112 3 (aP ((k.marks.take i).filter (fun n=>decide (t<n.til))))]) ?_ ?_))))))))))
 · refine wq (σ':=[tI 1 t,tP 2 2,tP 4 4,tO 5 9 (aE ((k.held.take k.held.length).filter (fun n=>decide (t<n.til)))).length,tO 7 33 (aP ((k.marks.take 0).filter (fun n=>decide (t<n.til)))).length,tI 8 (0:Nat),oB 2 32 [.d (.i k.id),.d (.i k.time),.d (.i k.next),.d (.sl (aE k.held)),.d (.sl (aP k.marks)),.d (.sl (aE k.inbox))],oB 4 32 [.d (.i 0),.d (.i 0),.d (.i 0),.nil,.nil,.nil],oR 9 58 5 (aE ((k.held.take k.held.length).filter (fun n=>decide (t<n.til)))),oR 33 112 3 (aP ((k.marks.take 0).filter (fun n=>decide (t<n.til))))]) [] [] (⟨0,rfl,aXd _,rfl⟩) ?_
   repeat' apply ai
   all_goals first|exact qx|rfl|(rw[aC];done)|(rw[aN];done)|exact qz
 rintro n s ⟨i,rfl,hi,rfl⟩
 refine sq (sq (rT [1,2,4,5,7,8,38] (s5 (cd rfl (fun c38=> ?_) fun c38=> ?_))))
 · have hi2:i<k.marks.length:=by simpa[aN] using c38
   have hg:=bX (l:=k.marks) hi2
   refine sk (sq (bk (sq (rT [1,2,4,5,7,8,48] (s3 (ai (by rw[aW6,hg];exact⟨⟨by omega,by rw[aN];omega⟩,rfl⟩) (s1 (ai (by rw[aW6,hg];exact⟨aW8 rfl,rfl⟩) (s2 (cd rfl (fun c48=> ?_) fun c48=> ?_))))))))))
   · rw[aW6,hg] at c48
     have hp: (fun n:cA=>decide (t<n.til)) (k.marks.getD i .zero)=true:=c48
     have hf:=zM (z:=cA.zero) (p:=fun n=>decide (t<n.til)) hi2 hp
     refine rT [1,2,4,5,7,8] (s4 (ai (by rw[aW6,hg];exact⟨⟨by omega,by rw[aN];omega⟩,rfl⟩) (ai (by rw[aW6,hg];exact⟨aW8 rfl,rfl⟩) (ai (by exact⟨by simp,aW8 rfl⟩) (ai (by exact⟨by first|trivial|rfl|(simp;done),by first|rfl|(simp;done),by first|(simp;done)|(intro r hr;rw[aXo.1 hr];rfl),by(have hm:=(List.length_filter_le (fun n=>decide (t<n.til)) (k.marks.take i)));rw[aXc] at hm;simp only[aN,aW9,aXa];show _*24≤_;omega⟩) (s1 (rT [1,2,4,5,7,8] (s3 (wq [] [] (⟨k.marks.length - (i+1),by omega,i+1,rfl,by omega,rfl⟩) ?_)))))))))
     repeat' apply ai
     all_goals first|exact qx|exact congrArg D.i (by rw[aB (by omega)];omega)|(rw[hf,aW6,hg];exact gd _ _)|(rw[hf];simp[aE,aP];done)|(rw[hf];done)|exact qz
   rw[aW6,hg] at c48
   have hp: (fun n:cA=>decide (t<n.til)) (k.marks.getD i .zero)=false:=c48
   have hf:=ew (z:=cA.zero) (p:=fun n=>decide (t<n.til)) hi2 hp
   refine sk (rT [1,2,4,5,7,8] (s3 (wq [] [] (⟨k.marks.length - (i+1),by omega,i+1,rfl,by omega,rfl⟩) ?_)))
   repeat' apply ai
   all_goals first|exact qx|exact congrArg D.i (by rw[aB (by omega)];omega)|(rw[hf,aW6,hg];exact gd _ _)|(rw[hf];simp[aE,aP];done)|(rw[hf];done)|exact qz
 have hi3:i=k.marks.length:=by simp[aN] at c38;omega
 subst hi3
 refine xt (sq (rT [2,4,5,7] (s3 (sq (rT [2,4,7] (s3 (sq (rT [2,4] (s3 (sq (rT [4] (s2 (rt (rq [] [9,33] rfl ?_))))))))))))))
 repeat' apply ai
 all_goals try exact qx
 all_goals(first|with_reducible rfl|(simp[kR];done))
end Go.Proofs.YthbgjfegalcenaaGreatDoor
