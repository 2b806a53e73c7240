/- Plain functions, and contracts of the functions that the law reaches. -/
import Derived.Deep.Slices
import Derived.WideShapes
import GoSem.ClaimJoined
import Derived.Shelf.Utf8.RuneCount
import Derived.Shelf.Strconv.Itoa0
import Derived.Shelf.Strconv.Itoa1
import Derived.Shelf.LaysM
import Derived.Shelf.Strconv.Itoa2
import Derived.Shelf.Strconv.Itoa3
import Derived.Shelf.Strings.Search1
import Derived.Shelf.Strings.Search2
import Derived.Shelf.Strings.Search3
import Derived.Shelf.Strings.Cut
import Derived.Shelf.Strings.Count
import Derived.Shelf.Strings.Shaped
import Derived.Shelf.Strings.Split
import Derived.Shelf.Unicode.DecodeSlow
import Derived.Test.YthbgjfegalcenaaGreatDoorProg
import Derived.Test.YthbgjfegalcenaaGreatDoorB1
namespace Go.Ab
open Int renaming toNat_natCast→aWz
open List renaming length_append→aW0,length_nil→aW2,length_cons→aW3,length_take→aW5,getD_eq_getElem?_getD→aW7,getElem?_eq_getElem→aW8,length_drop→aW9,getElem?_eq_some_iff→aXb,range→aXc,mem_map→aXd,all_eq_true→aXe,take_length→aXf
open Nat renaming le_of_ble_eq_true→aW1,zero_le→aW6,le_refl→aXa
open Bool renaming and_eq_true→aW4
open Go Go.RowKit
set_option linter.unusedVariables false
set_option linter.unusedSimpArgs false
def wJ (m:cB):List UInt8:=jZ m.frm.toNat++32::(jZ m.num.toNat++32::jZ m.til.toNat)
theorem qR {m:cB} (h:lK m=true): (0≤m.frm∧m.frm≤3)∧(1≤m.num∧m.num≤99)∧(1≤m.til∧m.til≤999):=by
 simp only[lK,eN,iK,aW4,decide_eq_true_eq] at h
 omega
theorem aF8 {n:bA} (h:eP n=true):lK ⟨n.frm,n.num,n.til⟩=true:=by
 simp only[eP,lK,aW4] at h ⊢
 exact⟨⟨h.1.1.1.1,h.1.1.2⟩,h.1.2⟩
theorem aPb {s:List UInt8} (h: ∀b∈s,b≠32):fZ s=false:=by
 unfold fZ
 rw[List.any_eq_false]
 intro b hb
 have:=h b hb
 simpa using this
theorem wh {s:List UInt8} (h:fZ s=false):Lib.count s [32]=0:=by rw[tF,h];rfl
theorem aUy {a b c:List UInt8} (ha: ∀x∈a,x≠32) (hb: ∀x∈b,x≠32) (hc: ∀x∈c,x≠32):
 dD (a++32::(b++32::c))=[a,b,c]∧mP 3 (a++32::(b++32::c))=[]∧bF (a++32::(b++32::c))=a∧bF (mP 1 (a++32::(b++32::c)))=b∧bF (mP 2 (a++32::(b++32::c)))=c:=by
 obtain⟨a1,a2,a3⟩:=mQ (r:=b++32::c) ha
 obtain⟨b1,b2,b3⟩:=mQ (r:=c) hb
 have c3:=aPb hc
 obtain⟨_,c1,c2⟩:=(gA c).2 c3
 have hn:Lib.count (a++32::(b++32::c)) [32]=2:=by
  rw[tF,if_pos a3,a2,tF,if_pos b3,b2,wh c3]
 refine⟨?_,?_,a1,?_,?_⟩
 · rw[dD,hn]
   simp only[iU,a1,a2,a3,b1,b2,b3,if_true]
 · simp only[mP,a2,b2,c2]
 · simp only[mP,a2,b1]
 · simp only[mP,a2,b2,c1]
theorem wj {n:Int} (h:0≤n):oq n=jZ n.toNat:=if_neg (by omega)
theorem aF9 {m:cB} (h:lK m=true):gh m=wJ m:=by
 obtain⟨h1,h2,h3⟩:=qR h
 unfold gh wJ
 rw[wj (by omega),wj (by omega),wj (by omega)]
 simp
theorem aCa {m:cB} (h:lK m=true):iQ (dD (wJ m))=true∧(dD (wJ m)).length=3∧three (dD (wJ m))=m∧mP 3 (wJ m)=[]∧hO (wJ m)=m:=by
 obtain⟨h1,h2,h3⟩:=qR h
 obtain⟨q1,q2,q3,q4,q5⟩:=aUy (vL m.frm.toNat) (vL m.num.toNat) (vL m.til.toNat)
 have e: ∀{x:Int},0≤x→((x.toNat:Nat):Int)=x:=fun h=>by omega
 have w1:jN (jZ m.frm.toNat)=some m.frm.toNat:=mR (by omega)
 have w2:jN (jZ m.num.toNat)=some m.num.toNat:=mR (by omega)
 have w3:jN (jZ m.til.toNat)=some m.til.toNat:=mR (by omega)
 have u1:jE (jZ m.frm.toNat)=m.frm:=by rw[jE,w1];exact e (by omega)
 have u2:jE (jZ m.num.toNat)=m.num:=by rw[jE,w2];exact e (by omega)
 have u3:jE (jZ m.til.toNat)=m.til:=by rw[jE,w3];exact e (by omega)
 have v1:gS (jZ m.frm.toNat)=m.frm:=by rw[vM (by omega),e (by omega)]
 have v2:gS (jZ m.num.toNat)=m.num:=by rw[vM (by omega),e (by omega)]
 have v3:gS (jZ m.til.toNat)=m.til:=by rw[vM (by omega),e (by omega)]
 unfold wJ
 refine⟨?_,?_,?_,q2,?_⟩
 · rw[q1];simp[iQ,w1,w2,w3]
 · rw[q1];rfl
 · rw[q1];simp[three,u1,u2,u3]
 · unfold hO dQ
   have q6:bF (mP 0 (jZ m.frm.toNat++32::(jZ m.num.toNat++32::jZ m.til.toNat)))=jZ m.frm.toNat:=q3
   rw[q6,q4,q5,v1,v2,v3]
theorem wl {s:List UInt8} (h:fZ s=true):s=bF s++32::aP s:=by
 obtain⟨q1,q2,q3,q4⟩:=(gA s).1 h
 have h3:s[(bF s).length]'q4=32:=by
  have h1:Lib.indexByte s 32=(bF s).length:=q1
  have h2:s.drop (bF s).length=s[(bF s).length]'q4::s.drop ((bF s).length+1):=List.drop_eq_getElem_cons q4
  have h4:s.drop (bF s).length=s.dropWhile (· != 32):=by
   have h5:=List.takeWhile_append_dropWhile (p:=(· != (32:UInt8))) (l:=s)
   have h6:s.take (bF s).length++s.drop (bF s).length=s:=List.take_append_drop _ _
   rw[q2] at h6
   exact List.append_cancel_left (h6.trans h5.symm)
  have h7: ∀l:List UInt8,∀x t,l.dropWhile (· != 32)=x::t→x=32:=by
   intro l
   induction l with
   |nil=>intro x t h;cases h
   |cons y l ih=>
    intro x t h
    by_cases hy:y=32
    · subst hy
      simp at h
      exact h.1.symm
    · rw[List.dropWhile_cons_of_pos (by simpa using hy)] at h
      exact ih x t h
  exact h7 s _ _ (h4.symm.trans h2)
 have h8:s.take (bF s).length++s.drop (bF s).length=s:=List.take_append_drop _ _
 rw[q2,List.drop_eq_getElem_cons q4,h3,q3] at h8
 exact h8.symm
theorem aGa {s:List UInt8} (h: (dD s).length=3): ∃a b c,dD s=[a,b,c]∧s=a++32::(b++32::c):=by
 have h0:=vn _ s rfl
 have hn:Lib.count s [32]=2:=by
  rw[dD] at h;omega
 have h1:fZ s=true:=by
  cases hs:fZ s with
  |true=>rfl
  |false=>rw[wh hs] at hn;cases hn
 rw[tF,if_pos h1] at hn
 have h2:fZ (aP s)=true:=by
  cases hs:fZ (aP s) with
  |true=>rfl
  |false=>rw[wh hs] at hn;cases hn
 have hn2:Lib.count s [32]=2:=by rw[tF,if_pos h1];exact hn
 refine⟨bF s,bF (aP s),aP (aP s),?_,?_⟩
 · rw[dD,hn2]
   simp only[iU,h1,h2,if_true]
 · rw[← wl h2,← wl h1]
theorem aMb {s:List UInt8} (h: (iQ (dD s)&&(dD s).length==3)=true):s=wJ (three (dD s)):=by
 rw[aW4,beq_iff_eq] at h
 obtain⟨a,b,c,hl,hs⟩:=aGa h.2
 have hk:=h.1
 rw[hl] at hk ⊢
 simp only[iQ,List.all_cons,List.all_nil,Bool.and_true,aW4] at hk
 obtain⟨ha,hb,hc⟩:=hk
 obtain⟨x,hx⟩:=Option.isSome_iff_exists.1 ha
 obtain⟨y,hy⟩:=Option.isSome_iff_exists.1 hb
 obtain⟨z,hz⟩:=Option.isSome_iff_exists.1 hc
 unfold wJ three
 simp only[List.getD_cons_zero,List.getD_cons_succ,sC hx,sC hy,sC hz,aWz,(uZ hx).1,(uZ hy).1,(uZ hz).1]
 exact hs
theorem ix {l:List bA} (hk:kB l=true) {f m:Int} (hp:0≤aW l f m):eP (l.getD (aW l f m).toNat .zero)=true∧(l.getD (aW l f m).toNat .zero).frm=f∧(l.getD (aW l f m).toNat .zero).num=m∧(aW l f m).toNat<l.length:=by
 rcases hG (oQ l f m) l.length 0 with h|⟨k,h,_,h2,h3,_⟩
 · rw[aW,h] at hp;omega
 · have e:aW l f m=k:=h
   rw[e,aWz]
   have h4:=h3
   unfold oQ at h4
   simp only[aW4,beq_iff_eq] at h4
   exact⟨tG hk (dG (by omega)),h4.1,h4.2,by omega⟩
theorem wK {l:List cB} (h:oC l=true) {x:cB} (hx:x∈l):lK x=true:=by
 obtain⟨i,hi⟩:=List.mem_iff_getElem?.1 hx
 have hlt:=(aXb.1 hi).1
 have h1:=aXe.1 h i (List.mem_range.2 hlt)
 unfold mO at h1
 rw[aW4] at h1
 have h2:=h1.1
 rw[aW7,hi] at h2
 exact h2
theorem aGb {k:bB} {m:cB} (hm:lK m=false) {p:cB→Bool}:dJ {k with marks:=qO p m k.marks}=false:=by
 cases h:dJ {k with marks:=qO p m k.marks} with
 |false=>rfl
 |true=>
  obtain⟨_,⟨_,h2,_⟩,_⟩:=(cC _).1 h
  rw[wK h2 (yG.2 (.inl rfl))] at hm
  cases hm
theorem lk {l:List bA} (hk:kB l=true) {m:cB} (hm:lK m=false): ¬(0≤aW l m.frm m.num∧(l.getD (aW l m.frm m.num).toNat .zero).til=m.til):=by
 rintro⟨h1,h2⟩
 obtain⟨q1,q2,q3,_⟩:=ix hk h1
 have:=aF8 q1
 rw[q2,q3,h2] at this
 rw[show m=⟨m.frm,m.num,m.til⟩ from rfl,this] at hm
 cases hm
theorem aIy {k:bB} (hk:dJ k=true) {w:List UInt8} {m:cB} (hm:lK m=false):mA k (iX k w m)=(k,false):=by
 obtain⟨_,⟨h1,_,h2⟩,_⟩:=(cC _).1 hk
 unfold iX
 rw[if_neg (by
  intro h
  simp only[aW4,decide_eq_true_eq,beq_iff_eq] at h
  exact lk h1 hm ⟨h.1.2,h.2⟩),if_neg (by
  intro h
  simp only[aW4,decide_eq_true_eq,beq_iff_eq] at h
  exact lk h2 hm ⟨h.1.2,h.2⟩)]
 split
 · exact qQ (.inr (aGb hm))
 · exact qQ (.inl rfl)
def ll (k:bB) (w:List UInt8) (m:cB):bB×Bool:=
 if w==nP then(if decide (aW k.held m.frm m.num<0)||(k.held.getD (aW k.held m.frm m.num).toNat .zero).til != m.til then(k,false) else kz k m.frm m.num)
 else if w==mS then(if decide (aW k.inbox m.frm m.num<0)||(k.inbox.getD (aW k.inbox m.frm m.num).toNat .zero).til != m.til then(k,false) else lc k m.frm m.num)
 else if w==iD then(if gR k.marks m.frm m.num≥0 then(k,false) else({k with marks:=oE k.marks m},true))
 else(k,false)
theorem lm {l:List bA} {m:cB} (h: ¬(0≤aW l m.frm m.num∧(l.getD (aW l m.frm m.num).toNat .zero).til=m.til)): (decide (aW l m.frm m.num<0)||(l.getD (aW l m.frm m.num).toNat .zero).til != m.til)=true:=by
 by_cases h1:aW l m.frm m.num<0
 · simp[h1]
 · have h2: ¬(l.getD (aW l m.frm m.num).toNat .zero).til=m.til:=fun e=>h ⟨by omega,e⟩
   rw[Bool.or_eq_true]
   exact .inr (by simpa only[bne_iff_ne,ne_eq] using h2)
theorem aMc {k:bB} (hk:dJ k=true) {w:List UInt8} {m:cB} (hm:lK m=false):mA k (ll k w m)=(k,false):=by
 obtain⟨_,⟨h1,_,h2⟩,_⟩:=(cC _).1 hk
 unfold ll
 rw[if_pos (lm (lk h1 hm)),if_pos (lm (lk h2 hm))]
 split
 · exact qQ (.inl rfl)
 · split
   · exact qQ (.inl rfl)
   · split
     · split
       · exact qQ (.inl rfl)
       · exact qQ (.inr (aGb hm))
     · exact qQ (.inl rfl)
theorem aAc {k:bB} (hk:dJ k=true) {i:Nat} (hi:i<k.held.length):gR k.marks (k.held.getD i .zero).frm (k.held.getD i .zero).num<0:=by
 obtain⟨_,_,h,_⟩:=(cC _).1 hk
 have h1:=aXe.1 h i (List.mem_range.2 hi)
 unfold tS at h1
 simp only[aW4,decide_eq_true_eq] at h1
 exact h1.2
theorem aMd {k:bB} (hk:dJ k=true) (w:List UInt8) (m:cB):iX k w m=ll k w m:=by
 obtain⟨_,⟨h1,_,h2⟩,_⟩:=(cC _).1 hk
 have l1: (nP==mS)=false:=by decide
 have l2: (nP==iD)=false:=by decide
 have l3: (mS==iD)=false:=by decide
 have l4: (mS==nP)=false:=by decide
 have l5: (iD==nP)=false:=by decide
 have l6: (iD==mS)=false:=by decide
 unfold iX ll
 by_cases w1:w=nP
 · subst w1
   rw[if_pos (show(nP==nP)=true by decide)]
   by_cases h:0≤aW k.held m.frm m.num∧(k.held.getD (aW k.held m.frm m.num).toNat .zero).til=m.til
   · obtain⟨q1,q2,q3,q4⟩:=ix h1 h.1
     have hu:=aAc hk q4
     rw[q2,q3] at hu
     rw[if_pos (by rw[h.2];simp[h.1]),if_neg (by rw[h.2];simp[h.1]),kz,if_pos h.1,h.2,iw (n:=⟨m.frm,m.num,m.til⟩) hu]
   · rw[if_pos (lm h),if_neg (by
      intro h9
      simp only[aW4,decide_eq_true_eq,beq_iff_eq] at h9
      exact h ⟨h9.1.2,h9.2⟩),if_neg (by rw[l1];simp),if_neg (by rw[l2];simp)]
 · have w1': (w==nP)=false:=by simpa using w1
   rw[if_neg (by rw[w1'];simp),if_neg (show ¬(w==nP)=true by rw[w1'];simp)]
   by_cases w2:w=mS
   · subst w2
     rw[if_pos (show(mS==mS)=true by decide)]
     by_cases h:0≤aW k.inbox m.frm m.num∧(k.inbox.getD (aW k.inbox m.frm m.num).toNat .zero).til=m.til
     · rw[if_pos (by rw[h.2];simp[h.1]),if_neg (by rw[h.2];simp[h.1]),lc,if_pos h.1]
     · rw[if_pos (lm h),if_neg (by
        intro h9
        simp only[aW4,decide_eq_true_eq,beq_iff_eq] at h9
        exact h ⟨h9.1.2,h9.2⟩),if_neg (by rw[l3];simp)]
   · have w2': (w==mS)=false:=by simpa using w2
     rw[if_neg (by rw[w2'];simp),if_neg (show ¬(w==mS)=true by rw[w2'];simp)]
     by_cases w3:w=iD
     · subst w3
       rw[if_pos (show(iD==iD)=true by decide)]
       by_cases h:gR k.marks m.frm m.num<0
       · rw[if_pos (by simp[h]),if_neg (by omega),iw h]
       · rw[if_neg (by simp[h]),if_pos (by omega)]
     · have w3': (w==iD)=false:=by simpa using w3
       rw[if_neg (by rw[w3'];simp),if_neg (show ¬(w==iD)=true by rw[w3'];simp)]
theorem aIz {k:bB} (hk:dJ k=true) (w r:List UInt8):
 qP k (if iQ (dD r)&&(dD r).length==3 then iX k w (three (dD r)) else(k,false)) (if !(mP 3 r==[])|| !(r==gh (hO r)) then(k,false) else ll k w (hO r)):=by
 by_cases h: ∃m,lK m=true∧r=wJ m
 · obtain⟨m,hm,rfl⟩:=h
   obtain⟨q1,q2,q3,q4,q5⟩:=aCa hm
   rw[q3,q4,q5,aF9 hm,q1,q2,if_pos (by decide),if_neg (by simp),aMd hk]
   exact .rfl
 · have hL:mA k (if iQ (dD r)&&(dD r).length==3 then iX k w (three (dD r)) else(k,false))=(k,false):=by
    split
    · rename_i h1
      refine aIy hk ?_
      cases h2:lK (three (dD r)) with
      |false=>rfl
      |true=>exact absurd ⟨_,h2,aMb h1⟩ h
    · exact qQ (.inl rfl)
   have hR:mA k (if !(mP 3 r==[])|| !(r==gh (hO r)) then(k,false) else ll k w (hO r))=(k,false):=by
    split
    · exact qQ (.inl rfl)
    · rename_i h1
      refine aMc hk ?_
      cases h2:lK (hO r) with
      |false=>rfl
      |true=>
       refine absurd ⟨_,h2,?_⟩ h
       rw[← aF9 h2]
       simp only[Bool.or_eq_true,Bool.not_eq_true',not_or,Bool.not_eq_false,beq_iff_eq] at h1
       exact h1.2
   exact hL.trans hR.symm
theorem fj (k:bB) (rec:List UInt8):iB k rec=dA k rec:=by
 unfold iB dA
 by_cases hk:dJ k=true
 · rw[if_pos hk,if_pos hk]
   symm
   show qP k _ _
   obtain⟨⟨_,⟨t0,_⟩,⟨n0,_⟩,_⟩,_⟩:=(cC _).1 hk
   have hS: ∀w r,bF rec=w→aP rec=r→gD k rec=(if w==jH then(if gS r≤k.time then(k,false) else(kU k (gS r),true))
    else if w==kE then(if !(eD r).2||(eD r).1.frm != k.id||(eD r).1.num != k.next then(k,false) else mT {k with next:=wrap64 (k.next+1)} (eD r).1)
    else if w==gK then(if !(eD r).2||(eD r).1.frm==k.id then(k,false) else mT k (eD r).1)
    else if w==jL then(if gS r≤k.next then(k,false) else({k with next:=gS r},true))
    else if w==gY||w==fR then
     (if !(eD r).2||decide (aW k.held (eD r).1.frm (eD r).1.num≥0)||decide (aW k.inbox (eD r).1.frm (eD r).1.num≥0) then(k,false)
      else if w==gY then({k with held:=kD k.held (eD r).1},true) else({k with inbox:=kD k.inbox (eD r).1},true))
    else if !(mP 3 r==[])|| !(r==gh (hO r)) then(k,false) else ll k w (hO r)):=by
    rintro w r rfl rfl;rfl
   have hI: ∀w r,bF rec=w→aP rec=r→eS k rec=(if fZ rec then
    if w==jH||w==jL then(if(jN r).isSome then lF k w (jE r) else(k,false))
    else if w==kE||w==gK||w==gY||w==fR then(if(eD r).2 then gC k w (eD r).1 else(k,false))
    else if w==nP||w==mS||w==iD then(if iQ (dD r)&&(dD r).length==3 then iX k w (three (dD r)) else(k,false))
    else(k,false)
    else(k,false)):=by
    rintro w r rfl rfl;rfl
   cases hs:fZ rec with
   |false=>
    obtain⟨_,_,hr⟩:=(gA rec).2 hs
    rw[hI _ _ rfl rfl,hs,hS _ _ rfl hr]
    have hd:gS []= -1:=rfl
    have hrd:eD []=(.zero,false):=rfl
    have hl: ([]==gh (hO []))=false:=by
     have:gh (hO [])≠[]:=by simp[gh]
     simpa using this
    rw[hd,hrd,hl]
    refine .no (.inl rfl) (.inl ?_)
    rw[if_pos (show(-1:Int)≤k.time by omega),if_pos (show(-1:Int)≤k.next by omega)]
    simp
   |true=>
    rw[hI _ _ rfl rfl,hs,hS _ _ rfl rfl,if_pos rfl]
    generalize aP rec=r
    generalize bF rec=w
    by_cases e1:w=jH
    · subst e1;exact aIv hk r
    by_cases e2:w=jL
    · subst e2;exact aIw hk r
    by_cases e3:w=kE
    · subst e3;exact aMa (eD r)
    by_cases e4:w=gK
    · subst e4;exact aF7 (eD r)
    by_cases e5:w=gY∨w=fR
    · have hx:=aIx (k:=k) w e5 (eD r)
      rcases e5 with rfl|rfl<;>exact hx
    have b1: (w==jH)=false:=by simpa using e1
    have b2: (w==jL)=false:=by simpa using e2
    have b3: (w==kE)=false:=by simpa using e3
    have b4: (w==gK)=false:=by simpa using e4
    have b5: (w==gY)=false:=by simpa using fun h=>e5 (.inl h)
    have b6: (w==fR)=false:=by simpa using fun h=>e5 (.inr h)
    rw[b1,b2,b3,b4,b5,b6]
    show qP k (if w==nP||w==mS||w==iD then _ else(k,false)) (if !(mP 3 r==[])|| !(r==gh (hO r)) then(k,false) else ll k w (hO r))
    cases h7: (w==nP||w==mS||w==iD) with
    |true=>exact aIz hk w r
    |false=>
     simp only[Bool.or_eq_false_iff] at h7
     refine .no (.inl rfl) (.inl ?_)
     split
     · rfl
     · unfold ll
       rw[h7.1.1,h7.1.2,h7.2];rfl
 · rw[if_neg hk,if_neg hk]
structure hP where
 num:Int
 data:List UInt8
 deriving DecidableEq
structure dT where
 frm:Int
 num:Int
 to:Int
 til:Int
 size:Int
 got:List hP
 deriving DecidableEq
structure aH where
 id:Int
 up:Bool
 log:List UInt8
 forced:Int
 halves:List dT
 deriving DecidableEq
def hP.row (m:hP):List D:=[.i m.num,.s m.data]
def cM (l:List hP):List (List D):=l.map hP.row
def dT.row (h:dT):List D:=[.i h.frm,.i h.num,.i h.to,.i h.til,.i h.size,.sl (cM h.got)]
def aX (l:List dT):List (List D):=l.map dT.row
abbrev hP.V (m:hP):V:= .e (.agg [.d (.i m.num),.d (.s m.data)])
abbrev dT.V (h:dT):V:= .e (.agg [.d (.i h.frm),.d (.i h.num),.d (.i h.to),.d (.i h.til),.d (.i h.size),.d (.sl (cM h.got))])
abbrev aH.V (k:aH):V:= .e (.agg [.d (.i k.id),.d (.b k.up),.d (.s k.log),.d (.i k.forced),.d (.sl (aX k.halves))])
def hP.zero:hP:=⟨0,[]⟩
def dT.zero:dT:=⟨0,0,0,0,0,[]⟩
def aH.zero:aH:=⟨0,false,[],0,[]⟩
theorem bG (l:List hP): (cM l).length=l.length:=by simp[cM]
theorem aG (l:List dT): (aX l).length=l.length:=by simp[aX]
theorem qS (l:List hP): ∀r∈cM l,r.length=2:=by
 intro r hr
 obtain⟨b,_,rfl⟩:=aXd.1 hr
 rfl
theorem sR (l:List dT): ∀r∈aX l,r.length=6:=by
 intro r hr
 obtain⟨b,_,rfl⟩:=aXd.1 hr
 rfl
theorem mB {l:List hP} {i:Nat} (h:i<l.length): (cM l).getD i []=(l.getD i .zero).row:=by
 rw[aW7,aW7]
 simp[cM,h]
theorem gJ {l:List dT} {i:Nat} (h:i<l.length): (aX l).getD i []=(l.getD i .zero).row:=by
 rw[aW7,aW7]
 simp[aX,h]
theorem zT (l:List hP) (x:hP):cM l++[x.row]=cM (l++[x]):=by simp[cM]
theorem oW (l:List dT) (x:dT):aX l++[x.row]=aX (l++[x]):=by simp[aX]
theorem aGc (l:List hP) (a b:Nat): ∀r∈((cM l).take a).drop b,r.length=2:=fun r hr=>qS l r (List.mem_of_mem_take (List.mem_of_mem_drop hr))
theorem ln (l:List dT) (a b:Nat): ∀r∈((aX l).take a).drop b,r.length=6:=fun r hr=>sR l r (List.mem_of_mem_take (List.mem_of_mem_drop hr))
def wL (m:hP):Bool:=iK m.num 0 999&&decide ((m.data.length:Int)=4)
def oF (l:List hP) (i:Nat):Bool:=wL (l.getD i .zero)&&(aXc i).all fun j=> !((l.getD j .zero).num==(l.getD i .zero).num)
def qT (h:dT):Bool:=eN h.frm&&eN h.to&&iK h.num 1 99&&iK h.til 1 999&&iK h.size 1 24&&decide ((h.got.length:Int)≤14)
def mD (h:dT):Bool:=qT h&&(aXc h.got.length).all (oF h.got)
def iJ (l:List dT) (f n:Int) (i:Nat):Bool:=(l.getD i .zero).frm==f&&(l.getD i .zero).num==n
def gV (l:List dT) (f n:Int):Int:=lE (iJ l f n) 0 l.length
def iF (l:List dT) (i:Nat):Bool:=mD (l.getD i .zero)&&(aXc i).all fun j=> !iJ l (l.getD i .zero).frm (l.getD i .zero).num j
def jW (k:aH):Bool:=eN k.id&&dP k.log k.forced&&decide ((k.halves.length:Int)≤3)&&(k.up||decide (k.halves.length=0))
def bC (k:aH):bB×Bool:=dS k.id (bD k.log).1
def zU (k:aH):bB×Bool:=dS k.id (bD (k.log.take k.forced.toNat)).1
def aT (k:aH):Bool:=jW k&&(bC k).2&&(zU k).2&&(aXc k.halves.length).all (iF k.halves)
theorem iM {l:List UInt8} {f:Int} (h:dP l f=true):l.length≤2400∧(0≤f∧f≤l.length)∧(bD l).2=l.length∧((bD (l.take f.toNat)).2:Int)=f:=by
 simp only[dP,iK,aW4,decide_eq_true_eq] at h
 exact⟨h.1.1.1,h.1.1.2,h.1.2,h.2⟩
theorem aMe {s r:List UInt8} {n:Nat} (h:iC s=some (r,n)):r.length≤s.length:=by
 unfold iC at h
 split at h
 · cases h
 · split at h
   · cases h
   · split at h
     · cases h
       rw[aW9,aW5];omega
     · cases h
theorem gk: ∀(k:Nat) (s:List UInt8),s.length≤k→ ∀x∈(bD s).1,x.length≤s.length
 |0,s,h,x,hx=>by
  obtain rfl:s=[]:=List.eq_nil_of_length_eq_zero (by omega)
  rw[fD nD] at hx;cases hx
 |k+1,s,h,x,hx=>by
  cases hr:iC s with
  |none=>rw[fD hr] at hx;cases hx
  |some p=>
   obtain⟨r,n⟩:=p
   have h1:=pL hr
   rw[jK hr] at hx
   rcases List.mem_cons.1 hx with rfl|hx
   · exact aMe hr
   · have:=gk k (s.drop n) (by rw[aW9];omega) x hx
     rw[aW9] at this;omega
theorem jF (s:List UInt8) (h:s.length≤900000): (bD s).1.length≤900000∧ ∀x∈(bD s).1,x.length≤900000:=
 ⟨by have:=(qM s.length s (aXa _)).2;omega,fun x hx=>by have:=gk s.length s (aXa _) x hx;omega⟩
theorem lQ {h:dT} (hh:qT h=true):eN h.frm=true∧eN h.to=true∧(1≤h.num∧h.num≤99)∧(1≤h.til∧h.til≤999)∧(1≤h.size∧h.size≤24)∧h.got.length≤14:=by
 simp only[qT,iK,aW4,decide_eq_true_eq] at hh
 obtain⟨⟨⟨⟨⟨h1,h2⟩,h3⟩,h4⟩,h5⟩,h6⟩:=hh
 exact⟨h1,h2,h3,h4,h5,by omega⟩
theorem fL {k:aH} (h:jW k=true):eN k.id=true∧dP k.log k.forced=true∧k.halves.length≤3∧(k.up=true∨k.halves.length=0):=by
 simp only[jW,aW4,Bool.or_eq_true,decide_eq_true_eq] at h
 obtain⟨⟨⟨h1,h2⟩,h3⟩,h4⟩:=h
 exact⟨h1,h2,by omega,h4⟩
theorem rx {l:List hP} {i:Nat} (h1:wL (l.getD i .zero)=true) (h2: ∀j,j<i→((l.getD j .zero).num==(l.getD i .zero).num)=false):oF l i=true:=by
 unfold oF
 rw[h1,Bool.true_and]
 exact iP fun j hj=>by rw[h2 j hj];rfl
theorem ry {l:List hP} {i:Nat} (h1:wL (l.getD i .zero)=false):oF l i=false:=by
 unfold oF;rw[h1];rfl
theorem wm {l:List hP} {i j:Nat} (hj:j<i) (h2: ((l.getD j .zero).num==(l.getD i .zero).num)=true):oF l i=false:=by
 unfold oF
 rw[fU hj (by rw[h2];rfl),Bool.and_false]
theorem aDt {l:List dT} {i:Nat} (h1:mD (l.getD i .zero)=true) (h2: ∀j,j<i→iJ l (l.getD i .zero).frm (l.getD i .zero).num j=false):iF l i=true:=by
 unfold iF
 rw[h1,Bool.true_and]
 exact iP fun j hj=>by rw[h2 j hj];rfl
theorem aDu {l:List dT} {i:Nat} (h1:mD (l.getD i .zero)=false):iF l i=false:=by
 unfold iF;rw[h1];rfl
theorem aGd {l:List dT} {i j:Nat} (hj:j<i) (h2:iJ l (l.getD i .zero).frm (l.getD i .zero).num j=true):iF l i=false:=by
 unfold iF
 rw[fU hj (by rw[h2];rfl),Bool.and_false]
theorem aMf (l:List dT) (f m:Int): -1≤gV l f m∧gV l f m<l.length:=by
 rcases hG (iJ l f m) l.length 0 with h|⟨k,h,_,h2,_⟩<;>rw[gV,h]<;>omega
theorem aI0 {l:List dT} {i:Nat} (hi:i<l.length): (decide (gV l (l.getD i .zero).frm (l.getD i .zero).num< (i:Int)))= !((aXc i).all fun j=> !iJ l (l.getD i .zero).frm (l.getD i .zero).num j):=by
 have hself:iJ l (l.getD i .zero).frm (l.getD i .zero).num i=true:=by simp[iJ]
 by_cases h: ∃j,j<i∧iJ l (l.getD i .zero).frm (l.getD i .zero).num j=true
 · obtain⟨j,hj,hji⟩:=h
   rw[fU hj (by rw[hji];rfl)]
   rcases hG (iJ l (l.getD i .zero).frm (l.getD i .zero).num) l.length 0 with h1|⟨k,h1,_,h2,h3,h4⟩
   · exact decide_eq_true (by rw[gV,h1];omega)
   · refine decide_eq_true ?_
     rw[gV,h1]
     by_cases hk:k<i
     · omega
     · have:=h4 j (aW6 _) (by omega)
       rw[hji] at this;cases this
 · have h0: ∀j,j<i→iJ l (l.getD i .zero).frm (l.getD i .zero).num j=false:=fun j hj=>by
    cases hh:iJ l (l.getD i .zero).frm (l.getD i .zero).num j with
    |false=>rfl
    |true=>exact absurd ⟨j,hj,hh⟩ h
   rw[iP (fun j hj=>by rw[h0 j hj];rfl),gV,lV (aW6 _) (by omega) (fun j _ hj=>h0 j hj) hself]
   simp
theorem aTa (a b:Int):decide (a>b)= !decide (a≤b):=by
 by_cases h:a≤b
 · simp[h,Int.not_lt.2 h]
 · simp[h,Int.not_le.1 h]
theorem mixC {a:Bool} {n:Int} (h: (!a||n != 4)=true): (!a|| !decide (n=4))=true:=by
 have e: (n != 4)= !decide (n=4):=by by_cases h:n=4<;>simp[h]
 rw[← e];exact h
theorem aWx {a:Bool} {n:Int} (h: (!a||n != 4)=false): (a&&decide (n=4))=true:=by
 have e: (n != 4)= !decide (n=4):=by by_cases h:n=4<;>simp[h]
 rw[e] at h
 cases a<;>simp_all
theorem lp {l:List dT} {i:Nat} {c:Bool} (hi:i<l.length) (h: (!mD (l.getD i .zero)||decide (gV l (l.getD i .zero).frm (l.getD i .zero).num< (i:Int)))=c):iF l i= !c:=by
 subst h
 rw[aI0 hi,iF,Bool.not_or,Bool.not_not,Bool.not_not]
theorem xH {k:aH} (h:jW k=false):aT k=false:=by rw[aT,h];rfl
theorem rz {k:aH} {a b:Bool} (h: (!a|| !b)=true) (h2: ((bC k).2=a∧(zU k).2=b)∨((bC k).2=b∧(zU k).2=a)):aT k=false:=by
 unfold aT
 rcases h2 with⟨h1,h2⟩|⟨h1,h2⟩<;>rw[h1,h2]<;>cases a<;>cases b<;>simp_all
theorem lq {k:aH} {a b:Bool} (hh:jW k=true) (h: (!a|| !b)=false) (h2: ((bC k).2=a∧(zU k).2=b)∨((bC k).2=b∧(zU k).2=a)):aT k=(aXc k.halves.length).all (iF k.halves):=by
 unfold aT
 rcases h2 with⟨h1,h2⟩|⟨h1,h2⟩<;>rw[h1,h2,hh]<;>cases a<;>cases b<;>simp_all
theorem lr {h:dT} {c:Bool} (hh: (!eN h.frm|| !eN h.to|| !iK h.num 1 99|| !iK h.til 1 999|| !iK h.size 1 24||decide (((cM h.got).length:Int)>14))=c):qT h= !c:=by
 subst hh
 rw[bG,aTa]
 unfold qT
 simp only[Bool.not_or,Bool.not_not]
theorem zV {k:aH} {c:Bool} (hh: (!eN k.id|| !dP k.log k.forced||decide (((aX k.halves).length:Int)>3)||(!k.up&&decide (((aX k.halves).length:Int)>0)))=c):jW k= !c:=by
 subst hh
 have e:decide ((k.halves.length:Int)>0)= !decide (k.halves.length=0):=by
  by_cases h:k.halves.length=0
  · rw[h];rfl
  · rw[decide_eq_true (show(k.halves.length:Int)>0 by omega),decide_eq_false h];rfl
 rw[aG,aTa,e]
 unfold jW
 simp only[Bool.not_or,Bool.not_not,Bool.not_and]
theorem wn {l:List UInt8} {f:Int} (h: (decide ((l.length:Int)>2400)|| !iK f 0 l.length)=true):dP l f=false:=by
 unfold dP
 rcases Bool.or_eq_true _ _▸h with h|h
 · rw[decide_eq_false (show ¬l.length≤2400 by have:=of_decide_eq_true h;omega)];rfl
 · rw[Bool.not_eq_true'] at h
   rw[h];simp
theorem sa {l:List UInt8} {f:Int} (h: (decide ((l.length:Int)>2400)|| !iK f 0 l.length)=false): (l.length≤2400∧0≤f∧f≤l.length)∧dP l f=(((bD l).2:Int)==(l.length:Int)&&((bD (l.take f.toNat)).2:Int)==f):=by
 rw[Bool.or_eq_false_iff] at h
 have h1:l.length≤2400:=by have:=of_decide_eq_false h.1;omega
 have h2:iK f 0 l.length=true:=by simpa using h.2
 have h3:0≤f∧f≤l.length:=by simpa[iK] using h2
 refine⟨⟨h1,h3⟩,?_⟩
 unfold dP
 rw[decide_eq_true h1,h2,Bool.true_and,Bool.true_and]
 congr 1
 by_cases e: (bD l).2=l.length
 · rw[e];simp
 · rw[decide_eq_false e]
   symm
   rw[beq_eq_false_iff_ne]
   omega
def aH.row (k:aH):List D:=[.i k.id,.b k.up,.s k.log,.i k.forced,.sl (aX k.halves)]
def eT (l:List UInt8) (f:Int):List UInt8×Int:=if dP l f then(l,l.length) else([],0)
def gF (l:List UInt8) (f keep:Int):Int:=f+(if 0<min keep (l.length - f) then min keep (l.length - f) else 0)
def iG (l:List UInt8) (f keep:Int):Nat:=(bD (l.take (gF l f keep).toNat)).2
def fG (l:List UInt8) (f keep:Int):List UInt8×Int:=if dP l f then(l.take (iG l f keep),iG l f keep) else([],0)
def fW (rec:List UInt8):List UInt8:=jZ rec.length++[58]++rec++[59]
def kK (rec:List UInt8):Bool:=iK rec.length 1 60
def aZ (l:List UInt8) (f:Int) (rec:List UInt8): (List UInt8×Int)×Bool:=
 if dP l f then(if kK rec&&decide (l.length+(fW rec).length≤2400) then((l++fW rec,f),true) else((l,f),false)) else(([],0),false)
def dE (recs:List (List UInt8)):List UInt8:=(recs.map fW).flatten
def dW (l:List UInt8) (f:Int) (recs:List (List UInt8)): (List UInt8×Int)×Bool:=
 if dP l f then(if recs.all kK&&decide ((dE recs).length≤2400) then((dE recs,(dE recs).length),true) else((l,f),false)) else(([],0),false)
theorem lu {l:List UInt8} {f keep:Int} (h:0≤f∧f≤l.length):f≤gF l f keep∧gF l f keep≤l.length:=by
 unfold gF
 split<;>omega
theorem iy (l:List UInt8) (f keep:Int):iG l f keep≤l.length:=by
 have:=(qM _ (l.take (gF l f keep).toNat) (aXa _)).1
 rw[aW5] at this
 unfold iG;omega
theorem wo {l:List UInt8} {f keep:Int}:iG l f keep≤(gF l f keep).toNat:=by
 have:=(qM _ (l.take (gF l f keep).toNat) (aXa _)).1
 rw[aW5] at this
 unfold iG;omega
theorem aMg {l:List UInt8} {f keep:Int}: (l.take (gF l f keep).toNat).take (iG l f keep)=l.take (iG l f keep):=by
 rw[List.take_take];congr 1;have:=wo (l:=l) (f:=f) (keep:=keep);omega
theorem aGe {n:Nat} (h:n<100): (jZ n).length≤2:=bS (k:=1) (by simpa using h)
theorem aGf {rec:List UInt8} (h:kK rec=true):rec.length+3≤(fW rec).length∧(fW rec).length≤rec.length+4∧rec.length≤60:=by
 have h1: (1:Int)≤rec.length∧(rec.length:Int)≤60:=by simpa[kK,iK] using h
 have h2:=aGe (n:=rec.length) (by omega)
 have h3:1≤(jZ rec.length).length:=List.length_pos_iff.2 (aDl _)
 simp only[fW,aW0,aW3,aW2];omega
theorem pU {rec:List UInt8} (h:rec.length≤900000): (fW rec).length≤rec.length+8:=by
 have h2:=bS (k:=5) (n:=rec.length) (by simp;omega)
 simp only[fW,aW0,aW3,aW2];omega
theorem aDv (recs:List (List UInt8)) (r:List UInt8):dE (recs++[r])=dE recs++fW r:=by simp[dE]
theorem aGg:dE []=[]:=rfl
def bZ (k:aH) (keep:Int):aH:=if aT k then⟨k.id,false,(fG k.log k.forced keep).1,(fG k.log k.forced keep).2,[]⟩ else .zero
def cS (k:aH):aH:=if aT k then{k with up:=true} else .zero
def jY (k:aH):aH:={k with log:=(eT k.log k.forced).1,forced:=(eT k.log k.forced).2}
def bX (k:aH):aH×Bool:=if aT k then(if !k.up||k.forced==k.log.length then(k,false) else(jY k,true)) else(.zero,false)
def bM (k:aH):bB:=if aT k then(bC k).1 else .zero
theorem eQ {k:aH} (h:aT k=true):jW k=true∧k.log.length≤2400∧(0≤k.forced∧k.forced≤k.log.length)∧k.halves.length≤3∧(k.up=true∨k.halves=[])∧ ∀x∈k.halves,x.got.length≤14:=by
 have h1:jW k=true:=by
  cases hh:jW k with
  |true=>rfl
  |false=>rw[xH hh] at h;cases h
 obtain⟨_,q1,q2,q3⟩:=fL h1
 obtain⟨q4,q5,_,_⟩:=iM q1
 refine⟨h1,q4,q5,q2,q3.imp (fun h=>h) (fun h=>List.eq_nil_of_length_eq_zero h),fun x hx=> ?_⟩
 unfold aT at h
 rw[aW4] at h
 obtain⟨i,hi⟩:=List.mem_iff_getElem?.1 hx
 have hlt:=(aXb.1 hi).1
 have h2:=aXe.1 h.2 i (List.mem_range.2 hlt)
 unfold iF at h2
 rw[aW4] at h2
 have h3:=h2.1
 rw[aW7,hi] at h3
 have h3:mD x=true:=h3
 unfold mD at h3
 rw[aW4] at h3
 exact(lQ h3.1).2.2.2.2.2
def jr (k:aH):Prop:=k.log.length≤2400∧k.halves.length≤4∧ ∀x∈k.halves,x.got.length≤15
theorem aMh {k:aH} (h:aT k=true) (hu:k.up=false):cS k=⟨k.id,true,k.log,k.forced,[]⟩:=by
 obtain⟨_,_,_,_,h4,_⟩:=eQ h
 have h5:k.halves=[]:=by
  rcases h4 with h4|h4
  · rw[hu] at h4;cases h4
  · exact h4
 rw[cS,if_pos h,← h5]
def xI (b:Int):Nat→Int
 |0=>0
 |d+1=>xI b d+nO b ((d+1:Nat):Int)
def ov (b n:Int):Int:=Int.tmod (wrap64 (Int.tdiv (eX (eX (wrap64 (wrap64 (n*31)+b)))) 16)) (xI b b.toNat)
def bv (b:Int) (r:Int):Nat→Nat→Int
 |0,_=>b
 |f+1,d=>if(d:Int)<b then(if r<xI b d then d else bv b r f (d+1)) else b
def lA (b n:Int):Int:=if tR b n then(if n<b then 1 else bv b (ov b n) 6 1) else 0
theorem vP {b:Int} (hb:1≤b∧b≤6): ∀{d:Nat},(d:Int)≤6→0≤xI b d∧xI b d≤70*d∧(1≤d→10≤xI b d)
 |0,_=>by simp[xI]
 |d+1,h=>by
  have ih:=vP hb (d:=d) (by omega)
  have hw:=vJ (b:=b) (d:=((d+1:Nat):Int)) hb (by omega)
  unfold xI
  refine⟨by omega,by omega,fun _=> ?_⟩
  by_cases h0:d=0
  · subst h0
    have:=hw.2.2 rfl
    omega
  · have:=ih.2.2 (by omega);omega
theorem wt {b r:Int} (hb:1≤b): ∀(f d:Nat),1≤d→1≤bv b r f d∧bv b r f d≤b
 |0,d,h=>by unfold bv;omega
 |f+1,d,h=>by
  unfold bv
  split
  · split
    · omega
    · exact wt hb f (d+1) (by omega)
  · omega
theorem tU {b n:Int} (h:tR b n=true):1≤lA b n∧lA b n≤b:=by
 obtain⟨hb,_⟩:=yB h
 unfold lA
 rw[if_pos h]
 split
 · omega
 · exact wt hb.1 6 1 (aXa _)
theorem aPc {b r:Int} {f d:Nat} (hd: (d:Int)<b) (h:r<xI b d):bv b r (f+1) d=d:=by
 unfold bv;rw[if_pos hd,if_pos h]
theorem aMi {b r:Int} {f d:Nat} (hd: (d:Int)<b) (h: ¬r<xI b d):bv b r (f+1) d=bv b r f (d+1):=by
 conv=>lhs;unfold bv
 rw[if_pos hd,if_neg h]
theorem lv {b r:Int} {f d:Nat} (hd: ¬(d:Int)<b):bv b r f d=b:=by
 cases f with
 |zero=>rfl
 |succ f=>unfold bv;rw[if_neg hd]
def tH (u:List Bool) (b:Int):Nat→Int→Int
 |0,a=>a
 |f+1,a=>if u.getD a.toNat false then tH u b f (Int.tmod (wrap64 (a+1)) b) else a
def zW (b x:Int) (u:List Bool):List Bool:=u.set (tH u b 6 (Int.tmod (wrap64 (Int.tdiv (eX x) 16)) b)).toNat true
def aGh (b:Int):Nat→Int→List Bool→List Bool
 |0,_,u=>u
 |k+1,x,u=>aGh b k (eX x) (zW b x u)
def xJ (b n:Int):List Bool:=aGh b (lA b n).toNat (eX (wrap64 (wrap64 (n*7)+1))) (List.replicate 6 false)
def aUz (u:List Bool):List Int:=((aXc u.length).filter fun i=>u.getD i false).map fun(i:Nat)=>((i:Nat):Int)
def cT (b n:Int):List Int:=if tR b n then(if n<b then [n] else aUz (xJ b n)) else []
theorem fk {u:List Bool} {b a:Int} {f:Nat} (h:u.getD a.toNat false=false):tH u b f a=a:=by
 cases f with
 |zero=>rfl
 |succ f=>unfold tH;rw[h];rfl
theorem zX {u:List Bool} {b a:Int} {f:Nat} (h:u.getD a.toNat false=true):tH u b (f+1) a=tH u b f (Int.tmod (wrap64 (a+1)) b):=by
 conv=>lhs;unfold tH
 rw[if_pos h]
theorem wu {u:List Bool} {b:Int} (hb:1≤b∧b≤6) {f:Int} (hf:0≤f∧f<b) (hfree:u.getD f.toNat false=false): ∀(g:Nat) (a:Int),0≤a∧a<b→((f+b - a) % b).toNat≤g→
 (0≤tH u b g a∧tH u b g a<b)∧u.getD (tH u b g a).toNat false=false
 |0,a,ha,hg=>by
  have e:a=f:=by
   by_cases h:a<f
   · have: (f+b - a) % b=f - a:=by
      rw[show f+b - a=(f - a)+b by omega,Int.add_emod_right,Int.emod_eq_of_lt (by omega) (by omega)]
     omega
   · by_cases h2:a=f
     · exact h2
     · have: (f+b - a) % b=f+b - a:=Int.emod_eq_of_lt (by omega) (by omega)
       omega
  subst e
  exact⟨ha,hfree⟩
 |g+1,a,ha,hg=>by
  cases hu:u.getD a.toNat false with
  |false=>rw[fk hu];exact⟨ha,hu⟩
  |true=>
   have hne:a≠f:=fun e=>by subst e;rw[hfree] at hu;cases hu
   obtain⟨q1,q2⟩:=aIn hb hf ha hne
   rw[zX hu]
   exact wu hb hf hfree g _ q2 (by omega)
theorem aCb {b x:Int} (hb:1≤b∧b≤6):0≤Int.tmod (wrap64 (Int.tdiv (eX x) 16)) b∧Int.tmod (wrap64 (Int.tdiv (eX x) 16)) b<b:=by
 have hr:=cu x
 exact nN (x:=wrap64 (Int.tdiv (eX x) 16)) (n:=b) (by rw[aC (by have:=pJ hr.1 (n:=16) (by omega);omega)];exact(pJ hr.1 (by omega)).1) hb.1
def UOk (b:Int) (u:List Bool):Prop:=u.length=6∧ ∀i:Nat,b≤i→u.getD i false=false
theorem aGi {b:Int} {u:List Bool} (hb:1≤b∧b≤6) (h:UOk b u) (hc: (u.count true:Int)<b): ∃f:Int,(0≤f∧f<b)∧u.getD f.toNat false=false:=by
 obtain⟨f,hf1,hf2⟩:=aFt (u:=u.take b.toNat) (by
  have h1: (u.take b.toNat).count true≤u.count true:=(List.take_sublist _ _).count_le _
  rw[aW5,h.1];omega)
 rw[aW5,h.1] at hf1
 refine⟨f,by omega,?_⟩
 rw[yF (by omega)] at hf2
 rw[aWz];exact hf2
theorem aGj {b x:Int} {u:List Bool} (hb:1≤b∧b≤6) (h:UOk b u) (hc: (u.count true:Int)<b):UOk b (zW b x u)∧(zW b x u).count true=u.count true+1:=by
 obtain⟨f,hf,hfree⟩:=aGi hb h hc
 have ha:=aCb (x:=x) hb
 obtain⟨q1,q2⟩:=wu hb hf hfree 6 _ ha (by
  have:=Int.emod_lt_of_pos (f+b - Int.tmod (wrap64 (Int.tdiv (eX x) 16)) b) (show 0<b by omega)
  have:=Int.emod_nonneg (f+b - Int.tmod (wrap64 (Int.tdiv (eX x) 16)) b) (show b≠0 by omega)
  omega)
 refine⟨⟨by rw[zW,List.length_set];exact h.1,fun i hi=> ?_⟩,?_⟩
 · rw[zW,aW7,List.getElem?_set_ne (by omega),← aW7]
   exact h.2 i hi
 · exact aLr (by rw[h.1];omega) q2
theorem yJ (b:Int):UOk b (List.replicate 6 false)∧(List.replicate 6 false).count true=0:=by
 refine⟨⟨rfl,fun i _=> ?_⟩,rfl⟩
 rw[aW7,List.getElem?_replicate]
 split<;>rfl
def dV (t:List UInt8):List (List UInt8):=if iK t.length 1 24 then(aXc ((t.length+3) / 4)).map fun i=>(aXc 4).map fun j=>t.getD (4*i+j) 0 else []
def aAd (a b:List UInt8):List UInt8:=(aXc 4).map fun i=>u8 (nk (jG a i) (jG b i))
def yK (bl:List (List UInt8)):List UInt8→List Int→List UInt8
 |x,[]=>x
 |x,k::ks=>yK bl (aAd x (bl.getD k.toNat [])) ks
def zY (t:List UInt8) (n:Int):List UInt8:=
 if dV t=[]∨cT (dV t).length n=[] then [] else yK (dV t) [0,0,0,0] (cT (dV t).length n)
def lL (n:Nat):List UInt8:=jH++[32]++jZ n
def pC (n:Nat):List UInt8:=jL++[32]++jZ n
def kV (w:List UInt8) (m:cB):List UInt8:=w++[32]++jZ m.frm.toNat++[32]++jZ m.num.toNat++[32]++jZ m.til.toNat
def eH (w:List UInt8) (n:bA):List UInt8:=w++[32]++gB n
def iz (k:bB):List (List UInt8):=
 (if 0<k.time then [lL k.time.toNat] else [])++(if 1<k.next then [pC k.next.toNat] else [])++k.marks.map (kV iD)++k.held.map (eH gY)++k.inbox.map (eH fR)
def eE (k:bB):List (List UInt8):=if dJ k then iz k else []
def kG (k:aH) (s:List UInt8×Int):aH:={k with log:=s.1,forced:=s.2}
def pX (k:aH) (rec:List UInt8):aH×Bool:=
 if(dA (bC k).1 rec).2 then
  if(aZ k.log k.forced rec).2 then(kG k (aZ k.log k.forced rec).1,true)
  else if(dW k.log k.forced (eE (bC k).1)).2 then
   if(aZ (dW k.log k.forced (eE (bC k).1)).1.1 (dW k.log k.forced (eE (bC k).1)).1.2 rec).2 then
    (kG k (aZ (dW k.log k.forced (eE (bC k).1)).1.1 (dW k.log k.forced (eE (bC k).1)).1.2 rec).1,true)
   else(k,false)
  else(k,false)
 else(k,false)
def iZ (k:aH) (rec:List UInt8):aH×Bool:=if(pX k rec).2 then(jY (pX k rec).1,true) else(k,false)
def eA (k:aH):aH×Bool:=if aT k then(if k.up then iZ k (lL ((bC k).1.time+1).toNat) else(k,false)) else(.zero,false)
def pD (k:aH) (to til:Int) (text:List UInt8):bA:=⟨k.id,(bC k).1.next,to,til,text⟩
def dX (k:aH) (to til:Int) (text:List UInt8):aH×Int:=
 if aT k then(if k.up then(if(iZ k (eH kE (pD k to til text))).2 then((iZ k (eH kE (pD k to til text))).1,(bC k).1.next) else(k,0)) else(k,0)) else(.zero,0)
def zZ (k:aH) (f n:Int):List UInt8:=kV mS ⟨f,n,((bC k).1.inbox.getD (aW (bC k).1.inbox f n).toNat .zero).til⟩
def cO (k:aH) (f n:Int):aH×bA×Bool:=
 if aT k then
  (if k.up&&decide (0≤aW (bC k).1.inbox f n) then(if(iZ k (zZ k f n)).2 then((iZ k (zZ k f n)).1,(bC k).1.inbox.getD (aW (bC k).1.inbox f n).toNat .zero,true) else(k,.zero,false)) else(k,.zero,false))
 else(.zero,.zero,false)
def cH.zero:cH:=⟨0,0,0,0,0,0,0,0,0,[]⟩
def aGk (k:aH) (n:bA) (mix:Int):cH:=⟨1,k.id,jB k.id n.to,n.frm,n.num,n.to,n.til,n.text.length,mix,zY n.text mix⟩
def eO (k:aH) (f n mix:Int):cH×Bool:=
 if aT k&&k.up&&iK mix 0 999&&decide (0≤aW (bC k).1.held f n) then(aGk k ((bC k).1.held.getD (aW (bC k).1.held f n).toNat .zero) mix,true) else(.zero,false)
def bU (k:aH):aH×Bool:=
 if aT k then(if k.up&&(dW k.log k.forced (eE (bC k).1)).2 then(kG k (dW k.log k.forced (eE (bC k).1)).1,true) else(k,false)) else(.zero,false)
section
variable {τ σ':St} {rl:List (Nat×Nat)} {bor:List Nat} {r:St}
end
section
variable {P:Program} {T:hD} {o:Oper} {σ:St} {x y:Operand} {d ob j:Nat} {t ty:TypeId} {ti:TI} {Rx Ry:List (dH×Option K)} {k:List (dH×Option K)→List (dH×K)→Prop}
end
theorem aDw {d:Int} (h:2≤d∧d≤6):wrap64 (d*wrap64 (d - 1))≠0:=by
 rw[aC (n:=d - 1) (by omega)]
 have:d=2∨d=3∨d=4∨d=5∨d=6:=by omega
 rcases this with rfl|rfl|rfl|rfl|rfl<;>(rw[aC (by omega)];omega)
theorem su {b n:Int} (h:tR b n=true) (hn:n<b):lA b n=1:=by rw[lA,if_pos h,if_pos hn]
theorem aAe {b n:Int} (h:tR b n=true) (hn: ¬n<b):lA b n=bv b (ov b n) 6 1:=by rw[lA,if_pos h,if_neg hn]
theorem aMj {b r:Int} {j:Nat} (hj:j+1≤6) (hle: ((j+1:Nat):Int)≤b) (h: ¬r<xI b (j+1)):bv b r (6 - j) (j+1)=bv b r (6 - (j+1)) (j+1+1):=by
 by_cases hb: ((j+1:Nat):Int)<b
 · rw[show 6 - j=(6 - (j+1))+1 by omega,aMi hb h]
 · rw[lv hb,lv (by omega)]
theorem aMk {b r:Int} {j:Nat} (hj:j+1≤6) (hle: ((j+1:Nat):Int)≤b) (h:r<xI b (j+1)):bv b r (6 - j) (j+1)=((j+1:Nat):Int):=by
 by_cases hb: ((j+1:Nat):Int)<b
 · rw[show 6 - j=(6 - (j+1))+1 by omega,aPc hb h]
 · rw[lv hb];omega
theorem aI1 {b n:Int} (hb:1≤b∧b≤6):0≤ov b n∧ov b n<xI b b.toNat:=by
 have h1:=(vP hb (d:=b.toNat) (by omega)).2.2 (by omega)
 have hr:=cu (eX (wrap64 (wrap64 (n*31)+b)))
 exact nN (x:=wrap64 (Int.tdiv (eX (eX (wrap64 (wrap64 (n*31)+b)))) 16)) (by rw[aC (by have:=pJ hr.1 (n:=16) (by omega);omega)];exact(pJ hr.1 (by omega)).1) (by omega)
theorem wv {u:List Bool} {b:Int} (hb:1≤b∧b≤6) {f:Int} (hf:0≤f∧f<b) (hfree:u.getD f.toNat false=false): ∀(g h:Nat) (a:Int),0≤a∧a<b→((f+b - a) % b).toNat≤g→((f+b - a) % b).toNat≤h→tH u b g a=tH u b h a
 |g,h,a,ha,hg,hh=>by
  cases hu:u.getD a.toNat false with
  |false=>rw[fk hu,fk hu]
  |true=>
   have hne:a≠f:=fun e=>by subst e;rw[hfree] at hu;cases hu
   obtain⟨q1,q2⟩:=aIn hb hf ha hne
   match g,h,hg,hh with
   |0,_,hg,_=>omega
   |_+1,0,_,hh=>omega
   |g+1,h+1,hg,hh=>
    rw[zX hu,zX hu]
    exact wv hb hf hfree g h _ q2 (by omega) (by omega)
theorem aPd {u:List Bool} {b:Int} (hb:1≤b∧b≤6) {f:Int} (hf:0≤f∧f<b) (hfree:u.getD f.toNat false=false) {a:Int} (ha:0≤a∧a<b) (hu:u.getD a.toNat false=true):tH u b 6 a=tH u b 6 (Int.tmod (wrap64 (a+1)) b):=by
 have h1:=Int.emod_lt_of_pos (f+b - a) (show 0<b by omega)
 have h2:=Int.emod_nonneg (f+b - a) (show b≠0 by omega)
 rw[wv hb hf hfree 6 7 a ha (by omega) (by omega),zX hu]
def pM (u:List Bool) (i:Nat):List Int:=((aXc i).filter fun i=>u.getD i false).map fun(i:Nat)=>((i:Nat):Int)
theorem ww {u:List Bool} {i:Nat} (h:u.getD i false=true):pM u (i+1)=pM u i++[(i:Int)]:=by
 unfold pM
 rw[List.range_succ,List.filter_append,List.map_append,List.filter_cons_of_pos (by exact h)]
 rfl
theorem ow {u:List Bool} {i:Nat} (h:u.getD i false=false):pM u (i+1)=pM u i:=by
 unfold pM
 rw[List.range_succ,List.filter_append,List.map_append,List.filter_cons_of_neg (by rw[h];exact Bool.false_ne_true)]
 exact List.append_nil _
theorem wx {u:List Bool}:pM u u.length=aUz u:=rfl
theorem sc {u:List Bool} {i:Nat} (h: ∀j,i≤j→u.getD j false=false): ∀{m:Nat},i≤m→pM u m=pM u i
 |0,hm=>by rw[Nat.le_zero.1 hm]
 |m+1,hm=>by
  by_cases e:i=m+1
  · rw[e]
  · rw[ow (h m (by omega)),sc h (by omega)]
theorem gl (u:List Bool) (i:Nat): (pM u i).length≤i:=by
 unfold pM
 rw[List.length_map]
 exact Nat.le_trans (List.length_filter_le _ _) (by simp)
theorem aI2 {u:List Bool} {i:Nat} {x:Int} (h:x∈pM u i):0≤x∧u.getD x.toNat false=true:=by
 unfold pM at h
 obtain⟨j,hj,rfl⟩:=aXd.1 h
 have:=(List.mem_filter.1 hj).2
 exact⟨by omega,by rw[aWz];exact this⟩
theorem aa {b n:Int} (h: ¬tR b n=true):cT b n=[]:=if_neg h
theorem db {b n:Int} (h:tR b n=true) (hn:n<b):cT b n=[n]:=by rw[cT,if_pos h,if_pos hn]
theorem oz {b n:Int} (h:tR b n=true) (hn: ¬n<b):cT b n=aUz (xJ b n):=by rw[cT,if_pos h,if_neg hn]
theorem pa {b:Int} (hb:1≤b∧b≤6): ∀(k:Nat) (x:Int) (u:List Bool),UOk b u→((u.count true:Int)+k≤b)→UOk b (aGh b k x u)
 |0,x,u,h,_=>h
 |k+1,x,u,h,hc=>by
  obtain⟨h1,h2⟩:=aGj (x:=x) hb h (by omega)
  exact pa hb k (eX x) _ h1 (by rw[h2];omega)
theorem wM {b n:Int}: ∀x∈cT b n,0≤x∧x<b:=by
 intro x hx
 by_cases h:tR b n=true
 · obtain⟨hb,hn⟩:=yB h
   by_cases hs:n<b
   · rw[db h hs] at hx
     simp at hx;omega
   · rw[oz h hs] at hx
     have hu:UOk b (xJ b n):=pa hb _ _ _ (yJ b).1 (by rw[(yJ b).2];have:=tU h;omega)
     obtain⟨q1,q2⟩:=aI2 (i:=(xJ b n).length) hx
     refine⟨q1,?_⟩
     by_cases hlt:x<b
     · exact hlt
     · rw[hu.2 x.toNat (by omega)] at q2;cases q2
 · rw[aa h] at hx;cases hx
theorem lw (b n:Int): (cT b n).length≤6:=by
 by_cases h:tR b n=true
 · obtain⟨hb,hn⟩:=yB h
   by_cases hs:n<b
   · rw[db h hs];simp
   · rw[oz h hs]
     have hu:UOk b (xJ b n):=pa hb _ _ _ (yJ b).1 (by rw[(yJ b).2];have:=tU h;omega)
     rw[← wx]
     have:=gl (xJ b n) (xJ b n).length
     have:=hu.1;omega
 · rw[aa h];simp
def dc (t:List UInt8) (i c:Nat):List UInt8:=(aXc c).map fun j=>t.getD (4*i+j) 0
def wN (t:List UInt8) (k:Nat):List (List UInt8):=(aXc k).map fun i=>dc t i 4
def wy (a b:List UInt8) (k:Nat):List UInt8:=(aXc k).map fun i=>u8 (nk (jG a i) (jG b i))
theorem ab (t:List UInt8) (i c:Nat):dc t i (c+1)=dc t i c++[t.getD (4*i+c) 0]:=by
 unfold dc;rw[List.range_succ,List.map_append];rfl
theorem aI3 (t:List UInt8) (k:Nat):wN t (k+1)=wN t k++[dc t k 4]:=by
 unfold wN;rw[List.range_succ,List.map_append];rfl
theorem aI4 (a b:List UInt8) (k:Nat):wy a b (k+1)=wy a b k++[u8 (nk (jG a k) (jG b k))]:=by
 unfold wy;rw[List.range_succ,List.map_append];rfl
theorem mF (t:List UInt8) (i c:Nat): (dc t i c).length=c:=by simp[dc]
theorem ae (t:List UInt8) (k:Nat): (wN t k).length=k:=by simp[wN]
theorem lx (a b:List UInt8) (k:Nat): (wy a b k).length=k:=by simp[wy]
theorem wz {t:List UInt8} (h:iK t.length 1 24=true):dV t=wN t ((t.length+3) / 4):=if_pos h
theorem aCc {t:List UInt8} (h: ¬iK t.length 1 24=true):dV t=[]:=if_neg h
theorem aI5 {t:List UInt8}: (dV t).length≤6∧ ∀x∈dV t,x.length=4:=by
 by_cases h:iK t.length 1 24=true
 · rw[wz h]
   refine⟨?_,fun x hx=> ?_⟩
   · rw[ae]
     have h1: (1:Int)≤t.length∧(t.length:Int)≤24:=by simpa[iK] using h
     omega
   · obtain⟨i,_,rfl⟩:=aXd.1 hx
     exact mF t i 4
 · rw[aCc h];exact⟨by simp,fun x hx=>by cases hx⟩
theorem sd (a b:List UInt8): (aAd a b).length=4:=by simp[aAd]
theorem xa (bl:List (List UInt8)): ∀(x:List UInt8) (l:List Int) (k:Int),yK bl x (l++[k])=aAd (yK bl x l) (bl.getD k.toNat [])
 |x,[],k=>rfl
 |x,j::l,k=>xa bl _ l k
def aPe (bl:List (List UInt8)) (ks:List Int) (i:Nat):List UInt8:=if i=0 then [] else yK bl [0,0,0,0] (ks.take i)
theorem aI6 {bl:List (List UInt8)} {ks:List Int} {i:Nat} (h:i<ks.length) {x:List UInt8}:yK bl x (ks.take (i+1))=aAd (yK bl x (ks.take i)) (bl.getD (ks.getD i 0).toNat []):=by
 rw[eR (z:=0) h,xa]
theorem ly {bl:List (List UInt8)} {ks:List Int}: ∀{x:List UInt8},x.length=4→(yK bl x ks).length=4:=by
 induction ks with
 |nil=>intro x h;exact h
 |cons k ks ih=>intro x h;exact ih (sd _ _)
theorem lz {t:List UInt8} {n:Int} (h:dV t=[]∨cT (dV t).length n=[]):zY t n=[]:=if_pos h
theorem ma {t:List UInt8} {n:Int} (h: ¬(dV t=[]∨cT (dV t).length n=[])):zY t n=yK (dV t) [0,0,0,0] (cT (dV t).length n):=if_neg h
theorem aI7 (n:Int):cT ((([]:List (List UInt8)).length:Nat):Int) n=[]:=aa (by simp[tR,iK])
theorem aI8 {t:List UInt8} {n:Int}:zY t n=aPe (dV t) (cT (dV t).length n) (cT (dV t).length n).length:=by
 by_cases h:cT (dV t).length n=[]
 · rw[lz (.inr h),h];rfl
 · have h2: ¬dV t=[]:=fun e=>h (by rw[e];exact aI7 n)
   rw[ma (by rintro(h3|h3);exact h2 h3;exact h h3),aPe,if_neg (by rw[List.length_eq_zero_iff];exact h),aXf]
theorem xb (t:List UInt8) (n:Int): (zY t n).length≤4:=by
 rw[aI8,aPe]
 split
 · simp
 · rw[ly rfl];omega
theorem aU0 {t:List UInt8} {n:Int} {i:Nat} (h:i< (cT (dV t).length n).length):0≤(cT (dV t).length n).getD i 0∧(cT (dV t).length n).getD i 0< (dV t).length∧((dV t).getD ((cT (dV t).length n).getD i 0).toNat []).length=4:=by
 have h1:=wM (b:=(dV t).length) (n:=n) ((cT (dV t).length n).getD i 0) (by rw[aW7,aW8 h];exact List.getElem_mem _)
 refine⟨h1.1,h1.2,(aI5 (t:=t)).2 _ ?_⟩
 rw[aW7,aW8 (by omega)];exact List.getElem_mem _
theorem getD_none {α:Type} {l:List α} {i:Nat} {z:α} (h:l.length≤i):l.getD i z=z:=by
 rw[aW7,List.getElem?_eq_none h];rfl
deriving instance DecidableEq for cH
theorem aMl {k:bB} {r:List UInt8} (h: (dA k r).2=true):dJ (dA k r).1=true:=by
 unfold dA at h ⊢
 split at h
 · rename_i hk
   rw[if_pos hk]
   unfold mA at h ⊢
   split at h
   · rename_i hx
     rw[if_pos hx]
     simp only[aW4] at hx
     exact hx.2
   · cases h
 · cases h
theorem aCd: ∀{rs:List (List UInt8)} {k:bB},dJ k=true→(gE k rs).2=true→dJ (gE k rs).1=true
 | [],k,hk,h=>hk
 |r::rs,k,hk,h=>by
  unfold gE at h ⊢
  split at h
  · rename_i hd
    rw[if_pos hd]
    exact aCd (aMl hd) h
  · cases h
theorem aDx {id:Int} (h:eN id=true):dJ (cE id)=true:=by
 simp[dJ,cE,h,iK,kB,oC]
theorem aMm {id:Int} {rs:List (List UInt8)} (h: (dS id rs).2=true):dJ (dS id rs).1=true:=by
 unfold dS at h ⊢
 split at h
 · rename_i hn
   rw[if_pos hn]
   exact aCd (aDx hn) h
 · cases h
theorem gU {k:aH} (h:aT k=true):dJ (bC k).1=true:=by
 unfold aT at h
 simp only[aW4] at h
 exact aMm h.1.1.2
theorem kL {k:aH} (h:aT k=true):bM k=(bC k).1:=if_pos h
theorem aDy {k:aH} (h: ¬aT k=true):bM k= .zero:=if_neg h
theorem mb {k:aH} {f n mix:Int} (h: ¬(aT k&&k.up&&iK mix 0 999&&decide (0≤aW (bC k).1.held f n))=true):eO k f n mix=(.zero,false):=if_neg h
theorem aAf {k:aH} {f n mix:Int} (h1:aT k=true) (h2:k.up=true) (h3:iK mix 0 999=true) (h4:0≤aW (bC k).1.held f n):eO k f n mix=(aGk k ((bC k).1.held.getD (aW (bC k).1.held f n).toNat .zero) mix,true):=by
 unfold eO
 rw[if_pos (by rw[h1,h2,h3,decide_eq_true h4];rfl)]
theorem sD {k:aH} (h:aT k=true) {f n:Int} (hp:0≤aW (bC k).1.held f n): ∃j:Nat,aW (bC k).1.held f n=j∧j< (bC k).1.held.length∧((bC k).1.held.getD j .zero).text.length≤140737488355328:=by
 obtain⟨j,hj⟩:=Int.eq_ofNat_of_zero_le hp
 have hlt:=(fV (bC k).1.held f n).2
 refine⟨j,hj,by omega,?_⟩
 have h6:=eK (gU h)
 exact h6.2.1 _ (dG (z:=bA.zero) (l:=(bC k).1.held) (i:=j) (by omega))
structure qU where
 frm:Int
 to:Int
 data:List UInt8
 done:Bool
 deriving DecidableEq
def qU.row (p:qU):List D:=[.i p.frm,.i p.to,.s p.data,.b p.done]
abbrev qU.V (p:qU):V:= .e (.agg [.d (.i p.frm),.d (.i p.to),.d (.s p.data),.d (.b p.done)])
def qU.zero:qU:=⟨0,0,[],false⟩
def xd (l:List qU):List (List D):=l.map qU.row
def aI (l:List aH):List (List D):=l.map aH.row
structure pb where
 time:Int
 keepers:List aH
 links:List Bool
 radio:List qU
 sent:List bA
 got:List bA
 deriving DecidableEq
def pb.row (r:pb):List D:=[.i r.time,.sl (aI r.keepers),.sl (aN r.links),.sl (xd r.radio),.sl (aE r.sent),.sl (aE r.got)]
abbrev pb.V (r:pb):V:= .e (.agg [.d (.i r.time),.d (.sl (aI r.keepers)),.d (.sl (aN r.links)),.d (.sl (xd r.radio)),.d (.sl (aE r.sent)),.d (.sl (aE r.got))])
def pb.zero:pb:=⟨0,[],[],[],[],[]⟩
theorem bI (l:List aH): (aI l).length=l.length:=by simp[aI]
theorem cG {l:List aH} {i:Nat} (h:i<l.length): (aI l).getD i []=(l.getD i aH.zero).row:=by
 rw[aW7,aW7]
 simp[aI,h]
theorem aDz {l:List UInt8} {f:Int} {rec:List UInt8} (h: ¬dP l f=true):aZ l f rec=(([],0),false):=if_neg h
theorem aGl {l:List UInt8} {f:Int} {rec:List UInt8} (h:dP l f=true) (h2: ¬(kK rec=true∧l.length+(fW rec).length≤2400)):aZ l f rec=((l,f),false):=by
 unfold aZ
 rw[if_pos h,if_neg (by simpa using h2)]
theorem aD0 {l:List UInt8} {f:Int} {rec:List UInt8} (h:dP l f=true) (h2:kK rec=true∧l.length+(fW rec).length≤2400):aZ l f rec=((l++fW rec,f),true):=by
 unfold aZ
 rw[if_pos h,if_pos (by simpa using h2)]
theorem gm {l:List UInt8} {f:Int} {recs:List (List UInt8)} (h: ¬dP l f=true):dW l f recs=(([],0),false):=if_neg h
theorem uM {l:List UInt8} {f:Int} {recs:List (List UInt8)} (h:dP l f=true) (h2: ¬(recs.all kK=true∧(dE recs).length≤2400)):dW l f recs=((l,f),false):=by
 unfold dW
 rw[if_pos h,if_neg (by simpa using h2)]
theorem xK {l:List UInt8} {f:Int} {recs:List (List UInt8)} (h:dP l f=true) (h2:recs.all kK=true∧(dE recs).length≤2400):dW l f recs=((dE recs,((dE recs).length:Int)),true):=by
 unfold dW
 rw[if_pos h,if_pos (by simpa using h2)]
theorem mc {recs:List (List UInt8)} {i:Nat} (h:i<recs.length):dE (recs.take (i+1))=dE (recs.take i)++fW (recs.getD i []):=by
 rw[eR (z:=[]) h,aDv]
theorem xe (recs:List (List UInt8)) (i:Nat): (dE (recs.take i)).length≤(dE recs).length:=by
 conv=>rhs;rw[← List.take_append_drop i recs]
 unfold dE
 rw[List.map_append,List.flatten_append,aW0]
 omega
theorem xL: ∀{recs:List (List UInt8)},(∀r∈recs,r.length≤900000)→(dE recs).length≤recs.length*900008
 | [],_=>by simp[dE]
 |r::recs,h=>by
  have h1:=pU (h r (List.mem_cons_self ..))
  have h2:=xL (recs:=recs) fun x hx=>h x (List.mem_cons_of_mem _ hx)
  have h3:=h r (List.mem_cons_self ..)
  have e:dE (r::recs)=fW r++dE recs:=by simp[dE]
  rw[e,aW0,aW3]
  omega
theorem aGm {recs:List (List UInt8)} {i:Nat} (h:i<recs.length) (hb:kK (recs.getD i [])=false): ¬recs.all kK=true:=by
 intro h9
 rw[aXe.1 h9 _ (dG h)] at hb
 cases hb
theorem aCe {recs:List (List UInt8)} (hk: ∀j,j<recs.length→kK (recs.getD j [])=true):recs.all kK=true:=by
 rw[aXe]
 intro x hx
 obtain⟨i,hi⟩:=List.mem_iff_getElem?.1 hx
 have hlt:=(aXb.1 hi).1
 have:=hk i hlt
 rw[aW7,hi] at this
 exact this
theorem aGn {a:Bool} {n m:Nat} {c:Bool} (h: (!a||decide (wrap64 ((n:Int)+(m:Int))>2400))=c) (hn:n≤2400) (hm:m≤1000000): (a=true∧n+m≤2400)↔c=false:=by
 subst h
 rw[aC (by omega)]
 cases a
 · simp
 · simp;omega
theorem aPf {a:Bool} {n:Nat} (h: (!a||decide ((n:Int)>2400))=false):a=true∧n≤2400:=by
 cases a
 · cases h
 · exact⟨rfl,by have h9:=of_decide_eq_false (show decide ((n:Int)>2400)=false from h);omega⟩
theorem aMn {a:Bool} {n:Nat} (h: (!a||decide ((n:Int)>2400))=true):a=false∨2400<n:=by
 cases a
 · exact .inl rfl
 · exact .inr (by have h9:=of_decide_eq_true (show decide ((n:Int)>2400)=true from h);omega)
def vQ (k:bB):List (List UInt8):=if 0<k.time then [lL k.time.toNat] else []
def yL (k:bB):List (List UInt8):=vQ k++(if 1<k.next then [pC k.next.toNat] else [])
def oL (k:bB) (i:Nat):List (List UInt8):=yL k++(k.marks.take i).map (kV iD)
def pV (k:bB) (i:Nat):List (List UInt8):=oL k k.marks.length++(k.held.take i).map (eH gY)
def oM (k:bB) (i:Nat):List (List UInt8):=pV k k.held.length++(k.inbox.take i).map (eH fR)
theorem aCf {k:bB} (h:k.time>0):vQ k=[lL k.time.toNat]:=if_pos h
theorem aGo {k:bB} (h: ¬k.time>0):vQ k=[]:=if_neg h
theorem aCg {k:bB} (h:k.next>1):yL k=vQ k++[pC k.next.toNat]:=by rw[yL,if_pos h]
theorem aGp {k:bB} (h: ¬k.next>1):yL k=vQ k:=by rw[yL,if_neg h,List.append_nil]
theorem xf (k:bB):oL k 0=yL k:=by simp[oL]
theorem xg (k:bB):pV k 0=oL k k.marks.length:=by simp[pV]
theorem xh (k:bB):oM k 0=pV k k.held.length:=by simp[oM]
theorem xi {k:bB} {i:Nat} (h:i<k.marks.length):oL k (i+1)=oL k i++[kV iD (k.marks.getD i .zero)]:=by
 unfold oL
 rw[eR (z:=cB.zero) h,List.map_append,← List.append_assoc];rfl
theorem xj {k:bB} {i:Nat} (h:i<k.held.length):pV k (i+1)=pV k i++[eH gY (k.held.getD i .zero)]:=by
 unfold pV
 rw[eR (z:=bA.zero) h,List.map_append,← List.append_assoc];rfl
theorem xk {k:bB} {i:Nat} (h:i<k.inbox.length):oM k (i+1)=oM k i++[eH fR (k.inbox.getD i .zero)]:=by
 unfold oM
 rw[eR (z:=bA.zero) h,List.map_append,← List.append_assoc];rfl
theorem aCh (k:bB):oM k k.inbox.length=iz k:=by
 unfold oM pV oL yL vQ iz
 rw[aXf,aXf,aXf]
theorem xl (k:bB): (yL k).length≤2:=by
 unfold yL vQ
 split<;>split<;>simp
theorem xm (k:bB) (i:Nat): (oL k i).length≤2+k.marks.length:=by
 have:=xl k
 unfold oL
 rw[aW0,List.length_map,aW5];omega
theorem xn (k:bB) (i:Nat): (pV k i).length≤2+k.marks.length+k.held.length:=by
 have:=xm k k.marks.length
 unfold pV
 rw[aW0,List.length_map,aW5];omega
theorem md (k:bB) (i:Nat): (oM k i).length≤2+k.marks.length+k.held.length+k.inbox.length:=by
 have:=xn k k.held.length
 unfold oM
 rw[aW0,List.length_map,aW5];omega
theorem af {k:bB} (h:dJ k=true):eE k=oM k k.inbox.length:=by rw[aCh];exact if_pos h
theorem de {k:bB} (h: ¬dJ k=true):eE k=[]:=if_neg h
theorem xo {k:bB} (hk:dJ k=true) {i:Nat} (h:i<k.marks.length): (0≤(k.marks.getD i .zero).frm∧(k.marks.getD i .zero).frm≤3)∧(1≤(k.marks.getD i .zero).num∧(k.marks.getD i .zero).num≤99)∧(1≤(k.marks.getD i .zero).til∧(k.marks.getD i .zero).til≤999):=by
 obtain⟨_,⟨_,h5,_⟩,_⟩:=(cC k).1 hk
 exact qR (wK h5 (dG h))
theorem nQ (n:bA): (gB n).length≤60:=by
 by_cases h:eP n=true
 · obtain⟨p1,p2,p3,p4,p5⟩:=lZ h
   have q1:=bS (k:=3) (n:=n.frm.toNat) (by simp;omega)
   have q2:=bS (k:=3) (n:=n.num.toNat) (by simp;omega)
   have q3:=bS (k:=3) (n:=n.to.toNat) (by simp;omega)
   have q4:=bS (k:=3) (n:=n.til.toNat) (by simp;omega)
   rw[gB,if_pos h]
   simp only[kQ,aW0,aW3,aW2];omega
 · rw[gB,if_neg h];simp
theorem df {w:List UInt8} {m:cB} (h: (0≤m.frm∧m.frm≤1000000)∧(0≤m.num∧m.num≤1000000)∧(0≤m.til∧m.til≤1000000)): (kV w m).length≤w.length+30:=by
 have q1:=bS (k:=6) (n:=m.frm.toNat) (by simp;omega)
 have q2:=bS (k:=6) (n:=m.num.toNat) (by simp;omega)
 have q3:=bS (k:=6) (n:=m.til.toNat) (by simp;omega)
 unfold kV
 simp only[aW0,aW3,aW2];omega
theorem wO (w:List UInt8) (n:bA): (eH w n).length≤w.length+61:=by
 have:=nQ n
 unfold eH
 simp only[aW0,aW3,aW2];omega
theorem dg {n:Nat} (h:n≤1000000): (lL n).length≤12:=by
 have:=bS (k:=6) (n:=n) (by simp;omega)
 unfold lL jH
 simp only[aW0,aW3,aW2];omega
theorem se {n:Nat} (h:n≤1000000): (pC n).length≤12:=by
 have:=bS (k:=6) (n:=n) (by simp;omega)
 unfold pC jL
 simp only[aW0,aW3,aW2];omega
theorem nR {k:bB}: (eE k).length≤26∧ ∀r∈eE k,r.length≤100:=by
 by_cases hk:dJ k=true
 · obtain⟨⟨_,ht,hn,h1,h2,h3⟩,⟨h4,h5,h6⟩,_⟩:=(cC k).1 hk
   rw[af hk]
   refine⟨by have:=md k k.inbox.length;omega,fun r hr=> ?_⟩
   rw[aCh] at hr
   unfold iz at hr
   simp only[List.mem_append,aXd] at hr
   rcases hr with(((hr|hr)|⟨m,hm,rfl⟩)|⟨m,hm,rfl⟩)|⟨m,hm,rfl⟩
   · split at hr
     · rw[List.mem_singleton.1 hr];have:=dg (n:=k.time.toNat) (by omega);omega
     · cases hr
   · split at hr
     · rw[List.mem_singleton.1 hr];have:=se (n:=k.next.toNat) (by omega);omega
     · cases hr
   · obtain⟨q1,q2,q3⟩:=qR (wK h5 hm)
     have:=df (w:=iD) (m:=m) (by omega)
     have e:iD.length=4:=rfl
     omega
   · have:=wO gY m
     have e:gY.length=4:=rfl
     omega
   · have:=wO fR m
     have e:fR.length=5:=rfl
     omega
 · rw[de hk];exact⟨by simp,fun r hr=>by cases hr⟩
def dK (k:aH): (List UInt8×Int)×Bool:=dW k.log k.forced (eE (bC k).1)
theorem aKn {k:aH} {rec:List UInt8} (h1: ¬(dA (bC k).1 rec).2=true):pX k rec=(k,false):=by
 unfold pX;rw[if_neg h1]
theorem tJ {k:aH} {rec:List UInt8} (h1: (dA (bC k).1 rec).2=true) (h2: (aZ k.log k.forced rec).2=true):pX k rec=(kG k (aZ k.log k.forced rec).1,true):=by
 unfold pX;rw[if_pos h1,if_pos h2]
theorem aGq {k:aH} {rec:List UInt8} (h1: (dA (bC k).1 rec).2=true) (h2: ¬(aZ k.log k.forced rec).2=true) (h3: ¬(dK k).2=true):pX k rec=(k,false):=by
 unfold pX
 rw[if_pos h1,if_neg h2]
 show(if(dK k).2=true then(if(aZ (dK k).1.1 (dK k).1.2 rec).2=true then(kG k (aZ (dK k).1.1 (dK k).1.2 rec).1,true) else(k,false)) else(k,false))=_
 rw[if_neg h3]
theorem aMo {k:aH} {rec:List UInt8} (h1: (dA (bC k).1 rec).2=true) (h2: ¬(aZ k.log k.forced rec).2=true) (h3: (dK k).2=true) (h4: ¬(aZ (dK k).1.1 (dK k).1.2 rec).2=true):pX k rec=(k,false):=by
 unfold pX
 rw[if_pos h1,if_neg h2]
 show(if(dK k).2=true then(if(aZ (dK k).1.1 (dK k).1.2 rec).2=true then(kG k (aZ (dK k).1.1 (dK k).1.2 rec).1,true) else(k,false)) else(k,false))=_
 rw[if_pos h3,if_neg h4]
theorem aMp {k:aH} {rec:List UInt8} (h1: (dA (bC k).1 rec).2=true) (h2: ¬(aZ k.log k.forced rec).2=true) (h3: (dK k).2=true) (h4: (aZ (dK k).1.1 (dK k).1.2 rec).2=true):pX k rec=(kG k (aZ (dK k).1.1 (dK k).1.2 rec).1,true):=by
 unfold pX
 rw[if_pos h1,if_neg h2]
 show(if(dK k).2=true then(if(aZ (dK k).1.1 (dK k).1.2 rec).2=true then(kG k (aZ (dK k).1.1 (dK k).1.2 rec).1,true) else(k,false)) else(k,false))=_
 rw[if_pos h3,if_pos h4]
theorem aCi {k:aH} (hs:dP k.log k.forced=true) (h: ¬(dK k).2=true): (dK k).1=(k.log,k.forced):=by
 unfold dK dW at h ⊢
 rw[if_pos hs] at h ⊢
 split at h
 · exact absurd rfl h
 · rename_i h9
   rw[if_neg h9]
theorem ja {k:aH} (hl:k.log.length≤140737488355328): (dK k).1.1.length≤140737488355328:=by
 unfold dK dW
 split
 · split
   · rename_i h9
     simp only[aW4,decide_eq_true_eq] at h9
     show(dE _).length≤_
     omega
   · exact hl
 · simp
theorem xq {k:aH} {rec:List UInt8} (hs:dP k.log k.forced=true) (h1: (dA (bC k).1 rec).2=true) (h2: ¬(aZ k.log k.forced rec).2=true) (h4: ¬(aZ (dK k).1.1 (dK k).1.2 rec).2=true):pX k rec=(k,false):=by
 by_cases h3: (dK k).2=true
 · exact aMo h1 h2 h3 h4
 · exact aGq h1 h2 h3
theorem nS {k:aH} {rec:List UInt8} (hs:dP k.log k.forced=true) (h1: (dA (bC k).1 rec).2=true) (h2: ¬(aZ k.log k.forced rec).2=true) (h4: (aZ (dK k).1.1 (dK k).1.2 rec).2=true):pX k rec=(kG k (aZ (dK k).1.1 (dK k).1.2 rec).1,true):=by
 by_cases h3: (dK k).2=true
 · exact aMp h1 h2 h3 h4
 · rw[aCi hs h3] at h4
   exact absurd h4 h2
def fX (k:aH) (rec:List UInt8) (fc:Bool):aH×Bool:=if(pX k rec).2 then(if fc then jY (pX k rec).1 else(pX k rec).1,true) else(k,false)
theorem oG {l:List UInt8} {f:Int} {rec:List UInt8} (hl:l.length≤140737488355328): (aZ l f rec).1.1.length≤140737488355328:=by
 unfold aZ
 split
 · split
   · rename_i h9
     simp only[aW4,decide_eq_true_eq] at h9
     show(l++fW rec).length≤_
     rw[aW0];omega
   · exact hl
 · simp
theorem aGr {k:aH} {rec:List UInt8} (hl:k.log.length≤140737488355328): (pX k rec).1.log.length≤140737488355328∧(pX k rec).1.halves=k.halves:=by
 unfold pX
 split
 · split
   · exact⟨oG hl,rfl⟩
   · split
     · split
       · exact⟨oG (ja hl),rfl⟩
       · exact⟨hl,rfl⟩
     · exact⟨hl,rfl⟩
 · exact⟨hl,rfl⟩
theorem qW {k:aH} (h:aT k=true):KB (bC k).1:=(eK (gU h)).seven.big
theorem iY {a:Bool} (h: (!a)=false):a=true:=by simpa using h
theorem oN {a:Bool} (h: (!a)=true): ¬a=true:=by simpa using h
theorem xr (k:bB) {n:Nat} (hn:n<100000):eS k (lL n)=lF k jH n:=by
 have e:lL n=jH++32::jZ n:=by simp[lL]
 obtain⟨h1,h2,h3⟩:=mQ (w:=jH) (r:=jZ n) (by decide)
 rw[e,vv h3 (by rw[h1];rfl) (by rw[h2,mR hn];rfl),h1,h2,sC (mR hn)]
theorem ah {k:bB} (hk:dJ k=true) (rec:List UInt8):dA k rec=mA k (eS k rec):=if_pos hk
theorem aMq {k:bB} (hk:dJ k=true) (h:k.time≥999): ¬(dA k (lL (k.time+1).toNat)).2=true:=by
 obtain⟨⟨_,ht,_⟩,_⟩:=(cC k).1 hk
 rw[ah hk,xr k (by omega)]
 have e: (((k.time+1).toNat:Nat):Int)=k.time+1:=by omega
 rw[e]
 have hd:lF k jH (k.time+1)=(kU k (k.time+1),true):=by
  unfold lF
  rw[if_pos (by rw[decide_eq_true (by omega)];rfl)]
 rw[hd]
 unfold mA
 rw[if_neg]
 · simp
 · intro h9
   simp only[Bool.true_and] at h9
   obtain⟨⟨_,ht2,_⟩,_⟩:=(cC _).1 h9
   have e2: (kU k (k.time+1)).time=k.time+1:=rfl
   omega
theorem aMr {k:bB} (hk:dJ k=true) {n:bA} (h:gB n=[]): ¬(dA k (eH kE n)).2=true:=by
 have e:eH kE n=kE++32::[]:=by rw[eH,h];simp
 obtain⟨h1,h2,h3⟩:=mQ (w:=kE) (r:=[]) (by decide)
 rw[ah hk,e,sB h3 (by rw[h1];rfl) (by rw[h1];rfl) (by rw[h2];rfl)]
 simp[mA]
theorem me {k:aH} {rec:List UInt8} (h: ¬(dA (bC k).1 rec).2=true):iZ k rec=(k,false):=by
 unfold iZ;rw[aKn h];rfl
theorem xu {k:aH} (h: ¬aT k=true):eA k=(.zero,false):=if_neg h
theorem bg {k:aH} (h:aT k=true) (hu: ¬k.up=true):eA k=(k,false):=by rw[eA,if_pos h,if_neg hu]
theorem gn {k:aH} (h:aT k=true) (hu:k.up=true):eA k=iZ k (lL ((bC k).1.time+1).toNat):=by rw[eA,if_pos h,if_pos hu]
theorem sv {k:aH} (h:aT k=true) (ht: (bC k).1.time≥999):eA k=(k,false):=by
 by_cases hu:k.up=true
 · rw[gn h hu,me (aMq (gU h) ht)]
 · exact bg h hu
theorem aAg {k:aH} {to til:Int} {text:List UInt8} (h: ¬aT k=true):dX k to til text=(.zero,0):=if_neg h
theorem xv {k:aH} {to til:Int} {text:List UInt8} (h:aT k=true) (hu: ¬k.up=true):dX k to til text=(k,0):=by rw[dX,if_pos h,if_neg hu]
theorem mf {k:aH} {to til:Int} {text:List UInt8} (h:aT k=true) (hl: ¬(iZ k (eH kE (pD k to til text))).2=true):dX k to til text=(k,0):=by
 rw[dX,if_pos h]
 split
 · first|rfl|rw[if_neg hl]
 · rfl
theorem aD1 {k:aH} {to til:Int} {text:List UInt8} (h:aT k=true) (hu:k.up=true) (hl: (iZ k (eH kE (pD k to til text))).2=true):dX k to til text=((iZ k (eH kE (pD k to til text))).1,(bC k).1.next):=by
 rw[dX,if_pos h,if_pos hu,if_pos hl]
theorem xw {k:aH} {to til:Int} {text:List UInt8} (h:aT k=true) (hn:gB (pD k to til text)=[]):dX k to til text=(k,0):=by
 refine mf h ?_
 rw[me (aMr (gU h) hn)]
 simp
theorem aAh {k:aH} {f n:Int} (h: ¬aT k=true):cO k f n=(.zero,.zero,false):=if_neg h
theorem aD2 {k:aH} {f n:Int} (h:aT k=true) (hc: ¬(k.up=true∧0≤aW (bC k).1.inbox f n)):cO k f n=(k,.zero,false):=by
 rw[cO,if_pos h,if_neg (by simpa using hc)]
theorem xx {k:aH} {f n:Int} (h:aT k=true) (hc:k.up=true∧0≤aW (bC k).1.inbox f n) (hl: ¬(iZ k (zZ k f n)).2=true):cO k f n=(k,.zero,false):=by
 rw[cO,if_pos h,if_pos (by simpa using hc),if_neg hl]
theorem aD3 {k:aH} {f n:Int} (h:aT k=true) (hc:k.up=true∧0≤aW (bC k).1.inbox f n) (hl: (iZ k (zZ k f n)).2=true):cO k f n=((iZ k (zZ k f n)).1,(bC k).1.inbox.getD (aW (bC k).1.inbox f n).toNat .zero,true):=by
 rw[cO,if_pos h,if_pos (by simpa using hc),if_pos hl]
theorem xy {k:aH} (h:aT k=true) {f n:Int} (hp:0≤aW (bC k).1.inbox f n): ∃j:Nat,aW (bC k).1.inbox f n=j∧j< (bC k).1.inbox.length∧((0≤f∧f≤1000000)∧(0≤n∧n≤1000000)∧(0≤((bC k).1.inbox.getD j .zero).til∧((bC k).1.inbox.getD j .zero).til≤1000000)):=by
 obtain⟨j,hj⟩:=Int.eq_ofNat_of_zero_le hp
 have hlt:=(fV (bC k).1.inbox f n).2
 obtain⟨_,⟨_,_,h6⟩,_⟩:=(cC _).1 (gU h)
 obtain⟨q1,q2,q3⟩:=ix h6 hp
 rw[hj,aWz] at q1 q2 q3
 obtain⟨p1,p2,p3,p4,p5⟩:=lZ q1
 exact⟨j,hj,by omega,by omega,by omega,by omega⟩
theorem dh {k:aH} (h: ¬aT k=true):bU k=(.zero,false):=if_neg h
theorem bh {k:aH} (h:aT k=true) (hu: ¬k.up=true):bU k=(k,false):=by
 rw[bU,if_pos h,if_neg (by simp[hu])]
theorem go {k:aH} (h:aT k=true) (hp: ¬(dK k).2=true):bU k=(k,false):=by
 rw[bU,if_pos h,if_neg]
 intro h9
 simp only[aW4] at h9
 exact hp h9.2
theorem gp {k:aH} (h:aT k=true) (hu:k.up=true) (hp: (dK k).2=true):bU k=(kG k (dK k).1,true):=by
 rw[bU,if_pos h,if_pos]
 · rfl
 · rw[hu];exact hp
theorem xz {k:aH} (h:aT k=true) (hs:dP k.log k.forced=true) (hu:k.up=true):bU k=(kG k (dK k).1,(dK k).2):=by
 by_cases hp: (dK k).2=true
 · rw[gp h hu hp,hp]
 · rw[go h hp,aCi hs hp]
   have e: (dK k).2=false:=by simpa using hp
   rw[e];rfl
def wP (b:Int) (m:hP):Bool:=tR b m.num&&decide (m.data.length=4)
def unk (kn:List (List UInt8)) (j:Int):Bool:=(kn.getD j.toNat []).isEmpty
def jM (kn:List (List UInt8)) (ks:List Int):List Int:=ks.filter (unk kn)
def qX (kn:List (List UInt8)):List UInt8→List Int→List UInt8
 |x,[]=>x
 |x,j::js=>qX kn (if unk kn j then x else aAd x (kn.getD j.toNat [])) js
def jI (b:Int) (kn:List (List UInt8)) (m:hP):List (List UInt8)×Bool:=
 if wP b m&&(jM kn (cT b m.num)).length==1 then(kn.set ((jM kn (cT b m.num)).getD 0 0).toNat (qX kn m.data (cT b m.num)),true) else(kn,false)
def cR (b:Int):List hP→List (List UInt8)×Bool→List (List UInt8)×Bool
 | [],s=>s
 |m::l,s=>cR b l ((jI b s.1 m).1,s.2||(jI b s.1 m).2)
def sE (b:Int) (l:List hP):Nat→List (List UInt8)→List (List UInt8)
 |0,kn=>kn
 |f+1,kn=>if(cR b l (kn,false)).2 then sE b l f (cR b l (kn,false)).1 else(cR b l (kn,false)).1
def eI (b:Int) (l:List hP):List (List UInt8):=if iK b 1 6 then sE b l 7 (List.replicate b.toNat []) else []
def bw (b:Int) (kn:List (List UInt8)):Prop:=(kn.length:Int)=b∧ ∀x∈kn,x.length=0∨x.length=4
def uN (kn:List (List UInt8)):Nat:=kn.countP (·.isEmpty)
theorem bw.at {b:Int} {kn:List (List UInt8)} (h:bw b kn) {j:Nat} (hj:j<kn.length): (kn.getD j []).length=0∨(kn.getD j []).length=4:=h.2 _ (dG hj)
theorem bw.start {b:Int} (hb:0≤b):bw b (List.replicate b.toNat []):=by
 refine⟨by rw[List.length_replicate];omega,fun x hx=> ?_⟩
 rw[(List.mem_replicate.1 hx).2];exact .inl rfl
theorem aj {kn:List (List UInt8)}: ∀{ks:List Int} {x:List UInt8},x.length=4→(qX kn x ks).length=4
 | [],x,h=>h
 |j::js,x,h=>by
  unfold qX
  refine aj ?_
  split
  · exact h
  · exact sd _ _
theorem aCj {kn:List (List UInt8)} {ks:List Int} {j:Int} (h:j∈jM kn ks):j∈ks∧unk kn j=true:=by
 unfold jM at h
 exact List.mem_filter.1 h
theorem aGs: ∀{kn:List (List UInt8)} {j:Nat} {x:List UInt8},j<kn.length→(kn.getD j []).isEmpty=true→x.isEmpty=false→uN (kn.set j x)+1=uN kn
 | [],j,x,h,_,_=>by simp at h
 |y::kn,0,x,h,h1,h2=>by
  have h1:y.isEmpty=true:=h1
  simp[uN,List.countP_cons,h1,h2]
 |y::kn,j+1,x,h,h1,h2=>by
  have ih:=aGs (kn:=kn) (j:=j) (x:=x) (by simpa using h) (by simpa using h1) h2
  simp only[uN,List.set_cons_succ,List.countP_cons] at ih ⊢
  omega
theorem aI9 {b:Int} {kn:List (List UInt8)} {m:hP} (h:bw b kn):bw b (jI b kn m).1∧((jI b kn m).2=true→uN (jI b kn m).1+1=uN kn)∧((jI b kn m).2=false→(jI b kn m).1=kn):=by
 unfold jI
 split
 · rename_i hc
   simp only[aW4,beq_iff_eq,wP,decide_eq_true_eq] at hc
   obtain⟨⟨h1,h4⟩,hl⟩:=hc
   have hm: (jM kn (cT b m.num)).getD 0 0∈jM kn (cT b m.num):=dG (by omega)
   obtain⟨q1,q2⟩:=aCj hm
   have hr:=wM _ q1
   have hx:=aj (kn:=kn) (ks:=cT b m.num) h4
   have hlt: ((jM kn (cT b m.num)).getD 0 0).toNat<kn.length:=by have:=h.1;omega
   refine⟨⟨by rw[List.length_set];exact h.1,fun x hx'=> ?_⟩,fun _=> ?_,fun h9=>by cases h9⟩
   · rcases List.mem_or_eq_of_mem_set hx' with h9|h9
     · exact h.2 x h9
     · rw[h9];exact .inr hx
   · refine aGs hlt q2 ?_
     cases hq:qX kn m.data (cT b m.num) with
     |nil=>rw[hq] at hx;cases hx
     |cons _ _=>rfl
 · exact⟨h,fun h9=>(by cases h9),fun _=>rfl⟩
theorem sF {b:Int}: ∀{l:List hP} {s:List (List UInt8)×Bool},bw b s.1→bw b (cR b l s).1∧uN (cR b l s).1≤uN s.1∧(s.2=false→(cR b l s).2=true→uN (cR b l s).1<uN s.1)∧(s.2=true→(cR b l s).2=true)
 | [],s,h=>⟨h,aXa _,fun h1 h2=>(by
  have h2:s.2=true:=h2
  rw[h1] at h2;cases h2),fun h1=>h1⟩
 |m::l,s,h=>by
  obtain⟨p1,p2,p3⟩:=aI9 (m:=m) h
  obtain⟨r1,r2,r3,r4⟩:=sF (l:=l) (s:=((jI b s.1 m).1,s.2||(jI b s.1 m).2)) p1
  unfold cR
  cases hd: (jI b s.1 m).2 with
  |true=>
   have:=p2 hd
   rw[hd] at r1 r2 r3 r4
   have r2:uN (cR b l ((jI b s.1 m).1,s.2||true)).1≤uN (jI b s.1 m).1:=r2
   exact⟨r1,by omega,fun _ _=>by omega,fun h1=>r4 (by simp)⟩
  |false=>
   have e:=p3 hd
   rw[hd] at r1 r2 r3 r4
   refine⟨r1,by rw[e] at r2 ⊢; exact r2,fun h1 h2=> ?_,fun h1=>r4 (by simp[h1])⟩
   have:=r3 (by simp[h1]) h2
   simp only[e] at this ⊢
   exact this
theorem ya {kn:List (List UInt8)} {ks:List Int} {j:Int} (h:unk kn j=true):jM kn (ks++[j])=jM kn ks++[j]:=by
 unfold jM;rw[List.filter_append,List.filter_cons_of_pos h];rfl
theorem aAi {kn:List (List UInt8)} {ks:List Int} {j:Int} (h:unk kn j=false):jM kn (ks++[j])=jM kn ks:=by
 unfold jM;rw[List.filter_append,List.filter_cons_of_neg (by rw[h];exact Bool.false_ne_true)];exact List.append_nil _
theorem jb {kn:List (List UInt8)}: ∀{ks:List Int} {x:List UInt8} {j:Int},qX kn x (ks++[j])=if unk kn j then qX kn x ks else aAd (qX kn x ks) (kn.getD j.toNat [])
 | [],x,j=>by
  show(if unk kn j then x else aAd x (kn.getD j.toNat []))=_
  rfl
 |k::ks,x,j=>jb (ks:=ks)
theorem aMt {kn:List (List UInt8)} {ks:List Int} {x:List UInt8} {j:Int} (h:unk kn j=true):qX kn x (ks++[j])=qX kn x ks:=by rw[jb,if_pos h]
theorem aPg {kn:List (List UInt8)} {ks:List Int} {x:List UInt8} {j:Int} (h:unk kn j=false):qX kn x (ks++[j])=aAd (qX kn x ks) (kn.getD j.toNat []):=by rw[jb,if_neg (by rw[h];exact Bool.false_ne_true)]
theorem mh {b:Int} {m:hP}: ∀{l:List hP} {s:List (List UInt8)×Bool},cR b (l++[m]) s=((jI b (cR b l s).1 m).1,(cR b l s).2||(jI b (cR b l s).1 m).2)
 | [],s=>rfl
 |k::l,s=>mh (l:=l)
theorem sf {b:Int} {l:List hP}: ∀(f g:Nat) {kn:List (List UInt8)},bw b kn→uN kn<f→uN kn<g→sE b l f kn=sE b l g kn
 |0,_,kn,_,h,_=>absurd h (by omega)
 |_+1,0,kn,_,_,h=>absurd h (by omega)
 |f+1,g+1,kn,hk,hf,hg=>by
  obtain⟨r1,r2,r3,_⟩:=sF (l:=l) (s:=(kn,false)) hk
  unfold sE
  split
  · rename_i hd
    have hlt:=r3 rfl hd
    have hlt:uN (cR b l (kn,false)).1<uN kn:=hlt
    exact sf f g r1 (by omega) (by omega)
  · rfl
theorem aRq (kn:List (List UInt8)):uN kn≤kn.length:=List.countP_le_length
theorem aRr {b:Int} (hb:b≤6) {l:List hP} {kn:List (List UInt8)} (hk:bw b kn) (hd: (cR b l (kn,false)).2=true):sE b l 7 kn=sE b l 7 (cR b l (kn,false)).1∧uN (cR b l (kn,false)).1<uN kn∧bw b (cR b l (kn,false)).1:=by
 obtain⟨r1,r2,r3,_⟩:=sF (l:=l) (s:=(kn,false)) hk
 have hlt:uN (cR b l (kn,false)).1<uN kn:=r3 rfl hd
 have h6:uN kn≤6:=by have:=aRq kn;have:=hk.1;omega
 refine⟨?_,hlt,r1⟩
 rw[sf 7 8 hk (by omega) (by omega)]
 show(if(cR b l (kn,false)).2 then sE b l 7 (cR b l (kn,false)).1 else(cR b l (kn,false)).1)=_
 rw[if_pos hd]
theorem aPh {b:Int} {l:List hP} {kn:List (List UInt8)} (hd: (cR b l (kn,false)).2=false):sE b l 7 kn=(cR b l (kn,false)).1:=by
 show(if(cR b l (kn,false)).2 then sE b l 6 (cR b l (kn,false)).1 else(cR b l (kn,false)).1)=_
 rw[if_neg (by rw[hd];exact Bool.false_ne_true)]
theorem aD4 {kn:List (List UInt8)} {j:Nat} {x:List UInt8} (h:j<kn.length): (aV kn).set j (dI ((aV kn).getD j []) 0 [D.s x])=aV (kn.set j x):=by
 rw[fB h]
 show(aV kn).set j [D.s x]=_
 rw[aV,aV,← List.map_set (f:=fun y:List UInt8=>[D.s y])]
theorem aCk {b:Int} {m:hP} {c:Bool} (h: (!(tR b m.num&&decide ((m.data.length:Int)=4)))=c):wP b m= !c:=by
 subst h
 unfold wP
 rw[Bool.not_not]
 congr 1
 exact decide_eq_decide.2 (by omega)
theorem aGt {b:Int} {m:hP} (h:wP b m=true):m.data.length=4:=by
 unfold wP at h
 rw[aW4] at h
 exact of_decide_eq_true h.2
theorem aU1 {n:Nat} (h: ((n:Int)==1)=true):n=1:=by
 have h9: (n:Int)=1:=by simpa using h
 omega
theorem aJa {n:Nat} (h: ((n:Int)==1)=false): ¬n=1:=by
 have h9: ¬(n:Int)=1:=by simpa using h
 omega
def qY:List (List UInt8)→List UInt8:=List.flatten
def dZ (size:Int) (l:List hP):List UInt8×Bool:=
 if iK size 1 24 then
  (if(eI ((size+3) / 4) l).any (·.isEmpty) then([],false)
   else if((qY (eI ((size+3) / 4) l)).drop size.toNat).any (· != 0) then([],false)
   else((qY (eI ((size+3) / 4) l)).take size.toNat,true))
 else([],false)
theorem aJb {b:Int} {l:List hP} (hb:1≤b∧b≤6):bw b (eI b l):=by
 have key: ∀(f:Nat) {kn:List (List UInt8)},bw b kn→bw b (sE b l f kn):=by
  intro f
  induction f with
  |zero=>intro kn h;exact h
  |succ f ih=>
   intro kn h
   have r:=(sF (l:=l) (s:=(kn,false)) h).1
   unfold sE
   split
   · exact ih r
   · exact r
 unfold eI
 rw[if_pos (by simp[iK];omega)]
 exact key 7 (bw.start (by omega))
theorem aJc {b:Int} {l:List hP} (h: ¬iK b 1 6=true):eI b l=[]:=if_neg h
def wQ (kn:List (List UInt8)) (i:Nat):List UInt8:=(kn.take i).flatten
theorem jc {kn:List (List UInt8)} {i:Nat} (h:i<kn.length):wQ kn (i+1)=wQ kn i++kn.getD i []:=by
 unfold wQ
 rw[eR (z:=([]:List UInt8)) h,List.flatten_append]
 simp
theorem aGu {kn:List (List UInt8)} (h: ∀x∈kn,x.length=0∨x.length=4): ∀{i:Nat},(wQ kn i).length≤4*i
 |0=>by simp[wQ]
 |i+1=>by
  have ih:=aGu h (i:=i)
  by_cases hi:i<kn.length
  · rw[jc hi,aW0]
    have:=h _ (dG (z:=([]:List UInt8)) hi)
    omega
  · have e:wQ kn (i+1)=wQ kn i:=by unfold wQ;rw[List.take_of_length_le (by omega),List.take_of_length_le (by omega)]
    rw[e];omega
theorem aGv {kn:List (List UInt8)} (h: ∀x∈kn,x.length=0∨x.length=4): ∀{i:Nat},i≤kn.length→(∀j,j<i→(kn.getD j []).length≠0)→(wQ kn i).length=4*i
 |0,_,_=>by simp[wQ]
 |i+1,hi,hj=>by
  have ih:=aGv h (i:=i) (by omega) (fun j hj2=>hj j (by omega))
  rw[jc (by omega),aW0,ih]
  have h1:=h _ (dG (z:=([]:List UInt8)) (i:=i) (show i<kn.length by omega))
  have h2:=hj i (by omega)
  omega
theorem aCl (kn:List (List UInt8)):wQ kn kn.length=qY kn:=by unfold wQ qY;rw[aXf]
theorem aAj {kn:List (List UInt8)} {i:Nat} (h:i<kn.length) (he:kn.getD i []=[]):kn.any (·.isEmpty)=true:=by
 rw[List.any_eq_true]
 exact⟨_,dG (z:=([]:List UInt8)) h,by rw[he];rfl⟩
theorem aD5 {kn:List (List UInt8)} (h: ∀j,j<kn.length→(kn.getD j []).length≠0):kn.any (·.isEmpty)=false:=by
 rw[← Bool.not_eq_true,List.any_eq_true]
 rintro⟨x,hx,he⟩
 obtain⟨i,hi⟩:=List.mem_iff_getElem?.1 hx
 have hlt:=(aXb.1 hi).1
 have:=h i hlt
 rw[aW7,hi] at this
 have e:x=[]:=by simpa using he
 rw[e] at this;exact this rfl
theorem aD6 {l:List UInt8} {n i:Nat} (h1:n≤i) (h2:i<l.length) (h:l.getD i 0≠0): (l.drop n).any (· != 0)=true:=by
 rw[List.any_eq_true]
 refine⟨l.getD i 0,?_,by simpa using h⟩
 rw[List.mem_iff_getElem?]
 exact⟨i - n,by rw[List.getElem?_drop,show n+(i - n)=i by omega,aW7,aW8 h2];rfl⟩
theorem aGw {l:List UInt8} {n:Nat} (h: ∀i,n≤i→i<l.length→l.getD i 0=0): (l.drop n).any (· != 0)=false:=by
 rw[← Bool.not_eq_true,List.any_eq_true]
 rintro⟨x,hx,he⟩
 obtain⟨i,hi⟩:=List.mem_iff_getElem?.1 hx
 rw[List.getElem?_drop] at hi
 have hlt:=(aXb.1 hi).1
 have:=h (n+i) (by omega) hlt
 rw[aW7,hi] at this
 have e:x=0:=this
 rw[e] at he;cases he
theorem aGx {size:Int} {l:List hP} (h: ¬iK size 1 24=true):dZ size l=([],false):=if_neg h
theorem aD7 {size:Int} {l:List hP} (h:iK size 1 24=true) (h2: (eI ((size+3) / 4) l).any (·.isEmpty)=true):dZ size l=([],false):=by
 unfold dZ;rw[if_pos h,if_pos h2]
theorem aD8 {size:Int} {l:List hP} (h:iK size 1 24=true) (h2: (eI ((size+3) / 4) l).any (·.isEmpty)=false) (h3: ((qY (eI ((size+3) / 4) l)).drop size.toNat).any (· != 0)=true):dZ size l=([],false):=by
 unfold dZ;rw[if_pos h,if_neg (by rw[h2];exact Bool.false_ne_true),if_pos h3]
theorem aGy {size:Int} {l:List hP} (h:iK size 1 24=true) (h2: (eI ((size+3) / 4) l).any (·.isEmpty)=false) (h3: ((qY (eI ((size+3) / 4) l)).drop size.toNat).any (· != 0)=false):dZ size l=((qY (eI ((size+3) / 4) l)).take size.toNat,true):=by
 unfold dZ;rw[if_pos h,if_neg (by rw[h2];exact Bool.false_ne_true),if_neg (by rw[h3];exact Bool.false_ne_true)]
def nE (l:List cH):List (List D):=l.map cH.row
theorem lR (l:List cH): (nE l).length=l.length:=by simp[nE]
def bx (kind:Int) (f:cH):cH:=⟨kind,f.dst,f.src,f.frm,f.num,f.to,f.til,0,0,[]⟩
def sS (f:cH):dT:=⟨f.frm,f.num,f.to,f.til,f.size,[]⟩
def sG (l:List hP):List hP:=if 14≤l.length then l.drop 1 else l
def pc (l:List hP) (m:hP):List hP:=sG (l.filter fun x=> !(x.num==m.num))++[m]
def gT (l:List dT):List dT:=if 3≤l.length then l.drop 1 else l
def dO (l:List dT) (f:cH):List dT×Nat:=
 if gV l f.frm f.num<0 then(gT l++[sS f],(gT l).length) else(l,(gV l f.frm f.num).toNat)
def bT (l:List dT) (f:cH):dT:=(dO l f).1.getD (dO l f).2 .zero
def qZ (h:dT) (f:cH):Bool:=h.to==f.to&&h.til==f.til&&h.size==f.size
def uO (h:dT) (f:cH):dT:={h with got:=pc h.got ⟨f.mix,f.data⟩}
def bY (l:List dT) (f:cH):List dT×Int:=
 if qZ (bT l f) f then((dO l f).1.set (dO l f).2 (uO (bT l f) f),(dO l f).2) else((dO l f).1,-1)
def eB (k:aH) (l:List dT):aH:={k with halves:=l}
def fA (f:cH) (text:List UInt8):bA:=⟨f.frm,f.num,f.to,f.til,text⟩
def oH (k:aH) (f:cH) (l:List dT) (i:Nat):aH×List cH:=
 let x:=dZ f.size (l.getD i .zero).got
 if x.2 then
  let k2:=eB k (gX l i)
  let r:=fX k2 (eH gK (fA f x.1)) true
  if gB (fA f x.1)=[] then(k2,[]) else(r.1,if r.2 then [bx 2 f] else [])
 else(eB k l,[])
def dY (k:aH) (f:cH):aH×List cH:=
 if f.til≤(bC k).1.time then(k,[bx 3 f]) else
 if 0≤aW (bC k).1.held f.frm f.num∨0≤gR (bC k).1.marks f.frm f.num then(jY k,[bx 2 f]) else
 if f.frm=k.id∨ ¬tR ((f.size+3) / 4) f.mix=true then(k,[]) else
 if(bY k.halves f).2<0 then(eB k (bY k.halves f).1,[]) else oH k f (bY k.halves f).1 (bY k.halves f).2.toNat
def pd (f:cH):List UInt8:=kV nP ⟨f.frm,f.num,f.til⟩
def dj (k:aH) (f:cH):Bool:=
 f.kind==2&&decide (0≤aW (bC k).1.held f.frm f.num)&&((bC k).1.held.getD (aW (bC k).1.held f.frm f.num).toNat .zero).til==f.til&&((bC k).1.held.getD (aW (bC k).1.held f.frm f.num).toNat .zero).to==f.to
def dC (k:aH) (f:cH):aH×List cH:=
 if aT k then
  (if k.up&&eM f&&f.dst==k.id then
   (if f.kind=1 then dY k f else if dj k f then((fX k (pd f) false).1,[]) else(k,[]))
  else(k,[]))
 else(.zero,[])
theorem aD9 {l:List dT} {i:Nat} {h:dT} (hi:i<l.length): (aX l).set i (dI ((aX l).getD i []) 0 h.row)=aX (l.set i h):=by
 rw[gJ hi]
 have:dI ((l.getD i .zero).row) 0 h.row=h.row:=rfl
 rw[this]
 simp[aX,List.map_set]
theorem dk {l:List dT} {f:cH} (h:gV l f.frm f.num<0):dO l f=(gT l++[sS f],(gT l).length):=if_pos h
theorem jd {l:List dT} {f:cH} (h: ¬gV l f.frm f.num<0):dO l f=(l,(gV l f.frm f.num).toNat):=if_neg h
theorem mi (l:List dT) (h:l.length≤3): (gT l).length≤2:=by
 unfold gT
 split
 · rw[aW9];omega
 · omega
theorem yb {l:List dT} {f:cH} (hl:l.length≤3): (dO l f).2< (dO l f).1.length∧(dO l f).1.length≤3:=by
 unfold dO
 split
 · have:=mi l hl
   simp;omega
 · rename_i h
   have:=aMf l f.frm f.num
   simp;omega
theorem je {l:List dT} {f:cH} (h: ¬qZ (bT l f) f=true):bY l f=((dO l f).1,-1):=if_neg h
theorem dl {l:List dT} {f:cH} (h:qZ (bT l f) f=true):bY l f=((dO l f).1.set (dO l f).2 (uO (bT l f) f),(((dO l f).2:Nat):Int)):=if_pos h
theorem aEa {l:List dT} {f:cH} (h: ∀x∈l,x.got.length≤14): (bT l f).got.length≤14:=by
 unfold bT
 by_cases hm: (dO l f).2< (dO l f).1.length
 · have h1: (dO l f).1.getD (dO l f).2 .zero∈(dO l f).1:=dG hm
   generalize (dO l f).1.getD (dO l f).2 .zero=y at h1
   unfold dO at h1
   split at h1
   · rcases List.mem_append.1 h1 with h1|h1
     · unfold gT at h1
       split at h1
       · exact h y (List.mem_of_mem_drop h1)
       · exact h y h1
     · rw[List.mem_singleton.1 h1];exact aW6 _
   · exact h y h1
 · rw[aW7,List.getElem?_eq_none (by omega)];exact aW6 _
def iS (l:List hP) (n:Int):List hP:=l.filter fun x=> !(x.num==n)
theorem aGz {l:List hP} {n:Int} {m:hP} (h: (m.num != n)=true):iS (l++[m]) n=iS l n++[m]:=by
 have h: (!(m.num==n))=true:=h
 simp[iS,List.filter_append,List.filter_cons,h]
theorem aJd {l:List hP} {n:Int} {m:hP} (h: (m.num != n)=false):iS (l++[m]) n=iS l n:=by
 have h: (!(m.num==n))=false:=h
 simp[iS,List.filter_append,List.filter_cons,h]
theorem yc (l:List hP) (n:Int): (iS l n).length≤l.length:=List.length_filter_le _ _
def GOk (l:List hP):Prop:=(∀m∈l,wL m=true)∧l.Pairwise fun a b=>a.num≠b.num
def HOk (l:List dT):Prop:=(∀h∈l,mD h=true)∧l.Pairwise fun a b=> ¬(a.frm=b.frm∧a.num=b.num)
theorem pW {n:Nat} {p:Nat→Bool}: (aXc n).all p=true↔ ∀i,i<n→p i=true:=by
 rw[aXe]
 exact⟨fun h i hi=>h i (List.mem_range.2 hi),fun h i hi=>h i (List.mem_range.1 hi)⟩
theorem mW {α:Type} {l:List α} {i:Nat} {z:α} (h:i<l.length):l.getD i z=l[i]:=by
 rw[aW7,aW8 h];rfl
theorem aRs (l:List hP): (aXc l.length).all (oF l)=true↔GOk l:=by
 rw[pW]
 constructor
 · intro h
   refine⟨fun m hm=> ?_,List.pairwise_iff_getElem.2 fun i j hi hj hij=> ?_⟩
   · obtain⟨i,hi,rfl⟩:=List.mem_iff_getElem.1 hm
     have:=h i hi
     unfold oF at this
     rw[aW4,mW hi] at this
     exact this.1
   · have:=h j hj
     unfold oF at this
     rw[aW4,pW,mW hj] at this
     have:=this.2 i hij
     rw[mW hi] at this
     simpa using this
 · rintro⟨h1,h2⟩ i hi
   unfold oF
   rw[aW4,pW,mW hi]
   refine⟨h1 _ (List.getElem_mem hi),fun j hj=> ?_⟩
   rw[mW (by omega)]
   simpa using List.pairwise_iff_getElem.1 h2 j i (by omega) hi hj
theorem aG0 (l:List dT): (aXc l.length).all (iF l)=true↔HOk l:=by
 rw[pW]
 constructor
 · intro h
   refine⟨fun m hm=> ?_,List.pairwise_iff_getElem.2 fun i j hi hj hij=> ?_⟩
   · obtain⟨i,hi,rfl⟩:=List.mem_iff_getElem.1 hm
     have:=h i hi
     unfold iF at this
     rw[aW4,mW hi] at this
     exact this.1
   · have:=h j hj
     unfold iF at this
     rw[aW4,pW,mW hj] at this
     have:=this.2 i hij
     unfold iJ at this
     rw[mW hi] at this
     rintro⟨e1,e2⟩
     rw[e1,e2] at this
     simp at this
 · rintro⟨h1,h2⟩ i hi
   unfold iF
   rw[aW4,pW,mW hi]
   refine⟨h1 _ (List.getElem_mem hi),fun j hj=> ?_⟩
   unfold iJ
   rw[mW (by omega)]
   have h3:=List.pairwise_iff_getElem.1 h2 j i (by omega) hi hj
   cases hq: (l[j].frm==l[i].frm&&l[j].num==l[i].num) with
   |false=>rfl
   |true=>rw[aW4,beq_iff_eq,beq_iff_eq] at hq;exact absurd hq h3
theorem vR (h:dT):mD h=true↔qT h=true∧GOk h.got:=by
 unfold mD
 rw[aW4,aRs]
theorem mj {k:aH} (h:aT k=true):HOk k.halves:=by
 unfold aT at h
 rw[aW4] at h
 exact(aG0 _).1 h.2
theorem ml {k:aH} {l:List dT} (hok:aT k=true) (hu:k.up=true) (hl:l.length≤3) (h:HOk l):aT (eB k l)=true:=by
 have hl': ((l.length:Nat):Int)≤3:=by omega
 unfold aT jW at hok ⊢
 simp only[aW4] at hok ⊢
 obtain⟨⟨⟨⟨⟨⟨h1,h2⟩,h3⟩,h4⟩,h5⟩,h6⟩,h7⟩:=hok
 exact⟨⟨⟨⟨⟨⟨h1,h2⟩,decide_eq_true hl'⟩,by show(k.up||_)=true;rw[hu];rfl⟩,h5⟩,h6⟩,(aG0 _).2 h⟩
theorem aKo {l l':List dT} (hs:l'.Sublist l) (h:HOk l):HOk l':=⟨fun x hx=>h.1 x (hs.subset hx),h.2.sublist hs⟩
theorem aMu {α:Type} (l:List α) (i:Nat): (gX l i).Sublist l:=by
 unfold gX
 have h1: (l.drop (i+1)).Sublist (l.drop i):=by
  rw[← List.drop_drop];exact List.drop_sublist _ _
 exact(List.Sublist.append (List.Sublist.refl _) h1).trans (by rw[List.take_append_drop];exact List.Sublist.refl _)
theorem aKp {l:List dT} (h:HOk l) (i:Nat):HOk (gX l i):=aKo (aMu l i) h
theorem aRt {l:List hP} {m:hP} (h:GOk l) (hm:wL m=true) (hl:l.length≤14):GOk (pc l m)∧(pc l m).length≤14:=by
 have h1: (l.filter fun x=> !(x.num==m.num)).length≤l.length:=List.length_filter_le _ _
 have hsub: (sG (l.filter fun x=> !(x.num==m.num))).Sublist (l.filter fun x=> !(x.num==m.num)):=by
  unfold sG
  split
  · exact List.drop_sublist _ _
  · exact List.Sublist.refl _
 have hlen: (sG (l.filter fun x=> !(x.num==m.num))).length≤13:=by
  unfold sG
  split
  · rw[aW9];omega
  · omega
 refine⟨⟨fun x hx=> ?_,?_⟩,by unfold pc;simp;omega⟩
 · rcases List.mem_append.1 hx with hx|hx
   · exact h.1 x (List.mem_filter.1 (hsub.subset hx)).1
   · rw[List.mem_singleton.1 hx];exact hm
 · unfold pc
   rw[List.pairwise_append]
   refine⟨(h.2.sublist List.filter_sublist).sublist hsub,by simp,fun a ha b hb=> ?_⟩
   rw[List.mem_singleton.1 hb]
   have:=(List.mem_filter.1 (hsub.subset ha)).2
   simpa using this
theorem jf {f:cH} (hf:eM f=true) (hk:f.kind=1):qT (sS f)=true∧wL ⟨f.mix,f.data⟩=true∧(1≤f.size∧f.size≤24)∧(0≤f.mix∧f.mix≤999)∧f.data.length=4:=by
 have h:=hf
 unfold eM at h
 rw[if_pos hk] at h
 simp only[aW4,decide_eq_true_eq] at h
 obtain⟨⟨⟨⟨⟨⟨h1,h2⟩,h3⟩,h4⟩,h5⟩,h6⟩,⟨⟨h7,h8⟩,h9⟩,h10⟩:=h
 have q7:1≤f.size∧f.size≤24:=by simpa[iK] using h7
 have q8:0≤f.mix∧f.mix≤999:=by simpa[iK] using h8
 refine⟨?_,?_,q7,q8,h9⟩
 · unfold qT sS
   simp only[h3,h4,h5,h6,h7,aW2];rfl
 · unfold wL
   simp only[h8,h9];rfl
theorem aG1 {l:List dT} {f n:Int} (h:gV l f n<0): ∀x∈l,¬(x.frm=f∧x.num=n):=by
 intro x hx ⟨e1,e2⟩
 obtain⟨i,hi,rfl⟩:=List.mem_iff_getElem.1 hx
 rcases hG (iJ l f n) l.length 0 with h1|⟨k,h1,_⟩
 · have h2:iJ l f n i=true:=by unfold iJ;rw[mW hi,e1,e2];simp
   have: ∀(m j:Nat),lE (iJ l f n) j m= -1→ ∀q,j≤q→q<j+m→iJ l f n q=false:=by
    intro m
    induction m with
    |zero=>intro j _ q h3 h4;omega
    |succ m ih=>
     intro j hj q h3 h4
     unfold lE at hj
     split at hj
     · have: ((j:Nat):Int)= -1:=hj
       omega
     · rename_i hne
       by_cases e:q=j
       · subst e;simpa using hne
       · exact ih (j+1) hj q (by omega) (by omega)
   have:=this l.length 0 h1 i (aW6 _) (by omega)
   rw[h2] at this;cases this
 · unfold gV at h;omega
theorem aJe {l:List dT} {f n:Int} (h: ¬gV l f n<0): (gV l f n).toNat<l.length∧(l.getD (gV l f n).toNat .zero).frm=f∧(l.getD (gV l f n).toNat .zero).num=n:=by
 rcases hG (iJ l f n) l.length 0 with h1|⟨k,h1,h2,h3,h4,_⟩
 · exact absurd (show gV l f n<0 by unfold gV;omega) h
 · have e: (gV l f n).toNat=k:=by unfold gV;omega
   rw[e]
   unfold iJ at h4
   rw[aW4,beq_iff_eq,beq_iff_eq] at h4
   exact⟨by omega,h4⟩
theorem aRu {l:List dT} {f:cH} (h:HOk l) (hl:l.length≤3) (hf:eM f=true) (hk:f.kind=1):HOk (dO l f).1:=by
 by_cases hn:gV l f.frm f.num<0
 · rw[dk hn]
   have hsub: (gT l).Sublist l:=by
    unfold gT
    split
    · exact List.drop_sublist _ _
    · exact List.Sublist.refl _
   have h2:=aKo hsub h
   refine⟨fun x hx=> ?_,?_⟩
   · rcases List.mem_append.1 hx with hx|hx
     · exact h2.1 x hx
     · rw[List.mem_singleton.1 hx,vR]
       exact⟨(jf hf hk).1,by simp[sS],by simp[sS]⟩
   · rw[List.pairwise_append]
     refine⟨h2.2,by simp,fun a ha b hb=> ?_⟩
     rw[List.mem_singleton.1 hb]
     exact aG1 hn a (hsub.subset ha)
 · rw[jd hn];exact h
theorem aU2 {α:Type} {R:α→α→Prop} {l:List α} {i:Nat} {x:α} (h:l.Pairwise R) (hi:i<l.length) (h1: ∀y,R y l[i]→R y x) (h2: ∀y,R l[i] y→R x y): (l.set i x).Pairwise R:=by
 rw[List.pairwise_iff_getElem] at h ⊢
 intro a b ha hb hab
 simp only[List.length_set] at ha hb
 simp only[List.getElem_set]
 by_cases c1:i=a
 · by_cases c2:i=b
   · omega
   · rw[if_pos c1,if_neg c2]
     subst c1
     exact h2 _ (h i b ha hb hab)
 · by_cases c2:i=b
   · rw[if_neg c1,if_pos c2]
     subst c2
     exact h1 _ (h a i ha hb hab)
   · rw[if_neg c1,if_neg c2]
     exact h a b ha hb hab
theorem aKq {l:List dT} {f:cH} (h:HOk l) (hl:l.length≤3) (hf:eM f=true) (hk:f.kind=1):HOk (bY l f).1∧(bY l f).1.length≤3:=by
 have hp:=aRu h hl hf hk
 have hlt:=yb (f:=f) hl
 by_cases hfit:qZ (bT l f) f=true
 · rw[dl hfit]
   have hh:bT l f=(dO l f).1[(dO l f).2]:=mW hlt.1
   have hok:=hp.1 _ (List.getElem_mem hlt.1)
   rw[← hh,vR] at hok
   have hg:=aRt hok.2 (jf hf hk).2.1 (lQ hok.1).2.2.2.2.2
   refine⟨⟨fun x hx=> ?_,?_⟩,by simpa using hlt.2⟩
   · rcases List.mem_or_eq_of_mem_set hx with hx|rfl
     · exact hp.1 x hx
     · rw[vR]
       refine⟨?_,hg.1⟩
       have h1:=hok.1
       unfold qT at h1 ⊢
       simp only[aW4] at h1 ⊢
       exact⟨h1.1,decide_eq_true (by have:=hg.2;show((pc (bT l f).got ⟨f.mix,f.data⟩).length:Int)≤14;omega)⟩
   · refine aU2 hp.2 hlt.1 (fun y hy=> ?_) (fun y hy=> ?_)
     · rw[← hh] at hy;exact hy
     · rw[← hh] at hy;exact hy
 · rw[je hfit]
   exact⟨hp,hlt.2⟩
theorem aJf {l:List dT} {f:cH} {i:Nat} (h: (bY l f).2=(i:Int)):i< (bY l f).1.length:=by
 by_cases hfit:qZ (bT l f) f=true
 · rw[dl hfit] at h ⊢
   have h: (((dO l f).2:Nat):Int)=(i:Int):=h
   have h2: (dO l f).2< (dO l f).1.length:=by
    by_cases hn:gV l f.frm f.num<0
    · rw[dk hn];simp
    · rw[jd hn];exact(aJe hn).1
   simp only[List.length_set];omega
 · rw[je hfit] at h
   have h: (-1:Int)=(i:Int):=h
   omega
theorem aG2 (size:Int) (l:List hP): (dZ size l).1.length≤size.toNat:=by
 unfold dZ
 split
 · split
   · exact aW6 _
   · split
     · exact aW6 _
     · rw[aW5];omega
 · exact aW6 _
section
variable {k:aH} {f:cH} {l:List dT} {i:Nat}
theorem mn (h: ¬(dZ f.size (l.getD i .zero).got).2=true):oH k f l i=(eB k l,[]):=if_neg h
theorem fm (h: (dZ f.size (l.getD i .zero).got).2=true) (he:gB (fA f (dZ f.size (l.getD i .zero).got).1)=[]):oH k f l i=(eB k (gX l i),[]):=by
 rw[oH,if_pos h,if_pos he]
theorem ak (h: (dZ f.size (l.getD i .zero).got).2=true) (he: ¬gB (fA f (dZ f.size (l.getD i .zero).got).1)=[]) (hw: ¬(fX (eB k (gX l i)) (eH gK (fA f (dZ f.size (l.getD i .zero).got).1)) true).2=true):
 oH k f l i=((fX (eB k (gX l i)) (eH gK (fA f (dZ f.size (l.getD i .zero).got).1)) true).1,[]):=by
 rw[oH,if_pos h,if_neg he,if_neg hw]
theorem mq (h: (dZ f.size (l.getD i .zero).got).2=true) (he: ¬gB (fA f (dZ f.size (l.getD i .zero).got).1)=[]) (hw: (fX (eB k (gX l i)) (eH gK (fA f (dZ f.size (l.getD i .zero).got).1)) true).2=true):
 oH k f l i=((fX (eB k (gX l i)) (eH gK (fA f (dZ f.size (l.getD i .zero).got).1)) true).1,[bx 2 f]):=by
 rw[oH,if_pos h,if_neg he,if_pos hw]
end
theorem gq {k:aH} {rec:List UInt8} {fc:Bool} (hl:k.log.length≤140737488355328): (fX k rec fc).1.halves=k.halves:=by
 unfold fX
 split
 · have:=(aGr (k:=k) (rec:=rec) hl).2
   cases fc
   · exact this
   · exact this
 · rfl
theorem sg {k:aH} {f:cH} (hok:aT k=true) (hu:k.up=true) (hf:eM f=true) (hk:f.kind=1):HOk (dY k f).1.halves∧(dY k f).1.halves.length≤3:=by
 have h0:=mj hok
 have hlg:=eQ hok
 have h1:=aKq (f:=f) h0 hlg.2.2.2.1 hf hk
 have hcut: ∀i,HOk (gX (bY k.halves f).1 i)∧(gX (bY k.halves f).1 i).length≤3:=fun i=>⟨aKp h1.1 i,Nat.le_trans (yI _ i) h1.2⟩
 unfold dY
 split
 · exact⟨h0,hlg.2.2.2.1⟩
 · split
   · exact⟨h0,hlg.2.2.2.1⟩
   · split
     · exact⟨h0,hlg.2.2.2.1⟩
     · split
       · exact h1
       · by_cases h2: (dZ f.size ((bY k.halves f).1.getD (bY k.halves f).2.toNat .zero).got).2=true
         · by_cases h3:gB (fA f (dZ f.size ((bY k.halves f).1.getD (bY k.halves f).2.toNat .zero).got).1)=[]
           · rw[fm h2 h3];exact hcut _
           · have hlog: (eB k (gX (bY k.halves f).1 (bY k.halves f).2.toNat)).log.length≤140737488355328:=by show k.log.length≤_;omega
             by_cases h4: (fX (eB k (gX (bY k.halves f).1 (bY k.halves f).2.toNat)) (eH gK (fA f (dZ f.size ((bY k.halves f).1.getD (bY k.halves f).2.toNat .zero).got).1)) true).2=true
             · rw[mq h2 h3 h4];dsimp only;rw[gq hlog];exact hcut _
             · rw[ak h2 h3 h4];dsimp only;rw[gq hlog];exact hcut _
         · rw[mn h2];exact h1
theorem aKr {l:List dT} (h:HOk l): ∀x∈l,x.got.length≤14:=fun x hx=>(lQ ((vR x).1 (h.1 x hx)).1).2.2.2.2.2
section
variable {k:aH} {f:cH}
theorem yd (h: ¬aT k=true):dC k f=(.zero,[]):=if_neg h
theorem ye (h:aT k=true) (h2: ¬(k.up&&eM f&&f.dst==k.id)=true):dC k f=(k,[]):=by rw[dC,if_pos h,if_neg h2]
theorem jg (h:aT k=true) (h2: (k.up&&eM f&&f.dst==k.id)=true) (h3:f.kind=1):dC k f=dY k f:=by rw[dC,if_pos h,if_pos h2,if_pos h3]
theorem yf (h:aT k=true) (h2: (k.up&&eM f&&f.dst==k.id)=true) (h3: ¬f.kind=1) (h4:dj k f=true):dC k f=((fX k (pd f) false).1,[]):=by rw[dC,if_pos h,if_pos h2,if_neg h3,if_pos h4]
theorem pf (h:aT k=true) (h2: (k.up&&eM f&&f.dst==k.id)=true) (h3: ¬f.kind=1) (h4: ¬dj k f=true):dC k f=(k,[]):=by rw[dC,if_pos h,if_pos h2,if_neg h3,if_neg h4]
end
theorem aCm {k:aH} {f:cH} {c:Bool} (hok:aT k=true) (h: (f.kind != 2||decide (aW (bC k).1.held f.frm f.num<0)||zr ((List.drop 3 ((aE (bC k).1.held).getD (aW (bC k).1.held f.frm f.num).toNat [])).getD 0 (.i 0)) != f.til||
 zr ((List.drop 2 ((aE (bC k).1.held).getD (aW (bC k).1.held f.frm f.num).toNat [])).getD 0 (.i 0)) != f.to)=c):dj k f= !c:=by
 subst h
 unfold dj
 by_cases hp:0≤aW (bC k).1.held f.frm f.num
 · obtain⟨j,hj,hjl,_⟩:=sD hok hp
   rw[hj,aWz,aR hjl]
   show _= !(f.kind != 2||decide ((j:Int)<0)||((bC k).1.held.getD j .zero).til != f.til||((bC k).1.held.getD j .zero).to != f.to)
   have e1:decide ((j:Int)<0)=false:=by simp
   have e2:decide (0≤(j:Int))=true:=by simp
   rw[e1,e2]
   simp only[bne]
   cases f.kind==2<;>cases ((bC k).1.held.getD j .zero).til==f.til<;>cases ((bC k).1.held.getD j .zero).to==f.to<;>rfl
 · have e1:decide (aW (bC k).1.held f.frm f.num<0)=true:=by simp;omega
   have e2:decide (0≤aW (bC k).1.held f.frm f.num)=false:=by simp;omega
   rw[e1,e2]
   simp
theorem aPi {k:aH} {f:cH} (hok:aT k=true) (h: (f.kind != 2||decide (aW (bC k).1.held f.frm f.num<0)||zr ((List.drop 3 ((aE (bC k).1.held).getD (aW (bC k).1.held f.frm f.num).toNat [])).getD 0 (.i 0)) != f.til||
 zr ((List.drop 2 ((aE (bC k).1.held).getD (aW (bC k).1.held f.frm f.num).toNat [])).getD 0 (.i 0)) != f.to)=true): ¬dj k f=true:=by rw[aCm hok h];simp
theorem aMv {k:aH} {f:cH} (hok:aT k=true) (h: (f.kind != 2||decide (aW (bC k).1.held f.frm f.num<0)||zr ((List.drop 3 ((aE (bC k).1.held).getD (aW (bC k).1.held f.frm f.num).toNat [])).getD 0 (.i 0)) != f.til||
 zr ((List.drop 2 ((aE (bC k).1.held).getD (aW (bC k).1.held f.frm f.num).toNat [])).getD 0 (.i 0)) != f.to)=false):dj k f=true:=by rw[aCm hok h];rfl
structure EvR where
 kind:Int
 at_:Int
 frm:Int
 num:Int
 word:Int
 mix:Int
 keep:Int
 dst:Int
 til:Int
 text:List UInt8
def EvR.row (e:EvR):List D:=[.i e.kind,.i e.at_,.i e.frm,.i e.num,.i e.word,.i e.mix,.i e.keep,.i e.dst,.i e.til,.s e.text]
abbrev EvR.V (e:EvR):V:= .e (.agg [.d (.i e.kind),.d (.i e.at_),.d (.i e.frm),.d (.i e.num),.d (.i e.word),.d (.i e.mix),.d (.i e.keep),.d (.i e.dst),.d (.i e.til),.d (.s e.text)])
def Adj (a b:Int):Prop:=(0≤a∧a≤3)∧(0≤b∧b≤3)∧ ¬(a=3∧b=3)
def FP (f:cH):Prop:=Adj f.src f.dst∧f.data.length≤1000
def PP (p:qU):Prop:=Adj p.frm p.to∧p.data.length≤1000
def fO (r:List D):Prop:= ∃p:qU,r=p.row∧PP p
def cN (r:List D):Prop:= ∃n:bA,r=n.row∧n.text.length≤1000000
def jX (r:List D):Prop:=True
theorem yg:fO [.i 0,.i 0,.s [],.b false]:=⟨⟨0,0,[],false⟩,rfl,by unfold PP Adj;simp⟩
theorem aG3:cN [.i 0,.i 0,.i 0,.i 0,.s []]:=⟨⟨0,0,0,0,[]⟩,rfl,aW6 _⟩
def dm (a b:Int):Int:=if a<b then a else b
theorem aEb {a b:Int} (h:Adj a b):0≤dm a b∧dm a b≤2:=by
 obtain⟨h1,h2,h3⟩:=h
 unfold dm
 split<;>omega
theorem rA:jr .zero:=⟨aW6 _,aW6 _,fun x h=>(by cases h)⟩
def Sm (k' k:aH):Prop:=k'.log.length≤2400∧k'.halves=k.halves
theorem Sm.ks {k k':aH} (h:Sm k' k) (hk:jr k):jr k':=⟨h.1,by rw[h.2];exact hk.2.1,by rw[h.2];exact hk.2.2⟩
theorem Sm.refl {k:aH} (h:k.log.length≤2400):Sm k k:=⟨h,rfl⟩
theorem dn {l:List UInt8} {f:Int} {rec:List UInt8} (h:l.length≤2400): (aZ l f rec).1.1.length≤2400:=by
 unfold aZ
 split
 · split
   · rename_i h9
     simp only[aW4,decide_eq_true_eq] at h9
     show(l++fW rec).length≤_
     rw[aW0];exact h9.2
   · exact h
 · exact aW6 _
theorem bi {l:List UInt8} {f:Int} {recs:List (List UInt8)} (h:l.length≤2400): (dW l f recs).1.1.length≤2400:=by
 unfold dW
 split
 · split
   · rename_i h9
     simp only[aW4,decide_eq_true_eq] at h9
     exact h9.2
   · exact h
 · exact aW6 _
theorem aJg {k:aH} {rec:List UInt8} (h:k.log.length≤2400):Sm (pX k rec).1 k:=by
 unfold pX
 split
 · split
   · exact⟨dn h,rfl⟩
   · split
     · split
       · exact⟨dn (bi h),rfl⟩
       · exact Sm.refl h
     · exact Sm.refl h
 · exact Sm.refl h
theorem pg {l:List UInt8} {f:Int} (h:l.length≤2400): (eT l f).1.length≤2400:=by
 unfold eT
 split
 · exact h
 · exact aW6 _
theorem al {k:aH} (h:k.log.length≤2400):Sm (jY k) k:=⟨pg h,rfl⟩
theorem uP {k:aH} {rec:List UInt8} {fc:Bool} (h:k.log.length≤2400):Sm (fX k rec fc).1 k:=by
 have hl:=aJg (rec:=rec) h
 unfold fX
 split
 · cases fc
   · exact hl
   · exact⟨(al hl.1).1,hl.2⟩
 · exact Sm.refl h
theorem ph {k:aH} {rec:List UInt8} (h:k.log.length≤2400):Sm (iZ k rec).1 k:=uP (fc:=true) h
theorem am {k:aH} (h:jr k):jr (eA k).1:=by
 unfold eA
 split
 · split
   · exact(ph h.1).ks h
   · exact h
 · exact rA
theorem aMw {k:aH} {a b:Int} {t:List UInt8} (h:jr k):jr (dX k a b t).1:=by
 unfold dX
 split
 · split
   · split
     · exact(ph h.1).ks h
     · exact h
   · exact h
 · exact rA
theorem aMx {k:aH} {a b:Int} (h:jr k):jr (cO k a b).1:=by
 unfold cO
 split
 · split
   · split
     · exact(ph h.1).ks h
     · exact h
   · exact h
 · exact rA
theorem ao {k:aH} (h:jr k):jr (bU k).1:=by
 unfold bU
 split
 · split
   · exact(show Sm (kG k (dW k.log k.forced (eE (bC k).1)).1) k from⟨bi h.1,rfl⟩).ks h
   · exact h
 · exact rA
theorem wR {k:aH} (h:jr k):jr (bX k).1:=by
 unfold bX
 split
 · split
   · exact h
   · exact(al h.1).ks h
 · exact rA
theorem aJh {k:aH} {keep:Int} (h:jr k):jr (bZ k keep):=by
 unfold bZ
 split
 · refine⟨?_,aW6 _,fun x hx=>(by cases hx)⟩
   show(fG k.log k.forced keep).1.length≤_
   have:=h.1
   unfold fG
   split
   · show(k.log.take _).length≤_
     rw[aW5];omega
   · exact aW6 _
 · exact rA
theorem aJi {k:aH} (h:jr k):jr (cS k):=by
 unfold cS
 split
 · exact h
 · exact rA
theorem aMy {k:aH} (hl:k.log.length≤2400) (h:HOk k.halves∧k.halves.length≤3):jr k:=⟨hl,by have:=h.2;omega,fun x hx=>by have:=aKr h.1 x hx;omega⟩
theorem aAk {k:aH} {f:cH} (h:k.log.length≤2400): (dY k f).1.log.length≤2400:=by
 unfold dY
 split
 · exact h
 · split
   · exact(al h).1
   · split
     · exact h
     · split
       · exact h
       · by_cases h2: (dZ f.size ((bY k.halves f).1.getD (bY k.halves f).2.toNat .zero).got).2=true
         · by_cases h3:gB (fA f (dZ f.size ((bY k.halves f).1.getD (bY k.halves f).2.toNat .zero).got).1)=[]
           · rw[fm h2 h3];exact h
           · have hlog: (eB k (gX (bY k.halves f).1 (bY k.halves f).2.toNat)).log.length≤2400:=h
             by_cases h4: (fX (eB k (gX (bY k.halves f).1 (bY k.halves f).2.toNat)) (eH gK (fA f (dZ f.size ((bY k.halves f).1.getD (bY k.halves f).2.toNat .zero).got).1)) true).2=true
             · rw[mq h2 h3 h4];exact(uP hlog).1
             · rw[ak h2 h3 h4];exact(uP hlog).1
         · rw[mn h2];exact h
theorem aJj {k:aH} {f:cH} (h:jr k):jr (dC k f).1:=by
 by_cases hok:aT k=true
 · by_cases hgo: (k.up&&eM f&&f.dst==k.id)=true
   · have h1:k.up=true:=by simp at hgo;exact hgo.1.1
     have h2:eM f=true:=by simp at hgo;exact hgo.1.2
     by_cases hk:f.kind=1
     · rw[jg hok hgo hk]
       exact aMy (aAk h.1) (sg hok h1 h2 hk)
     · by_cases hl:dj k f=true
       · rw[yf hok hgo hk hl];exact(uP h.1).ks h
       · rw[pf hok hgo hk hl];exact h
   · rw[ye hok hgo];exact h
 · rw[yd hok];exact rA
theorem aRw {kind:Int} {f:cH} (h:eM f=true):FP (bx kind f):=by
 have hs:=lX h
 refine⟨⟨hs.2.1,hs.1,?_⟩,aW6 _⟩
 intro ⟨e1,e2⟩
 have e1:f.dst=3:=e1
 have e2:f.src=3:=e2
 by_cases hk:f.kind=1
 · have:=(aLt h hk).2;omega
 · have:=(aLu h hk).2;omega
theorem aEc {k:aH} {f:cH} (h:eM f=true): (∀g∈(dY k f).2,FP g)∧(dY k f).2.length≤1:=by
 have one: ∀c,(∀g∈[bx c f],FP g)∧[bx c f].length≤1:=fun c=>⟨fun g hg=>by rw[List.mem_singleton.1 hg];exact aRw h,aXa _⟩
 have none: (∀g∈([]:List cH),FP g)∧([]:List cH).length≤1:=⟨fun g hg=>(by cases hg),aW6 _⟩
 unfold dY
 split
 · exact one 3
 · split
   · exact one 2
   · split
     · exact none
     · split
       · exact none
       · by_cases h2: (dZ f.size ((bY k.halves f).1.getD (bY k.halves f).2.toNat .zero).got).2=true
         · by_cases h3:gB (fA f (dZ f.size ((bY k.halves f).1.getD (bY k.halves f).2.toNat .zero).got).1)=[]
           · rw[fm h2 h3];exact none
           · by_cases h4: (fX (eB k (gX (bY k.halves f).1 (bY k.halves f).2.toNat)) (eH gK (fA f (dZ f.size ((bY k.halves f).1.getD (bY k.halves f).2.toNat .zero).got).1)) true).2=true
             · rw[mq h2 h3 h4];exact one 2
             · rw[ak h2 h3 h4];exact none
         · rw[mn h2];exact none
theorem aKs {k:aH} {f:cH}: (∀g∈(dC k f).2,FP g)∧(dC k f).2.length≤1:=by
 have none: (∀g∈([]:List cH),FP g)∧([]:List cH).length≤1:=⟨fun g hg=>(by cases hg),aW6 _⟩
 by_cases hok:aT k=true
 · by_cases hgo: (k.up&&eM f&&f.dst==k.id)=true
   · have h2:eM f=true:=by simp at hgo;exact hgo.1.2
     by_cases hk:f.kind=1
     · rw[jg hok hgo hk];exact aEc h2
     · by_cases hl:dj k f=true
       · rw[yf hok hgo hk hl];exact none
       · rw[pf hok hgo hk hl];exact none
   · rw[ye hok hgo];exact none
 · rw[yd hok];exact none
theorem aMz (k:bB) (n:bA): (iI k n).1.id=k.id:=by
 unfold iI
 repeat' split
 all_goals rfl
theorem aPj (k:bB) (w:List UInt8) (n:Int): (lF k w n).1.id=k.id:=by
 unfold lF
 repeat' split
 all_goals rfl
theorem aM0 (k:bB) (w:List UInt8) (n:bA): (gC k w n).1.id=k.id:=by
 unfold gC
 repeat' split
 all_goals first|rfl|exact aMz _ _
theorem aM1 (k:bB) (w:List UInt8) (m:cB): (iX k w m).1.id=k.id:=by
 unfold iX
 repeat' split
 all_goals rfl
theorem aM2 (k:bB) (rec:List UInt8): (eS k rec).1.id=k.id:=by
 unfold eS
 repeat' split
 all_goals first|rfl|exact aPj _ _ _|exact aM0 _ _ _|exact aM1 _ _ _
theorem aM3 {k:bB} {rec:List UInt8} (h: (dA k rec).2=true): (dA k rec).1.id=k.id:=by
 unfold dA at h ⊢
 split at h
 · rename_i hk
   rw[if_pos hk]
   unfold mA
   split
   · exact aM2 k rec
   · rfl
 · cases h
theorem aCn: ∀{rs:List (List UInt8)} {k:bB},(gE k rs).2=true→(gE k rs).1.id=k.id
 | [],k,_=>rfl
 |r::rs,k,h=>by
  unfold gE at h ⊢
  split at h
  · rename_i hd
    rw[if_pos hd,aCn h,aM3 hd]
  · cases h
theorem aG4 {k:aH} (h:aT k=true): (bC k).1.id=k.id:=by
 unfold aT at h
 simp only[aW4] at h
 have h2:=h.1.1.2
 unfold bC dS at h2 ⊢
 split at h2
 · rename_i hn
   rw[if_pos hn,aCn h2]
   unfold cE
   rw[if_pos hn]
 · cases h2
theorem aEd {a b:Int} (ha:eN a=true) (hb:eN b=true) (h:a≠b):Adj a (jB a b)∧(a - jB a b=1∨jB a b - a=1):=by
 have h1:0≤a∧a≤3:=by simpa[eN,iK] using ha
 have h2:0≤b∧b≤3:=by simpa[eN,iK] using hb
 have e:jB a b=if a<b then a+1 else a - 1:=by
  unfold jB
  rw[ha,hb,beq_eq_false_iff_ne.2 h];rfl
 rw[e]
 unfold Adj
 split<;>omega
theorem aU3 {k:aH} {a b c:Int} (h: (eO k a b c).2=true):FP (eO k a b c).1:=by
 unfold eO at h ⊢
 split at h
 · rename_i hc
   rw[if_pos hc]
   simp only[aW4,decide_eq_true_eq] at hc
   obtain⟨⟨⟨hok,hu⟩,hm⟩,hat⟩:=hc
   obtain⟨j,hj,hjl,_⟩:=sD hok hat
   rw[hj,aWz]
   have hp:=(cC _).1 (gU hok)
   have hh:=pW.1 hp.2.2.1 j hjl
   have hn:=pW.1 hp.2.1.1 j hjl
   unfold tS at hh
   unfold lP eP at hn
   simp only[aW4] at hh hn
   have hw:=hh.1.2
   unfold cw at hw
   simp only[aW4] at hw
   have hid:=aG4 hok
   have h1:eN k.id=true:=by rw[← hid];exact hp.1.1
   have h2:=hn.1.1.1.1.2
   have h3:k.id≠((bC k).1.held.getD j .zero).to:=by rw[← hid];simpa using hw.1
   exact⟨(aEd h1 h2 h3).1,by have:=xb ((bC k).1.held.getD j .zero).text c;show(zY _ c).length≤_;omega⟩
 · cases h
section
variable {P:Program} {T:hD} {o:Oper} {σ σ1:St} {x:Operand} {t e:TypeId} {s1 s2 d j es n:Nat} {s3:List C} {Z:ia} {R:List (dH×Option K)} {g:Bool} {k:List (dH×Option K)→V→Prop}
theorem aEe (hT:dR P T) (ho:o.op= .call {callee:= .builtin .len,args:= #[x],argTypes:= #[t]}) (hd:o.dst=some d) (ht:T t=some ⟨.sl e,s1,s2,s3⟩) (hx:ev σ1 x=some (.e (.c (ps j es n)),R)) (hl:aQ σ1 (.o j)=some (.zone Z))
 (hr:g=true→oO σ (R++[(.o j,some (.zone Z))])) (h:k (R++[(.o j,some (.zone Z))]) (I n)): ∃R X,(g=true→xS P o R [(.t d,.v X)]∧bQ R σ1)∧(g=true→oO σ R)∧k R X:=by
 obtain⟨R',W',h1,h2,e1,e2⟩:=ip (k:=fun R' W'=>R'=R++[(.o j,some (.zone Z))]∧W'=[(.t d,.v (I n))]) hT ho hd ht hx hl ⟨rfl,rfl⟩
 subst e1;subst e2
 exact⟨_,_,fun _=>⟨h1,h2⟩,hr,h⟩
end
theorem yh {l:List cH} {i:Nat} (h:i<l.length): (nE l).getD i []=(l.getD i cH.zero).row:=by
 rw[aW7,aW7]
 simp[nE,h]
def gr (a n:Nat):Nat:=a+min n (30 - a)
theorem yi {a n:Nat} (h:a≤30):gr a n≤30:=by unfold gr;omega
structure zt (ks:List aH) (ls:List Bool) (a b c:Nat):Prop where
 four:ks.length=4
 small: ∀k∈ks,jr k
 three:ls.length=3
 ra:a≤30
 rb:b≤6
 rc:c≤6
theorem zt.at {ks:List aH} {ls:List Bool} {a b c i:Nat} (h:zt ks ls a b c) (hi:i<4):jr (ks.getD i .zero):=h.small _ (dG (by rw[h.four];exact hi))
theorem zt.set {ks:List aH} {ls:List Bool} {a b c:Nat} (h:zt ks ls a b c) {k:aH} (hk:jr k) (i:Nat):zt (ks.set i k) ls a b c:=
 ⟨by rw[List.length_set];exact h.four,fun x hx=>by rcases List.mem_or_eq_of_mem_set hx with hx|rfl;exact h.small x hx;exact hk,h.three,h.ra,h.rb,h.rc⟩
theorem zt.to {ks:List aH} {ls:List Bool} {a b c a' b' c':Nat} (h:zt ks ls a b c) (h1:a'≤30) (h2:b'≤6) (h3:c'≤6):zt ks ls a' b' c':=⟨h.four,h.small,h.three,h1,h2,h3⟩
theorem zt.links {ks:List aH} {ls ls':List Bool} {a b c:Nat} (h:zt ks ls a b c) (h1:ls'.length=3):zt ks ls' a b c:=⟨h.four,h.small,h1,h.ra,h.rb,h.rc⟩
theorem bK {l:List aH} {i:Nat} {k:aH} (hi:i<l.length): (aI l).set i (dI ((aI l).getD i []) 0 k.row)=aI (l.set i k):=by
 rw[cG hi]
 have:dI ((l.getD i .zero).row) 0 k.row=k.row:=rfl
 rw[this]
 simp[aI,List.map_set]
theorem aEf {l:List Bool} {i:Nat} {x:Bool} (hi:i<l.length): (aN l).set i (dI ((aN l).getD i []) 0 [D.b x])=aN (l.set i x):=by
 rw[lJ hi]
 have:dI [D.b (l.getD i false)] 0 [D.b x]=[D.b x]:=rfl
 rw[this]
 simp[aN,List.map_set]
theorem ap {a:Int} (h:0≤a∧a≤3): ∃i:Nat,a=(i:Int)∧i<4:=⟨a.toNat,by omega,by omega⟩
theorem aPk {k:aH} {a b:Int} (h:jr k): (cO k a b).2.1.text.length≤1000000:=by
 unfold cO
 split
 · rename_i hok
   split
   · split
     · rename_i hc _
       simp only[aW4,decide_eq_true_eq] at hc
       obtain⟨j,hj,hjl,_⟩:=xy hok hc.2
       rw[hj,aWz]
       have h6:=(cC _).1 (gU hok)
       have hn:=tG h6.2.1.2.2 (dG (z:=bA.zero) hjl)
       unfold eP zG at hn
       simp only[aW4] at hn
       have h24:1≤(((bC k).1.inbox.getD j .zero).text.length:Int)∧(((bC k).1.inbox.getD j .zero).text.length:Int)≤24:=by simpa[iK] using hn.2.2
       show((bC k).1.inbox.getD j .zero).text.length≤_
       omega
     · exact aW6 _
   · exact aW6 _
 · exact aW6 _
def mgC (j j2:Nat):C→C
 | .z o Q=> .z (if o=j2 then j else o) Q
 |c=>c
def mgE (j j2:Nat):E→E
 | .c x=> .c (mgC j j2 x)
 | .agg cs=> .agg (cs.map (mgC j j2))
def mgV (j j2:Nat):V→V
 | .e x=> .e (mgE j j2 x)
 | .tup xs=> .tup (xs.map (mgE j j2))
def mgK (j j2:Nat):K→K
 | .v x=> .v (mgV j j2 x)
 | .cv s w b x=> .cv s w b (mgV j j2 x)
 | .box ty cs=> .box ty (cs.map (mgC j j2))
 |k=>k
def mgS (j j2:Nat) (σ:St):St:=σ.map fun p=>(p.1,if p.1= .o j2 then .dead else mgK j j2 p.2)
theorem oI (j j2:Nat) (σ:St) (l:dH):aQ (mgS j j2 σ) l=(aQ σ l).map fun k=>if l= .o j2 then .dead else mgK j j2 k:=by
 induction σ with
 |nil=>rfl
 |cons p r ih=>
  unfold mgS at ih ⊢
  rw[List.map_cons]
  unfold aQ
  by_cases h:p.1=l
  · simp[h]
  · simp only[h,if_false];exact ih
def dp:Value→Value→Value
 | .tuple a,.tuple b=> .tuple (a++b)
 |p,_=>p
theorem mr {p q v:Value} (hp: ∃vs,p= .tuple vs) (hq: ∃vs,q= .tuple vs):ux (dp p q) v↔ux p v∨ux q v:=by
 obtain⟨a,rfl⟩:=hp
 obtain⟨b,rfl⟩:=hq
 simp[ux,dp]
theorem aEg {p:Value} (hp: ∃vs,p= .tuple vs) {b:Nat}:vA p b↔ ∃v,ux p v∧blk v=some b:=by
 obtain⟨a,rfl⟩:=hp
 simp[ux,vA]
section
variable {σ:St} {ι ν:Nat→Value} {S:Nat→Prop} {w:World} {j j2 es:Nat} {e:TypeId} {Pr:List D→Prop}
theorem CR.mg (h1:aQ σ (.o j)=some (aM e es Pr)) (h2:aQ σ (.o j2)=some (aM e es Pr)) (hne:j≠j2) (hp: ∃vs,ι j= .tuple vs) (hq: ∃vs,ι j2= .tuple vs) {c:C} {v:Value} (h:CR σ ι w S c v):
 CR (mgS j j2 σ) (fun o=>if o=j then dp (ι j) (ι j2) else ι o) w S (mgC j j2 c) v:=by
 cases c with
 |d x=>exact h
 |nil=>exact h
 |own o n=>
  refine⟨h.1,?_⟩
  rcases h.2 with⟨e',es',rows,hl,hn,hv⟩|hl
  · have ho:o≠j:=fun e=>by rw[e,h1] at hl;cases hl
    have ho2:o≠j2:=fun e=>by rw[e,h2] at hl;cases hl
    refine .inl ⟨e',es',rows,by rw[oI,hl];simp[ho2,mgK],hn,fun hh=> ?_⟩
    dsimp only;rw[if_neg ho];exact hv hh
  · right;rw[oI,hl];simp[mgK]
 |pt o k=>
  refine⟨h.1,?_⟩
  rcases h.2 with⟨ty,cs,hl,b,hi,hv⟩|hl
  · have ho:o≠j:=fun e=>by rw[e,h1] at hl;cases hl
    have ho2:o≠j2:=fun e=>by rw[e,h2] at hl;cases hl
    refine .inl ⟨ty,cs.map (mgC j j2),by rw[oI,hl];simp[ho2,mgK],b,?_,hv⟩
    dsimp only;rw[if_neg ho];exact hi
  · right;rw[oI,hl];simp[mgK]
 |pe o n i k=>
  refine⟨h.1,?_⟩
  rcases h.2 with⟨e',es',rows,hl,hn,hv⟩|hl
  · have ho:o≠j:=fun e=>by rw[e,h1] at hl;cases hl
    have ho2:o≠j2:=fun e=>by rw[e,h2] at hl;cases hl
    refine .inl ⟨e',es',rows,by rw[oI,hl];simp[ho2,mgK],hn,fun hh=> ?_⟩
    dsimp only;rw[if_neg ho];exact hv hh
  · right;rw[oI,hl];simp[mgK]
 |rp cs=>exact h
 |z o Q=>
  refine⟨h.1,?_⟩
  have hj:aQ (mgS j j2 σ) (.o j)=some (aM e es Pr):=by rw[oI,h1];simp[hne,mgK]
  rcases h.2 with⟨Z,hl,hv⟩|hl
  · by_cases ho2:o=j2
    · subst ho2
      rw[h2] at hl;cases hl
      refine .inl ⟨aOd e es Pr,by rw[if_pos rfl];exact hj,fun p hpp=>hv p fun v hv'=> ?_⟩
      rw[if_pos rfl] at hpp
      dsimp only at hpp
      rw[if_pos rfl] at hpp
      exact hpp v ((mr hp hq).2 (.inr hv'))
    · rw[if_neg ho2]
      by_cases ho:o=j
      · subst ho
        rw[h1] at hl;cases hl
        refine .inl ⟨aOd e es Pr,hj,fun p hpp=>hv p fun v hv'=> ?_⟩
        dsimp only at hpp
        rw[if_pos rfl] at hpp
        exact hpp v ((mr hp hq).2 (.inl hv'))
      · refine .inl ⟨Z,by rw[oI,hl];simp[ho2,mgK],fun p hpp=>hv p ?_⟩
        dsimp only at hpp
        rw[if_neg ho] at hpp
        exact hpp
  · have ho2:o≠j2:=fun e=>by rw[e,h2] at hl;cases hl
    right;rw[if_neg ho2,oI,hl];simp[ho2,mgK]
theorem ER.mg (h1:aQ σ (.o j)=some (aM e es Pr)) (h2:aQ σ (.o j2)=some (aM e es Pr)) (hne:j≠j2) (hp: ∃vs,ι j= .tuple vs) (hq: ∃vs,ι j2= .tuple vs) {c:E} {v:Value} (h:ER σ ι w S c v):
 ER (mgS j j2 σ) (fun o=>if o=j then dp (ι j) (ι j2) else ι o) w S (mgE j j2 c) v:=by
 cases c with
 |c x=>exact CR.mg h1 h2 hne hp hq h
 |agg cs=>
  obtain⟨vs,hv,hl,hk⟩:=h
  refine⟨vs,hv,by simp[hl],fun k c u hc hu=> ?_⟩
  rw[List.getElem?_map] at hc
  cases hx:cs[k]? with
  |none=>rw[hx] at hc;cases hc
  |some c0=>rw[hx] at hc;cases hc;exact CR.mg h1 h2 hne hp hq (hk k c0 u hx hu)
theorem lT.mg (h1:aQ σ (.o j)=some (aM e es Pr)) (h2:aQ σ (.o j2)=some (aM e es Pr)) (hne:j≠j2) (hp: ∃vs,ι j= .tuple vs) (hq: ∃vs,ι j2= .tuple vs) {c:V} {v:Value} (h:lT σ ι w S c v):
 lT (mgS j j2 σ) (fun o=>if o=j then dp (ι j) (ι j2) else ι o) w S (mgV j j2 c) v:=by
 cases c with
 |e x=>exact ER.mg h1 h2 hne hp hq h
 |tup cs=>
  obtain⟨vs,hv,hl,hk⟩:=h
  refine⟨vs,hv,by simp[hl],fun k c u hc hu=> ?_⟩
  rw[List.getElem?_map] at hc
  cases hx:cs[k]? with
  |none=>rw[hx] at hc;cases hc
  |some c0=>rw[hx] at hc;cases hc;exact ER.mg h1 h2 hne hp hq (hk k c0 u hx hu)
theorem lB.mg (h1:aQ σ (.o j)=some (aM e es Pr)) (h2:aQ σ (.o j2)=some (aM e es Pr)) (hne:j≠j2) (hp: ∃vs,ι j= .tuple vs) (hq: ∃vs,ι j2= .tuple vs) {o b:Nat} (h:lB (mgS j j2 σ) (fun o=>if o=j then dp (ι j) (ι j2) else ι o) o b):
 o≠j2∧(lB σ ι o b∨(o=j∧lB σ ι j2 b)):=by
 obtain⟨⟨k,hk,hl⟩,hb⟩:=h
 rw[oI] at hk
 by_cases ho2:o=j2
 · subst ho2
   rw[h2] at hk
   simp at hk
   subst hk
   exact hl.elim
 · refine⟨ho2,?_⟩
   by_cases ho:o=j
   · subst ho
     dsimp only at hb
     rw[if_pos rfl,aEg (by obtain⟨a,ha⟩:=hp;obtain⟨b,hb⟩:=hq;rw[ha,hb];exact⟨_,rfl⟩)] at hb
     obtain⟨v,hv,hbv⟩:=hb
     rcases(mr hp hq).1 hv with hv|hv
     · exact .inl ⟨⟨_,h1,trivial⟩,(aEg hp).2 ⟨v,hv,hbv⟩⟩
     · exact .inr ⟨rfl,⟨_,h2,trivial⟩,(aEg hq).2 ⟨v,hv,hbv⟩⟩
   · left
     dsimp only at hb
     rw[if_neg ho] at hb
     cases hx:aQ σ (.o o) with
     |none=>rw[hx] at hk;cases hk
     |some k0=>
      rw[hx] at hk
      simp[ho2] at hk
      subst hk
      refine⟨⟨k0,hx,?_⟩,hb⟩
      cases k0<;>first|trivial|exact hl
theorem VR.mg (h:VR σ ι ν S w) (h1:aQ σ (.o j)=some (aM e es Pr)) (h2:aQ σ (.o j2)=some (aM e es Pr)) (hne:j≠j2):VR (mgS j j2 σ) (fun o=>if o=j then dp (ι j) (ι j2) else ι o) ν S w:=by
 have hp: ∃vs,ι j= .tuple vs:=(h.objs j _ h1).1
 have hq: ∃vs,ι j2= .tuple vs:=(h.objs j2 _ h2).1
 refine⟨fun s k hk=> ?_,fun o k hk=> ?_,fun o b hm=> ?_,fun o o' b hm hm'=> ?_,h.sz⟩
 · rw[oI] at hk
   cases hx:aQ σ (.t s) with
   |none=>rw[hx] at hk;cases hk
   |some k0=>
    rw[hx] at hk
    simp at hk
    subst hk
    have:=h.slots s k0 hx
    cases k0 with
    |v x=>exact lT.mg h1 h2 hne hp hq this
    |cv s w b x=>exact⟨fun hb=>lT.mg h1 h2 hne hp hq (this.1 hb),this.2⟩
    |_=>trivial
 · rw[oI] at hk
   by_cases ho2:o=j2
   · subst ho2;rw[h2] at hk;simp at hk;subst hk;trivial
   · cases hx:aQ σ (.o o) with
     |none=>rw[hx] at hk;cases hk
     |some k0=>
      rw[hx] at hk
      simp[ho2] at hk
      subst hk
      have ho':=h.objs o k0 hx
      by_cases ho:o=j
      · subst ho
        rw[h1] at hx;cases hx
        rw[if_pos rfl]
        refine⟨by obtain⟨a,ha⟩:=hp;obtain⟨b,hb⟩:=hq;rw[ha,hb];exact⟨_,rfl⟩,fun v hv=> ?_⟩
        rcases(mr hp hq).1 hv with hv|hv
        · exact(h.objs o _ h1).2 v hv
        · exact(h.objs j2 _ h2).2 v hv
      · rw[if_neg ho]
        cases k0 with
        |box ty cs=>
         obtain⟨b,vs,q1,q2,q3,q4⟩:=ho'
         refine⟨b,vs,q1,q2,by simp[q3],fun k c u hc hu=> ?_⟩
         rw[List.getElem?_map] at hc
         cases hy:cs[k]? with
         |none=>rw[hy] at hc;cases hc
         |some c0=>rw[hy] at hc;cases hc;exact CR.mg h1 h2 hne hp hq (q4 k c0 u hy hu)
        |row e es rows=>exact ho'
        |zone Z=>exact ho'
        |_=>trivial
 · rcases(lB.mg h1 h2 hne hp hq hm).2 with h'|⟨_,h'⟩
   · exact h.mutS _ b h'
   · exact h.mutS _ b h'
 · obtain⟨n1,c1⟩:=lB.mg h1 h2 hne hp hq hm
   obtain⟨n2,c2⟩:=lB.mg h1 h2 hne hp hq hm'
   rcases c1 with c1|⟨rfl,c1⟩<;>rcases c2 with c2|⟨rfl,c2⟩
   · exact h.inj o o' b c1 c2
   · exact(n1 (h.inj o j2 b c1 c2)).elim
   · exact(n2 (h.inj o' j2 b c2 c1)).elim
   · rfl
end
theorem RW.mg {P:Program} {cx:Cx P} {σ:St} {ι:Nat→Value} {S:Nat→Prop} {a:Act} {w:World} {j j2 es:Nat} {e:TypeId} {Pr:List D→Prop} (h:RW cx σ ι S a w) (h1:aQ σ (.o j)=some (aM e es Pr)) (h2:aQ σ (.o j2)=some (aM e es Pr)) (hne:j≠j2) (hk:cx.kio j2=none):
 RW cx (mgS j j2 σ) (fun o=>if o=j then dp (ι j) (ι j2) else ι o) S a w:=by
 have hp: ∃vs,ι j= .tuple vs:=(h.vr.objs j _ h1).1
 have hq: ∃vs,ι j2= .tuple vs:=(h.vr.objs j2 _ h2).1
 refine⟨h.vr.mg h1 h2 hne,h.size,h.defers,h.fr,fun o b hm=> ?_,h.rd,fun o k ho=> ?_⟩
 · rcases(lB.mg h1 h2 hne hp hq hm).2 with h'|⟨_,h'⟩
   · exact h.own _ b h'
   · exact h.own _ b h'
 · obtain⟨k',hk',hev⟩:=h.io o k ho
   have ho2:o≠j2:=fun e=>by rw[e,hk] at ho;cases ho
   refine⟨mgK j j2 k',by rw[oI,hk'];simp[ho2],?_⟩
   refine nJ.trans hev ?_
   by_cases hj:o=j
   · subst hj
     rw[h1] at hk';cases hk'
     rw[if_pos rfl]
     exact⟨rfl,fun v hv=>(mr hp hq).2 (.inl hv)⟩
   · rw[if_neg hj]
     cases k'<;>simp[nJ,mgK,ia.refl]
theorem SW.merge {P:Program} {io:List Nat} {Q:Ex→St→Prop} {σ:St} {c:Code} (j j2:Nat) {e:TypeId} {es:Nat} {Pr:List D→Prop} (h1:aQ σ (.o j)=some (aM e es Pr)) (h2:aQ σ (.o j2)=some (aM e es Pr)) (hne:j≠j2) (hk:iH j2 io=false) (h:SW P io c Q (mgS j j2 σ)):SW P io c Q σ:=fun cx ι S a w hio hw hf=>
 h cx _ S a w hio (hw.mg h1 h2 hne (by
  cases hx:cx.kio j2 with
  |none=>rfl
  |some k=>exact absurd (hF.2 (hio j2 k hx)) (by rw[hk];simp))) hf
def aKt (P:Program) (io:List Nat) (s q:St):Prop:= ∀c Q,SW P io c Q q→SW P io c Q s
section
variable {P:Program} {io:List Nat} {σ q:St} {Q:Ex→St→Prop}
theorem ms (h:WK io (fun x=>x=q) σ):aKt P io σ q:=fun c Q hq=>SW.wk h (fun s hs=>by subst hs;exact hq)
theorem aG5 (j j2:Nat) {e:TypeId} {es:Nat} {Pr:List D→Prop} (h1:aQ σ (.o j)=some (aM e es Pr)) (h2:aQ σ (.o j2)=some (aM e es Pr)) (hne:j≠j2) (hk:iH j2 io=false) (h:aKt P io (mgS j j2 σ) q):aKt P io σ q:=
 fun c Q hq=>SW.merge j j2 h1 h2 hne hk (h c Q hq)
theorem SW.midL {A:Type} (ok:A→Prop) (st:A→St) {x y:Code} (h:SW P io x (ka (fun s=> ∃a,ok a∧aKt P io s (st a)) Q) σ) (hy: ∀a,ok a→SW P io y Q (st a)):SW P io (.seq x y) Q σ:=
 SW.mid _ h fun s ⟨a,h1,h2⟩=>h2 y Q (hy a h1)
end
theorem vq {p:Prop} (h:p:=by first|exact True.intro|rfl|exact aW1 rfl|exact⟨rfl,aW1 rfl⟩|exact⟨by kernel_rfl,aW1 (by kernel_rfl)⟩|omega|((repeat' apply And.intro)<;>first|trivial|rfl|exact aW1 rfl|omega)|(simp;done)|(simp;omega)):p:=h
theorem s1 {p1 k:Prop} (x:k) (h1:p1:=by exact vq):p1∧k:=⟨h1,x⟩
theorem s2 {p1 p2 k:Prop} (x:k) (h1:p1:=by exact vq) (h2:p2:=by exact vq):p1∧p2∧k:=⟨h1,h2,x⟩
theorem s3 {p1 p2 p3 k:Prop} (x:k) (h1:p1:=by exact vq) (h2:p2:=by exact vq) (h3:p3:=by exact vq):p1∧p2∧p3∧k:=⟨h1,h2,h3,x⟩
theorem s4 {p1 p2 p3 p4 k:Prop} (x:k) (h1:p1:=by exact vq) (h2:p2:=by exact vq) (h3:p3:=by exact vq) (h4:p4:=by exact vq):p1∧p2∧p3∧p4∧k:=⟨h1,h2,h3,h4,x⟩
theorem s5 {p1 p2 p3 p4 p5 k:Prop} (x:k) (h1:p1:=by exact vq) (h2:p2:=by exact vq) (h3:p3:=by exact vq) (h4:p4:=by exact vq) (h5:p5:=by exact vq):p1∧p2∧p3∧p4∧p5∧k:=⟨h1,h2,h3,h4,h5,x⟩
theorem s6 {p1 p2 p3 p4 p5 p6 k:Prop} (x:k) (h1:p1:=by exact vq) (h2:p2:=by exact vq) (h3:p3:=by exact vq) (h4:p4:=by exact vq) (h5:p5:=by exact vq) (h6:p6:=by exact vq):p1∧p2∧p3∧p4∧p5∧p6∧k:=⟨h1,h2,h3,h4,h5,h6,x⟩
theorem s7 {p1 p2 p3 p4 p5 p6 p7 k:Prop} (x:k) (h1:p1:=by exact vq) (h2:p2:=by exact vq) (h3:p3:=by exact vq) (h4:p4:=by exact vq) (h5:p5:=by exact vq) (h6:p6:=by exact vq) (h7:p7:=by exact vq):p1∧p2∧p3∧p4∧p5∧p6∧p7∧k:=⟨h1,h2,h3,h4,h5,h6,h7,x⟩
theorem s8 {p1 p2 p3 p4 p5 p6 p7 p8 k:Prop} (x:k) (h1:p1:=by exact vq) (h2:p2:=by exact vq) (h3:p3:=by exact vq) (h4:p4:=by exact vq) (h5:p5:=by exact vq) (h6:p6:=by exact vq) (h7:p7:=by exact vq) (h8:p8:=by exact vq):p1∧p2∧p3∧p4∧p5∧p6∧p7∧p8∧k:=⟨h1,h2,h3,h4,h5,h6,h7,h8,x⟩
theorem s9 {p1 p2 p3 p4 p5 p6 p7 p8 p9 k:Prop} (x:k) (h1:p1:=by exact vq) (h2:p2:=by exact vq) (h3:p3:=by exact vq) (h4:p4:=by exact vq) (h5:p5:=by exact vq) (h6:p6:=by exact vq) (h7:p7:=by exact vq) (h8:p8:=by exact vq) (h9:p9:=by exact vq):p1∧p2∧p3∧p4∧p5∧p6∧p7∧p8∧p9∧k:=⟨h1,h2,h3,h4,h5,h6,h7,h8,h9,x⟩
theorem y1 {w1 p1 q1 k:Prop} (x:k) (h1:w1→p1:=by intro _;exact vq) (j1:q1:=by exact rk): (w1→p1)∧q1∧k:=⟨h1,j1,x⟩
theorem y2 {w1 p1 q1 w2 p2 q2 k:Prop} (x:k) (h1:w1→p1:=by intro _;exact vq) (j1:q1:=by exact rk) (h2:w2→p2:=by intro _;exact vq) (j2:q2:=by exact rk): (w1→p1)∧q1∧(w2→p2)∧q2∧k:=⟨h1,j1,h2,j2,x⟩
theorem y3 {w1 p1 q1 w2 p2 q2 w3 p3 q3 k:Prop} (x:k) (h1:w1→p1:=by intro _;exact vq) (j1:q1:=by exact rk) (h2:w2→p2:=by intro _;exact vq) (j2:q2:=by exact rk) (h3:w3→p3:=by intro _;exact vq) (j3:q3:=by exact rk): (w1→p1)∧q1∧(w2→p2)∧q2∧(w3→p3)∧q3∧k:=⟨h1,j1,h2,j2,h3,j3,x⟩
theorem y4 {w1 p1 q1 w2 p2 q2 w3 p3 q3 w4 p4 q4 k:Prop} (x:k) (h1:w1→p1:=by intro _;exact vq) (j1:q1:=by exact rk) (h2:w2→p2:=by intro _;exact vq) (j2:q2:=by exact rk) (h3:w3→p3:=by intro _;exact vq) (j3:q3:=by exact rk) (h4:w4→p4:=by intro _;exact vq) (j4:q4:=by exact rk): (w1→p1)∧q1∧(w2→p2)∧q2∧(w3→p3)∧q3∧(w4→p4)∧q4∧k:=⟨h1,j1,h2,j2,h3,j3,h4,j4,x⟩
section
variable {P:Program} {σ σ1 σin:St} {o:Oper} {f n:Nat} {X:V}
def aKu (σ:St) (o:Oper) (f n:Nat) (σin:St) (X:V) (k:List (dH×Option K)→Tmp→Prop):Prop:=match o.op,o.dst with
 | .call c,some d=>match c.callee,evA σ c.args.toList with
  | .value (.func f'),some (Xs,Ra)=>match Nat.beq f' f&&(Nat.beq Xs.length n&&(Xs.all oP&&oP X)) with
   |true=>σin=eV 0 Xs∧k Ra d
   |false=>False
  |_,_=>False
 |_,_=>False
theorem yj {k:List (dH×Option K)→Tmp→Prop} (h:aKu σ o f n σin X k): ∃c d Xs Ra,o.op= .call c∧c.callee= .value (.func f)∧o.dst=some d∧evA σ c.args.toList=some (Xs,Ra)∧Xs.length=n∧σin=eV 0 Xs∧Xs.all oP=true∧oP X=true∧k Ra d:=by
 unfold aKu at h
 split at h<;>try exact h.elim
 rename_i c d ho hd
 split at h<;>try exact h.elim
 rename_i f' Xs Ra hc hx
 split at h<;>try exact h.elim
 rename_i hb
 simp only[aW4] at hb
 obtain⟨h1,h2,h3,h4⟩:=hb
 have h1:=Nat.eq_of_beq_eq_true h1
 subst h1
 exact⟨c,d,Xs,Ra,ho,hc,hd,hx,Nat.eq_of_beq_eq_true h2,h.1,h3,h4,h.2⟩
theorem xp {k:List (dH×Option K)→List (dH×K)→Prop} (hs:Spec P f n σin [(.t 0,.v X)]) (h:aKu σ o f n σin X fun Ra d=>k Ra [(.t d,.v X)]): ∃R W,xS P o R W∧bQ R σ∧k R W:=by
 obtain⟨c,d,Xs,Ra,h1,h2,h3,h4,h5,h6,h7,h8,h9⟩:=yj h
 exact kf hs h1 h2 h3 h4 h5 h6 h7 h8 h9
theorem xc {g:Bool} {d:Tmp} {k:List (dH×Option K)→V→Prop} (hs:g=true→Spec P f n σin [(.t 0,.v X)]) (h:aKu σ1 o f n σin X fun Ra d'=>match Nat.beq d' d with|true=>(g=true→oO σ Ra)∧k Ra X|false=>False): ∃R X,(g=true→xS P o R [(.t d,.v X)]∧bQ R σ1)∧(g=true→oO σ R)∧k R X:=by
 obtain⟨c,d',Xs,Ra,h1,h2,h3,h4,h5,h6,h7,h8,h9⟩:=yj h
 split at h9
 · rename_i hb
   have hb:=Nat.eq_of_beq_eq_true hb
   subst hb
   exact aOa hs h1 h2 h3 h4 h5 h6 h7 h8 h9.1 h9.2
 · exact h9.elim
end
section
variable {P:Program} {io:List Nat} {Q:Ex→St→Prop} {s σ':St} {rl:List (Nat×Nat)} {bor:List Nat}
theorem wq {J:St→Prop} (rl:List (Nat×Nat)) (bor:List Nat) (h:J σ') (h1:qL s σ' rl bor σ') (h2:bb σ' rl bor=true:=by rfl) (h3:zA io σ' rl bor=true:=by rfl):WK io J s:=Ab.wk σ' rl bor h (qs h1) h2 h3
theorem wa {c:Code} (σ':St) (rl:List (Nat×Nat)) (bor:List Nat) (h1:qL s σ' rl bor σ') (h:SW P io c Q σ') (h2:bb σ' rl bor=true:=by rfl) (h3:zA io σ' rl bor=true:=by rfl):SW P io c Q s:=SW.weaken σ' rl bor ⟨qs h1,h2⟩ h3 h
theorem rq {T:hD} {rs:List ResultVar} {X:V} (rl:List (Nat×Nat)) (bor:List Nat) (h1:aHu T s rs=some X) (h2:qL ((.t 0,.v X)::eF s) σ' rl bor σ') (h3:bb σ' rl bor=true:=by rfl) (h4:ui io σ' rl bor=true:=by rfl):bc T io rs σ' s:=eC X rl bor h1 (qs h2) h3 h4
theorem sq {x y:Code} (h:SW P io x (ka (SW P io y Q) Q) s):SW P io (.seq x y) Q s:=SW.seq h
theorem sk (h:Q .norm s):SW P io .skip Q s:=SW.skip h
theorem bk {id:Nat} {c:Code} (h:SW P io c (aHs id Q) s):SW P io (.block id c) Q s:=SW.block h
theorem xt {id:Nat} (h:Q (.exit id) s):SW P io (.exit id) Q s:=SW.exit h
theorem rt (h:Q .ret s):SW P io .ret Q s:=SW.ret h
theorem cd {c:Operand} {x y:Code} {t:Bool} {R:List (dH×Option K)} (hc:ev s c=some (B t,R)) (h1:t=true→SW P io x Q s) (h2:t=false→SW P io y Q s):SW P io (.cond c x y) Q s:=SW.cond hc h1 h2
end
theorem qx {p:Prop} (h:p:=by first|exact True.intro|with_reducible rfl|exact aWp):p:=h
theorem qz {p:Prop} (h:p:=by(repeat' apply ai)<;>first|exact True.intro|with_reducible rfl|exact aWp|rfl|(simp;done)|omega):p:=h
abbrev tI (s:Nat) (x:Int):dH×K:=(.t s,.v (I x))
abbrev tB (s:Nat) (x:Bool):dH×K:=(.t s,.v (B x))
abbrev tD (s:Nat) (x:D):dH×K:=(.t s,.v (Dv x))
abbrev tP (s o:Nat):dH×K:=(.t s,.v (.e (.c (.pt o 0))))
abbrev tO (s o n:Nat):dH×K:=(.t s,.v (.e (.c (.own o n))))
abbrev tV (s:Nat) (x:V):dH×K:=(.t s,.v x)
abbrev oB (o:Nat) (t:TypeId) (cs:List C):dH×K:=(.o o,.box t cs)
abbrev oR (o:Nat) (t:TypeId) (n:Nat) (r:List (List D)):dH×K:=(.o o,.row t n r)
end Go.Ab
namespace Go.Proofs.YthbgjfegalcenaaGreatDoor
open Int renaming toNat_natCast→aWz
open List renaming length_append→aW0,length_nil→aW2,length_cons→aW3,length_take→aW5,getD_eq_getElem?_getD→aW7,getElem?_eq_getElem→aW8,length_drop→aW9,getElem?_eq_some_iff→aXb,range→aXc,mem_map→aXd,all_eq_true→aXe,take_length→aXf
open Nat renaming le_of_ble_eq_true→aW1,zero_le→aW6,le_refl→aXa
open Bool renaming and_eq_true→aW4
open Go Go.Ab Go.RowKit
set_option linter.unusedVariables false
abbrev Sp:=Ab.Spec Tryz.prog
abbrev nj:=Ab.SpecE Tryz.prog
theorem mo:Tryz.prog.follows .mixedOrders=true:=by kernel_rfl
theorem rT {io:List Nat} {Q:Ex→St→Prop} {σ:St} (ks:List Nat) {id:Nat} {ops:Array Oper} (h:goC Tryz.prog tab ops.toList false ops.toList σ [] fun σ' _=>rR ks σ' (Q .norm)):SW Tryz.prog io (.region id ops false) Q σ:=SW.regT cX ks h
theorem rD {io:List Nat} {Q:Ex→St→Prop} {σ:St} (ks:List Nat) {id:Nat} {ops:Array Oper} (h:goC Tryz.prog tab ops.toList true ops.toList σ [] fun σ' ns=>co ops.toList ns=true∧rR ks σ' (Q .norm)):SW Tryz.prog io (.region id ops true) Q σ:=SW.regD cX mo ks h
theorem rE {io:List Nat} {Q:Ex→St→Prop} {σ:St} (ks:List Nat) {id:Nat} {ops:Array Oper} (h:goE Tryz.prog tab io ops.toList ops.toList σ fun σ'=>rR ks σ' (Q .norm)):SW Tryz.prog io (.region id ops false) Q σ:=SW.regE cX ks h
theorem rF {io:List Nat} {Q:Ex→St→Prop} {σ:St} (ks:List Nat) {id:Nat} {ops:Array Oper} (h:goF Tryz.prog tab io ops.toList ops.toList σ fun σ'=>rR ks σ' (Q .norm)):SW Tryz.prog io (.region id ops false) Q σ:=SW.regF cX ks h
theorem rX {io:List Nat} {Q:Ex→St→Prop} {σ:St} (ks:List Nat) {id:Nat} {ops:Array Oper} (h:goX Tryz.prog ops.toList σ [] fun σ' ns=>co ops.toList ns=true∧rR ks σ' (Q .norm)):SW Tryz.prog io (.region id ops true) Q σ:=SW.regX mo ks h
theorem sb {f:FuncId} {fn:Func} {c:Code} {n:Nat} {σin:St} {σout:St} (hf:Tryz.prog.funcs[f]? =some fn) (hb:fn.body=some c) (h:SW Tryz.prog ((cA σin).filter fun o=>iH o (cA σout)) c (aR9 tab ((cA σin).filter fun o=>iH o (cA σout)) fn.results.toList σout) σin) (hname: (fn.name== "runtime.NumGoroutine")=false:=by kernel_rfl) (hn:n≤fn.ntmps:=by decide) (hfit:tQ fn.ntmps c=true:=by kernel_rfl) (hsl:sP n σin=true:=by rfl):Sp f n σin σout:=aC4 cX hf hb hname hn hfit hsl h
theorem pj {f:FuncId} {fn:Func} {c:Code} {n:Nat} {σin:St} {Qo:St→Prop} (hf:Tryz.prog.funcs[f]? =some fn) (hb:fn.body=some c) (h:SW Tryz.prog (cA σin) c (aOb tab (cA σin) fn.results.toList Qo) σin) (hname: (fn.name== "runtime.NumGoroutine")=false:=by kernel_rfl) (hn:n≤fn.ntmps:=by decide) (hfit:tQ fn.ntmps c=true:=by kernel_rfl) (hsl:sP n σin=true:=by rfl):nj f n σin Qo:=zy cX hf hb hname hn hfit hsl h
end Go.Proofs.YthbgjfegalcenaaGreatDoor
namespace Go.Ab
open Int renaming toNat_natCast→aWz
open List renaming length_append→aW0,length_nil→aW2,length_cons→aW3,length_take→aW5,getD_eq_getElem?_getD→aW7,getElem?_eq_getElem→aW8,length_drop→aW9,getElem?_eq_some_iff→aXb,range→aXc,mem_map→aXd,all_eq_true→aXe,take_length→aXf
open Nat renaming le_of_ble_eq_true→aW1,zero_le→aW6,le_refl→aXa
open Bool renaming and_eq_true→aW4
open Go Go.RowKit
set_option linter.unusedVariables false
set_option linter.unusedSimpArgs false
def pn (T:hD) (sz:Nat):Nat→List (Nat×TypeId)→Bool
 |off,[]=>Nat.beq off sz
 |off,p::r=>Nat.beq p.1 off&&(match T p.2 with|some fi=>pn T sz (off+fi.size) r|none=>false)
def jh (T:hD):Nat→TypeId→Bool
 |0,_=>false
 |n+1,t=>match T t with
  |none=>false
  |some ti=>match ti.kind with
   | .int .i64=>true
   | .int .u8=>true
   | .bool=>true
   | .str=>true
   | .sl e=>jh T n e
   | .st fs=>pn T ti.size 0 fs&&fs.all fun p=>jh T n p.2
   |_=>false
def vS (T:hD) (B:Nat):Nat→TypeId→List D→Prop
 |0,_,_=>False
 |n+1,t,ds=>match T t with
  |none=>False
  |some ti=>match ti.kind with
   | .int .i64=> ∃x,ds=[.i x]∧(Lit.int .i64 x).wf=true
   | .int .u8=> ∃x,ds=[.u x]∧(Lit.int .u8 x).wf=true
   | .bool=> ∃b,ds=[.b b]
   | .str=> ∃l,ds=[.s l]∧l.length≤B
   | .sl e=> ∃rows,ds=[.sl rows]∧(match T e with|some ei=>rows.length*ei.bytes≤B|none=>False)∧ ∀r∈rows,vS T B n e r
   | .st fs=>ds.length=ti.size∧ ∀p∈fs,match T p.2 with|some fi=>vS T B n p.2 ((ds.drop p.1).take fi.size)|none=>False
   |_=>False
section
variable {H:Type} {enc:TypeId×Value→H} {P:Program} {W:World} {sp:Nat→Bool} {held:Bool} {T:hD} {B:Nat}
theorem ji (hT:dR P T) {t:TypeId} {ti:TI} (h:T t=some ti):P.cellsOf t=ti.size∧P.bytesOf t=ti.bytes:=by
 obtain⟨i,z,hi,h1,h2,_⟩:=(hT t ti h).info
 exact⟨by simp[Program.cellsOf,hi,h1],by simp[Program.bytesOf,hi,h2]⟩
theorem aRx {a:Addr} {v:Value} (h:W.cell? a=some v):a.block<W.heap.size:=by
 unfold World.cell? at h
 cases hq:W.heap[a.block]? with
 |none=>rw[hq] at h;simp at h
 |some o=>exact(Array.getElem?_eq_some_iff.1 hq).1
theorem aG6 {base:Nat} {a:Addr} {n:Nat} {cs:List Value} (h:W.cells? base a n=some cs):cs.length=n∧ ∀(k:Nat) v,cs[k]? =some v→W.cell? (a.add k)=some v:=by
 unfold World.cells? at h
 split at h
 · have key: ∀(l:List Nat) (cs:List Value),l.mapM (fun i=>W.cell? (a.add i))=some cs→cs.length=l.length∧ ∀(k:Nat) v,cs[k]? =some v→ ∃i,l[k]? =some i∧W.cell? (a.add i)=some v:=by
    intro l
    induction l with
    |nil=>intro cs h;simp at h;subst h;exact⟨rfl,by simp⟩
    |cons x r ih=>
     intro cs h
     rw[List.mapM_cons] at h
     obtain⟨v,h1,h⟩:=Option.bind_eq_some_iff.1 h
     obtain⟨vs,h2,h⟩:=Option.bind_eq_some_iff.1 h
     cases h
     obtain⟨q1,q2⟩:=ih vs h2
     refine⟨by simp[q1],fun k u hu=> ?_⟩
     cases k with
     |zero=>simp at hu;subst hu;exact⟨x,rfl,h1⟩
     |succ k=>simpa using q2 k u (by simpa using hu)
   obtain⟨q1,q2⟩:=key _ _ h
   refine⟨by simpa using q1,fun k v hv=> ?_⟩
   obtain⟨i,h1,h2⟩:=q2 k v hv
   have:=(aXb.1 h1)
   obtain⟨h3,h4⟩:=this
   simp at h4
   rw[h4];exact h2
 · cases h
def SW0 (W:World):Nat→Prop:=fun b=>b<W.heap.size
def Rd (W:World) (ds:List D) (cs:List Value):Prop:=ds.length=cs.length∧ ∀(k:Nat) x v,ds[k]? =some x→cs[k]? =some v→DR W (SW0 W) x v
theorem Rd.one {x:D} {v:Value} (h:DR W (SW0 W) x v):Rd W [x] [v]:=⟨rfl,fun k y u h1 h2=>by
 cases k with
 |zero=>simp at h1 h2;subst h1;subst h2;exact h
 |succ k=>simp at h1⟩
theorem Rd.append {ds es:List D} {cs vs:List Value} (h:Rd W ds cs) (k:Rd W es vs):Rd W (ds++es) (cs++vs):=by
 refine⟨by simp[h.1,k.1],fun i x v h1 h2=> ?_⟩
 by_cases hi:i<ds.length
 · rw[List.getElem?_append_left hi] at h1
   rw[List.getElem?_append_left (by rw[← h.1];exact hi)] at h2
   exact h.2 i x v h1 h2
 · rw[List.getElem?_append_right (by omega)] at h1
   rw[List.getElem?_append_right (by rw[← h.1];omega),← h.1] at h2
   exact k.2 _ x v h1 h2
def aPm (enc:TypeId×Value→H) (P:Program) (W:World) (sp:Nat→Bool) (held:Bool) (T:hD) (B N:Nat) (t:TypeId):Prop:=
 ∀fuel cs d ps,DataW.trod enc P W 0 sp held fuel t cs=some (d,ps)→(d.weights P t).all (· ≤B)=true→ ∃ds,Rd W ds cs∧vS T B N t ds
theorem mt (hT:dR P T) {N sz fuel:Nat}: ∀(fs:List Field) (off:Nat) (cs:List Value) (xs:List (DataW H×List MemPlace)),pn T sz off (fs.map fun f=>(f.offset,f.type))=true→cs.length=sz→off≤sz→
 (∀f∈fs,aPm enc P W sp held T B N f.type)→fs.mapM (fun f=>DataW.trod enc P W 0 sp held fuel f.type ((cs.drop f.offset).take (P.cellsOf f.type)))=some xs→(DataW.weightsEach P (fs.map (·.type)) (xs.map (·.1))).all (· ≤B)=true→
 ∃ds,Rd W ds (cs.drop off)∧ ∀p∈fs.map (fun f=>(f.offset,f.type)),off≤p.1∧match T p.2 with|some fi=>vS T B N p.2 ((ds.drop (p.1 - off)).take fi.size)|none=>False
 | [],off,cs,xs,ht,hl,ho,_,_,_=>by
  have:off=sz:=Nat.eq_of_beq_eq_true ht
  exact⟨[],by rw[List.drop_eq_nil_of_le (by omega)];exact⟨rfl,by simp⟩,by simp⟩
 |f::fs,off,cs,xs,ht,hl,ho,hop,hm,hw=>by
  simp only[List.map_cons,pn,aW4] at ht
  obtain⟨h1,h2⟩:=ht
  have h1:=Nat.eq_of_beq_eq_true h1
  cases hf:T f.type with
  |none=>rw[hf] at h2;cases h2
  |some fi=>
   rw[hf] at h2
   simp only at h2
   rw[List.mapM_cons] at hm
   obtain⟨x,hx,hm⟩:=Option.bind_eq_some_iff.1 hm
   obtain⟨ys,hy,hm⟩:=Option.bind_eq_some_iff.1 hm
   cases hm
   obtain⟨hc1,hc2⟩:=ji hT hf
   simp only[List.map_cons,DataW.weightsEach,List.all_append,aW4] at hw
   obtain⟨ds,hr,hty⟩:=hop f (List.mem_cons_self ..) _ _ _ _ hx hw.1
   have hoff:off+fi.size≤sz:=by
    have key: ∀(l:List (Nat×TypeId)) (o:Nat),pn T sz o l=true→o≤sz:=by
     intro l
     induction l with
     |nil=>intro o h;exact Nat.le_of_eq (Nat.eq_of_beq_eq_true h)
     |cons p r ih=>
      intro o h
      simp only[pn,aW4] at h
      cases hq:T p.2 with
      |none=>rw[hq] at h;cases h.2
      |some qi=>rw[hq] at h;have:=ih _ h.2;omega
    exact key _ _ h2
   obtain⟨es,hr2,hty2⟩:=mt hT fs (off+fi.size) cs ys h2 hl hoff (fun g hg=>hop g (List.mem_cons_of_mem _ hg)) hy hw.2
   rw[hc1,h1] at hr
   have hdl:ds.length=fi.size:=by rw[hr.1,aW5,aW9];omega
   refine⟨ds++es,?_,fun p hp=> ?_⟩
   · have e:cs.drop off=(cs.drop off).take fi.size++cs.drop (off+fi.size):=by
      rw[← List.drop_drop,List.take_append_drop]
     rw[e];exact hr.append hr2
   · rcases List.mem_cons.1 hp with rfl|hp
     · refine⟨Nat.le_of_eq h1.symm,?_⟩
       simp only[hf,h1,Nat.sub_self,List.drop_zero]
       rw[List.take_append_of_le_length (by omega),← hdl,aXf];exact hty
     · obtain⟨q1,q2⟩:=hty2 p hp
       refine⟨by omega,?_⟩
       cases hq:T p.2 with
       |none=>rw[hq] at q2;exact q2
       |some qi=>
        rw[hq] at q2
        simp only at q2 ⊢
        rw[List.drop_append,List.drop_eq_nil_of_le (by omega),List.nil_append,hdl,show p.1 - off - fi.size=p.1 - (off+fi.size) by omega]
        exact q2
theorem dq {e:TypeId}: ∀{l:List (DataW H)},(DataW.weightsAll P e l).all (· ≤B)=true→ ∀d∈l,(d.weights P e).all (· ≤B)=true
 | [],_,d,hd=>by cases hd
 |x::r,h,d,hd=>by
  simp only[DataW.weightsAll,List.all_append,aW4] at h
  rcases List.mem_cons.1 hd with rfl|hd
  · exact h.1
  · exact dq h.2 d hd
theorem jj (hT:dR P T): ∀(N:Nat) (t:TypeId),jh T N t=true→aPm enc P W sp held T B N t
 |0,t,h=>by cases h
 |N+1,t,h=>by
  intro fuel cs d ps htr hw
  unfold jh at h
  cases ht:T t with
  |none=>rw[ht] at h;cases h
  |some ti=>
   rw[ht] at h
   simp only at h
   have hok:=hT t ti ht
   have hk:=hok.kind
   cases fuel with
   |zero=>cases htr
   |succ fuel=>
    cases hkk:ti.kind with
    |int k=>
     rw[hkk] at h hk
     simp only[lW] at hk
     unfold DataW.trod at htr
     rw[hk] at htr
     split at htr<;>rename_i he<;>try(cases he;done)
     · rename_i _ _ kk mm
       cases he
       split at htr
       · rename_i hc
         cases htr
         obtain⟨rfl,hwf⟩:=hc
         cases kk<;>try(cases h;done)
         · exact⟨[.i mm],.one (.i _),by unfold vS;simp only[ht,hkk];exact⟨_,rfl,hwf⟩⟩
         · exact⟨[.u mm],.one (.u _),by unfold vS;simp only[ht,hkk];exact⟨_,rfl,hwf⟩⟩
       · cases htr
     all_goals cases htr
    |bool=>
     rw[hkk] at hk
     simp only[lW] at hk
     unfold DataW.trod at htr
     rw[hk] at htr
     split at htr<;>rename_i he<;>try(cases he;done)
     · cases htr
       exact⟨[.b _],.one (.b _),by unfold vS;simp only[ht,hkk];exact⟨_,rfl⟩⟩
     all_goals cases htr
    |str=>
     rw[hkk] at hk
     simp only[lW] at hk
     unfold DataW.trod at htr
     rw[hk] at htr
     split at htr<;>rename_i he<;>try(cases he;done)
     · rename_i _ s
       split at htr
       · cases htr
         refine⟨[.s s.data.toList],.one (.s _),?_⟩
         unfold vS;simp only[ht,hkk]
         exact⟨_,rfl,by simpa[DataW.weights] using hw⟩
       · cases htr
     all_goals cases htr
    |sl e=>
     rw[hkk] at h hk
     simp only[lW] at hk
     simp only at h
     have hih:=jj hT N e h
     cases he:T e with
     |none=>cases N with
      |zero=>cases h
      |succ N=>unfold jh at h;rw[he] at h;cases h
     |some ei=>
      obtain⟨hc1,hc2⟩:=ji hT he
      have hep:=(hT e ei he).pos
      rcases Deep.open_slice hk htr with⟨rfl,hx⟩|⟨a,len,cap,m,n,Df,Pl,rfl,hb,hl,hm,hmm,hx,hel⟩
      · refine⟨[.sl []],.one (.sl [] none 0 0 ⟨0,0,none⟩ (fun _ _=>undef) (by simp) (by simp[maxLen]) (by simp) (by simp) (by simp) (by simp)),?_⟩
        unfold vS;simp only[ht,hkk]
        exact⟨[],rfl,by simp[he],by simp⟩
      · cases hx
        simp only[DataW.weights,hk,List.all_cons,List.all_append,aW4,decide_eq_true_eq,List.length_map,List.length_range] at hw
        have hlm:len≤m:=by rw[hmm];split<;>omega
        have hrow: ∀i,i<len→ ∃r,(∃cs',W.cells? 0 (a.add (i*ei.size)) ei.size=some cs'∧Rd W r cs')∧vS T B N e r:=by
         intro i hi
         obtain⟨cs',h1,h2⟩:=hel i (by omega)
         rw[hc1] at h1
         obtain⟨r,q1,q2⟩:=hih _ _ _ _ h2 (dq hw.2.1 _ (aXd.2 ⟨i,List.mem_range.2 hi,rfl⟩))
         exact⟨r,⟨cs',h1,q1⟩,q2⟩
        obtain⟨rf,hrf⟩: ∃rf:Nat→List D,∀i,i<len→(∃cs',W.cells? 0 (a.add (i*ei.size)) ei.size=some cs'∧Rd W (rf i) cs')∧vS T B N e (rf i):=
         ⟨fun i=>if hi:i<len then Classical.choose (hrow i hi) else [],fun i hi=>by dsimp only;rw[dif_pos hi];exact Classical.choose_spec (hrow i hi)⟩
        have hget: ∀(i:Nat) r,((aXc len).map rf)[i]? =some r→i<len∧r=rf i:=by
         intro i r hr
         rw[List.getElem?_map] at hr
         by_cases hi:i<len
         · rw[List.getElem?_range hi] at hr;simp at hr;exact⟨hi,hr.symm⟩
         · rw[List.getElem?_eq_none (by simpa using hi)] at hr;cases hr
        have hlen: ∀i,i<len→(rf i).length=ei.size:=by
         intro i hi
         obtain⟨⟨cs',h1,h2⟩,_⟩:=hrf i hi
         rw[h2.1,(aG6 h1).1]
        have hcell: ∀i,i<len→ ∀(k:Nat) x,(rf i)[k]? =some x→ ∃v,W.cell? (a.add (i*ei.size+k))=some v∧DR W (SW0 W) x v:=by
         intro i hi k x hx
         obtain⟨⟨cs',h1,h2⟩,_⟩:=hrf i hi
         have hk':k<cs'.length:=by rw[← h2.1];exact(aXb.1 hx).1
         refine⟨cs'[k],?_,h2.2 k x _ hx (aW8 hk')⟩
         have:=(aG6 h1).2 k _ (aW8 hk')
         rwa [Deep.add_add] at this
        refine⟨[.sl ((aXc len).map rf)],.one ?_,?_⟩
        · have e1: ((aXc len).map rf).length=len:=by simp
          have:=DR.sl (w:=W) (S:=SW0 W) ((aXc len).map rf) (some a) cap ei.size a (fun i k=>(W.cell? (a.add (i*ei.size+k))).getD undef) (by rw[e1];exact hl) hm
           (fun r hr=>by obtain⟨i,hi,rfl⟩:=aXd.1 hr;exact hlen i (List.mem_range.1 hi)) (fun _=>rfl)
           (fun i r k d hi hk=>by
            obtain⟨h1,rfl⟩:=hget i r hi
            obtain⟨v,h2,h3⟩:=hcell i h1 k d hk
            have hb: (a.add (i*ei.size+k)).block=a.block:=by unfold Addr.add;split<;>rfl
            exact⟨by have:=aRx h2;rw[hb] at this;exact this,by rw[h2];rfl⟩)
           (fun i r k d hi hk=>by
            obtain⟨h1,rfl⟩:=hget i r hi
            obtain⟨v,h2,h3⟩:=hcell i h1 k d hk
            rw[h2];exact h3)
          rw[e1] at this;exact this
        · unfold vS;simp only[ht,hkk]
          refine⟨_,rfl,?_,fun r hr=> ?_⟩
          · simp only[he]
            rw[List.length_map,List.length_range,← hc2]
            have:=hw.1
            rw[Nat.add_mul] at this
            omega
          · obtain⟨i,hi,rfl⟩:=aXd.1 hr
            exact(hrf i (List.mem_range.1 hi)).2
    |st fs=>
     rw[hkk] at h hk
     simp only[lW] at hk
     obtain⟨fields,hu,hfs⟩:=hk
     simp only[aW4] at h
     unfold DataW.trod at htr
     rw[hu] at htr
     have htr: (if cs.length=P.cellsOf t then(fields.toList.mapM fun f=>DataW.trod enc P W 0 sp held fuel f.type ((cs.drop f.offset).take (P.cellsOf f.type))).map fun xs=>(DataW.agg (xs.map (·.1)),xs.flatMap (·.2)) else none)=some (d,ps):=htr
     split at htr
     · rename_i hcl
       obtain⟨xs,hxs,hmk⟩:=Option.map_eq_some_iff.1 htr
       cases hmk
       have hsz:=(ji hT ht).1
       simp only[DataW.weights,hu] at hw
       obtain⟨ds,h1,h2⟩:=mt hT fields.toList 0 cs xs (by rw[hfs];exact h.1) (by rw[hcl,hsz]) (aW6 _)
        (fun f hf=>jj hT N f.type (by
         have:=aXe.1 h.2 (f.offset,f.type) (by rw[← hfs];exact aXd.2 ⟨f,hf,rfl⟩)
         exact this)) hxs hw
       refine⟨ds,by simpa using h1,?_⟩
       unfold vS;simp only[ht,hkk]
       refine⟨by have:=h1.1;simp at this;rw[this,hcl,hsz],fun p hp=> ?_⟩
       rw[← hfs] at hp
       have:=(h2 p hp).2
       simpa using this
     · cases htr
    |arr n e=>rw[hkk] at h;cases h
    |ptr e=>rw[hkk] at h;cases h
end
section
variable {H:Type} {enc:TypeId×Value→H} {P:Program} {W:World} {sp:Nat→Bool} {held:Bool} {T:hD} {B:Nat}
theorem yM (hT:dR P T) (N:Nat) {t:TypeId} {ti:TI} (ht:T t=some ti) (hd:jh T N t=true) {v:Value} {d:DataW H} {ps:List MemPlace} {r:Reach} {base:Nat} (h:DataW.Trod enc P W 0 sp held t v d ps) (hv:Value.okWide P W r base t v) (hw: (d.weights P t).all (· ≤B)=true):
 ∃ds,vS T B N t ds∧(ti.kind.agg=true→ ∀σ ι,lT σ ι W (SW0 W) (.e (.agg (ds.map C.d))) v)∧(ti.kind.agg=false→ ∃x,ds=[x]∧ ∀σ ι,lT σ ι W (SW0 W) (Dv x) v):=by
 obtain⟨fuel,hf⟩:=h
 obtain⟨ds,h1,h2⟩:=jj hT N t hd _ _ _ _ hf hw
 refine⟨ds,h2,fun ha=> ?_,fun ha=> ?_⟩
 · have hk:=(hT t ti ht).kind
   have hcs: ∃cs,v= .agg cs:=by
    cases hkk:ti.kind<;>rw[hkk] at ha hk<;>simp only[TK.agg] at ha<;>try(cases ha;done)
    · simp only[lW] at hk
      obtain⟨fields,hu,_⟩:=hk
      obtain⟨cs,hcs,_⟩:=WideShapes.okWide_struct hu hv
      exact⟨cs,hcs⟩
    · cases N with
      |zero=>cases hd
      |succ N=>unfold jh at hd;rw[ht] at hd;simp only[hkk] at hd;cases hd
   obtain⟨cs,rfl⟩:=hcs
   intro σ ι
   have h1:Rd W ds cs.toList:=h1
   refine⟨cs.toList,by simp,by rw[List.length_map,h1.1],fun k c u hc hu=> ?_⟩
   rw[List.getElem?_map] at hc
   cases hq:ds[k]? with
   |none=>rw[hq] at hc;cases hc
   |some x=>rw[hq] at hc;cases hc;exact h1.2 k x u hq hu
 · have hk:=(hT t ti ht).kind
   have hone:v.cells.toList=[v]:=by
    cases hkk:ti.kind<;>rw[hkk] at ha hk<;>simp only[TK.agg] at ha<;>try(cases ha;done)
    all_goals simp only[lW] at hk
    · obtain⟨n,rfl⟩:=WideShapes.okWide_int hk hv;rfl
    · obtain⟨n,rfl⟩:=WideShapes.okWide_bool hk hv;rfl
    · obtain⟨n,rfl⟩:=WideShapes.okWide_string hk hv;rfl
    · obtain⟨a,l,c,rfl⟩:=WideShapes.okWide_slice hk hv;rfl
    · obtain⟨a,rfl⟩:=WideShapes.okWide_pointer hk hv;rfl
   rw[hone] at h1
   match ds,h1.1 with
   | [x],_=>exact⟨x,rfl,fun σ ι=>h1.2 0 x v rfl rfl⟩
theorem vT (hgb:GB P W fun _=>False) {f:FuncId} {n:Nat} {Xs:List V} (hs:Spec P f n (eV 0 Xs) [(.t 0,.v (Ab.B true))]) {args:Array Value} (hn:Xs.length=n) (hsz:args.size=n) (hX: ∀(i:Nat) X v,Xs[i]? =some X→args[i]? =some v→ ∀σ ι,lT σ ι W (SW0 W) X v):
 Calls P f args W fun e W'=>e= .returned (.bool true)∧Below W.heap.size W W':=by
 have hlo: ∀o,aQ (eV 0 Xs) (.o o)=none:=fun o=>by have:=lC 0 Xs [] o;simpa[aQ] using this
 have hvr:VR (eV 0 Xs) (fun _=>undef) (fun i=>(args[i]?).getD undef) (SW0 W) W:=by
  refine⟨fun s k hk=> ?_,(fun o k hk=>by rw[hlo] at hk;cases hk),fun o b hm=> ?_,fun o o' b hm=> ?_,fun b hb=>hb⟩
  · rcases uG 0 Xs [] s k (by simpa using hk) with⟨X,h1,rfl,_,h2⟩|h
    · have h3:s<args.size:=by omega
      have:args[s]? =some args[s]:=Array.getElem?_eq_getElem h3
      show lT _ _ _ _ X ((args[s]?).getD undef)
      rw[this]
      exact hX s X _ (by simpa using h1) this _ _
    · cases h
  · obtain⟨⟨k,hk,_⟩,_⟩:=hm;rw[hlo] at hk;cases hk
  · obtain⟨⟨k,hk,_⟩,_⟩:=hm;rw[hlo] at hk;cases hk
 refine(hs.2 _ _ _ W args (hgb.weak fun b ⟨o,⟨k,hk,_⟩,_⟩=>by rw[hlo] at hk;cases hk) hvr hsz fun i hi=> ?_).mono fun e W' ⟨v,ι',S',he,hp⟩=> ?_
 · rw[Array.getElem?_eq_getElem (by omega)];rfl
 · have hv:=hp.vr.slots 0 (.v (Ab.B true)) rfl
   simp only[rO,lT,ER,CR] at hv
   refine⟨?_,hp.fr.os,hp.fr.tape,hp.fr.output,hp.fr.size,fun k hk=>hp.fr.block k hk fun⟨o,⟨q,hq,_⟩,_⟩=>by rw[hlo] at hq;cases hq⟩
   rw[he];cases hv;rfl
end
end Go.Ab
namespace Go.Proofs.YthbgjfegalcenaaGreatDoor
open Int renaming toNat_natCast→aWz
open List renaming length_append→aW0,length_nil→aW2,length_cons→aW3,length_take→aW5,getD_eq_getElem?_getD→aW7,getElem?_eq_getElem→aW8,length_drop→aW9,getElem?_eq_some_iff→aXb,range→aXc,mem_map→aXd,all_eq_true→aXe,take_length→aXf
open Nat renaming le_of_ble_eq_true→aW1,zero_le→aW6,le_refl→aXa
open Bool renaming and_eq_true→aW4
open Go Go.Ab Go.RowKit
set_option linter.unusedVariables false
set_option linter.unusedSimpArgs false
set_option maxRecDepth 9000
theorem gM (n lo hi:Int):Sp 73 3 [tI 0 n,tI 1 lo,tI 2 hi] [tB 0 (iK n lo hi)]:=by
 refine sb Tryz.func73 rfl (sq (rT [0,1,2] (s1 (sq (rT [6] (s4 (y3 (ai pk (s1 (rt (bJ rfl ?_)))))))))))
 simp[iK,gb]
theorem dM (n lo hi:Int):Sp 101 3 [tI 0 n,tI 1 lo,tI 2 hi] [tB 0 (iK n lo hi)]:=by
 refine sb Tryz.func101 rfl (sq (rT [0,1,2] (s1 (sq (rT [6] (s4 (y3 (ai pk (s1 (rt (bJ rfl ?_)))))))))))
 simp[iK,gb]
theorem iN (n:Int):Sp 63 1 [tI 0 n] [tB 0 (eN n)]:=by
 refine sb Tryz.func63 rfl (sq (rT [0] (s1 (sq (rT [2] (s1 (xp (gM _ _ _) (ai rfl ?_))))))))
 refine s1 (rt (bJ rfl ?_))
 first|rfl|(simp;done)|(simp_all;done)
theorem dF (n:Int):Sp 67 1 [tI 0 n] [tB 0 (eN n)]:=by
 refine sb Tryz.func67 rfl (sq (rT [0] (s1 (sq (rT [2] (s1 (xp (dM _ _ _) (ai rfl ?_))))))))
 refine s1 (rt (bJ rfl ?_))
 first|rfl|(simp;done)|(simp_all;done)
theorem sT (a b c d:Int):Sp 169 4 [tI 0 a,tI 1 b,tI 2 c,tI 3 d] [tB 0 (cF a b c d)]:=by
 refine sb Tryz.func169 rfl (sq (rT [0,1,2,3] (s1 (sq (rT [8] (s4 (y4 (y3 (ai (fun h=>pk) (ai rk (ai pk (s1 (rt (bJ rfl (congrArg D.b ?_)))))))))))))))
 simp[cF,gb]
theorem rB (a b c d:Int):Sp 198 4 [tI 0 a,tI 1 b,tI 2 c,tI 3 d] [tB 0 (cF a b c d)]:=by
 refine sb Tryz.func198 rfl (sq (rT [0,1,2,3] (s1 (sq (rT [8] (s4 (y4 (y3 (ai (fun h=>pk) (ai rk (ai pk (s1 (rt (bJ rfl (congrArg D.b ?_)))))))))))))))
 simp[cF,gb]
theorem aAl (m:cB):Sp 170 1 [tV 0 m.V] [tB 0 (lK m)]:=by
 refine sb Tryz.func170 rfl (sq (rT [1] (s2 (sq (rT [2] (s2 (xp (iN _) (ai rfl ?_))))))))
 refine s1 (y2 (xc (fun h=>(gM _ _ _)) (ai rfl (ai rk ?_))))
 refine ai pk (s1 (y2 (xc (fun h=>(gM _ _ _)) (ai rfl (ai rk ?_)))))
 refine ai pk (s1 (rt (bJ rfl (congrArg D.b ?_))))
 simp[lK,gb]
theorem aAm (s:List UInt8) (hl:s.length≤140737488355328):Sp 158 1 [tD 0 (.s s)] [tB 0 (zG s)]:=by
 refine sb Tryz.func158 rfl (sq (rT [0] (s1 (sq (sq (rT [0,3] (s1 (bk (SW.loopW (n:=s.length) (fun n q=> ∃i:Nat,n=s.length - i∧i≤s.length∧(∀k,k<i→vK s k=true)∧q=[tD 0 (.s s),tI 3 (i:Nat)]) ?_ ?_)))))))))
 · exact wq (σ':=[tD 0 (.s s),tI 3 (0:Nat)]) [] [] (⟨0,rfl,aW6 _,fun k h=>absurd h (by omega),rfl⟩) qz
 rintro n s ⟨i,rfl,hi,hk,rfl⟩
 refine sq (sq (rT [0,3,7] (s4 (cd rfl (fun c7=> ?_) fun c7=> ?_))))
 · have hi2:i<s.length:=by simpa using c7
   have hb8:=kJ s i
   have hw:wrap64 ((s.getD ((i:Nat):Int).toNat 0).toNat:Int)=jG s i:=aC (by unfold jG at hb8;rw[aWz];omega)
   refine sk (sq (bk (sq (rT [0,3,15] (s2 (ai (by exact⟨by omega,by omega⟩) (s1 (xp (gM _ _ _) (ai rfl ?_)))))))))
   refine s1 (cd rfl (fun c15=> ?_) fun c15=> ?_)
   · refine sq (rT [2] (s1 (rt (bJ rfl (congrArg D.b ?_)))))
     have hs:vK s i=false:=by
      have h9:=c15
      rw[hw] at h9
      simpa[vK] using h9
     rw[zG,fU hi2 hs];rfl
   refine sk (rT [0,3] (s3 ?_))
   have hs:vK s i=true:=by
    have h9:=c15
    rw[hw] at h9
    simpa[vK] using h9
   refine wq [] [] (⟨s.length - (i+1),by omega,i+1,rfl,by omega,fun k h=>by by_cases e:k=i;exact e▸hs;exact hk k (by omega),rfl⟩) ?_
   repeat' apply ai
   all_goals first|exact qx|exact congrArg D.i (aC (by omega))|exact qz
 have hi3:i=s.length:=by simp at c7;omega
 refine xt (sq (rT [2] (s2 (xp (gM _ _ _) (ai rfl ?_)))))
 refine s1 (rt (bJ rfl (congrArg D.b ?_)))
 subst hi3
 rw[zG,iP hk];rfl
theorem sU (n:bA) (hl:n.text.length≤140737488355328):Sp 113 1 [tV 0 n.V] [tB 0 (eP n)]:=by
 refine sb Tryz.func113 rfl (sq (rT [1] (s2 (sq (rT [2] (s2 (xp (iN _) (ai rfl ?_))))))))
 refine s1 (y2 (xc (fun h=>(iN _)) (ai rfl (ai rk ?_))))
 refine ai pk (s1 (y2 (xc (fun h=>(gM _ _ _)) (ai rfl (ai rk ?_)))))
 refine ai pk (s1 (y2 (xc (fun h=>(gM _ _ _)) (ai rfl (ai rk ?_)))))
 refine ai pk (s1 (y2 (xc (fun h=>(aAm n.text hl)) (ai rfl (ai rk ?_)))))
 refine ai pk (s1 (rt (bJ rfl (congrArg D.b ?_))))
 simp[eP,gb,Bool.and_assoc]
set_option maxHeartbeats 800000 in
theorem xM (n:bA) (hl:n.text.length≤140737488355328):Sp 136 1 [tV 0 n.V] [tB 0 (eP n)]:=by
 refine sb Tryz.func136 rfl (sq (rT [1] (s2 (sq (sq (rT [1,37] (s2 (xp (dF _) (ai rfl ?_)))))))))
 refine s2 (y2 (xc (fun h=>(dF _)) (ai rfl (ai rk ?_))))
 refine y1 (ai pk (s1 (y2 (xc (fun h=>(dM _ _ _)) (ai rfl (ai rk ?_))))))
 refine y1 (ai pk (s1 (y2 (xc (fun h=>(dM _ _ _)) (ai rfl (ai rk ?_))))))
 refine y1 (ai pk (s1 (y4 (ai pk (s1 (y4 (ai pk (cd rfl (fun c37=> ?_) fun c37=> ?_))))))))
 · refine sq (rT [2] (s1 (rt (bJ rfl (congrArg D.b ?_)))))
   cases h:eP n with
   |false=>rfl
   |true=>
    exfalso
    simp only[eP,zG,aW4] at h
    obtain⟨⟨⟨⟨h1,h2⟩,h3⟩,h4⟩,h5,h6⟩:=h
    simp only[iK,aW4,decide_eq_true_eq] at h6
    simp only[h1,h2,h3,h4,Bool.not_true,Bool.false_or,Bool.or_eq_true,decide_eq_true_eq] at c37
    omega
 have hf:eN n.frm=true∧eN n.to=true∧iK n.num 1 99=true∧iK n.til 1 999=true∧1≤n.text.length∧n.text.length≤24:=by
  simp only[gb,Bool.or_eq_false_iff,Bool.not_eq_false,decide_eq_false_iff_not,Bool.not_eq_eq_eq_not,Bool.not_false] at c37
  grind
 refine sk (sq (sq (rT [1,3] (s1 (bk (SW.loopW (n:=n.text.length) (fun m q=> ∃i:Nat,m=n.text.length - i∧i≤n.text.length∧(∀k,k<i→vK n.text k=true)∧q=[tP 1 1,tI 3 (i:Nat),oB 1 58 [.d (.i n.frm),.d (.i n.num),.d (.i n.to),.d (.i n.til),.d (.s n.text)]]) ?_ ?_))))))
 · exact wq (σ':=[tP 1 1,tI 3 (0:Nat),oB 1 58 [.d (.i n.frm),.d (.i n.num),.d (.i n.to),.d (.i n.til),.d (.s n.text)]]) [] [] (⟨0,rfl,aW6 _,fun k h=>absurd h (by omega),rfl⟩) qz
 rintro n s ⟨i,rfl,hi,hk,rfl⟩
 refine sq (sq (rT [1,3,42] (s5 (cd rfl (fun c42=> ?_) fun c42=> ?_))))
 · have hi2:i<n.text.length:=by simpa using c42
   refine sk (sq (bk (sq (rT [1,3,56] (s3 (ai (by exact⟨by omega,by omega⟩) (s2 (y3 (ai (fun h=>(by exact⟨by omega,by omega⟩)) (ai rk (y1 (ai pk (cd rfl (fun c56=> ?_) fun c56=> ?_)))))))))))))
   · refine sq (rT [2] (s1 (rt (bJ rfl (congrArg D.b ?_)))))
     have hs:vK n.text i=false:=by
      have h9:=c56
      rw[aWz] at h9
      simp[gb] at h9
      simp[vK,iK,jG];omega
     rw[eP,zG,fU hi2 hs];simp
   refine sk (rT [1,3] (s3 ?_))
   have hs:vK n.text i=true:=by
    have h9:=c56
    rw[aWz] at h9
    simp[gb] at h9
    simp[vK,iK,jG];omega
   refine wq [] [] (⟨n.text.length - (i+1),by omega,i+1,rfl,by omega,fun k h=>by by_cases e:k=i;exact e▸hs;exact hk k (by omega),rfl⟩) ?_
   repeat' apply ai
   all_goals first|exact qx|exact congrArg D.i (aC (by omega))|exact qz
 have hi3:i=n.text.length:=by simp at c42;omega
 refine xt (sq (rT [2] (s1 (rt (bJ rfl (congrArg D.b ?_))))))
 subst hi3
 obtain⟨h1,h2,h3,h4,h5,h6⟩:=hf
 rw[eP,zG,iP hk,h1,h2,h3,h4]
 simp[iK];omega
theorem nF (l:List bA) (f m:Int) (hl:l.length≤1000000):Sp 104 3 [tD 0 (.sl (aE l)),tI 1 f,tI 2 m] [tI 0 (aW l f m)]:=by
 refine sb Tryz.func104 rfl (sq (rT [0,1,2] (s1 (sq (sq (rT [1,2,9,10,11] (s3 (bk (SW.loopW (n:=l.length) (fun n q=> ∃i:Nat,n=l.length - i∧i≤l.length∧(∀k,k<i→oQ l f m k=false)∧q=[tI 1 f,tI 2 m,tD 9 (.sl (aE l)),tI 10 (l.length:Nat),tI 11 (i:Nat)]) ?_ ?_)))))))))
 · refine wq (σ':=[tI 1 f,tI 2 m,tD 9 (.sl (aE l)),tI 10 (l.length:Nat),tI 11 (0:Nat)]) [] [] (⟨0,rfl,aW6 _,fun k h=>absurd h (by omega),rfl⟩) ?_
   repeat' apply ai
   all_goals first|exact qx|(rw[aB];done)|rfl|exact qz
 rintro n s ⟨i,rfl,hi,hk,rfl⟩
 refine sq (rT [1,2,9,10,11,12] (s1 (sq (cd rfl (fun c12=> ?_) fun c12=> ?_))))
 · have hi2:i<l.length:=by simpa using c12
   have hg:=aR (l:=l) hi2
   refine sk (sq (bk (sq (rT [1,2,7,8,9,10,11] (s1 (ai (by rw[aWz,hg];exact⟨⟨by omega,by rw[aB];omega⟩,rfl⟩) (ai (by rw[aWz,hg];exact⟨aW1 rfl,rfl⟩) (s3 (sq (rT [1,2,7,9,10,11,25] (s5 (y4 (ai pk (cd rfl (fun c25=> ?_) fun c25=> ?_))))))))))))))
   · refine sq (rT [6] (s2 (rt (bJ rfl (congrArg D.i ?_)))))
     have hs:oQ l f m i=true:=by
      have h9:=c25
      rw[aWz,hg] at h9
      exact h9
     exact(lV (aW6 _) (by omega) (fun j _ h=>hk j h) hs).symm
   refine sk (rT [1,2,9,10,11] (s2 ?_))
   have hs:oQ l f m i=false:=by
    have h9:=c25
    rw[aWz,hg] at h9
    exact h9
   refine wq [] [] (⟨l.length - (i+1),by omega,i+1,rfl,by omega,fun k h=>by by_cases e:k=i;exact e▸hs;exact hk k (by omega),rfl⟩) ?_
   repeat' apply ai
   all_goals first|exact qx|exact congrArg D.i (aC (by omega))|exact qz
 have hi3:i=l.length:=by simp at c12;omega
 refine xt (sq (rT [6] (s1 (rt (bJ rfl (congrArg D.i ?_))))))
 exact(lY (fun j _ h=>hk j (by omega))).symm
theorem gG (l:List bA) (f m:Int) (hl:l.length≤1000000):Sp 100 3 [tD 0 (.sl (aE l)),tI 1 f,tI 2 m] [tI 0 (aW l f m)]:=by
 refine sb Tryz.func100 rfl (sq (rT [0,1,2] (s1 (sq (sq (rT [0,1,2,7] (s1 (bk (SW.loopW (n:=l.length) (fun n q=> ∃i:Nat,n=l.length - i∧i≤l.length∧(∀k,k<i→oQ l f m k=false)∧q=[tD 0 (.sl (aE l)),tI 1 f,tI 2 m,tI 7 (i:Nat)]) ?_ ?_)))))))))
 · exact wq (σ':=[tD 0 (.sl (aE l)),tI 1 f,tI 2 m,tI 7 (0:Nat)]) [] [] (⟨0,rfl,aW6 _,fun k h=>absurd h (by omega),rfl⟩) qz
 rintro n s ⟨i,rfl,hi,hk,rfl⟩
 refine sq (sq (rT [0,1,2,7,11] (s4 (cd rfl (fun c11=> ?_) fun c11=> ?_))))
 · have hi2:i<l.length:=by simpa[aB] using c11
   have hg:=aR (l:=l) hi2
   refine sk (sq (bk (sq (rT [0,1,2,7,29] (s2 (ai (by rw[aWz,hg];exact⟨⟨by omega,by rw[aB];omega⟩,rfl⟩) (s1 (ai (by rw[aWz,hg];exact⟨aW1 rfl,rfl⟩) (s3 (y2 (ai (fun h=>(by rw[aWz,hg];exact⟨⟨by omega,by rw[aB];omega⟩,rfl⟩)) (ai rk (y1 (ai (fun h=>(by rw[aWz,hg];exact⟨aW1 rfl,rfl⟩)) (ai rk (y2 (ai pk (cd rfl (fun c29=> ?_) fun c29=> ?_))))))))))))))))))
   · refine sq (rT [6] (s2 (rt (bJ rfl (congrArg D.i ?_)))))
     have hs:oQ l f m i=true:=by
      have h9:=c29
      rw[aWz,hg] at h9
      exact h9
     exact(lV (aW6 _) (by omega) (fun j _ h=>hk j h) hs).symm
   refine sk (rT [0,1,2,7] (s3 ?_))
   have hs:oQ l f m i=false:=by
    have h9:=c29
    rw[aWz,hg] at h9
    exact h9
   refine wq [] [] (⟨l.length - (i+1),by omega,i+1,rfl,by omega,fun k h=>by by_cases e:k=i;exact e▸hs;exact hk k (by omega),rfl⟩) ?_
   repeat' apply ai
   all_goals first|exact qx|exact congrArg D.i (aC (by omega))|exact qz
 have hi3:i=l.length:=by simp[aB] at c11;omega
 refine xt (sq (rT [6] (s1 (rt (bJ rfl (congrArg D.i ?_))))))
 exact(lY (fun j _ h=>hk j (by omega))).symm
theorem sV (l:List cB) (f m:Int) (hl:l.length≤1000000):Sp 132 3 [tD 0 (.sl (aO l)),tI 1 f,tI 2 m] [tI 0 (gR l f m)]:=by
 refine sb Tryz.func132 rfl (sq (rT [0,1,2] (s1 (sq (sq (rT [1,2,9,10,11] (s3 (bk (SW.loopW (n:=l.length) (fun n q=> ∃i:Nat,n=l.length - i∧i≤l.length∧(∀k,k<i→sA l f m k=false)∧q=[tI 1 f,tI 2 m,tD 9 (.sl (aO l)),tI 10 (l.length:Nat),tI 11 (i:Nat)]) ?_ ?_)))))))))
 · refine wq (σ':=[tI 1 f,tI 2 m,tD 9 (.sl (aO l)),tI 10 (l.length:Nat),tI 11 (0:Nat)]) [] [] (⟨0,rfl,aW6 _,fun k h=>absurd h (by omega),rfl⟩) ?_
   repeat' apply ai
   all_goals first|exact qx|(rw[aF];done)|rfl|exact qz
 rintro n s ⟨i,rfl,hi,hk,rfl⟩
 refine sq (rT [1,2,9,10,11,12] (s1 (sq (cd rfl (fun c12=> ?_) fun c12=> ?_))))
 · have hi2:i<l.length:=by simpa using c12
   have hg:=bW (l:=l) hi2
   refine sk (sq (bk (sq (rT [1,2,7,8,9,10,11] (s1 (ai (by rw[aWz,hg];exact⟨⟨by omega,by rw[aF];omega⟩,rfl⟩) (ai (by rw[aWz,hg];exact⟨aW1 rfl,rfl⟩) (s3 (sq (rT [1,2,7,9,10,11,25] (s5 (y4 (ai pk (cd rfl (fun c25=> ?_) fun c25=> ?_))))))))))))))
   · refine sq (rT [6] (s2 (rt (bJ rfl (congrArg D.i ?_)))))
     have hs:sA l f m i=true:=by
      have h9:=c25
      rw[aWz,hg] at h9
      exact h9
     exact(lV (aW6 _) (by omega) (fun j _ h=>hk j h) hs).symm
   refine sk (rT [1,2,9,10,11] (s2 ?_))
   have hs:sA l f m i=false:=by
    have h9:=c25
    rw[aWz,hg] at h9
    exact h9
   refine wq [] [] (⟨l.length - (i+1),by omega,i+1,rfl,by omega,fun k h=>by by_cases e:k=i;exact e▸hs;exact hk k (by omega),rfl⟩) ?_
   repeat' apply ai
   all_goals first|exact qx|exact congrArg D.i (aC (by omega))|exact qz
 have hi3:i=l.length:=by simp at c12;omega
 refine xt (sq (rT [6] (s1 (rt (bJ rfl (congrArg D.i ?_))))))
 exact(lY (fun j _ h=>hk j (by omega))).symm
theorem nT (l:List cB) (f m:Int) (hl:l.length≤1000000):Sp 168 3 [tD 0 (.sl (aO l)),tI 1 f,tI 2 m] [tI 0 (gR l f m)]:=by
 refine sb Tryz.func168 rfl (sq (rT [0,1,2] (s1 (sq (sq (rT [0,1,2,7] (s1 (bk (SW.loopW (n:=l.length) (fun n q=> ∃i:Nat,n=l.length - i∧i≤l.length∧(∀k,k<i→sA l f m k=false)∧q=[tD 0 (.sl (aO l)),tI 1 f,tI 2 m,tI 7 (i:Nat)]) ?_ ?_)))))))))
 · exact wq (σ':=[tD 0 (.sl (aO l)),tI 1 f,tI 2 m,tI 7 (0:Nat)]) [] [] (⟨0,rfl,aW6 _,fun k h=>absurd h (by omega),rfl⟩) qz
 rintro n s ⟨i,rfl,hi,hk,rfl⟩
 refine sq (sq (rT [0,1,2,7,11] (s4 (cd rfl (fun c11=> ?_) fun c11=> ?_))))
 · have hi2:i<l.length:=by simpa[aF] using c11
   have hg:=bW (l:=l) hi2
   refine sk (sq (bk (sq (rT [0,1,2,7,29] (s2 (ai (by rw[aWz,hg];exact⟨⟨by omega,by rw[aF];omega⟩,rfl⟩) (s1 (ai (by rw[aWz,hg];exact⟨aW1 rfl,rfl⟩) (s3 (y2 (ai (fun h=>(by rw[aWz,hg];exact⟨⟨by omega,by rw[aF];omega⟩,rfl⟩)) (ai rk (y1 (ai (fun h=>(by rw[aWz,hg];exact⟨aW1 rfl,rfl⟩)) (ai rk (y2 (ai pk (cd rfl (fun c29=> ?_) fun c29=> ?_))))))))))))))))))
   · refine sq (rT [6] (s2 (rt (bJ rfl (congrArg D.i ?_)))))
     have hs:sA l f m i=true:=by
      have h9:=c29
      rw[aWz,hg] at h9
      exact h9
     exact(lV (aW6 _) (by omega) (fun j _ h=>hk j h) hs).symm
   refine sk (rT [0,1,2,7] (s3 ?_))
   have hs:sA l f m i=false:=by
    have h9:=c29
    rw[aWz,hg] at h9
    exact h9
   refine wq [] [] (⟨l.length - (i+1),by omega,i+1,rfl,by omega,fun k h=>by by_cases e:k=i;exact e▸hs;exact hk k (by omega),rfl⟩) ?_
   repeat' apply ai
   all_goals first|exact qx|exact congrArg D.i (aC (by omega))|exact qz
 have hi3:i=l.length:=by simp[aF] at c11;omega
 refine xt (sq (rT [6] (s1 (rt (bJ rfl (congrArg D.i ?_))))))
 exact(lY (fun j _ h=>hk j (by omega))).symm
theorem aEh (id:Int) (n:bA):Sp 131 2 [tI 0 id,tV 1 n.V] [tB 0 (cw id n)]:=by
 refine sb Tryz.func131 rfl (sq (rT [0,3] (s2 (sq (rT [4] (s5 (y4 (y1 (xc (fun h=>(gM _ _ _)) (ai rfl (ai rk ?_)))))))))))
 refine y4 (y2 (xc (fun h=>(gM _ _ _)) (ai rfl (ai rk ?_))))
 refine ai (fun h=>pk) (ai rk (ai pk (s1 (rt (bJ rfl (congrArg D.b ?_))))))
 first|(simp only[cw,iK,gb];done)|(simp only[cw,iK,gb];grind)
theorem aAn (n:bA) (id:Int):Sp 167 2 [tV 0 n.V,tI 1 id] [tB 0 (cw id n)]:=by
 refine sb Tryz.func167 rfl (sq (rT [1,2] (s2 (sq (rT [4] (s5 (y4 (ai pk (s1 (y4 (y4 (y1 (ai (fun h=>pk) (ai rk (ai pk (s1 (rt (bJ rfl (congrArg D.b ?_)))))))))))))))))))
 first|(simp only[cw,iK,gb];done)|(simp only[cw,iK,gb];grind)
set_option maxHeartbeats 800000 in
theorem dt (l:List bA) (hx: ∀x∈l,x.text.length≤140737488355328) (hl:l.length≤100000):Sp 129 1 [tD 0 (.sl (aE l))] [tB 0 (kB l)]:=by
 refine sb Tryz.func129 rfl (sq (rT [0] (s1 (sq (sq (rT [0,5,6,7] (s3 (bk (SW.loopW (n:=l.length) (fun n q=> ∃i:Nat,n=l.length - i∧i≤l.length∧(∀k,k<i→lP l k=true)∧q=[tD 0 (.sl (aE l)),tD 5 (.sl (aE l)),tI 6 (l.length:Nat),tI 7 (i:Nat)]) ?_ ?_)))))))))
 · refine wq (σ':=[tD 0 (.sl (aE l)),tD 5 (.sl (aE l)),tI 6 (l.length:Nat),tI 7 (0:Nat)]) [] [] (⟨0,rfl,aW6 _,fun k h=>absurd h (by omega),rfl⟩) ?_
   repeat' apply ai
   all_goals first|exact qx|(rw[aB];done)|rfl|exact qz
 rintro n s ⟨i,rfl,hi,hk,rfl⟩
 refine sq (rT [0,5,6,7,8] (s1 (sq (cd rfl (fun c8=> ?_) fun c8=> ?_))))
 · have hi2:i<l.length:=by simpa using c8
   have hg:=aR (l:=l) hi2
   have hmem:l.getD i .zero∈l:=by rw[aW7,aW8 hi2];exact List.getElem_mem _
   refine sk (sq (bk (sq (rT [0,3,4,5,6,7] (s1 (ai (by rw[aWz,hg];exact⟨⟨by omega,by rw[aB];omega⟩,rfl⟩) (ai (by rw[aWz,hg];exact⟨aW1 rfl,rfl⟩) (s3 (sq (rD [0,5,6,7,38] (s1 (xp (sU (l.getD i .zero) (hx _ hmem)) (ai (by rw[aWz,hg];rfl) ?_)))))))))))))
   refine s2 (y4 (y2 (ai (fun h=>(by have h0:0<i:=(by have h9:=h;simp[gb] at h9;omega);rw[fF h0 (by omega),aWz,aR (by omega),aB];exact⟨⟨by omega,by omega⟩,rfl⟩)) (ai rk (y1 (ai (fun h=>(by have h0:0<i:=(by have h9:=h;simp[gb] at h9;omega);rw[fF h0 (by omega),aWz,aR (by omega)];exact⟨aW1 rfl,rfl⟩)) (ai rk (y3 (ai (fun h=>(by have h0:0<i:=(by have h9:=h;simp[gb] at h9;omega);rw[fF h0 (by omega),aWz,aR (by omega),aB];exact⟨⟨by omega,by omega⟩,rfl⟩)) (ai rk (y1 (ai (fun h=>(by have h0:0<i:=(by have h9:=h;simp[gb] at h9;omega);rw[fF h0 (by omega),aWz,aR (by omega)];exact⟨aW1 rfl,rfl⟩)) (ai rk (y4 (xc (fun h=>(sT _ _ _ _)) (ai rfl (ai rk ?_)))))))))))))))))
   refine y1 (ai (fun h=>pk) (ai rk (ai pk (ai (by kernel_rfl) (cd rfl (fun c38=> ?_) fun c38=> ?_)))))
   · refine sq (rT [2] (s1 (rt (bJ rfl (congrArg D.b ?_)))))
     have hs:lP l i=false:=uK c38 (fun h0=>by simp only[fF h0 (show i≤1000000 by omega),aWz,hg,aR (show i - 1<l.length by omega)];rfl)
     rw[kB,fU hi2 hs]
   refine sk (rT [0,5,6,7] (s2 ?_))
   have hs:lP l i=true:=uK c38 (fun h0=>by simp only[fF h0 (show i≤1000000 by omega),aWz,hg,aR (show i - 1<l.length by omega)];rfl)
   refine wq [] [] (⟨l.length - (i+1),by omega,i+1,rfl,by omega,fun k h=>by by_cases e:k=i;exact e▸hs;exact hk k (by omega),rfl⟩) ?_
   repeat' apply ai
   all_goals first|exact qx|exact congrArg D.i (aC (by omega))|exact qz
 have hi3:i=l.length:=by simp at c8;omega
 refine xt (sq (rT [2] (s1 (rt (bJ rfl (congrArg D.b ?_))))))
 subst hi3
 rw[kB,iP hk]
set_option maxHeartbeats 800000 in
theorem bj (l:List bA) (most:Int) (hx: ∀x∈l,x.text.length≤140737488355328) (hl:l.length≤100000):Sp 165 2 [tD 0 (.sl (aE l)),tI 1 most] [tB 0 (decide ((l.length:Int)≤most)&&kB l)]:=by
 refine sb Tryz.func165 rfl (sq (rT [0,1] (s1 (sq (sq (rT [0,9] (s4 (cd rfl (fun c9=> ?_) fun c9=> ?_))))))))
 · refine sq (rT [4] (s1 (rt (bJ rfl (congrArg D.b ?_)))))
   simp[aB] at c9
   simp[Int.not_le.2 c9]
 have hm: (l.length:Int)≤most:=by simp[aB] at c9;omega
 refine sk (sq (sq (rT [0,5] (s1 (bk (SW.loopW (n:=l.length) (fun n q=> ∃i:Nat,n=l.length - i∧i≤l.length∧(∀k,k<i→lP l k=true)∧q=[tD 0 (.sl (aE l)),tI 5 (i:Nat)]) ?_ ?_))))))
 · exact wq (σ':=[tD 0 (.sl (aE l)),tI 5 (0:Nat)]) [] [] (⟨0,rfl,aW6 _,fun k h=>absurd h (by omega),rfl⟩) qz
 rintro n s ⟨i,rfl,hi,hk,rfl⟩
 refine sq (sq (rT [0,5,13] (s4 (cd rfl (fun c13=> ?_) fun c13=> ?_))))
 · have hi2:i<l.length:=by simpa[aB] using c13
   have hg:=aR (l:=l) hi2
   have hmem:l.getD i .zero∈l:=by rw[aW7,aW8 hi2];exact List.getElem_mem _
   refine sk (sq (bk (sq (rD [0,5,51] (s2 (ai (by rw[aWz,hg];exact⟨⟨by omega,by rw[aB];omega⟩,rfl⟩) (ai (by rw[aWz,hg];exact⟨aW1 rfl,rfl⟩) (xp (xM (l.getD i .zero) (hx _ hmem)) (ai (by rw[aWz,hg];rfl) ?_)))))))))
   refine s2 (y4 (y2 (ai (fun h=>(by have h0:0<i:=(by have h9:=h;simp[gb] at h9;omega);rw[fF h0 (by omega),aWz,aR (by omega),aB];exact⟨⟨by omega,by omega⟩,rfl⟩)) (ai rk (y1 (ai (fun h=>(by have h0:0<i:=(by have h9:=h;simp[gb] at h9;omega);rw[fF h0 (by omega),aWz,aR (by omega)];exact⟨aW1 rfl,rfl⟩)) (ai rk (y3 (ai (fun h=>(by have h0:0<i:=(by have h9:=h;simp[gb] at h9;omega);rw[fF h0 (by omega),aWz,aR (by omega),aB];exact⟨⟨by omega,by omega⟩,rfl⟩)) (ai rk (y1 (ai (fun h=>(by have h0:0<i:=(by have h9:=h;simp[gb] at h9;omega);rw[fF h0 (by omega),aWz,aR (by omega)];exact⟨aW1 rfl,rfl⟩)) (ai rk (y2 (ai (fun h=>(by rw[aWz,hg];exact⟨⟨by omega,by rw[aB];omega⟩,rfl⟩)) (ai rk (y1 (ai (fun h=>(by rw[aWz,hg];exact⟨aW1 rfl,rfl⟩)) (ai rk (y2 (ai (fun h=>(by rw[aWz,hg];exact⟨⟨by omega,by rw[aB];omega⟩,rfl⟩)) (ai rk (y1 (ai (fun h=>(by rw[aWz,hg];exact⟨aW1 rfl,rfl⟩)) (ai rk (xc (fun h=>(rB _ _ _ _)) (ai rfl (ai rk ?_))))))))))))))))))))))))))))
   refine y1 (ai (fun h=>pk) (ai rk (ai pk (ai (by kernel_rfl) (cd rfl (fun c51=> ?_) fun c51=> ?_)))))
   · refine sq (rT [4] (s1 (rt (bJ rfl (congrArg D.b ?_)))))
     have hs:lP l i=false:=uK c51 (fun h0=>by simp only[fF h0 (show i≤1000000 by omega),aWz,hg,aR (show i - 1<l.length by omega)];rfl)
     rw[kB,fU hi2 hs];simp
   refine sk (rT [0,5] (s3 ?_))
   have hs:lP l i=true:=uK c51 (fun h0=>by simp only[fF h0 (show i≤1000000 by omega),aWz,hg,aR (show i - 1<l.length by omega)];rfl)
   refine wq [] [] (⟨l.length - (i+1),by omega,i+1,rfl,by omega,fun k h=>by by_cases e:k=i;exact e▸hs;exact hk k (by omega),rfl⟩) ?_
   repeat' apply ai
   all_goals first|exact qx|exact congrArg D.i (aC (by omega))|exact qz
 have hi3:i=l.length:=by simp[aB] at c13;omega
 refine xt (sq (rT [4] (s1 (rt (bJ rfl (congrArg D.b ?_))))))
 subst hi3
 rw[kB,iP hk];simp[hm]
set_option maxHeartbeats 800000 in
theorem yk (l:List cB) (hl:l.length≤100000):Sp 130 1 [tD 0 (.sl (aO l))] [tB 0 (oC l)]:=by
 refine sb Tryz.func130 rfl (sq (rT [0] (s1 (sq (sq (rT [0,5,6,7] (s3 (bk (SW.loopW (n:=l.length) (fun n q=> ∃i:Nat,n=l.length - i∧i≤l.length∧(∀k,k<i→mO l k=true)∧q=[tD 0 (.sl (aO l)),tD 5 (.sl (aO l)),tI 6 (l.length:Nat),tI 7 (i:Nat)]) ?_ ?_)))))))))
 · refine wq (σ':=[tD 0 (.sl (aO l)),tD 5 (.sl (aO l)),tI 6 (l.length:Nat),tI 7 (0:Nat)]) [] [] (⟨0,rfl,aW6 _,fun k h=>absurd h (by omega),rfl⟩) ?_
   repeat' apply ai
   all_goals first|exact qx|(rw[aF];done)|rfl|exact qz
 rintro n s ⟨i,rfl,hi,hk,rfl⟩
 refine sq (rT [0,5,6,7,8] (s1 (sq (cd rfl (fun c8=> ?_) fun c8=> ?_))))
 · have hi2:i<l.length:=by simpa using c8
   have hg:=bW (l:=l) hi2
   have hmem:l.getD i .zero∈l:=by rw[aW7,aW8 hi2];exact List.getElem_mem _
   refine sk (sq (bk (sq (rT [0,3,4,5,6,7] (s1 (ai (by rw[aWz,hg];exact⟨⟨by omega,by rw[aF];omega⟩,rfl⟩) (ai (by rw[aWz,hg];exact⟨aW1 rfl,rfl⟩) (s3 (sq (rD [0,5,6,7,38] (s1 (xp (aAl (l.getD i .zero)) (ai (by rw[aWz,hg];rfl) ?_)))))))))))))
   refine s2 (y4 (y2 (ai (fun h=>(by have h0:0<i:=(by have h9:=h;simp[gb] at h9;omega);rw[fF h0 (by omega),aWz,bW (by omega),aF];exact⟨⟨by omega,by omega⟩,rfl⟩)) (ai rk (y1 (ai (fun h=>(by have h0:0<i:=(by have h9:=h;simp[gb] at h9;omega);rw[fF h0 (by omega),aWz,bW (by omega)];exact⟨aW1 rfl,rfl⟩)) (ai rk (y3 (ai (fun h=>(by have h0:0<i:=(by have h9:=h;simp[gb] at h9;omega);rw[fF h0 (by omega),aWz,bW (by omega),aF];exact⟨⟨by omega,by omega⟩,rfl⟩)) (ai rk (y1 (ai (fun h=>(by have h0:0<i:=(by have h9:=h;simp[gb] at h9;omega);rw[fF h0 (by omega),aWz,bW (by omega)];exact⟨aW1 rfl,rfl⟩)) (ai rk (y4 (xc (fun h=>(sT _ _ _ _)) (ai rfl (ai rk ?_)))))))))))))))))
   refine y1 (ai (fun h=>pk) (ai rk (ai pk (ai (by kernel_rfl) (cd rfl (fun c38=> ?_) fun c38=> ?_)))))
   · refine sq (rT [2] (s1 (rt (bJ rfl (congrArg D.b ?_)))))
     have hs:mO l i=false:=uL c38 (fun h0=>by simp only[fF h0 (show i≤1000000 by omega),aWz,hg,bW (show i - 1<l.length by omega)];rfl)
     rw[oC,fU hi2 hs]
   refine sk (rT [0,5,6,7] (s2 ?_))
   have hs:mO l i=true:=uL c38 (fun h0=>by simp only[fF h0 (show i≤1000000 by omega),aWz,hg,bW (show i - 1<l.length by omega)];rfl)
   refine wq [] [] (⟨l.length - (i+1),by omega,i+1,rfl,by omega,fun k h=>by by_cases e:k=i;exact e▸hs;exact hk k (by omega),rfl⟩) ?_
   repeat' apply ai
   all_goals first|exact qx|exact congrArg D.i (aC (by omega))|exact qz
 have hi3:i=l.length:=by simp at c8;omega
 refine xt (sq (rT [2] (s1 (rt (bJ rfl (congrArg D.b ?_))))))
 subst hi3
 rw[oC,iP hk]
set_option maxHeartbeats 3200000 in
theorem xN (k:bB) (hx: ∀x∈k.held,x.text.length≤140737488355328) (hy: ∀x∈k.inbox,x.text.length≤140737488355328):Sp 89 1 [tV 0 k.V] [tB 0 (dJ k)]:=by
 refine sb Tryz.func89 rfl (sq (rT [1] (s2 (sq (sq (rT [1,42] (s2 (xp (iN _) (ai rfl ?_)))))))))
 refine s2 (y2 (xc (fun h=>(gM _ _ _)) (ai rfl (ai rk ?_))))
 refine y1 (ai pk (s1 (y2 (xc (fun h=>(gM _ _ _)) (ai rfl (ai rk ?_))))))
 refine y1 (ai pk (s1 (y4 (ai pk (s1 (y4 (ai pk (s1 (y4 (ai pk (cd rfl (fun c42=> ?_) fun c42=> ?_)))))))))))
 · refine sq (rT [2] (s1 (rt (bJ rfl (congrArg D.b ?_)))))
   refine(oD fun h=> ?_).symm
   obtain⟨⟨h1,h2,h3,h4,h5,h6⟩,⟨h7,h8,h9⟩,h10,h11,h12⟩:=(cC k).1 h
   simp only[gb,iK,aB,aF,h1,Bool.not_true,Bool.false_or,Bool.or_eq_true,Bool.not_eq_eq_eq_not,Bool.and_eq_false_iff,decide_eq_true_eq,decide_eq_false_iff_not,Bool.not_eq_true'] at c42
   omega
 have hf:eN k.id=true∧(0≤k.time∧k.time≤999)∧(1≤k.next∧k.next≤100)∧k.held.length≤6∧k.marks.length≤12∧k.inbox.length≤6:=by
  simp only[gb,iK,aB,aF,Bool.or_eq_false_iff,Bool.not_eq_false,decide_eq_false_iff_not,Bool.not_eq_eq_eq_not,Bool.not_false,aW4,decide_eq_true_eq] at c42
  obtain⟨⟨⟨⟨⟨q1,q2⟩,q3⟩,q4⟩,q5⟩,q6⟩:=c42
  exact⟨q1,q2,q3,by omega,by omega,by omega⟩
 obtain⟨f1,f2,f3,f4,f5,f6⟩:=hf
 refine sk (sq (sq (rT [1,58] (s2 (xp (dt k.held hx (by omega)) (ai rfl ?_))))))
 refine s2 (y2 (xc (fun h=>(yk k.marks (by omega))) (ai rfl (ai rk ?_))))
 refine y1 (ai pk (s1 (y2 (xc (fun h=>(dt k.inbox hy (by omega))) (ai rfl (ai rk ?_))))))
 refine y1 (ai pk (cd rfl (fun c58=> ?_) fun c58=> ?_))
 · refine sq (rT [2] (s1 (rt (bJ rfl (congrArg D.b ?_)))))
   refine(oD fun h=> ?_).symm
   obtain⟨⟨h1,h2,h3,h4,h5,h6⟩,⟨h7,h8,h9⟩,h10,h11,h12⟩:=(cC k).1 h
   rw[h7,h8,h9] at c58
   cases c58
 have hg3:kB k.held=true∧oC k.marks=true∧kB k.inbox=true:=by
  simp only[gb,Bool.or_eq_false_iff,Bool.not_eq_false,Bool.not_eq_eq_eq_not,Bool.not_false] at c58
  exact⟨c58.1.1,c58.1.2,c58.2⟩
 refine sk (sq (sq (rT [1,60,61,62] (s4 (bk (SW.loopW (n:=k.held.length) (fun n q=> ∃i:Nat,n=k.held.length - i∧i≤k.held.length∧(∀j,j<i→tS k j=true)∧q=[tP 1 1,tD 60 (.sl (aE k.held)),tI 61 (k.held.length:Nat),tI 62 (i:Nat),oB 1 32 [.d (.i k.id),.d (.i k.time),.d (.i k.next),.d (.sl (aE k.held)),.d (.sl (aO k.marks)),.d (.sl (aE k.inbox))]]) ?_ ?_))))))
 · refine wq (σ':=[tP 1 1,tD 60 (.sl (aE k.held)),tI 61 (k.held.length:Nat),tI 62 (0:Nat),oB 1 32 [.d (.i k.id),.d (.i k.time),.d (.i k.next),.d (.sl (aE k.held)),.d (.sl (aO k.marks)),.d (.sl (aE k.inbox))]]) [] [] (⟨0,rfl,aW6 _,fun j h=>absurd h (by omega),rfl⟩) ?_
   repeat' apply ai
   all_goals first|exact qx|(rw[aB];done)|rfl|exact qz
 rintro n s ⟨i,rfl,hi,hk,rfl⟩
 refine sq (rT [1,60,61,62,63] (s1 (sq (cd rfl (fun c63=> ?_) fun c63=> ?_))))
 · have hi2:i<k.held.length:=by simpa using c63
   have hg:=aR (l:=k.held) hi2
   refine sk (sq (bk (sq (rT [1,4,60,61,62] (ai (by rw[aWz,hg];exact⟨⟨by omega,by rw[aB];omega⟩,rfl⟩) (ai (by rw[aWz,hg];exact⟨aW1 rfl,rfl⟩) (s2 (sq (wa [tP 1 1,tD 60 (.sl (aE k.held)),tI 61 (k.held.length:Nat),tI 62 (i:Nat),oB 1 32 [.d (.i k.id),.d (.i k.time),.d (.i k.next),.d (.sl (aE k.held)),.d (.sl (aO k.marks)),.d (.sl (aE k.inbox))],tP 4 4,oB 4 58 [.d (.i (k.held.getD i .zero).frm),.d (.i (k.held.getD i .zero).num),.d (.i (k.held.getD i .zero).to),.d (.i (k.held.getD i .zero).til),.d (.s (k.held.getD i .zero).text)]] [] [] ?_ ?_)))))))))
   · repeat' apply ai
     all_goals first|exact qx|(rw[aWz,hg];rfl)|exact qz
   refine rT [1,60,61,62,101] (s6 (y4 (y1 (ai pk (s1 (y4 (y1 (ai pk (s1 (y3 (xc (fun h=>(aEh k.id (k.held.getD i .zero))) (ai rfl (ai rk ?_)))))))))))))
   refine y1 (ai pk (s1 (y4 (y2 (xc (fun h=>(sV k.marks _ _ (by omega))) (ai rfl (ai rk ?_)))))))
   refine y1 (ai pk (cd rfl (fun c101=> ?_) fun c101=> ?_))
   · refine sq (rT [2] (s1 (rt (bJ rfl (congrArg D.b ?_)))))
     refine(oD fun h=> ?_).symm
     obtain⟨⟨h1,h2,h3,h4,h5,h6⟩,⟨h7,h8,h9⟩,h10,h11,h12⟩:=(cC k).1 h
     rw[fU hi2 (zI c101)] at h10
     cases h10
   refine sk (rT [1,60,61,62] (s2 ?_))
   have hs:tS k i=true:=zI c101
   refine wq [] [] (⟨k.held.length - (i+1),by omega,i+1,rfl,by omega,fun j h=>by by_cases e:j=i;exact e▸hs;exact hk j (by omega),rfl⟩) ?_
   repeat' apply ai
   all_goals first|exact qx|exact congrArg D.i (aC (by omega))|exact qz
 have hiA:i=k.held.length:=by simp at c63;omega
 have hkA:=hk
 clear hk hi
 refine xt (sq (sq (rT [1,104,105,106] (s4 (bk (SW.loopW (n:=k.marks.length) (fun n q=> ∃i:Nat,n=k.marks.length - i∧i≤k.marks.length∧(∀j,j<i→xG k j=true)∧q=[tP 1 1,tD 104 (.sl (aO k.marks)),tI 105 (k.marks.length:Nat),tI 106 (i:Nat),oB 1 32 [.d (.i k.id),.d (.i k.time),.d (.i k.next),.d (.sl (aE k.held)),.d (.sl (aO k.marks)),.d (.sl (aE k.inbox))]]) ?_ ?_))))))
 · refine wq (σ':=[tP 1 1,tD 104 (.sl (aO k.marks)),tI 105 (k.marks.length:Nat),tI 106 (0:Nat),oB 1 32 [.d (.i k.id),.d (.i k.time),.d (.i k.next),.d (.sl (aE k.held)),.d (.sl (aO k.marks)),.d (.sl (aE k.inbox))]]) [] [] (⟨0,rfl,aW6 _,fun j h=>absurd h (by omega),rfl⟩) ?_
   repeat' apply ai
   all_goals first|exact qx|(rw[aF];done)|rfl|exact qz
 rintro n s ⟨i,rfl,hi,hk,rfl⟩
 refine sq (rT [1,104,105,106,107] (s1 (sq (cd rfl (fun c107=> ?_) fun c107=> ?_))))
 · have hi2:i<k.marks.length:=by simpa using c107
   have hg:=bW (l:=k.marks) hi2
   refine sk (sq (bk (sq (rT [1,6,104,105,106] (ai (by rw[aWz,hg];exact⟨⟨by omega,by rw[aF];omega⟩,rfl⟩) (ai (by rw[aWz,hg];exact⟨aW1 rfl,rfl⟩) (s2 (sq (wa [tP 1 1,tD 104 (.sl (aO k.marks)),tI 105 (k.marks.length:Nat),tI 106 (i:Nat),oB 1 32 [.d (.i k.id),.d (.i k.time),.d (.i k.next),.d (.sl (aE k.held)),.d (.sl (aO k.marks)),.d (.sl (aE k.inbox))],tP 6 6,oB 6 112 [.d (.i (k.marks.getD i .zero).frm),.d (.i (k.marks.getD i .zero).num),.d (.i (k.marks.getD i .zero).til)]] [] [] ?_ ?_)))))))))
   · repeat' apply ai
     all_goals first|exact qx|(rw[aWz,hg];rfl)|exact qz
   refine rT [1,104,105,106,128] (s6 (y4 (y1 (ai pk (s1 (y4 (y1 (ai pk (cd rfl (fun c128=> ?_) fun c128=> ?_)))))))))
   · refine sq (rT [2] (s1 (rt (bJ rfl (congrArg D.b ?_)))))
     refine(oD fun h=> ?_).symm
     obtain⟨⟨h1,h2,h3,h4,h5,h6⟩,⟨h7,h8,h9⟩,h10,h11,h12⟩:=(cC k).1 h
     rw[fU hi2 (zJ c128)] at h11
     cases h11
   refine sk (rT [1,104,105,106] (s2 ?_))
   have hs:xG k i=true:=zJ c128
   refine wq [] [] (⟨k.marks.length - (i+1),by omega,i+1,rfl,by omega,fun j h=>by by_cases e:j=i;exact e▸hs;exact hk j (by omega),rfl⟩) ?_
   repeat' apply ai
   all_goals first|exact qx|exact congrArg D.i (aC (by omega))|exact qz
 have hiB:i=k.marks.length:=by simp at c107;omega
 have hkB:=hk
 clear hk hi
 refine xt (sq (sq (rT [1,131,132,133] (s4 (bk (SW.loopW (n:=k.inbox.length) (fun n q=> ∃i:Nat,n=k.inbox.length - i∧i≤k.inbox.length∧(∀j,j<i→sQ k j=true)∧q=[tP 1 1,tD 131 (.sl (aE k.inbox)),tI 132 (k.inbox.length:Nat),tI 133 (i:Nat),oB 1 32 [.d (.i k.id),.d (.i k.time),.d (.i k.next),.d (.sl (aE k.held)),.d (.sl (aO k.marks)),.d (.sl (aE k.inbox))]]) ?_ ?_))))))
 · refine wq (σ':=[tP 1 1,tD 131 (.sl (aE k.inbox)),tI 132 (k.inbox.length:Nat),tI 133 (0:Nat),oB 1 32 [.d (.i k.id),.d (.i k.time),.d (.i k.next),.d (.sl (aE k.held)),.d (.sl (aO k.marks)),.d (.sl (aE k.inbox))]]) [] [] (⟨0,rfl,aW6 _,fun j h=>absurd h (by omega),rfl⟩) ?_
   repeat' apply ai
   all_goals first|exact qx|(rw[aB];done)|rfl|exact qz
 rintro n s ⟨i,rfl,hi,hk,rfl⟩
 refine sq (rT [1,131,132,133,134] (s1 (sq (cd rfl (fun c134=> ?_) fun c134=> ?_))))
 · have hi2:i<k.inbox.length:=by simpa using c134
   have hg:=aR (l:=k.inbox) hi2
   refine sk (sq (bk (sq (rT [1,8,131,132,133] (ai (by rw[aWz,hg];exact⟨⟨by omega,by rw[aB];omega⟩,rfl⟩) (ai (by rw[aWz,hg];exact⟨aW1 rfl,rfl⟩) (s2 (sq (wa [tP 1 1,tD 131 (.sl (aE k.inbox)),tI 132 (k.inbox.length:Nat),tI 133 (i:Nat),oB 1 32 [.d (.i k.id),.d (.i k.time),.d (.i k.next),.d (.sl (aE k.held)),.d (.sl (aO k.marks)),.d (.sl (aE k.inbox))],tP 8 8,oB 8 58 [.d (.i (k.inbox.getD i .zero).frm),.d (.i (k.inbox.getD i .zero).num),.d (.i (k.inbox.getD i .zero).to),.d (.i (k.inbox.getD i .zero).til),.d (.s (k.inbox.getD i .zero).text)]] [] [] ?_ ?_)))))))))
   · repeat' apply ai
     all_goals first|exact qx|(rw[aWz,hg];rfl)|exact qz
   refine rT [1,131,132,133,172] (s6 (y4 (y1 (ai pk (s1 (y4 (y1 (ai pk (s1 (y4 (y4 (y4 (xc (fun h=>(sV k.marks _ _ (by omega))) (ai rfl (ai rk ?_)))))))))))))))
   refine y1 (ai (fun h=>pk) (ai rk (ai pk (cd rfl (fun c172=> ?_) fun c172=> ?_))))
   · refine sq (rT [2] (s1 (rt (bJ rfl (congrArg D.b ?_)))))
     refine(oD fun h=> ?_).symm
     obtain⟨⟨h1,h2,h3,h4,h5,h6⟩,⟨h7,h8,h9⟩,h10,h11,h12⟩:=(cC k).1 h
     rw[fU hi2 (wI c172)] at h12
     cases h12
   refine sk (rT [1,131,132,133] (s2 ?_))
   have hs:sQ k i=true:=wI c172
   refine wq [] [] (⟨k.inbox.length - (i+1),by omega,i+1,rfl,by omega,fun j h=>by by_cases e:j=i;exact e▸hs;exact hk j (by omega),rfl⟩) ?_
   repeat' apply ai
   all_goals first|exact qx|exact congrArg D.i (aC (by omega))|exact qz
 have hiC:i=k.inbox.length:=by simp at c134;omega
 refine xt (sq (rT [2] (s1 (rt (bJ rfl (congrArg D.b ?_))))))
 refine((cC k).2 ⟨⟨f1,f2,f3,f4,f5,f6⟩,hg3,iP ?_,iP ?_,iP ?_⟩).symm
 · rw[← hiA];exact hkA
 · rw[← hiB];exact hkB
 rw[← hiC];exact hk
theorem or4 (a b c d:Bool): (c||a||b||d)=(a||b||c||d):=by cases a<;>cases b<;>cases c<;>cases d<;>rfl
theorem or3 (a b c:Bool): (b||a||c)=(a||b||c):=by cases a<;>cases b<;>cases c<;>rfl
theorem or2 (a b:Bool): (b||a)=(a||b):=by cases a<;>cases b<;>rfl
theorem aTc (a b c d:Bool): (!(a&&b&&c)||d)=(!a|| !b|| !c||d):=by cases a<;>cases b<;>cases c<;>cases d<;>rfl
set_option maxHeartbeats 800000 in
theorem sw (l:List cB) (hl:l.length≤100000):Sp 166 1 [tD 0 (.sl (aO l))] [tB 0 (decide (l.length≤12)&&oC l)]:=by
 refine sb Tryz.func166 rfl (sq (rT [0] (s1 (sq (sq (rT [0,7] (s3 (cd rfl (fun c7=> ?_) fun c7=> ?_))))))))
 · have hm: ¬l.length≤12:=by simp[aF] at c7;omega
   refine sq (rT [2] (s1 (rt (bJ rfl (congrArg D.b ?_)))))
   simp[hm]
 have hm:l.length≤12:=by simp[aF] at c7;omega
 refine sk (sq (sq (rT [0,3] (s1 (bk (SW.loopW (n:=l.length) (fun n q=> ∃i:Nat,n=l.length - i∧i≤l.length∧(∀k,k<i→mO l k=true)∧q=[tD 0 (.sl (aO l)),tI 3 (i:Nat)]) ?_ ?_))))))
 · exact wq (σ':=[tD 0 (.sl (aO l)),tI 3 (0:Nat)]) [] [] (⟨0,rfl,aW6 _,fun k h=>absurd h (by omega),rfl⟩) qz
 rintro n s ⟨i,rfl,hi,hk,rfl⟩
 refine sq (sq (rT [0,3,11] (s4 (cd rfl (fun c11=> ?_) fun c11=> ?_))))
 · have hi2:i<l.length:=by simpa[aF] using c11
   have hg:=bW (l:=l) hi2
   refine sk (sq (bk (sq (rT [0,3,4] (s2 (ai (by rw[aWz,hg];exact⟨⟨by omega,by rw[aF];omega⟩,rfl⟩) (ai (by rw[aWz,hg];exact⟨aW1 rfl,rfl⟩) (s2 (sq (wa [tD 0 (.sl (aO l)),tI 3 (i:Nat),tP 4 4,oB 4 112 [.d (.i (l.getD i .zero).frm),.d (.i (l.getD i .zero).num),.d (.i (l.getD i .zero).til)]] [] [] ?_ ?_))))))))))
   · repeat' apply ai
     all_goals first|exact qx|(rw[aWz,hg];rfl)|exact qz
   refine rD [0,3,57] (s2 (xp (dF _) (ai rfl ?_)))
   refine s2 (y2 (xc (fun h=>(dM _ _ _)) (ai rfl (ai rk ?_))))
   refine y1 (ai pk (s1 (y2 (xc (fun h=>(dM _ _ _)) (ai rfl (ai rk ?_))))))
   refine y1 (ai pk (s1 (y4 (y2 (ai (fun h=>(by have h0:0<i:=(by have h9:=h;simp[gb] at h9;omega);rw[fF h0 (by omega),aWz,bW (by omega),aF];exact⟨⟨by omega,by omega⟩,rfl⟩)) (ai rk (y1 (ai (fun h=>(by have h0:0<i:=(by have h9:=h;simp[gb] at h9;omega);rw[fF h0 (by omega),aWz,bW (by omega)];exact⟨aW1 rfl,rfl⟩)) (ai rk (y3 (ai (fun h=>(by have h0:0<i:=(by have h9:=h;simp[gb] at h9;omega);rw[fF h0 (by omega),aWz,bW (by omega),aF];exact⟨⟨by omega,by omega⟩,rfl⟩)) (ai rk (y1 (ai (fun h=>(by have h0:0<i:=(by have h9:=h;simp[gb] at h9;omega);rw[fF h0 (by omega),aWz,bW (by omega)];exact⟨aW1 rfl,rfl⟩)) (ai rk (y4 (xc (fun h=>(rB _ _ _ _)) (ai rfl (ai rk ?_)))))))))))))))))))
   refine y1 (ai (fun h=>pk) (ai rk (ai pk (ai (by kernel_rfl) (cd rfl (fun c57=> ?_) fun c57=> ?_)))))
   · refine sq (rT [2] (s1 (rt (bJ rfl (congrArg D.b ?_)))))
     have hs:mO l i=false:=uL ((aTc _ _ _ _).trans c57) (fun h0=>by simp only[fF h0 (show i≤1000000 by omega),aWz,bW (show i - 1<l.length by omega)];rfl)
     rw[oC,fU hi2 hs];simp
   refine sk (rT [0,3] (s3 ?_))
   have hs:mO l i=true:=uL ((aTc _ _ _ _).trans c57) (fun h0=>by simp only[fF h0 (show i≤1000000 by omega),aWz,bW (show i - 1<l.length by omega)];rfl)
   refine wq [] [] (⟨l.length - (i+1),by omega,i+1,rfl,by omega,fun k h=>by by_cases e:k=i;exact e▸hs;exact hk k (by omega),rfl⟩) ?_
   repeat' apply ai
   all_goals first|exact qx|exact congrArg D.i (aC (by omega))|exact qz
 have hi3:i=l.length:=by simp[aF] at c11;omega
 refine xt (sq (rT [2] (s1 (rt (bJ rfl (congrArg D.b ?_))))))
 subst hi3
 rw[oC,iP hk];simp[hm]
set_option maxHeartbeats 3200000 in
theorem oX (k:bB) (hb1:k.held.length≤100000∧k.marks.length≤100000∧k.inbox.length≤100000) (hx: ∀x∈k.held,x.text.length≤140737488355328) (hy: ∀x∈k.inbox,x.text.length≤140737488355328):Sp 126 1 [tV 0 k.V] [tB 0 (dJ k)]:=by
 refine sb Tryz.func126 rfl (sq (rT [1] (s2 (sq (sq (rT [1,42] (s2 (xp (dF _) (ai rfl ?_)))))))))
 refine s2 (y2 (xc (fun h=>(dM _ _ _)) (ai rfl (ai rk ?_))))
 refine y1 (ai pk (s1 (y2 (xc (fun h=>(dM _ _ _)) (ai rfl (ai rk ?_))))))
 refine y1 (ai pk (s1 (y2 (xc (fun h=>(bj k.held 6 hx hb1.1)) (ai rfl (ai rk ?_))))))
 refine y1 (ai pk (s1 (y2 (xc (fun h=>(sw k.marks hb1.2.1)) (ai rfl (ai rk ?_))))))
 refine y1 (ai pk (s1 (y2 (xc (fun h=>(bj k.inbox 6 hy hb1.2.2)) (ai rfl (ai rk ?_))))))
 refine y1 (ai pk (cd rfl (fun c42=> ?_) fun c42=> ?_))
 · refine sq (rT [2] (s1 (rt (bJ rfl (congrArg D.b ?_)))))
   refine(oD fun h=> ?_).symm
   obtain⟨⟨h1,h2,h3,h4,h5,h6⟩,⟨h7,h8,h9⟩,h10,h11,h12⟩:=(cC k).1 h
   have h4b: ((k.held.length:Int)≤6):=by omega
   have h6b: ((k.inbox.length:Int)≤6):=by omega
   simp only[gb,iK,h1,h7,h8,h9,h5,h4b,h6b,h2.1,h2.2,h3.1,h3.2,decide_true,Bool.and_true,Bool.not_true,Bool.or_false] at c42
   cases c42
 have hf: (eN k.id=true∧(0≤k.time∧k.time≤999)∧(1≤k.next∧k.next≤100)∧k.held.length≤6∧k.marks.length≤12∧k.inbox.length≤6)∧kB k.held=true∧oC k.marks=true∧kB k.inbox=true:=by
  simp only[gb,iK,Bool.or_eq_false_iff,Bool.not_eq_false,decide_eq_false_iff_not,Bool.not_eq_eq_eq_not,Bool.not_false,aW4,decide_eq_true_eq] at c42
  obtain⟨⟨⟨⟨⟨q1,q2⟩,q3⟩,q4,q4b⟩,q5,q5b⟩,q6,q6b⟩:=c42
  exact⟨⟨q1,q2,q3,by omega,by omega,by omega⟩,q4b,q5b,q6b⟩
 obtain⟨⟨f1,f2,f3,f4,f5,f6⟩,hg3⟩:=hf
 refine sk (sq (sq (rT [1,3] (s1 (bk (SW.loopW (n:=k.held.length) (fun n q=> ∃i:Nat,n=k.held.length - i∧i≤k.held.length∧(∀j,j<i→tS k j=true)∧q=[tP 1 1,tI 3 (i:Nat),oB 1 32 [.d (.i k.id),.d (.i k.time),.d (.i k.next),.d (.sl (aE k.held)),.d (.sl (aO k.marks)),.d (.sl (aE k.inbox))]]) ?_ ?_))))))
 · refine wq (σ':=[tP 1 1,tI 3 (0:Nat),oB 1 32 [.d (.i k.id),.d (.i k.time),.d (.i k.next),.d (.sl (aE k.held)),.d (.sl (aO k.marks)),.d (.sl (aE k.inbox))]]) [] [] (⟨0,rfl,aW6 _,fun j h=>absurd h (by omega),rfl⟩) ?_
   repeat' apply ai
   all_goals first|exact qx|(rw[aB];done)|rfl|exact qz
 rintro n s ⟨i,rfl,hi,hk,rfl⟩
 refine sq (sq (rT [1,3,47] (s5 (cd rfl (fun c47=> ?_) fun c47=> ?_))))
 · have hi2:i<k.held.length:=by simpa[aB] using c47
   have hg:=aR (l:=k.held) hi2
   refine sk (sq (bk (sq (rT [1,3,4] (s3 (ai (by rw[aWz,hg];exact⟨⟨by omega,by rw[aB];omega⟩,rfl⟩) (ai (by rw[aWz,hg];exact⟨aW1 rfl,rfl⟩) (s2 (sq (wa [tP 1 1,tI 3 (i:Nat),oB 1 32 [.d (.i k.id),.d (.i k.time),.d (.i k.next),.d (.sl (aE k.held)),.d (.sl (aO k.marks)),.d (.sl (aE k.inbox))],tP 4 4,oB 4 58 [.d (.i (k.held.getD i .zero).frm),.d (.i (k.held.getD i .zero).num),.d (.i (k.held.getD i .zero).to),.d (.i (k.held.getD i .zero).til),.d (.s (k.held.getD i .zero).text)]] [] [] ?_ ?_))))))))))
   · repeat' apply ai
     all_goals first|exact qx|(rw[aWz,hg];rfl)|exact qz
   refine rT [1,3,90] (s6 (y3 (xc (fun h=>(aAn (k.held.getD i .zero) k.id)) (ai rfl (ai rk ?_)))))
   refine y1 (ai pk (s1 (y4 (y4 (y3 (ai (fun h=>pk) (ai rk (ai pk (s1 (y4 (y2 (xc (fun h=>(nT k.marks _ _ (by omega))) (ai rfl (ai rk ?_))))))))))))))
   refine y1 (ai pk (cd rfl (fun c90=> ?_) fun c90=> ?_))
   · refine sq (rT [2] (s1 (rt (bJ rfl (congrArg D.b ?_)))))
     refine(oD fun h=> ?_).symm
     obtain⟨⟨h1,h2,h3,h4,h5,h6⟩,⟨h7,h8,h9⟩,h10,h11,h12⟩:=(cC k).1 h
     rw[fU hi2 (zI ((or4 _ _ _ _).trans c90))] at h10
     cases h10
   refine sk (rT [1,3] (s3 ?_))
   have hs:tS k i=true:=zI ((or4 _ _ _ _).trans c90)
   refine wq [] [] (⟨k.held.length - (i+1),by omega,i+1,rfl,by omega,fun j h=>by by_cases e:j=i;exact e▸hs;exact hk j (by omega),rfl⟩) ?_
   repeat' apply ai
   all_goals first|exact qx|exact congrArg D.i (aC (by omega))|exact qz
 have hiA:i=k.held.length:=by simp[aB] at c47;omega
 have hkA:=hk
 clear hk hi
 refine xt (sq (sq (rT [1,5] (s1 (bk (SW.loopW (n:=k.marks.length) (fun n q=> ∃i:Nat,n=k.marks.length - i∧i≤k.marks.length∧(∀j,j<i→xG k j=true)∧q=[tP 1 1,tI 5 (i:Nat),oB 1 32 [.d (.i k.id),.d (.i k.time),.d (.i k.next),.d (.sl (aE k.held)),.d (.sl (aO k.marks)),.d (.sl (aE k.inbox))]]) ?_ ?_))))))
 · refine wq (σ':=[tP 1 1,tI 5 (0:Nat),oB 1 32 [.d (.i k.id),.d (.i k.time),.d (.i k.next),.d (.sl (aE k.held)),.d (.sl (aO k.marks)),.d (.sl (aE k.inbox))]]) [] [] (⟨0,rfl,aW6 _,fun j h=>absurd h (by omega),rfl⟩) ?_
   repeat' apply ai
   all_goals first|exact qx|(rw[aF];done)|rfl|exact qz
 rintro n s ⟨i,rfl,hi,hk,rfl⟩
 refine sq (sq (rT [1,5,95] (s5 (cd rfl (fun c95=> ?_) fun c95=> ?_))))
 · have hi2:i<k.marks.length:=by simpa[aF] using c95
   have hg:=bW (l:=k.marks) hi2
   refine sk (sq (bk (sq (rT [1,5,6] (s3 (ai (by rw[aWz,hg];exact⟨⟨by omega,by rw[aF];omega⟩,rfl⟩) (ai (by rw[aWz,hg];exact⟨aW1 rfl,rfl⟩) (s2 (sq (wa [tP 1 1,tI 5 (i:Nat),oB 1 32 [.d (.i k.id),.d (.i k.time),.d (.i k.next),.d (.sl (aE k.held)),.d (.sl (aO k.marks)),.d (.sl (aE k.inbox))],tP 6 6,oB 6 112 [.d (.i (k.marks.getD i .zero).frm),.d (.i (k.marks.getD i .zero).num),.d (.i (k.marks.getD i .zero).til)]] [] [] ?_ ?_))))))))))
   · repeat' apply ai
     all_goals first|exact qx|(rw[aWz,hg];rfl)|exact qz
   refine rT [1,5,121] (s6 (y4 (y4 (y3 (ai (fun h=>pk) (ai rk (ai pk (cd rfl (fun c121=> ?_) fun c121=> ?_))))))))
   · refine sq (rT [2] (s1 (rt (bJ rfl (congrArg D.b ?_)))))
     refine(oD fun h=> ?_).symm
     obtain⟨⟨h1,h2,h3,h4,h5,h6⟩,⟨h7,h8,h9⟩,h10,h11,h12⟩:=(cC k).1 h
     rw[fU hi2 (zJ ((or2 _ _).trans c121))] at h11
     cases h11
   refine sk (rT [1,5] (s3 ?_))
   have hs:xG k i=true:=zJ ((or2 _ _).trans c121)
   refine wq [] [] (⟨k.marks.length - (i+1),by omega,i+1,rfl,by omega,fun j h=>by by_cases e:j=i;exact e▸hs;exact hk j (by omega),rfl⟩) ?_
   repeat' apply ai
   all_goals first|exact qx|exact congrArg D.i (aC (by omega))|exact qz
 have hiB:i=k.marks.length:=by simp[aF] at c95;omega
 have hkB:=hk
 clear hk hi
 refine xt (sq (sq (rT [1,7] (s1 (bk (SW.loopW (n:=k.inbox.length) (fun n q=> ∃i:Nat,n=k.inbox.length - i∧i≤k.inbox.length∧(∀j,j<i→sQ k j=true)∧q=[tP 1 1,tI 7 (i:Nat),oB 1 32 [.d (.i k.id),.d (.i k.time),.d (.i k.next),.d (.sl (aE k.held)),.d (.sl (aO k.marks)),.d (.sl (aE k.inbox))]]) ?_ ?_))))))
 · refine wq (σ':=[tP 1 1,tI 7 (0:Nat),oB 1 32 [.d (.i k.id),.d (.i k.time),.d (.i k.next),.d (.sl (aE k.held)),.d (.sl (aO k.marks)),.d (.sl (aE k.inbox))]]) [] [] (⟨0,rfl,aW6 _,fun j h=>absurd h (by omega),rfl⟩) ?_
   repeat' apply ai
   all_goals first|exact qx|(rw[aB];done)|rfl|exact qz
 rintro n s ⟨i,rfl,hi,hk,rfl⟩
 refine sq (sq (rT [1,7,126] (s5 (cd rfl (fun c126=> ?_) fun c126=> ?_))))
 · have hi2:i<k.inbox.length:=by simpa[aB] using c126
   have hg:=aR (l:=k.inbox) hi2
   refine sk (sq (bk (sq (rT [1,7,8] (s3 (ai (by rw[aWz,hg];exact⟨⟨by omega,by rw[aB];omega⟩,rfl⟩) (ai (by rw[aWz,hg];exact⟨aW1 rfl,rfl⟩) (s2 (sq (wa [tP 1 1,tI 7 (i:Nat),oB 1 32 [.d (.i k.id),.d (.i k.time),.d (.i k.next),.d (.sl (aE k.held)),.d (.sl (aO k.marks)),.d (.sl (aE k.inbox))],tP 8 8,oB 8 58 [.d (.i (k.inbox.getD i .zero).frm),.d (.i (k.inbox.getD i .zero).num),.d (.i (k.inbox.getD i .zero).to),.d (.i (k.inbox.getD i .zero).til),.d (.s (k.inbox.getD i .zero).text)]] [] [] ?_ ?_))))))))))
   · repeat' apply ai
     all_goals first|exact qx|(rw[aWz,hg];rfl)|exact qz
   refine rT [1,7,169] (s6 (y4 (y4 (y3 (ai (fun h=>pk) (ai rk (ai pk (s1 (y4 (y4 (y4 (xc (fun h=>(nT k.marks _ _ (by omega))) (ai rfl (ai rk ?_))))))))))))))
   refine y1 (ai (fun h=>pk) (ai rk (ai pk (cd rfl (fun c169=> ?_) fun c169=> ?_))))
   · refine sq (rT [2] (s1 (rt (bJ rfl (congrArg D.b ?_)))))
     refine(oD fun h=> ?_).symm
     obtain⟨⟨h1,h2,h3,h4,h5,h6⟩,⟨h7,h8,h9⟩,h10,h11,h12⟩:=(cC k).1 h
     rw[fU hi2 (wI ((or3 _ _ _).trans c169))] at h12
     cases h12
   refine sk (rT [1,7] (s3 ?_))
   have hs:sQ k i=true:=wI ((or3 _ _ _).trans c169)
   refine wq [] [] (⟨k.inbox.length - (i+1),by omega,i+1,rfl,by omega,fun j h=>by by_cases e:j=i;exact e▸hs;exact hk j (by omega),rfl⟩) ?_
   repeat' apply ai
   all_goals first|exact qx|exact congrArg D.i (aC (by omega))|exact qz
 have hiC:i=k.inbox.length:=by simp[aB] at c126;omega
 refine xt (sq (rT [2] (s1 (rt (bJ rfl (congrArg D.b ?_))))))
 refine((cC k).2 ⟨⟨f1,f2,f3,f4,f5,f6⟩,hg3,iP ?_,iP ?_,iP ?_⟩).symm
 · rw[← hiA];exact hkA
 · rw[← hiB];exact hkB
 rw[← hiC];exact hk
theorem uQ (n:Nat) (hn:n≤1000000000):Sp 97 1 [tI 0 (n:Nat)] [tD 0 (.s (jZ n))]:=by
 induction n using Nat.strongRecOn
 rename_i n ih
 refine sb Tryz.func97 rfl (sq (rT [0] (s1 (sq (sq (rT [0,4] (s2 (cd rfl (fun c4=> ?_) fun c4=> ?_))))))))
 · simp at c4
   omega
 refine sk (sq (sq (rT [0,6] (s2 (cd rfl (fun c6=> ?_) fun c6=> ?_)))))
 · simp at c6
   omega
 refine sk (sq (sq (rT [0,12] (s2 (cd rfl (fun c12=> ?_) fun c12=> ?_)))))
 · have h10:n<10:=by simp at c12;omega
   refine sq (rT [2] (s3 (ai (by exact⟨by simp,aW1 rfl⟩) (ai (by exact⟨rfl,congrArg (fun r=>[r]) (aDj _)⟩) (s1 (rt (bJ rfl (congrArg D.s ?_))))))))
   rw[nC h10,← aFw h10]
   rfl
 have h10: ¬n<10:=by simp at c12;omega
 have hq:wrap64 (Int.tdiv (n:Int) 10)=((n / 10:Nat):Int):=by rw[Int.tdiv_eq_ediv_of_nonneg (by omega),aC (by omega)];omega
 have hr:Int.tmod (n:Int) 10=((n % 10:Nat):Int):=by rw[Int.tmod_eq_emod_of_nonneg (by omega)];omega
 have hdl:=aKh (n / 10)
 refine sk (sq (rD [2] (s1 (ai (by omega) (xp (ih (n / 10) (by omega) (by omega)) (ai (by rw[hq];rfl) ?_))))))
 refine s1 (ai (by omega) (s2 (ai (by exact⟨by simp,aW1 rfl⟩) (ai (by exact⟨rfl,congrArg (fun r=>[r]) (aDj _)⟩) (ai (by show _≤9223372036854775807;simp only[jP,List.length_map,aW3,aW2];omega) (s1 (ai (by kernel_rfl) (rt (bJ rfl (congrArg D.s ?_))))))))))
 refine Eq.trans ?_ (uI (by omega)).symm
 rw[hr,← aFw (Nat.mod_lt n (by decide))]
 rfl
theorem du (s:List UInt8) (hl:s.length≤140737488355328):Sp 72 1 [tD 0 (.s s)] [tV 0 (.tup [.c (.d (.i (match jN s with|some n=>(n:Int)|none=>0))),.c (.d (.b (jN s).isSome))])]:=by
 refine sb Tryz.func72 rfl (sq (rT [0] (s2 (sq (sq (rT [0,19] (s2 (xp (gM _ _ _) (ai rfl ?_)))))))))
 refine s2 (y1 (ai (fun h=>(by have h9:=h;simp[gb,iK] at h9;exact⟨by omega,by omega⟩)) (ai rk (y4 (y1 (ai (fun h=>pk) (ai rk (ai pk (cd rfl (fun c19=> ?_) fun c19=> ?_)))))))))
 · refine sq (rT [2,3] (s2 (rt ?_)))
   have hno:jN s=none:=by
    unfold jN
    rw[if_neg]
    rintro⟨h1,h2,h3⟩
    have h4:iK (s.length:Int) 1 5=true:=by simp only[iK,aW4,decide_eq_true_eq];omega
    rw[h4] at c19
    simp only[Bool.not_true,Bool.false_or,aW4,beq_iff_eq,decide_eq_true_eq] at c19
    refine h2 ⟨UInt8.toNat_inj.1 ?_,by omega⟩
    have h5: ((s.getD 0 0).toNat:Int)=48:=c19.1
    have h6: (48:UInt8).toNat=48:=rfl
    omega
   refine bO rfl rfl ?_
   rw[hno]
   rfl
 have hL: (1≤s.length∧s.length≤5)∧ ¬(s.getD 0 0=48∧1<s.length):=by
  by_cases h1:1≤s.length∧s.length≤5
  · refine⟨h1,fun h2=> ?_⟩
    have h3: (((s.getD (Int.toNat 0) 0).toNat:Int)==48)=true:=by rw[show Int.toNat 0=0 from rfl,h2.1];rfl
    have h4:decide ((s.length:Int)>1)=true:=decide_eq_true (by omega)
    rw[h3,h4] at c19
    simp at c19
  · have h3:iK (s.length:Int) 1 5=false:=by
     cases h:iK (s.length:Int) 1 5 with
     |false=>rfl
     |true=>simp only[iK,aW4,decide_eq_true_eq] at h;omega
    rw[h3] at c19
    simp at c19
 refine sk (sq (rT [0,4] (s1 (sq (sq (rT [0,4,5] (s1 (bk (SW.loopW (n:=s.length) (fun m q=> ∃i:Nat,m=s.length - i∧i≤s.length∧(∀k,k<i→gN (s.getD k 0)=true)∧q=[tD 0 (.s s),tI 4 (pK (s.take (i)):Nat),tI 5 (i:Nat)]) ?_ ?_)))))))))
 · refine wq (σ':=[tD 0 (.s s),tI 4 (pK (s.take (0)):Nat),tI 5 (0:Nat)]) [] [] (⟨0,rfl,aW6 _,fun k h=>absurd h (by omega),rfl⟩) ?_
   repeat' apply ai
   all_goals first|exact qx|(simp[pK];done)|exact qz
 rintro n s ⟨i,rfl,hi,hk,rfl⟩
 refine sq (sq (rT [0,4,5,23] (s4 (cd rfl (fun c23=> ?_) fun c23=> ?_))))
 · have hi2:i<s.length:=by simpa using c23
   have hb8:=kJ s i
   have hw:wrap64 ((s.getD ((i:Nat):Int).toNat 0).toNat:Int)=jG s i:=aC (by unfold jG at hb8;rw[aWz];omega)
   have hvb:=oj hk hi (by omega)
   refine sk (sq (bk (sq (sq (rT [0,4,5,31] (s2 (ai (by exact⟨by omega,by omega⟩) (s1 (xp (gM _ _ _) (ai rfl ?_))))))))))
   refine s1 (cd rfl (fun c31=> ?_) fun c31=> ?_)
   · refine sq (rT [2,3] (s2 (rt ?_)))
     have hno:jN s=none:=by
      unfold jN
      rw[if_neg]
      rintro⟨h1,h2,h3⟩
      have h9:=c31
      rw[hw,← vl] at h9
      have hs:gN (s.getD i 0)=false:=by simpa using h9
      rw[vk hi2 hs] at h3
      cases h3
     refine bO rfl rfl ?_
     rw[hno]
     rfl
   refine sk (rT [0,4,5] (s4 (ai (by exact⟨by omega,by omega⟩) (s4 (rT [0,4,5] (s3 ?_))))))
   have hs:gN (s.getD i 0)=true:=by
    have h9:=c31
    rw[hw,← vl] at h9
    simpa using h9
   refine wq [] [] (⟨s.length - (i+1),by omega,i+1,rfl,by omega,fun k h=>by by_cases e:k=i;exact e▸hs;exact hk k (by omega),rfl⟩) ?_
   repeat' apply ai
   all_goals first|exact qx|(rw[aWz];exact congrArg D.i (aFx hi2 hs rfl (by omega)).1)|exact congrArg D.i (aC (by omega))|exact qz
 have hi3:i=s.length:=by simp at c23;omega
 refine xt (sq (rT [2,3] (s3 (rt ?_))))
 have hyes:jN s=some (pK s):=by
  unfold jN
  rw[if_pos ⟨hL.1,hL.2,aBw (hi3▸hk)⟩]
 refine bO rfl rfl ?_
 rw[hyes,hi3,aXf]
 rfl
theorem uR (s:List UInt8) (hl:s.length≤140737488355328):Sp 159 1 [tD 0 (.s s)] [tI 0 (gS s)]:=by
 refine sb Tryz.func159 rfl (sq (rT [0] (s1 (sq (sq (rT [0,12] (s4 (y3 (ai pk (cd rfl (fun c12=> ?_) fun c12=> ?_))))))))))
 · have hL: ¬(1≤s.length∧s.length≤4):=by simp[gb] at c12;omega
   refine sq (rT [2] (s1 (rt (bJ rfl (congrArg D.i ?_)))))
   unfold gS
   rw[if_neg]
   rintro⟨h1,h2,h3⟩
   exact hL h1
 have hL:1≤s.length∧s.length≤4:=by
  simp only[Bool.or_eq_false_iff,decide_eq_false_iff_not] at c12
  omega
 refine sk (sq (rT [0,3] (s1 (sq (sq (rT [0,3,4] (s1 (bk (SW.loopW (n:=s.length) (fun m q=> ∃i:Nat,m=s.length - i∧i≤s.length∧(∀k,k<i→gN (s.getD k 0)=true)∧q=[tD 0 (.s s),tI 3 (pK (s.take (i)):Nat),tI 4 (i:Nat)]) ?_ ?_)))))))))
 · refine wq (σ':=[tD 0 (.s s),tI 3 (pK (s.take (0)):Nat),tI 4 (0:Nat)]) [] [] (⟨0,rfl,aW6 _,fun k h=>absurd h (by omega),rfl⟩) ?_
   repeat' apply ai
   all_goals first|exact qx|(simp[pK];done)|exact qz
 rintro n s ⟨i,rfl,hi,hk,rfl⟩
 refine sq (sq (rT [0,3,4,16] (s4 (cd rfl (fun c16=> ?_) fun c16=> ?_))))
 · have hi2:i<s.length:=by simpa using c16
   have hvb:=oj hk hi (by omega)
   refine sk (sq (bk (sq (sq (rT [0,3,4,28] (s2 (ai (by exact⟨by omega,by omega⟩) (s2 (y2 (ai (fun h=>(by exact⟨by omega,by omega⟩)) (ai rk (y1 (ai pk (cd rfl (fun c28=> ?_) fun c28=> ?_))))))))))))))
   · refine sq (rT [2] (s1 (rt (bJ rfl (congrArg D.i ?_)))))
     unfold gS
     rw[if_neg]
     rintro⟨h1,h2,h3⟩
     have hs:gN (s.getD i 0)=false:=by
      have h9:=c28
      rw[aWz] at h9
      simp[gb] at h9
      simp[gN];omega
     rw[vk hi2 hs] at h2
     cases h2
   refine sk (rT [0,3,4] (s4 (ai (by exact⟨by omega,by omega⟩) (s4 (rT [0,3,4] (s3 ?_))))))
   have hs:gN (s.getD i 0)=true:=by
    have h9:=c28
    rw[aWz] at h9
    simp[gb] at h9
    simp[gN];omega
   refine wq [] [] (⟨s.length - (i+1),by omega,i+1,rfl,by omega,fun k h=>by by_cases e:k=i;exact e▸hs;exact hk k (by omega),rfl⟩) ?_
   repeat' apply ai
   all_goals first|exact qx|(rw[aWz];exact congrArg D.i (aFx hi2 hs rfl (by omega)).2)|exact congrArg D.i (aC (by omega))|exact qz
 have hi3:i=s.length:=by simp at c16;omega
 have hvb:=oj hk hi (by omega)
 refine xt (sq (sq (rT [3,40] (s1 (xp (uQ (pK (s.take i)) (by omega)) (ai rfl ?_))))))
 refine s2 (cd rfl (fun c40=> ?_) fun c40=> ?_)
 · refine sq (rT [2] (s1 (rt (bJ rfl (congrArg D.i ?_)))))
   unfold gS
   rw[if_neg]
   rintro⟨h1,h2,h3⟩
   rw[hi3,aXf,h3] at c40
   simp at c40
 refine sk (sq (rT [2] (s2 (rt (bJ rfl (congrArg D.i ?_))))))
 rw[hi3,aXf] at c40
 unfold gS
 rw[if_pos ⟨hL,aBw (hi3▸hk),by simpa using c40⟩,hi3,aXf]
set_option maxHeartbeats 800000 in
theorem aAo (s:List UInt8) (hl:s.length≤1000000):Sp 114 1 [tD 0 (.s s)] [tV 0 (.tup [.c (.d (.s (aLw s))),.c (.d (.i (aDm s:Nat)))])]:=by
 refine sb Tryz.func114 rfl (sq (rT [0] (s2 (sq (sq (rT [0,4] (s1 (bk (SW.loopW (n:=3) (fun m q=> ∃i:Nat,m=3 - i∧(i≤s.length∧i≤3)∧(∀j,j<i→s.getD j 0≠58)∧q=[tD 0 (.s s),tI 4 (i:Nat)]) ?_ ?_)))))))))
 · exact wq (σ':=[tD 0 (.s s),tI 4 (0:Nat)]) [] [] (⟨0,rfl,⟨aW6 _,by omega⟩,fun j h=>absurd h (by omega),rfl⟩) qz
 rintro n s ⟨i,rfl,hi,hk,rfl⟩
 refine sq (sq (rT [0,4,13] (s5 (y2 (ai pk (cd rfl (fun c13=> ?_) fun c13=> ?_))))))
 · have hi2:i<s.length∧i<3:=by simp only[aW4,decide_eq_true_eq] at c13;omega
   refine sk (sq (bk (sq (sq (rT [0,4,19] (s2 (ai (by exact⟨by omega,by omega⟩) (s1 (cd rfl (fun c19=> ?_) fun c19=> ?_)))))))))
   · refine xt (rT [0,4] (s3 ?_))
     have hs:s.getD i 0≠58:=by
      have h9:=c19
      rw[aWz] at h9
      intro e
      rw[e] at h9
      exact absurd h9 (by decide)
     refine wq [] [] (⟨3 - (i+1),by omega,i+1,rfl,⟨by omega,by omega⟩,fun j h=>by by_cases e:j=i;exact e▸hs;exact hk j (by omega),rfl⟩) ?_
     repeat' apply ai
     all_goals first|exact qx|exact congrArg D.i (aC (by omega))|exact qz
   have hcol:uJ s=some i:=by
    refine vm hi2.2 hi2.1 ?_ hk
    have h9:=c19
    rw[aWz] at h9
    have h10: ((s.getD i 0).toNat:Int)=58:=by simpa only[bne_eq_false_iff_eq] using h9
    apply UInt8.toNat_inj.1
    have h6: (58:UInt8).toNat=58:=rfl
    omega
   have hv:=zK (s.take i)
   have hra:=aOw hcol
   refine sk (sq (rT [0,4,5] (s2 (ai (by simp[qp,eY,gI];omega) (xp (uR (s.take i) (by rw[aW5];omega)) (ai rfl ?_))))))
   refine s1 (sq (sq (rT [0,4,5,47] (s3 (y2 (ai pk (s1 (y4 (y3 (ai pk (s1 (y4 (y1 (ai (fun h=>(by have h9:=h;simp only[gb,aW4,Bool.not_eq_true',Bool.or_eq_false_iff,decide_eq_false_iff_not] at h9;rw[aC (n:=(i:Int)+2) (by omega),aC (n:=(i:Int)+2+gS (s.take i)) (by omega)] at h9;rw[aC (n:=(i:Int)+1) (by omega),aC (n:=(i:Int)+1+gS (s.take i)) (by omega)];omega)) (ai rk (y1 (ai pk (cd rfl (fun c47=> ?_) fun c47=> ?_))))))))))))))))))
   · refine sq (rT [2,3] (s2 (rt ?_)))
     have hno:iC s=none:=by
      rw[hra,if_neg]
      rintro⟨p1,p2,p3,p4⟩
      have h9:=c47
      rw[aC (n:=(i:Int)+2) (by omega),aC (n:=(i:Int)+2+gS (s.take i)) (by omega),aC (n:=(i:Int)+1) (by omega),aC (n:=(i:Int)+1+gS (s.take i)) (by omega),show((i:Int)+1+gS (s.take i)).toNat=i+1+(gS (s.take i)).toNat by omega,p4] at h9
      simp at h9
      omega
     refine bO rfl rfl ?_
     rw[aLw,aDm,hno]
     rfl
   have hok:1≤gS (s.take i)∧gS (s.take i)≤60∧i+2+(gS (s.take i)).toNat≤s.length∧s.getD (i+1+(gS (s.take i)).toNat) 0=59:=by
    have h9:=c47
    rw[aC (n:=(i:Int)+2) (by omega),aC (n:=(i:Int)+2+gS (s.take i)) (by omega),aC (n:=(i:Int)+1) (by omega),aC (n:=(i:Int)+1+gS (s.take i)) (by omega)] at h9
    simp only[Bool.or_eq_false_iff,decide_eq_false_iff_not,bne_eq_false_iff_eq] at h9
    obtain⟨⟨⟨p1,p2⟩,p3⟩,p4⟩:=h9
    rw[show((i:Int)+1+gS (s.take i)).toNat=i+1+(gS (s.take i)).toNat by omega] at p4
    refine⟨by omega,by omega,by omega,UInt8.toNat_inj.1 ?_⟩
    have h6: (59:UInt8).toNat=59:=rfl
    omega
   refine sk (sq (rT [2,3] (s7 (ai (by rw[aC (n:=(i:Int)+1) (by omega),aC (n:=(i:Int)+1+gS (s.take i)) (by omega)];simp[qp,eY,gI];omega) (s6 (rt ?_))))))
   have hyes:=hra.trans (if_pos hok)
   refine bO rfl rfl ?_
   rw[aLw,aDm,hyes]
   rw[aC (n:=(i:Int)+1) (by omega),aC (n:=(i:Int)+1+gS (s.take i)) (by omega),aC (n:=(i:Int)+2) (by omega),aC (n:=(i:Int)+2+gS (s.take i)) (by omega)]
   have e1: ((i:Int)+1).toNat=i+1:=by omega
   have e2: ((i:Int)+1+gS (s.take i)).toNat=i+1+(gS (s.take i)).toNat:=by omega
   have e3: (i:Int)+2+gS (s.take i)=((i+2+(gS (s.take i)).toNat:Nat):Int):=by omega
   rw[e3]
   show V.tup [.c (.d (.s (List.drop ((i:Int)+1).toNat (List.take ((i:Int)+1+gS (s.take i)).toNat s)))),_]=_
   rw[e1,e2]
 have hi3:i=3∨i=s.length:=by
  by_cases h3:i<3
  · right;have h4:decide ((i:Int)<3)=true:=decide_eq_true (by omega)
    rw[h4,Bool.and_true,decide_eq_false_iff_not] at c13;omega
  · left;omega
 refine xt (sq (rT [2,3] (s2 (rt ?_))))
 have hno:iC s=none:=by
  exact gg (kw fun j h3 hjl=>hk j (by omega))
 refine bO rfl rfl ?_
 rw[aLw,aDm,hno]
 rfl
set_option maxHeartbeats 800000 in
theorem po (s:List UInt8) (hl:s.length≤1000000):Sp 69 1 [tD 0 (.s s)] [tV 0 (.tup [.c (.own 0 (bD s).1.length),.c (.d (.i ((bD s).2:Nat)))]),oR 0 9 1 (aV (bD s).1)]:=by
 refine sb Tryz.func69 rfl (sq (rT [0] (s2 (sq (rT [0,4] (s2 (sq (rT [0,4,5] (s1 (sq (bk (SW.loopW (n:=s.length) (fun m q=> ∃(a:Nat) (o:List (List UInt8)),m=s.length - a∧(a≤s.length∧o.length≤a)∧(o++(bD (s.drop a)).1=(bD s).1∧a+(bD (s.drop a)).2=(bD s).2)∧q=[tD 0 (.s s),tO 4 8 (o).length,tI 5 (a:Nat),oR 8 9 1 (aV (o))]) ?_ ?_))))))))))))
 · refine wq (σ':=[tD 0 (.s s),tO 4 8 ([]).length,tI 5 (0:Nat),oR 8 9 1 (aV ([]))]) [] [] (⟨0,[],rfl,⟨aW6 _,by simp⟩,⟨rfl,by rw[List.drop_zero,Nat.zero_add]⟩,rfl⟩) ?_
   repeat' apply ai
   all_goals first|exact qx|rfl|exact qz
 rintro n s ⟨a,o,rfl,ha,hr,rfl⟩
 refine sq (sq (rT [0,4,5,12] (s4 (cd rfl (fun c12=> ?_) fun c12=> ?_))))
 · have ha2:a<s.length:=by simpa using c12
   refine sk (bk (sq (rT [0,4,5,6,7] (s2 (ai (by simp[qp,eY,gI];omega) (xp (aAo (s.drop a) (by rw[aW9];omega)) (ai (by show _=eV 0 [Dv (.s (List.drop ((a:Int)).toNat (List.take s.length s)))];rw[aWz,aXf];rfl) ?_)))))))
   refine s5 (sq (sq (rT [0,4,5,6,7,21] (s2 (cd rfl (fun c21=> ?_) fun c21=> ?_)))))
   · have hz:iC (s.drop a)=none:=by
      refine aBx.1 ?_
      have h9: ((aDm (s.drop a):Nat):Int)=0:=by simpa using c21
      omega
     rw[fD hz,List.append_nil,Nat.add_zero] at hr
     refine sq (rT [2,3] (s4 (rt ?_)))
     rw[← hr.1,← hr.2]
     exact eC _ [(0,8)] [] rfl ⟨⟨_,rfl,⟨rfl,rfl,_,_,_,rfl⟩,rfl,trivial⟩,bV rfl rfl trivial⟩ rfl rfl
   obtain⟨r,n,hra⟩: ∃r n,iC (s.drop a)=some (r,n):=by
    cases h:iC (s.drop a) with
    |none=>
     rw[aBx.2 h] at c21
     exact absurd c21 (by decide)
    |some p=>exact⟨p.1,p.2,rfl⟩
   have hS:aLw (s.drop a)=r:=by rw[aLw,hra]
   have hN:aDm (s.drop a)=n:=by rw[aDm,hra]
   have hrs:=pL hra
   rw[aW9] at hrs
   refine sk (sq (rT [0,4,5,7] (s3 (ai (by refine⟨rfl,aJ _,by simp,?_⟩;show(_+1)*16≤_;omega) (s1 (rT [0,4,5] (s4 ?_)))))))
   have hstep:=jK hra
   rw[List.drop_drop] at hstep
   rw[hstep] at hr
   refine wq [] [] (⟨s.length - (a+n),by omega,a+n,o++[r],rfl,⟨by omega,by rw[aW0];simp;omega⟩,⟨by rw[← hr.1,List.append_assoc];rfl,by rw[← hr.2];simp only;omega⟩,rfl⟩) ?_
   repeat' apply ai
   all_goals first|exact qx|(rw[aW0];done)|(refine congrArg D.i ?_;rw[hN,aC (by omega)];omega)|(rw[hS];exact fC _ _)|(simp[aJ];done)|exact qz
 have ha3:a=s.length:=by simp at c12;omega
 have hd0:s.drop a=[]:=by rw[ha3];exact List.drop_length
 rw[hd0,fD nD,List.append_nil,Nat.add_zero] at hr
 refine xt (sq (rT [2,3] (s4 (rt ?_))))
 rw[← hr.1,← hr.2]
 exact eC _ [(0,8)] [] rfl ⟨⟨_,rfl,⟨rfl,rfl,_,_,_,rfl⟩,rfl,trivial⟩,bV rfl rfl trivial⟩ rfl rfl
theorem aq (l:List (List UInt8)) (hl:l.length≤1000000):Sp 74 1 [tD 0 (.sl (aV l))] [tO 0 0 l.length,oR 0 9 1 (aV (l))]:=by
 refine sb Tryz.func74 rfl (sq (rT [0] (s1 (sq (sq (rT [0,6] (s3 (cd rfl (fun c6=> ?_) fun c6=> ?_))))))))
 · refine sq (rT [2] (s1 (SW.nilOwn 2 0 9 1 rfl rfl (rt (rq [] [] rfl ?_)))))
   repeat' apply ai
   all_goals try exact qx
   all_goals(simp[aJ] at c6;simp[c6,aV])
 refine sk (sq (rT [0,3] (s2 (ai (by refine⟨rfl,by omega,?_⟩;rw[aJ];show((16:Nat):Int)*_≤_;omega) (s1 (sq (rT [3] (s2 (ai (by refine⟨trivial,by simp,uH l⟩) (sq (rT [2] (s2 (rt (rq [(0,9)] [] rfl ?_))))))))))))))
 repeat' apply ai
 all_goals try exact qx
 all_goals first|(simp[aJ];done)|(simp;done)
theorem pk3 {p:Prop} (h:p:=by constructor<;>intro h<;>first|(simp only[gb,vH];done)|(simpa only[gb,vH] using h)|(simp only[gb,vH] at h ⊢; first|(simp;done)|(simpa using h))|(simpa[gb,vH] using h)):p:=h
theorem tn (o:List (List UInt8)):mM [tO 0 0 o.length,oR 0 9 1 (aV (o))]:=by
 intro p hp
 simp at hp
 rcases hp with rfl|rfl
 · trivial
 intro r hr d hd
 obtain⟨x,_,rfl⟩:=aXd.1 hr
 simp at hd;subst hd;trivial
set_option maxHeartbeats 1600000 in
theorem pq (s:List UInt8) (hl:s.length≤1000000):Sp 20 1 [tD 0 (.s s)] [tV 0 (.tup [.c (.own 0 (bD s).1.length),.c (.d (.i ((bD s).2:Nat)))]),oR 0 9 1 (aV (bD s).1)]:=by
 refine sb Tryz.func20 rfl (sq (rT [0] (s2 (sq (rT [0,4] (s1 (sq (rT [0,4,5] (s1 (sq (bk (SW.nilOwn 4 8 9 1 rfl rfl (SW.loopW (n:=s.length) (fun m q=> ∃(a:Nat) (o:List (List UInt8)),m=s.length - a∧(a≤s.length∧o.length≤a)∧(o++(bD (s.drop a)).1=(bD s).1∧a+(bD (s.drop a)).2=(bD s).2)∧q=[tD 0 (.s s),tO 4 8 (o).length,tI 5 (a:Nat),oR 8 9 1 (aV (o))]) ?_ ?_)))))))))))))
 · refine wq (σ':=[tD 0 (.s s),tO 4 8 ([]).length,tI 5 (0:Nat),oR 8 9 1 (aV ([]))]) [] [] (⟨0,[],rfl,⟨aW6 _,by simp⟩,⟨rfl,by rw[List.drop_zero,Nat.zero_add]⟩,rfl⟩) ?_
   repeat' apply ai
   all_goals first|exact qx|rfl|exact qz
 rintro n s ⟨a,o,rfl,ha,hr,rfl⟩
 refine sq (sq (rT [0,4,5,13] (s4 (cd rfl (fun c13=> ?_) fun c13=> ?_))))
 · have ha2:a<s.length:=by simpa using c13
   refine sk (bk (sq (rT [0,4,5,6] (s2 (sq (bk (SW.loopW (n:=3) (fun m q=> ∃c:Nat,m=a+3 - c∧(a≤c∧c≤a+3∧c≤s.length)∧(∀j,a≤j→j<c→s.getD j 0≠58)∧q=[tD 0 (.s s),tO 4 8 (o).length,tI 5 (a:Nat),tI 6 (c:Nat),oR 8 9 1 (aV (o))]) ?_ ?_)))))))
   · exact wq [] [] (⟨a,by omega,by omega,fun j h1 h2=>absurd h1 (by omega),rfl⟩) qz
   rintro n s ⟨c,rfl,hc,hk,rfl⟩
   refine sq (sq (rT [0,4,5,6,30] (s5 (y4 (ai pk (s1 (y2 (ai (fun h=>(by have h9:=h;simp only[gb,aW4,decide_eq_true_eq] at h9;exact⟨by omega,by omega⟩)) (ai rk (y1 (ai pk (cd rfl (fun c30=> ?_) fun c30=> ?_))))))))))))
   · refine sk (bk (rT [0,4,5,6] (s3 ?_)))
     have hs:s.getD c 0≠58:=by
      have h9:=c30
      simp only[aW4] at h9
      have h10:=h9.2
      rw[aWz] at h10
      intro e
      rw[e] at h10
      exact absurd h10 (by decide)
     have hcl:c<s.length∧c<a+3:=by
      have h9:=c30
      rw[aC (by omega)] at h9
      simp only[aW4,decide_eq_true_eq] at h9
      omega
     refine wq [] [] (⟨a+3 - (c+1),by omega,c+1,rfl,by omega,fun j h1 h2=>by by_cases e:j=c;exact e▸hs;exact hk j h1 (by omega),rfl⟩) ?_
     repeat' apply ai
     all_goals first|exact qx|exact congrArg D.i (aC (by omega))|exact qz
   have hstop:s.length≤c∨a+3≤c∨s.getD c 0=58:=by
    have h9:=c30
    rw[aC (by omega),aWz] at h9
    by_cases h1:c<s.length
    · by_cases h2:c<a+3
      · rw[decide_eq_true (show(c:Int)< (s.length:Int) by omega),decide_eq_true (show(c:Int)< (a:Int)+3 by omega)] at h9
        have h10: ((s.getD c 0).toNat:Int)=58:=by simpa only[Bool.true_and,bne_eq_false_iff_eq] using h9
        right;right
        apply UInt8.toNat_inj.1
        have h6: (58:UInt8).toNat=58:=rfl
        omega
      · right;left;omega
    · left;omega
   refine xt (sq (sq (rT [0,4,5,6,42] (s5 (y2 (ai (fun h=>(by have h9:=h;simp only[gb,Bool.not_eq_true',decide_eq_false_iff_not] at h9;exact⟨by omega,by omega⟩)) (ai rk (y1 (ai pk (cd rfl (fun c42=> ?_) fun c42=> ?_))))))))))
   · have hz:iC (s.drop a)=none:=by
      refine yE hk ?_
      by_cases h1:c<s.length
      · rcases hstop with h|h|h
        · exact .inl h
        · exact .inr h
        · exfalso
          have h9:=c42
          rw[aWz,h,decide_eq_false (show ¬((c:Int)≥(s.length:Int)) by omega)] at h9
          exact absurd h9 (by decide)
      · exact .inl (by omega)
     rw[fD hz,List.append_nil,Nat.add_zero] at hr
     refine xt (sq (rT [2,3] (s1 (bE (robj:=[(8,.row 9 1 (aV o))]) (rl:=[(0,85)]) (bor:=[8]) (aq o (by omega)) rfl rfl rfl rfl ⟨eW rfl rfl rfl (aJ _) rfl trivial,rfl⟩ rfl (.inr (tn o)) (aK ⟨rfl,trivial⟩) (fun j hj=>by(obtain rfl:j=0:=by simpa[jV,cA,iH] using hj);rfl) (s3 (rt ?_))))))
     rw[← hr.1,← hr.2]
     exact eC _ [(0,85)] [] rfl ⟨⟨_,rfl,⟨rfl,rfl,_,_,_,rfl⟩,rfl,trivial⟩,bV rfl rfl trivial⟩ rfl rfl
   have hcl:c<s.length:=by
    have h9:=c42
    simp only[Bool.or_eq_false_iff,decide_eq_false_iff_not] at h9
    omega
   have h58:s.getD c 0=58:=by
    have h9:=c42
    simp only[Bool.or_eq_false_iff,decide_eq_false_iff_not] at h9
    have h10:=h9.2
    rw[aWz] at h10
    have h11: ((s.getD c 0).toNat:Int)=58:=by simpa only[bne_eq_false_iff_eq] using h10
    apply UInt8.toNat_inj.1
    have h6: (58:UInt8).toNat=58:=rfl
    omega
   obtain⟨himp1,himp2⟩:=aOy hc.1 hk hc.2.1 hcl h58
   have hN:=aIq ((s.take c).drop a)
   have hw1:wrap64 ((c:Int)+1)=((c+1:Nat):Int):=by rw[aC (by omega)];omega
   have hw2:wrap64 (((c+1:Nat):Int)+jE ((s.take c).drop a))=((c+1+(jE ((s.take c).drop a)).toNat:Nat):Int):=by rw[aC (by omega)];omega
   refine sk (sq (rT [0,4,5,6,7,8] (s3 (ai (by simp[qp,eY,gI];omega) (xp (du ((s.take c).drop a) (by rw[aW9,aW5];omega)) (ai rfl ?_))))))
   refine s5 (sq (rT [0,4,5,6,7,8,9] (s5 (sq (sq (SW.wk (J:=fun q=>q=[tD 0 (.s s),tO 4 8 (o).length,tI 5 (a:Nat),tI 6 (c:Nat),tI 7 (jE ((s.take c).drop a)),tB 8 (jN ((s.take c).drop a)).isSome,tI 9 (c+1+(jE ((s.take c).drop a)).toNat:Nat),oR 8 9 1 (aV (o))]) ?_ ?_))))))
   · refine wq [] [] (rfl) ?_
     repeat' apply ai
     all_goals first|exact qx|(rw[hw1];exact congrArg D.i hw2)|(unfold jE;rfl)|exact qz
   rintro q rfl
   refine rT [0,4,5,6,9,73] (s3 (y1 (xc (fun h=>(gM _ _ _)) (ai rfl (ai rk ?_)))))
   refine y1 (ai pk3 (s1 (y4 (ai pk3 (s1 (y2 (ai (fun h=>(by have h9:=h;simp only[gb,Bool.not_eq_true',Bool.or_eq_false_iff,decide_eq_false_iff_not] at h9;exact⟨by omega,by omega⟩)) (ai rk (y1 (ai pk3 (cd rfl (fun c73=> ?_) fun c73=> ?_)))))))))))
   · have hz:iC (s.drop a)=none:=by
      refine himp1 ?_
      rintro⟨n,h1,h2,h3,h4,h5⟩
      have hNn:jE ((s.take c).drop a)=n:=by rw[jE,h1]
      have h9:=c73
      rw[hNn,h1,aWz,aWz,h5] at h9
      simp only[iK,decide_eq_true (show(1:Int)≤(n:Int) by omega),decide_eq_true (show(n:Int)≤60 by omega),decide_eq_false (show ¬(((c+1+n:Nat):Int)≥(s.length:Int)) by omega)] at h9
      simp at h9
     rw[fD hz,List.append_nil,Nat.add_zero] at hr
     refine xt (sq (rT [2,3] (s1 (bE (robj:=[(8,.row 9 1 (aV o))]) (rl:=[(0,85)]) (bor:=[8]) (aq o (by omega)) rfl rfl rfl rfl ⟨eW rfl rfl rfl (aJ _) rfl trivial,rfl⟩ rfl (.inr (tn o)) (aK ⟨rfl,trivial⟩) (fun j hj=>by(obtain rfl:j=0:=by simpa[jV,cA,iH] using hj);rfl) (s3 (rt ?_))))))
     rw[← hr.1,← hr.2]
     exact eC _ [(0,85)] [] rfl ⟨⟨_,rfl,⟨rfl,rfl,_,_,_,rfl⟩,rfl,trivial⟩,bV rfl rfl trivial⟩ rfl rfl
   have h9:=c73
   simp only[Bool.or_eq_false_iff,decide_eq_false_iff_not,Bool.not_eq_false,Bool.not_eq_eq_eq_not,Bool.not_false] at h9
   obtain⟨⟨⟨g1,g2⟩,g3⟩,g4⟩:=h9
   obtain⟨n,hn⟩:=Option.isSome_iff_exists.1 g1
   have hNn:jE ((s.take c).drop a)=n:=by rw[jE,hn]
   rw[hNn] at g2 g3 g4
   rw[aWz] at g3 g4
   simp only[iK,aW4,decide_eq_true_eq] at g2
   have h59:s.getD (c+1+n) 0=59:=by
    rw[aWz] at g4
    have h11: ((s.getD (c+1+n) 0).toNat:Int)=59:=by simpa only[bne_eq_false_iff_eq] using g4
    apply UInt8.toNat_inj.1
    have h6: (59:UInt8).toNat=59:=rfl
    omega
   have hra:=himp2 n hn (by omega) (by omega) (by omega) h59
   refine sk (sq (rT [0,4,9] (s5 (ai (by rw[hw1,hNn,aWz];simp[qp,eY,gI];omega) (ai (by exact⟨by simp,aW1 rfl⟩) (ai (by refine⟨rfl,aJ _,by simp,?_⟩;show(_+1)*16≤_;omega) (s1 (rT [0,4,5] (s3 ?_)))))))))
   have hstep:=jK hra
   rw[List.drop_drop,show a+(c+2+n - a)=c+2+n by omega] at hstep
   rw[hstep] at hr
   refine wq [] [] (⟨s.length - (c+2+n),by omega,c+2+n,o++[(s.take (c+1+n)).drop (c+1)],rfl,⟨by omega,by rw[aW0];simp;omega⟩,⟨by rw[← hr.1,List.append_assoc];rfl,by rw[← hr.2];simp only;omega⟩,rfl⟩) ?_
   repeat' apply ai
   all_goals first|exact qx|(rw[aW0];done)|(refine congrArg D.i ?_;rw[hNn,aC (by omega)];omega)|(rw[hw1,hNn];exact fC _ _)|(simp[aJ];done)|exact qz
 have ha3:a=s.length:=by simp at c13;omega
 have hd0:s.drop a=[]:=by rw[ha3];exact List.drop_length
 rw[hd0,fD nD,List.append_nil,Nat.add_zero] at hr
 refine xt (sq (rT [2,3] (s1 (bE (robj:=[(8,.row 9 1 (aV o))]) (rl:=[(0,85)]) (bor:=[8]) (aq o (by omega)) rfl rfl rfl rfl ⟨eW rfl rfl rfl (aJ _) rfl trivial,rfl⟩ rfl (.inr (tn o)) (aK ⟨rfl,trivial⟩) (fun j hj=>by(obtain rfl:j=0:=by simpa[jV,cA,iH] using hj);rfl) (s3 (rt ?_))))))
 rw[← hr.1,← hr.2]
 exact eC _ [(0,85)] [] rfl ⟨⟨_,rfl,⟨rfl,rfl,_,_,_,rfl⟩,rfl,trivial⟩,bV rfl rfl trivial⟩ rfl rfl
end Go.Proofs.YthbgjfegalcenaaGreatDoor
namespace Go.Proofs
open Int renaming toNat_natCast→aWz
open List renaming length_append→aW0,length_nil→aW2,length_cons→aW3,length_take→aW5,getD_eq_getElem?_getD→aW7,getElem?_eq_getElem→aW8,length_drop→aW9,getElem?_eq_some_iff→aXb,range→aXc,mem_map→aXd,all_eq_true→aXe,take_length→aXf
open Nat renaming le_of_ble_eq_true→aW1,zero_le→aW6,le_refl→aXa
open Bool renaming and_eq_true→aW4
open Go.Shelf
def Tryz.laysM171_ren:Go.Shelf.Ren:=⟨fun|171=>90|243=>133|246=>171|283=>199|284=>200|285=>201|286=>202|129=>212|317=>211|318=>213|319=>214|320=>215|337=>228|338=>229|n=>n,fun|3=>3|9=>9|2=>2|4=>4|171=>194|0=>0|53=>195|37=>22|5=>5|173=>198|212=>204|51=>205|20=>20|213=>206|46=>207|232=>223|233=>224|n=>n,fun|17=>0|18=>2|19=>3|n=>n⟩
theorem Tryz.laysM171:Go.Proofs.LaysM.n171 Tryz.prog Tryz.laysM171_ren:={
 mixed:=by kernel_rfl
 f129:=Tryz.func212.trans (congrArg some (by kernel_rfl))
 f171:=Tryz.func90.trans (congrArg some (by kernel_rfl))
 f243:=Tryz.func133.trans (congrArg some (by kernel_rfl))
 f246:=Tryz.func171.trans (congrArg some (by kernel_rfl))
 f283:=Tryz.func199.trans (congrArg some (by kernel_rfl))
 f284:=Tryz.func200.trans (congrArg some (by kernel_rfl))
 f285:=Tryz.func201.trans (congrArg some (by kernel_rfl))
 f286:=Tryz.func202.trans (congrArg some (by kernel_rfl))
 f317:=Tryz.func211.trans (congrArg some (by kernel_rfl))
 f318:=Tryz.func213.trans (congrArg some (by kernel_rfl))
 f319:=Tryz.func214.trans (congrArg some (by kernel_rfl))
 f320:=Tryz.func215.trans (congrArg some (by kernel_rfl))
 f337:=Tryz.func228.trans (congrArg some (by kernel_rfl))
 f338:=Tryz.func229.trans (congrArg some (by kernel_rfl))
 t0:=Tryz.underlying0
 a0:=Tryz.isAgg0
 z0:=Tryz.sizeOf0
 v0:=Tryz.zeroValue0
 t2:=Tryz.underlying2
 a2:=Tryz.isAgg2
 z2:=Tryz.sizeOf2
 v2:=Tryz.zeroValue2
 t3:=Tryz.underlying3
 a3:=Tryz.isAgg3
 z3:=Tryz.sizeOf3
 v3:=Tryz.zeroValue3
 t4:=Tryz.underlying4
 a4:=Tryz.isAgg4
 z4:=Tryz.sizeOf4
 v4:=Tryz.zeroValue4
 t5:=Tryz.underlying5
 a5:=Tryz.isAgg5
 z5:=Tryz.sizeOf5
 v5:=Tryz.zeroValue5
 t9:=Tryz.underlying9
 a9:=Tryz.isAgg9
 z9:=Tryz.sizeOf9
 v9:=Tryz.zeroValue9
 t20:=Tryz.underlying20
 a20:=Tryz.isAgg20
 z20:=Tryz.sizeOf20
 v20:=Tryz.zeroValue20
 t37:=Tryz.underlying22
 a37:=Tryz.isAgg22
 z37:=Tryz.sizeOf22
 v37:=Tryz.zeroValue22
 t46:=Tryz.underlying207
 a46:=Tryz.isAgg207
 z46:=Tryz.sizeOf207
 v46:=Tryz.zeroValue207
 t51:=Tryz.underlying205
 a51:=Tryz.isAgg205
 z51:=Tryz.sizeOf205
 v51:=Tryz.zeroValue205
 t53:=Tryz.underlying195
 a53:=Tryz.isAgg195
 z53:=Tryz.sizeOf195
 v53:=Tryz.zeroValue195
 t171:=Tryz.underlying194
 a171:=Tryz.isAgg194
 z171:=Tryz.sizeOf194
 v171:=Tryz.zeroValue194
 t173:=Tryz.underlying198
 a173:=Tryz.isAgg198
 z173:=Tryz.sizeOf198
 v173:=Tryz.zeroValue198
 t212:=Tryz.underlying204
 a212:=Tryz.isAgg204
 z212:=Tryz.sizeOf204
 v212:=Tryz.zeroValue204
 t213:=Tryz.underlying206
 a213:=Tryz.isAgg206
 z213:=Tryz.sizeOf206
 t232:=Tryz.underlying223
 a232:=Tryz.isAgg223
 z232:=Tryz.sizeOf223
 v232:=Tryz.zeroValue223
 t233:=Tryz.underlying224
 a233:=Tryz.isAgg224
 z233:=Tryz.sizeOf224
 v233:=Tryz.zeroValue224
 g17:=by kernel_rfl
 g18:=by kernel_rfl
 g19:=by kernel_rfl
 i0:=by kernel_rfl
 i2:=by kernel_rfl
 i3:=by kernel_rfl
 i4:=by kernel_rfl
 i5:=by kernel_rfl
 i9:=by kernel_rfl
 i20:=by kernel_rfl
 i37:=by kernel_rfl
 i46:=by kernel_rfl
 i51:=by kernel_rfl
 i53:=by kernel_rfl
 i171:=by kernel_rfl
 i173:=by kernel_rfl
 i212:=by kernel_rfl
 i232:=by kernel_rfl
 i233:=by kernel_rfl
 m17:=by kernel_rfl
 m18:=by kernel_rfl
 m19:=by kernel_rfl}
open Go.RowKit Go.Sort Go.Lib in
theorem Tryz.strconv_Itoa (n:Int) (h0: -9223372036854775808≤n) (h1:n≤9223372036854775807) (w:World) (htab:Lib.TabIs Tryz.prog w "internal/strconv.uint64pow10" .u64 Lib.pow10Tab):
 Calls Tryz.prog 90 #[.int .i64 n] w fun e w'=>e= .returned (.string ⟨(Lib.itoa n).toArray⟩)∧ ∃k os,w'=grow (w.drewN k) os:=Any.strconv_Itoa Tryz.laysM171 n h0 h1 w htab
def Tryz.lays145_ren:Go.Shelf.Ren:=⟨fun|145=>149|220=>181|219=>206|217=>221|225=>222|224=>223|267=>224|266=>233|314=>234|n=>n,fun|9=>9|4=>4|59=>158|3=>3|5=>5|46=>207|146=>221|51=>205|n=>n,fun|1=>1|n=>n⟩
theorem Tryz.lays145:Go.Proofs.Lays.n145 Tryz.prog Tryz.lays145_ren:={
 mixed:=by kernel_rfl
 f145:=Tryz.func149.trans (congrArg some (by kernel_rfl))
 f217:=Tryz.func221.trans (congrArg some (by kernel_rfl))
 f219:=Tryz.func206.trans (congrArg some (by kernel_rfl))
 f220:=Tryz.func181.trans (congrArg some (by kernel_rfl))
 f224:=Tryz.func223.trans (congrArg some (by kernel_rfl))
 f225:=Tryz.func222.trans (congrArg some (by kernel_rfl))
 f266:=Tryz.func233.trans (congrArg some (by kernel_rfl))
 f267:=Tryz.func224.trans (congrArg some (by kernel_rfl))
 f314:=Tryz.func234.trans (congrArg some (by kernel_rfl))
 t3:=Tryz.underlying3
 a3:=Tryz.isAgg3
 z3:=Tryz.sizeOf3
 v3:=Tryz.zeroValue3
 t4:=Tryz.underlying4
 a4:=Tryz.isAgg4
 z4:=Tryz.sizeOf4
 v4:=Tryz.zeroValue4
 t5:=Tryz.underlying5
 a5:=Tryz.isAgg5
 z5:=Tryz.sizeOf5
 v5:=Tryz.zeroValue5
 t9:=Tryz.underlying9
 a9:=Tryz.isAgg9
 z9:=Tryz.sizeOf9
 v9:=Tryz.zeroValue9
 t46:=Tryz.underlying207
 a46:=Tryz.isAgg207
 z46:=Tryz.sizeOf207
 v46:=Tryz.zeroValue207
 t51:=Tryz.underlying205
 a51:=Tryz.isAgg205
 z51:=Tryz.sizeOf205
 v51:=Tryz.zeroValue205
 t59:=Tryz.underlying158
 a59:=Tryz.isAgg158
 z59:=Tryz.sizeOf158
 v59:=Tryz.zeroValue158
 t146:=Tryz.underlying221
 a146:=Tryz.isAgg221
 z146:=Tryz.sizeOf221
 v146:=Tryz.zeroValue221
 g1:=by kernel_rfl}
open Go.RowKit Go.Lib in
theorem Tryz.strings_Cut (s sep:ByteArray) (m:Int) (w:World) (hs:s.size<4294967281) (hm:w.cell? ⟨1,0,none⟩=some (.int .i64 m)):
 Calls Tryz.prog 149 #[.string s,.string sep] w fun e w'=>e= .returned (.tuple #[.string ⟨(Lib.cut s.data.toList sep.data.toList).1.toArray⟩,.string ⟨(Lib.cut s.data.toList sep.data.toList).2.1.toArray⟩,.bool (Lib.cut s.data.toList sep.data.toList).2.2])∧ ∃n,w'=w.drewN n:=Any.strings_Cut Tryz.lays145 s sep m w hs hm
def Tryz.lays146_ren:Go.Shelf.Ren:=⟨fun|146=>154|221=>186|268=>207|138=>208|143=>209|195=>225|197=>226|218=>227|219=>206|260=>235|217=>221|225=>222|224=>223|267=>224|266=>233|314=>234|n=>n,fun|9=>9|31=>36|3=>3|4=>4|0=>0|105=>217|21=>21|5=>5|46=>207|119=>230|139=>233|138=>232|146=>221|51=>205|n=>n,fun|1=>1|3=>4|4=>5|n=>n⟩
theorem Tryz.lays146:Go.Proofs.Lays.n146 Tryz.prog Tryz.lays146_ren:={
 mixed:=by kernel_rfl
 f138:=Tryz.func208.trans (congrArg some (by kernel_rfl))
 f143:=Tryz.func209.trans (congrArg some (by kernel_rfl))
 f146:=Tryz.func154.trans (congrArg some (by kernel_rfl))
 f195:=Tryz.func225.trans (congrArg some (by kernel_rfl))
 f197:=Tryz.func226.trans (congrArg some (by kernel_rfl))
 f217:=Tryz.func221.trans (congrArg some (by kernel_rfl))
 f218:=Tryz.func227.trans (congrArg some (by kernel_rfl))
 f219:=Tryz.func206.trans (congrArg some (by kernel_rfl))
 f221:=Tryz.func186.trans (congrArg some (by kernel_rfl))
 f224:=Tryz.func223.trans (congrArg some (by kernel_rfl))
 f225:=Tryz.func222.trans (congrArg some (by kernel_rfl))
 f260:=Tryz.func235.trans (congrArg some (by kernel_rfl))
 f266:=Tryz.func233.trans (congrArg some (by kernel_rfl))
 f267:=Tryz.func224.trans (congrArg some (by kernel_rfl))
 f268:=Tryz.func207.trans (congrArg some (by kernel_rfl))
 f314:=Tryz.func234.trans (congrArg some (by kernel_rfl))
 t0:=Tryz.underlying0
 a0:=Tryz.isAgg0
 z0:=Tryz.sizeOf0
 v0:=Tryz.zeroValue0
 t3:=Tryz.underlying3
 a3:=Tryz.isAgg3
 z3:=Tryz.sizeOf3
 v3:=Tryz.zeroValue3
 t4:=Tryz.underlying4
 a4:=Tryz.isAgg4
 z4:=Tryz.sizeOf4
 v4:=Tryz.zeroValue4
 t5:=Tryz.underlying5
 a5:=Tryz.isAgg5
 z5:=Tryz.sizeOf5
 v5:=Tryz.zeroValue5
 t9:=Tryz.underlying9
 a9:=Tryz.isAgg9
 z9:=Tryz.sizeOf9
 v9:=Tryz.zeroValue9
 t21:=Tryz.underlying21
 a21:=Tryz.isAgg21
 z21:=Tryz.sizeOf21
 v21:=Tryz.zeroValue21
 t31:=Tryz.underlying36
 a31:=Tryz.isAgg36
 z31:=Tryz.sizeOf36
 v31:=Tryz.zeroValue36
 t46:=Tryz.underlying207
 a46:=Tryz.isAgg207
 z46:=Tryz.sizeOf207
 v46:=Tryz.zeroValue207
 t51:=Tryz.underlying205
 a51:=Tryz.isAgg205
 z51:=Tryz.sizeOf205
 v51:=Tryz.zeroValue205
 t105:=Tryz.underlying217
 a105:=Tryz.isAgg217
 z105:=Tryz.sizeOf217
 v105:=Tryz.zeroValue217
 t119:=Tryz.underlying230
 a119:=Tryz.isAgg230
 z119:=Tryz.sizeOf230
 t138:=Tryz.underlying232
 a138:=Tryz.isAgg232
 z138:=Tryz.sizeOf232
 v138:=Tryz.zeroValue232
 t139:=Tryz.underlying233
 a139:=Tryz.isAgg233
 z139:=Tryz.sizeOf233
 v139:=Tryz.zeroValue233
 t146:=Tryz.underlying221
 a146:=Tryz.isAgg221
 z146:=Tryz.sizeOf221
 v146:=Tryz.zeroValue221
 g1:=by kernel_rfl
 g3:=by kernel_rfl
 g4:=by kernel_rfl}
open Go.RowKit Go.Lib in
theorem Tryz.strings_Split (s sep:ByteArray) (m:Int) (w:World) (hs:s.size<4294967281) (hm:w.cell? ⟨1,0,none⟩=some (.int .i64 m)) (h1:1≤sep.size):
 Calls Tryz.prog 154 #[.string s,.string sep] w fun e w'=>
  e= .returned (.slice (some ⟨w.heap.size,0,none⟩) (Lib.countB s sep+1) (Lib.countB s sep+1))∧w'=w.alloc (.cells ((Lib.splitB sep 0 (Lib.countB s sep) s).map Value.string).toArray 9):=Any.strings_Split Tryz.lays146 (by kernel_rfl) s sep m w hs hm h1
def Tryz.lays147_ren:Go.Shelf.Ren:=⟨fun|147=>183|221=>186|268=>207|138=>208|143=>209|195=>225|197=>226|218=>227|219=>206|260=>235|217=>221|225=>222|224=>223|267=>224|266=>233|314=>234|n=>n,fun|9=>9|3=>3|31=>36|4=>4|0=>0|105=>217|21=>21|5=>5|46=>207|119=>230|139=>233|138=>232|146=>221|51=>205|n=>n,fun|1=>1|3=>4|4=>5|n=>n⟩
theorem Tryz.lays147:Go.Proofs.Lays.n147 Tryz.prog Tryz.lays147_ren:={
 mixed:=by kernel_rfl
 f138:=Tryz.func208.trans (congrArg some (by kernel_rfl))
 f143:=Tryz.func209.trans (congrArg some (by kernel_rfl))
 f147:=Tryz.func183.trans (congrArg some (by kernel_rfl))
 f195:=Tryz.func225.trans (congrArg some (by kernel_rfl))
 f197:=Tryz.func226.trans (congrArg some (by kernel_rfl))
 f217:=Tryz.func221.trans (congrArg some (by kernel_rfl))
 f218:=Tryz.func227.trans (congrArg some (by kernel_rfl))
 f219:=Tryz.func206.trans (congrArg some (by kernel_rfl))
 f221:=Tryz.func186.trans (congrArg some (by kernel_rfl))
 f224:=Tryz.func223.trans (congrArg some (by kernel_rfl))
 f225:=Tryz.func222.trans (congrArg some (by kernel_rfl))
 f260:=Tryz.func235.trans (congrArg some (by kernel_rfl))
 f266:=Tryz.func233.trans (congrArg some (by kernel_rfl))
 f267:=Tryz.func224.trans (congrArg some (by kernel_rfl))
 f268:=Tryz.func207.trans (congrArg some (by kernel_rfl))
 f314:=Tryz.func234.trans (congrArg some (by kernel_rfl))
 t0:=Tryz.underlying0
 a0:=Tryz.isAgg0
 z0:=Tryz.sizeOf0
 v0:=Tryz.zeroValue0
 t3:=Tryz.underlying3
 a3:=Tryz.isAgg3
 z3:=Tryz.sizeOf3
 v3:=Tryz.zeroValue3
 t4:=Tryz.underlying4
 a4:=Tryz.isAgg4
 z4:=Tryz.sizeOf4
 v4:=Tryz.zeroValue4
 t5:=Tryz.underlying5
 a5:=Tryz.isAgg5
 z5:=Tryz.sizeOf5
 v5:=Tryz.zeroValue5
 t9:=Tryz.underlying9
 a9:=Tryz.isAgg9
 z9:=Tryz.sizeOf9
 v9:=Tryz.zeroValue9
 t21:=Tryz.underlying21
 a21:=Tryz.isAgg21
 z21:=Tryz.sizeOf21
 v21:=Tryz.zeroValue21
 t31:=Tryz.underlying36
 a31:=Tryz.isAgg36
 z31:=Tryz.sizeOf36
 v31:=Tryz.zeroValue36
 t46:=Tryz.underlying207
 a46:=Tryz.isAgg207
 z46:=Tryz.sizeOf207
 v46:=Tryz.zeroValue207
 t51:=Tryz.underlying205
 a51:=Tryz.isAgg205
 z51:=Tryz.sizeOf205
 v51:=Tryz.zeroValue205
 t105:=Tryz.underlying217
 a105:=Tryz.isAgg217
 z105:=Tryz.sizeOf217
 v105:=Tryz.zeroValue217
 t119:=Tryz.underlying230
 a119:=Tryz.isAgg230
 z119:=Tryz.sizeOf230
 t138:=Tryz.underlying232
 a138:=Tryz.isAgg232
 z138:=Tryz.sizeOf232
 v138:=Tryz.zeroValue232
 t139:=Tryz.underlying233
 a139:=Tryz.isAgg233
 z139:=Tryz.sizeOf233
 v139:=Tryz.zeroValue233
 t146:=Tryz.underlying221
 a146:=Tryz.isAgg221
 z146:=Tryz.sizeOf221
 v146:=Tryz.zeroValue221
 g1:=by kernel_rfl
 g3:=by kernel_rfl
 g4:=by kernel_rfl}
open Go.RowKit Go.Lib in
theorem Tryz.strings_SplitN (s sep:ByteArray) (n:Nat) (m:Int) (w:World) (hs:s.size<4294967281) (hm:w.cell? ⟨1,0,none⟩=some (.int .i64 m)) (h1:1≤sep.size) (hn:1≤n) (hn63:n≤9223372036854775807):
 Calls Tryz.prog 183 #[.string s,.string sep,.int .i64 n] w fun e w'=>
  e= .returned (.slice (some ⟨w.heap.size,0,none⟩) (Lib.splitB sep 0 (min n (s.size+1) - 1) s).length (min n (s.size+1)))∧w'=w.alloc (.cells (Lib.cellsOf (Lib.splitB sep 0 (min n (s.size+1) - 1) s) (min n (s.size+1))) 9):=Any.strings_SplitN Tryz.lays147 (by kernel_rfl) s sep n m w hs hm h1 hn hn63
end Go.Proofs
namespace Go.Proofs.YthbgjfegalcenaaGreatDoor
open Int renaming toNat_natCast→aWz
open List renaming length_append→aW0,length_nil→aW2,length_cons→aW3,length_take→aW5,getD_eq_getElem?_getD→aW7,getElem?_eq_getElem→aW8,length_drop→aW9,getElem?_eq_some_iff→aXb,range→aXc,mem_map→aXd,all_eq_true→aXe,take_length→aXf
open Nat renaming le_of_ble_eq_true→aW1,zero_le→aW6,le_refl→aXa
open Bool renaming and_eq_true→aW4
open Go Go.Ab Go.RowKit
set_option linter.unusedVariables false
set_option linter.unusedSimpArgs false
set_option maxRecDepth 9000
theorem dw (n:Nat) (hn:n≤1000000):Ab.Spec Tryz.prog 90 1 [(.t 0,.v (I n))] [(.t 0,.v (Dv (.s (jZ n))))]:=aLy ⟨Tryz.f90,Tryz.func90,by kernel_rfl,by kernel_rfl⟩ n hn fun w ht=>Tryz.strconv_Itoa n (by omega) (by omega) w ht
theorem aAp (s:List UInt8) (hs:s.length≤1000000):Sp 149 2 [tD 0 (.s s),tD 1 (.s [32])] [tV 0 (.tup [.c (.d (.s (bF s))),.c (.d (.s (aP s))),.c (.d (.b (fZ s)))])]:=by
 refine aOz ⟨Tryz.f149,Tryz.func149,by kernel_rfl,by kernel_rfl⟩ s hs fun w hg=> ?_
 obtain⟨m,hm⟩:=ol hg (g:=1) (by kernel_rfl)
 exact Tryz.strings_Cut ⟨s.toArray⟩ ⟨#[32]⟩ m w (show s.toArray.size<4294967281 by simp;omega) hm
theorem sy (s:List UInt8) (hs:s.length≤1000000):Sp 154 2 [tD 0 (.s s),tD 1 (.s [32])] [tD 0 (.sl (aV (dD s)))]:=by
 refine aIs (e:=9) ⟨Tryz.f154,Tryz.func154,by kernel_rfl,by kernel_rfl⟩ s hs fun w hg=> ?_
 obtain⟨m,hm⟩:=ol hg (g:=1) (by kernel_rfl)
 exact Tryz.strings_Split ⟨s.toArray⟩ ⟨#[32]⟩ m w (show s.toArray.size<4294967281 by simp;omega) hm (show 1≤1 by omega)
theorem pr (s:List UInt8) (hs:s.length≤1000000):Sp 183 3 [tD 0 (.s s),tD 1 (.s [32]),tI 2 5] [tD 0 (.sl (aV (iU 4 s)))]:=by
 refine aFz (e:=9) ⟨Tryz.f183,Tryz.func183,by kernel_rfl,by kernel_rfl⟩ 4 s hs (by omega) fun w hg=> ?_
 obtain⟨m,hm⟩:=ol hg (g:=1) (by kernel_rfl)
 exact Tryz.strings_SplitN ⟨s.toArray⟩ ⟨#[32]⟩ 5 m w (show s.toArray.size<4294967281 by simp;omega) hm (show 1≤1 by omega) (by omega) (by omega)
theorem aCo (s:List UInt8) (hl:s.length≤140737488355328):Ab.Spec Tryz.prog 72 1 [(.t 0,.v (Dv (.s s)))] [(.t 0,.v (.tup [.c (.d (.i (jE s))),.c (.d (.b (jN s).isSome))]))]:=du s hl
theorem uS (n:Int) (h:0≤n∧n≤1000000):Sp 90 1 [tI 0 n] [tD 0 (.s (jZ n.toNat))]:=by
 obtain⟨m,rfl⟩:=Int.eq_ofNat_of_zero_le h.1
 exact dw m (by omega)
theorem kR (n:Int) (h:0≤n∧n≤1000000):Sp 97 1 [tI 0 n] [tD 0 (.s (jZ n.toNat))]:=by
 obtain⟨m,rfl⟩:=Int.eq_ofNat_of_zero_le h.1
 exact uQ m (by omega)
theorem bm (l:List (List UInt8)) (hl:l.length≤1000000) (hx: ∀x∈l,x.length≤1000000):Sp 153 1 [tD 0 (.sl (aV l))] [tV 0 (.tup [.c (.d (.sl (cZ (kY l)))),.c (.d (.b (iQ l)))])]:=by
 refine sb Tryz.func153 rfl (sq (rT [0] (s2 (sq (rT [0,4] (s1 (sq (sq (rT [4,9,10,11] (s3 (bk (SW.nilOwn 4 8 3 1 rfl rfl (SW.loopW (n:=l.length) (fun m q=> ∃i:Nat,m=l.length - i∧i≤l.length∧(∀j,j<i→(jN (l.getD j [])).isSome=true)∧q=[tO 4 8 (i),tD 9 (.sl (aV l)),tI 10 (l.length:Nat),tI 11 (i:Nat),oR 8 3 1 (cZ ((l.take (i)).map jE))]) ?_ ?_)))))))))))))
 · refine wq (σ':=[tO 4 8 (0),tD 9 (.sl (aV l)),tI 10 (l.length:Nat),tI 11 (0:Nat),oR 8 3 1 (cZ ((l.take (0)).map jE))]) [] [] (⟨0,rfl,aW6 _,fun j h=>absurd h (by omega),rfl⟩) ?_
   repeat' apply ai
   all_goals first|exact qx|rfl|(rw[aJ];done)|(simp[aJ];done)|exact qz
 rintro n s ⟨i,rfl,hi,hk,rfl⟩
 refine sq (rT [4,9,10,11,12] (s1 (sq (cd rfl (fun c12=> ?_) fun c12=> ?_))))
 · have hi2:i<l.length:=by simpa using c12
   have hg:=fB (l:=l) hi2
   refine sk (sq (bk (sq (rT [4,6,9,10,11] (ai (by rw[aWz,hg];exact⟨⟨by omega,by rw[aJ];omega⟩,rfl⟩) (ai (by rw[aWz,hg];exact⟨aW1 rfl,rfl⟩) (s1 (sq (wa [tO 4 8 (i),tD 6 (.s (l.getD i [])),tD 9 (.sl (aV l)),tI 10 (l.length:Nat),tI 11 (i:Nat),oR 8 3 1 (cZ ((l.take (i)).map jE))] [] [] ?_ ?_)))))))))
   · repeat' apply ai
     all_goals first|exact qx|(rw[aWz,hg];rfl)|exact qz
   refine rT [4,7,8,9,10,11] (s1 (xp (aCo (l.getD i []) (by have:=hx _ (dG (z:=[]) hi2);omega)) (ai rfl ?_)))
   refine s5 (sq (sq (rT [4,7,9,10,11,21] (s2 (cd rfl (fun c21=> ?_) fun c21=> ?_)))))
   · refine sq (rT [2,3] (s2 (rt ?_)))
     have hno:=aL1 hi2 (by simpa using c21)
     exact eC _ [] [] rfl ⟨⟨_,rfl,congrArg D.sl (show cZ (kY l)=[] by rw[kY,hno];rfl),congrArg D.b hno.symm,trivial⟩,trivial⟩ rfl rfl
   refine sk (rT [4,9,10,11] (s2 (ai (by exact⟨by simp,aW1 rfl⟩) (ai (by refine⟨rfl,by rw[cK,List.length_map,aW5];omega,by simp,?_⟩;show(_+1)*8≤_;omega) (s1 (rT [4,9,10,11] (s2 ?_)))))))
   have hs: (jN (l.getD i [])).isSome=true:=by simpa using c21
   refine wq [] [] (⟨l.length - (i+1),by omega,i+1,rfl,by omega,fun j h=>by by_cases e:j=i;exact e▸hs;exact hk j (by omega),rfl⟩) ?_
   repeat' apply ai
   all_goals first|exact qx|rfl|(rw[aAb hi2];exact oA _ _)|(exact congrArg D.i (by rw[aC (by omega)];omega))|(simp[cK,aW5];omega)|exact qz
 have hi3:i=l.length:=by simp at c12;omega
 refine xt (sq (rT [2,3] (s3 (rt ?_))))
 have hyes:=aIu (hi3▸hk)
 exact eC _ [] [8] rfl ⟨⟨_,rfl,⟨by simp,_,_,_,rfl,by rw[cK,List.length_map,aW5];omega,.inl (congrArg D.sl (by rw[kY,if_pos hyes,hi3,aXf]))⟩,congrArg D.b hyes.symm,trivial⟩,trivial⟩ rfl rfl
theorem gt (s:List UInt8) (hl:s.length≤1000000):Sp 189 1 [tD 0 (.s s)] [tV 0 (.tup [.c (.d (.s (bF s))),.c (.d (.s (aP s)))])]:=by
 refine sb Tryz.func189 rfl (sq (rT [0] (s2 (sq (sq (rT [0,4] (s1 (bk (SW.loopW (n:=s.length) (fun m q=> ∃i:Nat,m=s.length - i∧i≤s.length∧(∀j,j<i→s.getD j 0≠32)∧q=[tD 0 (.s s),tI 4 (i:Nat)]) ?_ ?_)))))))))
 · exact wq (σ':=[tD 0 (.s s),tI 4 (0:Nat)]) [] [] (⟨0,rfl,aW6 _,fun j h=>absurd h (by omega),rfl⟩) qz
 rintro n s ⟨i,rfl,hi,hk,rfl⟩
 refine sq (sq (rT [0,4,8] (s4 (cd rfl (fun c8=> ?_) fun c8=> ?_))))
 · have hi2:i<s.length:=by simpa using c8
   refine sk (sq (bk (sq (rT [0,4,14] (s2 (ai (by exact⟨by omega,by omega⟩) (s1 (cd rfl (fun c14=> ?_) fun c14=> ?_))))))))
   · have h32:s.getD i 0=32:=by
      have h9:=c14
      rw[aWz] at h9
      have h10: ((s.getD i 0).toNat:Int)=32:=by simpa only[beq_iff_eq] using h9
      apply UInt8.toNat_inj.1
      have h6: (32:UInt8).toNat=32:=rfl
      omega
     obtain⟨e1,e2,e3⟩:=aO1 hk hi2 h32
     refine sq (rD [2,3] (s2 (ai (by simp[qp,eY,gI];omega) (s3 (ai (by rw[aC (by omega)];simp[qp,eY,gI];omega) (s2 (ai (by kernel_rfl) (rt (bO rfl rfl ?_)))))))))
     rw[e1,e2,aC (by omega)]
     simp[eY,gI]
   refine sk (rT [0,4] (s3 ?_))
   have hs:s.getD i 0≠32:=by
    have h9:=c14
    rw[aWz] at h9
    intro e
    rw[e] at h9
    exact absurd h9 (by decide)
   refine wq [] [] (⟨s.length - (i+1),by omega,i+1,rfl,by omega,fun j h=>by by_cases e:j=i;exact e▸hs;exact hk j (by omega),rfl⟩) ?_
   repeat' apply ai
   all_goals first|exact qx|exact congrArg D.i (aC (by omega))|exact qz
 have hi3:i=s.length:=by simp at c8;omega
 refine xt (sq (rT [2,3] (s3 (rt ?_))))
 obtain⟨e1,e2,e3⟩:=aL0 (hi3▸hk)
 refine bO rfl rfl ?_
 rw[e1,e2]
 rfl
theorem gu (s:List UInt8) (n:Nat) (hl:s.length≤1000000) (hn:n≤100):Sp 194 2 [tD 0 (.s s),tI 1 (n:Nat)] [tV 0 (.tup [.c (.d (.sl (cZ (fE n s)))),.c (.d (.s (mP n s)))])]:=by
 refine sb Tryz.func194 rfl (sq (rT [0,1] (s2 (sq (rT [0,1,6] (ai (by exact⟨by simp,aW1 rfl⟩) (s1 (sq (sq (rT [0,1,6,7] (s1 (bk (SW.loopW (n:=n) (fun m q=> ∃i:Nat,m=n - i∧i≤n∧q=[tD 0 (.s (mP (i) s)),tI 1 (n:Nat),tO 6 10 (i),tI 7 (i:Nat),oR 10 3 1 (cZ (fE (i) s))]) ?_ ?_)))))))))))))
 · refine wq (σ':=[tD 0 (.s (mP (0) s)),tI 1 (n:Nat),tO 6 10 (0),tI 7 (0:Nat),oR 10 3 1 (cZ (fE (0) s))]) [] [] (⟨0,rfl,aW6 _,rfl⟩) ?_
   repeat' apply ai
   all_goals first|exact qx|rfl|exact qz
 rintro n s ⟨i,rfl,hi,rfl⟩
 refine sq (sq (rT [0,1,6,7,13] (s3 (cd rfl (fun c13=> ?_) fun c13=> ?_))))
 · have hi2:i<n:=by simpa using c13
   have hr:=vp i s
   have hr2:=fa (mP i s)
   refine sk (sq (bk (sq (rT [1,6,7,8,9] (s1 (xp (gt (mP i s) (by omega)) (ai rfl ?_)))))))
   refine s5 (sq (rT [1,6,7,9] (s2 (xp (uR (bF (mP i s)) (by omega)) (ai rfl ?_)))))
   refine ai (by exact⟨by simp,aW1 rfl⟩) (ai (by refine⟨rfl,by rw[cK,bN],by simp,?_⟩;show(_+1)*8≤_;omega) (s1 (rT [0,1,6,7] (s2 (rT [0,1,6,7] (s3 (wq [] [] (⟨n - (i+1),by omega,i+1,rfl,by omega,rfl⟩) ?_)))))))
   repeat' apply ai
   all_goals first|exact qx|rfl|(rw[aIt];exact oA _ _)|(exact congrArg D.i (by rw[aC (by omega)];omega))|(simp[cK,bN];done)|exact qz
 have hi3:i=n:=by simp at c13;omega
 refine xt (sq (rT [4,5] (s4 (rt ?_))))
 subst hi3
 exact eC _ [] [10] rfl ⟨⟨_,rfl,⟨by simp,_,_,_,rfl,by rw[cK,bN],.inl rfl⟩,rfl,trivial⟩,trivial⟩ rfl rfl
theorem sH (n:bA) (hl:n.text.length≤140737488355328):Sp 57 1 [tV 0 n.V] [tD 0 (.s (gB n))]:=by
 refine sb Tryz.func57 rfl (sq (rT [1] (s2 (sq (sq (rT [1,5] (s1 (xp (sU _ vc) (ai rfl ?_)))))))))
 refine s1 (cd rfl (fun c5=> ?_) fun c5=> ?_)
 · refine sq (rT [2] (s1 (rt (bJ rfl (congrArg D.s ?_)))))
   have hno:eP n=false:=by simpa using c5
   rw[gB,hno];rfl
 have hok:eP n=true:=by simpa using c5
 obtain⟨p1,p2,p3,p4,p5⟩:=lZ hok
 have q1:=bS (k:=3) (n:=n.frm.toNat) (by simp;omega)
 have q2:=bS (k:=3) (n:=n.num.toNat) (by simp;omega)
 have q3:=bS (k:=3) (n:=n.to.toNat) (by simp;omega)
 have q4:=bS (k:=3) (n:=n.til.toNat) (by simp;omega)
 refine sk (sq (rD [2] (s2 (xp (uS n.frm (by omega)) (ai rfl ?_)))))
 refine ai (by show _≤9223372036854775807;simp only[aW0,aW3,aW2];omega) (s2 (xp (uS n.num (by omega)) (ai rfl ?_)))
 refine ai (by show _≤9223372036854775807;simp only[aW0,aW3,aW2];omega) (ai (by show _≤9223372036854775807;simp only[aW0,aW3,aW2];omega) (s2 (xp (uS n.to (by omega)) (ai rfl ?_))))
 refine ai (by show _≤9223372036854775807;simp only[aW0,aW3,aW2];omega) (ai (by show _≤9223372036854775807;simp only[aW0,aW3,aW2];omega) (s2 (xp (uS n.til (by omega)) (ai rfl ?_))))
 refine ai (by show _≤9223372036854775807;simp only[aW0,aW3,aW2];omega) (ai (by show _≤9223372036854775807;simp only[aW0,aW3,aW2];omega) (s2 (ai (by show _≤9223372036854775807;simp only[aW0,aW3,aW2];omega) (s1 (ai (by kernel_rfl) (rt (bJ rfl (congrArg D.s ?_))))))))
 rw[gB,if_pos hok];rfl
theorem kN (n:bA) (hl:n.text.length≤140737488355328):Sp 93 1 [tV 0 n.V] [tD 0 (.s (gB n))]:=by
 refine sb Tryz.func93 rfl (sq (rT [1] (s2 (sq (sq (rT [1,5] (s1 (xp (xM _ vc) (ai rfl ?_)))))))))
 refine s1 (cd rfl (fun c5=> ?_) fun c5=> ?_)
 · refine sq (rT [2] (s1 (rt (bJ rfl (congrArg D.s ?_)))))
   have hno:eP n=false:=by simpa using c5
   rw[gB,hno];rfl
 have hok:eP n=true:=by simpa using c5
 obtain⟨p1,p2,p3,p4,p5⟩:=lZ hok
 have q1:=bS (k:=3) (n:=n.frm.toNat) (by simp;omega)
 have q2:=bS (k:=3) (n:=n.num.toNat) (by simp;omega)
 have q3:=bS (k:=3) (n:=n.to.toNat) (by simp;omega)
 have q4:=bS (k:=3) (n:=n.til.toNat) (by simp;omega)
 refine sk (sq (rD [2] (s2 (xp (kR n.frm (by omega)) (ai rfl ?_)))))
 refine ai (by show _≤9223372036854775807;simp only[aW0,aW3,aW2];omega) (s2 (xp (kR n.num (by omega)) (ai rfl ?_)))
 refine ai (by show _≤9223372036854775807;simp only[aW0,aW3,aW2];omega) (ai (by show _≤9223372036854775807;simp only[aW0,aW3,aW2];omega) (s2 (xp (kR n.to (by omega)) (ai rfl ?_))))
 refine ai (by show _≤9223372036854775807;simp only[aW0,aW3,aW2];omega) (ai (by show _≤9223372036854775807;simp only[aW0,aW3,aW2];omega) (s2 (xp (kR n.til (by omega)) (ai rfl ?_))))
 refine ai (by show _≤9223372036854775807;simp only[aW0,aW3,aW2];omega) (ai (by show _≤9223372036854775807;simp only[aW0,aW3,aW2];omega) (s2 (ai (by show _≤9223372036854775807;simp only[aW0,aW3,aW2];omega) (s1 (ai (by kernel_rfl) (rt (bJ rfl (congrArg D.s ?_))))))))
 rw[gB,if_pos hok];rfl
set_option maxHeartbeats 1600000 in
theorem ta (s:List UInt8) (hl:s.length≤1000000):Sp 151 1 [tD 0 (.s s)] [tV 0 (.tup [.agg [.d (.i ((eD s).1).frm),.d (.i ((eD s).1).num),.d (.i ((eD s).1).to),.d (.i ((eD s).1).til),.d (.s ((eD s).1).text)],.c (.d (.b (eD s).2))])]:=by
 refine sb Tryz.func151 rfl (sq (rT [0,2] (s2 (sq (rT [0,2,4] (s1 (xp (pr s hl) (ai rfl ?_))))))))
 refine s1 (sq (sq (rT [0,2,4,12] (s3 (cd rfl (fun c12=> ?_) fun c12=> ?_)))))
 · refine sq (rT [2,3] (s3 (rt (bO rfl rfl ?_))))
   rw[vt (.inl (by simp[aJ] at c12;omega))]
   rfl
 have h5: (iU 4 s).length=5:=by simp[aJ] at c12;omega
 refine sk (sq (rT [0,2,4,5,6] (s1 (ai (by refine⟨?_,uH _⟩;rw[aJ,h5];simp[qp,eY,gI]) (xp (bm ((iU 4 s).take 4) (by rw[aW5];omega) (fun x hx=>by have:=ky 4 s x (List.mem_of_mem_take hx);omega)) (ai (by show _=eV 0 [Dv (.sl (List.drop 0 (List.take 4 (aV (iU 4 s)))))];rw[List.drop_zero,aDo];rfl) ?_))))))
 refine s5 (sq (sq (rT [0,2,4,5,21] (s2 (cd rfl (fun c21=> ?_) fun c21=> ?_)))))
 · refine sq (rT [2,3] (s3 (rt (bO rfl rfl ?_))))
   rw[vt (.inr (.inl (by simpa using c21)))]
   rfl
 have hok:iQ ((iU 4 s).take 4)=true:=by simpa using c21
 refine sk (sq (rD [0,2,7] (s1 (ai (by exact kt (l:=kY ((iU 4 s).take 4)) (by omega) (by rw[iE hok,aW5];omega)) (ai (by have:=iR (l:=kY ((iU 4 s).take 4)) (i:=0) (by rw[iE hok,aW5];omega);first|(rw[show((0:Int)).toNat=((0:Nat):Int).toNat from rfl,this];exact⟨aW1 rfl,rfl⟩)) (s1 (ai (by exact kt (l:=kY ((iU 4 s).take 4)) (by omega) (by rw[iE hok,aW5];omega)) (ai (by have:=iR (l:=kY ((iU 4 s).take 4)) (i:=1) (by rw[iE hok,aW5];omega);first|(rw[show((1:Int)).toNat=((1:Nat):Int).toNat from rfl,this];exact⟨aW1 rfl,rfl⟩)) (s1 (ai (by exact kt (l:=kY ((iU 4 s).take 4)) (by omega) (by rw[iE hok,aW5];omega)) (ai (by have:=iR (l:=kY ((iU 4 s).take 4)) (i:=2) (by rw[iE hok,aW5];omega);first|(rw[show((2:Int)).toNat=((2:Nat):Int).toNat from rfl,this];exact⟨aW1 rfl,rfl⟩)) (s1 (ai (by exact kt (l:=kY ((iU 4 s).take 4)) (by omega) (by rw[iE hok,aW5];omega)) (ai (by have:=iR (l:=kY ((iU 4 s).take 4)) (i:=3) (by rw[iE hok,aW5];omega);first|(rw[show((3:Int)).toNat=((3:Nat):Int).toNat from rfl,this];exact⟨aW1 rfl,rfl⟩)) (s1 (ai (by exact ixS (l:=iU 4 s) (by omega) (by omega)) (ai (by exact ldS (l:=iU 4 s) (by omega) (by omega)) (s3 (ai (by kernel_rfl) (sq (sq (SW.wk (J:=fun q=>q=[tD 0 (.s s),tP 2 2,tP 7 7,oB 2 58 [.d (.i 0),.d (.i 0),.d (.i 0),.d (.i 0),.d (.s [])],oB 7 58 [.d (.i (oV s).frm),.d (.i (oV s).num),.d (.i (oV s).to),.d (.i (oV s).til),.d (.s (oV s).text)]]) ?_ ?_))))))))))))))))))))))
 · refine wq [] [] (rfl) ?_
   repeat' apply ai
   all_goals first|exact qx|exact congrArg D.i (aDp hok h5 (i:=0) (by omega))|exact congrArg D.i (aDp hok h5 (i:=1) (by omega))|exact congrArg D.i (aDp hok h5 (i:=2) (by omega))|exact congrArg D.i (aDp hok h5 (i:=3) (by omega))|exact congrArg D.s (aRf (l:=iU 4 s) (j:=4) (by omega) (by omega))|exact qz
 rintro q rfl
 refine rT [2,7,47] (s1 (xp (sU (oV s) (by have:=ky 4 s _ (dG (z:=[]) (show 4< (iU 4 s).length by omega));show((iU 4 s).getD 4 []).length≤_;omega)) (ai rfl ?_)))
 refine s2 (y1 (xc (fun h=>(sH (oV s) (by have:=ky 4 s _ (dG (z:=[]) (show 4< (iU 4 s).length by omega));show((iU 4 s).getD 4 []).length≤_;omega))) (ai rfl (ai rk ?_))))
 refine y2 (ai pk (cd rfl (fun c47=> ?_) fun c47=> ?_))
 · refine sq (rT [2,3] (s3 (rt (bO rfl rfl ?_))))
   rw[vt (.inr (.inr (by cases h:eP (oV s) with|false=>exact .inl rfl|true=>rw[h] at c47;exact .inr (by simpa using c47))))]
   rfl
 refine sk (sq (rT [2,3] (s3 (rt ?_))))
 have h6:eP (oV s)=true∧gB (oV s)=s:=by simpa using c47
 refine bO rfl rfl ?_
 rw[aL2 h5 hok h6.1 h6.2]
 rfl
set_option maxHeartbeats 1600000 in
theorem tW (s:List UInt8) (hl:s.length≤1000000):Sp 191 1 [tD 0 (.s s)] [tV 0 (.tup [.agg [.d (.i ((eD s).1).frm),.d (.i ((eD s).1).num),.d (.i ((eD s).1).to),.d (.i ((eD s).1).til),.d (.s ((eD s).1).text)],.c (.d (.b (eD s).2))])]:=by
 refine sb Tryz.func191 rfl (sq (rT [0,2] (s2 (sq (rT [0,2,4,5] (s1 (xp (gu s 4 hl (by omega)) (ai rfl ?_))))))))
 refine s5 (sq (rD [0,2,6] (s1 (ai (by exact kt (l:=fE 4 s) (by omega) (by rw[bN];omega)) (ai (by have:=iR (l:=fE 4 s) (i:=0) (by rw[bN];omega);first|(rw[show((0:Int)).toNat=((0:Nat):Int).toNat from rfl,this];exact⟨aW1 rfl,rfl⟩)) (s1 (ai (by exact kt (l:=fE 4 s) (by omega) (by rw[bN];omega)) (ai (by have:=iR (l:=fE 4 s) (i:=1) (by rw[bN];omega);first|(rw[show((1:Int)).toNat=((1:Nat):Int).toNat from rfl,this];exact⟨aW1 rfl,rfl⟩)) (s1 (ai (by exact kt (l:=fE 4 s) (by omega) (by rw[bN];omega)) (ai (by have:=iR (l:=fE 4 s) (i:=2) (by rw[bN];omega);first|(rw[show((2:Int)).toNat=((2:Nat):Int).toNat from rfl,this];exact⟨aW1 rfl,rfl⟩)) (s1 (ai (by exact kt (l:=fE 4 s) (by omega) (by rw[bN];omega)) (ai (by have:=iR (l:=fE 4 s) (i:=3) (by rw[bN];omega);first|(rw[show((3:Int)).toNat=((3:Nat):Int).toNat from rfl,this];exact⟨aW1 rfl,rfl⟩)) (s4 (ai (by kernel_rfl) (sq (sq (SW.wk (J:=fun q=>q=[tD 0 (.s s),tP 2 2,tP 6 6,oB 2 58 [.d (.i 0),.d (.i 0),.d (.i 0),.d (.i 0),.d (.s [])],oB 6 58 [.d (.i (da s).frm),.d (.i (da s).num),.d (.i (da s).to),.d (.i (da s).til),.d (.s (da s).text)]]) ?_ ?_)))))))))))))))))))
 · refine wq [] [] (rfl) ?_
   repeat' apply ai
   all_goals first|exact qx|exact congrArg D.i (tl (i:=0) (by omega))|exact congrArg D.i (tl (i:=1) (by omega))|exact congrArg D.i (tl (i:=2) (by omega))|exact congrArg D.i (tl (i:=3) (by omega))|rfl|exact qz
 rintro q rfl
 refine rT [2,6,33] (s3 (y1 (xc (fun h=>(kN (da s) (by have:=vp 4 s;show(mP 4 s).length≤_;omega))) (ai rfl (ai rk ?_)))))
 refine y2 (ai pk (cd rfl (fun c33=> ?_) fun c33=> ?_))
 · refine sq (rT [2,3] (s3 (rt (bO rfl rfl ?_))))
   have hno:eD s=(.zero,false):=by
    rw[eD,if_pos]
    by_cases h:s=[]
    · exact .inl h
    · rw[show(s==[])=false by simpa using h] at c33;exact .inr (by simpa using c33)
   rw[hno]
   rfl
 refine sk (sq (rT [2,3] (s3 (rt (bO rfl rfl ?_)))))
 have hyes:eD s=(da s,true):=by
  rw[eD,if_neg]
  rintro(h|h)
  · subst h;simp at c33
  · by_cases h2:s=[]
    · subst h2;simp at c33
    · rw[show(s==[])=false by simpa using h2] at c33;exact h (by simpa using c33)
 rw[hyes]
 rfl
theorem dx (l:List bA) (hl:l.length≤1000000):Sp 156 1 [tD 0 (.sl (aE l))] [tD 0 (.sl (aE l))]:=by
 refine sb Tryz.func156 rfl (sq (rT [0] (s1 (sq (sq (rT [0,6] (s3 (cd rfl (fun c6=> ?_) fun c6=> ?_))))))))
 · refine sq (rT [2] (s1 (rt (eC _ [] [] rfl (kh rfl (congrArg D.sl ?_) trivial) rfl rfl))))
   simp[aB] at c6;simp[c6,aE]
 refine sk (sq (rT [0,3] (s2 (ai (by refine⟨rfl,by omega,?_⟩;rw[aB];show((48:Nat):Int)*_≤_;omega) (s1 (sq (rT [3] (s2 (ai (by refine⟨trivial,by simp,eU l⟩) (sq (rT [2] (s2 (rt (eC _ [] [9] rfl (eW rfl rfl rfl ?_ (congrArg D.sl ?_) trivial) rfl rfl))))))))))))))
 · simp
 simp
theorem yl (l:List cB) (hl:l.length≤1000000):Sp 157 1 [tD 0 (.sl (aO l))] [tD 0 (.sl (aO l))]:=by
 refine sb Tryz.func157 rfl (sq (rT [0] (s1 (sq (sq (rT [0,6] (s3 (cd rfl (fun c6=> ?_) fun c6=> ?_))))))))
 · refine sq (rT [2] (s1 (rt (eC _ [] [] rfl (kh rfl (congrArg D.sl ?_) trivial) rfl rfl))))
   simp[aF] at c6;simp[c6,aO]
 refine sk (sq (rT [0,3] (s2 (ai (by refine⟨rfl,by omega,?_⟩;rw[aF];show((24:Nat):Int)*_≤_;omega) (s1 (sq (rT [3] (s2 (ai (by refine⟨trivial,by simp,iL l⟩) (sq (rT [2] (s2 (rt (eC _ [] [9] rfl (eW rfl rfl rfl ?_ (congrArg D.sl ?_) trivial) rfl rfl))))))))))))))
 · simp
 simp
theorem tX (k:bB) (hb:k.held.length≤1000000∧k.marks.length≤1000000∧k.inbox.length≤1000000):Sp 112 1 [tV 0 k.V] [tV 0 k.V]:=by
 refine sb Tryz.func112 rfl (sq (rT [1,2] (s2 (sq (rT [1,2,3] (s3 (sq (rT [1,2,3] (s2 (xp (dx k.held hb.1) (ai rfl ?_)))))))))))
 refine s2 (sq (rT [1,2,3] (s2 (xp (yl k.marks hb.2.1) (ai rfl ?_)))))
 refine s2 (sq (rT [2,3] (s2 (xp (dx k.inbox hb.2.2) (ai rfl ?_)))))
 exact s2 (sq (rT [2] (s2 (rt (bO rfl rfl rfl)))))
theorem rC (k:bB) (hb:k.held.length≤1000000∧k.marks.length≤1000000∧k.inbox.length≤1000000):Sp 161 1 [tV 0 k.V] [tV 0 k.V]:=by
 refine sb Tryz.func161 rfl (sq (rT [1,2] (s2 (sq (rT [1,2] (ai (by simp) (s2 (ai (by refine⟨trivial,rfl,?_,?_⟩<;>first|exact eU _|exact iL _|(simp only[aB,aF,aW2,Nat.zero_add];show _*48≤_;omega)) (s2 (sq (rT [1,2] (ai (by simp) (s2 (ai (by refine⟨trivial,rfl,?_,?_⟩<;>first|exact eU _|exact iL _|(simp only[aB,aF,aW2,Nat.zero_add];show _*24≤_;omega)) (s2 (sq (rT [1,2] (ai (by simp) (s2 (ai (by refine⟨trivial,rfl,?_,?_⟩<;>first|exact eU _|exact iL _|(simp only[aB,aF,aW2,Nat.zero_add];show _*48≤_;omega)) (s2 (sq (rT [2] (s2 (rt (rq [] [3,8,13] rfl ?_))))))))))))))))))))))))))
 repeat' apply ai
 all_goals try exact qx
 all_goals(first|with_reducible rfl|(simp;done))
set_option maxHeartbeats 800000 in
theorem sW (l:List bA) (n:bA) (hl:l.length≤100000):Sp 185 2 [tD 0 (.sl (aE l)),tV 1 n.V] [tD 0 (.sl (aE (kC l n)))]:=by
 refine sb Tryz.func185 rfl (sq (rT [0,3] (s2 (sq (rT [0,3,5] (s1 (sq (bk (SW.loopW (n:=l.length) (fun m q=> ∃i:Nat,m=l.length - i∧i≤l.length∧(∀j,j<i→cF (l.getD j .zero).frm (l.getD j .zero).num n.frm n.num=true)∧q=[tD 0 (.sl (aE l)),tP 3 3,tI 5 (i:Nat),oB 3 58 [.d (.i (n).frm),.d (.i (n).num),.d (.i (n).to),.d (.i (n).til),.d (.s (n).text)]]) ?_ ?_)))))))))
 · exact wq (σ':=[tD 0 (.sl (aE l)),tP 3 3,tI 5 (0:Nat),oB 3 58 [.d (.i (n).frm),.d (.i (n).num),.d (.i (n).to),.d (.i (n).til),.d (.s (n).text)]]) [] [] (⟨0,rfl,aW6 _,fun j h=>absurd h (by omega),rfl⟩) qz
 rintro n s ⟨i,rfl,hi,hk,rfl⟩
 refine sq (sq (rD [0,3,5,26] (s5 (y2 (ai (fun h=>(by have h8:=h;simp[gb,aB] at h8;have h9:i<l.length:=(by omega);rw[aWz,aR h9];exact⟨⟨by omega,by rw[aB];omega⟩,rfl⟩)) (ai rk (y1 (ai (fun h=>(by have h8:=h;simp[gb,aB] at h8;have h9:i<l.length:=(by omega);rw[aWz,aR h9];exact⟨aW1 rfl,rfl⟩)) (ai rk (y2 (ai (fun h=>(by have h8:=h;simp[gb,aB] at h8;have h9:i<l.length:=(by omega);rw[aWz,aR h9];exact⟨⟨by omega,by rw[aB];omega⟩,rfl⟩)) (ai rk (y1 (ai (fun h=>(by have h8:=h;simp[gb,aB] at h8;have h9:i<l.length:=(by omega);rw[aWz,aR h9];exact⟨aW1 rfl,rfl⟩)) (ai rk (y4 (xc (fun h=>(sT _ _ _ _)) (ai rfl (ai rk ?_)))))))))))))))))))
 refine ai pk (ai (by kernel_rfl) (cd rfl (fun c26=> ?_) fun c26=> ?_))
 · have h9:=c26
   simp only[aW4,decide_eq_true_eq,aB] at h9
   have hi2:i<l.length:=by omega
   have hb:cF (l.getD i .zero).frm (l.getD i .zero).num n.frm n.num=true:=by
    have h10:=h9.2
    rw[aWz,aR hi2] at h10
    exact h10
   refine sk (bk (rT [0,3,5] (s3 (wq [] [] (⟨l.length - (i+1),by omega,i+1,rfl,by omega,fun j h=>by by_cases e:j=i;exact e▸hb;exact hk j (by omega),rfl⟩) ?_))))
   repeat' apply ai
   all_goals first|exact qx|exact congrArg D.i (aC (by omega))|exact qz
 have hend:i=l.length∨cF (l.getD i .zero).frm (l.getD i .zero).num n.frm n.num=false:=by
  by_cases h:i<l.length
  · right
    have h9:=c26
    rw[decide_eq_true (show((i:Nat):Int)< ((aE l).length:Int) by rw[aB];omega),Bool.true_and,aWz,aR h] at h9
    exact h9
  · left;omega
 have hins:kC l n=_:=aKk (z:=bA.zero) (p:=fun x=>cF x.frm x.num n.frm n.num) (n:=n) hi hk hend
 refine xt (sq (rD [4] (ai (by simp) (s2 (ai (by exact⟨by rw[aB];exact⟨by first|(simp;done)|(simp;omega),by first|(simp;done)|(simp;omega),by first|(simp;done)|(simp;omega)⟩,eU _⟩) (ai (by exact⟨by first|trivial|rfl|(simp;done),by first|rfl|(simp[aB];done),by first|exact kF l _ _|(simp;done),by(try simp only[aW0,aW3,aW2,aW5,aW9,aB,jR,jS,jT,jU]);show _*48≤_;omega⟩) (s1 (ai (by exact⟨by simp,aW1 rfl⟩) (ai (by exact⟨by first|trivial|rfl|(simp;done),by first|rfl|(simp[aB];done),by first|exact kF l _ _|(simp;done),by(try simp only[aW0,aW3,aW2,aW5,aW9,aB,jR,jS,jT,jU]);show _*48≤_;omega⟩) (s2 (ai (by exact⟨by rw[aB];exact⟨by first|(simp;done)|(simp;omega),by first|(simp;done)|(simp;omega),by first|(simp;done)|(simp;omega)⟩,eU _⟩) (ai (by exact⟨by first|trivial|rfl|(simp;done),by first|rfl|(simp[aB];done),by first|exact kF l _ _|(simp;done),by(try simp only[aW0,aW3,aW2,aW5,aW9,aB,jR,jS,jT,jU]);show _*48≤_;omega⟩) (s1 (ai (by kernel_rfl) (rt (eC _ [] [29] rfl (eW rfl rfl rfl ?_ (congrArg D.sl ?_) trivial) rfl rfl))))))))))))))))
 · rfl
 rw[hins,vO,zO];simp[aE,List.map_take,List.map_drop,bA.row]
theorem dy (l:List bA) (a:Int) (ha:0≤a∧a<l.length) (hl:l.length≤100000):Sp 187 2 [tD 0 (.sl (aE l)),tI 1 a] [tD 0 (.sl (aE (gX l a.toNat)))]:=by
 obtain⟨i,rfl⟩:=Int.eq_ofNat_of_zero_le ha.1
 have hw:wrap64 ((i:Int)+1)=((i+1:Nat):Int):=by rw[aC (by omega)];omega
 refine sb Tryz.func187 rfl (sq (rT [0,1] (s1 (sq (rD [4] (ai (by simp) (s2 (ai (by exact⟨by rw[aB];exact⟨by first|(simp;done)|(simp;omega),by first|(simp;done)|(simp;omega),by first|(simp;done)|(simp;omega)⟩,eU _⟩) (ai (by exact⟨by first|trivial|rfl|(simp;done),by first|rfl|(simp[aB];done),by first|exact kF l _ _|(simp;done),by(try simp only[aW0,aW3,aW2,aW5,aW9,aB,jR,jS,jT,jU]);show _*48≤_;omega⟩) (s3 (ai (by rw[hw];exact⟨by rw[aB];exact⟨by first|(simp;done)|(simp;omega),by first|(simp;done)|(simp;omega),by first|(simp;done)|(simp;omega)⟩,eU _⟩) (ai (by exact⟨by first|trivial|rfl|(simp;done),by first|rfl|(simp[aB];done),by first|exact kF l _ _|(simp;done),by(try simp only[hw]);(try simp only[aW0,aW3,aW2,aW5,aW9,aB,jR,jS,jT,jU]);show _*48≤_;omega⟩) (s1 (ai (by kernel_rfl) (rt (eC _ [] [5] rfl (eW rfl rfl rfl ?_ (congrArg D.sl ?_) trivial) rfl rfl))))))))))))))))
 · rfl
 rw[hw,vO,zO];simp[aE,gX,List.map_take,List.map_drop]
theorem ar {l:List bA} {i:Nat} {n:bA}: (aE (midW (fun x:bA=>cF n.frm n.num x.frm x.num) n (l.take i))).length≤l.length+1:=by
 rw[aB,midW]
 split
 · rw[fT,aW5];omega
 rw[aW5];omega
set_option maxHeartbeats 800000 in
theorem nI (l:List bA) (n:bA) (hl:l.length≤100000):Sp 193 2 [tD 0 (.sl (aE l)),tV 1 n.V] [tD 0 (.sl (aE (kD l n)))]:=by
 refine sb Tryz.func193 rfl (sq (rT [0,3] (s2 (sq (rT [0,3,5] (ai (by simp) (s1 (sq (rT [0,3,5,6] (s1 (sq (sq (rT [0,3,5,6,7] (s1 (bk (SW.loopW (n:=l.length) (fun m q=> ∃i:Nat,m=l.length - i∧i≤l.length∧q=[tD 0 (.sl (aE l)),tP 3 3,tO 5 8 (aE (midW (fun x:bA=>cF n.frm n.num x.frm x.num) n (l.take i))).length,tB 6 ((l.take i).any (fun x:bA=>cF n.frm n.num x.frm x.num)),tI 7 (i:Nat),oB 3 58 [.d (.i (n).frm),.d (.i (n).num),.d (.i (n).to),.d (.i (n).til),.d (.s (n).text)],oR 8 58 5 (aE (midW (fun x:bA=>cF n.frm n.num x.frm x.num) n (l.take i)))]) ?_ ?_))))))))))))))))
 · refine wq (σ':=[tD 0 (.sl (aE l)),tP 3 3,tO 5 8 (aE (midW (fun x:bA=>cF n.frm n.num x.frm x.num) n (l.take 0))).length,tB 6 ((l.take 0).any (fun x:bA=>cF n.frm n.num x.frm x.num)),tI 7 (0:Nat),oB 3 58 [.d (.i (n).frm),.d (.i (n).num),.d (.i (n).to),.d (.i (n).til),.d (.s (n).text)],oR 8 58 5 (aE (midW (fun x:bA=>cF n.frm n.num x.frm x.num) n (l.take 0)))]) [] [] (⟨0,rfl,aW6 _,rfl⟩) ?_
   repeat' apply ai
   all_goals first|exact qx|rfl|(simp[midW];done)|exact qz
 rintro n s ⟨i,rfl,hi,rfl⟩
 refine sq (sq (rT [0,3,5,6,7,12] (s4 (cd rfl (fun c12=> ?_) fun c12=> ?_))))
 · have hi2:i<l.length:=by simpa[aB] using c12
   have hg:=aR (l:=l) hi2
   refine sk (sq (bk (sq (sq (rD [0,3,5,6,7,33] (s3 (y4 (y2 (ai (fun h=>(by have h9:=hi2;rw[aWz,aR h9];exact⟨⟨by omega,by rw[aB];omega⟩,rfl⟩)) (ai rk (y1 (ai (fun h=>(by have h9:=hi2;rw[aWz,aR h9];exact⟨aW1 rfl,rfl⟩)) (ai rk (y2 (ai (fun h=>(by have h9:=hi2;rw[aWz,aR h9];exact⟨⟨by omega,by rw[aB];omega⟩,rfl⟩)) (ai rk (y1 (ai (fun h=>(by have h9:=hi2;rw[aWz,aR h9];exact⟨aW1 rfl,rfl⟩)) (ai rk (xc (fun h=>(rB _ _ _ _)) (ai rfl (ai rk ?_))))))))))))))))))))))
   refine ai pk (ai (by kernel_rfl) (cd rfl (fun c33=> ?_) fun c33=> ?_))
   · have h9:=c33
     rw[aWz,hg] at h9
     rw[aW4] at h9
     have hq: (l.take i).any (fun x:bA=>cF n.frm n.num x.frm x.num)=false∧cF n.frm n.num (l.getD i .zero).frm (l.getD i .zero).num=true:=⟨by simpa only[Bool.not_eq_true'] using h9.1,h9.2⟩
     have hm:=aF3 (q:=(fun x:bA=>cF n.frm n.num x.frm x.num)) (n:=n) (x:=l.getD i .zero) hq.1 hq.2
     rw[← eR hi2] at hm
     have ha: (l.take (i+1)).any (fun x:bA=>cF n.frm n.num x.frm x.num)=true:=by rw[eR (z:=bA.zero) hi2,ld,hq.1];exact hq.2
     refine sq (rT [0,3,5,7] (s2 (ai (by exact⟨by simp,aW1 rfl⟩) (ai (by exact⟨by first|trivial|rfl|(simp;done),by first|rfl|(simp;done),by first|(simp;done)|(intro r hr;rw[List.mem_singleton.1 hr];rfl),by(try simp only[aW0,aW3,aW2]);have hm:=ar (l:=l) (i:=i) (n:=n);show _*48≤_;omega⟩) (s1 (rT [0,3,5,6,7] (s1 (rT [0,3,5,6,7] (s3 (ai (by have h9:=hi2;rw[aWz,aR h9];exact⟨⟨by omega,by rw[aB];omega⟩,rfl⟩) (ai (by have h9:=hi2;rw[aWz,aR h9];exact⟨aW1 rfl,rfl⟩) (ai (by exact⟨by simp,aW1 rfl⟩) (ai (by exact⟨by first|trivial|rfl|(simp;done),by first|rfl|(simp;done),by first|(simp;done)|(intro r hr;rw[List.mem_singleton.1 hr];rfl),by(try simp only[aW0,aW3,aW2]);have hm:=ar (l:=l) (i:=i) (n:=n);show _*48≤_;omega⟩) (s1 (rT [0,3,5,6,7] (s3 (wq [] [] (⟨l.length - (i+1),by omega,i+1,rfl,by omega,rfl⟩) ?_)))))))))))))))))
     repeat' apply ai
     all_goals first|exact qx|exact congrArg D.i (by rw[aC (by omega)];omega)|(rw[ha];done)|exact congrArg D.b ha.symm|(rw[hm];simp[aE,aWz];done)|(rw[hm,aWz,hg];simp only[aE,List.map_append,List.map_cons,List.map_nil];rfl)|exact qz
   have h9:=c33
   rw[aWz,hg] at h9
   have hq: (l.take i).any (fun x:bA=>cF n.frm n.num x.frm x.num)=true∨cF n.frm n.num (l.getD i .zero).frm (l.getD i .zero).num=false:=by
    cases h: (l.take i).any (fun x:bA=>cF n.frm n.num x.frm x.num) with
    |true=>exact .inl rfl
    |false=>rw[h] at h9;exact .inr h9
   have hm:=aKl (q:=(fun x:bA=>cF n.frm n.num x.frm x.num)) (n:=n) (x:=l.getD i .zero) hq
   rw[← eR hi2] at hm
   have ha: (l.take (i+1)).any (fun x:bA=>cF n.frm n.num x.frm x.num)=(l.take i).any (fun x:bA=>cF n.frm n.num x.frm x.num):=by
    rw[eR (z:=bA.zero) hi2,ld]
    rcases hq with h|h
    · rw[h];rfl
    · show((l.take i).any (fun x:bA=>cF n.frm n.num x.frm x.num)||(cF n.frm n.num (l.getD i .zero).frm (l.getD i .zero).num))=_
      rw[h,Bool.or_false]
   refine sk (rT [0,3,5,6,7] (s3 (ai (by have h9:=hi2;rw[aWz,aR h9];exact⟨⟨by omega,by rw[aB];omega⟩,rfl⟩) (ai (by have h9:=hi2;rw[aWz,aR h9];exact⟨aW1 rfl,rfl⟩) (ai (by exact⟨by simp,aW1 rfl⟩) (ai (by exact⟨by first|trivial|rfl|(simp;done),by first|rfl|(simp;done),by first|(simp;done)|(intro r hr;rw[List.mem_singleton.1 hr];rfl),by(try simp only[aW0,aW3,aW2]);have hm:=ar (l:=l) (i:=i) (n:=n);show _*48≤_;omega⟩) (s1 (rT [0,3,5,6,7] (s3 (wq [] [] (⟨l.length - (i+1),by omega,i+1,rfl,by omega,rfl⟩) ?_))))))))))
   repeat' apply ai
   all_goals first|exact qx|exact congrArg D.i (by rw[aC (by omega)];omega)|(rw[ha];done)|exact congrArg D.b ha.symm|(rw[hm];simp[aE,aWz];done)|(rw[hm,aWz,hg];simp only[aE,List.map_append,List.map_cons,List.map_nil];rfl)|exact qz
 have hi3:i=l.length:=by simp[aB] at c12;omega
 subst hi3
 refine xt (sq (sq (rT [3,5,46] (s2 (cd rfl (fun c46=> ?_) fun c46=> ?_)))))
 · have he: (l.take l.length).any (fun x:bA=>cF n.frm n.num x.frm x.num)=false:=by simpa using c46
   refine rT [5] (s2 (ai (by exact⟨by simp,aW1 rfl⟩) (ai (by exact⟨by first|trivial|rfl|(simp;done),by first|rfl|(simp;done),by first|(simp;done)|(intro r hr;rw[List.mem_singleton.1 hr];rfl),by(try simp only[aW0,aW3,aW2]);have hm:=ar (l:=l) (i:=l.length) (n:=n);show _*48≤_;omega⟩) (s1 (sq (rT [4] (s2 (rt (eC _ [] [8] rfl (eW rfl rfl rfl ?_ (congrArg D.sl ?_) trivial) rfl rfl)))))))))
   · rfl
   rw[aXf] at he ⊢; rw[zM,lf,he];simp[aE,bA.row]
 have he: (l.take l.length).any (fun x:bA=>cF n.frm n.num x.frm x.num)=true:=by simpa using c46
 refine sk (sq (rT [4] (s2 (rt (eC _ [] [8] rfl (eW rfl rfl rfl ?_ (congrArg D.sl ?_) trivial) rfl rfl)))))
 · rfl
 rw[aXf] at he ⊢; rw[zM,lf,he];simp[aE,bA.row]
set_option maxHeartbeats 800000 in
theorem xO (l:List cB) (n:cB) (hl:l.length≤100000):Sp 188 2 [tD 0 (.sl (aO l)),tV 1 n.V] [tD 0 (.sl (aO (qN l n)))]:=by
 refine sb Tryz.func188 rfl (sq (rT [0,3] (s2 (sq (rT [0,3,5] (s1 (sq (bk (SW.loopW (n:=l.length) (fun m q=> ∃i:Nat,m=l.length - i∧i≤l.length∧(∀j,j<i→cF (l.getD j .zero).frm (l.getD j .zero).num n.frm n.num=true)∧q=[tD 0 (.sl (aO l)),tP 3 3,tI 5 (i:Nat),oB 3 112 [.d (.i (n).frm),.d (.i (n).num),.d (.i (n).til)]]) ?_ ?_)))))))))
 · exact wq (σ':=[tD 0 (.sl (aO l)),tP 3 3,tI 5 (0:Nat),oB 3 112 [.d (.i (n).frm),.d (.i (n).num),.d (.i (n).til)]]) [] [] (⟨0,rfl,aW6 _,fun j h=>absurd h (by omega),rfl⟩) qz
 rintro n s ⟨i,rfl,hi,hk,rfl⟩
 refine sq (sq (rD [0,3,5,26] (s5 (y2 (ai (fun h=>(by have h8:=h;simp[gb,aF] at h8;have h9:i<l.length:=(by omega);rw[aWz,bW h9];exact⟨⟨by omega,by rw[aF];omega⟩,rfl⟩)) (ai rk (y1 (ai (fun h=>(by have h8:=h;simp[gb,aF] at h8;have h9:i<l.length:=(by omega);rw[aWz,bW h9];exact⟨aW1 rfl,rfl⟩)) (ai rk (y2 (ai (fun h=>(by have h8:=h;simp[gb,aF] at h8;have h9:i<l.length:=(by omega);rw[aWz,bW h9];exact⟨⟨by omega,by rw[aF];omega⟩,rfl⟩)) (ai rk (y1 (ai (fun h=>(by have h8:=h;simp[gb,aF] at h8;have h9:i<l.length:=(by omega);rw[aWz,bW h9];exact⟨aW1 rfl,rfl⟩)) (ai rk (y4 (xc (fun h=>(sT _ _ _ _)) (ai rfl (ai rk ?_)))))))))))))))))))
 refine ai pk (ai (by kernel_rfl) (cd rfl (fun c26=> ?_) fun c26=> ?_))
 · have h9:=c26
   simp only[aW4,decide_eq_true_eq,aF] at h9
   have hi2:i<l.length:=by omega
   have hb:cF (l.getD i .zero).frm (l.getD i .zero).num n.frm n.num=true:=by
    have h10:=h9.2
    rw[aWz,bW hi2] at h10
    exact h10
   refine sk (bk (rT [0,3,5] (s3 (wq [] [] (⟨l.length - (i+1),by omega,i+1,rfl,by omega,fun j h=>by by_cases e:j=i;exact e▸hb;exact hk j (by omega),rfl⟩) ?_))))
   repeat' apply ai
   all_goals first|exact qx|exact congrArg D.i (aC (by omega))|exact qz
 have hend:i=l.length∨cF (l.getD i .zero).frm (l.getD i .zero).num n.frm n.num=false:=by
  by_cases h:i<l.length
  · right
    have h9:=c26
    rw[decide_eq_true (show((i:Nat):Int)< ((aO l).length:Int) by rw[aF];omega),Bool.true_and,aWz,bW h] at h9
    exact h9
  · left;omega
 have hins:qN l n=_:=aKk (z:=cB.zero) (p:=fun x=>cF x.frm x.num n.frm n.num) (n:=n) hi hk hend
 refine xt (sq (rD [4] (ai (by simp) (s2 (ai (by exact⟨by rw[aF];exact⟨by first|(simp;done)|(simp;omega),by first|(simp;done)|(simp;omega),by first|(simp;done)|(simp;omega)⟩,iL _⟩) (ai (by exact⟨by first|trivial|rfl|(simp;done),by first|rfl|(simp[aF];done),by first|exact zN l _ _|(simp;done),by(try simp only[aW0,aW3,aW2,aW5,aW9,aF,jR,jS,jT,jU]);show _*24≤_;omega⟩) (s1 (ai (by exact⟨by simp,aW1 rfl⟩) (ai (by exact⟨by first|trivial|rfl|(simp;done),by first|rfl|(simp[aF];done),by first|exact zN l _ _|(simp;done),by(try simp only[aW0,aW3,aW2,aW5,aW9,aF,jR,jS,jT,jU]);show _*24≤_;omega⟩) (s2 (ai (by exact⟨by rw[aF];exact⟨by first|(simp;done)|(simp;omega),by first|(simp;done)|(simp;omega),by first|(simp;done)|(simp;omega)⟩,iL _⟩) (ai (by exact⟨by first|trivial|rfl|(simp;done),by first|rfl|(simp[aF];done),by first|exact zN l _ _|(simp;done),by(try simp only[aW0,aW3,aW2,aW5,aW9,aF,jR,jS,jT,jU]);show _*24≤_;omega⟩) (s1 (ai (by kernel_rfl) (rt (eC _ [] [29] rfl (eW rfl rfl rfl ?_ (congrArg D.sl ?_) trivial) rfl rfl))))))))))))))))
 · rfl
 rw[hins,vO,zO];simp[aO,List.map_take,List.map_drop,cB.row]
theorem au {l:List cB} {i:Nat} {n:cB}: (aO (midW (fun x:cB=>cF n.frm n.num x.frm x.num) n (l.take i))).length≤l.length+1:=by
 rw[aF,midW]
 split
 · rw[fT,aW5];omega
 rw[aW5];omega
set_option maxHeartbeats 800000 in
theorem rG (l:List cB) (n:cB) (hl:l.length≤100000):Sp 197 2 [tD 0 (.sl (aO l)),tV 1 n.V] [tD 0 (.sl (aO (oE l n)))]:=by
 refine sb Tryz.func197 rfl (sq (rT [0,3] (s2 (sq (rT [0,3,5] (ai (by simp) (s1 (sq (rT [0,3,5,6] (s1 (sq (sq (rT [0,3,5,6,7] (s1 (bk (SW.loopW (n:=l.length) (fun m q=> ∃i:Nat,m=l.length - i∧i≤l.length∧q=[tD 0 (.sl (aO l)),tP 3 3,tO 5 8 (aO (midW (fun x:cB=>cF n.frm n.num x.frm x.num) n (l.take i))).length,tB 6 ((l.take i).any (fun x:cB=>cF n.frm n.num x.frm x.num)),tI 7 (i:Nat),oB 3 112 [.d (.i (n).frm),.d (.i (n).num),.d (.i (n).til)],oR 8 112 3 (aO (midW (fun x:cB=>cF n.frm n.num x.frm x.num) n (l.take i)))]) ?_ ?_))))))))))))))))
 · refine wq (σ':=[tD 0 (.sl (aO l)),tP 3 3,tO 5 8 (aO (midW (fun x:cB=>cF n.frm n.num x.frm x.num) n (l.take 0))).length,tB 6 ((l.take 0).any (fun x:cB=>cF n.frm n.num x.frm x.num)),tI 7 (0:Nat),oB 3 112 [.d (.i (n).frm),.d (.i (n).num),.d (.i (n).til)],oR 8 112 3 (aO (midW (fun x:cB=>cF n.frm n.num x.frm x.num) n (l.take 0)))]) [] [] (⟨0,rfl,aW6 _,rfl⟩) ?_
   repeat' apply ai
   all_goals first|exact qx|rfl|(simp[midW];done)|exact qz
 rintro n s ⟨i,rfl,hi,rfl⟩
 refine sq (sq (rT [0,3,5,6,7,12] (s4 (cd rfl (fun c12=> ?_) fun c12=> ?_))))
 · have hi2:i<l.length:=by simpa[aF] using c12
   have hg:=bW (l:=l) hi2
   refine sk (sq (bk (sq (sq (rD [0,3,5,6,7,33] (s3 (y4 (y2 (ai (fun h=>(by have h9:=hi2;rw[aWz,bW h9];exact⟨⟨by omega,by rw[aF];omega⟩,rfl⟩)) (ai rk (y1 (ai (fun h=>(by have h9:=hi2;rw[aWz,bW h9];exact⟨aW1 rfl,rfl⟩)) (ai rk (y2 (ai (fun h=>(by have h9:=hi2;rw[aWz,bW h9];exact⟨⟨by omega,by rw[aF];omega⟩,rfl⟩)) (ai rk (y1 (ai (fun h=>(by have h9:=hi2;rw[aWz,bW h9];exact⟨aW1 rfl,rfl⟩)) (ai rk (xc (fun h=>(rB _ _ _ _)) (ai rfl (ai rk ?_))))))))))))))))))))))
   refine ai pk (ai (by kernel_rfl) (cd rfl (fun c33=> ?_) fun c33=> ?_))
   · have h9:=c33
     rw[aWz,hg] at h9
     rw[aW4] at h9
     have hq: (l.take i).any (fun x:cB=>cF n.frm n.num x.frm x.num)=false∧cF n.frm n.num (l.getD i .zero).frm (l.getD i .zero).num=true:=⟨by simpa only[Bool.not_eq_true'] using h9.1,h9.2⟩
     have hm:=aF3 (q:=(fun x:cB=>cF n.frm n.num x.frm x.num)) (n:=n) (x:=l.getD i .zero) hq.1 hq.2
     rw[← eR hi2] at hm
     have ha: (l.take (i+1)).any (fun x:cB=>cF n.frm n.num x.frm x.num)=true:=by rw[eR (z:=cB.zero) hi2,ld,hq.1];exact hq.2
     refine sq (rT [0,3,5,7] (s2 (ai (by exact⟨by simp,aW1 rfl⟩) (ai (by exact⟨by first|trivial|rfl|(simp;done),by first|rfl|(simp;done),by first|(simp;done)|(intro r hr;rw[List.mem_singleton.1 hr];rfl),by(try simp only[aW0,aW3,aW2]);have hm:=au (l:=l) (i:=i) (n:=n);show _*24≤_;omega⟩) (s1 (rT [0,3,5,6,7] (s1 (rT [0,3,5,6,7] (s3 (ai (by have h9:=hi2;rw[aWz,bW h9];exact⟨⟨by omega,by rw[aF];omega⟩,rfl⟩) (ai (by have h9:=hi2;rw[aWz,bW h9];exact⟨aW1 rfl,rfl⟩) (ai (by exact⟨by simp,aW1 rfl⟩) (ai (by exact⟨by first|trivial|rfl|(simp;done),by first|rfl|(simp;done),by first|(simp;done)|(intro r hr;rw[List.mem_singleton.1 hr];rfl),by(try simp only[aW0,aW3,aW2]);have hm:=au (l:=l) (i:=i) (n:=n);show _*24≤_;omega⟩) (s1 (rT [0,3,5,6,7] (s3 (wq [] [] (⟨l.length - (i+1),by omega,i+1,rfl,by omega,rfl⟩) ?_)))))))))))))))))
     repeat' apply ai
     all_goals first|exact qx|exact congrArg D.i (by rw[aC (by omega)];omega)|(rw[ha];done)|exact congrArg D.b ha.symm|(rw[hm];simp[aO,aWz];done)|(rw[hm,aWz,hg];simp only[aO,List.map_append,List.map_cons,List.map_nil];rfl)|exact qz
   have h9:=c33
   rw[aWz,hg] at h9
   have hq: (l.take i).any (fun x:cB=>cF n.frm n.num x.frm x.num)=true∨cF n.frm n.num (l.getD i .zero).frm (l.getD i .zero).num=false:=by
    cases h: (l.take i).any (fun x:cB=>cF n.frm n.num x.frm x.num) with
    |true=>exact .inl rfl
    |false=>rw[h] at h9;exact .inr h9
   have hm:=aKl (q:=(fun x:cB=>cF n.frm n.num x.frm x.num)) (n:=n) (x:=l.getD i .zero) hq
   rw[← eR hi2] at hm
   have ha: (l.take (i+1)).any (fun x:cB=>cF n.frm n.num x.frm x.num)=(l.take i).any (fun x:cB=>cF n.frm n.num x.frm x.num):=by
    rw[eR (z:=cB.zero) hi2,ld]
    rcases hq with h|h
    · rw[h];rfl
    · show((l.take i).any (fun x:cB=>cF n.frm n.num x.frm x.num)||(cF n.frm n.num (l.getD i .zero).frm (l.getD i .zero).num))=_
      rw[h,Bool.or_false]
   refine sk (rT [0,3,5,6,7] (s3 (ai (by have h9:=hi2;rw[aWz,bW h9];exact⟨⟨by omega,by rw[aF];omega⟩,rfl⟩) (ai (by have h9:=hi2;rw[aWz,bW h9];exact⟨aW1 rfl,rfl⟩) (ai (by exact⟨by simp,aW1 rfl⟩) (ai (by exact⟨by first|trivial|rfl|(simp;done),by first|rfl|(simp;done),by first|(simp;done)|(intro r hr;rw[List.mem_singleton.1 hr];rfl),by(try simp only[aW0,aW3,aW2]);have hm:=au (l:=l) (i:=i) (n:=n);show _*24≤_;omega⟩) (s1 (rT [0,3,5,6,7] (s3 (wq [] [] (⟨l.length - (i+1),by omega,i+1,rfl,by omega,rfl⟩) ?_))))))))))
   repeat' apply ai
   all_goals first|exact qx|exact congrArg D.i (by rw[aC (by omega)];omega)|(rw[ha];done)|exact congrArg D.b ha.symm|(rw[hm];simp[aO,aWz];done)|(rw[hm,aWz,hg];simp only[aO,List.map_append,List.map_cons,List.map_nil];rfl)|exact qz
 have hi3:i=l.length:=by simp[aF] at c12;omega
 subst hi3
 refine xt (sq (sq (rT [3,5,46] (s2 (cd rfl (fun c46=> ?_) fun c46=> ?_)))))
 · have he: (l.take l.length).any (fun x:cB=>cF n.frm n.num x.frm x.num)=false:=by simpa using c46
   refine rT [5] (s2 (ai (by exact⟨by simp,aW1 rfl⟩) (ai (by exact⟨by first|trivial|rfl|(simp;done),by first|rfl|(simp;done),by first|(simp;done)|(intro r hr;rw[List.mem_singleton.1 hr];rfl),by(try simp only[aW0,aW3,aW2]);have hm:=au (l:=l) (i:=l.length) (n:=n);show _*24≤_;omega⟩) (s1 (sq (rT [4] (s2 (rt (eC _ [] [8] rfl (eW rfl rfl rfl ?_ (congrArg D.sl ?_) trivial) rfl rfl)))))))))
   · rfl
   rw[aXf] at he ⊢; rw[vN,lf,he];simp[aO,cB.row]
 have he: (l.take l.length).any (fun x:cB=>cF n.frm n.num x.frm x.num)=true:=by simpa using c46
 refine sk (sq (rT [4] (s2 (rt (eC _ [] [8] rfl (eW rfl rfl rfl ?_ (congrArg D.sl ?_) trivial) rfl rfl)))))
 · rfl
 rw[aXf] at he ⊢; rw[vN,lf,he];simp[aO,cB.row]
set_option maxHeartbeats 1600000 in
theorem ym (k:bB) (t:Int) (hb:k.held.length≤100000∧k.marks.length≤100000∧k.inbox.length≤100000):Sp 182 2 [tV 0 k.V,tI 1 t] [tV 0 ((kU k t).V)]:=by
 refine sb Tryz.func182 rfl (sq (rT [1,2,4] (s2 (sq (rT [1,2,4,5] (s9 (s1 (sq (sq (rT [1,2,4,5,19,20,21] (s4 (bk (SW.nilBox 5 100 3 58 5 rfl rfl rfl (SW.nilBox 5 101 4 112 3 rfl rfl rfl (SW.loopW (n:=k.held.length) (fun m q=> ∃i:Nat,m=k.held.length - i∧i≤k.held.length∧q=[tI 1 t,tP 2 2,tP 4 4,tP 5 5,tD 19 (.sl (aE k.held)),tI 20 (k.held.length:Nat),tI 21 (i:Nat),oB 2 32 [.d (.i k.id),.d (.i k.time),.d (.i k.next),.d (.sl (aE k.held)),.d (.sl (aO k.marks)),.d (.sl (aE k.inbox))],oB 4 32 [.d (.i 0),.d (.i 0),.d (.i 0),.nil,.nil,.nil],oB 5 32 [.d (.i k.id),.d (.i t),.d (.i k.next),.own 100 (aE ((k.held.take i).filter (fun n=>decide (t<n.til)))).length,.own 101 (aO []).length,.d (.sl (aE k.inbox))],oR 100 58 5 (aE ((k.held.take i).filter (fun n=>decide (t<n.til)))),oR 101 112 3 (aO [])]) ?_ ?_)))))))))))))))
 · refine wq (σ':=[tI 1 t,tP 2 2,tP 4 4,tP 5 5,tD 19 (.sl (aE k.held)),tI 20 (k.held.length:Nat),tI 21 (0:Nat),oB 2 32 [.d (.i k.id),.d (.i k.time),.d (.i k.next),.d (.sl (aE k.held)),.d (.sl (aO k.marks)),.d (.sl (aE k.inbox))],oB 4 32 [.d (.i 0),.d (.i 0),.d (.i 0),.nil,.nil,.nil],oB 5 32 [.d (.i k.id),.d (.i t),.d (.i k.next),.own 100 (aE ((k.held.take 0).filter (fun n=>decide (t<n.til)))).length,.own 101 (aO []).length,.d (.sl (aE k.inbox))],oR 100 58 5 (aE ((k.held.take 0).filter (fun n=>decide (t<n.til)))),oR 101 112 3 (aO [])]) [] [] (⟨0,rfl,aW6 _,rfl⟩) ?_
   repeat' apply ai
   all_goals first|exact qx|rfl|(rw[aB];done)|(rw[aF];done)|exact qz
 rintro n s ⟨i,rfl,hi,rfl⟩
 refine sq (rT [1,2,4,5,19,20,21,22] (s1 (sq (cd rfl (fun c22=> ?_) fun c22=> ?_))))
 · have hi2:i<k.held.length:=by simpa using c22
   have hg:=aR (l:=k.held) hi2
   refine sk (sq (bk (sq (rT [1,2,4,5,7,19,20,21] (ai (by rw[aWz,hg];exact⟨⟨by omega,by rw[aB];omega⟩,rfl⟩) (ai (by rw[aWz,hg];exact⟨aW1 rfl,rfl⟩) (s2 (sq (wa [tI 1 t,tP 2 2,tP 4 4,tP 5 5,tD 19 (.sl (aE k.held)),tI 20 (k.held.length:Nat),tI 21 (i:Nat),oB 2 32 [.d (.i k.id),.d (.i k.time),.d (.i k.next),.d (.sl (aE k.held)),.d (.sl (aO k.marks)),.d (.sl (aE k.inbox))],oB 4 32 [.d (.i 0),.d (.i 0),.d (.i 0),.nil,.nil,.nil],oB 5 32 [.d (.i k.id),.d (.i t),.d (.i k.next),.own 100 (aE ((k.held.take i).filter (fun n=>decide (t<n.til)))).length,.own 101 (aO []).length,.d (.sl (aE k.inbox))],oR 100 58 5 (aE ((k.held.take i).filter (fun n=>decide (t<n.til)))),oR 101 112 3 (aO []),tP 7 7,oB 7 58 [.d (.i (k.held.getD i .zero).frm),.d (.i (k.held.getD i .zero).num),.d (.i (k.held.getD i .zero).to),.d (.i (k.held.getD i .zero).til),.d (.s (k.held.getD i .zero).text)]] [] [] ?_ ?_)))))))))
   · repeat' apply ai
     all_goals first|exact qx|(rw[aWz,hg];rfl)|exact qz
   refine rT [1,2,4,5,7,19,20,21,28] (s4 (cd rfl (fun c28=> ?_) fun c28=> ?_))
   · have hp: (fun n:bA=>decide (t<n.til)) (k.held.getD i .zero)=true:=c28
     have hf:=zL (z:=bA.zero) (p:=fun n=>decide (t<n.til)) hi2 hp
     refine rT [1,2,4,5,19,20,21] (s3 (ai (by exact⟨by simp,aW1 rfl⟩) (ai (by exact⟨by first|trivial|rfl|(simp;done),by first|rfl|(simp;done),by first|(simp;done)|(intro r hr;rw[List.mem_singleton.1 hr];rfl),by(have hm:=(List.length_filter_le (fun n=>decide (t<n.til)) (k.held.take i)));rw[aW5] at hm;simp only[aB,aW3,aW2];show _*48≤_;omega⟩) (s2 (rT [1,2,4,5,19,20,21] (s2 (wq [] [] (⟨k.held.length - (i+1),by omega,i+1,rfl,by omega,rfl⟩) ?_)))))))
     repeat' apply ai
     all_goals first|exact qx|exact congrArg D.i (by rw[aC (by omega)];omega)|(rw[hf];simp[aE,aO,bA.row,cB.row];done)|(rw[hf];done)|exact qz
   have hp: (fun n:bA=>decide (t<n.til)) (k.held.getD i .zero)=false:=c28
   have hf:=fb (z:=bA.zero) (p:=fun n=>decide (t<n.til)) hi2 hp
   refine sk (rT [1,2,4,5,19,20,21] (s2 (wq [] [] (⟨k.held.length - (i+1),by omega,i+1,rfl,by omega,rfl⟩) ?_)))
   repeat' apply ai
   all_goals first|exact qx|exact congrArg D.i (by rw[aC (by omega)];omega)|(rw[hf];simp[aE,aO,bA.row,cB.row];done)|(rw[hf];done)|exact qz
 have hi3:i=k.held.length:=by simp at c22;omega
 subst hi3
 clear hi
 refine xt (sq (sq (rT [1,4,5,37,38,39] (s4 (bk (SW.loopW (n:=k.marks.length) (fun m q=> ∃i:Nat,m=k.marks.length - i∧i≤k.marks.length∧q=[tI 1 t,tP 4 4,tP 5 5,tD 37 (.sl (aO k.marks)),tI 38 (k.marks.length:Nat),tI 39 (i:Nat),oB 4 32 [.d (.i 0),.d (.i 0),.d (.i 0),.nil,.nil,.nil],oB 5 32 [.d (.i k.id),.d (.i t),.d (.i k.next),.own 100 (aE ((k.held.take k.held.length).filter (fun n=>decide (t<n.til)))).length,.own 101 (aO ((k.marks.take i).filter (fun n=>decide (t<n.til)))).length,.d (.sl (aE k.inbox))],oR 100 58 5 (aE ((k.held.take k.held.length).filter (fun n=>decide (t<n.til)))),oR 101 112 3 (aO ((k.marks.take i).filter (fun n=>decide (t<n.til))))]) ?_ ?_))))))
 · refine wq (σ':=[tI 1 t,tP 4 4,tP 5 5,tD 37 (.sl (aO k.marks)),tI 38 (k.marks.length:Nat),tI 39 (0:Nat),oB 4 32 [.d (.i 0),.d (.i 0),.d (.i 0),.nil,.nil,.nil],oB 5 32 [.d (.i k.id),.d (.i t),.d (.i k.next),.own 100 (aE ((k.held.take k.held.length).filter (fun n=>decide (t<n.til)))).length,.own 101 (aO ((k.marks.take 0).filter (fun n=>decide (t<n.til)))).length,.d (.sl (aE k.inbox))],oR 100 58 5 (aE ((k.held.take k.held.length).filter (fun n=>decide (t<n.til)))),oR 101 112 3 (aO ((k.marks.take 0).filter (fun n=>decide (t<n.til))))]) [] [] (⟨0,rfl,aW6 _,rfl⟩) ?_
   repeat' apply ai
   all_goals first|exact qx|rfl|(rw[aB];done)|(rw[aF];done)|exact qz
 rintro n s ⟨i,rfl,hi,rfl⟩
 refine sq (rT [1,4,5,37,38,39,40] (s1 (sq (cd rfl (fun c40=> ?_) fun c40=> ?_))))
 · have hi2:i<k.marks.length:=by simpa using c40
   have hg:=bW (l:=k.marks) hi2
   refine sk (sq (bk (sq (rT [1,4,5,9,37,38,39] (ai (by rw[aWz,hg];exact⟨⟨by omega,by rw[aF];omega⟩,rfl⟩) (ai (by rw[aWz,hg];exact⟨aW1 rfl,rfl⟩) (s2 (sq (wa [tI 1 t,tP 4 4,tP 5 5,tD 37 (.sl (aO k.marks)),tI 38 (k.marks.length:Nat),tI 39 (i:Nat),oB 4 32 [.d (.i 0),.d (.i 0),.d (.i 0),.nil,.nil,.nil],oB 5 32 [.d (.i k.id),.d (.i t),.d (.i k.next),.own 100 (aE ((k.held.take k.held.length).filter (fun n=>decide (t<n.til)))).length,.own 101 (aO ((k.marks.take i).filter (fun n=>decide (t<n.til)))).length,.d (.sl (aE k.inbox))],oR 100 58 5 (aE ((k.held.take k.held.length).filter (fun n=>decide (t<n.til)))),oR 101 112 3 (aO ((k.marks.take i).filter (fun n=>decide (t<n.til)))),tP 9 9,oB 9 112 [.d (.i (k.marks.getD i .zero).frm),.d (.i (k.marks.getD i .zero).num),.d (.i (k.marks.getD i .zero).til)]] [] [] ?_ ?_)))))))))
   · repeat' apply ai
     all_goals first|exact qx|(rw[aWz,hg];rfl)|exact qz
   refine rT [1,4,5,9,37,38,39,46] (s4 (cd rfl (fun c46=> ?_) fun c46=> ?_))
   · have hp: (fun n:cB=>decide (t<n.til)) (k.marks.getD i .zero)=true:=c46
     have hf:=zL (z:=cB.zero) (p:=fun n=>decide (t<n.til)) hi2 hp
     refine rT [1,4,5,37,38,39] (s3 (ai (by exact⟨by simp,aW1 rfl⟩) (ai (by exact⟨by first|trivial|rfl|(simp;done),by first|rfl|(simp;done),by first|(simp;done)|(intro r hr;rw[List.mem_singleton.1 hr];rfl),by(have hm:=(List.length_filter_le (fun n=>decide (t<n.til)) (k.marks.take i)));rw[aW5] at hm;simp only[aF,aW3,aW2];show _*24≤_;omega⟩) (s2 (rT [1,4,5,37,38,39] (s2 (wq [] [] (⟨k.marks.length - (i+1),by omega,i+1,rfl,by omega,rfl⟩) ?_)))))))
     repeat' apply ai
     all_goals first|exact qx|exact congrArg D.i (by rw[aC (by omega)];omega)|(rw[hf];simp[aE,aO,bA.row,cB.row];done)|(rw[hf];done)|exact qz
   have hp: (fun n:cB=>decide (t<n.til)) (k.marks.getD i .zero)=false:=c46
   have hf:=fb (z:=cB.zero) (p:=fun n=>decide (t<n.til)) hi2 hp
   refine sk (rT [1,4,5,37,38,39] (s2 (wq [] [] (⟨k.marks.length - (i+1),by omega,i+1,rfl,by omega,rfl⟩) ?_)))
   repeat' apply ai
   all_goals first|exact qx|exact congrArg D.i (by rw[aC (by omega)];omega)|(rw[hf];simp[aE,aO,bA.row,cB.row];done)|(rw[hf];done)|exact qz
 have hi3:i=k.marks.length:=by simp at c40;omega
 subst hi3
 refine xt (sq (rT [4] (s2 (rt (rq [] [100,101] rfl ?_)))))
 repeat' apply ai
 all_goals try exact qx
 all_goals(first|with_reducible rfl|(simp[kU];done))
set_option maxHeartbeats 1600000 in
theorem yn (k:bB) (t:Int) (hb:k.held.length≤100000∧k.marks.length≤100000∧k.inbox.length≤100000):Sp 190 2 [tV 0 k.V,tI 1 t] [tV 0 ((kU k t).V)]:=by
 refine sb Tryz.func190 rfl (sq (rT [1,2,4] (s2 (sq (rT [1,2,4,5] (ai (by simp) (s1 (sq (sq (rT [1,2,4,5,6] (s1 (bk (SW.loopW (n:=k.held.length) (fun m q=> ∃i:Nat,m=k.held.length - i∧i≤k.held.length∧q=[tI 1 t,tP 2 2,tP 4 4,tO 5 9 (aE ((k.held.take i).filter (fun n=>decide (t<n.til)))).length,tI 6 (i:Nat),oB 2 32 [.d (.i k.id),.d (.i k.time),.d (.i k.next),.d (.sl (aE k.held)),.d (.sl (aO k.marks)),.d (.sl (aE k.inbox))],oB 4 32 [.d (.i 0),.d (.i 0),.d (.i 0),.nil,.nil,.nil],oR 9 58 5 (aE ((k.held.take i).filter (fun n=>decide (t<n.til))))]) ?_ ?_)))))))))))))
 · refine wq (σ':=[tI 1 t,tP 2 2,tP 4 4,tO 5 9 (aE ((k.held.take 0).filter (fun n=>decide (t<n.til)))).length,tI 6 (0:Nat),oB 2 32 [.d (.i k.id),.d (.i k.time),.d (.i k.next),.d (.sl (aE k.held)),.d (.sl (aO k.marks)),.d (.sl (aE k.inbox))],oB 4 32 [.d (.i 0),.d (.i 0),.d (.i 0),.nil,.nil,.nil],oR 9 58 5 (aE ((k.held.take 0).filter (fun n=>decide (t<n.til))))]) [] [] (⟨0,rfl,aW6 _,rfl⟩) ?_
   repeat' apply ai
   all_goals first|exact qx|rfl|(rw[aB];done)|(rw[aF];done)|exact qz
 rintro n s ⟨i,rfl,hi,rfl⟩
 refine sq (sq (rT [1,2,4,5,6,14] (s5 (cd rfl (fun c14=> ?_) fun c14=> ?_))))
 · have hi2:i<k.held.length:=by simpa[aB] using c14
   have hg:=aR (l:=k.held) hi2
   refine sk (sq (bk (sq (rT [1,2,4,5,6,24] (s3 (ai (by rw[aWz,hg];exact⟨⟨by omega,by rw[aB];omega⟩,rfl⟩) (s1 (ai (by rw[aWz,hg];exact⟨aW1 rfl,rfl⟩) (s2 (cd rfl (fun c24=> ?_) fun c24=> ?_))))))))))
   · rw[aWz,hg] at c24
     have hp: (fun n:bA=>decide (t<n.til)) (k.held.getD i .zero)=true:=c24
     have hf:=zL (z:=bA.zero) (p:=fun n=>decide (t<n.til)) hi2 hp
     refine rT [1,2,4,5,6] (s4 (ai (by rw[aWz,hg];exact⟨⟨by omega,by rw[aB];omega⟩,rfl⟩) (ai (by rw[aWz,hg];exact⟨aW1 rfl,rfl⟩) (ai (by exact⟨by simp,aW1 rfl⟩) (ai (by exact⟨by first|trivial|rfl|(simp;done),by first|rfl|(simp;done),by first|(simp;done)|(intro r hr;rw[List.mem_singleton.1 hr];rfl),by(have hm:=(List.length_filter_le (fun n=>decide (t<n.til)) (k.held.take i)));rw[aW5] at hm;simp only[aB,aW3,aW2];show _*48≤_;omega⟩) (s1 (rT [1,2,4,5,6] (s3 (wq [] [] (⟨k.held.length - (i+1),by omega,i+1,rfl,by omega,rfl⟩) ?_)))))))))
     repeat' apply ai
     all_goals first|exact qx|exact congrArg D.i (by rw[aC (by omega)];omega)|(rw[hf,aWz,hg];exact gi _ _)|(rw[hf];simp[aE,aO];done)|(rw[hf];done)|exact qz
   rw[aWz,hg] at c24
   have hp: (fun n:bA=>decide (t<n.til)) (k.held.getD i .zero)=false:=c24
   have hf:=fb (z:=bA.zero) (p:=fun n=>decide (t<n.til)) hi2 hp
   refine sk (rT [1,2,4,5,6] (s3 (wq [] [] (⟨k.held.length - (i+1),by omega,i+1,rfl,by omega,rfl⟩) ?_)))
   repeat' apply ai
   all_goals first|exact qx|exact congrArg D.i (by rw[aC (by omega)];omega)|(rw[hf,aWz,hg];exact gi _ _)|(rw[hf];simp[aE,aO];done)|(rw[hf];done)|exact qz
 have hi3:i=k.held.length:=by simp[aB] at c14;omega
 subst hi3
 clear hi
 refine xt (sq (rT [1,2,4,5,7] (ai (by simp) (s1 (sq (sq (rT [1,2,4,5,7,8] (s1 (bk (SW.loopW (n:=k.marks.length) (fun m q=> ∃i:Nat,m=k.marks.length - i∧i≤k.marks.length∧q=[tI 1 t,tP 2 2,tP 4 4,tO 5 9 (aE ((k.held.take k.held.length).filter (fun n=>decide (t<n.til)))).length,tO 7 33 (aO ((k.marks.take i).filter (fun n=>decide (t<n.til)))).length,tI 8 (i:Nat),oB 2 32 [.d (.i k.id),.d (.i k.time),.d (.i k.next),.d (.sl (aE k.held)),.d (.sl (aO k.marks)),.d (.sl (aE k.inbox))],oB 4 32 [.d (.i 0),.d (.i 0),.d (.i 0),.nil,.nil,.nil],oR 9 58 5 (aE ((k.held.take k.held.length).filter (fun n=>decide (t<n.til)))),oR 33 112 3 (aO ((k.marks.take i).filter (fun n=>decide (t<n.til))))]) ?_ ?_))))))))))
 · refine wq (σ':=[tI 1 t,tP 2 2,tP 4 4,tO 5 9 (aE ((k.held.take k.held.length).filter (fun n=>decide (t<n.til)))).length,tO 7 33 (aO ((k.marks.take 0).filter (fun n=>decide (t<n.til)))).length,tI 8 (0:Nat),oB 2 32 [.d (.i k.id),.d (.i k.time),.d (.i k.next),.d (.sl (aE k.held)),.d (.sl (aO k.marks)),.d (.sl (aE k.inbox))],oB 4 32 [.d (.i 0),.d (.i 0),.d (.i 0),.nil,.nil,.nil],oR 9 58 5 (aE ((k.held.take k.held.length).filter (fun n=>decide (t<n.til)))),oR 33 112 3 (aO ((k.marks.take 0).filter (fun n=>decide (t<n.til))))]) [] [] (⟨0,rfl,aW6 _,rfl⟩) ?_
   repeat' apply ai
   all_goals first|exact qx|rfl|(rw[aB];done)|(rw[aF];done)|exact qz
 rintro n s ⟨i,rfl,hi,rfl⟩
 refine sq (sq (rT [1,2,4,5,7,8,38] (s5 (cd rfl (fun c38=> ?_) fun c38=> ?_))))
 · have hi2:i<k.marks.length:=by simpa[aF] using c38
   have hg:=bW (l:=k.marks) hi2
   refine sk (sq (bk (sq (rT [1,2,4,5,7,8,48] (s3 (ai (by rw[aWz,hg];exact⟨⟨by omega,by rw[aF];omega⟩,rfl⟩) (s1 (ai (by rw[aWz,hg];exact⟨aW1 rfl,rfl⟩) (s2 (cd rfl (fun c48=> ?_) fun c48=> ?_))))))))))
   · rw[aWz,hg] at c48
     have hp: (fun n:cB=>decide (t<n.til)) (k.marks.getD i .zero)=true:=c48
     have hf:=zL (z:=cB.zero) (p:=fun n=>decide (t<n.til)) hi2 hp
     refine rT [1,2,4,5,7,8] (s4 (ai (by rw[aWz,hg];exact⟨⟨by omega,by rw[aF];omega⟩,rfl⟩) (ai (by rw[aWz,hg];exact⟨aW1 rfl,rfl⟩) (ai (by exact⟨by simp,aW1 rfl⟩) (ai (by exact⟨by first|trivial|rfl|(simp;done),by first|rfl|(simp;done),by first|(simp;done)|(intro r hr;rw[List.mem_singleton.1 hr];rfl),by(have hm:=(List.length_filter_le (fun n=>decide (t<n.til)) (k.marks.take i)));rw[aW5] at hm;simp only[aF,aW3,aW2];show _*24≤_;omega⟩) (s1 (rT [1,2,4,5,7,8] (s3 (wq [] [] (⟨k.marks.length - (i+1),by omega,i+1,rfl,by omega,rfl⟩) ?_)))))))))
     repeat' apply ai
     all_goals first|exact qx|exact congrArg D.i (by rw[aC (by omega)];omega)|(rw[hf,aWz,hg];exact gj _ _)|(rw[hf];simp[aE,aO];done)|(rw[hf];done)|exact qz
   rw[aWz,hg] at c48
   have hp: (fun n:cB=>decide (t<n.til)) (k.marks.getD i .zero)=false:=c48
   have hf:=fb (z:=cB.zero) (p:=fun n=>decide (t<n.til)) hi2 hp
   refine sk (rT [1,2,4,5,7,8] (s3 (wq [] [] (⟨k.marks.length - (i+1),by omega,i+1,rfl,by omega,rfl⟩) ?_)))
   repeat' apply ai
   all_goals first|exact qx|exact congrArg D.i (by rw[aC (by omega)];omega)|(rw[hf,aWz,hg];exact gj _ _)|(rw[hf];simp[aE,aO];done)|(rw[hf];done)|exact qz
 have hi3:i=k.marks.length:=by simp[aF] at c38;omega
 subst hi3
 refine xt (sq (rT [2,4,5,7] (s3 (sq (rT [2,4,7] (s3 (sq (rT [2,4] (s3 (sq (rT [4] (s2 (rt (rq [] [9,33] rfl ?_))))))))))))))
 repeat' apply ai
 all_goals try exact qx
 all_goals(first|with_reducible rfl|(simp[kU];done))
end Go.Proofs.YthbgjfegalcenaaGreatDoor
