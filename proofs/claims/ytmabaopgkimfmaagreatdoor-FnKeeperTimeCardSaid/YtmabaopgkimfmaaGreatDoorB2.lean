/- Plain functions, and contracts of the functions that the law reaches. -/
import Derived.Deep.Slices
import Derived.WideShapes
import GoSem.ClaimJoined
import Derived.Shelf.Utf8.RuneCount
import Derived.Shelf.Strconv.Itoa0
import Derived.Shelf.Strconv.Itoa1
import Derived.Shelf.LaysM
import Derived.Shelf.Strconv.Itoa2
import Derived.Shelf.Strconv.Itoa3
import Derived.Shelf.Strings.Search1
import Derived.Shelf.Strings.Search2
import Derived.Shelf.Strings.Search3
import Derived.Shelf.Strings.Cut
import Derived.Shelf.Strings.Count
import Derived.Shelf.Strings.Split
import Derived.Test.YtmabaopgkimfmaaGreatDoorProg
import Derived.Test.YtmabaopgkimfmaaGreatDoorB1
set_option maxHeartbeats 12800000
namespace Go.Ab
open Int renaming toNat_natCast→aXy
open List renaming length_append→aXz,length_cons→aX1,length_nil→aX2,length_take→aX4,getD_eq_getElem?_getD→aX6,length_drop→aX7,getElem?_eq_getElem→aX9,getElem?_eq_some_iff→aYa,range→aYb,mem_map→aYc,all_eq_true→aYd,take_length→aYe
open Nat renaming le_of_ble_eq_true→aX0,zero_le→aX5,le_refl→aX8
open Bool renaming and_eq_true→aX3
open Go Go.RowKit
set_option linter.unusedVariables false
set_option linter.unusedSimpArgs false
def wH (m:cD):List UInt8:=kH m.frm.toNat++32::(kH m.num.toNat++32::kH m.til.toNat)
theorem rB {m:cD} (h:lS m=true): (0≤m.frm∧m.frm≤3)∧(1≤m.num∧m.num≤99)∧(1≤m.til∧m.til≤999):=by
 simp only[lS,eR,iQ,aX3,aD] at h
 omega
theorem aGi {n:bI} (h:eV n=true):lS ⟨n.frm,n.num,n.til⟩=true:=by
 simp only[eV,lS,aX3] at h ⊢
 exact⟨⟨h.1.1.1.1,h.1.1.2⟩,h.1.2⟩
theorem aPi {s:List UInt8} (h: ∀b∈s,b≠32):gC s=false:=by
 unfold gC
 rw[List.any_eq_false]
 intro b hb
 have:=h b hb
 simpa using this
theorem xe {s:List UInt8} (h:gC s=false):Lib.count s [32]=0:=by rw[tM,h];rfl
theorem aVy {a b c:List UInt8} (ha: ∀x∈a,x≠32) (hb: ∀x∈b,x≠32) (hc: ∀x∈c,x≠32):
 dL (a++32::(b++32::c))=[a,b,c]∧nF 3 (a++32::(b++32::c))=[]∧bK (a++32::(b++32::c))=a∧bK (nF 1 (a++32::(b++32::c)))=b∧bK (nF 2 (a++32::(b++32::c)))=c:=by
 obtain⟨a1,a2,a3⟩:=nG (r:=b++32::c) ha
 obtain⟨b1,b2,b3⟩:=nG (r:=c) hb
 have c3:=aPi hc
 obtain⟨_,c1,c2⟩:=(gD c).2 c3
 have hn:Lib.count (a++32::(b++32::c)) [32]=2:=by
  rw[tM,aC a3,a2,tM,aC b3,b2,xe c3]
 refine⟨?_,?_,a1,?_,?_⟩
 · rw[dL,hn]
   simp only[iX,a1,a2,a3,b1,b2,b3,if_true]
 · simp only[nF,a2,b2,c2]
 · simp only[nF,a2,b1]
 · simp only[nF,a2,b2,c1]
theorem xf {n:Int} (h:0≤n):mB n=kH n.toNat:=aB (by omega)
theorem aGj {m:cD} (h:lS m=true):ga m=wH m:=by
 obtain⟨h1,h2,h3⟩:=rB h
 unfold ga wH
 rw[xf (by omega),xf (by omega),xf (by omega)]
 simp
theorem aCm {m:cD} (h:lS m=true):iU (dL (wH m))=true∧(dL (wH m)).length=3∧three (dL (wH m))=m∧nF 3 (wH m)=[]∧iI (wH m)=m:=by
 obtain⟨h1,h2,h3⟩:=rB h
 obtain⟨q1,q2,q3,q4,q5⟩:=aVy (vK m.frm.toNat) (vK m.num.toNat) (vK m.til.toNat)
 have e: ∀{x:Int},0≤x→((x.toNat:Nat):Int)=x:=fun h=>by omega
 have w1:jT (kH m.frm.toNat)=some m.frm.toNat:=nH (by omega)
 have w2:jT (kH m.num.toNat)=some m.num.toNat:=nH (by omega)
 have w3:jT (kH m.til.toNat)=some m.til.toNat:=nH (by omega)
 have u1:jG (kH m.frm.toNat)=m.frm:=by rw[jG,w1];exact e (by omega)
 have u2:jG (kH m.num.toNat)=m.num:=by rw[jG,w2];exact e (by omega)
 have u3:jG (kH m.til.toNat)=m.til:=by rw[jG,w3];exact e (by omega)
 have v1:hF (kH m.frm.toNat)=m.frm:=by rw[vL (by omega),e (by omega)]
 have v2:hF (kH m.num.toNat)=m.num:=by rw[vL (by omega),e (by omega)]
 have v3:hF (kH m.til.toNat)=m.til:=by rw[vL (by omega),e (by omega)]
 unfold wH
 refine⟨?_,?_,?_,q2,?_⟩
 · rw[q1];simp[iU,w1,w2,w3]
 · rw[q1];rfl
 · rw[q1];simp[three,u1,u2,u3]
 · unfold iI dU
   have q6:bK (nF 0 (kH m.frm.toNat++32::(kH m.num.toNat++32::kH m.til.toNat)))=kH m.frm.toNat:=q3
   rw[q6,q4,q5,v1,v2,v3]
theorem xg {s:List UInt8} (h:gC s=true):s=bK s++32::aT s:=by
 obtain⟨q1,q2,q3,q4⟩:=(gD s).1 h
 have h3:s[(bK s).length]'q4=32:=by
  have h1:Lib.indexByte s 32=(bK s).length:=q1
  have h2:s.drop (bK s).length=s[(bK s).length]'q4::s.drop ((bK s).length+1):=List.drop_eq_getElem_cons q4
  have h4:s.drop (bK s).length=s.dropWhile (· != 32):=by
   have h5:=List.takeWhile_append_dropWhile (p:=(· != (32:UInt8))) (l:=s)
   have h6:s.take (bK s).length++s.drop (bK s).length=s:=List.take_append_drop _ _
   rw[q2] at h6
   exact List.append_cancel_left (h6.trans h5.symm)
  have h7: ∀l:List UInt8,∀x t,l.dropWhile (· != 32)=x::t→x=32:=by
   intro l
   induction l with
   |nil=>intro x t h;cases h
   |cons y l ih=>
    intro x t h
    by_cases hy:y=32
    · subst hy
      simp at h
      exact h.1.symm
    · rw[List.dropWhile_cons_of_pos (by simpa using hy)] at h
      exact ih x t h
  exact h7 s _ _ (h4.symm.trans h2)
 have h8:s.take (bK s).length++s.drop (bK s).length=s:=List.take_append_drop _ _
 rw[q2,List.drop_eq_getElem_cons q4,h3,q3] at h8
 exact h8.symm
theorem aGk {s:List UInt8} (h: (dL s).length=3): ∃a b c,dL s=[a,b,c]∧s=a++32::(b++32::c):=by
 have h0:=wo _ s rfl
 have hn:Lib.count s [32]=2:=by
  rw[dL] at h;omega
 have h1:gC s=true:=by
  cases hs:gC s with
  |true=>rfl
  |false=>rw[xe hs] at hn;cases hn
 rw[tM,aC h1] at hn
 have h2:gC (aT s)=true:=by
  cases hs:gC (aT s) with
  |true=>rfl
  |false=>rw[xe hs] at hn;cases hn
 have hn2:Lib.count s [32]=2:=by rw[tM,aC h1];exact hn
 refine⟨bK s,bK (aT s),aT (aT s),?_,?_⟩
 · rw[dL,hn2]
   simp only[iX,h1,h2,if_true]
 · rw[← xg h2,← xg h1]
theorem aMn {s:List UInt8} (h: (iU (dL s)&&(dL s).length==3)=true):s=wH (three (dL s)):=by
 rw[aX3,beq_iff_eq] at h
 obtain⟨a,b,c,hl,hs⟩:=aGk h.2
 have hk:=h.1
 rw[hl] at hk ⊢
 simp only[iU,List.all_cons,List.all_nil,Bool.and_true,aX3] at hk
 obtain⟨ha,hb,hc⟩:=hk
 obtain⟨x,hx⟩:=Option.isSome_iff_exists.1 ha
 obtain⟨y,hy⟩:=Option.isSome_iff_exists.1 hb
 obtain⟨z,hz⟩:=Option.isSome_iff_exists.1 hc
 unfold wH three
 simp only[List.getD_cons_zero,List.getD_cons_succ,sF hx,sF hy,sF hz,aXy,(uY hx).1,(uY hy).1,(uY hz).1]
 exact hs
theorem iq {l:List bI} (hk:kJ l=true) {f m:Int} (hp:0≤bD l f m):eV (l.getD (bD l f m).toNat .zero)=true∧(l.getD (bD l f m).toNat .zero).frm=f∧(l.getD (bD l f m).toNat .zero).num=m∧(bD l f m).toNat<l.length:=by
 rcases iG (pC l f m) l.length 0 with h|⟨k,h,_,h2,h3,_⟩
 · rw[bD,h] at hp;omega
 · have e:bD l f m=k:=h
   rw[e,aXy]
   have h4:=h3
   unfold pC at h4
   simp only[aX3,beq_iff_eq] at h4
   exact⟨tN hk (dQ (by omega)),h4.1,h4.2,by omega⟩
theorem wI {l:List cD} (h:oO l=true) {x:cD} (hx:x∈l):lS x=true:=by
 obtain⟨i,hi⟩:=List.mem_iff_getElem?.1 hx
 have hlt:=(aYa.1 hi).1
 have h1:=aYd.1 h i (List.mem_range.2 hlt)
 unfold nE at h1
 rw[aX3] at h1
 have h2:=h1.1
 rw[aX6,hi] at h2
 exact h2
theorem aGl {k:bH} {m:cD} (hm:lS m=false) {p:cD→Bool}:dI {k with marks:=qY p m k.marks}=false:=by
 cases h:dI {k with marks:=qY p m k.marks} with
 |false=>rfl
 |true=>
  obtain⟨_,⟨_,h2,_⟩,_⟩:=(cC _).1 h
  rw[wI h2 (yI.2 (.inl rfl))] at hm
  cases hm
theorem ll {l:List bI} (hk:kJ l=true) {m:cD} (hm:lS m=false): ¬(0≤bD l m.frm m.num∧(l.getD (bD l m.frm m.num).toNat .zero).til=m.til):=by
 rintro⟨h1,h2⟩
 obtain⟨q1,q2,q3,_⟩:=iq hk h1
 have:=aGi q1
 rw[q2,q3,h2] at this
 rw[show m=⟨m.frm,m.num,m.til⟩ from rfl,this] at hm
 cases hm
theorem aI3 {k:bH} (hk:dI k=true) {w:List UInt8} {m:cD} (hm:lS m=false):lT k (jA k w m)=(k,false):=by
 obtain⟨_,⟨h1,_,h2⟩,_⟩:=(cC _).1 hk
 unfold jA
 rw[aB (by
  intro h
  simp only[aX3,aD,beq_iff_eq] at h
  exact ll h1 hm ⟨h.1.2,h.2⟩),aB (by
  intro h
  simp only[aX3,aD,beq_iff_eq] at h
  exact ll h2 hm ⟨h.1.2,h.2⟩)]
 split
 · exact rA (.inr (aGl hm))
 · exact rA (.inl rfl)
def lm (k:bH) (w:List UInt8) (m:cD):bH×Bool:=
 if w==oD then(if decide (bD k.held m.frm m.num<0)||(k.held.getD (bD k.held m.frm m.num).toNat .zero).til != m.til then(k,false) else kz k m.frm m.num)
 else if w==nI then(if decide (bD k.inbox m.frm m.num<0)||(k.inbox.getD (bD k.inbox m.frm m.num).toNat .zero).til != m.til then(k,false) else lc k m.frm m.num)
 else if w==iL then(if hD k.marks m.frm m.num≥0 then(k,false) else({k with marks:=oQ k.marks m},true))
 else(k,false)
theorem ln {l:List bI} {m:cD} (h: ¬(0≤bD l m.frm m.num∧(l.getD (bD l m.frm m.num).toNat .zero).til=m.til)): (decide (bD l m.frm m.num<0)||(l.getD (bD l m.frm m.num).toNat .zero).til != m.til)=true:=by
 by_cases h1:bD l m.frm m.num<0
 · simp[h1]
 · have h2: ¬(l.getD (bD l m.frm m.num).toNat .zero).til=m.til:=fun e=>h ⟨by omega,e⟩
   rw[Bool.or_eq_true]
   exact .inr (by simpa only[bne_iff_ne,ne_eq] using h2)
theorem aMo {k:bH} (hk:dI k=true) {w:List UInt8} {m:cD} (hm:lS m=false):lT k (lm k w m)=(k,false):=by
 obtain⟨_,⟨h1,_,h2⟩,_⟩:=(cC _).1 hk
 unfold lm
 rw[aC (ln (ll h1 hm)),aC (ln (ll h2 hm))]
 split
 · exact rA (.inl rfl)
 · split
   · exact rA (.inl rfl)
   · split
     · split
       · exact rA (.inl rfl)
       · exact rA (.inr (aGl hm))
     · exact rA (.inl rfl)
theorem aAm {k:bH} (hk:dI k=true) {i:Nat} (hi:i<k.held.length):hD k.marks (k.held.getD i .zero).frm (k.held.getD i .zero).num<0:=by
 obtain⟨_,_,h,_⟩:=(cC _).1 hk
 have h1:=aYd.1 h i (List.mem_range.2 hi)
 unfold tX at h1
 simp only[aX3,aD] at h1
 exact h1.2
theorem aMp {k:bH} (hk:dI k=true) (w:List UInt8) (m:cD):jA k w m=lm k w m:=by
 obtain⟨_,⟨h1,_,h2⟩,_⟩:=(cC _).1 hk
 have l1: (oD==nI)=false:=by decide
 have l2: (oD==iL)=false:=by decide
 have l3: (nI==iL)=false:=by decide
 have l4: (nI==oD)=false:=by decide
 have l5: (iL==oD)=false:=by decide
 have l6: (iL==nI)=false:=by decide
 unfold jA lm
 by_cases w1:w=oD
 · subst w1
   rw[aC (show(oD==oD)=true by decide)]
   by_cases h:0≤bD k.held m.frm m.num∧(k.held.getD (bD k.held m.frm m.num).toNat .zero).til=m.til
   · obtain⟨q1,q2,q3,q4⟩:=iq h1 h.1
     have hu:=aAm hk q4
     rw[q2,q3] at hu
     rw[aC (by rw[h.2];simp[h.1]),aB (by rw[h.2];simp[h.1]),kz,aC h.1,h.2,ip (n:=⟨m.frm,m.num,m.til⟩) hu]
   · rw[aC (ln h),aB (by
      intro h9
      simp only[aX3,aD,beq_iff_eq] at h9
      exact h ⟨h9.1.2,h9.2⟩),aB (by rw[l1];simp),aB (by rw[l2];simp)]
 · have w1': (w==oD)=false:=by simpa using w1
   rw[aB (by rw[w1'];simp),aB (show ¬(w==oD)=true by rw[w1'];simp)]
   by_cases w2:w=nI
   · subst w2
     rw[aC (show(nI==nI)=true by decide)]
     by_cases h:0≤bD k.inbox m.frm m.num∧(k.inbox.getD (bD k.inbox m.frm m.num).toNat .zero).til=m.til
     · rw[aC (by rw[h.2];simp[h.1]),aB (by rw[h.2];simp[h.1]),lc,aC h.1]
     · rw[aC (ln h),aB (by
        intro h9
        simp only[aX3,aD,beq_iff_eq] at h9
        exact h ⟨h9.1.2,h9.2⟩),aB (by rw[l3];simp)]
   · have w2': (w==nI)=false:=by simpa using w2
     rw[aB (by rw[w2'];simp),aB (show ¬(w==nI)=true by rw[w2'];simp)]
     by_cases w3:w=iL
     · subst w3
       rw[aC (show(iL==iL)=true by decide)]
       by_cases h:hD k.marks m.frm m.num<0
       · rw[aC (by simp[h]),aB (by omega),ip h]
       · rw[aB (by simp[h]),aC (by omega)]
     · have w3': (w==iL)=false:=by simpa using w3
       rw[aB (by rw[w3'];simp),aB (show ¬(w==iL)=true by rw[w3'];simp)]
theorem aI4 {k:bH} (hk:dI k=true) (w r:List UInt8):
 qZ k (if iU (dL r)&&(dL r).length==3 then jA k w (three (dL r)) else(k,false)) (if !(nF 3 r==[])|| !(r==ga (iI r)) then(k,false) else lm k w (iI r)):=by
 by_cases h: ∃m,lS m=true∧r=wH m
 · obtain⟨m,hm,rfl⟩:=h
   obtain⟨q1,q2,q3,q4,q5⟩:=aCm hm
   rw[q3,q4,q5,aGj hm,q1,q2,aC (by decide),aB (by simp),aMp hk]
   exact .rfl
 · have hL:lT k (if iU (dL r)&&(dL r).length==3 then jA k w (three (dL r)) else(k,false))=(k,false):=by
    split
    · rename_i h1
      refine aI3 hk ?_
      cases h2:lS (three (dL r)) with
      |false=>rfl
      |true=>exact absurd ⟨_,h2,aMn h1⟩ h
    · exact rA (.inl rfl)
   have hR:lT k (if !(nF 3 r==[])|| !(r==ga (iI r)) then(k,false) else lm k w (iI r))=(k,false):=by
    split
    · exact rA (.inl rfl)
    · rename_i h1
      refine aMo hk ?_
      cases h2:lS (iI r) with
      |false=>rfl
      |true=>
       refine absurd ⟨_,h2,?_⟩ h
       rw[← aGj h2]
       simp only[Bool.or_eq_true,Bool.not_eq_true',not_or,Bool.not_eq_false,beq_iff_eq] at h1
       exact h1.2
   exact hL.trans hR.symm
theorem pc (k:bH) (rec:List UInt8):pO k rec=cV k rec:=by
 unfold pO cV
 by_cases hk:dI k=true
 · rw[aC hk,aC hk]
   symm
   show qZ k _ _
   obtain⟨⟨_,⟨t0,_⟩,⟨n0,_⟩,_⟩,_⟩:=(cC _).1 hk
   have hS: ∀w r,bK rec=w→aT rec=r→gS k rec=(if w==jD then(if hF r≤k.time then(k,false) else(kZ k (hF r),true))
    else if w==iE then(if !(eG r).2||(eG r).1.frm != k.id||(eG r).1.num != k.next then(k,false) else nJ {k with next:=wrap64 (k.next+1)} (eG r).1)
    else if w==gL then(if !(eG r).2||(eG r).1.frm==k.id then(k,false) else nJ k (eG r).1)
    else if w==jL then(if hF r≤k.next then(k,false) else({k with next:=hF r},true))
    else if w==iC||w==fS then
     (if !(eG r).2||decide (bD k.held (eG r).1.frm (eG r).1.num≥0)||decide (bD k.inbox (eG r).1.frm (eG r).1.num≥0) then(k,false)
      else if w==iC then({k with held:=kL k.held (eG r).1},true) else({k with inbox:=kL k.inbox (eG r).1},true))
    else if !(nF 3 r==[])|| !(r==ga (iI r)) then(k,false) else lm k w (iI r)):=by
    rintro w r rfl rfl;rfl
   have hI: ∀w r,bK rec=w→aT rec=r→eS k rec=(if gC rec then
    if w==jD||w==jL then(if(jT r).isSome then lE k w (jG r) else(k,false))
    else if w==iE||w==gL||w==iC||w==fS then(if(eG r).2 then fT k w (eG r).1 else(k,false))
    else if w==oD||w==nI||w==iL then(if iU (dL r)&&(dL r).length==3 then jA k w (three (dL r)) else(k,false))
    else(k,false)
    else(k,false)):=by
    rintro w r rfl rfl;rfl
   cases hs:gC rec with
   |false=>
    obtain⟨_,_,hr⟩:=(gD rec).2 hs
    rw[hI _ _ rfl rfl,hs,hS _ _ rfl hr]
    have hd:hF []= -1:=rfl
    have hrd:eG []=(.zero,false):=rfl
    have hl: ([]==ga (iI []))=false:=by
     have:ga (iI [])≠[]:=by simp[ga]
     simpa using this
    rw[hd,hrd,hl]
    refine .no (.inl rfl) (.inl ?_)
    rw[aC (show(-1:Int)≤k.time by omega),aC (show(-1:Int)≤k.next by omega)]
    simp
   |true=>
    rw[hI _ _ rfl rfl,hs,hS _ _ rfl rfl,aC rfl]
    generalize aT rec=r
    generalize bK rec=w
    by_cases e1:w=jD
    · subst e1;exact aI0 hk r
    by_cases e2:w=jL
    · subst e2;exact aI1 hk r
    by_cases e3:w=iE
    · subst e3;exact aMm (eG r)
    by_cases e4:w=gL
    · subst e4;exact aGh (eG r)
    by_cases e5:w=iC∨w=fS
    · have hx:=aI2 (k:=k) w e5 (eG r)
      rcases e5 with rfl|rfl<;>exact hx
    have b1: (w==jD)=false:=by simpa using e1
    have b2: (w==jL)=false:=by simpa using e2
    have b3: (w==iE)=false:=by simpa using e3
    have b4: (w==gL)=false:=by simpa using e4
    have b5: (w==iC)=false:=by simpa using fun h=>e5 (.inl h)
    have b6: (w==fS)=false:=by simpa using fun h=>e5 (.inr h)
    rw[b1,b2,b3,b4,b5,b6]
    show qZ k (if w==oD||w==nI||w==iL then _ else(k,false)) (if !(nF 3 r==[])|| !(r==ga (iI r)) then(k,false) else lm k w (iI r))
    cases h7: (w==oD||w==nI||w==iL) with
    |true=>exact aI4 hk w r
    |false=>
     simp only[Bool.or_eq_false_iff] at h7
     refine .no (.inl rfl) (.inl ?_)
     split
     · rfl
     · unfold lm
       rw[h7.1.1,h7.1.2,h7.2];rfl
 · rw[aB hk,aB hk]
structure iJ where
 num:Int
 data:List UInt8
 deriving DecidableEq
structure dW where
 frm:Int
 num:Int
 to:Int
 til:Int
 size:Int
 got:List iJ
 deriving DecidableEq
structure aK where
 id:Int
 up:Bool
 log:List UInt8
 forced:Int
 halves:List dW
 deriving DecidableEq
def iJ.row (m:iJ):List D:=[.i m.num,.s m.data]
def cN (l:List iJ):List (List D):=l.map iJ.row
def dW.row (h:dW):List D:=[.i h.frm,.i h.num,.i h.to,.i h.til,.i h.size,.sl (cN h.got)]
def aZ (l:List dW):List (List D):=l.map dW.row
abbrev iJ.V (m:iJ):V:= .e (.agg [.d (.i m.num),.d (.s m.data)])
abbrev dW.V (h:dW):V:= .e (.agg [.d (.i h.frm),.d (.i h.num),.d (.i h.to),.d (.i h.til),.d (.i h.size),.d (.sl (cN h.got))])
abbrev aK.V (k:aK):V:= .e (.agg [.d (.i k.id),.d (.b k.up),.d (.s k.log),.d (.i k.forced),.d (.sl (aZ k.halves))])
def iJ.zero:iJ:=⟨0,[]⟩
def dW.zero:dW:=⟨0,0,0,0,0,[]⟩
def aK.zero:aK:=⟨0,false,[],0,[]⟩
theorem bL (l:List iJ): (cN l).length=l.length:=by simp[cN]
theorem aJ (l:List dW): (aZ l).length=l.length:=by simp[aZ]
theorem rC (l:List iJ): ∀r∈cN l,r.length=2:=by
 intro r hr
 obtain⟨b,_,rfl⟩:=aYc.1 hr
 rfl
theorem sV (l:List dW): ∀r∈aZ l,r.length=6:=by
 intro r hr
 obtain⟨b,_,rfl⟩:=aYc.1 hr
 rfl
theorem mS {l:List iJ} {i:Nat} (h:i<l.length): (cN l).getD i []=(l.getD i .zero).row:=by
 rw[aX6,aX6]
 simp[cN,h]
theorem gJ {l:List dW} {i:Nat} (h:i<l.length): (aZ l).getD i []=(l.getD i .zero).row:=by
 rw[aX6,aX6]
 simp[aZ,h]
theorem zV (l:List iJ) (x:iJ):cN l++[x.row]=cN (l++[x]):=by simp[cN]
theorem pH (l:List dW) (x:dW):aZ l++[x.row]=aZ (l++[x]):=by simp[aZ]
theorem aGm (l:List iJ) (a b:Nat): ∀r∈((cN l).take a).drop b,r.length=2:=fun r hr=>rC l r (List.mem_of_mem_take (List.mem_of_mem_drop hr))
theorem lp (l:List dW) (a b:Nat): ∀r∈((aZ l).take a).drop b,r.length=6:=fun r hr=>sV l r (List.mem_of_mem_take (List.mem_of_mem_drop hr))
def wJ (m:iJ):Bool:=iQ m.num 0 999&&decide ((m.data.length:Int)=4)
def oS (l:List iJ) (i:Nat):Bool:=wJ (l.getD i .zero)&&(aYb i).all fun j=> !((l.getD j .zero).num==(l.getD i .zero).num)
def rG (h:dW):Bool:=eR h.frm&&eR h.to&&iQ h.num 1 99&&iQ h.til 1 999&&iQ h.size 1 24&&decide ((h.got.length:Int)≤14)
def mT (h:dW):Bool:=rG h&&(aYb h.got.length).all (oS h.got)
def iR (l:List dW) (f n:Int) (i:Nat):Bool:=(l.getD i .zero).frm==f&&(l.getD i .zero).num==n
def hP (l:List dW) (f n:Int):Int:=lM (iR l f n) 0 l.length
def iN (l:List dW) (i:Nat):Bool:=mT (l.getD i .zero)&&(aYb i).all fun j=> !iR l (l.getD i .zero).frm (l.getD i .zero).num j
def kD (k:aK):Bool:=eR k.id&&dF k.log k.forced&&decide ((k.halves.length:Int)≤3)&&(k.up||decide (k.halves.length=0))
def bA (k:aK):bH×Bool:=eI k.id (bG k.log).1
def vO (k:aK):bH×Bool:=eI k.id (bG (k.log.take k.forced.toNat)).1
def aW (k:aK):Bool:=kD k&&(bA k).2&&(vO k).2&&(aYb k.halves.length).all (iN k.halves)
theorem gV {l:List UInt8} {f:Int} (h:dF l f=true):l.length≤2400∧(0≤f∧f≤l.length)∧(bG l).2=l.length∧((bG (l.take f.toNat)).2:Int)=f:=by
 simp only[dF,iQ,aX3,aD] at h
 exact⟨h.1.1.1,h.1.1.2,h.1.2,h.2⟩
theorem aMq {s r:List UInt8} {n:Nat} (h:gX s=some (r,n)):r.length≤s.length:=by
 unfold gX at h
 split at h
 · cases h
 · split at h
   · cases h
   · split at h
     · cases h
       rw[aX7,aX4];omega
     · cases h
theorem gf: ∀(k:Nat) (s:List UInt8),s.length≤k→ ∀x∈(bG s).1,x.length≤s.length
 |0,s,h,x,hx=>by
  obtain rfl:s=[]:=List.eq_nil_of_length_eq_zero (by omega)
  rw[eD lG] at hx;cases hx
 |k+1,s,h,x,hx=>by
  cases hr:gX s with
  |none=>rw[eD hr] at hx;cases hx
  |some p=>
   obtain⟨r,n⟩:=p
   have h1:=mQ hr
   rw[iH hr] at hx
   rcases List.mem_cons.1 hx with rfl|hx
   · exact aMq hr
   · have:=gf k (s.drop n) (by rw[aX7];omega) x hx
     rw[aX7] at this;omega
theorem kE (s:List UInt8) (h:s.length≤900000): (bG s).1.length≤900000∧ ∀x∈(bG s).1,x.length≤900000:=
 ⟨by have:=(qX s.length s (aX8 _)).2;omega,fun x hx=>by have:=gf s.length s (aX8 _) x hx;omega⟩
theorem mF {h:dW} (hh:rG h=true):eR h.frm=true∧eR h.to=true∧(1≤h.num∧h.num≤99)∧(1≤h.til∧h.til≤999)∧(1≤h.size∧h.size≤24)∧h.got.length≤14:=by
 simp only[rG,iQ,aX3,aD] at hh
 obtain⟨⟨⟨⟨⟨h1,h2⟩,h3⟩,h4⟩,h5⟩,h6⟩:=hh
 exact⟨h1,h2,h3,h4,h5,by omega⟩
theorem eN {k:aK} (h:kD k=true):eR k.id=true∧dF k.log k.forced=true∧k.halves.length≤3∧(k.up=true∨k.halves.length=0):=by
 simp only[kD,aX3,Bool.or_eq_true,aD] at h
 obtain⟨⟨⟨h1,h2⟩,h3⟩,h4⟩:=h
 exact⟨h1,h2,by omega,h4⟩
theorem sg {l:List iJ} {i:Nat} (h1:wJ (l.getD i .zero)=true) (h2: ∀j,j<i→((l.getD j .zero).num==(l.getD i .zero).num)=false):oS l i=true:=by
 unfold oS
 rw[h1,Bool.true_and]
 exact iT fun j hj=>by rw[h2 j hj];rfl
theorem sh {l:List iJ} {i:Nat} (h1:wJ (l.getD i .zero)=false):oS l i=false:=by
 unfold oS;rw[h1];rfl
theorem xh {l:List iJ} {i j:Nat} (hj:j<i) (h2: ((l.getD j .zero).num==(l.getD i .zero).num)=true):oS l i=false:=by
 unfold oS
 rw[fW hj (by rw[h2];rfl),Bool.and_false]
theorem aD4 {l:List dW} {i:Nat} (h1:mT (l.getD i .zero)=true) (h2: ∀j,j<i→iR l (l.getD i .zero).frm (l.getD i .zero).num j=false):iN l i=true:=by
 unfold iN
 rw[h1,Bool.true_and]
 exact iT fun j hj=>by rw[h2 j hj];rfl
theorem aD5 {l:List dW} {i:Nat} (h1:mT (l.getD i .zero)=false):iN l i=false:=by
 unfold iN;rw[h1];rfl
theorem aGn {l:List dW} {i j:Nat} (hj:j<i) (h2:iR l (l.getD i .zero).frm (l.getD i .zero).num j=true):iN l i=false:=by
 unfold iN
 rw[fW hj (by rw[h2];rfl),Bool.and_false]
theorem aMr (l:List dW) (f m:Int): -1≤hP l f m∧hP l f m<l.length:=by
 rcases iG (iR l f m) l.length 0 with h|⟨k,h,_,h2,_⟩<;>rw[hP,h]<;>omega
theorem aI5 {l:List dW} {i:Nat} (hi:i<l.length): (decide (hP l (l.getD i .zero).frm (l.getD i .zero).num< (i:Int)))= !((aYb i).all fun j=> !iR l (l.getD i .zero).frm (l.getD i .zero).num j):=by
 have hself:iR l (l.getD i .zero).frm (l.getD i .zero).num i=true:=by simp[iR]
 by_cases h: ∃j,j<i∧iR l (l.getD i .zero).frm (l.getD i .zero).num j=true
 · obtain⟨j,hj,hji⟩:=h
   rw[fW hj (by rw[hji];rfl)]
   rcases iG (iR l (l.getD i .zero).frm (l.getD i .zero).num) l.length 0 with h1|⟨k,h1,_,h2,h3,h4⟩
   · exact decide_eq_true (by rw[hP,h1];omega)
   · refine decide_eq_true ?_
     rw[hP,h1]
     by_cases hk:k<i
     · omega
     · have:=h4 j (aX5 _) (by omega)
       rw[hji] at this;cases this
 · have h0: ∀j,j<i→iR l (l.getD i .zero).frm (l.getD i .zero).num j=false:=fun j hj=>by
    cases hh:iR l (l.getD i .zero).frm (l.getD i .zero).num j with
    |false=>rfl
    |true=>exact absurd ⟨j,hj,hh⟩ h
   rw[iT (fun j hj=>by rw[h0 j hj];rfl),hP,mJ (aX5 _) (by omega) (fun j _ hj=>h0 j hj) hself]
   simp
theorem aUb (a b:Int):decide (a>b)= !decide (a≤b):=by
 by_cases h:a≤b
 · simp[h,Int.not_lt.2 h]
 · simp[h,Int.not_le.1 h]
theorem mixC {a:Bool} {n:Int} (h: (!a||n != 4)=true): (!a|| !decide (n=4))=true:=by
 have e: (n != 4)= !decide (n=4):=by by_cases h:n=4<;>simp[h]
 rw[← e];exact h
theorem aXu {a:Bool} {n:Int} (h: (!a||n != 4)=false): (a&&decide (n=4))=true:=by
 have e: (n != 4)= !decide (n=4):=by by_cases h:n=4<;>simp[h]
 rw[e] at h
 cases a<;>simp_all
theorem lq {l:List dW} {i:Nat} {c:Bool} (hi:i<l.length) (h: (!mT (l.getD i .zero)||decide (hP l (l.getD i .zero).frm (l.getD i .zero).num< (i:Int)))=c):iN l i= !c:=by
 subst h
 rw[aI5 hi,iN,Bool.not_or,Bool.not_not,Bool.not_not]
theorem xE {k:aK} (h:kD k=false):aW k=false:=by rw[aW,h];rfl
theorem sj {k:aK} {a b:Bool} (h: (!a|| !b)=true) (h2: ((bA k).2=a∧(vO k).2=b)∨((bA k).2=b∧(vO k).2=a)):aW k=false:=by
 unfold aW
 rcases h2 with⟨h1,h2⟩|⟨h1,h2⟩<;>rw[h1,h2]<;>cases a<;>cases b<;>simp_all
theorem lr {k:aK} {a b:Bool} (hh:kD k=true) (h: (!a|| !b)=false) (h2: ((bA k).2=a∧(vO k).2=b)∨((bA k).2=b∧(vO k).2=a)):aW k=(aYb k.halves.length).all (iN k.halves):=by
 unfold aW
 rcases h2 with⟨h1,h2⟩|⟨h1,h2⟩<;>rw[h1,h2,hh]<;>cases a<;>cases b<;>simp_all
theorem lu {h:dW} {c:Bool} (hh: (!eR h.frm|| !eR h.to|| !iQ h.num 1 99|| !iQ h.til 1 999|| !iQ h.size 1 24||decide (((cN h.got).length:Int)>14))=c):rG h= !c:=by
 subst hh
 rw[bL,aUb]
 unfold rG
 simp only[Bool.not_or,Bool.not_not]
theorem zW {k:aK} {c:Bool} (hh: (!eR k.id|| !dF k.log k.forced||decide (((aZ k.halves).length:Int)>3)||(!k.up&&decide (((aZ k.halves).length:Int)>0)))=c):kD k= !c:=by
 subst hh
 have e:decide ((k.halves.length:Int)>0)= !decide (k.halves.length=0):=by
  by_cases h:k.halves.length=0
  · rw[h];rfl
  · rw[decide_eq_true (show(k.halves.length:Int)>0 by omega),decide_eq_false h];rfl
 rw[aJ,aUb,e]
 unfold kD
 simp only[Bool.not_or,Bool.not_not,Bool.not_and]
theorem xi {l:List UInt8} {f:Int} (h: (decide ((l.length:Int)>2400)|| !iQ f 0 l.length)=true):dF l f=false:=by
 unfold dF
 rcases Bool.or_eq_true _ _▸h with h|h
 · rw[decide_eq_false (show ¬l.length≤2400 by have:=of_decide_eq_true h;omega)];rfl
 · rw[Bool.not_eq_true'] at h
   rw[h];simp
theorem sm {l:List UInt8} {f:Int} (h: (decide ((l.length:Int)>2400)|| !iQ f 0 l.length)=false): (l.length≤2400∧0≤f∧f≤l.length)∧dF l f=(((bG l).2:Int)==(l.length:Int)&&((bG (l.take f.toNat)).2:Int)==f):=by
 rw[Bool.or_eq_false_iff] at h
 have h1:l.length≤2400:=by have:=of_decide_eq_false h.1;omega
 have h2:iQ f 0 l.length=true:=by simpa using h.2
 have h3:0≤f∧f≤l.length:=by simpa[iQ] using h2
 refine⟨⟨h1,h3⟩,?_⟩
 unfold dF
 rw[decide_eq_true h1,h2,Bool.true_and,Bool.true_and]
 congr 1
 by_cases e: (bG l).2=l.length
 · rw[e];simp
 · rw[decide_eq_false e]
   symm
   rw[beq_eq_false_iff_ne]
   omega
def aK.row (k:aK):List D:=[.i k.id,.b k.up,.s k.log,.i k.forced,.sl (aZ k.halves)]
def cY (l:List UInt8) (f:Int):List UInt8×Int:=if dF l f then(l,l.length) else([],0)
def gO (l:List UInt8) (f keep:Int):Int:=f+(if 0<min keep (l.length - f) then min keep (l.length - f) else 0)
def jM (l:List UInt8) (f keep:Int):Nat:=(bG (l.take (gO l f keep).toNat)).2
def fY (l:List UInt8) (f keep:Int):List UInt8×Int:=if dF l f then(l.take (jM l f keep),jM l f keep) else([],0)
def cP (rec:List UInt8):List UInt8:=kH rec.length++[58]++rec++[59]
def iY (rec:List UInt8):Bool:=iQ rec.length 1 60
def bC (l:List UInt8) (f:Int) (rec:List UInt8): (List UInt8×Int)×Bool:=
 if dF l f then(if iY rec&&decide (l.length+(cP rec).length≤2400) then((l++cP rec,f),true) else((l,f),false)) else(([],0),false)
def dG (recs:List (List UInt8)):List UInt8:=(recs.map cP).flatten
def eK (l:List UInt8) (f:Int) (recs:List (List UInt8)): (List UInt8×Int)×Bool:=
 if dF l f then(if recs.all iY&&decide ((dG recs).length≤2400) then((dG recs,(dG recs).length),true) else((l,f),false)) else(([],0),false)
theorem lv {l:List UInt8} {f keep:Int} (h:0≤f∧f≤l.length):f≤gO l f keep∧gO l f keep≤l.length:=by
 unfold gO
 split<;>omega
theorem ir (l:List UInt8) (f keep:Int):jM l f keep≤l.length:=by
 have:=(qX _ (l.take (gO l f keep).toNat) (aX8 _)).1
 rw[aX4] at this
 unfold jM;omega
theorem xj {l:List UInt8} {f keep:Int}:jM l f keep≤(gO l f keep).toNat:=by
 have:=(qX _ (l.take (gO l f keep).toNat) (aX8 _)).1
 rw[aX4] at this
 unfold jM;omega
theorem aMs {l:List UInt8} {f keep:Int}: (l.take (gO l f keep).toNat).take (jM l f keep)=l.take (jM l f keep):=by
 rw[List.take_take];congr 1;have:=xj (l:=l) (f:=f) (keep:=keep);omega
theorem aGo {n:Nat} (h:n<100): (kH n).length≤2:=bW (k:=1) (by simpa using h)
theorem sn {rec:List UInt8} (h:iY rec=true):rec.length+3≤(cP rec).length∧(cP rec).length≤rec.length+4∧rec.length≤60:=by
 have h1: (1:Int)≤rec.length∧(rec.length:Int)≤60:=by simpa[iY,iQ] using h
 have h2:=aGo (n:=rec.length) (by omega)
 have h3:1≤(kH rec.length).length:=List.length_pos_iff.2 (aDw _)
 simp only[cP,aXz,aX1,aX2];omega
theorem oE {rec:List UInt8} (h:rec.length≤900000): (cP rec).length≤rec.length+8:=by
 have h2:=bW (k:=5) (n:=rec.length) (by simp;omega)
 simp only[cP,aXz,aX1,aX2];omega
theorem aD6 (recs:List (List UInt8)) (r:List UInt8):dG (recs++[r])=dG recs++cP r:=by simp[dG]
theorem aGp:dG []=[]:=rfl
def fO (k:aK) (keep:Int):aK:=if aW k then⟨k.id,false,(fY k.log k.forced keep).1,(fY k.log k.forced keep).2,[]⟩ else .zero
def fI (k:aK):aK:=if aW k then{k with up:=true} else .zero
def jR (k:aK):aK:={k with log:=(cY k.log k.forced).1,forced:=(cY k.log k.forced).2}
def eW (k:aK):aK×Bool:=if aW k then(if !k.up||k.forced==k.log.length then(k,false) else(jR k,true)) else(.zero,false)
def bS (k:aK):bH:=if aW k then(bA k).1 else .zero
theorem eA {k:aK} (h:aW k=true):kD k=true∧k.log.length≤2400∧(0≤k.forced∧k.forced≤k.log.length)∧k.halves.length≤3∧(k.up=true∨k.halves=[])∧ ∀x∈k.halves,x.got.length≤14:=by
 have h1:kD k=true:=by
  cases hh:kD k with
  |true=>rfl
  |false=>rw[xE hh] at h;cases h
 obtain⟨_,q1,q2,q3⟩:=eN h1
 obtain⟨q4,q5,_,_⟩:=gV q1
 refine⟨h1,q4,q5,q2,q3.imp (fun h=>h) (fun h=>List.eq_nil_of_length_eq_zero h),fun x hx=> ?_⟩
 unfold aW at h
 rw[aX3] at h
 obtain⟨i,hi⟩:=List.mem_iff_getElem?.1 hx
 have hlt:=(aYa.1 hi).1
 have h2:=aYd.1 h.2 i (List.mem_range.2 hlt)
 unfold iN at h2
 rw[aX3] at h2
 have h3:=h2.1
 rw[aX6,hi] at h3
 have h3:mT x=true:=h3
 unfold mT at h3
 rw[aX3] at h3
 exact(mF h3.1).2.2.2.2.2
def jp (k:aK):Prop:=k.log.length≤2400∧k.halves.length≤4∧ ∀x∈k.halves,x.got.length≤15
theorem aMt {k:aK} (h:aW k=true) (hu:k.up=false):fI k=⟨k.id,true,k.log,k.forced,[]⟩:=by
 obtain⟨_,_,_,_,h4,_⟩:=eA h
 have h5:k.halves=[]:=by
  rcases h4 with h4|h4
  · rw[hu] at h4;cases h4
  · exact h4
 rw[fI,aC h,← h5]
def xF (b:Int):Nat→Int
 |0=>0
 |d+1=>xF b d+oC b ((d+1:Nat):Int)
def pd (b n:Int):Int:=Int.tmod (wrap64 (Int.tdiv (fC (fC (wrap64 (wrap64 (n*31)+b)))) 16)) (xF b b.toNat)
def bu (b:Int) (r:Int):Nat→Nat→Int
 |0,_=>b
 |f+1,d=>if(d:Int)<b then(if r<xF b d then d else bu b r f (d+1)) else b
def lH (b n:Int):Int:=if tW b n then(if n<b then 1 else bu b (pd b n) 6 1) else 0
theorem vP {b:Int} (hb:1≤b∧b≤6): ∀{d:Nat},(d:Int)≤6→0≤xF b d∧xF b d≤70*d∧(1≤d→10≤xF b d)
 |0,_=>by simp[xF]
 |d+1,h=>by
  have ih:=vP hb (d:=d) (by omega)
  have hw:=vI (b:=b) (d:=((d+1:Nat):Int)) hb (by omega)
  unfold xF
  refine⟨by omega,by omega,fun _=> ?_⟩
  by_cases h0:d=0
  · subst h0
    have:=hw.2.2 rfl
    omega
  · have:=ih.2.2 (by omega);omega
theorem xk {b r:Int} (hb:1≤b): ∀(f d:Nat),1≤d→1≤bu b r f d∧bu b r f d≤b
 |0,d,h=>by unfold bu;omega
 |f+1,d,h=>by
  unfold bu
  split
  · split
    · omega
    · exact xk hb f (d+1) (by omega)
  · omega
theorem tZ {b n:Int} (h:tW b n=true):1≤lH b n∧lH b n≤b:=by
 obtain⟨hb,_⟩:=yD h
 unfold lH
 rw[aC h]
 split
 · omega
 · exact xk hb.1 6 1 (aX8 _)
theorem aPj {b r:Int} {f d:Nat} (hd: (d:Int)<b) (h:r<xF b d):bu b r (f+1) d=d:=by
 unfold bu;rw[aC hd,aC h]
theorem aMu {b r:Int} {f d:Nat} (hd: (d:Int)<b) (h: ¬r<xF b d):bu b r (f+1) d=bu b r f (d+1):=by
 conv=>lhs;unfold bu
 rw[aC hd,aB h]
theorem lw {b r:Int} {f d:Nat} (hd: ¬(d:Int)<b):bu b r f d=b:=by
 cases f with
 |zero=>rfl
 |succ f=>unfold bu;rw[aB hd]
def tQ (u:List Bool) (b:Int):Nat→Int→Int
 |0,a=>a
 |f+1,a=>if u.getD a.toNat false then tQ u b f (Int.tmod (wrap64 (a+1)) b) else a
def zX (b x:Int) (u:List Bool):List Bool:=u.set (tQ u b 6 (Int.tmod (wrap64 (Int.tdiv (fC x) 16)) b)).toNat true
def aGq (b:Int):Nat→Int→List Bool→List Bool
 |0,_,u=>u
 |k+1,x,u=>aGq b k (fC x) (zX b x u)
def xG (b n:Int):List Bool:=aGq b (lH b n).toNat (fC (wrap64 (wrap64 (n*7)+1))) (List.replicate 6 false)
def aVz (u:List Bool):List Int:=((aYb u.length).filter fun i=>u.getD i false).map fun(i:Nat)=>((i:Nat):Int)
def cW (b n:Int):List Int:=if tW b n then(if n<b then [n] else aVz (xG b n)) else []
theorem ff {u:List Bool} {b a:Int} {f:Nat} (h:u.getD a.toNat false=false):tQ u b f a=a:=by
 cases f with
 |zero=>rfl
 |succ f=>unfold tQ;rw[h];rfl
theorem zY {u:List Bool} {b a:Int} {f:Nat} (h:u.getD a.toNat false=true):tQ u b (f+1) a=tQ u b f (Int.tmod (wrap64 (a+1)) b):=by
 conv=>lhs;unfold tQ
 rw[aC h]
theorem xl {u:List Bool} {b:Int} (hb:1≤b∧b≤6) {f:Int} (hf:0≤f∧f<b) (hfree:u.getD f.toNat false=false): ∀(g:Nat) (a:Int),0≤a∧a<b→((f+b - a) % b).toNat≤g→
 (0≤tQ u b g a∧tQ u b g a<b)∧u.getD (tQ u b g a).toNat false=false
 |0,a,ha,hg=>by
  have e:a=f:=by
   by_cases h:a<f
   · have: (f+b - a) % b=f - a:=by
      rw[show f+b - a=(f - a)+b by omega,Int.add_emod_right,Int.emod_eq_of_lt (by omega) (by omega)]
     omega
   · by_cases h2:a=f
     · exact h2
     · have: (f+b - a) % b=f+b - a:=Int.emod_eq_of_lt (by omega) (by omega)
       omega
  subst e
  exact⟨ha,hfree⟩
 |g+1,a,ha,hg=>by
  cases hu:u.getD a.toNat false with
  |false=>rw[ff hu];exact⟨ha,hu⟩
  |true=>
   have hne:a≠f:=fun e=>by subst e;rw[hfree] at hu;cases hu
   obtain⟨q1,q2⟩:=aIs hb hf ha hne
   rw[zY hu]
   exact xl hb hf hfree g _ q2 (by omega)
theorem aCn {b x:Int} (hb:1≤b∧b≤6):0≤Int.tmod (wrap64 (Int.tdiv (fC x) 16)) b∧Int.tmod (wrap64 (Int.tdiv (fC x) 16)) b<b:=by
 have hr:=cn x
 exact oA (x:=wrap64 (Int.tdiv (fC x) 16)) (n:=b) (by rw[aF (by have:=pY hr.1 (n:=16) (by omega);omega)];exact(pY hr.1 (by omega)).1) hb.1
def UOk (b:Int) (u:List Bool):Prop:=u.length=6∧ ∀i:Nat,b≤i→u.getD i false=false
theorem aGr {b:Int} {u:List Bool} (hb:1≤b∧b≤6) (h:UOk b u) (hc: (u.count true:Int)<b): ∃f:Int,(0≤f∧f<b)∧u.getD f.toNat false=false:=by
 obtain⟨f,hf1,hf2⟩:=aF3 (u:=u.take b.toNat) (by
  have h1: (u.take b.toNat).count true≤u.count true:=(List.take_sublist _ _).count_le _
  rw[aX4,h.1];omega)
 rw[aX4,h.1] at hf1
 refine⟨f,by omega,?_⟩
 rw[yH (by omega)] at hf2
 rw[aXy];exact hf2
theorem aGs {b x:Int} {u:List Bool} (hb:1≤b∧b≤6) (h:UOk b u) (hc: (u.count true:Int)<b):UOk b (zX b x u)∧(zX b x u).count true=u.count true+1:=by
 obtain⟨f,hf,hfree⟩:=aGr hb h hc
 have ha:=aCn (x:=x) hb
 obtain⟨q1,q2⟩:=xl hb hf hfree 6 _ ha (by
  have:=Int.emod_lt_of_pos (f+b - Int.tmod (wrap64 (Int.tdiv (fC x) 16)) b) (show 0<b by omega)
  have:=Int.emod_nonneg (f+b - Int.tmod (wrap64 (Int.tdiv (fC x) 16)) b) (show b≠0 by omega)
  omega)
 refine⟨⟨by rw[zX,List.length_set];exact h.1,fun i hi=> ?_⟩,?_⟩
 · rw[zX,aX6,List.getElem?_set_ne (by omega),← aX6]
   exact h.2 i hi
 · exact aL3 (by rw[h.1];omega) q2
theorem yL (b:Int):UOk b (List.replicate 6 false)∧(List.replicate 6 false).count true=0:=by
 refine⟨⟨rfl,fun i _=> ?_⟩,rfl⟩
 rw[aX6,List.getElem?_replicate]
 split<;>rfl
def dY (t:List UInt8):List (List UInt8):=if iQ t.length 1 24 then(aYb ((t.length+3) / 4)).map fun i=>(aYb 4).map fun j=>t.getD (4*i+j) 0 else []
def aAn (a b:List UInt8):List UInt8:=(aYb 4).map fun i=>u8 (nr (jK a i) (jK b i))
def yM (bl:List (List UInt8)):List UInt8→List Int→List UInt8
 |x,[]=>x
 |x,k::ks=>yM bl (aAn x (bl.getD k.toNat [])) ks
def zZ (t:List UInt8) (n:Int):List UInt8:=
 if dY t=[]∨cW (dY t).length n=[] then [] else yM (dY t) [0,0,0,0] (cW (dY t).length n)
def lA (n:Nat):List UInt8:=jD++[32]++kH n
def pP (n:Nat):List UInt8:=jL++[32]++kH n
def lB (w:List UInt8) (m:cD):List UInt8:=w++[32]++kH m.frm.toNat++[32]++kH m.num.toNat++[32]++kH m.til.toNat
def dC (w:List UInt8) (n:bI):List UInt8:=w++[32]++gE n
def iu (k:bH):List (List UInt8):=
 (if 0<k.time then [lA k.time.toNat] else [])++(if 1<k.next then [pP k.next.toNat] else [])++k.marks.map (lB iL)++k.held.map (dC iC)++k.inbox.map (dC fS)
def eL (k:bH):List (List UInt8):=if dI k then iu k else []
def jH (k:aK) (s:List UInt8×Int):aK:={k with log:=s.1,forced:=s.2}
def jI (k:aK) (rec:List UInt8):aK×Bool:=
 if(cV (bA k).1 rec).2 then
  if(bC k.log k.forced rec).2 then(jH k (bC k.log k.forced rec).1,true)
  else if(eK k.log k.forced (eL (bA k).1)).2 then
   if(bC (eK k.log k.forced (eL (bA k).1)).1.1 (eK k.log k.forced (eL (bA k).1)).1.2 rec).2 then
    (jH k (bC (eK k.log k.forced (eL (bA k).1)).1.1 (eK k.log k.forced (eL (bA k).1)).1.2 rec).1,true)
   else(k,false)
  else(k,false)
 else(k,false)
def dM (k:aK) (rec:List UInt8):aK×Bool:=if(jI k rec).2 then(jR (jI k rec).1,true) else(k,false)
def cF (k:aK):aK×Bool:=if aW k then(if k.up then dM k (lA ((bA k).1.time+1).toNat) else(k,false)) else(.zero,false)
def hG (k:aK) (to til:Int) (text:List UInt8):bI:=⟨k.id,(bA k).1.next,to,til,text⟩
def aU (k:aK) (to til:Int) (text:List UInt8):aK×Int:=
 if aW k then(if k.up then(if(dM k (dC iE (hG k to til text))).2 then((dM k (dC iE (hG k to til text))).1,(bA k).1.next) else(k,0)) else(k,0)) else(.zero,0)
def aa (k:aK) (f n:Int):List UInt8:=lB nI ⟨f,n,((bA k).1.inbox.getD (bD (bA k).1.inbox f n).toNat .zero).til⟩
def cS (k:aK) (f n:Int):aK×bI×Bool:=
 if aW k then
  (if k.up&&decide (0≤bD (bA k).1.inbox f n) then(if(dM k (aa k f n)).2 then((dM k (aa k f n)).1,(bA k).1.inbox.getD (bD (bA k).1.inbox f n).toNat .zero,true) else(k,.zero,false)) else(k,.zero,false))
 else(.zero,.zero,false)
def cI.zero:cI:=⟨0,0,0,0,0,0,0,0,0,[]⟩
def aGt (k:aK) (n:bI) (mix:Int):cI:=⟨1,k.id,jC k.id n.to,n.frm,n.num,n.to,n.til,n.text.length,mix,zZ n.text mix⟩
def eT (k:aK) (f n mix:Int):cI×Bool:=
 if aW k&&k.up&&iQ mix 0 999&&decide (0≤bD (bA k).1.held f n) then(aGt k ((bA k).1.held.getD (bD (bA k).1.held f n).toNat .zero) mix,true) else(.zero,false)
def eP (k:aK):aK×Bool:=
 if aW k then(if k.up&&(eK k.log k.forced (eL (bA k).1)).2 then(jH k (eK k.log k.forced (eL (bA k).1)).1,true) else(k,false)) else(.zero,false)
section
variable {τ σ':St} {rl:List (Nat×Nat)} {bor:List Nat} {r:St}
end
section
variable {P:Program} {T:hZ} {o:Oper} {σ:St} {x y:Operand} {d ob j:Nat} {t ty:TypeId} {ti:TI} {Rx Ry:List (dK×Option K)} {k:List (dK×Option K)→List (dK×K)→Prop}
end
theorem aD7 {d:Int} (h:2≤d∧d≤6):wrap64 (d*wrap64 (d - 1))≠0:=by
 rw[aF (n:=d - 1) (by omega)]
 have:d=2∨d=3∨d=4∨d=5∨d=6:=by omega
 rcases this with rfl|rfl|rfl|rfl|rfl<;>(rw[aF (by omega)];omega)
theorem tj {b n:Int} (h:tW b n=true) (hn:n<b):lH b n=1:=by rw[lH,aC h,aC hn]
theorem aAo {b n:Int} (h:tW b n=true) (hn: ¬n<b):lH b n=bu b (pd b n) 6 1:=by rw[lH,aC h,aB hn]
theorem aMv {b r:Int} {j:Nat} (hj:j+1≤6) (hle: ((j+1:Nat):Int)≤b) (h: ¬r<xF b (j+1)):bu b r (6 - j) (j+1)=bu b r (6 - (j+1)) (j+1+1):=by
 by_cases hb: ((j+1:Nat):Int)<b
 · rw[show 6 - j=(6 - (j+1))+1 by omega,aMu hb h]
 · rw[lw hb,lw (by omega)]
theorem aMw {b r:Int} {j:Nat} (hj:j+1≤6) (hle: ((j+1:Nat):Int)≤b) (h:r<xF b (j+1)):bu b r (6 - j) (j+1)=((j+1:Nat):Int):=by
 by_cases hb: ((j+1:Nat):Int)<b
 · rw[show 6 - j=(6 - (j+1))+1 by omega,aPj hb h]
 · rw[lw hb];omega
theorem aI6 {b n:Int} (hb:1≤b∧b≤6):0≤pd b n∧pd b n<xF b b.toNat:=by
 have h1:=(vP hb (d:=b.toNat) (by omega)).2.2 (by omega)
 have hr:=cn (fC (wrap64 (wrap64 (n*31)+b)))
 exact oA (x:=wrap64 (Int.tdiv (fC (fC (wrap64 (wrap64 (n*31)+b)))) 16)) (by rw[aF (by have:=pY hr.1 (n:=16) (by omega);omega)];exact(pY hr.1 (by omega)).1) (by omega)
theorem xm {u:List Bool} {b:Int} (hb:1≤b∧b≤6) {f:Int} (hf:0≤f∧f<b) (hfree:u.getD f.toNat false=false): ∀(g h:Nat) (a:Int),0≤a∧a<b→((f+b - a) % b).toNat≤g→((f+b - a) % b).toNat≤h→tQ u b g a=tQ u b h a
 |g,h,a,ha,hg,hh=>by
  cases hu:u.getD a.toNat false with
  |false=>rw[ff hu,ff hu]
  |true=>
   have hne:a≠f:=fun e=>by subst e;rw[hfree] at hu;cases hu
   obtain⟨q1,q2⟩:=aIs hb hf ha hne
   match g,h,hg,hh with
   |0,_,hg,_=>omega
   |_+1,0,_,hh=>omega
   |g+1,h+1,hg,hh=>
    rw[zY hu,zY hu]
    exact xm hb hf hfree g h _ q2 (by omega) (by omega)
theorem aPk {u:List Bool} {b:Int} (hb:1≤b∧b≤6) {f:Int} (hf:0≤f∧f<b) (hfree:u.getD f.toNat false=false) {a:Int} (ha:0≤a∧a<b) (hu:u.getD a.toNat false=true):tQ u b 6 a=tQ u b 6 (Int.tmod (wrap64 (a+1)) b):=by
 have h1:=Int.emod_lt_of_pos (f+b - a) (show 0<b by omega)
 have h2:=Int.emod_nonneg (f+b - a) (show b≠0 by omega)
 rw[xm hb hf hfree 6 7 a ha (by omega) (by omega),zY hu]
def qB (u:List Bool) (i:Nat):List Int:=((aYb i).filter fun i=>u.getD i false).map fun(i:Nat)=>((i:Nat):Int)
theorem xn {u:List Bool} {i:Nat} (h:u.getD i false=true):qB u (i+1)=qB u i++[(i:Int)]:=by
 unfold qB
 rw[List.range_succ,List.filter_append,List.map_append,List.filter_cons_of_pos (by exact h)]
 rfl
theorem pf {u:List Bool} {i:Nat} (h:u.getD i false=false):qB u (i+1)=qB u i:=by
 unfold qB
 rw[List.range_succ,List.filter_append,List.map_append,List.filter_cons_of_neg (by rw[h];exact Bool.false_ne_true)]
 exact List.append_nil _
theorem xo {u:List Bool}:qB u u.length=aVz u:=rfl
theorem so {u:List Bool} {i:Nat} (h: ∀j,i≤j→u.getD j false=false): ∀{m:Nat},i≤m→qB u m=qB u i
 |0,hm=>by rw[Nat.le_zero.1 hm]
 |m+1,hm=>by
  by_cases e:i=m+1
  · rw[e]
  · rw[pf (h m (by omega)),so h (by omega)]
theorem gg (u:List Bool) (i:Nat): (qB u i).length≤i:=by
 unfold qB
 rw[List.length_map]
 exact Nat.le_trans (List.length_filter_le _ _) (by simp)
theorem aI7 {u:List Bool} {i:Nat} {x:Int} (h:x∈qB u i):0≤x∧u.getD x.toNat false=true:=by
 unfold qB at h
 obtain⟨j,hj,rfl⟩:=aYc.1 h
 have:=(List.mem_filter.1 hj).2
 exact⟨by omega,by rw[aXy];exact this⟩
theorem ab {b n:Int} (h: ¬tW b n=true):cW b n=[]:=aB h
theorem cu {b n:Int} (h:tW b n=true) (hn:n<b):cW b n=[n]:=by rw[cW,aC h,aC hn]
theorem pg {b n:Int} (h:tW b n=true) (hn: ¬n<b):cW b n=aVz (xG b n):=by rw[cW,aC h,aB hn]
theorem ph {b:Int} (hb:1≤b∧b≤6): ∀(k:Nat) (x:Int) (u:List Bool),UOk b u→((u.count true:Int)+k≤b)→UOk b (aGq b k x u)
 |0,x,u,h,_=>h
 |k+1,x,u,h,hc=>by
  obtain⟨h1,h2⟩:=aGs (x:=x) hb h (by omega)
  exact ph hb k (fC x) _ h1 (by rw[h2];omega)
theorem wK {b n:Int}: ∀x∈cW b n,0≤x∧x<b:=by
 intro x hx
 by_cases h:tW b n=true
 · obtain⟨hb,hn⟩:=yD h
   by_cases hs:n<b
   · rw[cu h hs] at hx
     simp at hx;omega
   · rw[pg h hs] at hx
     have hu:UOk b (xG b n):=ph hb _ _ _ (yL b).1 (by rw[(yL b).2];have:=tZ h;omega)
     obtain⟨q1,q2⟩:=aI7 (i:=(xG b n).length) hx
     refine⟨q1,?_⟩
     by_cases hlt:x<b
     · exact hlt
     · rw[hu.2 x.toNat (by omega)] at q2;cases q2
 · rw[ab h] at hx;cases hx
theorem lx (b n:Int): (cW b n).length≤6:=by
 by_cases h:tW b n=true
 · obtain⟨hb,hn⟩:=yD h
   by_cases hs:n<b
   · rw[cu h hs];simp
   · rw[pg h hs]
     have hu:UOk b (xG b n):=ph hb _ _ _ (yL b).1 (by rw[(yL b).2];have:=tZ h;omega)
     rw[← xo]
     have:=gg (xG b n) (xG b n).length
     have:=hu.1;omega
 · rw[ab h];simp
def cw (t:List UInt8) (i c:Nat):List UInt8:=(aYb c).map fun j=>t.getD (4*i+j) 0
def wL (t:List UInt8) (k:Nat):List (List UInt8):=(aYb k).map fun i=>cw t i 4
def xq (a b:List UInt8) (k:Nat):List UInt8:=(aYb k).map fun i=>u8 (nr (jK a i) (jK b i))
theorem ae (t:List UInt8) (i c:Nat):cw t i (c+1)=cw t i c++[t.getD (4*i+c) 0]:=by
 unfold cw;rw[List.range_succ,List.map_append];rfl
theorem aI8 (t:List UInt8) (k:Nat):wL t (k+1)=wL t k++[cw t k 4]:=by
 unfold wL;rw[List.range_succ,List.map_append];rfl
theorem aI9 (a b:List UInt8) (k:Nat):xq a b (k+1)=xq a b k++[u8 (nr (jK a k) (jK b k))]:=by
 unfold xq;rw[List.range_succ,List.map_append];rfl
theorem mU (t:List UInt8) (i c:Nat): (cw t i c).length=c:=by simp[cw]
theorem af (t:List UInt8) (k:Nat): (wL t k).length=k:=by simp[wL]
theorem ly (a b:List UInt8) (k:Nat): (xq a b k).length=k:=by simp[xq]
theorem xr {t:List UInt8} (h:iQ t.length 1 24=true):dY t=wL t ((t.length+3) / 4):=aC h
theorem aCo {t:List UInt8} (h: ¬iQ t.length 1 24=true):dY t=[]:=aB h
theorem aJa {t:List UInt8}: (dY t).length≤6∧ ∀x∈dY t,x.length=4:=by
 by_cases h:iQ t.length 1 24=true
 · rw[xr h]
   refine⟨?_,fun x hx=> ?_⟩
   · rw[af]
     have h1: (1:Int)≤t.length∧(t.length:Int)≤24:=by simpa[iQ] using h
     omega
   · obtain⟨i,_,rfl⟩:=aYc.1 hx
     exact mU t i 4
 · rw[aCo h];exact⟨by simp,fun x hx=>by cases hx⟩
theorem sr (a b:List UInt8): (aAn a b).length=4:=by simp[aAn]
theorem xu (bl:List (List UInt8)): ∀(x:List UInt8) (l:List Int) (k:Int),yM bl x (l++[k])=aAn (yM bl x l) (bl.getD k.toNat [])
 |x,[],k=>rfl
 |x,j::l,k=>xu bl _ l k
def aPl (bl:List (List UInt8)) (ks:List Int) (i:Nat):List UInt8:=if i=0 then [] else yM bl [0,0,0,0] (ks.take i)
theorem aJb {bl:List (List UInt8)} {ks:List Int} {i:Nat} (h:i<ks.length) {x:List UInt8}:yM bl x (ks.take (i+1))=aAn (yM bl x (ks.take i)) (bl.getD (ks.getD i 0).toNat []):=by
 rw[eX (z:=0) h,xu]
theorem lz {bl:List (List UInt8)} {ks:List Int}: ∀{x:List UInt8},x.length=4→(yM bl x ks).length=4:=by
 induction ks with
 |nil=>intro x h;exact h
 |cons k ks ih=>intro x h;exact ih (sr _ _)
theorem ma {t:List UInt8} {n:Int} (h:dY t=[]∨cW (dY t).length n=[]):zZ t n=[]:=aC h
theorem mb {t:List UInt8} {n:Int} (h: ¬(dY t=[]∨cW (dY t).length n=[])):zZ t n=yM (dY t) [0,0,0,0] (cW (dY t).length n):=aB h
theorem aJc (n:Int):cW ((([]:List (List UInt8)).length:Nat):Int) n=[]:=ab (by simp[tW,iQ])
theorem aJd {t:List UInt8} {n:Int}:zZ t n=aPl (dY t) (cW (dY t).length n) (cW (dY t).length n).length:=by
 by_cases h:cW (dY t).length n=[]
 · rw[ma (.inr h),h];rfl
 · have h2: ¬dY t=[]:=fun e=>h (by rw[e];exact aJc n)
   rw[mb (by rintro(h3|h3);exact h2 h3;exact h h3),aPl,aB (by rw[List.length_eq_zero_iff];exact h),aYe]
theorem xv (t:List UInt8) (n:Int): (zZ t n).length≤4:=by
 rw[aJd,aPl]
 split
 · simp
 · rw[lz rfl];omega
theorem aV0 {t:List UInt8} {n:Int} {i:Nat} (h:i< (cW (dY t).length n).length):0≤(cW (dY t).length n).getD i 0∧(cW (dY t).length n).getD i 0< (dY t).length∧((dY t).getD ((cW (dY t).length n).getD i 0).toNat []).length=4:=by
 have h1:=wK (b:=(dY t).length) (n:=n) ((cW (dY t).length n).getD i 0) (by rw[aX6,aX9 h];exact List.getElem_mem _)
 refine⟨h1.1,h1.2,(aJa (t:=t)).2 _ ?_⟩
 rw[aX6,aX9 (by omega)];exact List.getElem_mem _
theorem getD_none {α:Type} {l:List α} {i:Nat} {z:α} (h:l.length≤i):l.getD i z=z:=by
 rw[aX6,List.getElem?_eq_none h];rfl
deriving instance DecidableEq for cI
theorem aCp {k:bH} {r:List UInt8} (h: (cV k r).2=true):dI (cV k r).1=true:=by
 unfold cV at h ⊢
 split at h
 · rename_i hk
   rw[aC hk]
   unfold lT at h ⊢
   split at h
   · rename_i hx
     rw[aC hx]
     simp only[aX3] at hx
     exact hx.2
   · cases h
 · cases h
theorem aCq: ∀{rs:List (List UInt8)} {k:bH},dI k=true→(gN k rs).2=true→dI (gN k rs).1=true
 | [],k,hk,h=>hk
 |r::rs,k,hk,h=>by
  unfold gN at h ⊢
  split at h
  · rename_i hd
    rw[aC hd]
    exact aCq (aCp hd) h
  · cases h
theorem aD8 {id:Int} (h:eR id=true):dI (dS id)=true:=by
 simp[dI,dS,h,iQ,kJ,oO]
theorem aMx {id:Int} {rs:List (List UInt8)} (h: (eI id rs).2=true):dI (eI id rs).1=true:=by
 unfold eI at h ⊢
 split at h
 · rename_i hn
   rw[aC hn]
   exact aCq (aD8 hn) h
 · cases h
theorem gF {k:aK} (h:aW k=true):dI (bA k).1=true:=by
 unfold aW at h
 simp only[aX3] at h
 exact aMx h.1.1.2
theorem kQ {k:aK} (h:aW k=true):bS k=(bA k).1:=aC h
theorem aD9 {k:aK} (h: ¬aW k=true):bS k= .zero:=aB h
theorem mc {k:aK} {f n mix:Int} (h: ¬(aW k&&k.up&&iQ mix 0 999&&decide (0≤bD (bA k).1.held f n))=true):eT k f n mix=(.zero,false):=aB h
theorem aAp {k:aK} {f n mix:Int} (h1:aW k=true) (h2:k.up=true) (h3:iQ mix 0 999=true) (h4:0≤bD (bA k).1.held f n):eT k f n mix=(aGt k ((bA k).1.held.getD (bD (bA k).1.held f n).toNat .zero) mix,true):=by
 unfold eT
 rw[aC (by rw[h1,h2,h3,decide_eq_true h4];rfl)]
theorem sG {k:aK} (h:aW k=true) {f n:Int} (hp:0≤bD (bA k).1.held f n): ∃j:Nat,bD (bA k).1.held f n=j∧j< (bA k).1.held.length∧((bA k).1.held.getD j .zero).text.length≤140737488355328:=by
 obtain⟨j,hj⟩:=Int.eq_ofNat_of_zero_le hp
 have hlt:=(fX (bA k).1.held f n).2
 refine⟨j,hj,by omega,?_⟩
 have h6:=fD (gF h)
 exact h6.2.1 _ (dQ (z:=bI.zero) (l:=(bA k).1.held) (i:=j) (by omega))
structure rH where
 frm:Int
 to:Int
 data:List UInt8
 done:Bool
 deriving DecidableEq
def rH.row (p:rH):List D:=[.i p.frm,.i p.to,.s p.data,.b p.done]
abbrev rH.V (p:rH):V:= .e (.agg [.d (.i p.frm),.d (.i p.to),.d (.s p.data),.d (.b p.done)])
def rH.zero:rH:=⟨0,0,[],false⟩
def xw (l:List rH):List (List D):=l.map rH.row
def aL (l:List aK):List (List D):=l.map aK.row
structure pj where
 time:Int
 keepers:List aK
 links:List Bool
 radio:List rH
 sent:List bI
 got:List bI
 deriving DecidableEq
def pj.row (r:pj):List D:=[.i r.time,.sl (aL r.keepers),.sl (aQ r.links),.sl (xw r.radio),.sl (aI r.sent),.sl (aI r.got)]
abbrev pj.V (r:pj):V:= .e (.agg [.d (.i r.time),.d (.sl (aL r.keepers)),.d (.sl (aQ r.links)),.d (.sl (xw r.radio)),.d (.sl (aI r.sent)),.d (.sl (aI r.got))])
def pj.zero:pj:=⟨0,[],[],[],[],[]⟩
theorem bN (l:List aK): (aL l).length=l.length:=by simp[aL]
theorem cH {l:List aK} {i:Nat} (h:i<l.length): (aL l).getD i []=(l.getD i aK.zero).row:=by
 rw[aX6,aX6]
 simp[aL,h]
theorem md {l:List UInt8} {f:Int} {rec:List UInt8} (h: ¬dF l f=true):bC l f rec=(([],0),false):=aB h
theorem wM {l:List UInt8} {f:Int} {rec:List UInt8} (h:dF l f=true) (h2: ¬(iY rec=true∧l.length+(cP rec).length≤2400)):bC l f rec=((l,f),false):=by
 unfold bC
 rw[aC h,aB (by simpa using h2)]
theorem rI {l:List UInt8} {f:Int} {rec:List UInt8} (h:dF l f=true) (h2:iY rec=true∧l.length+(cP rec).length≤2400):bC l f rec=((l++cP rec,f),true):=by
 unfold bC
 rw[aC h,aC (by simpa using h2)]
theorem gh {l:List UInt8} {f:Int} {recs:List (List UInt8)} (h: ¬dF l f=true):eK l f recs=(([],0),false):=aB h
theorem uN {l:List UInt8} {f:Int} {recs:List (List UInt8)} (h:dF l f=true) (h2: ¬(recs.all iY=true∧(dG recs).length≤2400)):eK l f recs=((l,f),false):=by
 unfold eK
 rw[aC h,aB (by simpa using h2)]
theorem xH {l:List UInt8} {f:Int} {recs:List (List UInt8)} (h:dF l f=true) (h2:recs.all iY=true∧(dG recs).length≤2400):eK l f recs=((dG recs,((dG recs).length:Int)),true):=by
 unfold eK
 rw[aC h,aC (by simpa using h2)]
theorem me {recs:List (List UInt8)} {i:Nat} (h:i<recs.length):dG (recs.take (i+1))=dG (recs.take i)++cP (recs.getD i []):=by
 rw[eX (z:=[]) h,aD6]
theorem xx (recs:List (List UInt8)) (i:Nat): (dG (recs.take i)).length≤(dG recs).length:=by
 conv=>rhs;rw[← List.take_append_drop i recs]
 unfold dG
 rw[List.map_append,List.flatten_append,aXz]
 omega
theorem xI: ∀{recs:List (List UInt8)},(∀r∈recs,r.length≤900000)→(dG recs).length≤recs.length*900008
 | [],_=>by simp[dG]
 |r::recs,h=>by
  have h1:=oE (h r (List.mem_cons_self ..))
  have h2:=xI (recs:=recs) fun x hx=>h x (List.mem_cons_of_mem _ hx)
  have h3:=h r (List.mem_cons_self ..)
  have e:dG (r::recs)=cP r++dG recs:=by simp[dG]
  rw[e,aXz,aX1]
  omega
theorem aGu {recs:List (List UInt8)} {i:Nat} (h:i<recs.length) (hb:iY (recs.getD i [])=false): ¬recs.all iY=true:=by
 intro h9
 rw[aYd.1 h9 _ (dQ h)] at hb
 cases hb
theorem aCr {recs:List (List UInt8)} (hk: ∀j,j<recs.length→iY (recs.getD j [])=true):recs.all iY=true:=by
 rw[aYd]
 intro x hx
 obtain⟨i,hi⟩:=List.mem_iff_getElem?.1 hx
 have hlt:=(aYa.1 hi).1
 have:=hk i hlt
 rw[aX6,hi] at this
 exact this
theorem mf {a:Bool} {n m:Nat} {c:Bool} (h: (!a||decide (wrap64 ((n:Int)+(m:Int))>2400))=c) (hn:n≤2400) (hm:m≤1000000): (a=true∧n+m≤2400)↔c=false:=by
 subst h
 rw[aF (by omega)]
 cases a
 · simp
 · simp;omega
theorem aPm {a:Bool} {n:Nat} (h: (!a||decide ((n:Int)>2400))=false):a=true∧n≤2400:=by
 cases a
 · cases h
 · exact⟨rfl,by have h9:=of_decide_eq_false (show decide ((n:Int)>2400)=false from h);omega⟩
theorem aMy {a:Bool} {n:Nat} (h: (!a||decide ((n:Int)>2400))=true):a=false∨2400<n:=by
 cases a
 · exact .inl rfl
 · exact .inr (by have h9:=of_decide_eq_true (show decide ((n:Int)>2400)=true from h);omega)
def vQ (k:bH):List (List UInt8):=if 0<k.time then [lA k.time.toNat] else []
def yN (k:bH):List (List UInt8):=vQ k++(if 1<k.next then [pP k.next.toNat] else [])
def oY (k:bH) (i:Nat):List (List UInt8):=yN k++(k.marks.take i).map (lB iL)
def qI (k:bH) (i:Nat):List (List UInt8):=oY k k.marks.length++(k.held.take i).map (dC iC)
def oZ (k:bH) (i:Nat):List (List UInt8):=qI k k.held.length++(k.inbox.take i).map (dC fS)
theorem aCs {k:bH} (h:k.time>0):vQ k=[lA k.time.toNat]:=aC h
theorem aGv {k:bH} (h: ¬k.time>0):vQ k=[]:=aB h
theorem aCt {k:bH} (h:k.next>1):yN k=vQ k++[pP k.next.toNat]:=by rw[yN,aC h]
theorem aGw {k:bH} (h: ¬k.next>1):yN k=vQ k:=by rw[yN,aB h,List.append_nil]
theorem xy (k:bH):oY k 0=yN k:=by simp[oY]
theorem xz (k:bH):qI k 0=oY k k.marks.length:=by simp[qI]
theorem ya (k:bH):oZ k 0=qI k k.held.length:=by simp[oZ]
theorem yb {k:bH} {i:Nat} (h:i<k.marks.length):oY k (i+1)=oY k i++[lB iL (k.marks.getD i .zero)]:=by
 unfold oY
 rw[eX (z:=cD.zero) h,List.map_append,← List.append_assoc];rfl
theorem yc {k:bH} {i:Nat} (h:i<k.held.length):qI k (i+1)=qI k i++[dC iC (k.held.getD i .zero)]:=by
 unfold qI
 rw[eX (z:=bI.zero) h,List.map_append,← List.append_assoc];rfl
theorem yd {k:bH} {i:Nat} (h:i<k.inbox.length):oZ k (i+1)=oZ k i++[dC fS (k.inbox.getD i .zero)]:=by
 unfold oZ
 rw[eX (z:=bI.zero) h,List.map_append,← List.append_assoc];rfl
theorem aCu (k:bH):oZ k k.inbox.length=iu k:=by
 unfold oZ qI oY yN vQ iu
 rw[aYe,aYe,aYe]
theorem ye (k:bH): (yN k).length≤2:=by
 unfold yN vQ
 split<;>split<;>simp
theorem yf (k:bH) (i:Nat): (oY k i).length≤2+k.marks.length:=by
 have:=ye k
 unfold oY
 rw[aXz,List.length_map,aX4];omega
theorem yg (k:bH) (i:Nat): (qI k i).length≤2+k.marks.length+k.held.length:=by
 have:=yf k k.marks.length
 unfold qI
 rw[aXz,List.length_map,aX4];omega
theorem mh (k:bH) (i:Nat): (oZ k i).length≤2+k.marks.length+k.held.length+k.inbox.length:=by
 have:=yg k k.held.length
 unfold oZ
 rw[aXz,List.length_map,aX4];omega
theorem ah {k:bH} (h:dI k=true):eL k=oZ k k.inbox.length:=by rw[aCu];exact aC h
theorem cy {k:bH} (h: ¬dI k=true):eL k=[]:=aB h
theorem yh {k:bH} (hk:dI k=true) {i:Nat} (h:i<k.marks.length): (0≤(k.marks.getD i .zero).frm∧(k.marks.getD i .zero).frm≤3)∧(1≤(k.marks.getD i .zero).num∧(k.marks.getD i .zero).num≤99)∧(1≤(k.marks.getD i .zero).til∧(k.marks.getD i .zero).til≤999):=by
 obtain⟨_,⟨_,h5,_⟩,_⟩:=(cC k).1 hk
 exact rB (wI h5 (dQ h))
theorem mW (n:bI): (gE n).length≤60:=by
 by_cases h:eV n=true
 · obtain⟨p1,p2,p3,p4,p5⟩:=mR h
   have q1:=bW (k:=3) (n:=n.frm.toNat) (by simp;omega)
   have q2:=bW (k:=3) (n:=n.num.toNat) (by simp;omega)
   have q3:=bW (k:=3) (n:=n.to.toNat) (by simp;omega)
   have q4:=bW (k:=3) (n:=n.til.toNat) (by simp;omega)
   rw[gE,aC h]
   simp only[kV,aXz,aX1,aX2];omega
 · rw[gE,aB h];simp
theorem cz {w:List UInt8} {m:cD} (h: (0≤m.frm∧m.frm≤1000000)∧(0≤m.num∧m.num≤1000000)∧(0≤m.til∧m.til≤1000000)): (lB w m).length≤w.length+30:=by
 have q1:=bW (k:=6) (n:=m.frm.toNat) (by simp;omega)
 have q2:=bW (k:=6) (n:=m.num.toNat) (by simp;omega)
 have q3:=bW (k:=6) (n:=m.til.toNat) (by simp;omega)
 unfold lB
 simp only[aXz,aX1,aX2];omega
theorem tR (w:List UInt8) (n:bI): (dC w n).length≤w.length+61:=by
 have:=mW n
 unfold dC
 simp only[aXz,aX1,aX2];omega
theorem wN {n:Nat} (h:n≤1000000): (lA n).length≤12:=by
 have:=bW (k:=6) (n:=n) (by simp;omega)
 unfold lA jD
 simp only[aXz,aX1,aX2];omega
theorem ss {n:Nat} (h:n≤1000000): (pP n).length≤12:=by
 have:=bW (k:=6) (n:=n) (by simp;omega)
 unfold pP jL
 simp only[aXz,aX1,aX2];omega
theorem oF {k:bH}: (eL k).length≤26∧ ∀r∈eL k,r.length≤100:=by
 by_cases hk:dI k=true
 · obtain⟨⟨_,ht,hn,h1,h2,h3⟩,⟨h4,h5,h6⟩,_⟩:=(cC k).1 hk
   rw[ah hk]
   refine⟨by have:=mh k k.inbox.length;omega,fun r hr=> ?_⟩
   rw[aCu] at hr
   unfold iu at hr
   simp only[List.mem_append,aYc] at hr
   rcases hr with(((hr|hr)|⟨m,hm,rfl⟩)|⟨m,hm,rfl⟩)|⟨m,hm,rfl⟩
   · split at hr
     · rw[List.mem_singleton.1 hr];have:=wN (n:=k.time.toNat) (by omega);omega
     · cases hr
   · split at hr
     · rw[List.mem_singleton.1 hr];have:=ss (n:=k.next.toNat) (by omega);omega
     · cases hr
   · obtain⟨q1,q2,q3⟩:=rB (wI h5 hm)
     have:=cz (w:=iL) (m:=m) (by omega)
     have e:iL.length=4:=rfl
     omega
   · have:=tR iC m
     have e:iC.length=4:=rfl
     omega
   · have:=tR fS m
     have e:fS.length=5:=rfl
     omega
 · rw[cy hk];exact⟨by simp,fun r hr=>by cases hr⟩
def dO (k:aK): (List UInt8×Int)×Bool:=eK k.log k.forced (eL (bA k).1)
theorem aEa {k:aK} {rec:List UInt8} (h1: ¬(cV (bA k).1 rec).2=true):jI k rec=(k,false):=by
 unfold jI;rw[aB h1]
theorem pI {k:aK} {rec:List UInt8} (h1: (cV (bA k).1 rec).2=true) (h2: (bC k.log k.forced rec).2=true):jI k rec=(jH k (bC k.log k.forced rec).1,true):=by
 unfold jI;rw[aC h1,aC h2]
theorem su {k:aK} {rec:List UInt8} (h1: (cV (bA k).1 rec).2=true) (h2: ¬(bC k.log k.forced rec).2=true) (h3: ¬(dO k).2=true):jI k rec=(k,false):=by
 unfold jI
 rw[aC h1,aB h2]
 show(if(dO k).2=true then(if(bC (dO k).1.1 (dO k).1.2 rec).2=true then(jH k (bC (dO k).1.1 (dO k).1.2 rec).1,true) else(k,false)) else(k,false))=_
 rw[aB h3]
theorem pn {k:aK} {rec:List UInt8} (h1: (cV (bA k).1 rec).2=true) (h2: ¬(bC k.log k.forced rec).2=true) (h3: (dO k).2=true) (h4: ¬(bC (dO k).1.1 (dO k).1.2 rec).2=true):jI k rec=(k,false):=by
 unfold jI
 rw[aC h1,aB h2]
 show(if(dO k).2=true then(if(bC (dO k).1.1 (dO k).1.2 rec).2=true then(jH k (bC (dO k).1.1 (dO k).1.2 rec).1,true) else(k,false)) else(k,false))=_
 rw[aC h3,aB h4]
theorem po {k:aK} {rec:List UInt8} (h1: (cV (bA k).1 rec).2=true) (h2: ¬(bC k.log k.forced rec).2=true) (h3: (dO k).2=true) (h4: (bC (dO k).1.1 (dO k).1.2 rec).2=true):jI k rec=(jH k (bC (dO k).1.1 (dO k).1.2 rec).1,true):=by
 unfold jI
 rw[aC h1,aB h2]
 show(if(dO k).2=true then(if(bC (dO k).1.1 (dO k).1.2 rec).2=true then(jH k (bC (dO k).1.1 (dO k).1.2 rec).1,true) else(k,false)) else(k,false))=_
 rw[aC h3,aC h4]
theorem aMz {k:aK} (hs:dF k.log k.forced=true) (h: ¬(dO k).2=true): (dO k).1=(k.log,k.forced):=by
 unfold dO eK at h ⊢
 rw[aC hs] at h ⊢
 split at h
 · exact absurd rfl h
 · rename_i h9
   rw[aB h9]
theorem iv {k:aK} (hl:k.log.length≤140737488355328): (dO k).1.1.length≤140737488355328:=by
 unfold dO eK
 split
 · split
   · rename_i h9
     simp only[aX3,aD] at h9
     show(dG _).length≤_
     omega
   · exact hl
 · simp
theorem yi {k:aK} {rec:List UInt8} (hs:dF k.log k.forced=true) (h1: (cV (bA k).1 rec).2=true) (h2: ¬(bC k.log k.forced rec).2=true) (h4: ¬(bC (dO k).1.1 (dO k).1.2 rec).2=true):jI k rec=(k,false):=by
 by_cases h3: (dO k).2=true
 · exact pn h1 h2 h3 h4
 · exact su h1 h2 h3
theorem oG {k:aK} {rec:List UInt8} (hs:dF k.log k.forced=true) (h1: (cV (bA k).1 rec).2=true) (h2: ¬(bC k.log k.forced rec).2=true) (h4: (bC (dO k).1.1 (dO k).1.2 rec).2=true):jI k rec=(jH k (bC (dO k).1.1 (dO k).1.2 rec).1,true):=by
 by_cases h3: (dO k).2=true
 · exact po h1 h2 h3 h4
 · rw[aMz hs h3] at h4
   exact absurd h4 h2
def gA (k:aK) (rec:List UInt8) (fc:Bool):aK×Bool:=if(jI k rec).2 then(if fc then jR (jI k rec).1 else(jI k rec).1,true) else(k,false)
theorem oT {l:List UInt8} {f:Int} {rec:List UInt8} (hl:l.length≤140737488355328): (bC l f rec).1.1.length≤140737488355328:=by
 unfold bC
 split
 · split
   · rename_i h9
     simp only[aX3,aD] at h9
     show(l++cP rec).length≤_
     rw[aXz];omega
   · exact hl
 · simp
theorem yj {k:aK} {rec:List UInt8} (hl:k.log.length≤140737488355328): (jI k rec).1.log.length≤140737488355328∧(jI k rec).1.halves=k.halves:=by
 unfold jI
 split
 · split
   · exact⟨oT hl,rfl⟩
   · split
     · split
       · exact⟨oT (iv hl),rfl⟩
       · exact⟨hl,rfl⟩
     · exact⟨hl,rfl⟩
 · exact⟨hl,rfl⟩
theorem sv {k:aK} {rec:List UInt8} (h: (jI k rec).2=true):dM k rec=(jR (jI k rec).1,true):=aC h
theorem aJe {k:aK} {rec:List UInt8} (h: ¬(jI k rec).2=true):dM k rec=(k,false):=aB h
theorem nK {k:aK} (h:aW k=true):KB (bA k).1:=(fD (gF h)).seven.big
theorem gP {a:Bool} (h: (!a)=false):a=true:=by simpa using h
theorem lF {a:Bool} (h: (!a)=true): ¬a=true:=by simpa using h
theorem iw (k:bH) {n:Nat} (hn:n<100000):eS k (lA n)=lE k jD n:=by
 have e:lA n=jD++32::kH n:=by simp[lA]
 obtain⟨h1,h2,h3⟩:=nG (w:=jD) (r:=kH n) (by decide)
 rw[e,wx h3 (by rw[h1];rfl) (by rw[h2,nH hn];rfl),h1,h2,sF (nH hn)]
theorem aj {k:bH} (hk:dI k=true) (rec:List UInt8):cV k rec=lT k (eS k rec):=aC hk
theorem aM0 {k:bH} (hk:dI k=true) (h:k.time≥999): ¬(cV k (lA (k.time+1).toNat)).2=true:=by
 obtain⟨⟨_,ht,_⟩,_⟩:=(cC k).1 hk
 rw[aj hk,iw k (by omega)]
 have e: (((k.time+1).toNat:Nat):Int)=k.time+1:=by omega
 rw[e]
 have hd:lE k jD (k.time+1)=(kZ k (k.time+1),true):=by
  unfold lE
  rw[aC (by rw[decide_eq_true (by omega)];rfl)]
 rw[hd]
 unfold lT
 rw[aB]
 · simp
 · intro h9
   simp only[Bool.true_and] at h9
   obtain⟨⟨_,ht2,_⟩,_⟩:=(cC _).1 h9
   have e2: (kZ k (k.time+1)).time=k.time+1:=rfl
   omega
theorem aM1 {k:bH} (hk:dI k=true) {n:bI} (h:gE n=[]): ¬(cV k (dC iE n)).2=true:=by
 have e:dC iE n=iE++32::[]:=by rw[dC,h];simp
 obtain⟨h1,h2,h3⟩:=nG (w:=iE) (r:=[]) (by decide)
 rw[aj hk,e,sE h3 (by rw[h1];rfl) (by rw[h1];rfl) (by rw[h2];rfl)]
 simp[lT]
theorem aEb {k:aK} {rec:List UInt8} (h: ¬(dM k rec).2=true): (dM k rec).1=k:=by
 unfold dM at h ⊢
 split at h
 · exact absurd rfl h
 · rename_i h9;rw[aB h9]
theorem mi {k:aK} {rec:List UInt8} (h: ¬(cV (bA k).1 rec).2=true):dM k rec=(k,false):=by
 unfold dM;rw[aEa h];rfl
theorem da {k:aK} (h: ¬aW k=true):cF k=(.zero,false):=aB h
theorem uA {k:aK} (h:aW k=true) (hu: ¬k.up=true):cF k=(k,false):=by rw[cF,aC h,aB hu]
theorem xJ {k:aK} (h:aW k=true) (hu:k.up=true):cF k=dM k (lA ((bA k).1.time+1).toNat):=by rw[cF,aC h,aC hu]
theorem tk {k:aK} (h:aW k=true) (ht: (bA k).1.time≥999):cF k=(k,false):=by
 by_cases hu:k.up=true
 · rw[xJ h hu,mi (aM0 (gF h) ht)]
 · exact uA h hu
theorem gi {k:aK} {to til:Int} {text:List UInt8} (h: ¬aW k=true):aU k to til text=(.zero,0):=aB h
theorem db {k:aK} {to til:Int} {text:List UInt8} (h:aW k=true) (hu: ¬k.up=true):aU k to til text=(k,0):=by rw[aU,aC h,aB hu]
theorem ak {k:aK} {to til:Int} {text:List UInt8} (h:aW k=true) (hl: ¬(dM k (dC iE (hG k to til text))).2=true):aU k to til text=(k,0):=by
 rw[aU,aC h]
 split
 · first|rfl|rw[aB hl]
 · rfl
theorem mj {k:aK} {to til:Int} {text:List UInt8} (h:aW k=true) (hu:k.up=true) (hl: (dM k (dC iE (hG k to til text))).2=true):aU k to til text=((dM k (dC iE (hG k to til text))).1,(bA k).1.next):=by
 rw[aU,aC h,aC hu,aC hl]
theorem yk {k:aK} {to til:Int} {text:List UInt8} (h:aW k=true) (hn:gE (hG k to til text)=[]):aU k to til text=(k,0):=by
 refine ak h ?_
 rw[mi (aM1 (gF h) hn)]
 simp
theorem aAq {k:aK} {f n:Int} (h: ¬aW k=true):cS k f n=(.zero,.zero,false):=aB h
theorem aEc {k:aK} {f n:Int} (h:aW k=true) (hc: ¬(k.up=true∧0≤bD (bA k).1.inbox f n)):cS k f n=(k,.zero,false):=by
 rw[cS,aC h,aB (by simpa using hc)]
theorem yl {k:aK} {f n:Int} (h:aW k=true) (hc:k.up=true∧0≤bD (bA k).1.inbox f n) (hl: ¬(dM k (aa k f n)).2=true):cS k f n=(k,.zero,false):=by
 rw[cS,aC h,aC (by simpa using hc),aB hl]
theorem aEd {k:aK} {f n:Int} (h:aW k=true) (hc:k.up=true∧0≤bD (bA k).1.inbox f n) (hl: (dM k (aa k f n)).2=true):cS k f n=((dM k (aa k f n)).1,(bA k).1.inbox.getD (bD (bA k).1.inbox f n).toNat .zero,true):=by
 rw[cS,aC h,aC (by simpa using hc),aC hl]
theorem ym {k:aK} (h:aW k=true) {f n:Int} (hp:0≤bD (bA k).1.inbox f n): ∃j:Nat,bD (bA k).1.inbox f n=j∧j< (bA k).1.inbox.length∧((0≤f∧f≤1000000)∧(0≤n∧n≤1000000)∧(0≤((bA k).1.inbox.getD j .zero).til∧((bA k).1.inbox.getD j .zero).til≤1000000)):=by
 obtain⟨j,hj⟩:=Int.eq_ofNat_of_zero_le hp
 have hlt:=(fX (bA k).1.inbox f n).2
 obtain⟨_,⟨_,_,h6⟩,_⟩:=(cC _).1 (gF h)
 obtain⟨q1,q2,q3⟩:=iq h6 hp
 rw[hj,aXy] at q1 q2 q3
 obtain⟨p1,p2,p3,p4,p5⟩:=mR q1
 exact⟨j,hj,by omega,by omega,by omega,by omega⟩
theorem yn {k:aK} (h: ¬aW k=true):eP k=(.zero,false):=aB h
theorem tl {k:aK} (h:aW k=true) (hu: ¬k.up=true):eP k=(k,false):=by
 rw[eP,aC h,aB (by simp[hu])]
theorem aAr {k:aK} (h:aW k=true) (hp: ¬(dO k).2=true):eP k=(k,false):=by
 rw[eP,aC h,aB]
 intro h9
 simp only[aX3] at h9
 exact hp h9.2
theorem aAs {k:aK} (h:aW k=true) (hu:k.up=true) (hp: (dO k).2=true):eP k=(jH k (dO k).1,true):=by
 rw[eP,aC h,aC]
 · rfl
 · rw[hu];exact hp
def wO (b:Int) (m:iJ):Bool:=tW b m.num&&decide (m.data.length=4)
def unk (kn:List (List UInt8)) (j:Int):Bool:=(kn.getD j.toNat []).isEmpty
def jS (kn:List (List UInt8)) (ks:List Int):List Int:=ks.filter (unk kn)
def rJ (kn:List (List UInt8)):List UInt8→List Int→List UInt8
 |x,[]=>x
 |x,j::js=>rJ kn (if unk kn j then x else aAn x (kn.getD j.toNat [])) js
def jN (b:Int) (kn:List (List UInt8)) (m:iJ):List (List UInt8)×Bool:=
 if wO b m&&(jS kn (cW b m.num)).length==1 then(kn.set ((jS kn (cW b m.num)).getD 0 0).toNat (rJ kn m.data (cW b m.num)),true) else(kn,false)
def cU (b:Int):List iJ→List (List UInt8)×Bool→List (List UInt8)×Bool
 | [],s=>s
 |m::l,s=>cU b l ((jN b s.1 m).1,s.2||(jN b s.1 m).2)
def sH (b:Int) (l:List iJ):Nat→List (List UInt8)→List (List UInt8)
 |0,kn=>kn
 |f+1,kn=>if(cU b l (kn,false)).2 then sH b l f (cU b l (kn,false)).1 else(cU b l (kn,false)).1
def eM (b:Int) (l:List iJ):List (List UInt8):=if iQ b 1 6 then sH b l 7 (List.replicate b.toNat []) else []
def bv (b:Int) (kn:List (List UInt8)):Prop:=(kn.length:Int)=b∧ ∀x∈kn,x.length=0∨x.length=4
def uO (kn:List (List UInt8)):Nat:=kn.countP (·.isEmpty)
theorem bv.at {b:Int} {kn:List (List UInt8)} (h:bv b kn) {j:Nat} (hj:j<kn.length): (kn.getD j []).length=0∨(kn.getD j []).length=4:=h.2 _ (dQ hj)
theorem bv.start {b:Int} (hb:0≤b):bv b (List.replicate b.toNat []):=by
 refine⟨by rw[List.length_replicate];omega,fun x hx=> ?_⟩
 rw[(List.mem_replicate.1 hx).2];exact .inl rfl
theorem al {kn:List (List UInt8)}: ∀{ks:List Int} {x:List UInt8},x.length=4→(rJ kn x ks).length=4
 | [],x,h=>h
 |j::js,x,h=>by
  unfold rJ
  refine al ?_
  split
  · exact h
  · exact sr _ _
theorem aCv {kn:List (List UInt8)} {ks:List Int} {j:Int} (h:j∈jS kn ks):j∈ks∧unk kn j=true:=by
 unfold jS at h
 exact List.mem_filter.1 h
theorem aGx: ∀{kn:List (List UInt8)} {j:Nat} {x:List UInt8},j<kn.length→(kn.getD j []).isEmpty=true→x.isEmpty=false→uO (kn.set j x)+1=uO kn
 | [],j,x,h,_,_=>by simp at h
 |y::kn,0,x,h,h1,h2=>by
  have h1:y.isEmpty=true:=h1
  simp[uO,List.countP_cons,h1,h2]
 |y::kn,j+1,x,h,h1,h2=>by
  have ih:=aGx (kn:=kn) (j:=j) (x:=x) (by simpa using h) (by simpa using h1) h2
  simp only[uO,List.set_cons_succ,List.countP_cons] at ih ⊢
  omega
theorem aJf {b:Int} {kn:List (List UInt8)} {m:iJ} (h:bv b kn):bv b (jN b kn m).1∧((jN b kn m).2=true→uO (jN b kn m).1+1=uO kn)∧((jN b kn m).2=false→(jN b kn m).1=kn):=by
 unfold jN
 split
 · rename_i hc
   simp only[aX3,beq_iff_eq,wO,aD] at hc
   obtain⟨⟨h1,h4⟩,hl⟩:=hc
   have hm: (jS kn (cW b m.num)).getD 0 0∈jS kn (cW b m.num):=dQ (by omega)
   obtain⟨q1,q2⟩:=aCv hm
   have hr:=wK _ q1
   have hx:=al (kn:=kn) (ks:=cW b m.num) h4
   have hlt: ((jS kn (cW b m.num)).getD 0 0).toNat<kn.length:=by have:=h.1;omega
   refine⟨⟨by rw[List.length_set];exact h.1,fun x hx'=> ?_⟩,fun _=> ?_,fun h9=>by cases h9⟩
   · rcases List.mem_or_eq_of_mem_set hx' with h9|h9
     · exact h.2 x h9
     · rw[h9];exact .inr hx
   · refine aGx hlt q2 ?_
     cases hq:rJ kn m.data (cW b m.num) with
     |nil=>rw[hq] at hx;cases hx
     |cons _ _=>rfl
 · exact⟨h,fun h9=>(by cases h9),fun _=>rfl⟩
theorem sI {b:Int}: ∀{l:List iJ} {s:List (List UInt8)×Bool},bv b s.1→bv b (cU b l s).1∧uO (cU b l s).1≤uO s.1∧(s.2=false→(cU b l s).2=true→uO (cU b l s).1<uO s.1)∧(s.2=true→(cU b l s).2=true)
 | [],s,h=>⟨h,aX8 _,fun h1 h2=>(by
  have h2:s.2=true:=h2
  rw[h1] at h2;cases h2),fun h1=>h1⟩
 |m::l,s,h=>by
  obtain⟨p1,p2,p3⟩:=aJf (m:=m) h
  obtain⟨r1,r2,r3,r4⟩:=sI (l:=l) (s:=((jN b s.1 m).1,s.2||(jN b s.1 m).2)) p1
  unfold cU
  cases hd: (jN b s.1 m).2 with
  |true=>
   have:=p2 hd
   rw[hd] at r1 r2 r3 r4
   have r2:uO (cU b l ((jN b s.1 m).1,s.2||true)).1≤uO (jN b s.1 m).1:=r2
   exact⟨r1,by omega,fun _ _=>by omega,fun h1=>r4 (by simp)⟩
  |false=>
   have e:=p3 hd
   rw[hd] at r1 r2 r3 r4
   refine⟨r1,by rw[e] at r2 ⊢; exact r2,fun h1 h2=> ?_,fun h1=>r4 (by simp[h1])⟩
   have:=r3 (by simp[h1]) h2
   simp only[e] at this ⊢
   exact this
theorem yo {kn:List (List UInt8)} {ks:List Int} {j:Int} (h:unk kn j=true):jS kn (ks++[j])=jS kn ks++[j]:=by
 unfold jS;rw[List.filter_append,List.filter_cons_of_pos h];rfl
theorem aAt {kn:List (List UInt8)} {ks:List Int} {j:Int} (h:unk kn j=false):jS kn (ks++[j])=jS kn ks:=by
 unfold jS;rw[List.filter_append,List.filter_cons_of_neg (by rw[h];exact Bool.false_ne_true)];exact List.append_nil _
theorem ix {kn:List (List UInt8)}: ∀{ks:List Int} {x:List UInt8} {j:Int},rJ kn x (ks++[j])=if unk kn j then rJ kn x ks else aAn (rJ kn x ks) (kn.getD j.toNat [])
 | [],x,j=>by
  show(if unk kn j then x else aAn x (kn.getD j.toNat []))=_
  rfl
 |k::ks,x,j=>ix (ks:=ks)
theorem aM3 {kn:List (List UInt8)} {ks:List Int} {x:List UInt8} {j:Int} (h:unk kn j=true):rJ kn x (ks++[j])=rJ kn x ks:=by rw[ix,aC h]
theorem aPn {kn:List (List UInt8)} {ks:List Int} {x:List UInt8} {j:Int} (h:unk kn j=false):rJ kn x (ks++[j])=aAn (rJ kn x ks) (kn.getD j.toNat []):=by rw[ix,aB (by rw[h];exact Bool.false_ne_true)]
theorem ml {b:Int} {m:iJ}: ∀{l:List iJ} {s:List (List UInt8)×Bool},cU b (l++[m]) s=((jN b (cU b l s).1 m).1,(cU b l s).2||(jN b (cU b l s).1 m).2)
 | [],s=>rfl
 |k::l,s=>ml (l:=l)
theorem sw {b:Int} {l:List iJ}: ∀(f g:Nat) {kn:List (List UInt8)},bv b kn→uO kn<f→uO kn<g→sH b l f kn=sH b l g kn
 |0,_,kn,_,h,_=>absurd h (by omega)
 |_+1,0,kn,_,_,h=>absurd h (by omega)
 |f+1,g+1,kn,hk,hf,hg=>by
  obtain⟨r1,r2,r3,_⟩:=sI (l:=l) (s:=(kn,false)) hk
  unfold sH
  split
  · rename_i hd
    have hlt:=r3 rfl hd
    have hlt:uO (cU b l (kn,false)).1<uO kn:=hlt
    exact sw f g r1 (by omega) (by omega)
  · rfl
theorem aSb (kn:List (List UInt8)):uO kn≤kn.length:=List.countP_le_length
theorem aSc {b:Int} (hb:b≤6) {l:List iJ} {kn:List (List UInt8)} (hk:bv b kn) (hd: (cU b l (kn,false)).2=true):sH b l 7 kn=sH b l 7 (cU b l (kn,false)).1∧uO (cU b l (kn,false)).1<uO kn∧bv b (cU b l (kn,false)).1:=by
 obtain⟨r1,r2,r3,_⟩:=sI (l:=l) (s:=(kn,false)) hk
 have hlt:uO (cU b l (kn,false)).1<uO kn:=r3 rfl hd
 have h6:uO kn≤6:=by have:=aSb kn;have:=hk.1;omega
 refine⟨?_,hlt,r1⟩
 rw[sw 7 8 hk (by omega) (by omega)]
 show(if(cU b l (kn,false)).2 then sH b l 7 (cU b l (kn,false)).1 else(cU b l (kn,false)).1)=_
 rw[aC hd]
theorem aPo {b:Int} {l:List iJ} {kn:List (List UInt8)} (hd: (cU b l (kn,false)).2=false):sH b l 7 kn=(cU b l (kn,false)).1:=by
 show(if(cU b l (kn,false)).2 then sH b l 6 (cU b l (kn,false)).1 else(cU b l (kn,false)).1)=_
 rw[aB (by rw[hd];exact Bool.false_ne_true)]
theorem aEe {kn:List (List UInt8)} {j:Nat} {x:List UInt8} (h:j<kn.length): (bF kn).set j (dN ((bF kn).getD j []) 0 [D.s x])=bF (kn.set j x):=by
 rw[fZ h]
 show(bF kn).set j [D.s x]=_
 rw[bF,bF,← List.map_set (f:=fun y:List UInt8=>[D.s y])]
theorem aCw {b:Int} {m:iJ} {c:Bool} (h: (!(tW b m.num&&decide ((m.data.length:Int)=4)))=c):wO b m= !c:=by
 subst h
 unfold wO
 rw[Bool.not_not]
 congr 1
 exact decide_eq_decide.2 (by omega)
theorem aGy {b:Int} {m:iJ} (h:wO b m=true):m.data.length=4:=by
 unfold wO at h
 rw[aX3] at h
 exact of_decide_eq_true h.2
theorem aV1 {n:Nat} (h: ((n:Int)==1)=true):n=1:=by
 have h9: (n:Int)=1:=by simpa using h
 omega
theorem aJg {n:Nat} (h: ((n:Int)==1)=false): ¬n=1:=by
 have h9: ¬(n:Int)=1:=by simpa using h
 omega
def rK:List (List UInt8)→List UInt8:=List.flatten
def eB (size:Int) (l:List iJ):List UInt8×Bool:=
 if iQ size 1 24 then
  (if(eM ((size+3) / 4) l).any (·.isEmpty) then([],false)
   else if((rK (eM ((size+3) / 4) l)).drop size.toNat).any (· != 0) then([],false)
   else((rK (eM ((size+3) / 4) l)).take size.toNat,true))
 else([],false)
theorem aJh {b:Int} {l:List iJ} (hb:1≤b∧b≤6):bv b (eM b l):=by
 have key: ∀(f:Nat) {kn:List (List UInt8)},bv b kn→bv b (sH b l f kn):=by
  intro f
  induction f with
  |zero=>intro kn h;exact h
  |succ f ih=>
   intro kn h
   have r:=(sI (l:=l) (s:=(kn,false)) h).1
   unfold sH
   split
   · exact ih r
   · exact r
 unfold eM
 rw[aC (by simp[iQ];omega)]
 exact key 7 (bv.start (by omega))
theorem aJi {b:Int} {l:List iJ} (h: ¬iQ b 1 6=true):eM b l=[]:=aB h
def wP (kn:List (List UInt8)) (i:Nat):List UInt8:=(kn.take i).flatten
theorem iy {kn:List (List UInt8)} {i:Nat} (h:i<kn.length):wP kn (i+1)=wP kn i++kn.getD i []:=by
 unfold wP
 rw[eX (z:=([]:List UInt8)) h,List.flatten_append]
 simp
theorem aGz {kn:List (List UInt8)} (h: ∀x∈kn,x.length=0∨x.length=4): ∀{i:Nat},(wP kn i).length≤4*i
 |0=>by simp[wP]
 |i+1=>by
  have ih:=aGz h (i:=i)
  by_cases hi:i<kn.length
  · rw[iy hi,aXz]
    have:=h _ (dQ (z:=([]:List UInt8)) hi)
    omega
  · have e:wP kn (i+1)=wP kn i:=by unfold wP;rw[List.take_of_length_le (by omega),List.take_of_length_le (by omega)]
    rw[e];omega
theorem aG0 {kn:List (List UInt8)} (h: ∀x∈kn,x.length=0∨x.length=4): ∀{i:Nat},i≤kn.length→(∀j,j<i→(kn.getD j []).length≠0)→(wP kn i).length=4*i
 |0,_,_=>by simp[wP]
 |i+1,hi,hj=>by
  have ih:=aG0 h (i:=i) (by omega) (fun j hj2=>hj j (by omega))
  rw[iy (by omega),aXz,ih]
  have h1:=h _ (dQ (z:=([]:List UInt8)) (i:=i) (show i<kn.length by omega))
  have h2:=hj i (by omega)
  omega
theorem aCx (kn:List (List UInt8)):wP kn kn.length=rK kn:=by unfold wP rK;rw[aYe]
theorem aAu {kn:List (List UInt8)} {i:Nat} (h:i<kn.length) (he:kn.getD i []=[]):kn.any (·.isEmpty)=true:=by
 rw[List.any_eq_true]
 exact⟨_,dQ (z:=([]:List UInt8)) h,by rw[he];rfl⟩
theorem aEf {kn:List (List UInt8)} (h: ∀j,j<kn.length→(kn.getD j []).length≠0):kn.any (·.isEmpty)=false:=by
 rw[← Bool.not_eq_true,List.any_eq_true]
 rintro⟨x,hx,he⟩
 obtain⟨i,hi⟩:=List.mem_iff_getElem?.1 hx
 have hlt:=(aYa.1 hi).1
 have:=h i hlt
 rw[aX6,hi] at this
 have e:x=[]:=by simpa using he
 rw[e] at this;exact this rfl
theorem aEg {l:List UInt8} {n i:Nat} (h1:n≤i) (h2:i<l.length) (h:l.getD i 0≠0): (l.drop n).any (· != 0)=true:=by
 rw[List.any_eq_true]
 refine⟨l.getD i 0,?_,by simpa using h⟩
 rw[List.mem_iff_getElem?]
 exact⟨i - n,by rw[List.getElem?_drop,show n+(i - n)=i by omega,aX6,aX9 h2];rfl⟩
theorem aG1 {l:List UInt8} {n:Nat} (h: ∀i,n≤i→i<l.length→l.getD i 0=0): (l.drop n).any (· != 0)=false:=by
 rw[← Bool.not_eq_true,List.any_eq_true]
 rintro⟨x,hx,he⟩
 obtain⟨i,hi⟩:=List.mem_iff_getElem?.1 hx
 rw[List.getElem?_drop] at hi
 have hlt:=(aYa.1 hi).1
 have:=h (n+i) (by omega) hlt
 rw[aX6,hi] at this
 have e:x=0:=this
 rw[e] at he;cases he
theorem aG2 {size:Int} {l:List iJ} (h: ¬iQ size 1 24=true):eB size l=([],false):=aB h
theorem aEh {size:Int} {l:List iJ} (h:iQ size 1 24=true) (h2: (eM ((size+3) / 4) l).any (·.isEmpty)=true):eB size l=([],false):=by
 unfold eB;rw[aC h,aC h2]
theorem aEi {size:Int} {l:List iJ} (h:iQ size 1 24=true) (h2: (eM ((size+3) / 4) l).any (·.isEmpty)=false) (h3: ((rK (eM ((size+3) / 4) l)).drop size.toNat).any (· != 0)=true):eB size l=([],false):=by
 unfold eB;rw[aC h,aB (by rw[h2];exact Bool.false_ne_true),aC h3]
theorem aG3 {size:Int} {l:List iJ} (h:iQ size 1 24=true) (h2: (eM ((size+3) / 4) l).any (·.isEmpty)=false) (h3: ((rK (eM ((size+3) / 4) l)).drop size.toNat).any (· != 0)=false):eB size l=((rK (eM ((size+3) / 4) l)).take size.toNat,true):=by
 unfold eB;rw[aC h,aB (by rw[h2];exact Bool.false_ne_true),aB (by rw[h3];exact Bool.false_ne_true)]
def nP (l:List cI):List (List D):=l.map cI.row
theorem mG (l:List cI): (nP l).length=l.length:=by simp[nP]
def bw (kind:Int) (f:cI):cI:=⟨kind,f.dst,f.src,f.frm,f.num,f.to,f.til,0,0,[]⟩
def sW (f:cI):dW:=⟨f.frm,f.num,f.to,f.til,f.size,[]⟩
def sJ (l:List iJ):List iJ:=if 14≤l.length then l.drop 1 else l
def pq (l:List iJ) (m:iJ):List iJ:=sJ (l.filter fun x=> !(x.num==m.num))++[m]
def hO (l:List dW):List dW:=if 3≤l.length then l.drop 1 else l
def dT (l:List dW) (f:cI):List dW×Nat:=
 if hP l f.frm f.num<0 then(hO l++[sW f],(hO l).length) else(l,(hP l f.frm f.num).toNat)
def bX (l:List dW) (f:cI):dW:=(dT l f).1.getD (dT l f).2 .zero
def rL (h:dW) (f:cI):Bool:=h.to==f.to&&h.til==f.til&&h.size==f.size
def uP (h:dW) (f:cI):dW:={h with got:=pq h.got ⟨f.mix,f.data⟩}
def cB (l:List dW) (f:cI):List dW×Int:=
 if rL (bX l f) f then((dT l f).1.set (dT l f).2 (uP (bX l f) f),(dT l f).2) else((dT l f).1,-1)
def eE (k:aK) (l:List dW):aK:={k with halves:=l}
def fE (f:cI) (text:List UInt8):bI:=⟨f.frm,f.num,f.to,f.til,text⟩
def oU (k:aK) (f:cI) (l:List dW) (i:Nat):aK×List cI:=
 let x:=eB f.size (l.getD i .zero).got
 if x.2 then
  let k2:=eE k (iB l i)
  let r:=gA k2 (dC gL (fE f x.1)) true
  if gE (fE f x.1)=[] then(k2,[]) else(r.1,if r.2 then [bw 2 f] else [])
 else(eE k l,[])
def dZ (k:aK) (f:cI):aK×List cI:=
 if f.til≤(bA k).1.time then(k,[bw 3 f]) else
 if 0≤bD (bA k).1.held f.frm f.num∨0≤hD (bA k).1.marks f.frm f.num then(jR k,[bw 2 f]) else
 if f.frm=k.id∨ ¬tW ((f.size+3) / 4) f.mix=true then(k,[]) else
 if(cB k.halves f).2<0 then(eE k (cB k.halves f).1,[]) else oU k f (cB k.halves f).1 (cB k.halves f).2.toNat
def pr (f:cI):List UInt8:=lB oD ⟨f.frm,f.num,f.til⟩
def dc (k:aK) (f:cI):Bool:=
 f.kind==2&&decide (0≤bD (bA k).1.held f.frm f.num)&&((bA k).1.held.getD (bD (bA k).1.held f.frm f.num).toNat .zero).til==f.til&&((bA k).1.held.getD (bD (bA k).1.held f.frm f.num).toNat .zero).to==f.to
def dJ (k:aK) (f:cI):aK×List cI:=
 if aW k then
  (if k.up&&eQ f&&f.dst==k.id then
   (if f.kind=1 then dZ k f else if dc k f then((gA k (pr f) false).1,[]) else(k,[]))
  else(k,[]))
 else(.zero,[])
theorem aEj {l:List dW} {i:Nat} {h:dW} (hi:i<l.length): (aZ l).set i (dN ((aZ l).getD i []) 0 h.row)=aZ (l.set i h):=by
 rw[gJ hi]
 have:dN ((l.getD i .zero).row) 0 h.row=h.row:=rfl
 rw[this]
 simp[aZ,List.map_set]
theorem de {l:List dW} {f:cI} (h:hP l f.frm f.num<0):dT l f=(hO l++[sW f],(hO l).length):=aC h
theorem iz {l:List dW} {f:cI} (h: ¬hP l f.frm f.num<0):dT l f=(l,(hP l f.frm f.num).toNat):=aB h
theorem mn (l:List dW) (h:l.length≤3): (hO l).length≤2:=by
 unfold hO
 split
 · rw[aX7];omega
 · omega
theorem yp {l:List dW} {f:cI} (hl:l.length≤3): (dT l f).2< (dT l f).1.length∧(dT l f).1.length≤3:=by
 unfold dT
 split
 · have:=mn l hl
   simp;omega
 · rename_i h
   have:=aMr l f.frm f.num
   simp;omega
theorem ja {l:List dW} {f:cI} (h: ¬rL (bX l f) f=true):cB l f=((dT l f).1,-1):=aB h
theorem df {l:List dW} {f:cI} (h:rL (bX l f) f=true):cB l f=((dT l f).1.set (dT l f).2 (uP (bX l f) f),(((dT l f).2:Nat):Int)):=aC h
theorem aEk {l:List dW} {f:cI} (h: ∀x∈l,x.got.length≤14): (bX l f).got.length≤14:=by
 unfold bX
 by_cases hm: (dT l f).2< (dT l f).1.length
 · have h1: (dT l f).1.getD (dT l f).2 .zero∈(dT l f).1:=dQ hm
   generalize (dT l f).1.getD (dT l f).2 .zero=y at h1
   unfold dT at h1
   split at h1
   · rcases List.mem_append.1 h1 with h1|h1
     · unfold hO at h1
       split at h1
       · exact h y (List.mem_of_mem_drop h1)
       · exact h y h1
     · rw[List.mem_singleton.1 h1];exact aX5 _
   · exact h y h1
 · rw[aX6,List.getElem?_eq_none (by omega)];exact aX5 _
def iW (l:List iJ) (n:Int):List iJ:=l.filter fun x=> !(x.num==n)
theorem aG4 {l:List iJ} {n:Int} {m:iJ} (h: (m.num != n)=true):iW (l++[m]) n=iW l n++[m]:=by
 have h: (!(m.num==n))=true:=h
 simp[iW,List.filter_append,List.filter_cons,h]
theorem aJj {l:List iJ} {n:Int} {m:iJ} (h: (m.num != n)=false):iW (l++[m]) n=iW l n:=by
 have h: (!(m.num==n))=false:=h
 simp[iW,List.filter_append,List.filter_cons,h]
theorem yq (l:List iJ) (n:Int): (iW l n).length≤l.length:=List.length_filter_le _ _
def GOk (l:List iJ):Prop:=(∀m∈l,wJ m=true)∧l.Pairwise fun a b=>a.num≠b.num
def HOk (l:List dW):Prop:=(∀h∈l,mT h=true)∧l.Pairwise fun a b=> ¬(a.frm=b.frm∧a.num=b.num)
theorem qJ {n:Nat} {p:Nat→Bool}: (aYb n).all p=true↔ ∀i,i<n→p i=true:=by
 rw[aYd]
 exact⟨fun h i hi=>h i (List.mem_range.2 hi),fun h i hi=>h i (List.mem_range.1 hi)⟩
theorem nL {α:Type} {l:List α} {i:Nat} {z:α} (h:i<l.length):l.getD i z=l[i]:=by
 rw[aX6,aX9 h];rfl
theorem aSd (l:List iJ): (aYb l.length).all (oS l)=true↔GOk l:=by
 rw[qJ]
 constructor
 · intro h
   refine⟨fun m hm=> ?_,List.pairwise_iff_getElem.2 fun i j hi hj hij=> ?_⟩
   · obtain⟨i,hi,rfl⟩:=List.mem_iff_getElem.1 hm
     have:=h i hi
     unfold oS at this
     rw[aX3,nL hi] at this
     exact this.1
   · have:=h j hj
     unfold oS at this
     rw[aX3,qJ,nL hj] at this
     have:=this.2 i hij
     rw[nL hi] at this
     simpa using this
 · rintro⟨h1,h2⟩ i hi
   unfold oS
   rw[aX3,qJ,nL hi]
   refine⟨h1 _ (List.getElem_mem hi),fun j hj=> ?_⟩
   rw[nL (by omega)]
   simpa using List.pairwise_iff_getElem.1 h2 j i (by omega) hi hj
theorem aG5 (l:List dW): (aYb l.length).all (iN l)=true↔HOk l:=by
 rw[qJ]
 constructor
 · intro h
   refine⟨fun m hm=> ?_,List.pairwise_iff_getElem.2 fun i j hi hj hij=> ?_⟩
   · obtain⟨i,hi,rfl⟩:=List.mem_iff_getElem.1 hm
     have:=h i hi
     unfold iN at this
     rw[aX3,nL hi] at this
     exact this.1
   · have:=h j hj
     unfold iN at this
     rw[aX3,qJ,nL hj] at this
     have:=this.2 i hij
     unfold iR at this
     rw[nL hi] at this
     rintro⟨e1,e2⟩
     rw[e1,e2] at this
     simp at this
 · rintro⟨h1,h2⟩ i hi
   unfold iN
   rw[aX3,qJ,nL hi]
   refine⟨h1 _ (List.getElem_mem hi),fun j hj=> ?_⟩
   unfold iR
   rw[nL (by omega)]
   have h3:=List.pairwise_iff_getElem.1 h2 j i (by omega) hi hj
   cases hq: (l[j].frm==l[i].frm&&l[j].num==l[i].num) with
   |false=>rfl
   |true=>rw[aX3,beq_iff_eq,beq_iff_eq] at hq;exact absurd hq h3
theorem vR (h:dW):mT h=true↔rG h=true∧GOk h.got:=by
 unfold mT
 rw[aX3,aSd]
theorem mq {k:aK} (h:aW k=true):HOk k.halves:=by
 unfold aW at h
 rw[aX3] at h
 exact(aG5 _).1 h.2
theorem mr {k:aK} {l:List dW} (hok:aW k=true) (hu:k.up=true) (hl:l.length≤3) (h:HOk l):aW (eE k l)=true:=by
 have hl': ((l.length:Nat):Int)≤3:=by omega
 unfold aW kD at hok ⊢
 simp only[aX3] at hok ⊢
 obtain⟨⟨⟨⟨⟨⟨h1,h2⟩,h3⟩,h4⟩,h5⟩,h6⟩,h7⟩:=hok
 exact⟨⟨⟨⟨⟨⟨h1,h2⟩,decide_eq_true hl'⟩,by show(k.up||_)=true;rw[hu];rfl⟩,h5⟩,h6⟩,(aG5 _).2 h⟩
theorem aKv {l l':List dW} (hs:l'.Sublist l) (h:HOk l):HOk l':=⟨fun x hx=>h.1 x (hs.subset hx),h.2.sublist hs⟩
theorem aM4 {α:Type} (l:List α) (i:Nat): (iB l i).Sublist l:=by
 unfold iB
 have h1: (l.drop (i+1)).Sublist (l.drop i):=by
  rw[← List.drop_drop];exact List.drop_sublist _ _
 exact(List.Sublist.append (List.Sublist.refl _) h1).trans (by rw[List.take_append_drop];exact List.Sublist.refl _)
theorem aKw {l:List dW} (h:HOk l) (i:Nat):HOk (iB l i):=aKv (aM4 l i) h
theorem aSe {l:List iJ} {m:iJ} (h:GOk l) (hm:wJ m=true) (hl:l.length≤14):GOk (pq l m)∧(pq l m).length≤14:=by
 have h1: (l.filter fun x=> !(x.num==m.num)).length≤l.length:=List.length_filter_le _ _
 have hsub: (sJ (l.filter fun x=> !(x.num==m.num))).Sublist (l.filter fun x=> !(x.num==m.num)):=by
  unfold sJ
  split
  · exact List.drop_sublist _ _
  · exact List.Sublist.refl _
 have hlen: (sJ (l.filter fun x=> !(x.num==m.num))).length≤13:=by
  unfold sJ
  split
  · rw[aX7];omega
  · omega
 refine⟨⟨fun x hx=> ?_,?_⟩,by unfold pq;simp;omega⟩
 · rcases List.mem_append.1 hx with hx|hx
   · exact h.1 x (List.mem_filter.1 (hsub.subset hx)).1
   · rw[List.mem_singleton.1 hx];exact hm
 · unfold pq
   rw[List.pairwise_append]
   refine⟨(h.2.sublist List.filter_sublist).sublist hsub,by simp,fun a ha b hb=> ?_⟩
   rw[List.mem_singleton.1 hb]
   have:=(List.mem_filter.1 (hsub.subset ha)).2
   simpa using this
theorem jb {f:cI} (hf:eQ f=true) (hk:f.kind=1):rG (sW f)=true∧wJ ⟨f.mix,f.data⟩=true∧(1≤f.size∧f.size≤24)∧(0≤f.mix∧f.mix≤999)∧f.data.length=4:=by
 have h:=hf
 unfold eQ at h
 rw[aC hk] at h
 simp only[aX3,aD] at h
 obtain⟨⟨⟨⟨⟨⟨h1,h2⟩,h3⟩,h4⟩,h5⟩,h6⟩,⟨⟨h7,h8⟩,h9⟩,h10⟩:=h
 have q7:1≤f.size∧f.size≤24:=by simpa[iQ] using h7
 have q8:0≤f.mix∧f.mix≤999:=by simpa[iQ] using h8
 refine⟨?_,?_,q7,q8,h9⟩
 · unfold rG sW
   simp only[h3,h4,h5,h6,h7,aX2];rfl
 · unfold wJ
   simp only[h8,h9];rfl
theorem aG6 {l:List dW} {f n:Int} (h:hP l f n<0): ∀x∈l,¬(x.frm=f∧x.num=n):=by
 intro x hx ⟨e1,e2⟩
 obtain⟨i,hi,rfl⟩:=List.mem_iff_getElem.1 hx
 rcases iG (iR l f n) l.length 0 with h1|⟨k,h1,_⟩
 · have h2:iR l f n i=true:=by unfold iR;rw[nL hi,e1,e2];simp
   have: ∀(m j:Nat),lM (iR l f n) j m= -1→ ∀q,j≤q→q<j+m→iR l f n q=false:=by
    intro m
    induction m with
    |zero=>intro j _ q h3 h4;omega
    |succ m ih=>
     intro j hj q h3 h4
     unfold lM at hj
     split at hj
     · have: ((j:Nat):Int)= -1:=hj
       omega
     · rename_i hne
       by_cases e:q=j
       · subst e;simpa using hne
       · exact ih (j+1) hj q (by omega) (by omega)
   have:=this l.length 0 h1 i (aX5 _) (by omega)
   rw[h2] at this;cases this
 · unfold hP at h;omega
theorem aJk {l:List dW} {f n:Int} (h: ¬hP l f n<0): (hP l f n).toNat<l.length∧(l.getD (hP l f n).toNat .zero).frm=f∧(l.getD (hP l f n).toNat .zero).num=n:=by
 rcases iG (iR l f n) l.length 0 with h1|⟨k,h1,h2,h3,h4,_⟩
 · exact absurd (show hP l f n<0 by unfold hP;omega) h
 · have e: (hP l f n).toNat=k:=by unfold hP;omega
   rw[e]
   unfold iR at h4
   rw[aX3,beq_iff_eq,beq_iff_eq] at h4
   exact⟨by omega,h4⟩
theorem aSf {l:List dW} {f:cI} (h:HOk l) (hl:l.length≤3) (hf:eQ f=true) (hk:f.kind=1):HOk (dT l f).1:=by
 by_cases hn:hP l f.frm f.num<0
 · rw[de hn]
   have hsub: (hO l).Sublist l:=by
    unfold hO
    split
    · exact List.drop_sublist _ _
    · exact List.Sublist.refl _
   have h2:=aKv hsub h
   refine⟨fun x hx=> ?_,?_⟩
   · rcases List.mem_append.1 hx with hx|hx
     · exact h2.1 x hx
     · rw[List.mem_singleton.1 hx,vR]
       exact⟨(jb hf hk).1,by simp[sW],by simp[sW]⟩
   · rw[List.pairwise_append]
     refine⟨h2.2,by simp,fun a ha b hb=> ?_⟩
     rw[List.mem_singleton.1 hb]
     exact aG6 hn a (hsub.subset ha)
 · rw[iz hn];exact h
theorem aV2 {α:Type} {R:α→α→Prop} {l:List α} {i:Nat} {x:α} (h:l.Pairwise R) (hi:i<l.length) (h1: ∀y,R y l[i]→R y x) (h2: ∀y,R l[i] y→R x y): (l.set i x).Pairwise R:=by
 rw[List.pairwise_iff_getElem] at h ⊢
 intro a b ha hb hab
 simp only[List.length_set] at ha hb
 simp only[List.getElem_set]
 by_cases c1:i=a
 · by_cases c2:i=b
   · omega
   · rw[aC c1,aB c2]
     subst c1
     exact h2 _ (h i b ha hb hab)
 · by_cases c2:i=b
   · rw[aB c1,aC c2]
     subst c2
     exact h1 _ (h a i ha hb hab)
   · rw[aB c1,aB c2]
     exact h a b ha hb hab
theorem aKx {l:List dW} {f:cI} (h:HOk l) (hl:l.length≤3) (hf:eQ f=true) (hk:f.kind=1):HOk (cB l f).1∧(cB l f).1.length≤3:=by
 have hp:=aSf h hl hf hk
 have hlt:=yp (f:=f) hl
 by_cases hfit:rL (bX l f) f=true
 · rw[df hfit]
   have hh:bX l f=(dT l f).1[(dT l f).2]:=nL hlt.1
   have hok:=hp.1 _ (List.getElem_mem hlt.1)
   rw[← hh,vR] at hok
   have hg:=aSe hok.2 (jb hf hk).2.1 (mF hok.1).2.2.2.2.2
   refine⟨⟨fun x hx=> ?_,?_⟩,by simpa using hlt.2⟩
   · rcases List.mem_or_eq_of_mem_set hx with hx|rfl
     · exact hp.1 x hx
     · rw[vR]
       refine⟨?_,hg.1⟩
       have h1:=hok.1
       unfold rG at h1 ⊢
       simp only[aX3] at h1 ⊢
       exact⟨h1.1,decide_eq_true (by have:=hg.2;show((pq (bX l f).got ⟨f.mix,f.data⟩).length:Int)≤14;omega)⟩
   · refine aV2 hp.2 hlt.1 (fun y hy=> ?_) (fun y hy=> ?_)
     · rw[← hh] at hy;exact hy
     · rw[← hh] at hy;exact hy
 · rw[ja hfit]
   exact⟨hp,hlt.2⟩
theorem aJl {l:List dW} {f:cI} {i:Nat} (h: (cB l f).2=(i:Int)):i< (cB l f).1.length:=by
 by_cases hfit:rL (bX l f) f=true
 · rw[df hfit] at h ⊢
   have h: (((dT l f).2:Nat):Int)=(i:Int):=h
   have h2: (dT l f).2< (dT l f).1.length:=by
    by_cases hn:hP l f.frm f.num<0
    · rw[de hn];simp
    · rw[iz hn];exact(aJk hn).1
   simp only[List.length_set];omega
 · rw[ja hfit] at h
   have h: (-1:Int)=(i:Int):=h
   omega
theorem aG7 (size:Int) (l:List iJ): (eB size l).1.length≤size.toNat:=by
 unfold eB
 split
 · split
   · exact aX5 _
   · split
     · exact aX5 _
     · rw[aX4];omega
 · exact aX5 _
section
variable {k:aK} {f:cI} {l:List dW} {i:Nat}
theorem ms (h: ¬(eB f.size (l.getD i .zero).got).2=true):oU k f l i=(eE k l,[]):=aB h
theorem fh (h: (eB f.size (l.getD i .zero).got).2=true) (he:gE (fE f (eB f.size (l.getD i .zero).got).1)=[]):oU k f l i=(eE k (iB l i),[]):=by
 rw[oU,aC h,aC he]
theorem am (h: (eB f.size (l.getD i .zero).got).2=true) (he: ¬gE (fE f (eB f.size (l.getD i .zero).got).1)=[]) (hw: ¬(gA (eE k (iB l i)) (dC gL (fE f (eB f.size (l.getD i .zero).got).1)) true).2=true):
 oU k f l i=((gA (eE k (iB l i)) (dC gL (fE f (eB f.size (l.getD i .zero).got).1)) true).1,[]):=by
 rw[oU,aC h,aB he,aB hw]
theorem mu (h: (eB f.size (l.getD i .zero).got).2=true) (he: ¬gE (fE f (eB f.size (l.getD i .zero).got).1)=[]) (hw: (gA (eE k (iB l i)) (dC gL (fE f (eB f.size (l.getD i .zero).got).1)) true).2=true):
 oU k f l i=((gA (eE k (iB l i)) (dC gL (fE f (eB f.size (l.getD i .zero).got).1)) true).1,[bw 2 f]):=by
 rw[oU,aC h,aB he,aC hw]
end
theorem gj {k:aK} {rec:List UInt8} {fc:Bool} (hl:k.log.length≤140737488355328): (gA k rec fc).1.halves=k.halves:=by
 unfold gA
 split
 · have:=(yj (k:=k) (rec:=rec) hl).2
   cases fc
   · exact this
   · exact this
 · rfl
theorem sy {k:aK} {f:cI} (hok:aW k=true) (hu:k.up=true) (hf:eQ f=true) (hk:f.kind=1):HOk (dZ k f).1.halves∧(dZ k f).1.halves.length≤3:=by
 have h0:=mq hok
 have hlg:=eA hok
 have h1:=aKx (f:=f) h0 hlg.2.2.2.1 hf hk
 have hcut: ∀i,HOk (iB (cB k.halves f).1 i)∧(iB (cB k.halves f).1 i).length≤3:=fun i=>⟨aKw h1.1 i,Nat.le_trans (yK _ i) h1.2⟩
 unfold dZ
 split
 · exact⟨h0,hlg.2.2.2.1⟩
 · split
   · exact⟨h0,hlg.2.2.2.1⟩
   · split
     · exact⟨h0,hlg.2.2.2.1⟩
     · split
       · exact h1
       · by_cases h2: (eB f.size ((cB k.halves f).1.getD (cB k.halves f).2.toNat .zero).got).2=true
         · by_cases h3:gE (fE f (eB f.size ((cB k.halves f).1.getD (cB k.halves f).2.toNat .zero).got).1)=[]
           · rw[fh h2 h3];exact hcut _
           · have hlog: (eE k (iB (cB k.halves f).1 (cB k.halves f).2.toNat)).log.length≤140737488355328:=by show k.log.length≤_;omega
             by_cases h4: (gA (eE k (iB (cB k.halves f).1 (cB k.halves f).2.toNat)) (dC gL (fE f (eB f.size ((cB k.halves f).1.getD (cB k.halves f).2.toNat .zero).got).1)) true).2=true
             · rw[mu h2 h3 h4];dsimp only;rw[gj hlog];exact hcut _
             · rw[am h2 h3 h4];dsimp only;rw[gj hlog];exact hcut _
         · rw[ms h2];exact h1
theorem aKy {l:List dW} (h:HOk l): ∀x∈l,x.got.length≤14:=fun x hx=>(mF ((vR x).1 (h.1 x hx)).1).2.2.2.2.2
section
variable {k:aK} {f:cI}
theorem yr (h: ¬aW k=true):dJ k f=(.zero,[]):=aB h
theorem yt (h:aW k=true) (h2: ¬(k.up&&eQ f&&f.dst==k.id)=true):dJ k f=(k,[]):=by rw[dJ,aC h,aB h2]
theorem jc (h:aW k=true) (h2: (k.up&&eQ f&&f.dst==k.id)=true) (h3:f.kind=1):dJ k f=dZ k f:=by rw[dJ,aC h,aC h2,aC h3]
theorem yu (h:aW k=true) (h2: (k.up&&eQ f&&f.dst==k.id)=true) (h3: ¬f.kind=1) (h4:dc k f=true):dJ k f=((gA k (pr f) false).1,[]):=by rw[dJ,aC h,aC h2,aB h3,aC h4]
theorem pw (h:aW k=true) (h2: (k.up&&eQ f&&f.dst==k.id)=true) (h3: ¬f.kind=1) (h4: ¬dc k f=true):dJ k f=(k,[]):=by rw[dJ,aC h,aC h2,aB h3,aB h4]
end
theorem aCy {k:aK} {f:cI} {c:Bool} (hok:aW k=true) (h: (f.kind != 2||decide (bD (bA k).1.held f.frm f.num<0)||toI ((List.drop 3 ((aI (bA k).1.held).getD (bD (bA k).1.held f.frm f.num).toNat [])).getD 0 (.i 0)) != f.til||
 toI ((List.drop 2 ((aI (bA k).1.held).getD (bD (bA k).1.held f.frm f.num).toNat [])).getD 0 (.i 0)) != f.to)=c):dc k f= !c:=by
 subst h
 unfold dc
 by_cases hp:0≤bD (bA k).1.held f.frm f.num
 · obtain⟨j,hj,hjl,_⟩:=sG hok hp
   rw[hj,aXy,aX hjl]
   show _= !(f.kind != 2||decide ((j:Int)<0)||((bA k).1.held.getD j .zero).til != f.til||((bA k).1.held.getD j .zero).to != f.to)
   have e1:decide ((j:Int)<0)=false:=by simp
   have e2:decide (0≤(j:Int))=true:=by simp
   rw[e1,e2]
   simp only[bne]
   cases f.kind==2<;>cases ((bA k).1.held.getD j .zero).til==f.til<;>cases ((bA k).1.held.getD j .zero).to==f.to<;>rfl
 · have e1:decide (bD (bA k).1.held f.frm f.num<0)=true:=by simp;omega
   have e2:decide (0≤bD (bA k).1.held f.frm f.num)=false:=by simp;omega
   rw[e1,e2]
   simp
theorem aPp {k:aK} {f:cI} (hok:aW k=true) (h: (f.kind != 2||decide (bD (bA k).1.held f.frm f.num<0)||toI ((List.drop 3 ((aI (bA k).1.held).getD (bD (bA k).1.held f.frm f.num).toNat [])).getD 0 (.i 0)) != f.til||
 toI ((List.drop 2 ((aI (bA k).1.held).getD (bD (bA k).1.held f.frm f.num).toNat [])).getD 0 (.i 0)) != f.to)=true): ¬dc k f=true:=by rw[aCy hok h];simp
theorem aM5 {k:aK} {f:cI} (hok:aW k=true) (h: (f.kind != 2||decide (bD (bA k).1.held f.frm f.num<0)||toI ((List.drop 3 ((aI (bA k).1.held).getD (bD (bA k).1.held f.frm f.num).toNat [])).getD 0 (.i 0)) != f.til||
 toI ((List.drop 2 ((aI (bA k).1.held).getD (bD (bA k).1.held f.frm f.num).toNat [])).getD 0 (.i 0)) != f.to)=false):dc k f=true:=by rw[aCy hok h];rfl
structure EvR where
 kind:Int
 at_:Int
 frm:Int
 num:Int
 word:Int
 mix:Int
 keep:Int
 dst:Int
 til:Int
 text:List UInt8
def EvR.row (e:EvR):List D:=[.i e.kind,.i e.at_,.i e.frm,.i e.num,.i e.word,.i e.mix,.i e.keep,.i e.dst,.i e.til,.s e.text]
abbrev EvR.V (e:EvR):V:= .e (.agg [.d (.i e.kind),.d (.i e.at_),.d (.i e.frm),.d (.i e.num),.d (.i e.word),.d (.i e.mix),.d (.i e.keep),.d (.i e.dst),.d (.i e.til),.d (.s e.text)])
def Adj (a b:Int):Prop:=(0≤a∧a≤3)∧(0≤b∧b≤3)∧ ¬(a=3∧b=3)
def FP (f:cI):Prop:=Adj f.src f.dst∧f.data.length≤1000
def PP (p:rH):Prop:=Adj p.frm p.to∧p.data.length≤1000
def fQ (r:List D):Prop:= ∃p:rH,r=p.row∧PP p
def cO (r:List D):Prop:= ∃n:bI,r=n.row∧n.text.length≤1000000
def kF (r:List D):Prop:=True
theorem yv:fQ [.i 0,.i 0,.s [],.b false]:=⟨⟨0,0,[],false⟩,rfl,by unfold PP Adj;simp⟩
theorem aG8:cO [.i 0,.i 0,.i 0,.i 0,.s []]:=⟨⟨0,0,0,0,[]⟩,rfl,aX5 _⟩
def dg (a b:Int):Int:=if a<b then a else b
theorem aEl {a b:Int} (h:Adj a b):0≤dg a b∧dg a b≤2:=by
 obtain⟨h1,h2,h3⟩:=h
 unfold dg
 split<;>omega
theorem rM:jp .zero:=⟨aX5 _,aX5 _,fun x h=>(by cases h)⟩
def Sm (k' k:aK):Prop:=k'.log.length≤2400∧k'.halves=k.halves
theorem Sm.ks {k k':aK} (h:Sm k' k) (hk:jp k):jp k':=⟨h.1,by rw[h.2];exact hk.2.1,by rw[h.2];exact hk.2.2⟩
theorem Sm.refl {k:aK} (h:k.log.length≤2400):Sm k k:=⟨h,rfl⟩
theorem dh {l:List UInt8} {f:Int} {rec:List UInt8} (h:l.length≤2400): (bC l f rec).1.1.length≤2400:=by
 unfold bC
 split
 · split
   · rename_i h9
     simp only[aX3,aD] at h9
     show(l++cP rec).length≤_
     rw[aXz];exact h9.2
   · exact h
 · exact aX5 _
theorem bi {l:List UInt8} {f:Int} {recs:List (List UInt8)} (h:l.length≤2400): (eK l f recs).1.1.length≤2400:=by
 unfold eK
 split
 · split
   · rename_i h9
     simp only[aX3,aD] at h9
     exact h9.2
   · exact h
 · exact aX5 _
theorem aJm {k:aK} {rec:List UInt8} (h:k.log.length≤2400):Sm (jI k rec).1 k:=by
 unfold jI
 split
 · split
   · exact⟨dh h,rfl⟩
   · split
     · split
       · exact⟨dh (bi h),rfl⟩
       · exact Sm.refl h
     · exact Sm.refl h
 · exact Sm.refl h
theorem px {l:List UInt8} {f:Int} (h:l.length≤2400): (cY l f).1.length≤2400:=by
 unfold cY
 split
 · exact h
 · exact aX5 _
theorem ao {k:aK} (h:k.log.length≤2400):Sm (jR k) k:=⟨px h,rfl⟩
theorem uQ {k:aK} {rec:List UInt8} {fc:Bool} (h:k.log.length≤2400):Sm (gA k rec fc).1 k:=by
 have hl:=aJm (rec:=rec) h
 unfold gA
 split
 · cases fc
   · exact hl
   · exact⟨(ao hl.1).1,hl.2⟩
 · exact Sm.refl h
theorem py {k:aK} {rec:List UInt8} (h:k.log.length≤2400):Sm (dM k rec).1 k:=uQ (fc:=true) h
theorem ap {k:aK} (h:jp k):jp (cF k).1:=by
 unfold cF
 split
 · split
   · exact(py h.1).ks h
   · exact h
 · exact rM
theorem aM6 {k:aK} {a b:Int} {t:List UInt8} (h:jp k):jp (aU k a b t).1:=by
 unfold aU
 split
 · split
   · split
     · exact(py h.1).ks h
     · exact h
   · exact h
 · exact rM
theorem aM7 {k:aK} {a b:Int} (h:jp k):jp (cS k a b).1:=by
 unfold cS
 split
 · split
   · split
     · exact(py h.1).ks h
     · exact h
   · exact h
 · exact rM
theorem aq {k:aK} (h:jp k):jp (eP k).1:=by
 unfold eP
 split
 · split
   · exact(show Sm (jH k (eK k.log k.forced (eL (bA k).1)).1) k from⟨bi h.1,rfl⟩).ks h
   · exact h
 · exact rM
theorem wQ {k:aK} (h:jp k):jp (eW k).1:=by
 unfold eW
 split
 · split
   · exact h
   · exact(ao h.1).ks h
 · exact rM
theorem aJn {k:aK} {keep:Int} (h:jp k):jp (fO k keep):=by
 unfold fO
 split
 · refine⟨?_,aX5 _,fun x hx=>(by cases hx)⟩
   show(fY k.log k.forced keep).1.length≤_
   have:=h.1
   unfold fY
   split
   · show(k.log.take _).length≤_
     rw[aX4];omega
   · exact aX5 _
 · exact rM
theorem aJo {k:aK} (h:jp k):jp (fI k):=by
 unfold fI
 split
 · exact h
 · exact rM
theorem aM8 {k:aK} (hl:k.log.length≤2400) (h:HOk k.halves∧k.halves.length≤3):jp k:=⟨hl,by have:=h.2;omega,fun x hx=>by have:=aKy h.1 x hx;omega⟩
theorem aAv {k:aK} {f:cI} (h:k.log.length≤2400): (dZ k f).1.log.length≤2400:=by
 unfold dZ
 split
 · exact h
 · split
   · exact(ao h).1
   · split
     · exact h
     · split
       · exact h
       · by_cases h2: (eB f.size ((cB k.halves f).1.getD (cB k.halves f).2.toNat .zero).got).2=true
         · by_cases h3:gE (fE f (eB f.size ((cB k.halves f).1.getD (cB k.halves f).2.toNat .zero).got).1)=[]
           · rw[fh h2 h3];exact h
           · have hlog: (eE k (iB (cB k.halves f).1 (cB k.halves f).2.toNat)).log.length≤2400:=h
             by_cases h4: (gA (eE k (iB (cB k.halves f).1 (cB k.halves f).2.toNat)) (dC gL (fE f (eB f.size ((cB k.halves f).1.getD (cB k.halves f).2.toNat .zero).got).1)) true).2=true
             · rw[mu h2 h3 h4];exact(uQ hlog).1
             · rw[am h2 h3 h4];exact(uQ hlog).1
         · rw[ms h2];exact h
theorem aJp {k:aK} {f:cI} (h:jp k):jp (dJ k f).1:=by
 by_cases hok:aW k=true
 · by_cases hgo: (k.up&&eQ f&&f.dst==k.id)=true
   · have h1:k.up=true:=by simp at hgo;exact hgo.1.1
     have h2:eQ f=true:=by simp at hgo;exact hgo.1.2
     by_cases hk:f.kind=1
     · rw[jc hok hgo hk]
       exact aM8 (aAv h.1) (sy hok h1 h2 hk)
     · by_cases hl:dc k f=true
       · rw[yu hok hgo hk hl];exact(uQ h.1).ks h
       · rw[pw hok hgo hk hl];exact h
   · rw[yt hok hgo];exact h
 · rw[yr hok];exact rM
theorem aSh {kind:Int} {f:cI} (h:eQ f=true):FP (bw kind f):=by
 have hs:=mO h
 refine⟨⟨hs.2.1,hs.1,?_⟩,aX5 _⟩
 intro ⟨e1,e2⟩
 have e1:f.dst=3:=e1
 have e2:f.src=3:=e2
 by_cases hk:f.kind=1
 · have:=(aL5 h hk).2;omega
 · have:=(aL6 h hk).2;omega
theorem aEm {k:aK} {f:cI} (h:eQ f=true): (∀g∈(dZ k f).2,FP g)∧(dZ k f).2.length≤1:=by
 have one: ∀c,(∀g∈[bw c f],FP g)∧[bw c f].length≤1:=fun c=>⟨fun g hg=>by rw[List.mem_singleton.1 hg];exact aSh h,aX8 _⟩
 have none: (∀g∈([]:List cI),FP g)∧([]:List cI).length≤1:=⟨fun g hg=>(by cases hg),aX5 _⟩
 unfold dZ
 split
 · exact one 3
 · split
   · exact one 2
   · split
     · exact none
     · split
       · exact none
       · by_cases h2: (eB f.size ((cB k.halves f).1.getD (cB k.halves f).2.toNat .zero).got).2=true
         · by_cases h3:gE (fE f (eB f.size ((cB k.halves f).1.getD (cB k.halves f).2.toNat .zero).got).1)=[]
           · rw[fh h2 h3];exact none
           · by_cases h4: (gA (eE k (iB (cB k.halves f).1 (cB k.halves f).2.toNat)) (dC gL (fE f (eB f.size ((cB k.halves f).1.getD (cB k.halves f).2.toNat .zero).got).1)) true).2=true
             · rw[mu h2 h3 h4];exact one 2
             · rw[am h2 h3 h4];exact none
         · rw[ms h2];exact none
theorem aKz {k:aK} {f:cI}: (∀g∈(dJ k f).2,FP g)∧(dJ k f).2.length≤1:=by
 have none: (∀g∈([]:List cI),FP g)∧([]:List cI).length≤1:=⟨fun g hg=>(by cases hg),aX5 _⟩
 by_cases hok:aW k=true
 · by_cases hgo: (k.up&&eQ f&&f.dst==k.id)=true
   · have h2:eQ f=true:=by simp at hgo;exact hgo.1.2
     by_cases hk:f.kind=1
     · rw[jc hok hgo hk];exact aEm h2
     · by_cases hl:dc k f=true
       · rw[yu hok hgo hk hl];exact none
       · rw[pw hok hgo hk hl];exact none
   · rw[yt hok hgo];exact none
 · rw[yr hok];exact none
theorem aM9 (k:bH) (n:bI): (fL k n).1.id=k.id:=by
 unfold fL
 repeat' split
 all_goals rfl
theorem aPq (k:bH) (w:List UInt8) (n:Int): (lE k w n).1.id=k.id:=by
 unfold lE
 repeat' split
 all_goals rfl
theorem aNa (k:bH) (w:List UInt8) (n:bI): (fT k w n).1.id=k.id:=by
 unfold fT
 repeat' split
 all_goals first|rfl|exact aM9 _ _
theorem aNb (k:bH) (w:List UInt8) (m:cD): (jA k w m).1.id=k.id:=by
 unfold jA
 repeat' split
 all_goals rfl
theorem aNc (k:bH) (rec:List UInt8): (eS k rec).1.id=k.id:=by
 unfold eS
 repeat' split
 all_goals first|rfl|exact aPq _ _ _|exact aNa _ _ _|exact aNb _ _ _
theorem aNd {k:bH} {rec:List UInt8} (h: (cV k rec).2=true): (cV k rec).1.id=k.id:=by
 unfold cV at h ⊢
 split at h
 · rename_i hk
   rw[aC hk]
   unfold lT
   split
   · exact aNc k rec
   · rfl
 · cases h
theorem aCz: ∀{rs:List (List UInt8)} {k:bH},(gN k rs).2=true→(gN k rs).1.id=k.id
 | [],k,_=>rfl
 |r::rs,k,h=>by
  unfold gN at h ⊢
  split at h
  · rename_i hd
    rw[aC hd,aCz h,aNd hd]
  · cases h
theorem aG9 {k:aK} (h:aW k=true): (bA k).1.id=k.id:=by
 unfold aW at h
 simp only[aX3] at h
 have h2:=h.1.1.2
 unfold bA eI at h2 ⊢
 split at h2
 · rename_i hn
   rw[aC hn,aCz h2]
   unfold dS
   rw[aC hn]
 · cases h2
theorem aEn {a b:Int} (ha:eR a=true) (hb:eR b=true) (h:a≠b):Adj a (jC a b)∧(a - jC a b=1∨jC a b - a=1):=by
 have h1:0≤a∧a≤3:=by simpa[eR,iQ] using ha
 have h2:0≤b∧b≤3:=by simpa[eR,iQ] using hb
 have e:jC a b=if a<b then a+1 else a - 1:=by
  unfold jC
  rw[ha,hb,beq_eq_false_iff_ne.2 h];rfl
 rw[e]
 unfold Adj
 split<;>omega
theorem aV3 {k:aK} {a b c:Int} (h: (eT k a b c).2=true):FP (eT k a b c).1:=by
 unfold eT at h ⊢
 split at h
 · rename_i hc
   rw[aC hc]
   simp only[aX3,aD] at hc
   obtain⟨⟨⟨hok,hu⟩,hm⟩,hat⟩:=hc
   obtain⟨j,hj,hjl,_⟩:=sG hok hat
   rw[hj,aXy]
   have hp:=(cC _).1 (gF hok)
   have hh:=qJ.1 hp.2.2.1 j hjl
   have hn:=qJ.1 hp.2.1.1 j hjl
   unfold tX at hh
   unfold mA eV at hn
   simp only[aX3] at hh hn
   have hw:=hh.1.2
   unfold cp at hw
   simp only[aX3] at hw
   have hid:=aG9 hok
   have h1:eR k.id=true:=by rw[← hid];exact hp.1.1
   have h2:=hn.1.1.1.1.2
   have h3:k.id≠((bA k).1.held.getD j .zero).to:=by rw[← hid];simpa using hw.1
   exact⟨(aEn h1 h2 h3).1,by have:=xv ((bA k).1.held.getD j .zero).text c;show(zZ _ c).length≤_;omega⟩
 · cases h
section
variable {P:Program} {T:hZ} {o:Oper} {σ σ1:St} {x:Operand} {t e:TypeId} {s1 s2 d j es n:Nat} {s3:List C} {Z:gt} {R:List (dK×Option K)} {g:Bool} {k:List (dK×Option K)→V→Prop}
theorem aEo (hT:dV P T) (ho:o.op= .call {callee:= .builtin .len,args:= #[x],argTypes:= #[t]}) (hd:o.dst=some d) (ht:T t=some ⟨.sl e,s1,s2,s3⟩) (hx:ev σ1 x=some (.e (.c (ps j es n)),R)) (hl:aV σ1 (.o j)=some (.zone Z))
 (hr:g=true→pA σ (R++[(.o j,some (.zone Z))])) (h:k (R++[(.o j,some (.zone Z))]) (I n)): ∃R X,(g=true→vW P o R [(.t d,.v X)]∧bV R σ1)∧(g=true→pA σ R)∧k R X:=by
 obtain⟨R',W',h1,h2,e1,e2⟩:=ig (k:=fun R' W'=>R'=R++[(.o j,some (.zone Z))]∧W'=[(.t d,.v (I n))]) hT ho hd ht hx hl ⟨rfl,rfl⟩
 subst e1;subst e2
 exact⟨_,_,fun _=>⟨h1,h2⟩,hr,h⟩
end
theorem yw {l:List cI} {i:Nat} (h:i<l.length): (nP l).getD i []=(l.getD i cI.zero).row:=by
 rw[aX6,aX6]
 simp[nP,h]
def gk (a n:Nat):Nat:=a+min n (30 - a)
theorem yx {a n:Nat} (h:a≤30):gk a n≤30:=by unfold gk;omega
structure WOk (ks:List aK) (ls:List Bool) (a b c:Nat):Prop where
 four:ks.length=4
 small: ∀k∈ks,jp k
 three:ls.length=3
 ra:a≤30
 rb:b≤6
 rc:c≤6
theorem WOk.at {ks:List aK} {ls:List Bool} {a b c i:Nat} (h:WOk ks ls a b c) (hi:i<4):jp (ks.getD i .zero):=h.small _ (dQ (by rw[h.four];exact hi))
theorem WOk.set {ks:List aK} {ls:List Bool} {a b c:Nat} (h:WOk ks ls a b c) {k:aK} (hk:jp k) (i:Nat):WOk (ks.set i k) ls a b c:=
 ⟨by rw[List.length_set];exact h.four,fun x hx=>by rcases List.mem_or_eq_of_mem_set hx with hx|rfl;exact h.small x hx;exact hk,h.three,h.ra,h.rb,h.rc⟩
theorem WOk.to {ks:List aK} {ls:List Bool} {a b c a' b' c':Nat} (h:WOk ks ls a b c) (h1:a'≤30) (h2:b'≤6) (h3:c'≤6):WOk ks ls a' b' c':=⟨h.four,h.small,h.three,h1,h2,h3⟩
theorem WOk.links {ks:List aK} {ls ls':List Bool} {a b c:Nat} (h:WOk ks ls a b c) (h1:ls'.length=3):WOk ks ls' a b c:=⟨h.four,h.small,h1,h.ra,h.rb,h.rc⟩
theorem bO {l:List aK} {i:Nat} {k:aK} (hi:i<l.length): (aL l).set i (dN ((aL l).getD i []) 0 k.row)=aL (l.set i k):=by
 rw[cH hi]
 have:dN ((l.getD i .zero).row) 0 k.row=k.row:=rfl
 rw[this]
 simp[aL,List.map_set]
theorem aEp {l:List Bool} {i:Nat} {x:Bool} (hi:i<l.length): (aQ l).set i (dN ((aQ l).getD i []) 0 [D.b x])=aQ (l.set i x):=by
 rw[lQ hi]
 have:dN [D.b (l.getD i false)] 0 [D.b x]=[D.b x]:=rfl
 rw[this]
 simp[aQ,List.map_set]
theorem ar {a:Int} (h:0≤a∧a≤3): ∃i:Nat,a=(i:Int)∧i<4:=⟨a.toNat,by omega,by omega⟩
theorem aPr {k:aK} {a b:Int} (h:jp k): (cS k a b).2.1.text.length≤1000000:=by
 unfold cS
 split
 · rename_i hok
   split
   · split
     · rename_i hc _
       simp only[aX3,aD] at hc
       obtain⟨j,hj,hjl,_⟩:=ym hok hc.2
       rw[hj,aXy]
       have h6:=(cC _).1 (gF hok)
       have hn:=tN h6.2.1.2.2 (dQ (z:=bI.zero) hjl)
       unfold eV zI at hn
       simp only[aX3] at hn
       have h24:1≤(((bA k).1.inbox.getD j .zero).text.length:Int)∧(((bA k).1.inbox.getD j .zero).text.length:Int)≤24:=by simpa[iQ] using hn.2.2
       show((bA k).1.inbox.getD j .zero).text.length≤_
       omega
     · exact aX5 _
   · exact aX5 _
 · exact aX5 _
def mgC (j j2:Nat):C→C
 | .z o Q=> .z (if o=j2 then j else o) Q
 |c=>c
def mgE (j j2:Nat):E→E
 | .c x=> .c (mgC j j2 x)
 | .agg cs=> .agg (cs.map (mgC j j2))
def mgV (j j2:Nat):V→V
 | .e x=> .e (mgE j j2 x)
 | .tup xs=> .tup (xs.map (mgE j j2))
def mgK (j j2:Nat):K→K
 | .v x=> .v (mgV j j2 x)
 | .cv s w b x=> .cv s w b (mgV j j2 x)
 | .box ty cs=> .box ty (cs.map (mgC j j2))
 |k=>k
def mgS (j j2:Nat) (σ:St):St:=σ.map fun p=>(p.1,if p.1= .o j2 then .dead else mgK j j2 p.2)
theorem oV (j j2:Nat) (σ:St) (l:dK):aV (mgS j j2 σ) l=(aV σ l).map fun k=>if l= .o j2 then .dead else mgK j j2 k:=by
 induction σ with
 |nil=>rfl
 |cons p r ih=>
  unfold mgS at ih ⊢
  rw[List.map_cons]
  unfold aV
  by_cases h:p.1=l
  · simp[h]
  · simp only[h,if_false];exact ih
def dj:Value→Value→Value
 | .tuple a,.tuple b=> .tuple (a++b)
 |p,_=>p
theorem mv {p q v:Value} (hp: ∃vs,p= .tuple vs) (hq: ∃vs,q= .tuple vs):vv (dj p q) v↔vv p v∨vv q v:=by
 obtain⟨a,rfl⟩:=hp
 obtain⟨b,rfl⟩:=hq
 simp[vv,dj]
theorem aEq {p:Value} (hp: ∃vs,p= .tuple vs) {b:Nat}:uZ p b↔ ∃v,vv p v∧blk v=some b:=by
 obtain⟨a,rfl⟩:=hp
 simp[vv,uZ]
section
variable {σ:St} {ι ν:Nat→Value} {S:Nat→Prop} {w:World} {j j2 es:Nat} {e:TypeId} {Pr:List D→Prop}
theorem CR.mg (h1:aV σ (.o j)=some (aO e es Pr)) (h2:aV σ (.o j2)=some (aO e es Pr)) (hne:j≠j2) (hp: ∃vs,ι j= .tuple vs) (hq: ∃vs,ι j2= .tuple vs) {c:C} {v:Value} (h:CR σ ι w S c v):
 CR (mgS j j2 σ) (fun o=>if o=j then dj (ι j) (ι j2) else ι o) w S (mgC j j2 c) v:=by
 cases c with
 |d x=>exact h
 |nil=>exact h
 |own o n=>
  refine⟨h.1,?_⟩
  rcases h.2 with⟨e',es',rows,hl,hn,hv⟩|hl
  · have ho:o≠j:=fun e=>by rw[e,h1] at hl;cases hl
    have ho2:o≠j2:=fun e=>by rw[e,h2] at hl;cases hl
    refine .inl ⟨e',es',rows,by rw[oV,hl];simp[ho2,mgK],hn,fun hh=> ?_⟩
    dsimp only;rw[aB ho];exact hv hh
  · right;rw[oV,hl];simp[mgK]
 |pt o k=>
  refine⟨h.1,?_⟩
  rcases h.2 with⟨ty,cs,hl,b,hi,hv⟩|hl
  · have ho:o≠j:=fun e=>by rw[e,h1] at hl;cases hl
    have ho2:o≠j2:=fun e=>by rw[e,h2] at hl;cases hl
    refine .inl ⟨ty,cs.map (mgC j j2),by rw[oV,hl];simp[ho2,mgK],b,?_,hv⟩
    dsimp only;rw[aB ho];exact hi
  · right;rw[oV,hl];simp[mgK]
 |pe o n i k=>
  refine⟨h.1,?_⟩
  rcases h.2 with⟨e',es',rows,hl,hn,hv⟩|hl
  · have ho:o≠j:=fun e=>by rw[e,h1] at hl;cases hl
    have ho2:o≠j2:=fun e=>by rw[e,h2] at hl;cases hl
    refine .inl ⟨e',es',rows,by rw[oV,hl];simp[ho2,mgK],hn,fun hh=> ?_⟩
    dsimp only;rw[aB ho];exact hv hh
  · right;rw[oV,hl];simp[mgK]
 |rp cs=>exact h
 |z o Q=>
  refine⟨h.1,?_⟩
  have hj:aV (mgS j j2 σ) (.o j)=some (aO e es Pr):=by rw[oV,h1];simp[hne,mgK]
  rcases h.2 with⟨Z,hl,hv⟩|hl
  · by_cases ho2:o=j2
    · subst ho2
      rw[h2] at hl;cases hl
      refine .inl ⟨aOk e es Pr,by rw[aC rfl];exact hj,fun p hpp=>hv p fun v hv'=> ?_⟩
      rw[aC rfl] at hpp
      dsimp only at hpp
      rw[aC rfl] at hpp
      exact hpp v ((mv hp hq).2 (.inr hv'))
    · rw[aB ho2]
      by_cases ho:o=j
      · subst ho
        rw[h1] at hl;cases hl
        refine .inl ⟨aOk e es Pr,hj,fun p hpp=>hv p fun v hv'=> ?_⟩
        dsimp only at hpp
        rw[aC rfl] at hpp
        exact hpp v ((mv hp hq).2 (.inl hv'))
      · refine .inl ⟨Z,by rw[oV,hl];simp[ho2,mgK],fun p hpp=>hv p ?_⟩
        dsimp only at hpp
        rw[aB ho] at hpp
        exact hpp
  · have ho2:o≠j2:=fun e=>by rw[e,h2] at hl;cases hl
    right;rw[aB ho2,oV,hl];simp[ho2,mgK]
theorem ER.mg (h1:aV σ (.o j)=some (aO e es Pr)) (h2:aV σ (.o j2)=some (aO e es Pr)) (hne:j≠j2) (hp: ∃vs,ι j= .tuple vs) (hq: ∃vs,ι j2= .tuple vs) {c:E} {v:Value} (h:ER σ ι w S c v):
 ER (mgS j j2 σ) (fun o=>if o=j then dj (ι j) (ι j2) else ι o) w S (mgE j j2 c) v:=by
 cases c with
 |c x=>exact CR.mg h1 h2 hne hp hq h
 |agg cs=>
  obtain⟨vs,hv,hl,hk⟩:=h
  refine⟨vs,hv,by simp[hl],fun k c u hc hu=> ?_⟩
  rw[List.getElem?_map] at hc
  cases hx:cs[k]? with
  |none=>rw[hx] at hc;cases hc
  |some c0=>rw[hx] at hc;cases hc;exact CR.mg h1 h2 hne hp hq (hk k c0 u hx hu)
theorem mI.mg (h1:aV σ (.o j)=some (aO e es Pr)) (h2:aV σ (.o j2)=some (aO e es Pr)) (hne:j≠j2) (hp: ∃vs,ι j= .tuple vs) (hq: ∃vs,ι j2= .tuple vs) {c:V} {v:Value} (h:mI σ ι w S c v):
 mI (mgS j j2 σ) (fun o=>if o=j then dj (ι j) (ι j2) else ι o) w S (mgV j j2 c) v:=by
 cases c with
 |e x=>exact ER.mg h1 h2 hne hp hq h
 |tup cs=>
  obtain⟨vs,hv,hl,hk⟩:=h
  refine⟨vs,hv,by simp[hl],fun k c u hc hu=> ?_⟩
  rw[List.getElem?_map] at hc
  cases hx:cs[k]? with
  |none=>rw[hx] at hc;cases hc
  |some c0=>rw[hx] at hc;cases hc;exact ER.mg h1 h2 hne hp hq (hk k c0 u hx hu)
theorem lJ.mg (h1:aV σ (.o j)=some (aO e es Pr)) (h2:aV σ (.o j2)=some (aO e es Pr)) (hne:j≠j2) (hp: ∃vs,ι j= .tuple vs) (hq: ∃vs,ι j2= .tuple vs) {o b:Nat} (h:lJ (mgS j j2 σ) (fun o=>if o=j then dj (ι j) (ι j2) else ι o) o b):
 o≠j2∧(lJ σ ι o b∨(o=j∧lJ σ ι j2 b)):=by
 obtain⟨⟨k,hk,hl⟩,hb⟩:=h
 rw[oV] at hk
 by_cases ho2:o=j2
 · subst ho2
   rw[h2] at hk
   simp at hk
   subst hk
   exact hl.elim
 · refine⟨ho2,?_⟩
   by_cases ho:o=j
   · subst ho
     dsimp only at hb
     rw[aC rfl,aEq (by obtain⟨a,ha⟩:=hp;obtain⟨b,hb⟩:=hq;rw[ha,hb];exact⟨_,rfl⟩)] at hb
     obtain⟨v,hv,hbv⟩:=hb
     rcases(mv hp hq).1 hv with hv|hv
     · exact .inl ⟨⟨_,h1,trivial⟩,(aEq hp).2 ⟨v,hv,hbv⟩⟩
     · exact .inr ⟨rfl,⟨_,h2,trivial⟩,(aEq hq).2 ⟨v,hv,hbv⟩⟩
   · left
     dsimp only at hb
     rw[aB ho] at hb
     cases hx:aV σ (.o o) with
     |none=>rw[hx] at hk;cases hk
     |some k0=>
      rw[hx] at hk
      simp[ho2] at hk
      subst hk
      refine⟨⟨k0,hx,?_⟩,hb⟩
      cases k0<;>first|trivial|exact hl
theorem VR.mg (h:VR σ ι ν S w) (h1:aV σ (.o j)=some (aO e es Pr)) (h2:aV σ (.o j2)=some (aO e es Pr)) (hne:j≠j2):VR (mgS j j2 σ) (fun o=>if o=j then dj (ι j) (ι j2) else ι o) ν S w:=by
 have hp: ∃vs,ι j= .tuple vs:=(h.objs j _ h1).1
 have hq: ∃vs,ι j2= .tuple vs:=(h.objs j2 _ h2).1
 refine⟨fun s k hk=> ?_,fun o k hk=> ?_,fun o b hm=> ?_,fun o o' b hm hm'=> ?_,h.sz⟩
 · rw[oV] at hk
   cases hx:aV σ (.t s) with
   |none=>rw[hx] at hk;cases hk
   |some k0=>
    rw[hx] at hk
    simp at hk
    subst hk
    have:=h.slots s k0 hx
    cases k0 with
    |v x=>exact mI.mg h1 h2 hne hp hq this
    |cv s w b x=>exact⟨fun hb=>mI.mg h1 h2 hne hp hq (this.1 hb),this.2⟩
    |_=>trivial
 · rw[oV] at hk
   by_cases ho2:o=j2
   · subst ho2;rw[h2] at hk;simp at hk;subst hk;trivial
   · cases hx:aV σ (.o o) with
     |none=>rw[hx] at hk;cases hk
     |some k0=>
      rw[hx] at hk
      simp[ho2] at hk
      subst hk
      have ho':=h.objs o k0 hx
      by_cases ho:o=j
      · subst ho
        rw[h1] at hx;cases hx
        rw[aC rfl]
        refine⟨by obtain⟨a,ha⟩:=hp;obtain⟨b,hb⟩:=hq;rw[ha,hb];exact⟨_,rfl⟩,fun v hv=> ?_⟩
        rcases(mv hp hq).1 hv with hv|hv
        · exact(h.objs o _ h1).2 v hv
        · exact(h.objs j2 _ h2).2 v hv
      · rw[aB ho]
        cases k0 with
        |box ty cs=>
         obtain⟨b,vs,q1,q2,q3,q4⟩:=ho'
         refine⟨b,vs,q1,q2,by simp[q3],fun k c u hc hu=> ?_⟩
         rw[List.getElem?_map] at hc
         cases hy:cs[k]? with
         |none=>rw[hy] at hc;cases hc
         |some c0=>rw[hy] at hc;cases hc;exact CR.mg h1 h2 hne hp hq (q4 k c0 u hy hu)
        |row e es rows=>exact ho'
        |zone Z=>exact ho'
        |_=>trivial
 · rcases(lJ.mg h1 h2 hne hp hq hm).2 with h'|⟨_,h'⟩
   · exact h.mutS _ b h'
   · exact h.mutS _ b h'
 · obtain⟨n1,c1⟩:=lJ.mg h1 h2 hne hp hq hm
   obtain⟨n2,c2⟩:=lJ.mg h1 h2 hne hp hq hm'
   rcases c1 with c1|⟨rfl,c1⟩<;>rcases c2 with c2|⟨rfl,c2⟩
   · exact h.inj o o' b c1 c2
   · exact(n1 (h.inj o j2 b c1 c2)).elim
   · exact(n2 (h.inj o' j2 b c2 c1)).elim
   · rfl
end
theorem RW.mg {P:Program} {cx:Cx P} {σ:St} {ι:Nat→Value} {S:Nat→Prop} {a:Act} {w:World} {j j2 es:Nat} {e:TypeId} {Pr:List D→Prop} (h:RW cx σ ι S a w) (h1:aV σ (.o j)=some (aO e es Pr)) (h2:aV σ (.o j2)=some (aO e es Pr)) (hne:j≠j2) (hk:cx.kio j2=none):
 RW cx (mgS j j2 σ) (fun o=>if o=j then dj (ι j) (ι j2) else ι o) S a w:=by
 have hp: ∃vs,ι j= .tuple vs:=(h.vr.objs j _ h1).1
 have hq: ∃vs,ι j2= .tuple vs:=(h.vr.objs j2 _ h2).1
 refine⟨h.vr.mg h1 h2 hne,h.size,h.defers,h.fr,fun o b hm=> ?_,h.rd,fun o k ho=> ?_⟩
 · rcases(lJ.mg h1 h2 hne hp hq hm).2 with h'|⟨_,h'⟩
   · exact h.own _ b h'
   · exact h.own _ b h'
 · obtain⟨k',hk',hev⟩:=h.io o k ho
   have ho2:o≠j2:=fun e=>by rw[e,hk] at ho;cases ho
   refine⟨mgK j j2 k',by rw[oV,hk'];simp[ho2],?_⟩
   refine nU.trans hev ?_
   by_cases hj:o=j
   · subst hj
     rw[h1] at hk';cases hk'
     rw[aC rfl]
     exact⟨rfl,fun v hv=>(mv hp hq).2 (.inl hv)⟩
   · rw[aB hj]
     cases k'<;>simp[nU,mgK,gt.refl]
theorem SW.merge {P:Program} {io:List Nat} {Q:Ex→St→Prop} {σ:St} {c:Code} (j j2:Nat) {e:TypeId} {es:Nat} {Pr:List D→Prop} (h1:aV σ (.o j)=some (aO e es Pr)) (h2:aV σ (.o j2)=some (aO e es Pr)) (hne:j≠j2) (hk:iS j2 io=false) (h:SW P io c Q (mgS j j2 σ)):SW P io c Q σ:=fun cx ι S a w hio hw hf=>
 h cx _ S a w hio (hw.mg h1 h2 hne (by
  cases hx:cx.kio j2 with
  |none=>rfl
  |some k=>exact absurd (iF.2 (hio j2 k hx)) (by rw[hk];simp))) hf
def aK0 (P:Program) (io:List Nat) (s q:St):Prop:= ∀c Q,SW P io c Q q→SW P io c Q s
section
variable {P:Program} {io:List Nat} {σ q:St} {Q:Ex→St→Prop}
theorem mw (h:WK io (fun x=>x=q) σ):aK0 P io σ q:=fun c Q hq=>SW.wk h (fun s hs=>by subst hs;exact hq)
theorem aHa (j j2:Nat) {e:TypeId} {es:Nat} {Pr:List D→Prop} (h1:aV σ (.o j)=some (aO e es Pr)) (h2:aV σ (.o j2)=some (aO e es Pr)) (hne:j≠j2) (hk:iS j2 io=false) (h:aK0 P io (mgS j j2 σ) q):aK0 P io σ q:=
 fun c Q hq=>SW.merge j j2 h1 h2 hne hk (h c Q hq)
theorem SW.midL {A:Type} (ok:A→Prop) (st:A→St) {x y:Code} (h:SW P io x (jz (fun s=> ∃a,ok a∧aK0 P io s (st a)) Q) σ) (hy: ∀a,ok a→SW P io y Q (st a)):SW P io (.seq x y) Q σ:=
 SW.mid _ h fun s ⟨a,h1,h2⟩=>h2 y Q (hy a h1)
end
theorem vq {p:Prop} (h:p:=by first|exact True.intro|rfl|exact aX0 rfl|exact⟨rfl,aX0 rfl⟩|exact⟨by kernel_rfl,aX0 (by kernel_rfl)⟩|omega|((repeat' apply And.intro)<;>first|trivial|rfl|exact aX0 rfl|omega)|(simp;done)|(simp;omega)):p:=h
theorem s1 {p1 k:Prop} (x:k) (h1:p1:=by exact vq):p1∧k:=⟨h1,x⟩
theorem s2 {p1 p2 k:Prop} (x:k) (h1:p1:=by exact vq) (h2:p2:=by exact vq):p1∧p2∧k:=⟨h1,h2,x⟩
theorem s3 {p1 p2 p3 k:Prop} (x:k) (h1:p1:=by exact vq) (h2:p2:=by exact vq) (h3:p3:=by exact vq):p1∧p2∧p3∧k:=⟨h1,h2,h3,x⟩
theorem s4 {p1 p2 p3 p4 k:Prop} (x:k) (h1:p1:=by exact vq) (h2:p2:=by exact vq) (h3:p3:=by exact vq) (h4:p4:=by exact vq):p1∧p2∧p3∧p4∧k:=⟨h1,h2,h3,h4,x⟩
theorem s5 {p1 p2 p3 p4 p5 k:Prop} (x:k) (h1:p1:=by exact vq) (h2:p2:=by exact vq) (h3:p3:=by exact vq) (h4:p4:=by exact vq) (h5:p5:=by exact vq):p1∧p2∧p3∧p4∧p5∧k:=⟨h1,h2,h3,h4,h5,x⟩
theorem s6 {p1 p2 p3 p4 p5 p6 k:Prop} (x:k) (h1:p1:=by exact vq) (h2:p2:=by exact vq) (h3:p3:=by exact vq) (h4:p4:=by exact vq) (h5:p5:=by exact vq) (h6:p6:=by exact vq):p1∧p2∧p3∧p4∧p5∧p6∧k:=⟨h1,h2,h3,h4,h5,h6,x⟩
theorem s7 {p1 p2 p3 p4 p5 p6 p7 k:Prop} (x:k) (h1:p1:=by exact vq) (h2:p2:=by exact vq) (h3:p3:=by exact vq) (h4:p4:=by exact vq) (h5:p5:=by exact vq) (h6:p6:=by exact vq) (h7:p7:=by exact vq):p1∧p2∧p3∧p4∧p5∧p6∧p7∧k:=⟨h1,h2,h3,h4,h5,h6,h7,x⟩
theorem s8 {p1 p2 p3 p4 p5 p6 p7 p8 k:Prop} (x:k) (h1:p1:=by exact vq) (h2:p2:=by exact vq) (h3:p3:=by exact vq) (h4:p4:=by exact vq) (h5:p5:=by exact vq) (h6:p6:=by exact vq) (h7:p7:=by exact vq) (h8:p8:=by exact vq):p1∧p2∧p3∧p4∧p5∧p6∧p7∧p8∧k:=⟨h1,h2,h3,h4,h5,h6,h7,h8,x⟩
theorem s9 {p1 p2 p3 p4 p5 p6 p7 p8 p9 k:Prop} (x:k) (h1:p1:=by exact vq) (h2:p2:=by exact vq) (h3:p3:=by exact vq) (h4:p4:=by exact vq) (h5:p5:=by exact vq) (h6:p6:=by exact vq) (h7:p7:=by exact vq) (h8:p8:=by exact vq) (h9:p9:=by exact vq):p1∧p2∧p3∧p4∧p5∧p6∧p7∧p8∧p9∧k:=⟨h1,h2,h3,h4,h5,h6,h7,h8,h9,x⟩
theorem y1 {w1 p1 q1 k:Prop} (x:k) (h1:w1→p1:=by intro _;exact vq) (j1:q1:=by exact rk): (w1→p1)∧q1∧k:=⟨h1,j1,x⟩
theorem y2 {w1 p1 q1 w2 p2 q2 k:Prop} (x:k) (h1:w1→p1:=by intro _;exact vq) (j1:q1:=by exact rk) (h2:w2→p2:=by intro _;exact vq) (j2:q2:=by exact rk): (w1→p1)∧q1∧(w2→p2)∧q2∧k:=⟨h1,j1,h2,j2,x⟩
theorem y3 {w1 p1 q1 w2 p2 q2 w3 p3 q3 k:Prop} (x:k) (h1:w1→p1:=by intro _;exact vq) (j1:q1:=by exact rk) (h2:w2→p2:=by intro _;exact vq) (j2:q2:=by exact rk) (h3:w3→p3:=by intro _;exact vq) (j3:q3:=by exact rk): (w1→p1)∧q1∧(w2→p2)∧q2∧(w3→p3)∧q3∧k:=⟨h1,j1,h2,j2,h3,j3,x⟩
theorem y4 {w1 p1 q1 w2 p2 q2 w3 p3 q3 w4 p4 q4 k:Prop} (x:k) (h1:w1→p1:=by intro _;exact vq) (j1:q1:=by exact rk) (h2:w2→p2:=by intro _;exact vq) (j2:q2:=by exact rk) (h3:w3→p3:=by intro _;exact vq) (j3:q3:=by exact rk) (h4:w4→p4:=by intro _;exact vq) (j4:q4:=by exact rk): (w1→p1)∧q1∧(w2→p2)∧q2∧(w3→p3)∧q3∧(w4→p4)∧q4∧k:=⟨h1,j1,h2,j2,h3,j3,h4,j4,x⟩
section
variable {P:Program} {σ σ1 σin:St} {o:Oper} {f n:Nat} {X:V}
def aK1 (σ:St) (o:Oper) (f n:Nat) (σin:St) (X:V) (k:List (dK×Option K)→Tmp→Prop):Prop:=match o.op,o.dst with
 | .call c,some d=>match c.callee,evA σ c.args.toList with
  | .value (.func f'),some (Xs,Ra)=>match Nat.beq f' f&&(Nat.beq Xs.length n&&(Xs.all pB&&pB X)) with
   |true=>σin=fA 0 Xs∧k Ra d
   |false=>False
  |_,_=>False
 |_,_=>False
theorem yy {k:List (dK×Option K)→Tmp→Prop} (h:aK1 σ o f n σin X k): ∃c d Xs Ra,o.op= .call c∧c.callee= .value (.func f)∧o.dst=some d∧evA σ c.args.toList=some (Xs,Ra)∧Xs.length=n∧σin=fA 0 Xs∧Xs.all pB=true∧pB X=true∧k Ra d:=by
 unfold aK1 at h
 split at h<;>try exact h.elim
 rename_i c d ho hd
 split at h<;>try exact h.elim
 rename_i f' Xs Ra hc hx
 split at h<;>try exact h.elim
 rename_i hb
 simp only[aX3] at hb
 obtain⟨h1,h2,h3,h4⟩:=hb
 have h1:=Nat.eq_of_beq_eq_true h1
 subst h1
 exact⟨c,d,Xs,Ra,ho,hc,hd,hx,Nat.eq_of_beq_eq_true h2,h.1,h3,h4,h.2⟩
theorem xp {k:List (dK×Option K)→List (dK×K)→Prop} (hs:Spec P f n σin [(.t 0,.v X)]) (h:aK1 σ o f n σin X fun Ra d=>k Ra [(.t d,.v X)]): ∃R W,vW P o R W∧bV R σ∧k R W:=by
 obtain⟨c,d,Xs,Ra,h1,h2,h3,h4,h5,h6,h7,h8,h9⟩:=yy h
 exact ke hs h1 h2 h3 h4 h5 h6 h7 h8 h9
theorem xc {g:Bool} {d:Tmp} {k:List (dK×Option K)→V→Prop} (hs:g=true→Spec P f n σin [(.t 0,.v X)]) (h:aK1 σ1 o f n σin X fun Ra d'=>match Nat.beq d' d with|true=>(g=true→pA σ Ra)∧k Ra X|false=>False): ∃R X,(g=true→vW P o R [(.t d,.v X)]∧bV R σ1)∧(g=true→pA σ R)∧k R X:=by
 obtain⟨c,d',Xs,Ra,h1,h2,h3,h4,h5,h6,h7,h8,h9⟩:=yy h
 split at h9
 · rename_i hb
   have hb:=Nat.eq_of_beq_eq_true hb
   subst hb
   exact vt hs h1 h2 h3 h4 h5 h6 h7 h8 h9.1 h9.2
 · exact h9.elim
end
section
variable {P:Program} {io:List Nat} {Q:Ex→St→Prop} {s σ':St} {rl:List (Nat×Nat)} {bor:List Nat}
theorem wq {J:St→Prop} (rl:List (Nat×Nat)) (bor:List Nat) (h:J σ') (h1:qL s σ' rl bor σ') (h2:bd σ' rl bor=true:=by rfl) (h3:zA io σ' rl bor=true:=by rfl):WK io J s:=Ab.wk σ' rl bor h (qs h1) h2 h3
theorem wa {c:Code} (σ':St) (rl:List (Nat×Nat)) (bor:List Nat) (h1:qL s σ' rl bor σ') (h:SW P io c Q σ') (h2:bd σ' rl bor=true:=by rfl) (h3:zA io σ' rl bor=true:=by rfl):SW P io c Q s:=SW.weaken σ' rl bor ⟨qs h1,h2⟩ h3 h
theorem rq {T:hZ} {rs:List ResultVar} {X:V} (rl:List (Nat×Nat)) (bor:List Nat) (h1:aH0 T s rs=some X) (h2:qL ((.t 0,.v X)::eH s) σ' rl bor σ') (h3:bd σ' rl bor=true:=by rfl) (h4:vf io σ' rl bor=true:=by rfl):be T io rs σ' s:=eF X rl bor h1 (qs h2) h3 h4
theorem sq {x y:Code} (h:SW P io x (jz (SW P io y Q) Q) s):SW P io (.seq x y) Q s:=SW.seq h
theorem sk (h:Q .norm s):SW P io .skip Q s:=SW.skip h
theorem bk {id:Nat} {c:Code} (h:SW P io c (aHy id Q) s):SW P io (.block id c) Q s:=SW.block h
theorem xt {id:Nat} (h:Q (.exit id) s):SW P io (.exit id) Q s:=SW.exit h
theorem rt (h:Q .ret s):SW P io .ret Q s:=SW.ret h
theorem cd {c:Operand} {x y:Code} {t:Bool} {R:List (dK×Option K)} (hc:ev s c=some (B t,R)) (h1:t=true→SW P io x Q s) (h2:t=false→SW P io y Q s):SW P io (.cond c x y) Q s:=SW.cond hc h1 h2
end
theorem qx {p:Prop} (h:p:=by first|exact True.intro|with_reducible rfl|exact aXm):p:=h
theorem qz {p:Prop} (h:p:=by(repeat' apply ai)<;>first|exact True.intro|with_reducible rfl|exact aXm|rfl|(simp;done)|omega):p:=h
abbrev tI (s:Nat) (x:Int):dK×K:=(.t s,.v (I x))
abbrev tB (s:Nat) (x:Bool):dK×K:=(.t s,.v (B x))
abbrev tD (s:Nat) (x:D):dK×K:=(.t s,.v (Dv x))
abbrev tP (s o:Nat):dK×K:=(.t s,.v (.e (.c (.pt o 0))))
abbrev tO (s o n:Nat):dK×K:=(.t s,.v (.e (.c (.own o n))))
abbrev tV (s:Nat) (x:V):dK×K:=(.t s,.v x)
abbrev oB (o:Nat) (t:TypeId) (cs:List C):dK×K:=(.o o,.box t cs)
abbrev oR (o:Nat) (t:TypeId) (n:Nat) (r:List (List D)):dK×K:=(.o o,.row t n r)
end Go.Ab
namespace Go.Proofs.YtmabaopgkimfmaaGreatDoor
open Int renaming toNat_natCast→aXy
open List renaming length_append→aXz,length_cons→aX1,length_nil→aX2,length_take→aX4,getD_eq_getElem?_getD→aX6,length_drop→aX7,getElem?_eq_getElem→aX9,getElem?_eq_some_iff→aYa,range→aYb,mem_map→aYc,all_eq_true→aYd,take_length→aYe
open Nat renaming le_of_ble_eq_true→aX0,zero_le→aX5,le_refl→aX8
open Bool renaming and_eq_true→aX3
open Go Go.Ab Go.RowKit
set_option linter.unusedVariables false
abbrev Sp:=Ab.Spec Tryz.prog
abbrev tn:=Ab.SpecE Tryz.prog
theorem mo:Tryz.prog.follows .mixedOrders=true:=by kernel_rfl
theorem rT {io:List Nat} {Q:Ex→St→Prop} {σ:St} (ks:List Nat) {id:Nat} {ops:Array Oper} (h:goC Tryz.prog tab ops.toList false ops.toList σ [] fun σ' _=>qT ks σ' (Q .norm)):SW Tryz.prog io (.region id ops false) Q σ:=SW.regT cK ks h
theorem rD {io:List Nat} {Q:Ex→St→Prop} {σ:St} (ks:List Nat) {id:Nat} {ops:Array Oper} (h:goC Tryz.prog tab ops.toList true ops.toList σ [] fun σ' ns=>zD ops.toList ns=true∧qT ks σ' (Q .norm)):SW Tryz.prog io (.region id ops true) Q σ:=SW.regD cK mo ks h
theorem rE {io:List Nat} {Q:Ex→St→Prop} {σ:St} (ks:List Nat) {id:Nat} {ops:Array Oper} (h:goE Tryz.prog tab io ops.toList ops.toList σ fun σ'=>qT ks σ' (Q .norm)):SW Tryz.prog io (.region id ops false) Q σ:=SW.regE cK ks h
theorem rF {io:List Nat} {Q:Ex→St→Prop} {σ:St} (ks:List Nat) {id:Nat} {ops:Array Oper} (h:goF Tryz.prog tab io ops.toList ops.toList σ fun σ'=>qT ks σ' (Q .norm)):SW Tryz.prog io (.region id ops false) Q σ:=SW.regF cK ks h
theorem rX {io:List Nat} {Q:Ex→St→Prop} {σ:St} (ks:List Nat) {id:Nat} {ops:Array Oper} (h:goX Tryz.prog ops.toList σ [] fun σ' ns=>zD ops.toList ns=true∧qT ks σ' (Q .norm)):SW Tryz.prog io (.region id ops true) Q σ:=SW.regX mo ks h
theorem sb {f:FuncId} {fn:Func} {c:Code} {n:Nat} {σin:St} {σout:St} (hf:Tryz.prog.funcs[f]? =some fn) (hb:fn.body=some c) (h:SW Tryz.prog ((cE σin).filter fun o=>iS o (cE σout)) c (aSx tab ((cE σin).filter fun o=>iS o (cE σout)) fn.results.toList σout) σin) (hname: (fn.name== "runtime.NumGoroutine")=false:=by kernel_rfl) (hn:n≤fn.ntmps:=by decide) (hfit:tJ fn.ntmps c=true:=by kernel_rfl) (hsl:sT n σin=true:=by rfl):Sp f n σin σout:=aDg cK hf hb hname hn hfit hsl h
theorem ul {f:FuncId} {fn:Func} {c:Code} {n:Nat} {σin:St} {Qo:St→Prop} (hf:Tryz.prog.funcs[f]? =some fn) (hb:fn.body=some c) (h:SW Tryz.prog (cE σin) c (aOi tab (cE σin) fn.results.toList Qo) σin) (hname: (fn.name== "runtime.NumGoroutine")=false:=by kernel_rfl) (hn:n≤fn.ntmps:=by decide) (hfit:tJ fn.ntmps c=true:=by kernel_rfl) (hsl:sT n σin=true:=by rfl):tn f n σin Qo:=aAj cK hf hb hname hn hfit hsl h
end Go.Proofs.YtmabaopgkimfmaaGreatDoor
namespace Go.Ab
open Int renaming toNat_natCast→aXy
open List renaming length_append→aXz,length_cons→aX1,length_nil→aX2,length_take→aX4,getD_eq_getElem?_getD→aX6,length_drop→aX7,getElem?_eq_getElem→aX9,getElem?_eq_some_iff→aYa,range→aYb,mem_map→aYc,all_eq_true→aYd,take_length→aYe
open Nat renaming le_of_ble_eq_true→aX0,zero_le→aX5,le_refl→aX8
open Bool renaming and_eq_true→aX3
open Go Go.RowKit
set_option linter.unusedVariables false
set_option linter.unusedSimpArgs false
def pz (T:hZ) (sz:Nat):Nat→List (Nat×TypeId)→Bool
 |off,[]=>Nat.beq off sz
 |off,p::r=>Nat.beq p.1 off&&(match T p.2 with|some fi=>pz T sz (off+fi.size) r|none=>false)
def jd (T:hZ):Nat→TypeId→Bool
 |0,_=>false
 |n+1,t=>match T t with
  |none=>false
  |some ti=>match ti.kind with
   | .int .i64=>true
   | .int .u8=>true
   | .bool=>true
   | .str=>true
   | .sl e=>jd T n e
   | .st fs=>pz T ti.size 0 fs&&fs.all fun p=>jd T n p.2
   |_=>false
def vS (T:hZ) (B:Nat):Nat→TypeId→List D→Prop
 |0,_,_=>False
 |n+1,t,ds=>match T t with
  |none=>False
  |some ti=>match ti.kind with
   | .int .i64=> ∃x,ds=[.i x]∧(Lit.int .i64 x).wf=true
   | .int .u8=> ∃x,ds=[.u x]∧(Lit.int .u8 x).wf=true
   | .bool=> ∃b,ds=[.b b]
   | .str=> ∃l,ds=[.s l]∧l.length≤B
   | .sl e=> ∃rows,ds=[.sl rows]∧(match T e with|some ei=>rows.length*ei.bytes≤B|none=>False)∧ ∀r∈rows,vS T B n e r
   | .st fs=>ds.length=ti.size∧ ∀p∈fs,match T p.2 with|some fi=>vS T B n p.2 ((ds.drop p.1).take fi.size)|none=>False
   |_=>False
section
variable {H:Type} {enc:TypeId×Value→H} {P:Program} {W:World} {sp:Nat→Bool} {held:Bool} {T:hZ} {B:Nat}
theorem je (hT:dV P T) {t:TypeId} {ti:TI} (h:T t=some ti):P.cellsOf t=ti.size∧P.bytesOf t=ti.bytes:=by
 obtain⟨i,z,hi,h1,h2,_⟩:=(hT t ti h).info
 exact⟨by simp[Program.cellsOf,hi,h1],by simp[Program.bytesOf,hi,h2]⟩
theorem aSi {a:Addr} {v:Value} (h:W.cell? a=some v):a.block<W.heap.size:=by
 unfold World.cell? at h
 cases hq:W.heap[a.block]? with
 |none=>rw[hq] at h;simp at h
 |some o=>exact(Array.getElem?_eq_some_iff.1 hq).1
theorem aHb {base:Nat} {a:Addr} {n:Nat} {cs:List Value} (h:W.cells? base a n=some cs):cs.length=n∧ ∀(k:Nat) v,cs[k]? =some v→W.cell? (a.add k)=some v:=by
 unfold World.cells? at h
 split at h
 · have key: ∀(l:List Nat) (cs:List Value),l.mapM (fun i=>W.cell? (a.add i))=some cs→cs.length=l.length∧ ∀(k:Nat) v,cs[k]? =some v→ ∃i,l[k]? =some i∧W.cell? (a.add i)=some v:=by
    intro l
    induction l with
    |nil=>intro cs h;simp at h;subst h;exact⟨rfl,by simp⟩
    |cons x r ih=>
     intro cs h
     rw[List.mapM_cons] at h
     obtain⟨v,h1,h⟩:=Option.bind_eq_some_iff.1 h
     obtain⟨vs,h2,h⟩:=Option.bind_eq_some_iff.1 h
     cases h
     obtain⟨q1,q2⟩:=ih vs h2
     refine⟨by simp[q1],fun k u hu=> ?_⟩
     cases k with
     |zero=>simp at hu;subst hu;exact⟨x,rfl,h1⟩
     |succ k=>simpa using q2 k u (by simpa using hu)
   obtain⟨q1,q2⟩:=key _ _ h
   refine⟨by simpa using q1,fun k v hv=> ?_⟩
   obtain⟨i,h1,h2⟩:=q2 k v hv
   have:=(aYa.1 h1)
   obtain⟨h3,h4⟩:=this
   simp at h4
   rw[h4];exact h2
 · cases h
def SW0 (W:World):Nat→Prop:=fun b=>b<W.heap.size
def Rd (W:World) (ds:List D) (cs:List Value):Prop:=ds.length=cs.length∧ ∀(k:Nat) x v,ds[k]? =some x→cs[k]? =some v→DR W (SW0 W) x v
theorem Rd.one {x:D} {v:Value} (h:DR W (SW0 W) x v):Rd W [x] [v]:=⟨rfl,fun k y u h1 h2=>by
 cases k with
 |zero=>simp at h1 h2;subst h1;subst h2;exact h
 |succ k=>simp at h1⟩
theorem Rd.append {ds es:List D} {cs vs:List Value} (h:Rd W ds cs) (k:Rd W es vs):Rd W (ds++es) (cs++vs):=by
 refine⟨by simp[h.1,k.1],fun i x v h1 h2=> ?_⟩
 by_cases hi:i<ds.length
 · rw[List.getElem?_append_left hi] at h1
   rw[List.getElem?_append_left (by rw[← h.1];exact hi)] at h2
   exact h.2 i x v h1 h2
 · rw[List.getElem?_append_right (by omega)] at h1
   rw[List.getElem?_append_right (by rw[← h.1];omega),← h.1] at h2
   exact k.2 _ x v h1 h2
def aPt (enc:TypeId×Value→H) (P:Program) (W:World) (sp:Nat→Bool) (held:Bool) (T:hZ) (B N:Nat) (t:TypeId):Prop:=
 ∀fuel cs d ps,DataW.trod enc P W 0 sp held fuel t cs=some (d,ps)→(d.weights P t).all (· ≤B)=true→ ∃ds,Rd W ds cs∧vS T B N t ds
theorem my (hT:dV P T) {N sz fuel:Nat}: ∀(fs:List Field) (off:Nat) (cs:List Value) (xs:List (DataW H×List MemPlace)),pz T sz off (fs.map fun f=>(f.offset,f.type))=true→cs.length=sz→off≤sz→
 (∀f∈fs,aPt enc P W sp held T B N f.type)→fs.mapM (fun f=>DataW.trod enc P W 0 sp held fuel f.type ((cs.drop f.offset).take (P.cellsOf f.type)))=some xs→(DataW.weightsEach P (fs.map (·.type)) (xs.map (·.1))).all (· ≤B)=true→
 ∃ds,Rd W ds (cs.drop off)∧ ∀p∈fs.map (fun f=>(f.offset,f.type)),off≤p.1∧match T p.2 with|some fi=>vS T B N p.2 ((ds.drop (p.1 - off)).take fi.size)|none=>False
 | [],off,cs,xs,ht,hl,ho,_,_,_=>by
  have:off=sz:=Nat.eq_of_beq_eq_true ht
  exact⟨[],by rw[List.drop_eq_nil_of_le (by omega)];exact⟨rfl,by simp⟩,by simp⟩
 |f::fs,off,cs,xs,ht,hl,ho,hop,hm,hw=>by
  simp only[List.map_cons,pz,aX3] at ht
  obtain⟨h1,h2⟩:=ht
  have h1:=Nat.eq_of_beq_eq_true h1
  cases hf:T f.type with
  |none=>rw[hf] at h2;cases h2
  |some fi=>
   rw[hf] at h2
   simp only at h2
   rw[List.mapM_cons] at hm
   obtain⟨x,hx,hm⟩:=Option.bind_eq_some_iff.1 hm
   obtain⟨ys,hy,hm⟩:=Option.bind_eq_some_iff.1 hm
   cases hm
   obtain⟨hc1,hc2⟩:=je hT hf
   simp only[List.map_cons,DataW.weightsEach,List.all_append,aX3] at hw
   obtain⟨ds,hr,hty⟩:=hop f (List.mem_cons_self ..) _ _ _ _ hx hw.1
   have hoff:off+fi.size≤sz:=by
    have key: ∀(l:List (Nat×TypeId)) (o:Nat),pz T sz o l=true→o≤sz:=by
     intro l
     induction l with
     |nil=>intro o h;exact Nat.le_of_eq (Nat.eq_of_beq_eq_true h)
     |cons p r ih=>
      intro o h
      simp only[pz,aX3] at h
      cases hq:T p.2 with
      |none=>rw[hq] at h;cases h.2
      |some qi=>rw[hq] at h;have:=ih _ h.2;omega
    exact key _ _ h2
   obtain⟨es,hr2,hty2⟩:=my hT fs (off+fi.size) cs ys h2 hl hoff (fun g hg=>hop g (List.mem_cons_of_mem _ hg)) hy hw.2
   rw[hc1,h1] at hr
   have hdl:ds.length=fi.size:=by rw[hr.1,aX4,aX7];omega
   refine⟨ds++es,?_,fun p hp=> ?_⟩
   · have e:cs.drop off=(cs.drop off).take fi.size++cs.drop (off+fi.size):=by
      rw[← List.drop_drop,List.take_append_drop]
     rw[e];exact hr.append hr2
   · rcases List.mem_cons.1 hp with rfl|hp
     · refine⟨Nat.le_of_eq h1.symm,?_⟩
       simp only[hf,h1,Nat.sub_self,List.drop_zero]
       rw[List.take_append_of_le_length (by omega),← hdl,aYe];exact hty
     · obtain⟨q1,q2⟩:=hty2 p hp
       refine⟨by omega,?_⟩
       cases hq:T p.2 with
       |none=>rw[hq] at q2;exact q2
       |some qi=>
        rw[hq] at q2
        simp only at q2 ⊢
        rw[List.drop_append,List.drop_eq_nil_of_le (by omega),List.nil_append,hdl,show p.1 - off - fi.size=p.1 - (off+fi.size) by omega]
        exact q2
theorem dk {e:TypeId}: ∀{l:List (DataW H)},(DataW.weightsAll P e l).all (· ≤B)=true→ ∀d∈l,(d.weights P e).all (· ≤B)=true
 | [],_,d,hd=>by cases hd
 |x::r,h,d,hd=>by
  simp only[DataW.weightsAll,List.all_append,aX3] at h
  rcases List.mem_cons.1 hd with rfl|hd
  · exact h.1
  · exact dk h.2 d hd
theorem jf (hT:dV P T): ∀(N:Nat) (t:TypeId),jd T N t=true→aPt enc P W sp held T B N t
 |0,t,h=>by cases h
 |N+1,t,h=>by
  intro fuel cs d ps htr hw
  unfold jd at h
  cases ht:T t with
  |none=>rw[ht] at h;cases h
  |some ti=>
   rw[ht] at h
   simp only at h
   have hok:=hT t ti ht
   have hk:=hok.kind
   cases fuel with
   |zero=>cases htr
   |succ fuel=>
    cases hkk:ti.kind with
    |int k=>
     rw[hkk] at h hk
     simp only[mM] at hk
     unfold DataW.trod at htr
     rw[hk] at htr
     split at htr<;>rename_i he<;>try(cases he;done)
     · rename_i _ _ kk mm
       cases he
       split at htr
       · rename_i hc
         cases htr
         obtain⟨rfl,hwf⟩:=hc
         cases kk<;>try(cases h;done)
         · exact⟨[.i mm],.one (.i _),by unfold vS;simp only[ht,hkk];exact⟨_,rfl,hwf⟩⟩
         · exact⟨[.u mm],.one (.u _),by unfold vS;simp only[ht,hkk];exact⟨_,rfl,hwf⟩⟩
       · cases htr
     all_goals cases htr
    |bool=>
     rw[hkk] at hk
     simp only[mM] at hk
     unfold DataW.trod at htr
     rw[hk] at htr
     split at htr<;>rename_i he<;>try(cases he;done)
     · cases htr
       exact⟨[.b _],.one (.b _),by unfold vS;simp only[ht,hkk];exact⟨_,rfl⟩⟩
     all_goals cases htr
    |str=>
     rw[hkk] at hk
     simp only[mM] at hk
     unfold DataW.trod at htr
     rw[hk] at htr
     split at htr<;>rename_i he<;>try(cases he;done)
     · rename_i _ s
       split at htr
       · cases htr
         refine⟨[.s s.data.toList],.one (.s _),?_⟩
         unfold vS;simp only[ht,hkk]
         exact⟨_,rfl,by simpa[DataW.weights] using hw⟩
       · cases htr
     all_goals cases htr
    |sl e=>
     rw[hkk] at h hk
     simp only[mM] at hk
     simp only at h
     have hih:=jf hT N e h
     cases he:T e with
     |none=>cases N with
      |zero=>cases h
      |succ N=>unfold jd at h;rw[he] at h;cases h
     |some ei=>
      obtain⟨hc1,hc2⟩:=je hT he
      have hep:=(hT e ei he).pos
      rcases Deep.open_slice hk htr with⟨rfl,hx⟩|⟨a,len,cap,m,n,Df,Pl,rfl,hb,hl,hm,hmm,hx,hel⟩
      · refine⟨[.sl []],.one (.sl [] none 0 0 ⟨0,0,none⟩ (fun _ _=>undef) (by simp) (by simp[maxLen]) (by simp) (by simp) (by simp) (by simp)),?_⟩
        unfold vS;simp only[ht,hkk]
        exact⟨[],rfl,by simp[he],by simp⟩
      · cases hx
        simp only[DataW.weights,hk,List.all_cons,List.all_append,aX3,aD,List.length_map,List.length_range] at hw
        have hlm:len≤m:=by rw[hmm];split<;>omega
        have hrow: ∀i,i<len→ ∃r,(∃cs',W.cells? 0 (a.add (i*ei.size)) ei.size=some cs'∧Rd W r cs')∧vS T B N e r:=by
         intro i hi
         obtain⟨cs',h1,h2⟩:=hel i (by omega)
         rw[hc1] at h1
         obtain⟨r,q1,q2⟩:=hih _ _ _ _ h2 (dk hw.2.1 _ (aYc.2 ⟨i,List.mem_range.2 hi,rfl⟩))
         exact⟨r,⟨cs',h1,q1⟩,q2⟩
        obtain⟨rf,hrf⟩: ∃rf:Nat→List D,∀i,i<len→(∃cs',W.cells? 0 (a.add (i*ei.size)) ei.size=some cs'∧Rd W (rf i) cs')∧vS T B N e (rf i):=
         ⟨fun i=>if hi:i<len then Classical.choose (hrow i hi) else [],fun i hi=>by dsimp only;rw[dif_pos hi];exact Classical.choose_spec (hrow i hi)⟩
        have hget: ∀(i:Nat) r,((aYb len).map rf)[i]? =some r→i<len∧r=rf i:=by
         intro i r hr
         rw[List.getElem?_map] at hr
         by_cases hi:i<len
         · rw[List.getElem?_range hi] at hr;simp at hr;exact⟨hi,hr.symm⟩
         · rw[List.getElem?_eq_none (by simpa using hi)] at hr;cases hr
        have hlen: ∀i,i<len→(rf i).length=ei.size:=by
         intro i hi
         obtain⟨⟨cs',h1,h2⟩,_⟩:=hrf i hi
         rw[h2.1,(aHb h1).1]
        have hcell: ∀i,i<len→ ∀(k:Nat) x,(rf i)[k]? =some x→ ∃v,W.cell? (a.add (i*ei.size+k))=some v∧DR W (SW0 W) x v:=by
         intro i hi k x hx
         obtain⟨⟨cs',h1,h2⟩,_⟩:=hrf i hi
         have hk':k<cs'.length:=by rw[← h2.1];exact(aYa.1 hx).1
         refine⟨cs'[k],?_,h2.2 k x _ hx (aX9 hk')⟩
         have:=(aHb h1).2 k _ (aX9 hk')
         rwa [Deep.add_add] at this
        refine⟨[.sl ((aYb len).map rf)],.one ?_,?_⟩
        · have e1: ((aYb len).map rf).length=len:=by simp
          have:=DR.sl (w:=W) (S:=SW0 W) ((aYb len).map rf) (some a) cap ei.size a (fun i k=>(W.cell? (a.add (i*ei.size+k))).getD undef) (by rw[e1];exact hl) hm
           (fun r hr=>by obtain⟨i,hi,rfl⟩:=aYc.1 hr;exact hlen i (List.mem_range.1 hi)) (fun _=>rfl)
           (fun i r k d hi hk=>by
            obtain⟨h1,rfl⟩:=hget i r hi
            obtain⟨v,h2,h3⟩:=hcell i h1 k d hk
            have hb: (a.add (i*ei.size+k)).block=a.block:=by unfold Addr.add;split<;>rfl
            exact⟨by have:=aSi h2;rw[hb] at this;exact this,by rw[h2];rfl⟩)
           (fun i r k d hi hk=>by
            obtain⟨h1,rfl⟩:=hget i r hi
            obtain⟨v,h2,h3⟩:=hcell i h1 k d hk
            rw[h2];exact h3)
          rw[e1] at this;exact this
        · unfold vS;simp only[ht,hkk]
          refine⟨_,rfl,?_,fun r hr=> ?_⟩
          · simp only[he]
            rw[List.length_map,List.length_range,← hc2]
            have:=hw.1
            rw[Nat.add_mul] at this
            omega
          · obtain⟨i,hi,rfl⟩:=aYc.1 hr
            exact(hrf i (List.mem_range.1 hi)).2
    |st fs=>
     rw[hkk] at h hk
     simp only[mM] at hk
     obtain⟨fields,hu,hfs⟩:=hk
     simp only[aX3] at h
     unfold DataW.trod at htr
     rw[hu] at htr
     have htr: (if cs.length=P.cellsOf t then(fields.toList.mapM fun f=>DataW.trod enc P W 0 sp held fuel f.type ((cs.drop f.offset).take (P.cellsOf f.type))).map fun xs=>(DataW.agg (xs.map (·.1)),xs.flatMap (·.2)) else none)=some (d,ps):=htr
     split at htr
     · rename_i hcl
       obtain⟨xs,hxs,hmk⟩:=Option.map_eq_some_iff.1 htr
       cases hmk
       have hsz:=(je hT ht).1
       simp only[DataW.weights,hu] at hw
       obtain⟨ds,h1,h2⟩:=my hT fields.toList 0 cs xs (by rw[hfs];exact h.1) (by rw[hcl,hsz]) (aX5 _)
        (fun f hf=>jf hT N f.type (by
         have:=aYd.1 h.2 (f.offset,f.type) (by rw[← hfs];exact aYc.2 ⟨f,hf,rfl⟩)
         exact this)) hxs hw
       refine⟨ds,by simpa using h1,?_⟩
       unfold vS;simp only[ht,hkk]
       refine⟨by have:=h1.1;simp at this;rw[this,hcl,hsz],fun p hp=> ?_⟩
       rw[← hfs] at hp
       have:=(h2 p hp).2
       simpa using this
     · cases htr
    |arr n e=>rw[hkk] at h;cases h
    |ptr e=>rw[hkk] at h;cases h
end
section
variable {H:Type} {enc:TypeId×Value→H} {P:Program} {W:World} {sp:Nat→Bool} {held:Bool} {T:hZ} {B:Nat}
theorem qa (hT:dV P T) (N:Nat) {t:TypeId} {ti:TI} (ht:T t=some ti) (hd:jd T N t=true) {v:Value} {d:DataW H} {ps:List MemPlace} {r:Reach} {base:Nat} (h:DataW.Trod enc P W 0 sp held t v d ps) (hv:Value.okWide P W r base t v) (hw: (d.weights P t).all (· ≤B)=true):
 ∃ds,vS T B N t ds∧(ti.kind.agg=true→ ∀σ ι,mI σ ι W (SW0 W) (.e (.agg (ds.map C.d))) v)∧(ti.kind.agg=false→ ∃x,ds=[x]∧ ∀σ ι,mI σ ι W (SW0 W) (Dv x) v):=by
 obtain⟨fuel,hf⟩:=h
 obtain⟨ds,h1,h2⟩:=jf hT N t hd _ _ _ _ hf hw
 refine⟨ds,h2,fun ha=> ?_,fun ha=> ?_⟩
 · have hk:=(hT t ti ht).kind
   have hcs: ∃cs,v= .agg cs:=by
    cases hkk:ti.kind<;>rw[hkk] at ha hk<;>simp only[TK.agg] at ha<;>try(cases ha;done)
    · simp only[mM] at hk
      obtain⟨fields,hu,_⟩:=hk
      obtain⟨cs,hcs,_⟩:=WideShapes.okWide_struct hu hv
      exact⟨cs,hcs⟩
    · cases N with
      |zero=>cases hd
      |succ N=>unfold jd at hd;rw[ht] at hd;simp only[hkk] at hd;cases hd
   obtain⟨cs,rfl⟩:=hcs
   intro σ ι
   have h1:Rd W ds cs.toList:=h1
   refine⟨cs.toList,by simp,by rw[List.length_map,h1.1],fun k c u hc hu=> ?_⟩
   rw[List.getElem?_map] at hc
   cases hq:ds[k]? with
   |none=>rw[hq] at hc;cases hc
   |some x=>rw[hq] at hc;cases hc;exact h1.2 k x u hq hu
 · have hk:=(hT t ti ht).kind
   have hone:v.cells.toList=[v]:=by
    cases hkk:ti.kind<;>rw[hkk] at ha hk<;>simp only[TK.agg] at ha<;>try(cases ha;done)
    all_goals simp only[mM] at hk
    · obtain⟨n,rfl⟩:=WideShapes.okWide_int hk hv;rfl
    · obtain⟨n,rfl⟩:=WideShapes.okWide_bool hk hv;rfl
    · obtain⟨n,rfl⟩:=WideShapes.okWide_string hk hv;rfl
    · obtain⟨a,l,c,rfl⟩:=WideShapes.okWide_slice hk hv;rfl
    · obtain⟨a,rfl⟩:=WideShapes.okWide_pointer hk hv;rfl
   rw[hone] at h1
   match ds,h1.1 with
   | [x],_=>exact⟨x,rfl,fun σ ι=>h1.2 0 x v rfl rfl⟩
theorem yz (hgb:GB P W fun _=>False) {f:FuncId} {n:Nat} {Xs:List V} (hs:Spec P f n (fA 0 Xs) [(.t 0,.v (Ab.B true))]) {args:Array Value} (hn:Xs.length=n) (hsz:args.size=n) (hX: ∀(i:Nat) X v,Xs[i]? =some X→args[i]? =some v→ ∀σ ι,mI σ ι W (SW0 W) X v):
 Calls P f args W fun e W'=>e= .returned (.bool true)∧Below W.heap.size W W':=by
 have hlo: ∀o,aV (fA 0 Xs) (.o o)=none:=fun o=>by have:=lK 0 Xs [] o;simpa[aV] using this
 have hvr:VR (fA 0 Xs) (fun _=>undef) (fun i=>(args[i]?).getD undef) (SW0 W) W:=by
  refine⟨fun s k hk=> ?_,(fun o k hk=>by rw[hlo] at hk;cases hk),fun o b hm=> ?_,fun o o' b hm=> ?_,fun b hb=>hb⟩
  · rcases uI 0 Xs [] s k (by simpa using hk) with⟨X,h1,rfl,_,h2⟩|h
    · have h3:s<args.size:=by omega
      have:args[s]? =some args[s]:=Array.getElem?_eq_getElem h3
      show mI _ _ _ _ X ((args[s]?).getD undef)
      rw[this]
      exact hX s X _ (by simpa using h1) this _ _
    · cases h
  · obtain⟨⟨k,hk,_⟩,_⟩:=hm;rw[hlo] at hk;cases hk
  · obtain⟨⟨k,hk,_⟩,_⟩:=hm;rw[hlo] at hk;cases hk
 refine(hs.2 _ _ _ W args (hgb.weak fun b ⟨o,⟨k,hk,_⟩,_⟩=>by rw[hlo] at hk;cases hk) hvr hsz fun i hi=> ?_).mono fun e W' ⟨v,ι',S',he,hp⟩=> ?_
 · rw[Array.getElem?_eq_getElem (by omega)];rfl
 · have hv:=hp.vr.slots 0 (.v (Ab.B true)) rfl
   simp only[rU,mI,ER,CR] at hv
   refine⟨?_,hp.fr.os,hp.fr.tape,hp.fr.output,hp.fr.size,fun k hk=>hp.fr.block k hk fun⟨o,⟨q,hq,_⟩,_⟩=>by rw[hlo] at hq;cases hq⟩
   rw[he];cases hv;rfl
end
end Go.Ab
namespace Go.Proofs.YtmabaopgkimfmaaGreatDoor
open Int renaming toNat_natCast→aXy
open List renaming length_append→aXz,length_cons→aX1,length_nil→aX2,length_take→aX4,getD_eq_getElem?_getD→aX6,length_drop→aX7,getElem?_eq_getElem→aX9,getElem?_eq_some_iff→aYa,range→aYb,mem_map→aYc,all_eq_true→aYd,take_length→aYe
open Nat renaming le_of_ble_eq_true→aX0,zero_le→aX5,le_refl→aX8
open Bool renaming and_eq_true→aX3
open Go Go.Ab Go.RowKit
set_option linter.unusedVariables false
set_option linter.unusedSimpArgs false
set_option maxRecDepth 9000
theorem gQ (n lo hi:Int):Sp 109 3 [tI 0 n,tI 1 lo,tI 2 hi] [tB 0 (iQ n lo hi)]:=by
 refine sb Tryz.func109 rfl (sq (rT [0,1,2] (s1 (sq (rT [6] (s4 (y3 (ai pk (s1 (rt (bQ rfl ?_)))))))))))
 simp[iQ,gb]
theorem dR (n lo hi:Int):Sp 123 3 [tI 0 n,tI 1 lo,tI 2 hi] [tB 0 (iQ n lo hi)]:=by
 refine sb Tryz.func123 rfl (sq (rT [0,1,2] (s1 (sq (rT [6] (s4 (y3 (ai pk (s1 (rt (bQ rfl ?_)))))))))))
 simp[iQ,gb]
theorem jO (n:Int):Sp 111 1 [tI 0 n] [tB 0 (eR n)]:=by
 refine sb Tryz.func111 rfl (sq (rT [0] (s1 (sq (rT [2] (s1 (xp (gQ _ _ _) (ai rfl ?_))))))))
 refine s1 (rt (bQ rfl ?_))
 first|rfl|(simp;done)|(simp_all;done)
theorem dX (n:Int):Sp 130 1 [tI 0 n] [tB 0 (eR n)]:=by
 refine sb Tryz.func130 rfl (sq (rT [0] (s1 (sq (rT [2] (s1 (xp (dR _ _ _) (ai rfl ?_))))))))
 refine s1 (rt (bQ rfl ?_))
 first|rfl|(simp;done)|(simp_all;done)
theorem sX (a b c d:Int):Sp 226 4 [tI 0 a,tI 1 b,tI 2 c,tI 3 d] [tB 0 (cJ a b c d)]:=by
 refine sb Tryz.func226 rfl (sq (rT [0,1,2,3] (s1 (sq (rT [8] (s4 (y4 (y3 (ai (fun h=>pk) (ai rk (ai pk (s1 (rt (bQ rfl (aA D.b ?_)))))))))))))))
 simp[cJ,gb]
theorem rN (a b c d:Int):Sp 225 4 [tI 0 a,tI 1 b,tI 2 c,tI 3 d] [tB 0 (cJ a b c d)]:=by
 refine sb Tryz.func225 rfl (sq (rT [0,1,2,3] (s1 (sq (rT [8] (s4 (y4 (y3 (ai (fun h=>pk) (ai rk (ai pk (s1 (rt (bQ rfl (aA D.b ?_)))))))))))))))
 simp[cJ,gb]
theorem aAw (m:cD):Sp 227 1 [tV 0 m.V] [tB 0 (lS m)]:=by
 refine sb Tryz.func227 rfl (sq (rT [1] (s2 (sq (rT [2] (s2 (xp (jO _) (ai rfl ?_))))))))
 refine s1 (y2 (xc (fun h=>(gQ _ _ _)) (ai rfl (ai rk ?_))))
 refine ai pk (s1 (y2 (xc (fun h=>(gQ _ _ _)) (ai rfl (ai rk ?_)))))
 refine ai pk (s1 (rt (bQ rfl (aA D.b ?_))))
 simp[lS,gb]
theorem aAx (s:List UInt8) (hl:s.length≤140737488355328):Sp 197 1 [tD 0 (.s s)] [tB 0 (zI s)]:=by
 refine sb Tryz.func197 rfl (sq (rT [0] (s1 (sq (sq (rT [0,3] (s1 (bk (SW.loopW (n:=s.length) (fun n q=> ∃i:Nat,n=s.length - i∧i≤s.length∧(∀k,k<i→vJ s k=true)∧q=[tD 0 (.s s),tI 3 (i:Nat)]) ?_ ?_)))))))))
 · exact wq (σ':=[tD 0 (.s s),tI 3 (0:Nat)]) [] [] (⟨0,rfl,aX5 _,fun k h=>absurd h (by omega),rfl⟩) qz
 rintro n s ⟨i,rfl,hi,hk,rfl⟩
 refine sq (sq (rT [0,3,7] (s4 (cd rfl (fun c7=> ?_) fun c7=> ?_))))
 · have hi2:i<s.length:=by simpa using c7
   have hb8:=kP s i
   have hw:wrap64 ((s.getD ((i:Nat):Int).toNat 0).toNat:Int)=jK s i:=aF (by unfold jK at hb8;rw[aXy];omega)
   refine sk (sq (bk (sq (rT [0,3,15] (s2 (ai (by exact⟨by omega,by omega⟩) (s1 (xp (gQ _ _ _) (ai rfl ?_)))))))))
   refine s1 (cd rfl (fun c15=> ?_) fun c15=> ?_)
   · refine sq (rT [2] (s1 (rt (bQ rfl (aA D.b ?_)))))
     have hs:vJ s i=false:=by
      have h9:=c15
      rw[hw] at h9
      simpa[vJ] using h9
     rw[zI,fW hi2 hs];rfl
   refine sk (rT [0,3] (s3 ?_))
   have hs:vJ s i=true:=by
    have h9:=c15
    rw[hw] at h9
    simpa[vJ] using h9
   refine wq [] [] (⟨s.length - (i+1),by omega,i+1,rfl,by omega,fun k h=>by by_cases e:k=i;exact e▸hs;exact hk k (by omega),rfl⟩) ?_
   repeat' apply ai
   all_goals first|exact qx|exact aA D.i (aF (by omega))|exact qz
 have hi3:i=s.length:=by simp at c7;omega
 refine xt (sq (rT [2] (s2 (xp (gQ _ _ _) (ai rfl ?_)))))
 refine s1 (rt (bQ rfl (aA D.b ?_)))
 subst hi3
 rw[zI,iT hk];rfl
theorem sY (n:bI) (hl:n.text.length≤140737488355328):Sp 153 1 [tV 0 n.V] [tB 0 (eV n)]:=by
 refine sb Tryz.func153 rfl (sq (rT [1] (s2 (sq (rT [2] (s2 (xp (jO _) (ai rfl ?_))))))))
 refine s1 (y2 (xc (fun h=>(jO _)) (ai rfl (ai rk ?_))))
 refine ai pk (s1 (y2 (xc (fun h=>(gQ _ _ _)) (ai rfl (ai rk ?_)))))
 refine ai pk (s1 (y2 (xc (fun h=>(gQ _ _ _)) (ai rfl (ai rk ?_)))))
 refine ai pk (s1 (y2 (xc (fun h=>(aAx n.text hl)) (ai rfl (ai rk ?_)))))
 refine ai pk (s1 (rt (bQ rfl (aA D.b ?_))))
 simp[eV,gb,Bool.and_assoc]
theorem xK (n:bI) (hl:n.text.length≤140737488355328):Sp 152 1 [tV 0 n.V] [tB 0 (eV n)]:=by
 refine sb Tryz.func152 rfl (sq (rT [1] (s2 (sq (sq (rT [1,37] (s2 (xp (dX _) (ai rfl ?_)))))))))
 refine s2 (y2 (xc (fun h=>(dX _)) (ai rfl (ai rk ?_))))
 refine y1 (ai pk (s1 (y2 (xc (fun h=>(dR _ _ _)) (ai rfl (ai rk ?_))))))
 refine y1 (ai pk (s1 (y2 (xc (fun h=>(dR _ _ _)) (ai rfl (ai rk ?_))))))
 refine y1 (ai pk (s1 (y4 (ai pk (s1 (y4 (ai pk (cd rfl (fun c37=> ?_) fun c37=> ?_))))))))
 · refine sq (rT [2] (s1 (rt (bQ rfl (aA D.b ?_)))))
   cases h:eV n with
   |false=>rfl
   |true=>
    exfalso
    simp only[eV,zI,aX3] at h
    obtain⟨⟨⟨⟨h1,h2⟩,h3⟩,h4⟩,h5,h6⟩:=h
    simp only[iQ,aX3,aD] at h6
    simp only[h1,h2,h3,h4,Bool.not_true,Bool.false_or,Bool.or_eq_true,aD] at c37
    omega
 have hf:eR n.frm=true∧eR n.to=true∧iQ n.num 1 99=true∧iQ n.til 1 999=true∧1≤n.text.length∧n.text.length≤24:=by
  simp only[gb,Bool.or_eq_false_iff,Bool.not_eq_false,decide_eq_false_iff_not,Bool.not_eq_eq_eq_not,Bool.not_false] at c37
  grind
 refine sk (sq (sq (rT [1,3] (s1 (bk (SW.loopW (n:=n.text.length) (fun m q=> ∃i:Nat,m=n.text.length - i∧i≤n.text.length∧(∀k,k<i→vJ n.text k=true)∧q=[tP 1 1,tI 3 (i:Nat),oB 1 52 [.d (.i n.frm),.d (.i n.num),.d (.i n.to),.d (.i n.til),.d (.s n.text)]]) ?_ ?_))))))
 · exact wq (σ':=[tP 1 1,tI 3 (0:Nat),oB 1 52 [.d (.i n.frm),.d (.i n.num),.d (.i n.to),.d (.i n.til),.d (.s n.text)]]) [] [] (⟨0,rfl,aX5 _,fun k h=>absurd h (by omega),rfl⟩) qz
 rintro n s ⟨i,rfl,hi,hk,rfl⟩
 refine sq (sq (rT [1,3,42] (s5 (cd rfl (fun c42=> ?_) fun c42=> ?_))))
 · have hi2:i<n.text.length:=by simpa using c42
   refine sk (sq (bk (sq (rT [1,3,56] (s3 (ai (by exact⟨by omega,by omega⟩) (s2 (y3 (ai (fun h=>(by exact⟨by omega,by omega⟩)) (ai rk (y1 (ai pk (cd rfl (fun c56=> ?_) fun c56=> ?_)))))))))))))
   · refine sq (rT [2] (s1 (rt (bQ rfl (aA D.b ?_)))))
     have hs:vJ n.text i=false:=by
      have h9:=c56
      rw[aXy] at h9
      simp[gb] at h9
      simp[vJ,iQ,jK];omega
     rw[eV,zI,fW hi2 hs];simp
   refine sk (rT [1,3] (s3 ?_))
   have hs:vJ n.text i=true:=by
    have h9:=c56
    rw[aXy] at h9
    simp[gb] at h9
    simp[vJ,iQ,jK];omega
   refine wq [] [] (⟨n.text.length - (i+1),by omega,i+1,rfl,by omega,fun k h=>by by_cases e:k=i;exact e▸hs;exact hk k (by omega),rfl⟩) ?_
   repeat' apply ai
   all_goals first|exact qx|exact aA D.i (aF (by omega))|exact qz
 have hi3:i=n.text.length:=by simp at c42;omega
 refine xt (sq (rT [2] (s1 (rt (bQ rfl (aA D.b ?_))))))
 subst hi3
 obtain⟨h1,h2,h3,h4,h5,h6⟩:=hf
 rw[eV,zI,iT hk,h1,h2,h3,h4]
 simp[iQ];omega
theorem nQ (l:List bI) (f m:Int) (hl:l.length≤1000000):Sp 96 3 [tD 0 (.sl (aI l)),tI 1 f,tI 2 m] [tI 0 (bD l f m)]:=by
 refine sb Tryz.func96 rfl (sq (rT [0,1,2] (s1 (sq (sq (rT [1,2,9,10,11] (s3 (bk (SW.loopW (n:=l.length) (fun n q=> ∃i:Nat,n=l.length - i∧i≤l.length∧(∀k,k<i→pC l f m k=false)∧q=[tI 1 f,tI 2 m,tD 9 (.sl (aI l)),tI 10 (l.length:Nat),tI 11 (i:Nat)]) ?_ ?_)))))))))
 · refine wq (σ':=[tI 1 f,tI 2 m,tD 9 (.sl (aI l)),tI 10 (l.length:Nat),tI 11 (0:Nat)]) [] [] (⟨0,rfl,aX5 _,fun k h=>absurd h (by omega),rfl⟩) ?_
   repeat' apply ai
   all_goals first|exact qx|(rw[aH];done)|rfl|exact qz
 rintro n s ⟨i,rfl,hi,hk,rfl⟩
 refine sq (rT [1,2,9,10,11,12] (s1 (sq (cd rfl (fun c12=> ?_) fun c12=> ?_))))
 · have hi2:i<l.length:=by simpa using c12
   have hg:=aX (l:=l) hi2
   refine sk (sq (bk (sq (rT [1,2,7,8,9,10,11] (s1 (ai (by rw[aXy,hg];exact⟨⟨by omega,by rw[aH];omega⟩,rfl⟩) (ai (by rw[aXy,hg];exact⟨aX0 rfl,rfl⟩) (s3 (sq (rT [1,2,7,9,10,11,25] (s5 (y4 (ai pk (cd rfl (fun c25=> ?_) fun c25=> ?_))))))))))))))
   · refine sq (rT [6] (s2 (rt (bQ rfl (aA D.i ?_)))))
     have hs:pC l f m i=true:=by
      have h9:=c25
      rw[aXy,hg] at h9
      exact h9
     exact(mJ (aX5 _) (by omega) (fun j _ h=>hk j h) hs).symm
   refine sk (rT [1,2,9,10,11] (s2 ?_))
   have hs:pC l f m i=false:=by
    have h9:=c25
    rw[aXy,hg] at h9
    exact h9
   refine wq [] [] (⟨l.length - (i+1),by omega,i+1,rfl,by omega,fun k h=>by by_cases e:k=i;exact e▸hs;exact hk k (by omega),rfl⟩) ?_
   repeat' apply ai
   all_goals first|exact qx|exact aA D.i (aF (by omega))|exact qz
 have hi3:i=l.length:=by simp at c12;omega
 refine xt (sq (rT [6] (s1 (rt (bQ rfl (aA D.i ?_))))))
 exact(mP (fun j _ h=>hk j (by omega))).symm
theorem gG (l:List bI) (f m:Int) (hl:l.length≤1000000):Sp 94 3 [tD 0 (.sl (aI l)),tI 1 f,tI 2 m] [tI 0 (bD l f m)]:=by
 refine sb Tryz.func94 rfl (sq (rT [0,1,2] (s1 (sq (sq (rT [0,1,2,7] (s1 (bk (SW.loopW (n:=l.length) (fun n q=> ∃i:Nat,n=l.length - i∧i≤l.length∧(∀k,k<i→pC l f m k=false)∧q=[tD 0 (.sl (aI l)),tI 1 f,tI 2 m,tI 7 (i:Nat)]) ?_ ?_)))))))))
 · exact wq (σ':=[tD 0 (.sl (aI l)),tI 1 f,tI 2 m,tI 7 (0:Nat)]) [] [] (⟨0,rfl,aX5 _,fun k h=>absurd h (by omega),rfl⟩) qz
 rintro n s ⟨i,rfl,hi,hk,rfl⟩
 refine sq (sq (rT [0,1,2,7,11] (s4 (cd rfl (fun c11=> ?_) fun c11=> ?_))))
 · have hi2:i<l.length:=by simpa[aH] using c11
   have hg:=aX (l:=l) hi2
   refine sk (sq (bk (sq (rT [0,1,2,7,29] (s2 (ai (by rw[aXy,hg];exact⟨⟨by omega,by rw[aH];omega⟩,rfl⟩) (s1 (ai (by rw[aXy,hg];exact⟨aX0 rfl,rfl⟩) (s3 (y2 (ai (fun h=>(by rw[aXy,hg];exact⟨⟨by omega,by rw[aH];omega⟩,rfl⟩)) (ai rk (y1 (ai (fun h=>(by rw[aXy,hg];exact⟨aX0 rfl,rfl⟩)) (ai rk (y2 (ai pk (cd rfl (fun c29=> ?_) fun c29=> ?_))))))))))))))))))
   · refine sq (rT [6] (s2 (rt (bQ rfl (aA D.i ?_)))))
     have hs:pC l f m i=true:=by
      have h9:=c29
      rw[aXy,hg] at h9
      exact h9
     exact(mJ (aX5 _) (by omega) (fun j _ h=>hk j h) hs).symm
   refine sk (rT [0,1,2,7] (s3 ?_))
   have hs:pC l f m i=false:=by
    have h9:=c29
    rw[aXy,hg] at h9
    exact h9
   refine wq [] [] (⟨l.length - (i+1),by omega,i+1,rfl,by omega,fun k h=>by by_cases e:k=i;exact e▸hs;exact hk k (by omega),rfl⟩) ?_
   repeat' apply ai
   all_goals first|exact qx|exact aA D.i (aF (by omega))|exact qz
 have hi3:i=l.length:=by simp[aH] at c11;omega
 refine xt (sq (rT [6] (s1 (rt (bQ rfl (aA D.i ?_))))))
 exact(mP (fun j _ h=>hk j (by omega))).symm
theorem sZ (l:List cD) (f m:Int) (hl:l.length≤1000000):Sp 162 3 [tD 0 (.sl (aS l)),tI 1 f,tI 2 m] [tI 0 (hD l f m)]:=by
 refine sb Tryz.func162 rfl (sq (rT [0,1,2] (s1 (sq (sq (rT [1,2,9,10,11] (s3 (bk (SW.loopW (n:=l.length) (fun n q=> ∃i:Nat,n=l.length - i∧i≤l.length∧(∀k,k<i→sD l f m k=false)∧q=[tI 1 f,tI 2 m,tD 9 (.sl (aS l)),tI 10 (l.length:Nat),tI 11 (i:Nat)]) ?_ ?_)))))))))
 · refine wq (σ':=[tI 1 f,tI 2 m,tD 9 (.sl (aS l)),tI 10 (l.length:Nat),tI 11 (0:Nat)]) [] [] (⟨0,rfl,aX5 _,fun k h=>absurd h (by omega),rfl⟩) ?_
   repeat' apply ai
   all_goals first|exact qx|(rw[aR];done)|rfl|exact qz
 rintro n s ⟨i,rfl,hi,hk,rfl⟩
 refine sq (rT [1,2,9,10,11,12] (s1 (sq (cd rfl (fun c12=> ?_) fun c12=> ?_))))
 · have hi2:i<l.length:=by simpa using c12
   have hg:=cA (l:=l) hi2
   refine sk (sq (bk (sq (rT [1,2,7,8,9,10,11] (s1 (ai (by rw[aXy,hg];exact⟨⟨by omega,by rw[aR];omega⟩,rfl⟩) (ai (by rw[aXy,hg];exact⟨aX0 rfl,rfl⟩) (s3 (sq (rT [1,2,7,9,10,11,25] (s5 (y4 (ai pk (cd rfl (fun c25=> ?_) fun c25=> ?_))))))))))))))
   · refine sq (rT [6] (s2 (rt (bQ rfl (aA D.i ?_)))))
     have hs:sD l f m i=true:=by
      have h9:=c25
      rw[aXy,hg] at h9
      exact h9
     exact(mJ (aX5 _) (by omega) (fun j _ h=>hk j h) hs).symm
   refine sk (rT [1,2,9,10,11] (s2 ?_))
   have hs:sD l f m i=false:=by
    have h9:=c25
    rw[aXy,hg] at h9
    exact h9
   refine wq [] [] (⟨l.length - (i+1),by omega,i+1,rfl,by omega,fun k h=>by by_cases e:k=i;exact e▸hs;exact hk k (by omega),rfl⟩) ?_
   repeat' apply ai
   all_goals first|exact qx|exact aA D.i (aF (by omega))|exact qz
 have hi3:i=l.length:=by simp at c12;omega
 refine xt (sq (rT [6] (s1 (rt (bQ rfl (aA D.i ?_))))))
 exact(mP (fun j _ h=>hk j (by omega))).symm
theorem oH (l:List cD) (f m:Int) (hl:l.length≤1000000):Sp 155 3 [tD 0 (.sl (aS l)),tI 1 f,tI 2 m] [tI 0 (hD l f m)]:=by
 refine sb Tryz.func155 rfl (sq (rT [0,1,2] (s1 (sq (sq (rT [0,1,2,7] (s1 (bk (SW.loopW (n:=l.length) (fun n q=> ∃i:Nat,n=l.length - i∧i≤l.length∧(∀k,k<i→sD l f m k=false)∧q=[tD 0 (.sl (aS l)),tI 1 f,tI 2 m,tI 7 (i:Nat)]) ?_ ?_)))))))))
 · exact wq (σ':=[tD 0 (.sl (aS l)),tI 1 f,tI 2 m,tI 7 (0:Nat)]) [] [] (⟨0,rfl,aX5 _,fun k h=>absurd h (by omega),rfl⟩) qz
 rintro n s ⟨i,rfl,hi,hk,rfl⟩
 refine sq (sq (rT [0,1,2,7,11] (s4 (cd rfl (fun c11=> ?_) fun c11=> ?_))))
 · have hi2:i<l.length:=by simpa[aR] using c11
   have hg:=cA (l:=l) hi2
   refine sk (sq (bk (sq (rT [0,1,2,7,29] (s2 (ai (by rw[aXy,hg];exact⟨⟨by omega,by rw[aR];omega⟩,rfl⟩) (s1 (ai (by rw[aXy,hg];exact⟨aX0 rfl,rfl⟩) (s3 (y2 (ai (fun h=>(by rw[aXy,hg];exact⟨⟨by omega,by rw[aR];omega⟩,rfl⟩)) (ai rk (y1 (ai (fun h=>(by rw[aXy,hg];exact⟨aX0 rfl,rfl⟩)) (ai rk (y2 (ai pk (cd rfl (fun c29=> ?_) fun c29=> ?_))))))))))))))))))
   · refine sq (rT [6] (s2 (rt (bQ rfl (aA D.i ?_)))))
     have hs:sD l f m i=true:=by
      have h9:=c29
      rw[aXy,hg] at h9
      exact h9
     exact(mJ (aX5 _) (by omega) (fun j _ h=>hk j h) hs).symm
   refine sk (rT [0,1,2,7] (s3 ?_))
   have hs:sD l f m i=false:=by
    have h9:=c29
    rw[aXy,hg] at h9
    exact h9
   refine wq [] [] (⟨l.length - (i+1),by omega,i+1,rfl,by omega,fun k h=>by by_cases e:k=i;exact e▸hs;exact hk k (by omega),rfl⟩) ?_
   repeat' apply ai
   all_goals first|exact qx|exact aA D.i (aF (by omega))|exact qz
 have hi3:i=l.length:=by simp[aR] at c11;omega
 refine xt (sq (rT [6] (s1 (rt (bQ rfl (aA D.i ?_))))))
 exact(mP (fun j _ h=>hk j (by omega))).symm
theorem aEr (id:Int) (n:bI):Sp 193 2 [tI 0 id,tV 1 n.V] [tB 0 (cp id n)]:=by
 refine sb Tryz.func193 rfl (sq (rT [0,3] (s2 (sq (rT [4] (s5 (y4 (y1 (xc (fun h=>(gQ _ _ _)) (ai rfl (ai rk ?_)))))))))))
 refine y4 (y2 (xc (fun h=>(gQ _ _ _)) (ai rfl (ai rk ?_))))
 refine ai (fun h=>pk) (ai rk (ai pk (s1 (rt (bQ rfl (aA D.b ?_))))))
 first|(simp only[cp,iQ,gb];done)|(simp only[cp,iQ,gb];grind)
theorem aAy (n:bI) (id:Int):Sp 190 2 [tV 0 n.V,tI 1 id] [tB 0 (cp id n)]:=by
 refine sb Tryz.func190 rfl (sq (rT [1,2] (s2 (sq (rT [4] (s5 (y4 (ai pk (s1 (y4 (y4 (y1 (ai (fun h=>pk) (ai rk (ai pk (s1 (rt (bQ rfl (aA D.b ?_)))))))))))))))))))
 first|(simp only[cp,iQ,gb];done)|(simp only[cp,iQ,gb];grind)
theorem dl (l:List bI) (hx: ∀x∈l,x.text.length≤140737488355328) (hl:l.length≤100000):Sp 191 1 [tD 0 (.sl (aI l))] [tB 0 (kJ l)]:=by
 refine sb Tryz.func191 rfl (sq (rT [0] (s1 (sq (sq (rT [0,5,6,7] (s3 (bk (SW.loopW (n:=l.length) (fun n q=> ∃i:Nat,n=l.length - i∧i≤l.length∧(∀k,k<i→mA l k=true)∧q=[tD 0 (.sl (aI l)),tD 5 (.sl (aI l)),tI 6 (l.length:Nat),tI 7 (i:Nat)]) ?_ ?_)))))))))
 · refine wq (σ':=[tD 0 (.sl (aI l)),tD 5 (.sl (aI l)),tI 6 (l.length:Nat),tI 7 (0:Nat)]) [] [] (⟨0,rfl,aX5 _,fun k h=>absurd h (by omega),rfl⟩) ?_
   repeat' apply ai
   all_goals first|exact qx|(rw[aH];done)|rfl|exact qz
 rintro n s ⟨i,rfl,hi,hk,rfl⟩
 refine sq (rT [0,5,6,7,8] (s1 (sq (cd rfl (fun c8=> ?_) fun c8=> ?_))))
 · have hi2:i<l.length:=by simpa using c8
   have hg:=aX (l:=l) hi2
   have hmem:l.getD i .zero∈l:=by rw[aX6,aX9 hi2];exact List.getElem_mem _
   refine sk (sq (bk (sq (rT [0,3,4,5,6,7] (s1 (ai (by rw[aXy,hg];exact⟨⟨by omega,by rw[aH];omega⟩,rfl⟩) (ai (by rw[aXy,hg];exact⟨aX0 rfl,rfl⟩) (s3 (sq (rD [0,5,6,7,38] (s1 (xp (sY (l.getD i .zero) (hx _ hmem)) (ai (by rw[aXy,hg];rfl) ?_)))))))))))))
   refine s2 (y4 (y2 (ai (fun h=>(by have h0:0<i:=(by have h9:=h;simp[gb] at h9;omega);rw[fJ h0 (by omega),aXy,aX (by omega),aH];exact⟨⟨by omega,by omega⟩,rfl⟩)) (ai rk (y1 (ai (fun h=>(by have h0:0<i:=(by have h9:=h;simp[gb] at h9;omega);rw[fJ h0 (by omega),aXy,aX (by omega)];exact⟨aX0 rfl,rfl⟩)) (ai rk (y3 (ai (fun h=>(by have h0:0<i:=(by have h9:=h;simp[gb] at h9;omega);rw[fJ h0 (by omega),aXy,aX (by omega),aH];exact⟨⟨by omega,by omega⟩,rfl⟩)) (ai rk (y1 (ai (fun h=>(by have h0:0<i:=(by have h9:=h;simp[gb] at h9;omega);rw[fJ h0 (by omega),aXy,aX (by omega)];exact⟨aX0 rfl,rfl⟩)) (ai rk (y4 (xc (fun h=>(sX _ _ _ _)) (ai rfl (ai rk ?_)))))))))))))))))
   refine y1 (ai (fun h=>pk) (ai rk (ai pk (ai (by kernel_rfl) (cd rfl (fun c38=> ?_) fun c38=> ?_)))))
   · refine sq (rT [2] (s1 (rt (bQ rfl (aA D.b ?_)))))
     have hs:mA l i=false:=uL c38 (fun h0=>by simp only[fJ h0 (show i≤1000000 by omega),aXy,hg,aX (show i - 1<l.length by omega)];rfl)
     rw[kJ,fW hi2 hs]
   refine sk (rT [0,5,6,7] (s2 ?_))
   have hs:mA l i=true:=uL c38 (fun h0=>by simp only[fJ h0 (show i≤1000000 by omega),aXy,hg,aX (show i - 1<l.length by omega)];rfl)
   refine wq [] [] (⟨l.length - (i+1),by omega,i+1,rfl,by omega,fun k h=>by by_cases e:k=i;exact e▸hs;exact hk k (by omega),rfl⟩) ?_
   repeat' apply ai
   all_goals first|exact qx|exact aA D.i (aF (by omega))|exact qz
 have hi3:i=l.length:=by simp at c8;omega
 refine xt (sq (rT [2] (s1 (rt (bQ rfl (aA D.b ?_))))))
 subst hi3
 rw[kJ,iT hk]
theorem bj (l:List bI) (most:Int) (hx: ∀x∈l,x.text.length≤140737488355328) (hl:l.length≤100000):Sp 188 2 [tD 0 (.sl (aI l)),tI 1 most] [tB 0 (decide ((l.length:Int)≤most)&&kJ l)]:=by
 refine sb Tryz.func188 rfl (sq (rT [0,1] (s1 (sq (sq (rT [0,9] (s4 (cd rfl (fun c9=> ?_) fun c9=> ?_))))))))
 · refine sq (rT [4] (s1 (rt (bQ rfl (aA D.b ?_)))))
   simp[aH] at c9
   simp[Int.not_le.2 c9]
 have hm: (l.length:Int)≤most:=by simp[aH] at c9;omega
 refine sk (sq (sq (rT [0,5] (s1 (bk (SW.loopW (n:=l.length) (fun n q=> ∃i:Nat,n=l.length - i∧i≤l.length∧(∀k,k<i→mA l k=true)∧q=[tD 0 (.sl (aI l)),tI 5 (i:Nat)]) ?_ ?_))))))
 · exact wq (σ':=[tD 0 (.sl (aI l)),tI 5 (0:Nat)]) [] [] (⟨0,rfl,aX5 _,fun k h=>absurd h (by omega),rfl⟩) qz
 rintro n s ⟨i,rfl,hi,hk,rfl⟩
 refine sq (sq (rT [0,5,13] (s4 (cd rfl (fun c13=> ?_) fun c13=> ?_))))
 · have hi2:i<l.length:=by simpa[aH] using c13
   have hg:=aX (l:=l) hi2
   have hmem:l.getD i .zero∈l:=by rw[aX6,aX9 hi2];exact List.getElem_mem _
   refine sk (sq (bk (sq (rD [0,5,51] (s2 (ai (by rw[aXy,hg];exact⟨⟨by omega,by rw[aH];omega⟩,rfl⟩) (ai (by rw[aXy,hg];exact⟨aX0 rfl,rfl⟩) (xp (xK (l.getD i .zero) (hx _ hmem)) (ai (by rw[aXy,hg];rfl) ?_)))))))))
   refine s2 (y4 (y2 (ai (fun h=>(by have h0:0<i:=(by have h9:=h;simp[gb] at h9;omega);rw[fJ h0 (by omega),aXy,aX (by omega),aH];exact⟨⟨by omega,by omega⟩,rfl⟩)) (ai rk (y1 (ai (fun h=>(by have h0:0<i:=(by have h9:=h;simp[gb] at h9;omega);rw[fJ h0 (by omega),aXy,aX (by omega)];exact⟨aX0 rfl,rfl⟩)) (ai rk (y3 (ai (fun h=>(by have h0:0<i:=(by have h9:=h;simp[gb] at h9;omega);rw[fJ h0 (by omega),aXy,aX (by omega),aH];exact⟨⟨by omega,by omega⟩,rfl⟩)) (ai rk (y1 (ai (fun h=>(by have h0:0<i:=(by have h9:=h;simp[gb] at h9;omega);rw[fJ h0 (by omega),aXy,aX (by omega)];exact⟨aX0 rfl,rfl⟩)) (ai rk (y2 (ai (fun h=>(by rw[aXy,hg];exact⟨⟨by omega,by rw[aH];omega⟩,rfl⟩)) (ai rk (y1 (ai (fun h=>(by rw[aXy,hg];exact⟨aX0 rfl,rfl⟩)) (ai rk (y2 (ai (fun h=>(by rw[aXy,hg];exact⟨⟨by omega,by rw[aH];omega⟩,rfl⟩)) (ai rk (y1 (ai (fun h=>(by rw[aXy,hg];exact⟨aX0 rfl,rfl⟩)) (ai rk (xc (fun h=>(rN _ _ _ _)) (ai rfl (ai rk ?_))))))))))))))))))))))))))))
   refine y1 (ai (fun h=>pk) (ai rk (ai pk (ai (by kernel_rfl) (cd rfl (fun c51=> ?_) fun c51=> ?_)))))
   · refine sq (rT [4] (s1 (rt (bQ rfl (aA D.b ?_)))))
     have hs:mA l i=false:=uL c51 (fun h0=>by simp only[fJ h0 (show i≤1000000 by omega),aXy,hg,aX (show i - 1<l.length by omega)];rfl)
     rw[kJ,fW hi2 hs];simp
   refine sk (rT [0,5] (s3 ?_))
   have hs:mA l i=true:=uL c51 (fun h0=>by simp only[fJ h0 (show i≤1000000 by omega),aXy,hg,aX (show i - 1<l.length by omega)];rfl)
   refine wq [] [] (⟨l.length - (i+1),by omega,i+1,rfl,by omega,fun k h=>by by_cases e:k=i;exact e▸hs;exact hk k (by omega),rfl⟩) ?_
   repeat' apply ai
   all_goals first|exact qx|exact aA D.i (aF (by omega))|exact qz
 have hi3:i=l.length:=by simp[aH] at c13;omega
 refine xt (sq (rT [4] (s1 (rt (bQ rfl (aA D.b ?_))))))
 subst hi3
 rw[kJ,iT hk];simp[hm]
theorem za (l:List cD) (hl:l.length≤100000):Sp 192 1 [tD 0 (.sl (aS l))] [tB 0 (oO l)]:=by
 refine sb Tryz.func192 rfl (sq (rT [0] (s1 (sq (sq (rT [0,5,6,7] (s3 (bk (SW.loopW (n:=l.length) (fun n q=> ∃i:Nat,n=l.length - i∧i≤l.length∧(∀k,k<i→nE l k=true)∧q=[tD 0 (.sl (aS l)),tD 5 (.sl (aS l)),tI 6 (l.length:Nat),tI 7 (i:Nat)]) ?_ ?_)))))))))
 · refine wq (σ':=[tD 0 (.sl (aS l)),tD 5 (.sl (aS l)),tI 6 (l.length:Nat),tI 7 (0:Nat)]) [] [] (⟨0,rfl,aX5 _,fun k h=>absurd h (by omega),rfl⟩) ?_
   repeat' apply ai
   all_goals first|exact qx|(rw[aR];done)|rfl|exact qz
 rintro n s ⟨i,rfl,hi,hk,rfl⟩
 refine sq (rT [0,5,6,7,8] (s1 (sq (cd rfl (fun c8=> ?_) fun c8=> ?_))))
 · have hi2:i<l.length:=by simpa using c8
   have hg:=cA (l:=l) hi2
   have hmem:l.getD i .zero∈l:=by rw[aX6,aX9 hi2];exact List.getElem_mem _
   refine sk (sq (bk (sq (rT [0,3,4,5,6,7] (s1 (ai (by rw[aXy,hg];exact⟨⟨by omega,by rw[aR];omega⟩,rfl⟩) (ai (by rw[aXy,hg];exact⟨aX0 rfl,rfl⟩) (s3 (sq (rD [0,5,6,7,38] (s1 (xp (aAw (l.getD i .zero)) (ai (by rw[aXy,hg];rfl) ?_)))))))))))))
   refine s2 (y4 (y2 (ai (fun h=>(by have h0:0<i:=(by have h9:=h;simp[gb] at h9;omega);rw[fJ h0 (by omega),aXy,cA (by omega),aR];exact⟨⟨by omega,by omega⟩,rfl⟩)) (ai rk (y1 (ai (fun h=>(by have h0:0<i:=(by have h9:=h;simp[gb] at h9;omega);rw[fJ h0 (by omega),aXy,cA (by omega)];exact⟨aX0 rfl,rfl⟩)) (ai rk (y3 (ai (fun h=>(by have h0:0<i:=(by have h9:=h;simp[gb] at h9;omega);rw[fJ h0 (by omega),aXy,cA (by omega),aR];exact⟨⟨by omega,by omega⟩,rfl⟩)) (ai rk (y1 (ai (fun h=>(by have h0:0<i:=(by have h9:=h;simp[gb] at h9;omega);rw[fJ h0 (by omega),aXy,cA (by omega)];exact⟨aX0 rfl,rfl⟩)) (ai rk (y4 (xc (fun h=>(sX _ _ _ _)) (ai rfl (ai rk ?_)))))))))))))))))
   refine y1 (ai (fun h=>pk) (ai rk (ai pk (ai (by kernel_rfl) (cd rfl (fun c38=> ?_) fun c38=> ?_)))))
   · refine sq (rT [2] (s1 (rt (bQ rfl (aA D.b ?_)))))
     have hs:nE l i=false:=uM c38 (fun h0=>by simp only[fJ h0 (show i≤1000000 by omega),aXy,hg,cA (show i - 1<l.length by omega)];rfl)
     rw[oO,fW hi2 hs]
   refine sk (rT [0,5,6,7] (s2 ?_))
   have hs:nE l i=true:=uM c38 (fun h0=>by simp only[fJ h0 (show i≤1000000 by omega),aXy,hg,cA (show i - 1<l.length by omega)];rfl)
   refine wq [] [] (⟨l.length - (i+1),by omega,i+1,rfl,by omega,fun k h=>by by_cases e:k=i;exact e▸hs;exact hk k (by omega),rfl⟩) ?_
   repeat' apply ai
   all_goals first|exact qx|exact aA D.i (aF (by omega))|exact qz
 have hi3:i=l.length:=by simp at c8;omega
 refine xt (sq (rT [2] (s1 (rt (bQ rfl (aA D.b ?_))))))
 subst hi3
 rw[oO,iT hk]
theorem xL (k:bH) (hx: ∀x∈k.held,x.text.length≤140737488355328) (hy: ∀x∈k.inbox,x.text.length≤140737488355328):Sp 148 1 [tV 0 k.V] [tB 0 (dI k)]:=by
 refine sb Tryz.func148 rfl (sq (rT [1] (s2 (sq (sq (rT [1,42] (s2 (xp (jO _) (ai rfl ?_)))))))))
 refine s2 (y2 (xc (fun h=>(gQ _ _ _)) (ai rfl (ai rk ?_))))
 refine y1 (ai pk (s1 (y2 (xc (fun h=>(gQ _ _ _)) (ai rfl (ai rk ?_))))))
 refine y1 (ai pk (s1 (y4 (ai pk (s1 (y4 (ai pk (s1 (y4 (ai pk (cd rfl (fun c42=> ?_) fun c42=> ?_)))))))))))
 · refine sq (rT [2] (s1 (rt (bQ rfl (aA D.b ?_)))))
   refine(oP fun h=> ?_).symm
   obtain⟨⟨h1,h2,h3,h4,h5,h6⟩,⟨h7,h8,h9⟩,h10,h11,h12⟩:=(cC k).1 h
   simp only[gb,iQ,aH,aR,h1,Bool.not_true,Bool.false_or,Bool.or_eq_true,Bool.not_eq_eq_eq_not,Bool.and_eq_false_iff,aD,decide_eq_false_iff_not,Bool.not_eq_true'] at c42
   omega
 have hf:eR k.id=true∧(0≤k.time∧k.time≤999)∧(1≤k.next∧k.next≤100)∧k.held.length≤6∧k.marks.length≤12∧k.inbox.length≤6:=by
  simp only[gb,iQ,aH,aR,Bool.or_eq_false_iff,Bool.not_eq_false,decide_eq_false_iff_not,Bool.not_eq_eq_eq_not,Bool.not_false,aX3,aD] at c42
  obtain⟨⟨⟨⟨⟨q1,q2⟩,q3⟩,q4⟩,q5⟩,q6⟩:=c42
  exact⟨q1,q2,q3,by omega,by omega,by omega⟩
 obtain⟨f1,f2,f3,f4,f5,f6⟩:=hf
 refine sk (sq (sq (rT [1,58] (s2 (xp (dl k.held hx (by omega)) (ai rfl ?_))))))
 refine s2 (y2 (xc (fun h=>(za k.marks (by omega))) (ai rfl (ai rk ?_))))
 refine y1 (ai pk (s1 (y2 (xc (fun h=>(dl k.inbox hy (by omega))) (ai rfl (ai rk ?_))))))
 refine y1 (ai pk (cd rfl (fun c58=> ?_) fun c58=> ?_))
 · refine sq (rT [2] (s1 (rt (bQ rfl (aA D.b ?_)))))
   refine(oP fun h=> ?_).symm
   obtain⟨⟨h1,h2,h3,h4,h5,h6⟩,⟨h7,h8,h9⟩,h10,h11,h12⟩:=(cC k).1 h
   rw[h7,h8,h9] at c58
   cases c58
 have hg3:kJ k.held=true∧oO k.marks=true∧kJ k.inbox=true:=by
  simp only[gb,Bool.or_eq_false_iff,Bool.not_eq_false,Bool.not_eq_eq_eq_not,Bool.not_false] at c58
  exact⟨c58.1.1,c58.1.2,c58.2⟩
 refine sk (sq (sq (rT [1,60,61,62] (s4 (bk (SW.loopW (n:=k.held.length) (fun n q=> ∃i:Nat,n=k.held.length - i∧i≤k.held.length∧(∀j,j<i→tX k j=true)∧q=[tP 1 1,tD 60 (.sl (aI k.held)),tI 61 (k.held.length:Nat),tI 62 (i:Nat),oB 1 44 [.d (.i k.id),.d (.i k.time),.d (.i k.next),.d (.sl (aI k.held)),.d (.sl (aS k.marks)),.d (.sl (aI k.inbox))]]) ?_ ?_))))))
 · refine wq (σ':=[tP 1 1,tD 60 (.sl (aI k.held)),tI 61 (k.held.length:Nat),tI 62 (0:Nat),oB 1 44 [.d (.i k.id),.d (.i k.time),.d (.i k.next),.d (.sl (aI k.held)),.d (.sl (aS k.marks)),.d (.sl (aI k.inbox))]]) [] [] (⟨0,rfl,aX5 _,fun j h=>absurd h (by omega),rfl⟩) ?_
   repeat' apply ai
   all_goals first|exact qx|(rw[aH];done)|rfl|exact qz
 rintro n s ⟨i,rfl,hi,hk,rfl⟩
 refine sq (rT [1,60,61,62,63] (s1 (sq (cd rfl (fun c63=> ?_) fun c63=> ?_))))
 · have hi2:i<k.held.length:=by simpa using c63
   have hg:=aX (l:=k.held) hi2
   refine sk (sq (bk (sq (rT [1,4,60,61,62] (ai (by rw[aXy,hg];exact⟨⟨by omega,by rw[aH];omega⟩,rfl⟩) (ai (by rw[aXy,hg];exact⟨aX0 rfl,rfl⟩) (s2 (sq (wa [tP 1 1,tD 60 (.sl (aI k.held)),tI 61 (k.held.length:Nat),tI 62 (i:Nat),oB 1 44 [.d (.i k.id),.d (.i k.time),.d (.i k.next),.d (.sl (aI k.held)),.d (.sl (aS k.marks)),.d (.sl (aI k.inbox))],tP 4 4,oB 4 52 [.d (.i (k.held.getD i .zero).frm),.d (.i (k.held.getD i .zero).num),.d (.i (k.held.getD i .zero).to),.d (.i (k.held.getD i .zero).til),.d (.s (k.held.getD i .zero).text)]] [] [] ?_ ?_)))))))))
   · repeat' apply ai
     all_goals first|exact qx|(rw[aXy,hg];rfl)|exact qz
   refine rT [1,60,61,62,101] (s6 (y4 (y1 (ai pk (s1 (y4 (y1 (ai pk (s1 (y3 (xc (fun h=>(aEr k.id (k.held.getD i .zero))) (ai rfl (ai rk ?_)))))))))))))
   refine y1 (ai pk (s1 (y4 (y2 (xc (fun h=>(sZ k.marks _ _ (by omega))) (ai rfl (ai rk ?_)))))))
   refine y1 (ai pk (cd rfl (fun c101=> ?_) fun c101=> ?_))
   · refine sq (rT [2] (s1 (rt (bQ rfl (aA D.b ?_)))))
     refine(oP fun h=> ?_).symm
     obtain⟨⟨h1,h2,h3,h4,h5,h6⟩,⟨h7,h8,h9⟩,h10,h11,h12⟩:=(cC k).1 h
     rw[fW hi2 (zK c101)] at h10
     cases h10
   refine sk (rT [1,60,61,62] (s2 ?_))
   have hs:tX k i=true:=zK c101
   refine wq [] [] (⟨k.held.length - (i+1),by omega,i+1,rfl,by omega,fun j h=>by by_cases e:j=i;exact e▸hs;exact hk j (by omega),rfl⟩) ?_
   repeat' apply ai
   all_goals first|exact qx|exact aA D.i (aF (by omega))|exact qz
 have hiA:i=k.held.length:=by simp at c63;omega
 have hkA:=hk
 clear hk hi
 refine xt (sq (sq (rT [1,104,105,106] (s4 (bk (SW.loopW (n:=k.marks.length) (fun n q=> ∃i:Nat,n=k.marks.length - i∧i≤k.marks.length∧(∀j,j<i→xD k j=true)∧q=[tP 1 1,tD 104 (.sl (aS k.marks)),tI 105 (k.marks.length:Nat),tI 106 (i:Nat),oB 1 44 [.d (.i k.id),.d (.i k.time),.d (.i k.next),.d (.sl (aI k.held)),.d (.sl (aS k.marks)),.d (.sl (aI k.inbox))]]) ?_ ?_))))))
 · refine wq (σ':=[tP 1 1,tD 104 (.sl (aS k.marks)),tI 105 (k.marks.length:Nat),tI 106 (0:Nat),oB 1 44 [.d (.i k.id),.d (.i k.time),.d (.i k.next),.d (.sl (aI k.held)),.d (.sl (aS k.marks)),.d (.sl (aI k.inbox))]]) [] [] (⟨0,rfl,aX5 _,fun j h=>absurd h (by omega),rfl⟩) ?_
   repeat' apply ai
   all_goals first|exact qx|(rw[aR];done)|rfl|exact qz
 rintro n s ⟨i,rfl,hi,hk,rfl⟩
 refine sq (rT [1,104,105,106,107] (s1 (sq (cd rfl (fun c107=> ?_) fun c107=> ?_))))
 · have hi2:i<k.marks.length:=by simpa using c107
   have hg:=cA (l:=k.marks) hi2
   refine sk (sq (bk (sq (rT [1,6,104,105,106] (ai (by rw[aXy,hg];exact⟨⟨by omega,by rw[aR];omega⟩,rfl⟩) (ai (by rw[aXy,hg];exact⟨aX0 rfl,rfl⟩) (s2 (sq (wa [tP 1 1,tD 104 (.sl (aS k.marks)),tI 105 (k.marks.length:Nat),tI 106 (i:Nat),oB 1 44 [.d (.i k.id),.d (.i k.time),.d (.i k.next),.d (.sl (aI k.held)),.d (.sl (aS k.marks)),.d (.sl (aI k.inbox))],tP 6 6,oB 6 162 [.d (.i (k.marks.getD i .zero).frm),.d (.i (k.marks.getD i .zero).num),.d (.i (k.marks.getD i .zero).til)]] [] [] ?_ ?_)))))))))
   · repeat' apply ai
     all_goals first|exact qx|(rw[aXy,hg];rfl)|exact qz
   refine rT [1,104,105,106,128] (s6 (y4 (y1 (ai pk (s1 (y4 (y1 (ai pk (cd rfl (fun c128=> ?_) fun c128=> ?_)))))))))
   · refine sq (rT [2] (s1 (rt (bQ rfl (aA D.b ?_)))))
     refine(oP fun h=> ?_).symm
     obtain⟨⟨h1,h2,h3,h4,h5,h6⟩,⟨h7,h8,h9⟩,h10,h11,h12⟩:=(cC k).1 h
     rw[fW hi2 (zL c128)] at h11
     cases h11
   refine sk (rT [1,104,105,106] (s2 ?_))
   have hs:xD k i=true:=zL c128
   refine wq [] [] (⟨k.marks.length - (i+1),by omega,i+1,rfl,by omega,fun j h=>by by_cases e:j=i;exact e▸hs;exact hk j (by omega),rfl⟩) ?_
   repeat' apply ai
   all_goals first|exact qx|exact aA D.i (aF (by omega))|exact qz
 have hiB:i=k.marks.length:=by simp at c107;omega
 have hkB:=hk
 clear hk hi
 refine xt (sq (sq (rT [1,131,132,133] (s4 (bk (SW.loopW (n:=k.inbox.length) (fun n q=> ∃i:Nat,n=k.inbox.length - i∧i≤k.inbox.length∧(∀j,j<i→sU k j=true)∧q=[tP 1 1,tD 131 (.sl (aI k.inbox)),tI 132 (k.inbox.length:Nat),tI 133 (i:Nat),oB 1 44 [.d (.i k.id),.d (.i k.time),.d (.i k.next),.d (.sl (aI k.held)),.d (.sl (aS k.marks)),.d (.sl (aI k.inbox))]]) ?_ ?_))))))
 · refine wq (σ':=[tP 1 1,tD 131 (.sl (aI k.inbox)),tI 132 (k.inbox.length:Nat),tI 133 (0:Nat),oB 1 44 [.d (.i k.id),.d (.i k.time),.d (.i k.next),.d (.sl (aI k.held)),.d (.sl (aS k.marks)),.d (.sl (aI k.inbox))]]) [] [] (⟨0,rfl,aX5 _,fun j h=>absurd h (by omega),rfl⟩) ?_
   repeat' apply ai
   all_goals first|exact qx|(rw[aH];done)|rfl|exact qz
 rintro n s ⟨i,rfl,hi,hk,rfl⟩
 refine sq (rT [1,131,132,133,134] (s1 (sq (cd rfl (fun c134=> ?_) fun c134=> ?_))))
 · have hi2:i<k.inbox.length:=by simpa using c134
   have hg:=aX (l:=k.inbox) hi2
   refine sk (sq (bk (sq (rT [1,8,131,132,133] (ai (by rw[aXy,hg];exact⟨⟨by omega,by rw[aH];omega⟩,rfl⟩) (ai (by rw[aXy,hg];exact⟨aX0 rfl,rfl⟩) (s2 (sq (wa [tP 1 1,tD 131 (.sl (aI k.inbox)),tI 132 (k.inbox.length:Nat),tI 133 (i:Nat),oB 1 44 [.d (.i k.id),.d (.i k.time),.d (.i k.next),.d (.sl (aI k.held)),.d (.sl (aS k.marks)),.d (.sl (aI k.inbox))],tP 8 8,oB 8 52 [.d (.i (k.inbox.getD i .zero).frm),.d (.i (k.inbox.getD i .zero).num),.d (.i (k.inbox.getD i .zero).to),.d (.i (k.inbox.getD i .zero).til),.d (.s (k.inbox.getD i .zero).text)]] [] [] ?_ ?_)))))))))
   · repeat' apply ai
     all_goals first|exact qx|(rw[aXy,hg];rfl)|exact qz
   refine rT [1,131,132,133,172] (s6 (y4 (y1 (ai pk (s1 (y4 (y1 (ai pk (s1 (y4 (y4 (y4 (xc (fun h=>(sZ k.marks _ _ (by omega))) (ai rfl (ai rk ?_)))))))))))))))
   refine y1 (ai (fun h=>pk) (ai rk (ai pk (cd rfl (fun c172=> ?_) fun c172=> ?_))))
   · refine sq (rT [2] (s1 (rt (bQ rfl (aA D.b ?_)))))
     refine(oP fun h=> ?_).symm
     obtain⟨⟨h1,h2,h3,h4,h5,h6⟩,⟨h7,h8,h9⟩,h10,h11,h12⟩:=(cC k).1 h
     rw[fW hi2 (wG c172)] at h12
     cases h12
   refine sk (rT [1,131,132,133] (s2 ?_))
   have hs:sU k i=true:=wG c172
   refine wq [] [] (⟨k.inbox.length - (i+1),by omega,i+1,rfl,by omega,fun j h=>by by_cases e:j=i;exact e▸hs;exact hk j (by omega),rfl⟩) ?_
   repeat' apply ai
   all_goals first|exact qx|exact aA D.i (aF (by omega))|exact qz
 have hiC:i=k.inbox.length:=by simp at c134;omega
 refine xt (sq (rT [2] (s1 (rt (bQ rfl (aA D.b ?_))))))
 refine((cC k).2 ⟨⟨f1,f2,f3,f4,f5,f6⟩,hg3,iT ?_,iT ?_,iT ?_⟩).symm
 · rw[← hiA];exact hkA
 · rw[← hiB];exact hkB
 rw[← hiC];exact hk
theorem or4 (a b c d:Bool): (c||a||b||d)=(a||b||c||d):=by cases a<;>cases b<;>cases c<;>cases d<;>rfl
theorem or3 (a b c:Bool): (b||a||c)=(a||b||c):=by cases a<;>cases b<;>cases c<;>rfl
theorem or2 (a b:Bool): (b||a)=(a||b):=by cases a<;>cases b<;>rfl
theorem aUd (a b c d:Bool): (!(a&&b&&c)||d)=(!a|| !b|| !c||d):=by cases a<;>cases b<;>cases c<;>cases d<;>rfl
theorem tp (l:List cD) (hl:l.length≤100000):Sp 189 1 [tD 0 (.sl (aS l))] [tB 0 (decide (l.length≤12)&&oO l)]:=by
 refine sb Tryz.func189 rfl (sq (rT [0] (s1 (sq (sq (rT [0,7] (s3 (cd rfl (fun c7=> ?_) fun c7=> ?_))))))))
 · have hm: ¬l.length≤12:=by simp[aR] at c7;omega
   refine sq (rT [2] (s1 (rt (bQ rfl (aA D.b ?_)))))
   simp[hm]
 have hm:l.length≤12:=by simp[aR] at c7;omega
 refine sk (sq (sq (rT [0,3] (s1 (bk (SW.loopW (n:=l.length) (fun n q=> ∃i:Nat,n=l.length - i∧i≤l.length∧(∀k,k<i→nE l k=true)∧q=[tD 0 (.sl (aS l)),tI 3 (i:Nat)]) ?_ ?_))))))
 · exact wq (σ':=[tD 0 (.sl (aS l)),tI 3 (0:Nat)]) [] [] (⟨0,rfl,aX5 _,fun k h=>absurd h (by omega),rfl⟩) qz
 rintro n s ⟨i,rfl,hi,hk,rfl⟩
 refine sq (sq (rT [0,3,11] (s4 (cd rfl (fun c11=> ?_) fun c11=> ?_))))
 · have hi2:i<l.length:=by simpa[aR] using c11
   have hg:=cA (l:=l) hi2
   refine sk (sq (bk (sq (rT [0,3,4] (s2 (ai (by rw[aXy,hg];exact⟨⟨by omega,by rw[aR];omega⟩,rfl⟩) (ai (by rw[aXy,hg];exact⟨aX0 rfl,rfl⟩) (s2 (sq (wa [tD 0 (.sl (aS l)),tI 3 (i:Nat),tP 4 4,oB 4 162 [.d (.i (l.getD i .zero).frm),.d (.i (l.getD i .zero).num),.d (.i (l.getD i .zero).til)]] [] [] ?_ ?_))))))))))
   · repeat' apply ai
     all_goals first|exact qx|(rw[aXy,hg];rfl)|exact qz
   refine rD [0,3,57] (s2 (xp (dX _) (ai rfl ?_)))
   refine s2 (y2 (xc (fun h=>(dR _ _ _)) (ai rfl (ai rk ?_))))
   refine y1 (ai pk (s1 (y2 (xc (fun h=>(dR _ _ _)) (ai rfl (ai rk ?_))))))
   refine y1 (ai pk (s1 (y4 (y2 (ai (fun h=>(by have h0:0<i:=(by have h9:=h;simp[gb] at h9;omega);rw[fJ h0 (by omega),aXy,cA (by omega),aR];exact⟨⟨by omega,by omega⟩,rfl⟩)) (ai rk (y1 (ai (fun h=>(by have h0:0<i:=(by have h9:=h;simp[gb] at h9;omega);rw[fJ h0 (by omega),aXy,cA (by omega)];exact⟨aX0 rfl,rfl⟩)) (ai rk (y3 (ai (fun h=>(by have h0:0<i:=(by have h9:=h;simp[gb] at h9;omega);rw[fJ h0 (by omega),aXy,cA (by omega),aR];exact⟨⟨by omega,by omega⟩,rfl⟩)) (ai rk (y1 (ai (fun h=>(by have h0:0<i:=(by have h9:=h;simp[gb] at h9;omega);rw[fJ h0 (by omega),aXy,cA (by omega)];exact⟨aX0 rfl,rfl⟩)) (ai rk (y4 (xc (fun h=>(rN _ _ _ _)) (ai rfl (ai rk ?_)))))))))))))))))))
   refine y1 (ai (fun h=>pk) (ai rk (ai pk (ai (by kernel_rfl) (cd rfl (fun c57=> ?_) fun c57=> ?_)))))
   · refine sq (rT [2] (s1 (rt (bQ rfl (aA D.b ?_)))))
     have hs:nE l i=false:=uM ((aUd _ _ _ _).trans c57) (fun h0=>by simp only[fJ h0 (show i≤1000000 by omega),aXy,cA (show i - 1<l.length by omega)];rfl)
     rw[oO,fW hi2 hs];simp
   refine sk (rT [0,3] (s3 ?_))
   have hs:nE l i=true:=uM ((aUd _ _ _ _).trans c57) (fun h0=>by simp only[fJ h0 (show i≤1000000 by omega),aXy,cA (show i - 1<l.length by omega)];rfl)
   refine wq [] [] (⟨l.length - (i+1),by omega,i+1,rfl,by omega,fun k h=>by by_cases e:k=i;exact e▸hs;exact hk k (by omega),rfl⟩) ?_
   repeat' apply ai
   all_goals first|exact qx|exact aA D.i (aF (by omega))|exact qz
 have hi3:i=l.length:=by simp[aR] at c11;omega
 refine xt (sq (rT [2] (s1 (rt (bQ rfl (aA D.b ?_))))))
 subst hi3
 rw[oO,iT hk];simp[hm]
theorem xM (k:bH) (hb1:k.held.length≤100000∧k.marks.length≤100000∧k.inbox.length≤100000) (hx: ∀x∈k.held,x.text.length≤140737488355328) (hy: ∀x∈k.inbox,x.text.length≤140737488355328):Sp 145 1 [tV 0 k.V] [tB 0 (dI k)]:=by
 refine sb Tryz.func145 rfl (sq (rT [1] (s2 (sq (sq (rT [1,42] (s2 (xp (dX _) (ai rfl ?_)))))))))
 refine s2 (y2 (xc (fun h=>(dR _ _ _)) (ai rfl (ai rk ?_))))
 refine y1 (ai pk (s1 (y2 (xc (fun h=>(dR _ _ _)) (ai rfl (ai rk ?_))))))
 refine y1 (ai pk (s1 (y2 (xc (fun h=>(bj k.held 6 hx hb1.1)) (ai rfl (ai rk ?_))))))
 refine y1 (ai pk (s1 (y2 (xc (fun h=>(tp k.marks hb1.2.1)) (ai rfl (ai rk ?_))))))
 refine y1 (ai pk (s1 (y2 (xc (fun h=>(bj k.inbox 6 hy hb1.2.2)) (ai rfl (ai rk ?_))))))
 refine y1 (ai pk (cd rfl (fun c42=> ?_) fun c42=> ?_))
 · refine sq (rT [2] (s1 (rt (bQ rfl (aA D.b ?_)))))
   refine(oP fun h=> ?_).symm
   obtain⟨⟨h1,h2,h3,h4,h5,h6⟩,⟨h7,h8,h9⟩,h10,h11,h12⟩:=(cC k).1 h
   have h4b: ((k.held.length:Int)≤6):=by omega
   have h6b: ((k.inbox.length:Int)≤6):=by omega
   simp only[gb,iQ,h1,h7,h8,h9,h5,h4b,h6b,h2.1,h2.2,h3.1,h3.2,decide_true,Bool.and_true,Bool.not_true,Bool.or_false] at c42
   cases c42
 have hf: (eR k.id=true∧(0≤k.time∧k.time≤999)∧(1≤k.next∧k.next≤100)∧k.held.length≤6∧k.marks.length≤12∧k.inbox.length≤6)∧kJ k.held=true∧oO k.marks=true∧kJ k.inbox=true:=by
  simp only[gb,iQ,Bool.or_eq_false_iff,Bool.not_eq_false,decide_eq_false_iff_not,Bool.not_eq_eq_eq_not,Bool.not_false,aX3,aD] at c42
  obtain⟨⟨⟨⟨⟨q1,q2⟩,q3⟩,q4,q4b⟩,q5,q5b⟩,q6,q6b⟩:=c42
  exact⟨⟨q1,q2,q3,by omega,by omega,by omega⟩,q4b,q5b,q6b⟩
 obtain⟨⟨f1,f2,f3,f4,f5,f6⟩,hg3⟩:=hf
 refine sk (sq (sq (rT [1,3] (s1 (bk (SW.loopW (n:=k.held.length) (fun n q=> ∃i:Nat,n=k.held.length - i∧i≤k.held.length∧(∀j,j<i→tX k j=true)∧q=[tP 1 1,tI 3 (i:Nat),oB 1 44 [.d (.i k.id),.d (.i k.time),.d (.i k.next),.d (.sl (aI k.held)),.d (.sl (aS k.marks)),.d (.sl (aI k.inbox))]]) ?_ ?_))))))
 · refine wq (σ':=[tP 1 1,tI 3 (0:Nat),oB 1 44 [.d (.i k.id),.d (.i k.time),.d (.i k.next),.d (.sl (aI k.held)),.d (.sl (aS k.marks)),.d (.sl (aI k.inbox))]]) [] [] (⟨0,rfl,aX5 _,fun j h=>absurd h (by omega),rfl⟩) ?_
   repeat' apply ai
   all_goals first|exact qx|(rw[aH];done)|rfl|exact qz
 rintro n s ⟨i,rfl,hi,hk,rfl⟩
 refine sq (sq (rT [1,3,47] (s5 (cd rfl (fun c47=> ?_) fun c47=> ?_))))
 · have hi2:i<k.held.length:=by simpa[aH] using c47
   have hg:=aX (l:=k.held) hi2
   refine sk (sq (bk (sq (rT [1,3,4] (s3 (ai (by rw[aXy,hg];exact⟨⟨by omega,by rw[aH];omega⟩,rfl⟩) (ai (by rw[aXy,hg];exact⟨aX0 rfl,rfl⟩) (s2 (sq (wa [tP 1 1,tI 3 (i:Nat),oB 1 44 [.d (.i k.id),.d (.i k.time),.d (.i k.next),.d (.sl (aI k.held)),.d (.sl (aS k.marks)),.d (.sl (aI k.inbox))],tP 4 4,oB 4 52 [.d (.i (k.held.getD i .zero).frm),.d (.i (k.held.getD i .zero).num),.d (.i (k.held.getD i .zero).to),.d (.i (k.held.getD i .zero).til),.d (.s (k.held.getD i .zero).text)]] [] [] ?_ ?_))))))))))
   · repeat' apply ai
     all_goals first|exact qx|(rw[aXy,hg];rfl)|exact qz
   refine rT [1,3,90] (s6 (y3 (xc (fun h=>(aAy (k.held.getD i .zero) k.id)) (ai rfl (ai rk ?_)))))
   refine y1 (ai pk (s1 (y4 (y4 (y3 (ai (fun h=>pk) (ai rk (ai pk (s1 (y4 (y2 (xc (fun h=>(oH k.marks _ _ (by omega))) (ai rfl (ai rk ?_))))))))))))))
   refine y1 (ai pk (cd rfl (fun c90=> ?_) fun c90=> ?_))
   · refine sq (rT [2] (s1 (rt (bQ rfl (aA D.b ?_)))))
     refine(oP fun h=> ?_).symm
     obtain⟨⟨h1,h2,h3,h4,h5,h6⟩,⟨h7,h8,h9⟩,h10,h11,h12⟩:=(cC k).1 h
     rw[fW hi2 (zK ((or4 _ _ _ _).trans c90))] at h10
     cases h10
   refine sk (rT [1,3] (s3 ?_))
   have hs:tX k i=true:=zK ((or4 _ _ _ _).trans c90)
   refine wq [] [] (⟨k.held.length - (i+1),by omega,i+1,rfl,by omega,fun j h=>by by_cases e:j=i;exact e▸hs;exact hk j (by omega),rfl⟩) ?_
   repeat' apply ai
   all_goals first|exact qx|exact aA D.i (aF (by omega))|exact qz
 have hiA:i=k.held.length:=by simp[aH] at c47;omega
 have hkA:=hk
 clear hk hi
 refine xt (sq (sq (rT [1,5] (s1 (bk (SW.loopW (n:=k.marks.length) (fun n q=> ∃i:Nat,n=k.marks.length - i∧i≤k.marks.length∧(∀j,j<i→xD k j=true)∧q=[tP 1 1,tI 5 (i:Nat),oB 1 44 [.d (.i k.id),.d (.i k.time),.d (.i k.next),.d (.sl (aI k.held)),.d (.sl (aS k.marks)),.d (.sl (aI k.inbox))]]) ?_ ?_))))))
 · refine wq (σ':=[tP 1 1,tI 5 (0:Nat),oB 1 44 [.d (.i k.id),.d (.i k.time),.d (.i k.next),.d (.sl (aI k.held)),.d (.sl (aS k.marks)),.d (.sl (aI k.inbox))]]) [] [] (⟨0,rfl,aX5 _,fun j h=>absurd h (by omega),rfl⟩) ?_
   repeat' apply ai
   all_goals first|exact qx|(rw[aR];done)|rfl|exact qz
 rintro n s ⟨i,rfl,hi,hk,rfl⟩
 refine sq (sq (rT [1,5,95] (s5 (cd rfl (fun c95=> ?_) fun c95=> ?_))))
 · have hi2:i<k.marks.length:=by simpa[aR] using c95
   have hg:=cA (l:=k.marks) hi2
   refine sk (sq (bk (sq (rT [1,5,6] (s3 (ai (by rw[aXy,hg];exact⟨⟨by omega,by rw[aR];omega⟩,rfl⟩) (ai (by rw[aXy,hg];exact⟨aX0 rfl,rfl⟩) (s2 (sq (wa [tP 1 1,tI 5 (i:Nat),oB 1 44 [.d (.i k.id),.d (.i k.time),.d (.i k.next),.d (.sl (aI k.held)),.d (.sl (aS k.marks)),.d (.sl (aI k.inbox))],tP 6 6,oB 6 162 [.d (.i (k.marks.getD i .zero).frm),.d (.i (k.marks.getD i .zero).num),.d (.i (k.marks.getD i .zero).til)]] [] [] ?_ ?_))))))))))
   · repeat' apply ai
     all_goals first|exact qx|(rw[aXy,hg];rfl)|exact qz
   refine rT [1,5,121] (s6 (y4 (y4 (y3 (ai (fun h=>pk) (ai rk (ai pk (cd rfl (fun c121=> ?_) fun c121=> ?_))))))))
   · refine sq (rT [2] (s1 (rt (bQ rfl (aA D.b ?_)))))
     refine(oP fun h=> ?_).symm
     obtain⟨⟨h1,h2,h3,h4,h5,h6⟩,⟨h7,h8,h9⟩,h10,h11,h12⟩:=(cC k).1 h
     rw[fW hi2 (zL ((or2 _ _).trans c121))] at h11
     cases h11
   refine sk (rT [1,5] (s3 ?_))
   have hs:xD k i=true:=zL ((or2 _ _).trans c121)
   refine wq [] [] (⟨k.marks.length - (i+1),by omega,i+1,rfl,by omega,fun j h=>by by_cases e:j=i;exact e▸hs;exact hk j (by omega),rfl⟩) ?_
   repeat' apply ai
   all_goals first|exact qx|exact aA D.i (aF (by omega))|exact qz
 have hiB:i=k.marks.length:=by simp[aR] at c95;omega
 have hkB:=hk
 clear hk hi
 refine xt (sq (sq (rT [1,7] (s1 (bk (SW.loopW (n:=k.inbox.length) (fun n q=> ∃i:Nat,n=k.inbox.length - i∧i≤k.inbox.length∧(∀j,j<i→sU k j=true)∧q=[tP 1 1,tI 7 (i:Nat),oB 1 44 [.d (.i k.id),.d (.i k.time),.d (.i k.next),.d (.sl (aI k.held)),.d (.sl (aS k.marks)),.d (.sl (aI k.inbox))]]) ?_ ?_))))))
 · refine wq (σ':=[tP 1 1,tI 7 (0:Nat),oB 1 44 [.d (.i k.id),.d (.i k.time),.d (.i k.next),.d (.sl (aI k.held)),.d (.sl (aS k.marks)),.d (.sl (aI k.inbox))]]) [] [] (⟨0,rfl,aX5 _,fun j h=>absurd h (by omega),rfl⟩) ?_
   repeat' apply ai
   all_goals first|exact qx|(rw[aH];done)|rfl|exact qz
 rintro n s ⟨i,rfl,hi,hk,rfl⟩
 refine sq (sq (rT [1,7,126] (s5 (cd rfl (fun c126=> ?_) fun c126=> ?_))))
 · have hi2:i<k.inbox.length:=by simpa[aH] using c126
   have hg:=aX (l:=k.inbox) hi2
   refine sk (sq (bk (sq (rT [1,7,8] (s3 (ai (by rw[aXy,hg];exact⟨⟨by omega,by rw[aH];omega⟩,rfl⟩) (ai (by rw[aXy,hg];exact⟨aX0 rfl,rfl⟩) (s2 (sq (wa [tP 1 1,tI 7 (i:Nat),oB 1 44 [.d (.i k.id),.d (.i k.time),.d (.i k.next),.d (.sl (aI k.held)),.d (.sl (aS k.marks)),.d (.sl (aI k.inbox))],tP 8 8,oB 8 52 [.d (.i (k.inbox.getD i .zero).frm),.d (.i (k.inbox.getD i .zero).num),.d (.i (k.inbox.getD i .zero).to),.d (.i (k.inbox.getD i .zero).til),.d (.s (k.inbox.getD i .zero).text)]] [] [] ?_ ?_))))))))))
   · repeat' apply ai
     all_goals first|exact qx|(rw[aXy,hg];rfl)|exact qz
   refine rT [1,7,169] (s6 (y4 (y4 (y3 (ai (fun h=>pk) (ai rk (ai pk (s1 (y4 (y4 (y4 (xc (fun h=>(oH k.marks _ _ (by omega))) (ai rfl (ai rk ?_))))))))))))))
   refine y1 (ai (fun h=>pk) (ai rk (ai pk (cd rfl (fun c169=> ?_) fun c169=> ?_))))
   · refine sq (rT [2] (s1 (rt (bQ rfl (aA D.b ?_)))))
     refine(oP fun h=> ?_).symm
     obtain⟨⟨h1,h2,h3,h4,h5,h6⟩,⟨h7,h8,h9⟩,h10,h11,h12⟩:=(cC k).1 h
     rw[fW hi2 (wG ((or3 _ _ _).trans c169))] at h12
     cases h12
   refine sk (rT [1,7] (s3 ?_))
   have hs:sU k i=true:=wG ((or3 _ _ _).trans c169)
   refine wq [] [] (⟨k.inbox.length - (i+1),by omega,i+1,rfl,by omega,fun j h=>by by_cases e:j=i;exact e▸hs;exact hk j (by omega),rfl⟩) ?_
   repeat' apply ai
   all_goals first|exact qx|exact aA D.i (aF (by omega))|exact qz
 have hiC:i=k.inbox.length:=by simp[aH] at c126;omega
 refine xt (sq (rT [2] (s1 (rt (bQ rfl (aA D.b ?_))))))
 refine((cC k).2 ⟨⟨f1,f2,f3,f4,f5,f6⟩,hg3,iT ?_,iT ?_,iT ?_⟩).symm
 · rw[← hiA];exact hkA
 · rw[← hiB];exact hkB
 rw[← hiC];exact hk
theorem uR (n:Nat) (hn:n≤1000000000):Sp 89 1 [tI 0 (n:Nat)] [tD 0 (.s (kH n))]:=by
 induction n using Nat.strongRecOn
 rename_i n ih
 refine sb Tryz.func89 rfl (sq (rT [0] (s1 (sq (sq (rT [0,4] (s2 (cd rfl (fun c4=> ?_) fun c4=> ?_))))))))
 · simp at c4
   omega
 refine sk (sq (sq (rT [0,6] (s2 (cd rfl (fun c6=> ?_) fun c6=> ?_)))))
 · simp at c6
   omega
 refine sk (sq (sq (rT [0,12] (s2 (cd rfl (fun c12=> ?_) fun c12=> ?_)))))
 · have h10:n<10:=by simp at c12;omega
   refine sq (rT [2] (s3 (ai (by exact⟨by simp,aX0 rfl⟩) (ai (by exact⟨rfl,aA (fun r=>[r]) (aDv _)⟩) (s1 (rt (bQ rfl (aA D.s ?_))))))))
   rw[nO h10,← aF6 h10]
   rfl
 have h10: ¬n<10:=by simp at c12;omega
 have hq:wrap64 (Int.tdiv (n:Int) 10)=((n / 10:Nat):Int):=by rw[Int.tdiv_eq_ediv_of_nonneg (by omega),aF (by omega)];omega
 have hr:Int.tmod (n:Int) 10=((n % 10:Nat):Int):=by rw[Int.tmod_eq_emod_of_nonneg (by omega)];omega
 have hdl:=aKp (n / 10)
 refine sk (sq (rD [2] (s1 (ai (by omega) (xp (ih (n / 10) (by omega) (by omega)) (ai (by rw[hq];rfl) ?_))))))
 refine s1 (ai (by omega) (s2 (ai (by exact⟨by simp,aX0 rfl⟩) (ai (by exact⟨rfl,aA (fun r=>[r]) (aDv _)⟩) (ai (by show _≤9223372036854775807;simp only[jV,List.length_map,aX1,aX2];omega) (s1 (ai (by kernel_rfl) (rt (bQ rfl (aA D.s ?_))))))))))
 refine Eq.trans ?_ (uJ (by omega)).symm
 rw[hr,← aF6 (Nat.mod_lt n (by decide))]
 rfl
theorem dm (s:List UInt8) (hl:s.length≤140737488355328):Sp 108 1 [tD 0 (.s s)] [tV 0 (.tup [.c (.d (.i (match jT s with|some n=>(n:Int)|none=>0))),.c (.d (.b (jT s).isSome))])]:=by
 refine sb Tryz.func108 rfl (sq (rT [0] (s2 (sq (sq (rT [0,19] (s2 (xp (gQ _ _ _) (ai rfl ?_)))))))))
 refine s2 (y1 (ai (fun h=>(by have h9:=h;simp[gb,iQ] at h9;exact⟨by omega,by omega⟩)) (ai rk (y4 (y1 (ai (fun h=>pk) (ai rk (ai pk (cd rfl (fun c19=> ?_) fun c19=> ?_)))))))))
 · refine sq (rT [2,3] (s2 (rt ?_)))
   have hno:jT s=none:=by
    unfold jT
    rw[aB]
    rintro⟨h1,h2,h3⟩
    have h4:iQ (s.length:Int) 1 5=true:=by simp only[iQ,aX3,aD];omega
    rw[h4] at c19
    simp only[Bool.not_true,Bool.false_or,aX3,beq_iff_eq,aD] at c19
    refine h2 ⟨UInt8.toNat_inj.1 ?_,by omega⟩
    have h5: ((s.getD 0 0).toNat:Int)=48:=c19.1
    have h6: (48:UInt8).toNat=48:=rfl
    omega
   refine bJ rfl rfl ?_
   rw[hno]
   rfl
 have hL: (1≤s.length∧s.length≤5)∧ ¬(s.getD 0 0=48∧1<s.length):=by
  by_cases h1:1≤s.length∧s.length≤5
  · refine⟨h1,fun h2=> ?_⟩
    have h3: (((s.getD (Int.toNat 0) 0).toNat:Int)==48)=true:=by rw[show Int.toNat 0=0 from rfl,h2.1];rfl
    have h4:decide ((s.length:Int)>1)=true:=decide_eq_true (by omega)
    rw[h3,h4] at c19
    simp at c19
  · have h3:iQ (s.length:Int) 1 5=false:=by
     cases h:iQ (s.length:Int) 1 5 with
     |false=>rfl
     |true=>simp only[iQ,aX3,aD] at h;omega
    rw[h3] at c19
    simp at c19
 refine sk (sq (rT [0,4] (s1 (sq (sq (rT [0,4,5] (s1 (bk (SW.loopW (n:=s.length) (fun m q=> ∃i:Nat,m=s.length - i∧i≤s.length∧(∀k,k<i→gR (s.getD k 0)=true)∧q=[tD 0 (.s s),tI 4 (pZ (s.take (i)):Nat),tI 5 (i:Nat)]) ?_ ?_)))))))))
 · refine wq (σ':=[tD 0 (.s s),tI 4 (pZ (s.take (0)):Nat),tI 5 (0:Nat)]) [] [] (⟨0,rfl,aX5 _,fun k h=>absurd h (by omega),rfl⟩) ?_
   repeat' apply ai
   all_goals first|exact qx|(simp[pZ];done)|exact qz
 rintro n s ⟨i,rfl,hi,hk,rfl⟩
 refine sq (sq (rT [0,4,5,23] (s4 (cd rfl (fun c23=> ?_) fun c23=> ?_))))
 · have hi2:i<s.length:=by simpa using c23
   have hb8:=kP s i
   have hw:wrap64 ((s.getD ((i:Nat):Int).toNat 0).toNat:Int)=jK s i:=aF (by unfold jK at hb8;rw[aXy];omega)
   have hvb:=ow hk hi (by omega)
   refine sk (sq (bk (sq (sq (rT [0,4,5,31] (s2 (ai (by exact⟨by omega,by omega⟩) (s1 (xp (gQ _ _ _) (ai rfl ?_))))))))))
   refine s1 (cd rfl (fun c31=> ?_) fun c31=> ?_)
   · refine sq (rT [2,3] (s2 (rt ?_)))
     have hno:jT s=none:=by
      unfold jT
      rw[aB]
      rintro⟨h1,h2,h3⟩
      have h9:=c31
      rw[hw,← wm] at h9
      have hs:gR (s.getD i 0)=false:=by simpa using h9
      rw[wl hi2 hs] at h3
      cases h3
     refine bJ rfl rfl ?_
     rw[hno]
     rfl
   refine sk (rT [0,4,5] (s4 (ai (by exact⟨by omega,by omega⟩) (s4 (rT [0,4,5] (s3 ?_))))))
   have hs:gR (s.getD i 0)=true:=by
    have h9:=c31
    rw[hw,← wm] at h9
    simpa using h9
   refine wq [] [] (⟨s.length - (i+1),by omega,i+1,rfl,by omega,fun k h=>by by_cases e:k=i;exact e▸hs;exact hk k (by omega),rfl⟩) ?_
   repeat' apply ai
   all_goals first|exact qx|(rw[aXy];exact aA D.i (aF7 hi2 hs rfl (by omega)).1)|exact aA D.i (aF (by omega))|exact qz
 have hi3:i=s.length:=by simp at c23;omega
 refine xt (sq (rT [2,3] (s3 (rt ?_))))
 have hyes:jT s=some (pZ s):=by
  unfold jT
  rw[aC ⟨hL.1,hL.2,aB7 (hi3▸hk)⟩]
 refine bJ rfl rfl ?_
 rw[hyes,hi3,aYe]
 rfl
theorem uS (s:List UInt8) (hl:s.length≤140737488355328):Sp 222 1 [tD 0 (.s s)] [tI 0 (hF s)]:=by
 refine sb Tryz.func222 rfl (sq (rT [0] (s1 (sq (sq (rT [0,12] (s4 (y3 (ai pk (cd rfl (fun c12=> ?_) fun c12=> ?_))))))))))
 · have hL: ¬(1≤s.length∧s.length≤4):=by simp[gb] at c12;omega
   refine sq (rT [2] (s1 (rt (bQ rfl (aA D.i ?_)))))
   unfold hF
   rw[aB]
   rintro⟨h1,h2,h3⟩
   exact hL h1
 have hL:1≤s.length∧s.length≤4:=by
  simp only[Bool.or_eq_false_iff,decide_eq_false_iff_not] at c12
  omega
 refine sk (sq (rT [0,3] (s1 (sq (sq (rT [0,3,4] (s1 (bk (SW.loopW (n:=s.length) (fun m q=> ∃i:Nat,m=s.length - i∧i≤s.length∧(∀k,k<i→gR (s.getD k 0)=true)∧q=[tD 0 (.s s),tI 3 (pZ (s.take (i)):Nat),tI 4 (i:Nat)]) ?_ ?_)))))))))
 · refine wq (σ':=[tD 0 (.s s),tI 3 (pZ (s.take (0)):Nat),tI 4 (0:Nat)]) [] [] (⟨0,rfl,aX5 _,fun k h=>absurd h (by omega),rfl⟩) ?_
   repeat' apply ai
   all_goals first|exact qx|(simp[pZ];done)|exact qz
 rintro n s ⟨i,rfl,hi,hk,rfl⟩
 refine sq (sq (rT [0,3,4,16] (s4 (cd rfl (fun c16=> ?_) fun c16=> ?_))))
 · have hi2:i<s.length:=by simpa using c16
   have hvb:=ow hk hi (by omega)
   refine sk (sq (bk (sq (sq (rT [0,3,4,28] (s2 (ai (by exact⟨by omega,by omega⟩) (s2 (y2 (ai (fun h=>(by exact⟨by omega,by omega⟩)) (ai rk (y1 (ai pk (cd rfl (fun c28=> ?_) fun c28=> ?_))))))))))))))
   · refine sq (rT [2] (s1 (rt (bQ rfl (aA D.i ?_)))))
     unfold hF
     rw[aB]
     rintro⟨h1,h2,h3⟩
     have hs:gR (s.getD i 0)=false:=by
      have h9:=c28
      rw[aXy] at h9
      simp[gb] at h9
      simp[gR];omega
     rw[wl hi2 hs] at h2
     cases h2
   refine sk (rT [0,3,4] (s4 (ai (by exact⟨by omega,by omega⟩) (s4 (rT [0,3,4] (s3 ?_))))))
   have hs:gR (s.getD i 0)=true:=by
    have h9:=c28
    rw[aXy] at h9
    simp[gb] at h9
    simp[gR];omega
   refine wq [] [] (⟨s.length - (i+1),by omega,i+1,rfl,by omega,fun k h=>by by_cases e:k=i;exact e▸hs;exact hk k (by omega),rfl⟩) ?_
   repeat' apply ai
   all_goals first|exact qx|(rw[aXy];exact aA D.i (aF7 hi2 hs rfl (by omega)).2)|exact aA D.i (aF (by omega))|exact qz
 have hi3:i=s.length:=by simp at c16;omega
 have hvb:=ow hk hi (by omega)
 refine xt (sq (sq (rT [3,40] (s1 (xp (uR (pZ (s.take i)) (by omega)) (ai rfl ?_))))))
 refine s2 (cd rfl (fun c40=> ?_) fun c40=> ?_)
 · refine sq (rT [2] (s1 (rt (bQ rfl (aA D.i ?_)))))
   unfold hF
   rw[aB]
   rintro⟨h1,h2,h3⟩
   rw[hi3,aYe,h3] at c40
   simp at c40
 refine sk (sq (rT [2] (s2 (rt (bQ rfl (aA D.i ?_))))))
 rw[hi3,aYe] at c40
 unfold hF
 rw[aC ⟨hL,aB7 (hi3▸hk),by simpa using c40⟩,hi3,aYe]
theorem aAz (s:List UInt8) (hl:s.length≤1000000):Sp 183 1 [tD 0 (.s s)] [tV 0 (.tup [.c (.d (.s (aL8 s))),.c (.d (.i (aDx s:Nat)))])]:=by
 refine sb Tryz.func183 rfl (sq (rT [0] (s2 (sq (sq (rT [0,4] (s1 (bk (SW.loopW (n:=3) (fun m q=> ∃i:Nat,m=3 - i∧(i≤s.length∧i≤3)∧(∀j,j<i→s.getD j 0≠58)∧q=[tD 0 (.s s),tI 4 (i:Nat)]) ?_ ?_)))))))))
 · exact wq (σ':=[tD 0 (.s s),tI 4 (0:Nat)]) [] [] (⟨0,rfl,⟨aX5 _,by omega⟩,fun j h=>absurd h (by omega),rfl⟩) qz
 rintro n s ⟨i,rfl,hi,hk,rfl⟩
 refine sq (sq (rT [0,4,13] (s5 (y2 (ai pk (cd rfl (fun c13=> ?_) fun c13=> ?_))))))
 · have hi2:i<s.length∧i<3:=by simp only[aX3,aD] at c13;omega
   refine sk (sq (bk (sq (sq (rT [0,4,19] (s2 (ai (by exact⟨by omega,by omega⟩) (s1 (cd rfl (fun c19=> ?_) fun c19=> ?_)))))))))
   · refine xt (rT [0,4] (s3 ?_))
     have hs:s.getD i 0≠58:=by
      have h9:=c19
      rw[aXy] at h9
      intro e
      rw[e] at h9
      exact absurd h9 (by decide)
     refine wq [] [] (⟨3 - (i+1),by omega,i+1,rfl,⟨by omega,by omega⟩,fun j h=>by by_cases e:j=i;exact e▸hs;exact hk j (by omega),rfl⟩) ?_
     repeat' apply ai
     all_goals first|exact qx|exact aA D.i (aF (by omega))|exact qz
   have hcol:uK s=some i:=by
    refine wn hi2.2 hi2.1 ?_ hk
    have h9:=c19
    rw[aXy] at h9
    have h10: ((s.getD i 0).toNat:Int)=58:=by simpa only[bne_eq_false_iff_eq] using h9
    apply UInt8.toNat_inj.1
    have h6: (58:UInt8).toNat=58:=rfl
    omega
   have hv:=zM (s.take i)
   have hra:=aO3 hcol
   refine sk (sq (rT [0,4,5] (s2 (ai (by simp[jy,eZ,gB];omega) (xp (uS (s.take i) (by rw[aX4];omega)) (ai rfl ?_))))))
   refine s1 (sq (sq (rT [0,4,5,47] (s3 (y2 (ai pk (s1 (y4 (y3 (ai pk (s1 (y4 (y1 (ai (fun h=>(by have h9:=h;simp only[gb,aX3,Bool.not_eq_true',Bool.or_eq_false_iff,decide_eq_false_iff_not] at h9;rw[aF (n:=(i:Int)+2) (by omega),aF (n:=(i:Int)+2+hF (s.take i)) (by omega)] at h9;rw[aF (n:=(i:Int)+1) (by omega),aF (n:=(i:Int)+1+hF (s.take i)) (by omega)];omega)) (ai rk (y1 (ai pk (cd rfl (fun c47=> ?_) fun c47=> ?_))))))))))))))))))
   · refine sq (rT [2,3] (s2 (rt ?_)))
     have hno:gX s=none:=by
      rw[hra,aB]
      rintro⟨p1,p2,p3,p4⟩
      have h9:=c47
      rw[aF (n:=(i:Int)+2) (by omega),aF (n:=(i:Int)+2+hF (s.take i)) (by omega),aF (n:=(i:Int)+1) (by omega),aF (n:=(i:Int)+1+hF (s.take i)) (by omega),show((i:Int)+1+hF (s.take i)).toNat=i+1+(hF (s.take i)).toNat by omega,p4] at h9
      simp at h9
      omega
     refine bJ rfl rfl ?_
     rw[aL8,aDx,hno]
     rfl
   have hok:1≤hF (s.take i)∧hF (s.take i)≤60∧i+2+(hF (s.take i)).toNat≤s.length∧s.getD (i+1+(hF (s.take i)).toNat) 0=59:=by
    have h9:=c47
    rw[aF (n:=(i:Int)+2) (by omega),aF (n:=(i:Int)+2+hF (s.take i)) (by omega),aF (n:=(i:Int)+1) (by omega),aF (n:=(i:Int)+1+hF (s.take i)) (by omega)] at h9
    simp only[Bool.or_eq_false_iff,decide_eq_false_iff_not,bne_eq_false_iff_eq] at h9
    obtain⟨⟨⟨p1,p2⟩,p3⟩,p4⟩:=h9
    rw[show((i:Int)+1+hF (s.take i)).toNat=i+1+(hF (s.take i)).toNat by omega] at p4
    refine⟨by omega,by omega,by omega,UInt8.toNat_inj.1 ?_⟩
    have h6: (59:UInt8).toNat=59:=rfl
    omega
   refine sk (sq (rT [2,3] (s7 (ai (by rw[aF (n:=(i:Int)+1) (by omega),aF (n:=(i:Int)+1+hF (s.take i)) (by omega)];simp[jy,eZ,gB];omega) (s6 (rt ?_))))))
   have hyes:=hra.trans (aC hok)
   refine bJ rfl rfl ?_
   rw[aL8,aDx,hyes]
   rw[aF (n:=(i:Int)+1) (by omega),aF (n:=(i:Int)+1+hF (s.take i)) (by omega),aF (n:=(i:Int)+2) (by omega),aF (n:=(i:Int)+2+hF (s.take i)) (by omega)]
   have e1: ((i:Int)+1).toNat=i+1:=by omega
   have e2: ((i:Int)+1+hF (s.take i)).toNat=i+1+(hF (s.take i)).toNat:=by omega
   have e3: (i:Int)+2+hF (s.take i)=((i+2+(hF (s.take i)).toNat:Nat):Int):=by omega
   rw[e3]
   show V.tup [.c (.d (.s (List.drop ((i:Int)+1).toNat (List.take ((i:Int)+1+hF (s.take i)).toNat s)))),_]=_
   rw[e1,e2]
 have hi3:i=3∨i=s.length:=by
  by_cases h3:i<3
  · right;have h4:decide ((i:Int)<3)=true:=decide_eq_true (by omega)
    rw[h4,Bool.and_true,decide_eq_false_iff_not] at c13;omega
  · left;omega
 refine xt (sq (rT [2,3] (s2 (rt ?_))))
 have hno:gX s=none:=by
  exact fy (kw fun j h3 hjl=>hk j (by omega))
 refine bJ rfl rfl ?_
 rw[aL8,aDx,hno]
 rfl
theorem qb (s:List UInt8) (hl:s.length≤1000000):Sp 132 1 [tD 0 (.s s)] [tV 0 (.tup [.c (.own 0 (bG s).1.length),.c (.d (.i ((bG s).2:Nat)))]),oR 0 9 1 (bF (bG s).1)]:=by
 refine sb Tryz.func132 rfl (sq (rT [0] (s2 (sq (rT [0,4] (s2 (sq (rT [0,4,5] (s1 (sq (bk (SW.loopW (n:=s.length) (fun m q=> ∃(a:Nat) (o:List (List UInt8)),m=s.length - a∧(a≤s.length∧o.length≤a)∧(o++(bG (s.drop a)).1=(bG s).1∧a+(bG (s.drop a)).2=(bG s).2)∧q=[tD 0 (.s s),tO 4 8 (o).length,tI 5 (a:Nat),oR 8 9 1 (bF (o))]) ?_ ?_))))))))))))
 · refine wq (σ':=[tD 0 (.s s),tO 4 8 ([]).length,tI 5 (0:Nat),oR 8 9 1 (bF ([]))]) [] [] (⟨0,[],rfl,⟨aX5 _,by simp⟩,⟨rfl,by rw[List.drop_zero,Nat.zero_add]⟩,rfl⟩) ?_
   repeat' apply ai
   all_goals first|exact qx|rfl|exact qz
 rintro n s ⟨a,o,rfl,ha,hr,rfl⟩
 refine sq (sq (rT [0,4,5,12] (s4 (cd rfl (fun c12=> ?_) fun c12=> ?_))))
 · have ha2:a<s.length:=by simpa using c12
   refine sk (bk (sq (rT [0,4,5,6,7] (s2 (ai (by simp[jy,eZ,gB];omega) (xp (aAz (s.drop a) (by rw[aX7];omega)) (ai (by show _=fA 0 [Dv (.s (List.drop ((a:Int)).toNat (List.take s.length s)))];rw[aXy,aYe];rfl) ?_)))))))
   refine s5 (sq (sq (rT [0,4,5,6,7,21] (s2 (cd rfl (fun c21=> ?_) fun c21=> ?_)))))
   · have hz:gX (s.drop a)=none:=by
      refine aB8.1 ?_
      have h9: ((aDx (s.drop a):Nat):Int)=0:=by simpa using c21
      omega
     rw[eD hz,List.append_nil,Nat.add_zero] at hr
     refine sq (rT [2,3] (s4 (rt ?_)))
     rw[← hr.1,← hr.2]
     exact eF _ [(0,8)] [] rfl ⟨⟨_,rfl,⟨rfl,rfl,_,_,_,rfl⟩,rfl,trivial⟩,bZ rfl rfl trivial⟩ rfl rfl
   obtain⟨r,n,hra⟩: ∃r n,gX (s.drop a)=some (r,n):=by
    cases h:gX (s.drop a) with
    |none=>
     rw[aB8.2 h] at c21
     exact absurd c21 (by decide)
    |some p=>exact⟨p.1,p.2,rfl⟩
   have hS:aL8 (s.drop a)=r:=by rw[aL8,hra]
   have hN:aDx (s.drop a)=n:=by rw[aDx,hra]
   have hrs:=mQ hra
   rw[aX7] at hrs
   refine sk (sq (rT [0,4,5,7] (s3 (ai (by refine⟨rfl,aP _,by simp,?_⟩;show(_+1)*16≤_;omega) (s1 (rT [0,4,5] (s4 ?_)))))))
   have hstep:=iH hra
   rw[List.drop_drop] at hstep
   rw[hstep] at hr
   refine wq [] [] (⟨s.length - (a+n),by omega,a+n,o++[r],rfl,⟨by omega,by rw[aXz];simp;omega⟩,⟨by rw[← hr.1,List.append_assoc];rfl,by rw[← hr.2];simp only;omega⟩,rfl⟩) ?_
   repeat' apply ai
   all_goals first|exact qx|(rw[aXz];done)|(refine aA D.i ?_;rw[hN,aF (by omega)];omega)|(rw[hS];exact fF _ _)|(simp[aP];done)|exact qz
 have ha3:a=s.length:=by simp at c12;omega
 have hd0:s.drop a=[]:=by rw[ha3];exact List.drop_length
 rw[hd0,eD lG,List.append_nil,Nat.add_zero] at hr
 refine xt (sq (rT [2,3] (s4 (rt ?_))))
 rw[← hr.1,← hr.2]
 exact eF _ [(0,8)] [] rfl ⟨⟨_,rfl,⟨rfl,rfl,_,_,_,rfl⟩,rfl,trivial⟩,bZ rfl rfl trivial⟩ rfl rfl
theorem au (l:List (List UInt8)) (hl:l.length≤1000000):Sp 110 1 [tD 0 (.sl (bF l))] [tO 0 0 l.length,oR 0 9 1 (bF (l))]:=by
 refine sb Tryz.func110 rfl (sq (rT [0] (s1 (sq (sq (rT [0,6] (s3 (cd rfl (fun c6=> ?_) fun c6=> ?_))))))))
 · refine sq (rT [2] (s1 (SW.nilOwn 2 0 9 1 rfl rfl (rt (rq [] [] rfl ?_)))))
   repeat' apply ai
   all_goals try exact qx
   all_goals(simp[aP] at c6;simp[c6,bF])
 refine sk (sq (rT [0,3] (s2 (ai (by refine⟨rfl,by omega,?_⟩;rw[aP];show((16:Nat):Int)*_≤_;omega) (s1 (sq (rT [3] (s2 (ai (by refine⟨trivial,by simp,zH l⟩) (sq (rT [2] (s2 (rt (rq [(0,9)] [] rfl ?_))))))))))))))
 repeat' apply ai
 all_goals try exact qx
 all_goals first|(simp[aP];done)|(simp;done)
theorem pk3 {p:Prop} (h:p:=by constructor<;>intro h<;>first|(simp only[gb,nY];done)|(simpa only[gb,nY] using h)|(simp only[gb,nY] at h ⊢; first|(simp;done)|(simpa using h))|(simpa[gb,nY] using h)):p:=h
theorem um (o:List (List UInt8)):nV [tO 0 0 o.length,oR 0 9 1 (bF (o))]:=by
 intro p hp
 simp at hp
 rcases hp with rfl|rfl
 · trivial
 intro r hr d hd
 obtain⟨x,_,rfl⟩:=aYc.1 hr
 simp at hd;subst hd;trivial
theorem qc (s:List UInt8) (hl:s.length≤1000000):Sp 49 1 [tD 0 (.s s)] [tV 0 (.tup [.c (.own 0 (bG s).1.length),.c (.d (.i ((bG s).2:Nat)))]),oR 0 9 1 (bF (bG s).1)]:=by
 refine sb Tryz.func49 rfl (sq (rT [0] (s2 (sq (rT [0,4] (s1 (sq (rT [0,4,5] (s1 (sq (bk (SW.nilOwn 4 8 9 1 rfl rfl (SW.loopW (n:=s.length) (fun m q=> ∃(a:Nat) (o:List (List UInt8)),m=s.length - a∧(a≤s.length∧o.length≤a)∧(o++(bG (s.drop a)).1=(bG s).1∧a+(bG (s.drop a)).2=(bG s).2)∧q=[tD 0 (.s s),tO 4 8 (o).length,tI 5 (a:Nat),oR 8 9 1 (bF (o))]) ?_ ?_)))))))))))))
 · refine wq (σ':=[tD 0 (.s s),tO 4 8 ([]).length,tI 5 (0:Nat),oR 8 9 1 (bF ([]))]) [] [] (⟨0,[],rfl,⟨aX5 _,by simp⟩,⟨rfl,by rw[List.drop_zero,Nat.zero_add]⟩,rfl⟩) ?_
   repeat' apply ai
   all_goals first|exact qx|rfl|exact qz
 rintro n s ⟨a,o,rfl,ha,hr,rfl⟩
 refine sq (sq (rT [0,4,5,13] (s4 (cd rfl (fun c13=> ?_) fun c13=> ?_))))
 · have ha2:a<s.length:=by simpa using c13
   refine sk (bk (sq (rT [0,4,5,6] (s2 (sq (bk (SW.loopW (n:=3) (fun m q=> ∃c:Nat,m=a+3 - c∧(a≤c∧c≤a+3∧c≤s.length)∧(∀j,a≤j→j<c→s.getD j 0≠58)∧q=[tD 0 (.s s),tO 4 8 (o).length,tI 5 (a:Nat),tI 6 (c:Nat),oR 8 9 1 (bF (o))]) ?_ ?_)))))))
   · exact wq [] [] (⟨a,by omega,by omega,fun j h1 h2=>absurd h1 (by omega),rfl⟩) qz
   rintro n s ⟨c,rfl,hc,hk,rfl⟩
   refine sq (sq (rT [0,4,5,6,30] (s5 (y4 (ai pk (s1 (y2 (ai (fun h=>(by have h9:=h;simp only[gb,aX3,aD] at h9;exact⟨by omega,by omega⟩)) (ai rk (y1 (ai pk (cd rfl (fun c30=> ?_) fun c30=> ?_))))))))))))
   · refine sk (bk (rT [0,4,5,6] (s3 ?_)))
     have hs:s.getD c 0≠58:=by
      have h9:=c30
      simp only[aX3] at h9
      have h10:=h9.2
      rw[aXy] at h10
      intro e
      rw[e] at h10
      exact absurd h10 (by decide)
     have hcl:c<s.length∧c<a+3:=by
      have h9:=c30
      rw[aF (by omega)] at h9
      simp only[aX3,aD] at h9
      omega
     refine wq [] [] (⟨a+3 - (c+1),by omega,c+1,rfl,by omega,fun j h1 h2=>by by_cases e:j=c;exact e▸hs;exact hk j h1 (by omega),rfl⟩) ?_
     repeat' apply ai
     all_goals first|exact qx|exact aA D.i (aF (by omega))|exact qz
   have hstop:s.length≤c∨a+3≤c∨s.getD c 0=58:=by
    have h9:=c30
    rw[aF (by omega),aXy] at h9
    by_cases h1:c<s.length
    · by_cases h2:c<a+3
      · rw[decide_eq_true (show(c:Int)< (s.length:Int) by omega),decide_eq_true (show(c:Int)< (a:Int)+3 by omega)] at h9
        have h10: ((s.getD c 0).toNat:Int)=58:=by simpa only[Bool.true_and,bne_eq_false_iff_eq] using h9
        right;right
        apply UInt8.toNat_inj.1
        have h6: (58:UInt8).toNat=58:=rfl
        omega
      · right;left;omega
    · left;omega
   refine xt (sq (sq (rT [0,4,5,6,42] (s5 (y2 (ai (fun h=>(by have h9:=h;simp only[gb,Bool.not_eq_true',decide_eq_false_iff_not] at h9;exact⟨by omega,by omega⟩)) (ai rk (y1 (ai pk (cd rfl (fun c42=> ?_) fun c42=> ?_))))))))))
   · have hz:gX (s.drop a)=none:=by
      refine yG hk ?_
      by_cases h1:c<s.length
      · rcases hstop with h|h|h
        · exact .inl h
        · exact .inr h
        · exfalso
          have h9:=c42
          rw[aXy,h,decide_eq_false (show ¬((c:Int)≥(s.length:Int)) by omega)] at h9
          exact absurd h9 (by decide)
      · exact .inl (by omega)
     rw[eD hz,List.append_nil,Nat.add_zero] at hr
     refine xt (sq (rT [2,3] (s1 (bP (robj:=[(8,.row 9 1 (bF o))]) (rl:=[(0,85)]) (bor:=[8]) (au o (by omega)) rfl rfl rfl rfl ⟨fB rfl rfl rfl (aP _) rfl trivial,rfl⟩ rfl (.inr (um o)) (aM ⟨rfl,trivial⟩) (fun j hj=>by(obtain rfl:j=0:=by simpa[kU,cE,iS] using hj);rfl) (s3 (rt ?_))))))
     rw[← hr.1,← hr.2]
     exact eF _ [(0,85)] [] rfl ⟨⟨_,rfl,⟨rfl,rfl,_,_,_,rfl⟩,rfl,trivial⟩,bZ rfl rfl trivial⟩ rfl rfl
   have hcl:c<s.length:=by
    have h9:=c42
    simp only[Bool.or_eq_false_iff,decide_eq_false_iff_not] at h9
    omega
   have h58:s.getD c 0=58:=by
    have h9:=c42
    simp only[Bool.or_eq_false_iff,decide_eq_false_iff_not] at h9
    have h10:=h9.2
    rw[aXy] at h10
    have h11: ((s.getD c 0).toNat:Int)=58:=by simpa only[bne_eq_false_iff_eq] using h10
    apply UInt8.toNat_inj.1
    have h6: (58:UInt8).toNat=58:=rfl
    omega
   obtain⟨himp1,himp2⟩:=aO5 hc.1 hk hc.2.1 hcl h58
   have hN:=aIv ((s.take c).drop a)
   have hw1:wrap64 ((c:Int)+1)=((c+1:Nat):Int):=by rw[aF (by omega)];omega
   have hw2:wrap64 (((c+1:Nat):Int)+jG ((s.take c).drop a))=((c+1+(jG ((s.take c).drop a)).toNat:Nat):Int):=by rw[aF (by omega)];omega
   refine sk (sq (rT [0,4,5,6,7,8] (s3 (ai (by simp[jy,eZ,gB];omega) (xp (dm ((s.take c).drop a) (by rw[aX7,aX4];omega)) (ai rfl ?_))))))
   refine s5 (sq (rT [0,4,5,6,7,8,9] (s5 (sq (sq (SW.wk (J:=fun q=>q=[tD 0 (.s s),tO 4 8 (o).length,tI 5 (a:Nat),tI 6 (c:Nat),tI 7 (jG ((s.take c).drop a)),tB 8 (jT ((s.take c).drop a)).isSome,tI 9 (c+1+(jG ((s.take c).drop a)).toNat:Nat),oR 8 9 1 (bF (o))]) ?_ ?_))))))
   · refine wq [] [] (rfl) ?_
     repeat' apply ai
     all_goals first|exact qx|(rw[hw1];exact aA D.i hw2)|(unfold jG;rfl)|exact qz
   rintro q rfl
   refine rT [0,4,5,6,9,73] (s3 (y1 (xc (fun h=>(gQ _ _ _)) (ai rfl (ai rk ?_)))))
   refine y1 (ai pk3 (s1 (y4 (ai pk3 (s1 (y2 (ai (fun h=>(by have h9:=h;simp only[gb,Bool.not_eq_true',Bool.or_eq_false_iff,decide_eq_false_iff_not] at h9;exact⟨by omega,by omega⟩)) (ai rk (y1 (ai pk3 (cd rfl (fun c73=> ?_) fun c73=> ?_)))))))))))
   · have hz:gX (s.drop a)=none:=by
      refine himp1 ?_
      rintro⟨n,h1,h2,h3,h4,h5⟩
      have hNn:jG ((s.take c).drop a)=n:=by rw[jG,h1]
      have h9:=c73
      rw[hNn,h1,aXy,aXy,h5] at h9
      simp only[iQ,decide_eq_true (show(1:Int)≤(n:Int) by omega),decide_eq_true (show(n:Int)≤60 by omega),decide_eq_false (show ¬(((c+1+n:Nat):Int)≥(s.length:Int)) by omega)] at h9
      simp at h9
     rw[eD hz,List.append_nil,Nat.add_zero] at hr
     refine xt (sq (rT [2,3] (s1 (bP (robj:=[(8,.row 9 1 (bF o))]) (rl:=[(0,85)]) (bor:=[8]) (au o (by omega)) rfl rfl rfl rfl ⟨fB rfl rfl rfl (aP _) rfl trivial,rfl⟩ rfl (.inr (um o)) (aM ⟨rfl,trivial⟩) (fun j hj=>by(obtain rfl:j=0:=by simpa[kU,cE,iS] using hj);rfl) (s3 (rt ?_))))))
     rw[← hr.1,← hr.2]
     exact eF _ [(0,85)] [] rfl ⟨⟨_,rfl,⟨rfl,rfl,_,_,_,rfl⟩,rfl,trivial⟩,bZ rfl rfl trivial⟩ rfl rfl
   have h9:=c73
   simp only[Bool.or_eq_false_iff,decide_eq_false_iff_not,Bool.not_eq_false,Bool.not_eq_eq_eq_not,Bool.not_false] at h9
   obtain⟨⟨⟨g1,g2⟩,g3⟩,g4⟩:=h9
   obtain⟨n,hn⟩:=Option.isSome_iff_exists.1 g1
   have hNn:jG ((s.take c).drop a)=n:=by rw[jG,hn]
   rw[hNn] at g2 g3 g4
   rw[aXy] at g3 g4
   simp only[iQ,aX3,aD] at g2
   have h59:s.getD (c+1+n) 0=59:=by
    rw[aXy] at g4
    have h11: ((s.getD (c+1+n) 0).toNat:Int)=59:=by simpa only[bne_eq_false_iff_eq] using g4
    apply UInt8.toNat_inj.1
    have h6: (59:UInt8).toNat=59:=rfl
    omega
   have hra:=himp2 n hn (by omega) (by omega) (by omega) h59
   refine sk (sq (rT [0,4,9] (s5 (ai (by rw[hw1,hNn,aXy];simp[jy,eZ,gB];omega) (ai (by exact⟨by simp,aX0 rfl⟩) (ai (by refine⟨rfl,aP _,by simp,?_⟩;show(_+1)*16≤_;omega) (s1 (rT [0,4,5] (s3 ?_)))))))))
   have hstep:=iH hra
   rw[List.drop_drop,show a+(c+2+n - a)=c+2+n by omega] at hstep
   rw[hstep] at hr
   refine wq [] [] (⟨s.length - (c+2+n),by omega,c+2+n,o++[(s.take (c+1+n)).drop (c+1)],rfl,⟨by omega,by rw[aXz];simp;omega⟩,⟨by rw[← hr.1,List.append_assoc];rfl,by rw[← hr.2];simp only;omega⟩,rfl⟩) ?_
   repeat' apply ai
   all_goals first|exact qx|(rw[aXz];done)|(refine aA D.i ?_;rw[hNn,aF (by omega)];omega)|(rw[hw1,hNn];exact fF _ _)|(simp[aP];done)|exact qz
 have ha3:a=s.length:=by simp at c13;omega
 have hd0:s.drop a=[]:=by rw[ha3];exact List.drop_length
 rw[hd0,eD lG,List.append_nil,Nat.add_zero] at hr
 refine xt (sq (rT [2,3] (s1 (bP (robj:=[(8,.row 9 1 (bF o))]) (rl:=[(0,85)]) (bor:=[8]) (au o (by omega)) rfl rfl rfl rfl ⟨fB rfl rfl rfl (aP _) rfl trivial,rfl⟩ rfl (.inr (um o)) (aM ⟨rfl,trivial⟩) (fun j hj=>by(obtain rfl:j=0:=by simpa[kU,cE,iS] using hj);rfl) (s3 (rt ?_))))))
 rw[← hr.1,← hr.2]
 exact eF _ [(0,85)] [] rfl ⟨⟨_,rfl,⟨rfl,rfl,_,_,_,rfl⟩,rfl,trivial⟩,bZ rfl rfl trivial⟩ rfl rfl
end Go.Proofs.YtmabaopgkimfmaaGreatDoor
namespace Go.Proofs
open Int renaming toNat_natCast→aXy
open List renaming length_append→aXz,length_cons→aX1,length_nil→aX2,length_take→aX4,getD_eq_getElem?_getD→aX6,length_drop→aX7,getElem?_eq_getElem→aX9,getElem?_eq_some_iff→aYa,range→aYb,mem_map→aYc,all_eq_true→aYd,take_length→aYe
open Nat renaming le_of_ble_eq_true→aX0,zero_le→aX5,le_refl→aX8
open Bool renaming and_eq_true→aX3
open Go.Shelf
def Tryz.laysM171_ren:Go.Shelf.Ren:=⟨fun|171=>91|243=>151|246=>196|283=>237|284=>238|285=>239|286=>240|129=>254|317=>253|318=>255|319=>256|320=>257|337=>264|338=>265|n=>n,fun|3=>3|9=>9|2=>2|4=>4|171=>237|0=>0|53=>238|37=>68|5=>5|173=>241|212=>251|51=>252|20=>20|213=>253|46=>254|232=>266|233=>267|n=>n,fun|17=>0|18=>2|19=>3|n=>n⟩
theorem Tryz.laysM171:Go.Proofs.LaysM.n171 Tryz.prog Tryz.laysM171_ren:={
 mixed:=by kernel_rfl
 f129:=Tryz.func254.trans (aA some (by kernel_rfl))
 f171:=Tryz.func91.trans (aA some (by kernel_rfl))
 f243:=Tryz.func151.trans (aA some (by kernel_rfl))
 f246:=Tryz.func196.trans (aA some (by kernel_rfl))
 f283:=Tryz.func237.trans (aA some (by kernel_rfl))
 f284:=Tryz.func238.trans (aA some (by kernel_rfl))
 f285:=Tryz.func239.trans (aA some (by kernel_rfl))
 f286:=Tryz.func240.trans (aA some (by kernel_rfl))
 f317:=Tryz.func253.trans (aA some (by kernel_rfl))
 f318:=Tryz.func255.trans (aA some (by kernel_rfl))
 f319:=Tryz.func256.trans (aA some (by kernel_rfl))
 f320:=Tryz.func257.trans (aA some (by kernel_rfl))
 f337:=Tryz.func264.trans (aA some (by kernel_rfl))
 f338:=Tryz.func265.trans (aA some (by kernel_rfl))
 t0:=Tryz.underlying0
 a0:=Tryz.isAgg0
 z0:=Tryz.sizeOf0
 v0:=Tryz.zeroValue0
 t2:=Tryz.underlying2
 a2:=Tryz.isAgg2
 z2:=Tryz.sizeOf2
 v2:=Tryz.zeroValue2
 t3:=Tryz.underlying3
 a3:=Tryz.isAgg3
 z3:=Tryz.sizeOf3
 v3:=Tryz.zeroValue3
 t4:=Tryz.underlying4
 a4:=Tryz.isAgg4
 z4:=Tryz.sizeOf4
 v4:=Tryz.zeroValue4
 t5:=Tryz.underlying5
 a5:=Tryz.isAgg5
 z5:=Tryz.sizeOf5
 v5:=Tryz.zeroValue5
 t9:=Tryz.underlying9
 a9:=Tryz.isAgg9
 z9:=Tryz.sizeOf9
 v9:=Tryz.zeroValue9
 t20:=Tryz.underlying20
 a20:=Tryz.isAgg20
 z20:=Tryz.sizeOf20
 v20:=Tryz.zeroValue20
 t37:=Tryz.underlying68
 a37:=Tryz.isAgg68
 z37:=Tryz.sizeOf68
 v37:=Tryz.zeroValue68
 t46:=Tryz.underlying254
 a46:=Tryz.isAgg254
 z46:=Tryz.sizeOf254
 v46:=Tryz.zeroValue254
 t51:=Tryz.underlying252
 a51:=Tryz.isAgg252
 z51:=Tryz.sizeOf252
 v51:=Tryz.zeroValue252
 t53:=Tryz.underlying238
 a53:=Tryz.isAgg238
 z53:=Tryz.sizeOf238
 v53:=Tryz.zeroValue238
 t171:=Tryz.underlying237
 a171:=Tryz.isAgg237
 z171:=Tryz.sizeOf237
 v171:=Tryz.zeroValue237
 t173:=Tryz.underlying241
 a173:=Tryz.isAgg241
 z173:=Tryz.sizeOf241
 v173:=Tryz.zeroValue241
 t212:=Tryz.underlying251
 a212:=Tryz.isAgg251
 z212:=Tryz.sizeOf251
 v212:=Tryz.zeroValue251
 t213:=Tryz.underlying253
 a213:=Tryz.isAgg253
 z213:=Tryz.sizeOf253
 t232:=Tryz.underlying266
 a232:=Tryz.isAgg266
 z232:=Tryz.sizeOf266
 v232:=Tryz.zeroValue266
 t233:=Tryz.underlying267
 a233:=Tryz.isAgg267
 z233:=Tryz.sizeOf267
 v233:=Tryz.zeroValue267
 g17:=by kernel_rfl
 g18:=by kernel_rfl
 g19:=by kernel_rfl
 i0:=by kernel_rfl
 i2:=by kernel_rfl
 i3:=by kernel_rfl
 i4:=by kernel_rfl
 i5:=by kernel_rfl
 i9:=by kernel_rfl
 i20:=by kernel_rfl
 i37:=by kernel_rfl
 i46:=by kernel_rfl
 i51:=by kernel_rfl
 i53:=by kernel_rfl
 i171:=by kernel_rfl
 i173:=by kernel_rfl
 i212:=by kernel_rfl
 i232:=by kernel_rfl
 i233:=by kernel_rfl
 m17:=by kernel_rfl
 m18:=by kernel_rfl
 m19:=by kernel_rfl}
open Go.RowKit Go.Sort Go.Lib in
theorem Tryz.strconv_Itoa (n:Int) (h0: -9223372036854775808≤n) (h1:n≤9223372036854775807) (w:World) (htab:Lib.TabIs Tryz.prog w "internal/strconv.uint64pow10" .u64 Lib.pow10Tab):
 Calls Tryz.prog 91 #[.int .i64 n] w fun e w'=>e= .returned (.string ⟨(Lib.itoa n).toArray⟩)∧ ∃k os,w'=grow (w.drewN k) os:=Any.strconv_Itoa Tryz.laysM171 n h0 h1 w htab
def Tryz.lays145_ren:Go.Shelf.Ren:=⟨fun|145=>204|220=>243|219=>260|217=>270|225=>271|224=>272|267=>273|266=>278|314=>279|n=>n,fun|9=>9|4=>4|59=>206|3=>3|5=>5|46=>254|146=>269|51=>252|n=>n,fun|1=>1|n=>n⟩
theorem Tryz.lays145:Go.Proofs.Lays.n145 Tryz.prog Tryz.lays145_ren:={
 mixed:=by kernel_rfl
 f145:=Tryz.func204.trans (aA some (by kernel_rfl))
 f217:=Tryz.func270.trans (aA some (by kernel_rfl))
 f219:=Tryz.func260.trans (aA some (by kernel_rfl))
 f220:=Tryz.func243.trans (aA some (by kernel_rfl))
 f224:=Tryz.func272.trans (aA some (by kernel_rfl))
 f225:=Tryz.func271.trans (aA some (by kernel_rfl))
 f266:=Tryz.func278.trans (aA some (by kernel_rfl))
 f267:=Tryz.func273.trans (aA some (by kernel_rfl))
 f314:=Tryz.func279.trans (aA some (by kernel_rfl))
 t3:=Tryz.underlying3
 a3:=Tryz.isAgg3
 z3:=Tryz.sizeOf3
 v3:=Tryz.zeroValue3
 t4:=Tryz.underlying4
 a4:=Tryz.isAgg4
 z4:=Tryz.sizeOf4
 v4:=Tryz.zeroValue4
 t5:=Tryz.underlying5
 a5:=Tryz.isAgg5
 z5:=Tryz.sizeOf5
 v5:=Tryz.zeroValue5
 t9:=Tryz.underlying9
 a9:=Tryz.isAgg9
 z9:=Tryz.sizeOf9
 v9:=Tryz.zeroValue9
 t46:=Tryz.underlying254
 a46:=Tryz.isAgg254
 z46:=Tryz.sizeOf254
 v46:=Tryz.zeroValue254
 t51:=Tryz.underlying252
 a51:=Tryz.isAgg252
 z51:=Tryz.sizeOf252
 v51:=Tryz.zeroValue252
 t59:=Tryz.underlying206
 a59:=Tryz.isAgg206
 z59:=Tryz.sizeOf206
 v59:=Tryz.zeroValue206
 t146:=Tryz.underlying269
 a146:=Tryz.isAgg269
 z146:=Tryz.sizeOf269
 v146:=Tryz.zeroValue269
 g1:=by kernel_rfl}
open Go.RowKit Go.Lib in
theorem Tryz.strings_Cut (s sep:ByteArray) (m:Int) (w:World) (hs:s.size<4294967281) (hm:w.cell? ⟨1,0,none⟩=some (.int .i64 m)):
 Calls Tryz.prog 204 #[.string s,.string sep] w fun e w'=>e= .returned (.tuple #[.string ⟨(Lib.cut s.data.toList sep.data.toList).1.toArray⟩,.string ⟨(Lib.cut s.data.toList sep.data.toList).2.1.toArray⟩,.bool (Lib.cut s.data.toList sep.data.toList).2.2])∧ ∃n,w'=w.drewN n:=Any.strings_Cut Tryz.lays145 s sep m w hs hm
def Tryz.lays146_ren:Go.Shelf.Ren:=⟨fun|146=>209|221=>248|268=>261|138=>262|143=>263|195=>274|197=>275|218=>276|219=>260|260=>280|217=>270|225=>271|224=>272|267=>273|266=>278|314=>279|n=>n,fun|9=>9|31=>71|3=>3|4=>4|0=>0|105=>264|21=>21|5=>5|46=>254|119=>273|139=>276|138=>275|146=>269|51=>252|n=>n,fun|1=>1|3=>4|4=>5|n=>n⟩
theorem Tryz.lays146:Go.Proofs.Lays.n146 Tryz.prog Tryz.lays146_ren:={
 mixed:=by kernel_rfl
 f138:=Tryz.func262.trans (aA some (by kernel_rfl))
 f143:=Tryz.func263.trans (aA some (by kernel_rfl))
 f146:=Tryz.func209.trans (aA some (by kernel_rfl))
 f195:=Tryz.func274.trans (aA some (by kernel_rfl))
 f197:=Tryz.func275.trans (aA some (by kernel_rfl))
 f217:=Tryz.func270.trans (aA some (by kernel_rfl))
 f218:=Tryz.func276.trans (aA some (by kernel_rfl))
 f219:=Tryz.func260.trans (aA some (by kernel_rfl))
 f221:=Tryz.func248.trans (aA some (by kernel_rfl))
 f224:=Tryz.func272.trans (aA some (by kernel_rfl))
 f225:=Tryz.func271.trans (aA some (by kernel_rfl))
 f260:=Tryz.func280.trans (aA some (by kernel_rfl))
 f266:=Tryz.func278.trans (aA some (by kernel_rfl))
 f267:=Tryz.func273.trans (aA some (by kernel_rfl))
 f268:=Tryz.func261.trans (aA some (by kernel_rfl))
 f314:=Tryz.func279.trans (aA some (by kernel_rfl))
 t0:=Tryz.underlying0
 a0:=Tryz.isAgg0
 z0:=Tryz.sizeOf0
 v0:=Tryz.zeroValue0
 t3:=Tryz.underlying3
 a3:=Tryz.isAgg3
 z3:=Tryz.sizeOf3
 v3:=Tryz.zeroValue3
 t4:=Tryz.underlying4
 a4:=Tryz.isAgg4
 z4:=Tryz.sizeOf4
 v4:=Tryz.zeroValue4
 t5:=Tryz.underlying5
 a5:=Tryz.isAgg5
 z5:=Tryz.sizeOf5
 v5:=Tryz.zeroValue5
 t9:=Tryz.underlying9
 a9:=Tryz.isAgg9
 z9:=Tryz.sizeOf9
 v9:=Tryz.zeroValue9
 t21:=Tryz.underlying21
 a21:=Tryz.isAgg21
 z21:=Tryz.sizeOf21
 v21:=Tryz.zeroValue21
 t31:=Tryz.underlying71
 a31:=Tryz.isAgg71
 z31:=Tryz.sizeOf71
 v31:=Tryz.zeroValue71
 t46:=Tryz.underlying254
 a46:=Tryz.isAgg254
 z46:=Tryz.sizeOf254
 v46:=Tryz.zeroValue254
 t51:=Tryz.underlying252
 a51:=Tryz.isAgg252
 z51:=Tryz.sizeOf252
 v51:=Tryz.zeroValue252
 t105:=Tryz.underlying264
 a105:=Tryz.isAgg264
 z105:=Tryz.sizeOf264
 v105:=Tryz.zeroValue264
 t119:=Tryz.underlying273
 a119:=Tryz.isAgg273
 z119:=Tryz.sizeOf273
 t138:=Tryz.underlying275
 a138:=Tryz.isAgg275
 z138:=Tryz.sizeOf275
 v138:=Tryz.zeroValue275
 t139:=Tryz.underlying276
 a139:=Tryz.isAgg276
 z139:=Tryz.sizeOf276
 v139:=Tryz.zeroValue276
 t146:=Tryz.underlying269
 a146:=Tryz.isAgg269
 z146:=Tryz.sizeOf269
 v146:=Tryz.zeroValue269
 g1:=by kernel_rfl
 g3:=by kernel_rfl
 g4:=by kernel_rfl}
open Go.RowKit Go.Lib in
theorem Tryz.strings_Split (s sep:ByteArray) (m:Int) (w:World) (hs:s.size<4294967281) (hm:w.cell? ⟨1,0,none⟩=some (.int .i64 m)) (h1:1≤sep.size):
 Calls Tryz.prog 209 #[.string s,.string sep] w fun e w'=>
  e= .returned (.slice (some ⟨w.heap.size,0,none⟩) (Lib.countB s sep+1) (Lib.countB s sep+1))∧w'=w.alloc (.cells ((Lib.splitB sep 0 (Lib.countB s sep) s).map Value.string).toArray 9):=Any.strings_Split Tryz.lays146 (by kernel_rfl) s sep m w hs hm h1
def Tryz.lays147_ren:Go.Shelf.Ren:=⟨fun|147=>245|221=>248|268=>261|138=>262|143=>263|195=>274|197=>275|218=>276|219=>260|260=>280|217=>270|225=>271|224=>272|267=>273|266=>278|314=>279|n=>n,fun|9=>9|3=>3|31=>71|4=>4|0=>0|105=>264|21=>21|5=>5|46=>254|119=>273|139=>276|138=>275|146=>269|51=>252|n=>n,fun|1=>1|3=>4|4=>5|n=>n⟩
theorem Tryz.lays147:Go.Proofs.Lays.n147 Tryz.prog Tryz.lays147_ren:={
 mixed:=by kernel_rfl
 f138:=Tryz.func262.trans (aA some (by kernel_rfl))
 f143:=Tryz.func263.trans (aA some (by kernel_rfl))
 f147:=Tryz.func245.trans (aA some (by kernel_rfl))
 f195:=Tryz.func274.trans (aA some (by kernel_rfl))
 f197:=Tryz.func275.trans (aA some (by kernel_rfl))
 f217:=Tryz.func270.trans (aA some (by kernel_rfl))
 f218:=Tryz.func276.trans (aA some (by kernel_rfl))
 f219:=Tryz.func260.trans (aA some (by kernel_rfl))
 f221:=Tryz.func248.trans (aA some (by kernel_rfl))
 f224:=Tryz.func272.trans (aA some (by kernel_rfl))
 f225:=Tryz.func271.trans (aA some (by kernel_rfl))
 f260:=Tryz.func280.trans (aA some (by kernel_rfl))
 f266:=Tryz.func278.trans (aA some (by kernel_rfl))
 f267:=Tryz.func273.trans (aA some (by kernel_rfl))
 f268:=Tryz.func261.trans (aA some (by kernel_rfl))
 f314:=Tryz.func279.trans (aA some (by kernel_rfl))
 t0:=Tryz.underlying0
 a0:=Tryz.isAgg0
 z0:=Tryz.sizeOf0
 v0:=Tryz.zeroValue0
 t3:=Tryz.underlying3
 a3:=Tryz.isAgg3
 z3:=Tryz.sizeOf3
 v3:=Tryz.zeroValue3
 t4:=Tryz.underlying4
 a4:=Tryz.isAgg4
 z4:=Tryz.sizeOf4
 v4:=Tryz.zeroValue4
 t5:=Tryz.underlying5
 a5:=Tryz.isAgg5
 z5:=Tryz.sizeOf5
 v5:=Tryz.zeroValue5
 t9:=Tryz.underlying9
 a9:=Tryz.isAgg9
 z9:=Tryz.sizeOf9
 v9:=Tryz.zeroValue9
 t21:=Tryz.underlying21
 a21:=Tryz.isAgg21
 z21:=Tryz.sizeOf21
 v21:=Tryz.zeroValue21
 t31:=Tryz.underlying71
 a31:=Tryz.isAgg71
 z31:=Tryz.sizeOf71
 v31:=Tryz.zeroValue71
 t46:=Tryz.underlying254
 a46:=Tryz.isAgg254
 z46:=Tryz.sizeOf254
 v46:=Tryz.zeroValue254
 t51:=Tryz.underlying252
 a51:=Tryz.isAgg252
 z51:=Tryz.sizeOf252
 v51:=Tryz.zeroValue252
 t105:=Tryz.underlying264
 a105:=Tryz.isAgg264
 z105:=Tryz.sizeOf264
 v105:=Tryz.zeroValue264
 t119:=Tryz.underlying273
 a119:=Tryz.isAgg273
 z119:=Tryz.sizeOf273
 t138:=Tryz.underlying275
 a138:=Tryz.isAgg275
 z138:=Tryz.sizeOf275
 v138:=Tryz.zeroValue275
 t139:=Tryz.underlying276
 a139:=Tryz.isAgg276
 z139:=Tryz.sizeOf276
 v139:=Tryz.zeroValue276
 t146:=Tryz.underlying269
 a146:=Tryz.isAgg269
 z146:=Tryz.sizeOf269
 v146:=Tryz.zeroValue269
 g1:=by kernel_rfl
 g3:=by kernel_rfl
 g4:=by kernel_rfl}
open Go.RowKit Go.Lib in
theorem Tryz.strings_SplitN (s sep:ByteArray) (n:Nat) (m:Int) (w:World) (hs:s.size<4294967281) (hm:w.cell? ⟨1,0,none⟩=some (.int .i64 m)) (h1:1≤sep.size) (hn:1≤n) (hn63:n≤9223372036854775807):
 Calls Tryz.prog 245 #[.string s,.string sep,.int .i64 n] w fun e w'=>
  e= .returned (.slice (some ⟨w.heap.size,0,none⟩) (Lib.splitB sep 0 (min n (s.size+1) - 1) s).length (min n (s.size+1)))∧w'=w.alloc (.cells (Lib.cellsOf (Lib.splitB sep 0 (min n (s.size+1) - 1) s) (min n (s.size+1))) 9):=Any.strings_SplitN Tryz.lays147 (by kernel_rfl) s sep n m w hs hm h1 hn hn63
end Go.Proofs
namespace Go.Proofs.YtmabaopgkimfmaaGreatDoor
open Int renaming toNat_natCast→aXy
open List renaming length_append→aXz,length_cons→aX1,length_nil→aX2,length_take→aX4,getD_eq_getElem?_getD→aX6,length_drop→aX7,getElem?_eq_getElem→aX9,getElem?_eq_some_iff→aYa,range→aYb,mem_map→aYc,all_eq_true→aYd,take_length→aYe
open Nat renaming le_of_ble_eq_true→aX0,zero_le→aX5,le_refl→aX8
open Bool renaming and_eq_true→aX3
open Go Go.Ab Go.RowKit
set_option linter.unusedVariables false
set_option linter.unusedSimpArgs false
set_option maxRecDepth 9000
theorem dn (n:Nat) (hn:n≤1000000):Ab.Spec Tryz.prog 91 1 [(.t 0,.v (I n))] [(.t 0,.v (Dv (.s (kH n))))]:=aMa ⟨Tryz.f91,Tryz.func91,by kernel_rfl,by kernel_rfl⟩ n hn fun w ht=>Tryz.strconv_Itoa n (by omega) (by omega) w ht
theorem aA0 (s:List UInt8) (hs:s.length≤1000000):Sp 204 2 [tD 0 (.s s),tD 1 (.s [32])] [tV 0 (.tup [.c (.d (.s (bK s))),.c (.d (.s (aT s))),.c (.d (.b (gC s)))])]:=by
 refine aO6 ⟨Tryz.f204,Tryz.func204,by kernel_rfl,by kernel_rfl⟩ s hs fun w hg=> ?_
 obtain⟨m,hm⟩:=oz hg (g:=1) (by kernel_rfl)
 exact Tryz.strings_Cut ⟨s.toArray⟩ ⟨#[32]⟩ m w (show s.toArray.size<4294967281 by simp;omega) hm
theorem tq (s:List UInt8) (hs:s.length≤1000000):Sp 209 2 [tD 0 (.s s),tD 1 (.s [32])] [tD 0 (.sl (bF (dL s)))]:=by
 refine aIx (e:=9) ⟨Tryz.f209,Tryz.func209,by kernel_rfl,by kernel_rfl⟩ s hs fun w hg=> ?_
 obtain⟨m,hm⟩:=oz hg (g:=1) (by kernel_rfl)
 exact Tryz.strings_Split ⟨s.toArray⟩ ⟨#[32]⟩ m w (show s.toArray.size<4294967281 by simp;omega) hm (show 1≤1 by omega)
theorem qe (s:List UInt8) (hs:s.length≤1000000):Sp 245 3 [tD 0 (.s s),tD 1 (.s [32]),tI 2 5] [tD 0 (.sl (bF (iX 4 s)))]:=by
 refine aF9 (e:=9) ⟨Tryz.f245,Tryz.func245,by kernel_rfl,by kernel_rfl⟩ 4 s hs (by omega) fun w hg=> ?_
 obtain⟨m,hm⟩:=oz hg (g:=1) (by kernel_rfl)
 exact Tryz.strings_SplitN ⟨s.toArray⟩ ⟨#[32]⟩ 5 m w (show s.toArray.size<4294967281 by simp;omega) hm (show 1≤1 by omega) (by omega) (by omega)
theorem aC0 (s:List UInt8) (hl:s.length≤140737488355328):Ab.Spec Tryz.prog 108 1 [(.t 0,.v (Dv (.s s)))] [(.t 0,.v (.tup [.c (.d (.i (jG s))),.c (.d (.b (jT s).isSome))]))]:=dm s hl
theorem tC (n:Int) (h:0≤n∧n≤1000000):Sp 91 1 [tI 0 n] [tD 0 (.s (kH n.toNat))]:=by
 obtain⟨m,rfl⟩:=Int.eq_ofNat_of_zero_le h.1
 exact dn m (by omega)
theorem kW (n:Int) (h:0≤n∧n≤1000000):Sp 89 1 [tI 0 n] [tD 0 (.s (kH n.toNat))]:=by
 obtain⟨m,rfl⟩:=Int.eq_ofNat_of_zero_le h.1
 exact uR m (by omega)
theorem bm (l:List (List UInt8)) (hl:l.length≤1000000) (hx: ∀x∈l,x.length≤1000000):Sp 208 1 [tD 0 (.sl (bF l))] [tV 0 (.tup [.c (.d (.sl (dE (lD l)))),.c (.d (.b (iU l)))])]:=by
 refine sb Tryz.func208 rfl (sq (rT [0] (s2 (sq (rT [0,4] (s1 (sq (sq (rT [4,9,10,11] (s3 (bk (SW.nilOwn 4 8 3 1 rfl rfl (SW.loopW (n:=l.length) (fun m q=> ∃i:Nat,m=l.length - i∧i≤l.length∧(∀j,j<i→(jT (l.getD j [])).isSome=true)∧q=[tO 4 8 (i),tD 9 (.sl (bF l)),tI 10 (l.length:Nat),tI 11 (i:Nat),oR 8 3 1 (dE ((l.take (i)).map jG))]) ?_ ?_)))))))))))))
 · refine wq (σ':=[tO 4 8 (0),tD 9 (.sl (bF l)),tI 10 (l.length:Nat),tI 11 (0:Nat),oR 8 3 1 (dE ((l.take (0)).map jG))]) [] [] (⟨0,rfl,aX5 _,fun j h=>absurd h (by omega),rfl⟩) ?_
   repeat' apply ai
   all_goals first|exact qx|rfl|(rw[aP];done)|(simp[aP];done)|exact qz
 rintro n s ⟨i,rfl,hi,hk,rfl⟩
 refine sq (rT [4,9,10,11,12] (s1 (sq (cd rfl (fun c12=> ?_) fun c12=> ?_))))
 · have hi2:i<l.length:=by simpa using c12
   have hg:=fZ (l:=l) hi2
   refine sk (sq (bk (sq (rT [4,6,9,10,11] (ai (by rw[aXy,hg];exact⟨⟨by omega,by rw[aP];omega⟩,rfl⟩) (ai (by rw[aXy,hg];exact⟨aX0 rfl,rfl⟩) (s1 (sq (wa [tO 4 8 (i),tD 6 (.s (l.getD i [])),tD 9 (.sl (bF l)),tI 10 (l.length:Nat),tI 11 (i:Nat),oR 8 3 1 (dE ((l.take (i)).map jG))] [] [] ?_ ?_)))))))))
   · repeat' apply ai
     all_goals first|exact qx|(rw[aXy,hg];rfl)|exact qz
   refine rT [4,7,8,9,10,11] (s1 (xp (aC0 (l.getD i []) (by have:=hx _ (dQ (z:=[]) hi2);omega)) (ai rfl ?_)))
   refine s5 (sq (sq (rT [4,7,9,10,11,21] (s2 (cd rfl (fun c21=> ?_) fun c21=> ?_)))))
   · refine sq (rT [2,3] (s2 (rt ?_)))
     have hno:=aMd hi2 (by simpa using c21)
     exact eF _ [] [] rfl ⟨⟨_,rfl,aA D.sl (show dE (lD l)=[] by rw[lD,hno];rfl),aA D.b hno.symm,trivial⟩,trivial⟩ rfl rfl
   refine sk (rT [4,9,10,11] (s2 (ai (by exact⟨by simp,aX0 rfl⟩) (ai (by refine⟨rfl,by rw[cM,List.length_map,aX4];omega,by simp,?_⟩;show(_+1)*8≤_;omega) (s1 (rT [4,9,10,11] (s2 ?_)))))))
   have hs: (jT (l.getD i [])).isSome=true:=by simpa using c21
   refine wq [] [] (⟨l.length - (i+1),by omega,i+1,rfl,by omega,fun j h=>by by_cases e:j=i;exact e▸hs;exact hk j (by omega),rfl⟩) ?_
   repeat' apply ai
   all_goals first|exact qx|rfl|(rw[aAl hi2];exact oN _ _)|(exact aA D.i (by rw[aF (by omega)];omega))|(simp[cM,aX4];omega)|exact qz
 have hi3:i=l.length:=by simp at c12;omega
 refine xt (sq (rT [2,3] (s3 (rt ?_))))
 have hyes:=aIz (hi3▸hk)
 exact eF _ [] [8] rfl ⟨⟨_,rfl,⟨by simp,_,_,_,rfl,by rw[cM,List.length_map,aX4];omega,.inl (aA D.sl (by rw[lD,aC hyes,hi3,aYe]))⟩,aA D.b hyes.symm,trivial⟩,trivial⟩ rfl rfl
theorem gl (s:List UInt8) (hl:s.length≤1000000):Sp 228 1 [tD 0 (.s s)] [tV 0 (.tup [.c (.d (.s (bK s))),.c (.d (.s (aT s)))])]:=by
 refine sb Tryz.func228 rfl (sq (rT [0] (s2 (sq (sq (rT [0,4] (s1 (bk (SW.loopW (n:=s.length) (fun m q=> ∃i:Nat,m=s.length - i∧i≤s.length∧(∀j,j<i→s.getD j 0≠32)∧q=[tD 0 (.s s),tI 4 (i:Nat)]) ?_ ?_)))))))))
 · exact wq (σ':=[tD 0 (.s s),tI 4 (0:Nat)]) [] [] (⟨0,rfl,aX5 _,fun j h=>absurd h (by omega),rfl⟩) qz
 rintro n s ⟨i,rfl,hi,hk,rfl⟩
 refine sq (sq (rT [0,4,8] (s4 (cd rfl (fun c8=> ?_) fun c8=> ?_))))
 · have hi2:i<s.length:=by simpa using c8
   refine sk (sq (bk (sq (rT [0,4,14] (s2 (ai (by exact⟨by omega,by omega⟩) (s1 (cd rfl (fun c14=> ?_) fun c14=> ?_))))))))
   · have h32:s.getD i 0=32:=by
      have h9:=c14
      rw[aXy] at h9
      have h10: ((s.getD i 0).toNat:Int)=32:=by simpa only[beq_iff_eq] using h9
      apply UInt8.toNat_inj.1
      have h6: (32:UInt8).toNat=32:=rfl
      omega
     obtain⟨e1,e2,e3⟩:=aO8 hk hi2 h32
     refine sq (rD [2,3] (s2 (ai (by simp[jy,eZ,gB];omega) (s3 (ai (by rw[aF (by omega)];simp[jy,eZ,gB];omega) (s2 (ai (by kernel_rfl) (rt (bJ rfl rfl ?_)))))))))
     rw[e1,e2,aF (by omega)]
     simp[eZ,gB]
   refine sk (rT [0,4] (s3 ?_))
   have hs:s.getD i 0≠32:=by
    have h9:=c14
    rw[aXy] at h9
    intro e
    rw[e] at h9
    exact absurd h9 (by decide)
   refine wq [] [] (⟨s.length - (i+1),by omega,i+1,rfl,by omega,fun j h=>by by_cases e:j=i;exact e▸hs;exact hk j (by omega),rfl⟩) ?_
   repeat' apply ai
   all_goals first|exact qx|exact aA D.i (aF (by omega))|exact qz
 have hi3:i=s.length:=by simp at c8;omega
 refine xt (sq (rT [2,3] (s3 (rt ?_))))
 obtain⟨e1,e2,e3⟩:=aMc (hi3▸hk)
 refine bJ rfl rfl ?_
 rw[e1,e2]
 rfl
theorem gm (s:List UInt8) (n:Nat) (hl:s.length≤1000000) (hn:n≤100):Sp 233 2 [tD 0 (.s s),tI 1 (n:Nat)] [tV 0 (.tup [.c (.d (.sl (dE (fG n s)))),.c (.d (.s (nF n s)))])]:=by
 refine sb Tryz.func233 rfl (sq (rT [0,1] (s2 (sq (rT [0,1,6] (ai (by exact⟨by simp,aX0 rfl⟩) (s1 (sq (sq (rT [0,1,6,7] (s1 (bk (SW.loopW (n:=n) (fun m q=> ∃i:Nat,m=n - i∧i≤n∧q=[tD 0 (.s (nF (i) s)),tI 1 (n:Nat),tO 6 10 (i),tI 7 (i:Nat),oR 10 3 1 (dE (fG (i) s))]) ?_ ?_)))))))))))))
 · refine wq (σ':=[tD 0 (.s (nF (0) s)),tI 1 (n:Nat),tO 6 10 (0),tI 7 (0:Nat),oR 10 3 1 (dE (fG (0) s))]) [] [] (⟨0,rfl,aX5 _,rfl⟩) ?_
   repeat' apply ai
   all_goals first|exact qx|rfl|exact qz
 rintro n s ⟨i,rfl,hi,rfl⟩
 refine sq (sq (rT [0,1,6,7,13] (s3 (cd rfl (fun c13=> ?_) fun c13=> ?_))))
 · have hi2:i<n:=by simpa using c13
   have hr:=wu i s
   have hr2:=ew (nF i s)
   refine sk (sq (bk (sq (rT [1,6,7,8,9] (s1 (xp (gl (nF i s) (by omega)) (ai rfl ?_)))))))
   refine s5 (sq (rT [1,6,7,9] (s2 (xp (uS (bK (nF i s)) (by omega)) (ai rfl ?_)))))
   refine ai (by exact⟨by simp,aX0 rfl⟩) (ai (by refine⟨rfl,by rw[cM,bR],by simp,?_⟩;show(_+1)*8≤_;omega) (s1 (rT [0,1,6,7] (s2 (rT [0,1,6,7] (s3 (wq [] [] (⟨n - (i+1),by omega,i+1,rfl,by omega,rfl⟩) ?_)))))))
   repeat' apply ai
   all_goals first|exact qx|rfl|(rw[aIy];exact oN _ _)|(exact aA D.i (by rw[aF (by omega)];omega))|(simp[cM,bR];done)|exact qz
 have hi3:i=n:=by simp at c13;omega
 refine xt (sq (rT [4,5] (s4 (rt ?_))))
 subst hi3
 exact eF _ [] [10] rfl ⟨⟨_,rfl,⟨by simp,_,_,_,rfl,by rw[cM,bR],.inl rfl⟩,rfl,trivial⟩,trivial⟩ rfl rfl
theorem oW (n:bI) (hl:n.text.length≤140737488355328):Sp 93 1 [tV 0 n.V] [tD 0 (.s (gE n))]:=by
 refine sb Tryz.func93 rfl (sq (rT [1] (s2 (sq (sq (rT [1,5] (s1 (xp (sY _ vc) (ai rfl ?_)))))))))
 refine s1 (cd rfl (fun c5=> ?_) fun c5=> ?_)
 · refine sq (rT [2] (s1 (rt (bQ rfl (aA D.s ?_)))))
   have hno:eV n=false:=by simpa using c5
   rw[gE,hno];rfl
 have hok:eV n=true:=by simpa using c5
 obtain⟨p1,p2,p3,p4,p5⟩:=mR hok
 have q1:=bW (k:=3) (n:=n.frm.toNat) (by simp;omega)
 have q2:=bW (k:=3) (n:=n.num.toNat) (by simp;omega)
 have q3:=bW (k:=3) (n:=n.to.toNat) (by simp;omega)
 have q4:=bW (k:=3) (n:=n.til.toNat) (by simp;omega)
 refine sk (sq (rD [2] (s2 (xp (tC n.frm (by omega)) (ai rfl ?_)))))
 refine ai (by show _≤9223372036854775807;simp only[aXz,aX1,aX2];omega) (s2 (xp (tC n.num (by omega)) (ai rfl ?_)))
 refine ai (by show _≤9223372036854775807;simp only[aXz,aX1,aX2];omega) (ai (by show _≤9223372036854775807;simp only[aXz,aX1,aX2];omega) (s2 (xp (tC n.to (by omega)) (ai rfl ?_))))
 refine ai (by show _≤9223372036854775807;simp only[aXz,aX1,aX2];omega) (ai (by show _≤9223372036854775807;simp only[aXz,aX1,aX2];omega) (s2 (xp (tC n.til (by omega)) (ai rfl ?_))))
 refine ai (by show _≤9223372036854775807;simp only[aXz,aX1,aX2];omega) (ai (by show _≤9223372036854775807;simp only[aXz,aX1,aX2];omega) (s2 (ai (by show _≤9223372036854775807;simp only[aXz,aX1,aX2];omega) (s1 (ai (by kernel_rfl) (rt (bQ rfl (aA D.s ?_))))))))
 rw[gE,aC hok];rfl
theorem kR (n:bI) (hl:n.text.length≤140737488355328):Sp 92 1 [tV 0 n.V] [tD 0 (.s (gE n))]:=by
 refine sb Tryz.func92 rfl (sq (rT [1] (s2 (sq (sq (rT [1,5] (s1 (xp (xK _ vc) (ai rfl ?_)))))))))
 refine s1 (cd rfl (fun c5=> ?_) fun c5=> ?_)
 · refine sq (rT [2] (s1 (rt (bQ rfl (aA D.s ?_)))))
   have hno:eV n=false:=by simpa using c5
   rw[gE,hno];rfl
 have hok:eV n=true:=by simpa using c5
 obtain⟨p1,p2,p3,p4,p5⟩:=mR hok
 have q1:=bW (k:=3) (n:=n.frm.toNat) (by simp;omega)
 have q2:=bW (k:=3) (n:=n.num.toNat) (by simp;omega)
 have q3:=bW (k:=3) (n:=n.to.toNat) (by simp;omega)
 have q4:=bW (k:=3) (n:=n.til.toNat) (by simp;omega)
 refine sk (sq (rD [2] (s2 (xp (kW n.frm (by omega)) (ai rfl ?_)))))
 refine ai (by show _≤9223372036854775807;simp only[aXz,aX1,aX2];omega) (s2 (xp (kW n.num (by omega)) (ai rfl ?_)))
 refine ai (by show _≤9223372036854775807;simp only[aXz,aX1,aX2];omega) (ai (by show _≤9223372036854775807;simp only[aXz,aX1,aX2];omega) (s2 (xp (kW n.to (by omega)) (ai rfl ?_))))
 refine ai (by show _≤9223372036854775807;simp only[aXz,aX1,aX2];omega) (ai (by show _≤9223372036854775807;simp only[aXz,aX1,aX2];omega) (s2 (xp (kW n.til (by omega)) (ai rfl ?_))))
 refine ai (by show _≤9223372036854775807;simp only[aXz,aX1,aX2];omega) (ai (by show _≤9223372036854775807;simp only[aXz,aX1,aX2];omega) (s2 (ai (by show _≤9223372036854775807;simp only[aXz,aX1,aX2];omega) (s1 (ai (by kernel_rfl) (rt (bQ rfl (aA D.s ?_))))))))
 rw[gE,aC hok];rfl
theorem tt (s:List UInt8) (hl:s.length≤1000000):Sp 206 1 [tD 0 (.s s)] [tV 0 (.tup [.agg [.d (.i ((eG s).1).frm),.d (.i ((eG s).1).num),.d (.i ((eG s).1).to),.d (.i ((eG s).1).til),.d (.s ((eG s).1).text)],.c (.d (.b (eG s).2))])]:=by
 refine sb Tryz.func206 rfl (sq (rT [0,2] (s2 (sq (rT [0,2,4] (s1 (xp (qe s hl) (ai rfl ?_))))))))
 refine s1 (sq (sq (rT [0,2,4,12] (s3 (cd rfl (fun c12=> ?_) fun c12=> ?_)))))
 · refine sq (rT [2,3] (s3 (rt (bJ rfl rfl ?_))))
   rw[wv (.inl (by simp[aP] at c12;omega))]
   rfl
 have h5: (iX 4 s).length=5:=by simp[aP] at c12;omega
 refine sk (sq (rT [0,2,4,5,6] (s1 (ai (by refine⟨?_,zH _⟩;rw[aP,h5];simp[jy,eZ,gB]) (xp (bm ((iX 4 s).take 4) (by rw[aX4];omega) (fun x hx=>by have:=ky 4 s x (List.mem_of_mem_take hx);omega)) (ai (by show _=fA 0 [Dv (.sl (List.drop 0 (List.take 4 (bF (iX 4 s)))))];rw[List.drop_zero,aDz];rfl) ?_))))))
 refine s5 (sq (sq (rT [0,2,4,5,21] (s2 (cd rfl (fun c21=> ?_) fun c21=> ?_)))))
 · refine sq (rT [2,3] (s3 (rt (bJ rfl rfl ?_))))
   rw[wv (.inr (.inl (by simpa using c21)))]
   rfl
 have hok:iU ((iX 4 s).take 4)=true:=by simpa using c21
 refine sk (sq (rD [0,2,7] (s1 (ai (by exact kt (l:=lD ((iX 4 s).take 4)) (by omega) (by rw[iM hok,aX4];omega)) (ai (by have:=iV (l:=lD ((iX 4 s).take 4)) (i:=0) (by rw[iM hok,aX4];omega);first|(rw[show((0:Int)).toNat=((0:Nat):Int).toNat from rfl,this];exact⟨aX0 rfl,rfl⟩)) (s1 (ai (by exact kt (l:=lD ((iX 4 s).take 4)) (by omega) (by rw[iM hok,aX4];omega)) (ai (by have:=iV (l:=lD ((iX 4 s).take 4)) (i:=1) (by rw[iM hok,aX4];omega);first|(rw[show((1:Int)).toNat=((1:Nat):Int).toNat from rfl,this];exact⟨aX0 rfl,rfl⟩)) (s1 (ai (by exact kt (l:=lD ((iX 4 s).take 4)) (by omega) (by rw[iM hok,aX4];omega)) (ai (by have:=iV (l:=lD ((iX 4 s).take 4)) (i:=2) (by rw[iM hok,aX4];omega);first|(rw[show((2:Int)).toNat=((2:Nat):Int).toNat from rfl,this];exact⟨aX0 rfl,rfl⟩)) (s1 (ai (by exact kt (l:=lD ((iX 4 s).take 4)) (by omega) (by rw[iM hok,aX4];omega)) (ai (by have:=iV (l:=lD ((iX 4 s).take 4)) (i:=3) (by rw[iM hok,aX4];omega);first|(rw[show((3:Int)).toNat=((3:Nat):Int).toNat from rfl,this];exact⟨aX0 rfl,rfl⟩)) (s1 (ai (by exact ixS (l:=iX 4 s) (by omega) (by omega)) (ai (by exact ldS (l:=iX 4 s) (by omega) (by omega)) (s3 (ai (by kernel_rfl) (sq (sq (SW.wk (J:=fun q=>q=[tD 0 (.s s),tP 2 2,tP 7 7,oB 2 52 [.d (.i 0),.d (.i 0),.d (.i 0),.d (.i 0),.d (.s [])],oB 7 52 [.d (.i (pG s).frm),.d (.i (pG s).num),.d (.i (pG s).to),.d (.i (pG s).til),.d (.s (pG s).text)]]) ?_ ?_))))))))))))))))))))))
 · refine wq [] [] (rfl) ?_
   repeat' apply ai
   all_goals first|exact qx|exact aA D.i (aD0 hok h5 (i:=0) (by omega))|exact aA D.i (aD0 hok h5 (i:=1) (by omega))|exact aA D.i (aD0 hok h5 (i:=2) (by omega))|exact aA D.i (aD0 hok h5 (i:=3) (by omega))|exact aA D.s (aR0 (l:=iX 4 s) (j:=4) (by omega) (by omega))|exact qz
 rintro q rfl
 refine rT [2,7,47] (s1 (xp (sY (pG s) (by have:=ky 4 s _ (dQ (z:=[]) (show 4< (iX 4 s).length by omega));show((iX 4 s).getD 4 []).length≤_;omega)) (ai rfl ?_)))
 refine s2 (y1 (xc (fun h=>(oW (pG s) (by have:=ky 4 s _ (dQ (z:=[]) (show 4< (iX 4 s).length by omega));show((iX 4 s).getD 4 []).length≤_;omega))) (ai rfl (ai rk ?_))))
 refine y2 (ai pk (cd rfl (fun c47=> ?_) fun c47=> ?_))
 · refine sq (rT [2,3] (s3 (rt (bJ rfl rfl ?_))))
   rw[wv (.inr (.inr (by cases h:eV (pG s) with|false=>exact .inl rfl|true=>rw[h] at c47;exact .inr (by simpa using c47))))]
   rfl
 refine sk (sq (rT [2,3] (s3 (rt ?_))))
 have h6:eV (pG s)=true∧gE (pG s)=s:=by simpa using c47
 refine bJ rfl rfl ?_
 rw[aMe h5 hok h6.1 h6.2]
 rfl
theorem uB (s:List UInt8) (hl:s.length≤1000000):Sp 230 1 [tD 0 (.s s)] [tV 0 (.tup [.agg [.d (.i ((eG s).1).frm),.d (.i ((eG s).1).num),.d (.i ((eG s).1).to),.d (.i ((eG s).1).til),.d (.s ((eG s).1).text)],.c (.d (.b (eG s).2))])]:=by
 refine sb Tryz.func230 rfl (sq (rT [0,2] (s2 (sq (rT [0,2,4,5] (s1 (xp (gm s 4 hl (by omega)) (ai rfl ?_))))))))
 refine s5 (sq (rD [0,2,6] (s1 (ai (by exact kt (l:=fG 4 s) (by omega) (by rw[bR];omega)) (ai (by have:=iV (l:=fG 4 s) (i:=0) (by rw[bR];omega);first|(rw[show((0:Int)).toNat=((0:Nat):Int).toNat from rfl,this];exact⟨aX0 rfl,rfl⟩)) (s1 (ai (by exact kt (l:=fG 4 s) (by omega) (by rw[bR];omega)) (ai (by have:=iV (l:=fG 4 s) (i:=1) (by rw[bR];omega);first|(rw[show((1:Int)).toNat=((1:Nat):Int).toNat from rfl,this];exact⟨aX0 rfl,rfl⟩)) (s1 (ai (by exact kt (l:=fG 4 s) (by omega) (by rw[bR];omega)) (ai (by have:=iV (l:=fG 4 s) (i:=2) (by rw[bR];omega);first|(rw[show((2:Int)).toNat=((2:Nat):Int).toNat from rfl,this];exact⟨aX0 rfl,rfl⟩)) (s1 (ai (by exact kt (l:=fG 4 s) (by omega) (by rw[bR];omega)) (ai (by have:=iV (l:=fG 4 s) (i:=3) (by rw[bR];omega);first|(rw[show((3:Int)).toNat=((3:Nat):Int).toNat from rfl,this];exact⟨aX0 rfl,rfl⟩)) (s4 (ai (by kernel_rfl) (sq (sq (SW.wk (J:=fun q=>q=[tD 0 (.s s),tP 2 2,tP 6 6,oB 2 52 [.d (.i 0),.d (.i 0),.d (.i 0),.d (.i 0),.d (.s [])],oB 6 52 [.d (.i (ct s).frm),.d (.i (ct s).num),.d (.i (ct s).to),.d (.i (ct s).til),.d (.s (ct s).text)]]) ?_ ?_)))))))))))))))))))
 · refine wq [] [] (rfl) ?_
   repeat' apply ai
   all_goals first|exact qx|exact aA D.i (uk (i:=0) (by omega))|exact aA D.i (uk (i:=1) (by omega))|exact aA D.i (uk (i:=2) (by omega))|exact aA D.i (uk (i:=3) (by omega))|rfl|exact qz
 rintro q rfl
 refine rT [2,6,33] (s3 (y1 (xc (fun h=>(kR (ct s) (by have:=wu 4 s;show(nF 4 s).length≤_;omega))) (ai rfl (ai rk ?_)))))
 refine y2 (ai pk (cd rfl (fun c33=> ?_) fun c33=> ?_))
 · refine sq (rT [2,3] (s3 (rt (bJ rfl rfl ?_))))
   have hno:eG s=(.zero,false):=by
    rw[eG,aC]
    by_cases h:s=[]
    · exact .inl h
    · rw[show(s==[])=false by simpa using h] at c33;exact .inr (by simpa using c33)
   rw[hno]
   rfl
 refine sk (sq (rT [2,3] (s3 (rt (bJ rfl rfl ?_)))))
 have hyes:eG s=(ct s,true):=by
  rw[eG,aB]
  rintro(h|h)
  · subst h;simp at c33
  · by_cases h2:s=[]
    · subst h2;simp at c33
    · rw[show(s==[])=false by simpa using h2] at c33;exact h (by simpa using c33)
 rw[hyes]
 rfl
theorem dp (l:List bI) (hl:l.length≤1000000):Sp 211 1 [tD 0 (.sl (aI l))] [tD 0 (.sl (aI l))]:=by
 refine sb Tryz.func211 rfl (sq (rT [0] (s1 (sq (sq (rT [0,6] (s3 (cd rfl (fun c6=> ?_) fun c6=> ?_))))))))
 · refine sq (rT [2] (s1 (rt (eF _ [] [] rfl (kf rfl (aA D.sl ?_) trivial) rfl rfl))))
   simp[aH] at c6;simp[c6,aI]
 refine sk (sq (rT [0,3] (s2 (ai (by refine⟨rfl,by omega,?_⟩;rw[aH];show((48:Nat):Int)*_≤_;omega) (s1 (sq (rT [3] (s2 (ai (by refine⟨trivial,by simp,gI l⟩) (sq (rT [2] (s2 (rt (eF _ [] [9] rfl (fB rfl rfl rfl ?_ (aA D.sl ?_) trivial) rfl rfl))))))))))))))
 · simp
 simp
theorem zb (l:List cD) (hl:l.length≤1000000):Sp 212 1 [tD 0 (.sl (aS l))] [tD 0 (.sl (aS l))]:=by
 refine sb Tryz.func212 rfl (sq (rT [0] (s1 (sq (sq (rT [0,6] (s3 (cd rfl (fun c6=> ?_) fun c6=> ?_))))))))
 · refine sq (rT [2] (s1 (rt (eF _ [] [] rfl (kf rfl (aA D.sl ?_) trivial) rfl rfl))))
   simp[aR] at c6;simp[c6,aS]
 refine sk (sq (rT [0,3] (s2 (ai (by refine⟨rfl,by omega,?_⟩;rw[aR];show((24:Nat):Int)*_≤_;omega) (s1 (sq (rT [3] (s2 (ai (by refine⟨trivial,by simp,lR l⟩) (sq (rT [2] (s2 (rt (eF _ [] [9] rfl (fB rfl rfl rfl ?_ (aA D.sl ?_) trivial) rfl rfl))))))))))))))
 · simp
 simp
theorem uC (k:bH) (hb:k.held.length≤1000000∧k.marks.length≤1000000∧k.inbox.length≤1000000):Sp 171 1 [tV 0 k.V] [tV 0 k.V]:=by
 refine sb Tryz.func171 rfl (sq (rT [1,2] (s2 (sq (rT [1,2,3] (s3 (sq (rT [1,2,3] (s2 (xp (dp k.held hb.1) (ai rfl ?_)))))))))))
 refine s2 (sq (rT [1,2,3] (s2 (xp (zb k.marks hb.2.1) (ai rfl ?_)))))
 refine s2 (sq (rT [2,3] (s2 (xp (dp k.inbox hb.2.2) (ai rfl ?_)))))
 exact s2 (sq (rT [2] (s2 (rt (bJ rfl rfl rfl)))))
theorem vT (k:bH) (hb:k.held.length≤1000000∧k.marks.length≤1000000∧k.inbox.length≤1000000):Sp 195 1 [tV 0 k.V] [tV 0 k.V]:=by
 refine sb Tryz.func195 rfl (sq (rT [1,2] (s2 (sq (rT [1,2] (ai (by simp) (s2 (ai (by refine⟨trivial,rfl,?_,?_⟩<;>first|exact gI _|exact lR _|(simp only[aH,aR,aX2,Nat.zero_add];show _*48≤_;omega)) (s2 (sq (rT [1,2] (ai (by simp) (s2 (ai (by refine⟨trivial,rfl,?_,?_⟩<;>first|exact gI _|exact lR _|(simp only[aH,aR,aX2,Nat.zero_add];show _*24≤_;omega)) (s2 (sq (rT [1,2] (ai (by simp) (s2 (ai (by refine⟨trivial,rfl,?_,?_⟩<;>first|exact gI _|exact lR _|(simp only[aH,aR,aX2,Nat.zero_add];show _*48≤_;omega)) (s2 (sq (rT [2] (s2 (rt (rq [] [3,8,13] rfl ?_))))))))))))))))))))))))))
 repeat' apply ai
 all_goals try exact qx
 all_goals(first|with_reducible rfl|(simp;done))
theorem tE (l:List bI) (n:bI) (hl:l.length≤100000):Sp 247 2 [tD 0 (.sl (aI l)),tV 1 n.V] [tD 0 (.sl (aI (kK l n)))]:=by
 refine sb Tryz.func247 rfl (sq (rT [0,3] (s2 (sq (rT [0,3,5] (s1 (sq (bk (SW.loopW (n:=l.length) (fun m q=> ∃i:Nat,m=l.length - i∧i≤l.length∧(∀j,j<i→cJ (l.getD j .zero).frm (l.getD j .zero).num n.frm n.num=true)∧q=[tD 0 (.sl (aI l)),tP 3 3,tI 5 (i:Nat),oB 3 52 [.d (.i (n).frm),.d (.i (n).num),.d (.i (n).to),.d (.i (n).til),.d (.s (n).text)]]) ?_ ?_)))))))))
 · exact wq (σ':=[tD 0 (.sl (aI l)),tP 3 3,tI 5 (0:Nat),oB 3 52 [.d (.i (n).frm),.d (.i (n).num),.d (.i (n).to),.d (.i (n).til),.d (.s (n).text)]]) [] [] (⟨0,rfl,aX5 _,fun j h=>absurd h (by omega),rfl⟩) qz
 rintro n s ⟨i,rfl,hi,hk,rfl⟩
 refine sq (sq (rD [0,3,5,26] (s5 (y2 (ai (fun h=>(by have h8:=h;simp[gb,aH] at h8;have h9:i<l.length:=(by omega);rw[aXy,aX h9];exact⟨⟨by omega,by rw[aH];omega⟩,rfl⟩)) (ai rk (y1 (ai (fun h=>(by have h8:=h;simp[gb,aH] at h8;have h9:i<l.length:=(by omega);rw[aXy,aX h9];exact⟨aX0 rfl,rfl⟩)) (ai rk (y2 (ai (fun h=>(by have h8:=h;simp[gb,aH] at h8;have h9:i<l.length:=(by omega);rw[aXy,aX h9];exact⟨⟨by omega,by rw[aH];omega⟩,rfl⟩)) (ai rk (y1 (ai (fun h=>(by have h8:=h;simp[gb,aH] at h8;have h9:i<l.length:=(by omega);rw[aXy,aX h9];exact⟨aX0 rfl,rfl⟩)) (ai rk (y4 (xc (fun h=>(sX _ _ _ _)) (ai rfl (ai rk ?_)))))))))))))))))))
 refine ai pk (ai (by kernel_rfl) (cd rfl (fun c26=> ?_) fun c26=> ?_))
 · have h9:=c26
   simp only[aX3,aD,aH] at h9
   have hi2:i<l.length:=by omega
   have hb:cJ (l.getD i .zero).frm (l.getD i .zero).num n.frm n.num=true:=by
    have h10:=h9.2
    rw[aXy,aX hi2] at h10
    exact h10
   refine sk (bk (rT [0,3,5] (s3 (wq [] [] (⟨l.length - (i+1),by omega,i+1,rfl,by omega,fun j h=>by by_cases e:j=i;exact e▸hb;exact hk j (by omega),rfl⟩) ?_))))
   repeat' apply ai
   all_goals first|exact qx|exact aA D.i (aF (by omega))|exact qz
 have hend:i=l.length∨cJ (l.getD i .zero).frm (l.getD i .zero).num n.frm n.num=false:=by
  by_cases h:i<l.length
  · right
    have h9:=c26
    rw[decide_eq_true (show((i:Nat):Int)< ((aI l).length:Int) by rw[aH];omega),Bool.true_and,aXy,aX h] at h9
    exact h9
  · left;omega
 have hins:kK l n=_:=aKs (z:=bI.zero) (p:=fun x=>cJ x.frm x.num n.frm n.num) (n:=n) hi hk hend
 refine xt (sq (rD [4] (ai (by simp) (s2 (ai (by exact⟨by rw[aH];exact⟨by first|(simp;done)|(simp;omega),by first|(simp;done)|(simp;omega),by first|(simp;done)|(simp;omega)⟩,gI _⟩) (ai (by exact⟨by first|trivial|rfl|(simp;done),by first|rfl|(simp[aH];done),by first|exact kM l _ _|(simp;done),by(try simp only[aXz,aX1,aX2,aX4,aX7,aH,jY,jZ,kA,kB]);show _*48≤_;omega⟩) (s1 (ai (by exact⟨by simp,aX0 rfl⟩) (ai (by exact⟨by first|trivial|rfl|(simp;done),by first|rfl|(simp[aH];done),by first|exact kM l _ _|(simp;done),by(try simp only[aXz,aX1,aX2,aX4,aX7,aH,jY,jZ,kA,kB]);show _*48≤_;omega⟩) (s2 (ai (by exact⟨by rw[aH];exact⟨by first|(simp;done)|(simp;omega),by first|(simp;done)|(simp;omega),by first|(simp;done)|(simp;omega)⟩,gI _⟩) (ai (by exact⟨by first|trivial|rfl|(simp;done),by first|rfl|(simp[aH];done),by first|exact kM l _ _|(simp;done),by(try simp only[aXz,aX1,aX2,aX4,aX7,aH,jY,jZ,kA,kB]);show _*48≤_;omega⟩) (s1 (ai (by kernel_rfl) (rt (eF _ [] [29] rfl (fB rfl rfl rfl ?_ (aA D.sl ?_) trivial) rfl rfl))))))))))))))))
 · rfl
 rw[hins,vN,zQ];simp[aI,List.map_take,List.map_drop,bI.row]
theorem dq (l:List bI) (a:Int) (ha:0≤a∧a<l.length) (hl:l.length≤100000):Sp 249 2 [tD 0 (.sl (aI l)),tI 1 a] [tD 0 (.sl (aI (iB l a.toNat)))]:=by
 obtain⟨i,rfl⟩:=Int.eq_ofNat_of_zero_le ha.1
 have hw:wrap64 ((i:Int)+1)=((i+1:Nat):Int):=by rw[aF (by omega)];omega
 refine sb Tryz.func249 rfl (sq (rT [0,1] (s1 (sq (rD [4] (ai (by simp) (s2 (ai (by exact⟨by rw[aH];exact⟨by first|(simp;done)|(simp;omega),by first|(simp;done)|(simp;omega),by first|(simp;done)|(simp;omega)⟩,gI _⟩) (ai (by exact⟨by first|trivial|rfl|(simp;done),by first|rfl|(simp[aH];done),by first|exact kM l _ _|(simp;done),by(try simp only[aXz,aX1,aX2,aX4,aX7,aH,jY,jZ,kA,kB]);show _*48≤_;omega⟩) (s3 (ai (by rw[hw];exact⟨by rw[aH];exact⟨by first|(simp;done)|(simp;omega),by first|(simp;done)|(simp;omega),by first|(simp;done)|(simp;omega)⟩,gI _⟩) (ai (by exact⟨by first|trivial|rfl|(simp;done),by first|rfl|(simp[aH];done),by first|exact kM l _ _|(simp;done),by(try simp only[hw]);(try simp only[aXz,aX1,aX2,aX4,aX7,aH,jY,jZ,kA,kB]);show _*48≤_;omega⟩) (s1 (ai (by kernel_rfl) (rt (eF _ [] [5] rfl (fB rfl rfl rfl ?_ (aA D.sl ?_) trivial) rfl rfl))))))))))))))))
 · rfl
 rw[hw,vN,zQ];simp[aI,iB,List.map_take,List.map_drop]
theorem av {l:List bI} {i:Nat} {n:bI}: (aI (midW (fun x:bI=>cJ n.frm n.num x.frm x.num) n (l.take i))).length≤l.length+1:=by
 rw[aH,midW]
 split
 · rw[fV,aX4];omega
 rw[aX4];omega
theorem nT (l:List bI) (n:bI) (hl:l.length≤100000):Sp 232 2 [tD 0 (.sl (aI l)),tV 1 n.V] [tD 0 (.sl (aI (kL l n)))]:=by
 refine sb Tryz.func232 rfl (sq (rT [0,3] (s2 (sq (rT [0,3,5] (ai (by simp) (s1 (sq (rT [0,3,5,6] (s1 (sq (sq (rT [0,3,5,6,7] (s1 (bk (SW.loopW (n:=l.length) (fun m q=> ∃i:Nat,m=l.length - i∧i≤l.length∧q=[tD 0 (.sl (aI l)),tP 3 3,tO 5 8 (aI (midW (fun x:bI=>cJ n.frm n.num x.frm x.num) n (l.take i))).length,tB 6 ((l.take i).any (fun x:bI=>cJ n.frm n.num x.frm x.num)),tI 7 (i:Nat),oB 3 52 [.d (.i (n).frm),.d (.i (n).num),.d (.i (n).to),.d (.i (n).til),.d (.s (n).text)],oR 8 52 5 (aI (midW (fun x:bI=>cJ n.frm n.num x.frm x.num) n (l.take i)))]) ?_ ?_))))))))))))))))
 · refine wq (σ':=[tD 0 (.sl (aI l)),tP 3 3,tO 5 8 (aI (midW (fun x:bI=>cJ n.frm n.num x.frm x.num) n (l.take 0))).length,tB 6 ((l.take 0).any (fun x:bI=>cJ n.frm n.num x.frm x.num)),tI 7 (0:Nat),oB 3 52 [.d (.i (n).frm),.d (.i (n).num),.d (.i (n).to),.d (.i (n).til),.d (.s (n).text)],oR 8 52 5 (aI (midW (fun x:bI=>cJ n.frm n.num x.frm x.num) n (l.take 0)))]) [] [] (⟨0,rfl,aX5 _,rfl⟩) ?_
   repeat' apply ai
   all_goals first|exact qx|rfl|(simp[midW];done)|exact qz
 rintro n s ⟨i,rfl,hi,rfl⟩
 refine sq (sq (rT [0,3,5,6,7,12] (s4 (cd rfl (fun c12=> ?_) fun c12=> ?_))))
 · have hi2:i<l.length:=by simpa[aH] using c12
   have hg:=aX (l:=l) hi2
   refine sk (sq (bk (sq (sq (rD [0,3,5,6,7,33] (s3 (y4 (y2 (ai (fun h=>(by have h9:=hi2;rw[aXy,aX h9];exact⟨⟨by omega,by rw[aH];omega⟩,rfl⟩)) (ai rk (y1 (ai (fun h=>(by have h9:=hi2;rw[aXy,aX h9];exact⟨aX0 rfl,rfl⟩)) (ai rk (y2 (ai (fun h=>(by have h9:=hi2;rw[aXy,aX h9];exact⟨⟨by omega,by rw[aH];omega⟩,rfl⟩)) (ai rk (y1 (ai (fun h=>(by have h9:=hi2;rw[aXy,aX h9];exact⟨aX0 rfl,rfl⟩)) (ai rk (xc (fun h=>(rN _ _ _ _)) (ai rfl (ai rk ?_))))))))))))))))))))))
   refine ai pk (ai (by kernel_rfl) (cd rfl (fun c33=> ?_) fun c33=> ?_))
   · have h9:=c33
     rw[aXy,hg] at h9
     rw[aX3] at h9
     have hq: (l.take i).any (fun x:bI=>cJ n.frm n.num x.frm x.num)=false∧cJ n.frm n.num (l.getD i .zero).frm (l.getD i .zero).num=true:=⟨by simpa only[Bool.not_eq_true'] using h9.1,h9.2⟩
     have hm:=aGd (q:=(fun x:bI=>cJ n.frm n.num x.frm x.num)) (n:=n) (x:=l.getD i .zero) hq.1 hq.2
     rw[← eX hi2] at hm
     have ha: (l.take (i+1)).any (fun x:bI=>cJ n.frm n.num x.frm x.num)=true:=by rw[eX (z:=bI.zero) hi2,ld,hq.1];exact hq.2
     refine sq (rT [0,3,5,7] (s2 (ai (by exact⟨by simp,aX0 rfl⟩) (ai (by exact⟨by first|trivial|rfl|(simp;done),by first|rfl|(simp;done),by first|(simp;done)|(intro r hr;rw[List.mem_singleton.1 hr];rfl),by(try simp only[aXz,aX1,aX2]);have hm:=av (l:=l) (i:=i) (n:=n);show _*48≤_;omega⟩) (s1 (rT [0,3,5,6,7] (s1 (rT [0,3,5,6,7] (s3 (ai (by have h9:=hi2;rw[aXy,aX h9];exact⟨⟨by omega,by rw[aH];omega⟩,rfl⟩) (ai (by have h9:=hi2;rw[aXy,aX h9];exact⟨aX0 rfl,rfl⟩) (ai (by exact⟨by simp,aX0 rfl⟩) (ai (by exact⟨by first|trivial|rfl|(simp;done),by first|rfl|(simp;done),by first|(simp;done)|(intro r hr;rw[List.mem_singleton.1 hr];rfl),by(try simp only[aXz,aX1,aX2]);have hm:=av (l:=l) (i:=i) (n:=n);show _*48≤_;omega⟩) (s1 (rT [0,3,5,6,7] (s3 (wq [] [] (⟨l.length - (i+1),by omega,i+1,rfl,by omega,rfl⟩) ?_)))))))))))))))))
     repeat' apply ai
     all_goals first|exact qx|exact aA D.i (by rw[aF (by omega)];omega)|(rw[ha];done)|exact aA D.b ha.symm|(rw[hm];simp[aI,aXy];done)|(rw[hm,aXy,hg];simp only[aI,List.map_append,List.map_cons,List.map_nil];rfl)|exact qz
   have h9:=c33
   rw[aXy,hg] at h9
   have hq: (l.take i).any (fun x:bI=>cJ n.frm n.num x.frm x.num)=true∨cJ n.frm n.num (l.getD i .zero).frm (l.getD i .zero).num=false:=by
    cases h: (l.take i).any (fun x:bI=>cJ n.frm n.num x.frm x.num) with
    |true=>exact .inl rfl
    |false=>rw[h] at h9;exact .inr h9
   have hm:=aKt (q:=(fun x:bI=>cJ n.frm n.num x.frm x.num)) (n:=n) (x:=l.getD i .zero) hq
   rw[← eX hi2] at hm
   have ha: (l.take (i+1)).any (fun x:bI=>cJ n.frm n.num x.frm x.num)=(l.take i).any (fun x:bI=>cJ n.frm n.num x.frm x.num):=by
    rw[eX (z:=bI.zero) hi2,ld]
    rcases hq with h|h
    · rw[h];rfl
    · show((l.take i).any (fun x:bI=>cJ n.frm n.num x.frm x.num)||(cJ n.frm n.num (l.getD i .zero).frm (l.getD i .zero).num))=_
      rw[h,Bool.or_false]
   refine sk (rT [0,3,5,6,7] (s3 (ai (by have h9:=hi2;rw[aXy,aX h9];exact⟨⟨by omega,by rw[aH];omega⟩,rfl⟩) (ai (by have h9:=hi2;rw[aXy,aX h9];exact⟨aX0 rfl,rfl⟩) (ai (by exact⟨by simp,aX0 rfl⟩) (ai (by exact⟨by first|trivial|rfl|(simp;done),by first|rfl|(simp;done),by first|(simp;done)|(intro r hr;rw[List.mem_singleton.1 hr];rfl),by(try simp only[aXz,aX1,aX2]);have hm:=av (l:=l) (i:=i) (n:=n);show _*48≤_;omega⟩) (s1 (rT [0,3,5,6,7] (s3 (wq [] [] (⟨l.length - (i+1),by omega,i+1,rfl,by omega,rfl⟩) ?_))))))))))
   repeat' apply ai
   all_goals first|exact qx|exact aA D.i (by rw[aF (by omega)];omega)|(rw[ha];done)|exact aA D.b ha.symm|(rw[hm];simp[aI,aXy];done)|(rw[hm,aXy,hg];simp only[aI,List.map_append,List.map_cons,List.map_nil];rfl)|exact qz
 have hi3:i=l.length:=by simp[aH] at c12;omega
 subst hi3
 refine xt (sq (sq (rT [3,5,46] (s2 (cd rfl (fun c46=> ?_) fun c46=> ?_)))))
 · have he: (l.take l.length).any (fun x:bI=>cJ n.frm n.num x.frm x.num)=false:=by simpa using c46
   refine rT [5] (s2 (ai (by exact⟨by simp,aX0 rfl⟩) (ai (by exact⟨by first|trivial|rfl|(simp;done),by first|rfl|(simp;done),by first|(simp;done)|(intro r hr;rw[List.mem_singleton.1 hr];rfl),by(try simp only[aXz,aX1,aX2]);have hm:=av (l:=l) (i:=l.length) (n:=n);show _*48≤_;omega⟩) (s1 (sq (rT [4] (s2 (rt (eF _ [] [8] rfl (fB rfl rfl rfl ?_ (aA D.sl ?_) trivial) rfl rfl)))))))))
   · rfl
   rw[aYe] at he ⊢; rw[zO,lf,he];simp[aI,bI.row]
 have he: (l.take l.length).any (fun x:bI=>cJ n.frm n.num x.frm x.num)=true:=by simpa using c46
 refine sk (sq (rT [4] (s2 (rt (eF _ [] [8] rfl (fB rfl rfl rfl ?_ (aA D.sl ?_) trivial) rfl rfl)))))
 · rfl
 rw[aYe] at he ⊢; rw[zO,lf,he];simp[aI,bI.row]
theorem xN (l:List cD) (n:cD) (hl:l.length≤100000):Sp 250 2 [tD 0 (.sl (aS l)),tV 1 n.V] [tD 0 (.sl (aS (qA l n)))]:=by
 refine sb Tryz.func250 rfl (sq (rT [0,3] (s2 (sq (rT [0,3,5] (s1 (sq (bk (SW.loopW (n:=l.length) (fun m q=> ∃i:Nat,m=l.length - i∧i≤l.length∧(∀j,j<i→cJ (l.getD j .zero).frm (l.getD j .zero).num n.frm n.num=true)∧q=[tD 0 (.sl (aS l)),tP 3 3,tI 5 (i:Nat),oB 3 162 [.d (.i (n).frm),.d (.i (n).num),.d (.i (n).til)]]) ?_ ?_)))))))))
 · exact wq (σ':=[tD 0 (.sl (aS l)),tP 3 3,tI 5 (0:Nat),oB 3 162 [.d (.i (n).frm),.d (.i (n).num),.d (.i (n).til)]]) [] [] (⟨0,rfl,aX5 _,fun j h=>absurd h (by omega),rfl⟩) qz
 rintro n s ⟨i,rfl,hi,hk,rfl⟩
 refine sq (sq (rD [0,3,5,26] (s5 (y2 (ai (fun h=>(by have h8:=h;simp[gb,aR] at h8;have h9:i<l.length:=(by omega);rw[aXy,cA h9];exact⟨⟨by omega,by rw[aR];omega⟩,rfl⟩)) (ai rk (y1 (ai (fun h=>(by have h8:=h;simp[gb,aR] at h8;have h9:i<l.length:=(by omega);rw[aXy,cA h9];exact⟨aX0 rfl,rfl⟩)) (ai rk (y2 (ai (fun h=>(by have h8:=h;simp[gb,aR] at h8;have h9:i<l.length:=(by omega);rw[aXy,cA h9];exact⟨⟨by omega,by rw[aR];omega⟩,rfl⟩)) (ai rk (y1 (ai (fun h=>(by have h8:=h;simp[gb,aR] at h8;have h9:i<l.length:=(by omega);rw[aXy,cA h9];exact⟨aX0 rfl,rfl⟩)) (ai rk (y4 (xc (fun h=>(sX _ _ _ _)) (ai rfl (ai rk ?_)))))))))))))))))))
 refine ai pk (ai (by kernel_rfl) (cd rfl (fun c26=> ?_) fun c26=> ?_))
 · have h9:=c26
   simp only[aX3,aD,aR] at h9
   have hi2:i<l.length:=by omega
   have hb:cJ (l.getD i .zero).frm (l.getD i .zero).num n.frm n.num=true:=by
    have h10:=h9.2
    rw[aXy,cA hi2] at h10
    exact h10
   refine sk (bk (rT [0,3,5] (s3 (wq [] [] (⟨l.length - (i+1),by omega,i+1,rfl,by omega,fun j h=>by by_cases e:j=i;exact e▸hb;exact hk j (by omega),rfl⟩) ?_))))
   repeat' apply ai
   all_goals first|exact qx|exact aA D.i (aF (by omega))|exact qz
 have hend:i=l.length∨cJ (l.getD i .zero).frm (l.getD i .zero).num n.frm n.num=false:=by
  by_cases h:i<l.length
  · right
    have h9:=c26
    rw[decide_eq_true (show((i:Nat):Int)< ((aS l).length:Int) by rw[aR];omega),Bool.true_and,aXy,cA h] at h9
    exact h9
  · left;omega
 have hins:qA l n=_:=aKs (z:=cD.zero) (p:=fun x=>cJ x.frm x.num n.frm n.num) (n:=n) hi hk hend
 refine xt (sq (rD [4] (ai (by simp) (s2 (ai (by exact⟨by rw[aR];exact⟨by first|(simp;done)|(simp;omega),by first|(simp;done)|(simp;omega),by first|(simp;done)|(simp;omega)⟩,lR _⟩) (ai (by exact⟨by first|trivial|rfl|(simp;done),by first|rfl|(simp[aR];done),by first|exact zP l _ _|(simp;done),by(try simp only[aXz,aX1,aX2,aX4,aX7,aR,jY,jZ,kA,kB]);show _*24≤_;omega⟩) (s1 (ai (by exact⟨by simp,aX0 rfl⟩) (ai (by exact⟨by first|trivial|rfl|(simp;done),by first|rfl|(simp[aR];done),by first|exact zP l _ _|(simp;done),by(try simp only[aXz,aX1,aX2,aX4,aX7,aR,jY,jZ,kA,kB]);show _*24≤_;omega⟩) (s2 (ai (by exact⟨by rw[aR];exact⟨by first|(simp;done)|(simp;omega),by first|(simp;done)|(simp;omega),by first|(simp;done)|(simp;omega)⟩,lR _⟩) (ai (by exact⟨by first|trivial|rfl|(simp;done),by first|rfl|(simp[aR];done),by first|exact zP l _ _|(simp;done),by(try simp only[aXz,aX1,aX2,aX4,aX7,aR,jY,jZ,kA,kB]);show _*24≤_;omega⟩) (s1 (ai (by kernel_rfl) (rt (eF _ [] [29] rfl (fB rfl rfl rfl ?_ (aA D.sl ?_) trivial) rfl rfl))))))))))))))))
 · rfl
 rw[hins,vN,zQ];simp[aS,List.map_take,List.map_drop,cD.row]
theorem aw {l:List cD} {i:Nat} {n:cD}: (aS (midW (fun x:cD=>cJ n.frm n.num x.frm x.num) n (l.take i))).length≤l.length+1:=by
 rw[aR,midW]
 split
 · rw[fV,aX4];omega
 rw[aX4];omega
theorem rO (l:List cD) (n:cD) (hl:l.length≤100000):Sp 236 2 [tD 0 (.sl (aS l)),tV 1 n.V] [tD 0 (.sl (aS (oQ l n)))]:=by
 refine sb Tryz.func236 rfl (sq (rT [0,3] (s2 (sq (rT [0,3,5] (ai (by simp) (s1 (sq (rT [0,3,5,6] (s1 (sq (sq (rT [0,3,5,6,7] (s1 (bk (SW.loopW (n:=l.length) (fun m q=> ∃i:Nat,m=l.length - i∧i≤l.length∧q=[tD 0 (.sl (aS l)),tP 3 3,tO 5 8 (aS (midW (fun x:cD=>cJ n.frm n.num x.frm x.num) n (l.take i))).length,tB 6 ((l.take i).any (fun x:cD=>cJ n.frm n.num x.frm x.num)),tI 7 (i:Nat),oB 3 162 [.d (.i (n).frm),.d (.i (n).num),.d (.i (n).til)],oR 8 162 3 (aS (midW (fun x:cD=>cJ n.frm n.num x.frm x.num) n (l.take i)))]) ?_ ?_))))))))))))))))
 · refine wq (σ':=[tD 0 (.sl (aS l)),tP 3 3,tO 5 8 (aS (midW (fun x:cD=>cJ n.frm n.num x.frm x.num) n (l.take 0))).length,tB 6 ((l.take 0).any (fun x:cD=>cJ n.frm n.num x.frm x.num)),tI 7 (0:Nat),oB 3 162 [.d (.i (n).frm),.d (.i (n).num),.d (.i (n).til)],oR 8 162 3 (aS (midW (fun x:cD=>cJ n.frm n.num x.frm x.num) n (l.take 0)))]) [] [] (⟨0,rfl,aX5 _,rfl⟩) ?_
   repeat' apply ai
   all_goals first|exact qx|rfl|(simp[midW];done)|exact qz
 rintro n s ⟨i,rfl,hi,rfl⟩
 refine sq (sq (rT [0,3,5,6,7,12] (s4 (cd rfl (fun c12=> ?_) fun c12=> ?_))))
 · have hi2:i<l.length:=by simpa[aR] using c12
   have hg:=cA (l:=l) hi2
   refine sk (sq (bk (sq (sq (rD [0,3,5,6,7,33] (s3 (y4 (y2 (ai (fun h=>(by have h9:=hi2;rw[aXy,cA h9];exact⟨⟨by omega,by rw[aR];omega⟩,rfl⟩)) (ai rk (y1 (ai (fun h=>(by have h9:=hi2;rw[aXy,cA h9];exact⟨aX0 rfl,rfl⟩)) (ai rk (y2 (ai (fun h=>(by have h9:=hi2;rw[aXy,cA h9];exact⟨⟨by omega,by rw[aR];omega⟩,rfl⟩)) (ai rk (y1 (ai (fun h=>(by have h9:=hi2;rw[aXy,cA h9];exact⟨aX0 rfl,rfl⟩)) (ai rk (xc (fun h=>(rN _ _ _ _)) (ai rfl (ai rk ?_))))))))))))))))))))))
   refine ai pk (ai (by kernel_rfl) (cd rfl (fun c33=> ?_) fun c33=> ?_))
   · have h9:=c33
     rw[aXy,hg] at h9
     rw[aX3] at h9
     have hq: (l.take i).any (fun x:cD=>cJ n.frm n.num x.frm x.num)=false∧cJ n.frm n.num (l.getD i .zero).frm (l.getD i .zero).num=true:=⟨by simpa only[Bool.not_eq_true'] using h9.1,h9.2⟩
     have hm:=aGd (q:=(fun x:cD=>cJ n.frm n.num x.frm x.num)) (n:=n) (x:=l.getD i .zero) hq.1 hq.2
     rw[← eX hi2] at hm
     have ha: (l.take (i+1)).any (fun x:cD=>cJ n.frm n.num x.frm x.num)=true:=by rw[eX (z:=cD.zero) hi2,ld,hq.1];exact hq.2
     refine sq (rT [0,3,5,7] (s2 (ai (by exact⟨by simp,aX0 rfl⟩) (ai (by exact⟨by first|trivial|rfl|(simp;done),by first|rfl|(simp;done),by first|(simp;done)|(intro r hr;rw[List.mem_singleton.1 hr];rfl),by(try simp only[aXz,aX1,aX2]);have hm:=aw (l:=l) (i:=i) (n:=n);show _*24≤_;omega⟩) (s1 (rT [0,3,5,6,7] (s1 (rT [0,3,5,6,7] (s3 (ai (by have h9:=hi2;rw[aXy,cA h9];exact⟨⟨by omega,by rw[aR];omega⟩,rfl⟩) (ai (by have h9:=hi2;rw[aXy,cA h9];exact⟨aX0 rfl,rfl⟩) (ai (by exact⟨by simp,aX0 rfl⟩) (ai (by exact⟨by first|trivial|rfl|(simp;done),by first|rfl|(simp;done),by first|(simp;done)|(intro r hr;rw[List.mem_singleton.1 hr];rfl),by(try simp only[aXz,aX1,aX2]);have hm:=aw (l:=l) (i:=i) (n:=n);show _*24≤_;omega⟩) (s1 (rT [0,3,5,6,7] (s3 (wq [] [] (⟨l.length - (i+1),by omega,i+1,rfl,by omega,rfl⟩) ?_)))))))))))))))))
     repeat' apply ai
     all_goals first|exact qx|exact aA D.i (by rw[aF (by omega)];omega)|(rw[ha];done)|exact aA D.b ha.symm|(rw[hm];simp[aS,aXy];done)|(rw[hm,aXy,hg];simp only[aS,List.map_append,List.map_cons,List.map_nil];rfl)|exact qz
   have h9:=c33
   rw[aXy,hg] at h9
   have hq: (l.take i).any (fun x:cD=>cJ n.frm n.num x.frm x.num)=true∨cJ n.frm n.num (l.getD i .zero).frm (l.getD i .zero).num=false:=by
    cases h: (l.take i).any (fun x:cD=>cJ n.frm n.num x.frm x.num) with
    |true=>exact .inl rfl
    |false=>rw[h] at h9;exact .inr h9
   have hm:=aKt (q:=(fun x:cD=>cJ n.frm n.num x.frm x.num)) (n:=n) (x:=l.getD i .zero) hq
   rw[← eX hi2] at hm
   have ha: (l.take (i+1)).any (fun x:cD=>cJ n.frm n.num x.frm x.num)=(l.take i).any (fun x:cD=>cJ n.frm n.num x.frm x.num):=by
    rw[eX (z:=cD.zero) hi2,ld]
    rcases hq with h|h
    · rw[h];rfl
    · show((l.take i).any (fun x:cD=>cJ n.frm n.num x.frm x.num)||(cJ n.frm n.num (l.getD i .zero).frm (l.getD i .zero).num))=_
      rw[h,Bool.or_false]
   refine sk (rT [0,3,5,6,7] (s3 (ai (by have h9:=hi2;rw[aXy,cA h9];exact⟨⟨by omega,by rw[aR];omega⟩,rfl⟩) (ai (by have h9:=hi2;rw[aXy,cA h9];exact⟨aX0 rfl,rfl⟩) (ai (by exact⟨by simp,aX0 rfl⟩) (ai (by exact⟨by first|trivial|rfl|(simp;done),by first|rfl|(simp;done),by first|(simp;done)|(intro r hr;rw[List.mem_singleton.1 hr];rfl),by(try simp only[aXz,aX1,aX2]);have hm:=aw (l:=l) (i:=i) (n:=n);show _*24≤_;omega⟩) (s1 (rT [0,3,5,6,7] (s3 (wq [] [] (⟨l.length - (i+1),by omega,i+1,rfl,by omega,rfl⟩) ?_))))))))))
   repeat' apply ai
   all_goals first|exact qx|exact aA D.i (by rw[aF (by omega)];omega)|(rw[ha];done)|exact aA D.b ha.symm|(rw[hm];simp[aS,aXy];done)|(rw[hm,aXy,hg];simp only[aS,List.map_append,List.map_cons,List.map_nil];rfl)|exact qz
 have hi3:i=l.length:=by simp[aR] at c12;omega
 subst hi3
 refine xt (sq (sq (rT [3,5,46] (s2 (cd rfl (fun c46=> ?_) fun c46=> ?_)))))
 · have he: (l.take l.length).any (fun x:cD=>cJ n.frm n.num x.frm x.num)=false:=by simpa using c46
   refine rT [5] (s2 (ai (by exact⟨by simp,aX0 rfl⟩) (ai (by exact⟨by first|trivial|rfl|(simp;done),by first|rfl|(simp;done),by first|(simp;done)|(intro r hr;rw[List.mem_singleton.1 hr];rfl),by(try simp only[aXz,aX1,aX2]);have hm:=aw (l:=l) (i:=l.length) (n:=n);show _*24≤_;omega⟩) (s1 (sq (rT [4] (s2 (rt (eF _ [] [8] rfl (fB rfl rfl rfl ?_ (aA D.sl ?_) trivial) rfl rfl)))))))))
   · rfl
   rw[aYe] at he ⊢; rw[vM,lf,he];simp[aS,cD.row]
 have he: (l.take l.length).any (fun x:cD=>cJ n.frm n.num x.frm x.num)=true:=by simpa using c46
 refine sk (sq (rT [4] (s2 (rt (eF _ [] [8] rfl (fB rfl rfl rfl ?_ (aA D.sl ?_) trivial) rfl rfl)))))
 · rfl
 rw[aYe] at he ⊢; rw[vM,lf,he];simp[aS,cD.row]
theorem zc (k:bH) (t:Int) (hb:k.held.length≤100000∧k.marks.length≤100000∧k.inbox.length≤100000):Sp 244 2 [tV 0 k.V,tI 1 t] [tV 0 ((kZ k t).V)]:=by
 refine sb Tryz.func244 rfl (sq (rT [1,2,4] (s2 (sq (rT [1,2,4,5] (s9 (s1 (sq (sq (rT [1,2,4,5,19,20,21] (s4 (bk (SW.nilBox 5 100 3 52 5 rfl rfl rfl (SW.nilBox 5 101 4 162 3 rfl rfl rfl (SW.loopW (n:=k.held.length) (fun m q=> ∃i:Nat,m=k.held.length - i∧i≤k.held.length∧q=[tI 1 t,tP 2 2,tP 4 4,tP 5 5,tD 19 (.sl (aI k.held)),tI 20 (k.held.length:Nat),tI 21 (i:Nat),oB 2 44 [.d (.i k.id),.d (.i k.time),.d (.i k.next),.d (.sl (aI k.held)),.d (.sl (aS k.marks)),.d (.sl (aI k.inbox))],oB 4 44 [.d (.i 0),.d (.i 0),.d (.i 0),.nil,.nil,.nil],oB 5 44 [.d (.i k.id),.d (.i t),.d (.i k.next),.own 100 (aI ((k.held.take i).filter (fun n=>decide (t<n.til)))).length,.own 101 (aS []).length,.d (.sl (aI k.inbox))],oR 100 52 5 (aI ((k.held.take i).filter (fun n=>decide (t<n.til)))),oR 101 162 3 (aS [])]) ?_ ?_)))))))))))))))
 · refine wq (σ':=[tI 1 t,tP 2 2,tP 4 4,tP 5 5,tD 19 (.sl (aI k.held)),tI 20 (k.held.length:Nat),tI 21 (0:Nat),oB 2 44 [.d (.i k.id),.d (.i k.time),.d (.i k.next),.d (.sl (aI k.held)),.d (.sl (aS k.marks)),.d (.sl (aI k.inbox))],oB 4 44 [.d (.i 0),.d (.i 0),.d (.i 0),.nil,.nil,.nil],oB 5 44 [.d (.i k.id),.d (.i t),.d (.i k.next),.own 100 (aI ((k.held.take 0).filter (fun n=>decide (t<n.til)))).length,.own 101 (aS []).length,.d (.sl (aI k.inbox))],oR 100 52 5 (aI ((k.held.take 0).filter (fun n=>decide (t<n.til)))),oR 101 162 3 (aS [])]) [] [] (⟨0,rfl,aX5 _,rfl⟩) ?_
   repeat' apply ai
   all_goals first|exact qx|rfl|(rw[aH];done)|(rw[aR];done)|exact qz
 rintro n s ⟨i,rfl,hi,rfl⟩
 refine sq (rT [1,2,4,5,19,20,21,22] (s1 (sq (cd rfl (fun c22=> ?_) fun c22=> ?_))))
 · have hi2:i<k.held.length:=by simpa using c22
   have hg:=aX (l:=k.held) hi2
   refine sk (sq (bk (sq (rT [1,2,4,5,7,19,20,21] (ai (by rw[aXy,hg];exact⟨⟨by omega,by rw[aH];omega⟩,rfl⟩) (ai (by rw[aXy,hg];exact⟨aX0 rfl,rfl⟩) (s2 (sq (wa [tI 1 t,tP 2 2,tP 4 4,tP 5 5,tD 19 (.sl (aI k.held)),tI 20 (k.held.length:Nat),tI 21 (i:Nat),oB 2 44 [.d (.i k.id),.d (.i k.time),.d (.i k.next),.d (.sl (aI k.held)),.d (.sl (aS k.marks)),.d (.sl (aI k.inbox))],oB 4 44 [.d (.i 0),.d (.i 0),.d (.i 0),.nil,.nil,.nil],oB 5 44 [.d (.i k.id),.d (.i t),.d (.i k.next),.own 100 (aI ((k.held.take i).filter (fun n=>decide (t<n.til)))).length,.own 101 (aS []).length,.d (.sl (aI k.inbox))],oR 100 52 5 (aI ((k.held.take i).filter (fun n=>decide (t<n.til)))),oR 101 162 3 (aS []),tP 7 7,oB 7 52 [.d (.i (k.held.getD i .zero).frm),.d (.i (k.held.getD i .zero).num),.d (.i (k.held.getD i .zero).to),.d (.i (k.held.getD i .zero).til),.d (.s (k.held.getD i .zero).text)]] [] [] ?_ ?_)))))))))
   · repeat' apply ai
     all_goals first|exact qx|(rw[aXy,hg];rfl)|exact qz
   refine rT [1,2,4,5,7,19,20,21,28] (s4 (cd rfl (fun c28=> ?_) fun c28=> ?_))
   · have hp: (fun n:bI=>decide (t<n.til)) (k.held.getD i .zero)=true:=c28
     have hf:=zN (z:=bI.zero) (p:=fun n=>decide (t<n.til)) hi2 hp
     refine rT [1,2,4,5,19,20,21] (s3 (ai (by exact⟨by simp,aX0 rfl⟩) (ai (by exact⟨by first|trivial|rfl|(simp;done),by first|rfl|(simp;done),by first|(simp;done)|(intro r hr;rw[List.mem_singleton.1 hr];rfl),by(have hm:=(List.length_filter_le (fun n=>decide (t<n.til)) (k.held.take i)));rw[aX4] at hm;simp only[aH,aX1,aX2];show _*48≤_;omega⟩) (s2 (rT [1,2,4,5,19,20,21] (s2 (wq [] [] (⟨k.held.length - (i+1),by omega,i+1,rfl,by omega,rfl⟩) ?_)))))))
     repeat' apply ai
     all_goals first|exact qx|exact aA D.i (by rw[aF (by omega)];omega)|(rw[hf];simp[aI,aS,bI.row,cD.row];done)|(rw[hf];done)|exact qz
   have hp: (fun n:bI=>decide (t<n.til)) (k.held.getD i .zero)=false:=c28
   have hf:=ey (z:=bI.zero) (p:=fun n=>decide (t<n.til)) hi2 hp
   refine sk (rT [1,2,4,5,19,20,21] (s2 (wq [] [] (⟨k.held.length - (i+1),by omega,i+1,rfl,by omega,rfl⟩) ?_)))
   repeat' apply ai
   all_goals first|exact qx|exact aA D.i (by rw[aF (by omega)];omega)|(rw[hf];simp[aI,aS,bI.row,cD.row];done)|(rw[hf];done)|exact qz
 have hi3:i=k.held.length:=by simp at c22;omega
 subst hi3
 clear hi
 refine xt (sq (sq (rT [1,4,5,37,38,39] (s4 (bk (SW.loopW (n:=k.marks.length) (fun m q=> ∃i:Nat,m=k.marks.length - i∧i≤k.marks.length∧q=[tI 1 t,tP 4 4,tP 5 5,tD 37 (.sl (aS k.marks)),tI 38 (k.marks.length:Nat),tI 39 (i:Nat),oB 4 44 [.d (.i 0),.d (.i 0),.d (.i 0),.nil,.nil,.nil],oB 5 44 [.d (.i k.id),.d (.i t),.d (.i k.next),.own 100 (aI ((k.held.take k.held.length).filter (fun n=>decide (t<n.til)))).length,.own 101 (aS ((k.marks.take i).filter (fun n=>decide (t<n.til)))).length,.d (.sl (aI k.inbox))],oR 100 52 5 (aI ((k.held.take k.held.length).filter (fun n=>decide (t<n.til)))),oR 101 162 3 (aS ((k.marks.take i).filter (fun n=>decide (t<n.til))))]) ?_ ?_))))))
 · refine wq (σ':=[tI 1 t,tP 4 4,tP 5 5,tD 37 (.sl (aS k.marks)),tI 38 (k.marks.length:Nat),tI 39 (0:Nat),oB 4 44 [.d (.i 0),.d (.i 0),.d (.i 0),.nil,.nil,.nil],oB 5 44 [.d (.i k.id),.d (.i t),.d (.i k.next),.own 100 (aI ((k.held.take k.held.length).filter (fun n=>decide (t<n.til)))).length,.own 101 (aS ((k.marks.take 0).filter (fun n=>decide (t<n.til)))).length,.d (.sl (aI k.inbox))],oR 100 52 5 (aI ((k.held.take k.held.length).filter (fun n=>decide (t<n.til)))),oR 101 162 3 (aS ((k.marks.take 0).filter (fun n=>decide (t<n.til))))]) [] [] (⟨0,rfl,aX5 _,rfl⟩) ?_
   repeat' apply ai
   all_goals first|exact qx|rfl|(rw[aH];done)|(rw[aR];done)|exact qz
 rintro n s ⟨i,rfl,hi,rfl⟩
 refine sq (rT [1,4,5,37,38,39,40] (s1 (sq (cd rfl (fun c40=> ?_) fun c40=> ?_))))
 · have hi2:i<k.marks.length:=by simpa using c40
   have hg:=cA (l:=k.marks) hi2
   refine sk (sq (bk (sq (rT [1,4,5,9,37,38,39] (ai (by rw[aXy,hg];exact⟨⟨by omega,by rw[aR];omega⟩,rfl⟩) (ai (by rw[aXy,hg];exact⟨aX0 rfl,rfl⟩) (s2 (sq (wa [tI 1 t,tP 4 4,tP 5 5,tD 37 (.sl (aS k.marks)),tI 38 (k.marks.length:Nat),tI 39 (i:Nat),oB 4 44 [.d (.i 0),.d (.i 0),.d (.i 0),.nil,.nil,.nil],oB 5 44 [.d (.i k.id),.d (.i t),.d (.i k.next),.own 100 (aI ((k.held.take k.held.length).filter (fun n=>decide (t<n.til)))).length,.own 101 (aS ((k.marks.take i).filter (fun n=>decide (t<n.til)))).length,.d (.sl (aI k.inbox))],oR 100 52 5 (aI ((k.held.take k.held.length).filter (fun n=>decide (t<n.til)))),oR 101 162 3 (aS ((k.marks.take i).filter (fun n=>decide (t<n.til)))),tP 9 9,oB 9 162 [.d (.i (k.marks.getD i .zero).frm),.d (.i (k.marks.getD i .zero).num),.d (.i (k.marks.getD i .zero).til)]] [] [] ?_ ?_)))))))))
   · repeat' apply ai
     all_goals first|exact qx|(rw[aXy,hg];rfl)|exact qz
   refine rT [1,4,5,9,37,38,39,46] (s4 (cd rfl (fun c46=> ?_) fun c46=> ?_))
   · have hp: (fun n:cD=>decide (t<n.til)) (k.marks.getD i .zero)=true:=c46
     have hf:=zN (z:=cD.zero) (p:=fun n=>decide (t<n.til)) hi2 hp
     refine rT [1,4,5,37,38,39] (s3 (ai (by exact⟨by simp,aX0 rfl⟩) (ai (by exact⟨by first|trivial|rfl|(simp;done),by first|rfl|(simp;done),by first|(simp;done)|(intro r hr;rw[List.mem_singleton.1 hr];rfl),by(have hm:=(List.length_filter_le (fun n=>decide (t<n.til)) (k.marks.take i)));rw[aX4] at hm;simp only[aR,aX1,aX2];show _*24≤_;omega⟩) (s2 (rT [1,4,5,37,38,39] (s2 (wq [] [] (⟨k.marks.length - (i+1),by omega,i+1,rfl,by omega,rfl⟩) ?_)))))))
     repeat' apply ai
     all_goals first|exact qx|exact aA D.i (by rw[aF (by omega)];omega)|(rw[hf];simp[aI,aS,bI.row,cD.row];done)|(rw[hf];done)|exact qz
   have hp: (fun n:cD=>decide (t<n.til)) (k.marks.getD i .zero)=false:=c46
   have hf:=ey (z:=cD.zero) (p:=fun n=>decide (t<n.til)) hi2 hp
   refine sk (rT [1,4,5,37,38,39] (s2 (wq [] [] (⟨k.marks.length - (i+1),by omega,i+1,rfl,by omega,rfl⟩) ?_)))
   repeat' apply ai
   all_goals first|exact qx|exact aA D.i (by rw[aF (by omega)];omega)|(rw[hf];simp[aI,aS,bI.row,cD.row];done)|(rw[hf];done)|exact qz
 have hi3:i=k.marks.length:=by simp at c40;omega
 subst hi3
 refine xt (sq (rT [4] (s2 (rt (rq [] [100,101] rfl ?_)))))
 repeat' apply ai
 all_goals try exact qx
 all_goals(first|with_reducible rfl|(simp[kZ];done))
theorem zd (k:bH) (t:Int) (hb:k.held.length≤100000∧k.marks.length≤100000∧k.inbox.length≤100000):Sp 229 2 [tV 0 k.V,tI 1 t] [tV 0 ((kZ k t).V)]:=by
 refine sb Tryz.func229 rfl (sq (rT [1,2,4] (s2 (sq (rT [1,2,4,5] (ai (by simp) (s1 (sq (sq (rT [1,2,4,5,6] (s1 (bk (SW.loopW (n:=k.held.length) (fun m q=> ∃i:Nat,m=k.held.length - i∧i≤k.held.length∧q=[tI 1 t,tP 2 2,tP 4 4,tO 5 9 (aI ((k.held.take i).filter (fun n=>decide (t<n.til)))).length,tI 6 (i:Nat),oB 2 44 [.d (.i k.id),.d (.i k.time),.d (.i k.next),.d (.sl (aI k.held)),.d (.sl (aS k.marks)),.d (.sl (aI k.inbox))],oB 4 44 [.d (.i 0),.d (.i 0),.d (.i 0),.nil,.nil,.nil],oR 9 52 5 (aI ((k.held.take i).filter (fun n=>decide (t<n.til))))]) ?_ ?_)))))))))))))
 · refine wq (σ':=[tI 1 t,tP 2 2,tP 4 4,tO 5 9 (aI ((k.held.take 0).filter (fun n=>decide (t<n.til)))).length,tI 6 (0:Nat),oB 2 44 [.d (.i k.id),.d (.i k.time),.d (.i k.next),.d (.sl (aI k.held)),.d (.sl (aS k.marks)),.d (.sl (aI k.inbox))],oB 4 44 [.d (.i 0),.d (.i 0),.d (.i 0),.nil,.nil,.nil],oR 9 52 5 (aI ((k.held.take 0).filter (fun n=>decide (t<n.til))))]) [] [] (⟨0,rfl,aX5 _,rfl⟩) ?_
   repeat' apply ai
   all_goals first|exact qx|rfl|(rw[aH];done)|(rw[aR];done)|exact qz
 rintro n s ⟨i,rfl,hi,rfl⟩
 refine sq (sq (rT [1,2,4,5,6,14] (s5 (cd rfl (fun c14=> ?_) fun c14=> ?_))))
 · have hi2:i<k.held.length:=by simpa[aH] using c14
   have hg:=aX (l:=k.held) hi2
   refine sk (sq (bk (sq (rT [1,2,4,5,6,24] (s3 (ai (by rw[aXy,hg];exact⟨⟨by omega,by rw[aH];omega⟩,rfl⟩) (s1 (ai (by rw[aXy,hg];exact⟨aX0 rfl,rfl⟩) (s2 (cd rfl (fun c24=> ?_) fun c24=> ?_))))))))))
   · rw[aXy,hg] at c24
     have hp: (fun n:bI=>decide (t<n.til)) (k.held.getD i .zero)=true:=c24
     have hf:=zN (z:=bI.zero) (p:=fun n=>decide (t<n.til)) hi2 hp
     refine rT [1,2,4,5,6] (s4 (ai (by rw[aXy,hg];exact⟨⟨by omega,by rw[aH];omega⟩,rfl⟩) (ai (by rw[aXy,hg];exact⟨aX0 rfl,rfl⟩) (ai (by exact⟨by simp,aX0 rfl⟩) (ai (by exact⟨by first|trivial|rfl|(simp;done),by first|rfl|(simp;done),by first|(simp;done)|(intro r hr;rw[List.mem_singleton.1 hr];rfl),by(have hm:=(List.length_filter_le (fun n=>decide (t<n.til)) (k.held.take i)));rw[aX4] at hm;simp only[aH,aX1,aX2];show _*48≤_;omega⟩) (s1 (rT [1,2,4,5,6] (s3 (wq [] [] (⟨k.held.length - (i+1),by omega,i+1,rfl,by omega,rfl⟩) ?_)))))))))
     repeat' apply ai
     all_goals first|exact qx|exact aA D.i (by rw[aF (by omega)];omega)|(rw[hf,aXy,hg];exact gc _ _)|(rw[hf];simp[aI,aS];done)|(rw[hf];done)|exact qz
   rw[aXy,hg] at c24
   have hp: (fun n:bI=>decide (t<n.til)) (k.held.getD i .zero)=false:=c24
   have hf:=ey (z:=bI.zero) (p:=fun n=>decide (t<n.til)) hi2 hp
   refine sk (rT [1,2,4,5,6] (s3 (wq [] [] (⟨k.held.length - (i+1),by omega,i+1,rfl,by omega,rfl⟩) ?_)))
   repeat' apply ai
   all_goals first|exact qx|exact aA D.i (by rw[aF (by omega)];omega)|(rw[hf,aXy,hg];exact gc _ _)|(rw[hf];simp[aI,aS];done)|(rw[hf];done)|exact qz
 have hi3:i=k.held.length:=by simp[aH] at c14;omega
 subst hi3
 clear hi
 refine xt (sq (rT [1,2,4,5,7] (ai (by simp) (s1 (sq (sq (rT [1,2,4,5,7,8] (s1 (bk (SW.loopW (n:=k.marks.length) (fun m q=> ∃i:Nat,m=k.marks.length - i∧i≤k.marks.length∧q=[tI 1 t,tP 2 2,tP 4 4,tO 5 9 (aI ((k.held.take k.held.length).filter (fun n=>decide (t<n.til)))).length,tO 7 33 (aS ((k.marks.take i).filter (fun n=>decide (t<n.til)))).length,tI 8 (i:Nat),oB 2 44 [.d (.i k.id),.d (.i k.time),.d (.i k.next),.d (.sl (aI k.held)),.d (.sl (aS k.marks)),.d (.sl (aI k.inbox))],oB 4 44 [.d (.i 0),.d (.i 0),.d (.i 0),.nil,.nil,.nil],oR 9 52 5 (aI ((k.held.take k.held.length).filter (fun n=>decide (t<n.til)))),oR 33 162 3 (aS ((k.marks.take i).filter (fun n=>decide (t<n.til))))]) ?_ ?_))))))))))
 · refine wq (σ':=[tI 1 t,tP 2 2,tP 4 4,tO 5 9 (aI ((k.held.take k.held.length).filter (fun n=>decide (t<n.til)))).length,tO 7 33 (aS ((k.marks.take 0).filter (fun n=>decide (t<n.til)))).length,tI 8 (0:Nat),oB 2 44 [.d (.i k.id),.d (.i k.time),.d (.i k.next),.d (.sl (aI k.held)),.d (.sl (aS k.marks)),.d (.sl (aI k.inbox))],oB 4 44 [.d (.i 0),.d (.i 0),.d (.i 0),.nil,.nil,.nil],oR 9 52 5 (aI ((k.held.take k.held.length).filter (fun n=>decide (t<n.til)))),oR 33 162 3 (aS ((k.marks.take 0).filter (fun n=>decide (t<n.til))))]) [] [] (⟨0,rfl,aX5 _,rfl⟩) ?_
   repeat' apply ai
   all_goals first|exact qx|rfl|(rw[aH];done)|(rw[aR];done)|exact qz
 rintro n s ⟨i,rfl,hi,rfl⟩
 refine sq (sq (rT [1,2,4,5,7,8,38] (s5 (cd rfl (fun c38=> ?_) fun c38=> ?_))))
 · have hi2:i<k.marks.length:=by simpa[aR] using c38
   have hg:=cA (l:=k.marks) hi2
   refine sk (sq (bk (sq (rT [1,2,4,5,7,8,48] (s3 (ai (by rw[aXy,hg];exact⟨⟨by omega,by rw[aR];omega⟩,rfl⟩) (s1 (ai (by rw[aXy,hg];exact⟨aX0 rfl,rfl⟩) (s2 (cd rfl (fun c48=> ?_) fun c48=> ?_))))))))))
   · rw[aXy,hg] at c48
     have hp: (fun n:cD=>decide (t<n.til)) (k.marks.getD i .zero)=true:=c48
     have hf:=zN (z:=cD.zero) (p:=fun n=>decide (t<n.til)) hi2 hp
     refine rT [1,2,4,5,7,8] (s4 (ai (by rw[aXy,hg];exact⟨⟨by omega,by rw[aR];omega⟩,rfl⟩) (ai (by rw[aXy,hg];exact⟨aX0 rfl,rfl⟩) (ai (by exact⟨by simp,aX0 rfl⟩) (ai (by exact⟨by first|trivial|rfl|(simp;done),by first|rfl|(simp;done),by first|(simp;done)|(intro r hr;rw[List.mem_singleton.1 hr];rfl),by(have hm:=(List.length_filter_le (fun n=>decide (t<n.til)) (k.marks.take i)));rw[aX4] at hm;simp only[aR,aX1,aX2];show _*24≤_;omega⟩) (s1 (rT [1,2,4,5,7,8] (s3 (wq [] [] (⟨k.marks.length - (i+1),by omega,i+1,rfl,by omega,rfl⟩) ?_)))))))))
     repeat' apply ai
     all_goals first|exact qx|exact aA D.i (by rw[aF (by omega)];omega)|(rw[hf,aXy,hg];exact gd _ _)|(rw[hf];simp[aI,aS];done)|(rw[hf];done)|exact qz
   rw[aXy,hg] at c48
   have hp: (fun n:cD=>decide (t<n.til)) (k.marks.getD i .zero)=false:=c48
   have hf:=ey (z:=cD.zero) (p:=fun n=>decide (t<n.til)) hi2 hp
   refine sk (rT [1,2,4,5,7,8] (s3 (wq [] [] (⟨k.marks.length - (i+1),by omega,i+1,rfl,by omega,rfl⟩) ?_)))
   repeat' apply ai
   all_goals first|exact qx|exact aA D.i (by rw[aF (by omega)];omega)|(rw[hf,aXy,hg];exact gd _ _)|(rw[hf];simp[aI,aS];done)|(rw[hf];done)|exact qz
 have hi3:i=k.marks.length:=by simp[aR] at c38;omega
 subst hi3
 refine xt (sq (rT [2,4,5,7] (s3 (sq (rT [2,4,7] (s3 (sq (rT [2,4] (s3 (sq (rT [4] (s2 (rt (rq [] [9,33] rfl ?_))))))))))))))
 repeat' apply ai
 all_goals try exact qx
 all_goals(first|with_reducible rfl|(simp[kZ];done))
end Go.Proofs.YtmabaopgkimfmaaGreatDoor
