/- Plain functions, and contracts of the functions that the law reaches. -/
import Derived.Deep.Slices
import Derived.WideShapes
import GoSem.ClaimJoined
import Derived.Shelf.Utf8.RuneCount
import Derived.Shelf.Strconv.Itoa0
import Derived.Shelf.Strconv.Itoa1
import Derived.Shelf.LaysM
import Derived.Shelf.Strconv.Itoa2
import Derived.Shelf.Strconv.Itoa3
import Derived.Shelf.Strings.Search1
import Derived.Shelf.Strings.Search2
import Derived.Shelf.Strings.Search3
import Derived.Shelf.Strings.Cut
import Derived.Shelf.Strings.Count
import Derived.Shelf.Strings.Split
import Derived.Test.YtmabaopgkimfmaaGreatDoorProg
import Derived.Test.YtmabaopgkimfmaaGreatDoorB1
set_option maxHeartbeats 12800000
namespace Go.Ab
open Int renaming toNat_natCast→aVy,tmod→aWe
open List renaming length_append→aVz,length_nil→aV2,length_cons→aV3,length_take→aV4,getD_eq_getElem?_getD→aV6,length_drop→aV7,getElem?_eq_getElem→aV8,getElem?_eq_some_iff→aV9,range→aWb,mem_map→aWc,take_length→aWd,all_eq_true→aWf,mem_singleton→aWg
open Nat renaming le_of_ble_eq_true→aV0,zero_le→aV5,le_refl→aWa,add_mul→aWh
open Bool renaming and_eq_true→aV1
open Go Go.RowKit
set_option linter.unusedVariables false
set_option linter.unusedSimpArgs false
def bz (m:cM):List UInt8:=kE m.frm.toNat++32::(kE m.num.toNat++32::kE m.til.toNat)
theorem uA {m:cM} (h:lC m=true): (0≤m.frm∧m.frm≤3)∧(1≤m.num∧m.num≤99)∧(1≤m.til∧m.til≤999):=by
 simp only[lC,eA,fG,aV1,decide_eq_true_eq] at h
 omega
theorem aE0 {n:bA} (h:fA n=true):lC ⟨n.frm,n.num,n.til⟩=true:=by
 simp only[fA,lC,aV1] at h ⊢
 exact⟨⟨h.1.1.1.1,h.1.1.2⟩,h.1.2⟩
theorem aNo {s:List UInt8} (h: ∀b∈s,b≠32):fS s=false:=by
 unfold fS
 rw[List.any_eq_false]
 intro b hb
 have:=h b hb
 simpa using this
theorem vd {s:List UInt8} (h:fS s=false):Lib.count s [32]=0:=by rw[sN,h];rfl
theorem aTz {a b c:List UInt8} (ha: ∀x∈a,x≠32) (hb: ∀x∈b,x≠32) (hc: ∀x∈c,x≠32):
 dE (a++32::(b++32::c))=[a,b,c]∧mG 3 (a++32::(b++32::c))=[]∧bG (a++32::(b++32::c))=a∧bG (mG 1 (a++32::(b++32::c)))=b∧bG (mG 2 (a++32::(b++32::c)))=c:=by
 obtain⟨a1,a2,a3⟩:=qH (r:=b++32::c) ha
 obtain⟨b1,b2,b3⟩:=qH (r:=c) hb
 have c3:=aNo hc
 obtain⟨_,c1,c2⟩:=(fT c).2 c3
 have hn:Lib.count (a++32::(b++32::c)) [32]=2:=by
  rw[sN,if_pos a3,a2,sN,if_pos b3,b2,vd c3]
 refine⟨?_,?_,a1,?_,?_⟩
 · rw[dE,hn]
   simp only[iN,a1,a2,a3,b1,b2,b3,if_true]
 · simp only[mG,a2,b2,c2]
 · simp only[mG,a2,b1]
 · simp only[mG,a2,b2,c1]
theorem ve {n:Int} (h:0≤n):nl n=kE n.toNat:=if_neg (by omega)
theorem aE1 {m:cM} (h:lC m=true):er m=bz m:=by
 obtain⟨h1,h2,h3⟩:=uA h
 unfold er bz
 rw[ve (by omega),ve (by omega),ve (by omega)]
 simp
theorem aKv {m:cM} (h:lC m=true):iG (dE (bz m))=true∧(dE (bz m)).length=3∧three (dE (bz m))=m∧mG 3 (bz m)=[]∧gS (bz m)=m:=by
 obtain⟨h1,h2,h3⟩:=uA h
 obtain⟨q1,q2,q3,q4,q5⟩:=aTz (vH m.frm.toNat) (vH m.num.toNat) (vH m.til.toNat)
 have e: ∀{x:Int},0≤x→((x.toNat:Nat):Int)=x:=fun h=>by omega
 have w1:jF (kE m.frm.toNat)=some m.frm.toNat:=qI (by omega)
 have w2:jF (kE m.num.toNat)=some m.num.toNat:=qI (by omega)
 have w3:jF (kE m.til.toNat)=some m.til.toNat:=qI (by omega)
 have u1:iU (kE m.frm.toNat)=m.frm:=by rw[iU,w1];exact e (by omega)
 have u2:iU (kE m.num.toNat)=m.num:=by rw[iU,w2];exact e (by omega)
 have u3:iU (kE m.til.toNat)=m.til:=by rw[iU,w3];exact e (by omega)
 have v1:gG (kE m.frm.toNat)=m.frm:=by rw[vI (by omega),e (by omega)]
 have v2:gG (kE m.num.toNat)=m.num:=by rw[vI (by omega),e (by omega)]
 have v3:gG (kE m.til.toNat)=m.til:=by rw[vI (by omega),e (by omega)]
 unfold bz
 refine⟨?_,?_,?_,q2,?_⟩
 · rw[q1];simp[iG,w1,w2,w3]
 · rw[q1];rfl
 · rw[q1];simp[three,u1,u2,u3]
 · unfold gS dN
   have q6:bG (mG 0 (kE m.frm.toNat++32::(kE m.num.toNat++32::kE m.til.toNat)))=kE m.frm.toNat:=q3
   rw[q6,q4,q5,v1,v2,v3]
theorem vf {s:List UInt8} (h:fS s=true):s=bG s++32::aN s:=by
 obtain⟨q1,q2,q3,q4⟩:=(fT s).1 h
 have h3:s[(bG s).length]'q4=32:=by
  have h1:Lib.indexByte s 32=(bG s).length:=q1
  have h2:s.drop (bG s).length=s[(bG s).length]'q4::s.drop ((bG s).length+1):=List.drop_eq_getElem_cons q4
  have h4:s.drop (bG s).length=s.dropWhile (· != 32):=by
   have h5:=List.takeWhile_append_dropWhile (p:=(· != (32:UInt8))) (l:=s)
   have h6:s.take (bG s).length++s.drop (bG s).length=s:=List.take_append_drop _ _
   rw[q2] at h6
   exact List.append_cancel_left (h6.trans h5.symm)
  have h7: ∀l:List UInt8,∀x t,l.dropWhile (· != 32)=x::t→x=32:=by
   intro l
   induction l with
   |nil=>intro x t h;cases h
   |cons y l ih=>
    intro x t h
    by_cases hy:y=32
    · subst hy
      simp at h
      exact h.1.symm
    · rw[List.dropWhile_cons_of_pos (by simpa using hy)] at h
      exact ih x t h
  exact h7 s _ _ (h4.symm.trans h2)
 have h8:s.take (bG s).length++s.drop (bG s).length=s:=List.take_append_drop _ _
 rw[q2,List.drop_eq_getElem_cons q4,h3,q3] at h8
 exact h8.symm
theorem aE2 {s:List UInt8} (h: (dE s).length=3): ∃a b c,dE s=[a,b,c]∧s=a++32::(b++32::c):=by
 have h0:=un _ s rfl
 have hn:Lib.count s [32]=2:=by
  rw[dE] at h;omega
 have h1:fS s=true:=by
  cases hs:fS s with
  |true=>rfl
  |false=>rw[vd hs] at hn;cases hn
 rw[sN,if_pos h1] at hn
 have h2:fS (aN s)=true:=by
  cases hs:fS (aN s) with
  |true=>rfl
  |false=>rw[vd hs] at hn;cases hn
 have hn2:Lib.count s [32]=2:=by rw[sN,if_pos h1];exact hn
 refine⟨bG s,bG (aN s),aN (aN s),?_,?_⟩
 · rw[dE,hn2]
   simp only[iN,h1,h2,if_true]
 · rw[← vf h2,← vf h1]
theorem aKw {s:List UInt8} (h: (iG (dE s)&&(dE s).length==3)=true):s=bz (three (dE s)):=by
 rw[aV1,beq_iff_eq] at h
 obtain⟨a,b,c,hl,hs⟩:=aE2 h.2
 have hk:=h.1
 rw[hl] at hk ⊢
 simp only[iG,List.all_cons,List.all_nil,Bool.and_true,aV1] at hk
 obtain⟨ha,hb,hc⟩:=hk
 obtain⟨x,hx⟩:=Option.isSome_iff_exists.1 ha
 obtain⟨y,hy⟩:=Option.isSome_iff_exists.1 hb
 obtain⟨z,hz⟩:=Option.isSome_iff_exists.1 hc
 unfold bz three
 simp only[List.getD_cons_zero,List.getD_cons_succ,uV hx,uV hy,uV hz,aVy,(uU hx).1,(uU hy).1,(uU hz).1]
 exact hs
theorem gt {l:List bA} (hk:jL l=true) {f m:Int} (hp:0≤aW l f m):fA (l.getD (aW l f m).toNat .zero)=true∧(l.getD (aW l f m).toNat .zero).frm=f∧(l.getD (aW l f m).toNat .zero).num=m∧(aW l f m).toNat<l.length:=by
 rcases gR (mU l f m) l.length 0 with h|⟨k,h,_,h2,h3,_⟩
 · rw[aW,h] at hp;omega
 · have e:aW l f m=k:=h
   rw[e,aVy]
   have h4:=h3
   unfold mU at h4
   simp only[aV1,beq_iff_eq] at h4
   exact⟨sO hk (dH (by omega)),h4.1,h4.2,by omega⟩
theorem wC {l:List cM} (h:nX l=true) {x:cM} (hx:x∈l):lC x=true:=by
 obtain⟨i,hi⟩:=List.mem_iff_getElem?.1 hx
 have hlt:=(aV9.1 hi).1
 have h1:=aWf.1 h i (List.mem_range.2 hlt)
 unfold mF at h1
 rw[aV1] at h1
 have h2:=h1.1
 rw[aV6,hi] at h2
 exact h2
theorem aE3 {k:bO} {m:cM} (hm:lC m=false) {p:cM→Bool}:eG {k with marks:=rN p m k.marks}=false:=by
 cases h:eG {k with marks:=rN p m k.marks} with
 |false=>rfl
 |true=>
  obtain⟨_,⟨_,h2,_⟩,_⟩:=(cH _).1 h
  rw[wC h2 (xO.2 (.inl rfl))] at hm
  cases hm
theorem kb {l:List bA} (hk:jL l=true) {m:cM} (hm:lC m=false): ¬(0≤aW l m.frm m.num∧(l.getD (aW l m.frm m.num).toNat .zero).til=m.til):=by
 rintro⟨h1,h2⟩
 obtain⟨q1,q2,q3,_⟩:=gt hk h1
 have:=aE0 q1
 rw[q2,q3,h2] at this
 rw[show m=⟨m.frm,m.num,m.til⟩ from rfl,this] at hm
 cases hm
theorem aHg {k:bO} (hk:eG k=true) {w:List UInt8} {m:cM} (hm:lC m=false):oJ k (jO k w m)=(k,false):=by
 obtain⟨_,⟨h1,_,h2⟩,_⟩:=(cH _).1 hk
 unfold jO
 rw[if_neg (by
  intro h
  simp only[aV1,decide_eq_true_eq,beq_iff_eq] at h
  exact kb h1 hm ⟨h.1.2,h.2⟩),if_neg (by
  intro h
  simp only[aV1,decide_eq_true_eq,beq_iff_eq] at h
  exact kb h2 hm ⟨h.1.2,h.2⟩)]
 split
 · exact qM (.inr (aE3 hm))
 · exact qM (.inl rfl)
def kc (k:bO) (w:List UInt8) (m:cM):bO×Bool:=
 if w==oI then(if decide (aW k.held m.frm m.num<0)||(k.held.getD (aW k.held m.frm m.num).toNat .zero).til != m.til then(k,false) else ju k m.frm m.num)
 else if w==nD then(if decide (aW k.inbox m.frm m.num<0)||(k.inbox.getD (aW k.inbox m.frm m.num).toNat .zero).til != m.til then(k,false) else jv k m.frm m.num)
 else if w==iV then(if iT k.marks m.frm m.num≥0 then(k,false) else({k with marks:=nZ k.marks m},true))
 else(k,false)
theorem kd {l:List bA} {m:cM} (h: ¬(0≤aW l m.frm m.num∧(l.getD (aW l m.frm m.num).toNat .zero).til=m.til)): (decide (aW l m.frm m.num<0)||(l.getD (aW l m.frm m.num).toNat .zero).til != m.til)=true:=by
 by_cases h1:aW l m.frm m.num<0
 · simp[h1]
 · have h2: ¬(l.getD (aW l m.frm m.num).toNat .zero).til=m.til:=fun e=>h ⟨by omega,e⟩
   rw[Bool.or_eq_true]
   exact .inr (by simpa only[bne_iff_ne,ne_eq] using h2)
theorem aKx {k:bO} (hk:eG k=true) {w:List UInt8} {m:cM} (hm:lC m=false):oJ k (kc k w m)=(k,false):=by
 obtain⟨_,⟨h1,_,h2⟩,_⟩:=(cH _).1 hk
 unfold kc
 rw[if_pos (kd (kb h1 hm)),if_pos (kd (kb h2 hm))]
 split
 · exact qM (.inl rfl)
 · split
   · exact qM (.inl rfl)
   · split
     · split
       · exact qM (.inl rfl)
       · exact qM (.inr (aE3 hm))
     · exact qM (.inl rfl)
theorem yn {k:bO} (hk:eG k=true) {i:Nat} (hi:i<k.held.length):iT k.marks (k.held.getD i .zero).frm (k.held.getD i .zero).num<0:=by
 obtain⟨_,_,h,_⟩:=(cH _).1 hk
 have h1:=aWf.1 h i (List.mem_range.2 hi)
 unfold tC at h1
 simp only[aV1,decide_eq_true_eq] at h1
 exact h1.2
theorem aKy {k:bO} (hk:eG k=true) (w:List UInt8) (m:cM):jO k w m=kc k w m:=by
 obtain⟨_,⟨h1,_,h2⟩,_⟩:=(cH _).1 hk
 have l1: (oI==nD)=false:=by decide
 have l2: (oI==iV)=false:=by decide
 have l3: (nD==iV)=false:=by decide
 have l4: (nD==oI)=false:=by decide
 have l5: (iV==oI)=false:=by decide
 have l6: (iV==nD)=false:=by decide
 unfold jO kc
 by_cases w1:w=oI
 · subst w1
   rw[if_pos (show(oI==oI)=true by decide)]
   by_cases h:0≤aW k.held m.frm m.num∧(k.held.getD (aW k.held m.frm m.num).toNat .zero).til=m.til
   · obtain⟨q1,q2,q3,q4⟩:=gt h1 h.1
     have hu:=yn hk q4
     rw[q2,q3] at hu
     rw[if_pos (by rw[h.2];simp[h.1]),if_neg (by rw[h.2];simp[h.1]),ju,if_pos h.1,h.2,gr (n:=⟨m.frm,m.num,m.til⟩) hu]
   · rw[if_pos (kd h),if_neg (by
      intro h9
      simp only[aV1,decide_eq_true_eq,beq_iff_eq] at h9
      exact h ⟨h9.1.2,h9.2⟩),if_neg (by rw[l1];simp),if_neg (by rw[l2];simp)]
 · have w1': (w==oI)=false:=by simpa using w1
   rw[if_neg (by rw[w1'];simp),if_neg (show ¬(w==oI)=true by rw[w1'];simp)]
   by_cases w2:w=nD
   · subst w2
     rw[if_pos (show(nD==nD)=true by decide)]
     by_cases h:0≤aW k.inbox m.frm m.num∧(k.inbox.getD (aW k.inbox m.frm m.num).toNat .zero).til=m.til
     · rw[if_pos (by rw[h.2];simp[h.1]),if_neg (by rw[h.2];simp[h.1]),jv,if_pos h.1]
     · rw[if_pos (kd h),if_neg (by
        intro h9
        simp only[aV1,decide_eq_true_eq,beq_iff_eq] at h9
        exact h ⟨h9.1.2,h9.2⟩),if_neg (by rw[l3];simp)]
   · have w2': (w==nD)=false:=by simpa using w2
     rw[if_neg (by rw[w2'];simp),if_neg (show ¬(w==nD)=true by rw[w2'];simp)]
     by_cases w3:w=iV
     · subst w3
       rw[if_pos (show(iV==iV)=true by decide)]
       by_cases h:iT k.marks m.frm m.num<0
       · rw[if_pos (by simp[h]),if_neg (by omega),gr h]
       · rw[if_neg (by simp[h]),if_pos (by omega)]
     · have w3': (w==iV)=false:=by simpa using w3
       rw[if_neg (by rw[w3'];simp),if_neg (show ¬(w==iV)=true by rw[w3'];simp)]
theorem aHh {k:bO} (hk:eG k=true) (w r:List UInt8):
 qJ k (if iG (dE r)&&(dE r).length==3 then jO k w (three (dE r)) else(k,false)) (if !(mG 3 r==[])|| !(r==er (gS r)) then(k,false) else kc k w (gS r)):=by
 by_cases h: ∃m,lC m=true∧r=bz m
 · obtain⟨m,hm,rfl⟩:=h
   obtain⟨q1,q2,q3,q4,q5⟩:=aKv hm
   rw[q3,q4,q5,aE1 hm,q1,q2,if_pos (by decide),if_neg (by simp),aKy hk]
   exact .rfl
 · have hL:oJ k (if iG (dE r)&&(dE r).length==3 then jO k w (three (dE r)) else(k,false))=(k,false):=by
    split
    · rename_i h1
      refine aHg hk ?_
      cases h2:lC (three (dE r)) with
      |false=>rfl
      |true=>exact absurd ⟨_,h2,aKw h1⟩ h
    · exact qM (.inl rfl)
   have hR:oJ k (if !(mG 3 r==[])|| !(r==er (gS r)) then(k,false) else kc k w (gS r))=(k,false):=by
    split
    · exact qM (.inl rfl)
    · rename_i h1
      refine aKx hk ?_
      cases h2:lC (gS r) with
      |false=>rfl
      |true=>
       refine absurd ⟨_,h2,?_⟩ h
       rw[← aE1 h2]
       simp only[Bool.or_eq_true,Bool.not_eq_true',not_or,Bool.not_eq_false,beq_iff_eq] at h1
       exact h1.2
   exact hL.trans hR.symm
theorem np (k:bO) (rec:List UInt8):oY k rec=eH k rec:=by
 unfold oY eH
 by_cases hk:eG k=true
 · rw[if_pos hk,if_pos hk]
   symm
   show qJ k _ _
   obtain⟨⟨_,⟨t0,_⟩,⟨n0,_⟩,_⟩,_⟩:=(cH _).1 hk
   have hS: ∀w r,bG rec=w→aN rec=r→fZ k rec=(if w==jI then(if gG r≤k.time then(k,false) else(kB k (gG r),true))
    else if w==kJ then(if !(dZ r).2||(dZ r).1.frm != k.id||(dZ r).1.num != k.next then(k,false) else mH {k with next:=wrap64 (k.next+1)} (dZ r).1)
    else if w==gD then(if !(dZ r).2||(dZ r).1.frm==k.id then(k,false) else mH k (dZ r).1)
    else if w==kR then(if gG r≤k.next then(k,false) else({k with next:=gG r},true))
    else if w==iP||w==gH then
     (if !(dZ r).2||decide (aW k.held (dZ r).1.frm (dZ r).1.num≥0)||decide (aW k.inbox (dZ r).1.frm (dZ r).1.num≥0) then(k,false)
      else if w==iP then({k with held:=jM k.held (dZ r).1},true) else({k with inbox:=jM k.inbox (dZ r).1},true))
    else if !(mG 3 r==[])|| !(r==er (gS r)) then(k,false) else kc k w (gS r)):=by
    rintro w r rfl rfl;rfl
   have hI: ∀w r,bG rec=w→aN rec=r→gI k rec=(if fS rec then
    if w==jI||w==kR then(if(jF r).isSome then nB k w (iU r) else(k,false))
    else if w==kJ||w==gD||w==iP||w==gH then(if(dZ r).2 then gK k w (dZ r).1 else(k,false))
    else if w==oI||w==nD||w==iV then(if iG (dE r)&&(dE r).length==3 then jO k w (three (dE r)) else(k,false))
    else(k,false)
    else(k,false)):=by
    rintro w r rfl rfl;rfl
   cases hs:fS rec with
   |false=>
    obtain⟨_,_,hr⟩:=(fT rec).2 hs
    rw[hI _ _ rfl rfl,hs,hS _ _ rfl hr]
    have hd:gG []= -1:=rfl
    have hrd:dZ []=(.zero,false):=rfl
    have hl: ([]==er (gS []))=false:=by
     have:er (gS [])≠[]:=by simp[er]
     simpa using this
    rw[hd,hrd,hl]
    refine .no (.inl rfl) (.inl ?_)
    rw[if_pos (show(-1:Int)≤k.time by omega),if_pos (show(-1:Int)≤k.next by omega)]
    simp
   |true=>
    rw[hI _ _ rfl rfl,hs,hS _ _ rfl rfl,if_pos rfl]
    generalize aN rec=r
    generalize bG rec=w
    by_cases e1:w=jI
    · subst e1;exact aHd hk r
    by_cases e2:w=kR
    · subst e2;exact aHe hk r
    by_cases e3:w=kJ
    · subst e3;exact aKu (dZ r)
    by_cases e4:w=gD
    · subst e4;exact aEz (dZ r)
    by_cases e5:w=iP∨w=gH
    · have hx:=aHf (k:=k) w e5 (dZ r)
      rcases e5 with rfl|rfl<;>exact hx
    have b1: (w==jI)=false:=by simpa using e1
    have b2: (w==kR)=false:=by simpa using e2
    have b3: (w==kJ)=false:=by simpa using e3
    have b4: (w==gD)=false:=by simpa using e4
    have b5: (w==iP)=false:=by simpa using fun h=>e5 (.inl h)
    have b6: (w==gH)=false:=by simpa using fun h=>e5 (.inr h)
    rw[b1,b2,b3,b4,b5,b6]
    show qJ k (if w==oI||w==nD||w==iV then _ else(k,false)) (if !(mG 3 r==[])|| !(r==er (gS r)) then(k,false) else kc k w (gS r))
    cases h7: (w==oI||w==nD||w==iV) with
    |true=>exact aHh hk w r
    |false=>
     simp only[Bool.or_eq_false_iff] at h7
     refine .no (.inl rfl) (.inl ?_)
     split
     · rfl
     · unfold kc
       rw[h7.1.1,h7.1.2,h7.2];rfl
 · rw[if_neg hk,if_neg hk]
structure gC where
 num:Int
 data:List UInt8
 deriving DecidableEq
structure dT where
 frm:Int
 num:Int
 to:Int
 til:Int
 size:Int
 got:List gC
 deriving DecidableEq
structure aJ where
 id:Int
 up:Bool
 log:List UInt8
 forced:Int
 halves:List dT
 deriving DecidableEq
def gC.row (m:gC):List D:=[.i m.num,.s m.data]
def cC (l:List gC):List (List D):=l.map gC.row
def dT.row (h:dT):List D:=[.i h.frm,.i h.num,.i h.to,.i h.til,.i h.size,.sl (cC h.got)]
def bC (l:List dT):List (List D):=l.map dT.row
abbrev gC.V (m:gC):V:= .e (.agg [.d (.i m.num),.d (.s m.data)])
abbrev dT.V (h:dT):V:= .e (.agg [.d (.i h.frm),.d (.i h.num),.d (.i h.to),.d (.i h.til),.d (.i h.size),.d (.sl (cC h.got))])
abbrev aJ.V (k:aJ):V:= .e (.agg [.d (.i k.id),.d (.b k.up),.d (.s k.log),.d (.i k.forced),.d (.sl (bC k.halves))])
def gC.zero:gC:=⟨0,[]⟩
def dT.zero:dT:=⟨0,0,0,0,0,[]⟩
def aJ.zero:aJ:=⟨0,false,[],0,[]⟩
theorem bI (l:List gC): (cC l).length=l.length:=by simp[cC]
theorem aK (l:List dT): (bC l).length=l.length:=by simp[bC]
theorem uB (l:List gC): ∀r∈cC l,r.length=2:=by
 intro r hr
 obtain⟨b,_,rfl⟩:=aWc.1 hr
 rfl
theorem wW (l:List dT): ∀r∈bC l,r.length=6:=by
 intro r hr
 obtain⟨b,_,rfl⟩:=aWc.1 hr
 rfl
theorem lR {l:List gC} {i:Nat} (h:i<l.length): (cC l).getD i []=(l.getD i .zero).row:=by
 rw[aV6,aV6]
 simp[cC,h]
theorem gT {l:List dT} {i:Nat} (h:i<l.length): (bC l).getD i []=(l.getD i .zero).row:=by
 rw[aV6,aV6]
 simp[bC,h]
theorem uC (l:List gC) (x:gC):cC l++[x.row]=cC (l++[x]):=by simp[cC]
theorem oS (l:List dT) (x:dT):bC l++[x.row]=bC (l++[x]):=by simp[bC]
theorem aE4 (l:List gC) (a b:Nat): ∀r∈((cC l).take a).drop b,r.length=2:=fun r hr=>uB l r (List.mem_of_mem_take (List.mem_of_mem_drop hr))
theorem ke (l:List dT) (a b:Nat): ∀r∈((bC l).take a).drop b,r.length=6:=fun r hr=>wW l r (List.mem_of_mem_take (List.mem_of_mem_drop hr))
def wD (m:gC):Bool:=fG m.num 0 999&&decide ((m.data.length:Int)=4)
def oA (l:List gC) (i:Nat):Bool:=wD (l.getD i .zero)&&(aWb i).all fun j=> !((l.getD j .zero).num==(l.getD i .zero).num)
def qN (h:dT):Bool:=eA h.frm&&eA h.to&&fG h.num 1 99&&fG h.til 1 999&&fG h.size 1 24&&decide ((h.got.length:Int)≤14)
def lS (h:dT):Bool:=qN h&&(aWb h.got.length).all (oA h.got)
def hP (l:List dT) (f n:Int) (i:Nat):Bool:=(l.getD i .zero).frm==f&&(l.getD i .zero).num==n
def gM (l:List dT) (f n:Int):Int:=kP (hP l f n) 0 l.length
def hG (l:List dT) (i:Nat):Bool:=lS (l.getD i .zero)&&(aWb i).all fun j=> !hP l (l.getD i .zero).frm (l.getD i .zero).num j
def jG (k:aJ):Bool:=eA k.id&&eJ k.log k.forced&&decide ((k.halves.length:Int)≤3)&&(k.up||decide (k.halves.length=0))
def bB (k:aJ):bO×Bool:=gL k.id (cG k.log).1
def gu (k:aJ):bO×Bool:=gL k.id (cG (k.log.take k.forced.toNat)).1
def aZ (k:aJ):Bool:=jG k&&(bB k).2&&(gu k).2&&(aWb k.halves.length).all (hG k.halves)
theorem mS {l:List UInt8} {f:Int} (h:eJ l f=true):l.length≤2400∧(0≤f∧f≤l.length)∧(cG l).2=l.length∧((cG (l.take f.toNat)).2:Int)=f:=by
 simp only[eJ,fG,aV1,decide_eq_true_eq] at h
 exact⟨h.1.1.1,h.1.1.2,h.1.2,h.2⟩
theorem aKz {s r:List UInt8} {n:Nat} (h:jH s=some (r,n)):r.length≤s.length:=by
 unfold jH at h
 split at h
 · cases h
 · split at h
   · cases h
   · split at h
     · cases h
       rw[aV7,aV4];omega
     · cases h
theorem ez: ∀(k:Nat) (s:List UInt8),s.length≤k→ ∀x∈(cG s).1,x.length≤s.length
 |0,s,h,x,hx=>by
  obtain rfl:s=[]:=List.eq_nil_of_length_eq_zero (by omega)
  rw[iE uS] at hx;cases hx
 |k+1,s,h,x,hx=>by
  cases hr:jH s with
  |none=>rw[iE hr] at hx;cases hx
  |some p=>
   obtain⟨r,n⟩:=p
   have h1:=rM hr
   rw[qG hr] at hx
   rcases List.mem_cons.1 hx with rfl|hx
   · exact aKz hr
   · have:=ez k (s.drop n) (by rw[aV7];omega) x hx
     rw[aV7] at this;omega
theorem nK (s:List UInt8) (h:s.length≤900000): (cG s).1.length≤900000∧ ∀x∈(cG s).1,x.length≤900000:=
 ⟨by have:=(yW s.length s (aWa _)).2;omega,fun x hx=>by have:=ez s.length s (aWa _) x hx;omega⟩
theorem lE {h:dT} (hh:qN h=true):eA h.frm=true∧eA h.to=true∧(1≤h.num∧h.num≤99)∧(1≤h.til∧h.til≤999)∧(1≤h.size∧h.size≤24)∧h.got.length≤14:=by
 simp only[qN,fG,aV1,decide_eq_true_eq] at hh
 obtain⟨⟨⟨⟨⟨h1,h2⟩,h3⟩,h4⟩,h5⟩,h6⟩:=hh
 exact⟨h1,h2,h3,h4,h5,by omega⟩
theorem fX {k:aJ} (h:jG k=true):eA k.id=true∧eJ k.log k.forced=true∧k.halves.length≤3∧(k.up=true∨k.halves.length=0):=by
 simp only[jG,aV1,Bool.or_eq_true,decide_eq_true_eq] at h
 obtain⟨⟨⟨h1,h2⟩,h3⟩,h4⟩:=h
 exact⟨h1,h2,by omega,h4⟩
theorem qj {l:List gC} {i:Nat} (h1:wD (l.getD i .zero)=true) (h2: ∀j,j<i→((l.getD j .zero).num==(l.getD i .zero).num)=false):oA l i=true:=by
 unfold oA
 rw[h1,Bool.true_and]
 exact iD fun j hj=>by rw[h2 j hj];rfl
theorem qk {l:List gC} {i:Nat} (h1:wD (l.getD i .zero)=false):oA l i=false:=by
 unfold oA;rw[h1];rfl
theorem vg {l:List gC} {i j:Nat} (hj:j<i) (h2: ((l.getD j .zero).num==(l.getD i .zero).num)=true):oA l i=false:=by
 unfold oA
 rw[fK hj (by rw[h2];rfl),Bool.and_false]
theorem aCq {l:List dT} {i:Nat} (h1:lS (l.getD i .zero)=true) (h2: ∀j,j<i→hP l (l.getD i .zero).frm (l.getD i .zero).num j=false):hG l i=true:=by
 unfold hG
 rw[h1,Bool.true_and]
 exact iD fun j hj=>by rw[h2 j hj];rfl
theorem aCr {l:List dT} {i:Nat} (h1:lS (l.getD i .zero)=false):hG l i=false:=by
 unfold hG;rw[h1];rfl
theorem aE5 {l:List dT} {i j:Nat} (hj:j<i) (h2:hP l (l.getD i .zero).frm (l.getD i .zero).num j=true):hG l i=false:=by
 unfold hG
 rw[fK hj (by rw[h2];rfl),Bool.and_false]
theorem aK0 (l:List dT) (f m:Int): -1≤gM l f m∧gM l f m<l.length:=by
 rcases gR (hP l f m) l.length 0 with h|⟨k,h,_,h2,_⟩<;>rw[gM,h]<;>omega
theorem aHi {l:List dT} {i:Nat} (hi:i<l.length): (decide (gM l (l.getD i .zero).frm (l.getD i .zero).num< (i:Int)))= !((aWb i).all fun j=> !hP l (l.getD i .zero).frm (l.getD i .zero).num j):=by
 have hself:hP l (l.getD i .zero).frm (l.getD i .zero).num i=true:=by simp[hP]
 by_cases h: ∃j,j<i∧hP l (l.getD i .zero).frm (l.getD i .zero).num j=true
 · obtain⟨j,hj,hji⟩:=h
   rw[fK hj (by rw[hji];rfl)]
   rcases gR (hP l (l.getD i .zero).frm (l.getD i .zero).num) l.length 0 with h1|⟨k,h1,_,h2,h3,h4⟩
   · exact decide_eq_true (by rw[gM,h1];omega)
   · refine decide_eq_true ?_
     rw[gM,h1]
     by_cases hk:k<i
     · omega
     · have:=h4 j (aV5 _) (by omega)
       rw[hji] at this;cases this
 · have h0: ∀j,j<i→hP l (l.getD i .zero).frm (l.getD i .zero).num j=false:=fun j hj=>by
    cases hh:hP l (l.getD i .zero).frm (l.getD i .zero).num j with
    |false=>rfl
    |true=>exact absurd ⟨j,hj,hh⟩ h
   rw[iD (fun j hj=>by rw[h0 j hj];rfl),gM,lM (aV5 _) (by omega) (fun j _ hj=>h0 j hj) hself]
   simp
theorem aR9 (a b:Int):decide (a>b)= !decide (a≤b):=by
 by_cases h:a≤b
 · simp[h,Int.not_lt.2 h]
 · simp[h,Int.not_le.1 h]
theorem mixC {a:Bool} {n:Int} (h: (!a||n != 4)=true): (!a|| !decide (n=4))=true:=by
 have e: (n != 4)= !decide (n=4):=by by_cases h:n=4<;>simp[h]
 rw[← e];exact h
theorem aVr {a:Bool} {n:Int} (h: (!a||n != 4)=false): (a&&decide (n=4))=true:=by
 have e: (n != 4)= !decide (n=4):=by by_cases h:n=4<;>simp[h]
 rw[e] at h
 cases a<;>simp_all
theorem kf {l:List dT} {i:Nat} {c:Bool} (hi:i<l.length) (h: (!lS (l.getD i .zero)||decide (gM l (l.getD i .zero).frm (l.getD i .zero).num< (i:Int)))=c):hG l i= !c:=by
 subst h
 rw[aHi hi,hG,Bool.not_or,Bool.not_not,Bool.not_not]
theorem wX {k:aJ} (h:jG k=false):aZ k=false:=by rw[aZ,h];rfl
theorem ql {k:aJ} {a b:Bool} (h: (!a|| !b)=true) (h2: ((bB k).2=a∧(gu k).2=b)∨((bB k).2=b∧(gu k).2=a)):aZ k=false:=by
 unfold aZ
 rcases h2 with⟨h1,h2⟩|⟨h1,h2⟩<;>rw[h1,h2]<;>cases a<;>cases b<;>simp_all
theorem kh {k:aJ} {a b:Bool} (hh:jG k=true) (h: (!a|| !b)=false) (h2: ((bB k).2=a∧(gu k).2=b)∨((bB k).2=b∧(gu k).2=a)):aZ k=(aWb k.halves.length).all (hG k.halves):=by
 unfold aZ
 rcases h2 with⟨h1,h2⟩|⟨h1,h2⟩<;>rw[h1,h2,hh]<;>cases a<;>cases b<;>simp_all
theorem ki {h:dT} {c:Bool} (hh: (!eA h.frm|| !eA h.to|| !fG h.num 1 99|| !fG h.til 1 999|| !fG h.size 1 24||decide (((cC h.got).length:Int)>14))=c):qN h= !c:=by
 subst hh
 rw[bI,aR9]
 unfold qN
 simp only[Bool.not_or,Bool.not_not]
theorem zH {k:aJ} {c:Bool} (hh: (!eA k.id|| !eJ k.log k.forced||decide (((bC k.halves).length:Int)>3)||(!k.up&&decide (((bC k.halves).length:Int)>0)))=c):jG k= !c:=by
 subst hh
 have e:decide ((k.halves.length:Int)>0)= !decide (k.halves.length=0):=by
  by_cases h:k.halves.length=0
  · rw[h];rfl
  · rw[decide_eq_true (show(k.halves.length:Int)>0 by omega),decide_eq_false h];rfl
 rw[aK,aR9,e]
 unfold jG
 simp only[Bool.not_or,Bool.not_not,Bool.not_and]
theorem vh {l:List UInt8} {f:Int} (h: (decide ((l.length:Int)>2400)|| !fG f 0 l.length)=true):eJ l f=false:=by
 unfold eJ
 rcases Bool.or_eq_true _ _▸h with h|h
 · rw[decide_eq_false (show ¬l.length≤2400 by have:=of_decide_eq_true h;omega)];rfl
 · rw[Bool.not_eq_true'] at h
   rw[h];simp
theorem qm {l:List UInt8} {f:Int} (h: (decide ((l.length:Int)>2400)|| !fG f 0 l.length)=false): (l.length≤2400∧0≤f∧f≤l.length)∧eJ l f=(((cG l).2:Int)==(l.length:Int)&&((cG (l.take f.toNat)).2:Int)==f):=by
 rw[Bool.or_eq_false_iff] at h
 have h1:l.length≤2400:=by have:=of_decide_eq_false h.1;omega
 have h2:fG f 0 l.length=true:=by simpa using h.2
 have h3:0≤f∧f≤l.length:=by simpa[fG] using h2
 refine⟨⟨h1,h3⟩,?_⟩
 unfold eJ
 rw[decide_eq_true h1,h2,Bool.true_and,Bool.true_and]
 congr 1
 by_cases e: (cG l).2=l.length
 · rw[e];simp
 · rw[decide_eq_false e]
   symm
   rw[beq_eq_false_iff_ne]
   omega
def aJ.row (k:aJ):List D:=[.i k.id,.b k.up,.s k.log,.i k.forced,.sl (bC k.halves)]
def fO (l:List UInt8) (f:Int):List UInt8×Int:=if eJ l f then(l,l.length) else([],0)
def kK (l:List UInt8) (f keep:Int):Int:=f+(if 0<min keep (l.length - f) then min keep (l.length - f) else 0)
def sh (l:List UInt8) (f keep:Int):Nat:=(cG (l.take (kK l f keep).toNat)).2
def jU (l:List UInt8) (f keep:Int):List UInt8×Int:=if eJ l f then(l.take (sh l f keep),sh l f keep) else([],0)
def kC (rec:List UInt8):List UInt8:=kE rec.length++[58]++rec++[59]
def wE (rec:List UInt8):Bool:=fG rec.length 1 60
def bT (l:List UInt8) (f:Int) (rec:List UInt8): (List UInt8×Int)×Bool:=
 if eJ l f then(if wE rec&&decide (l.length+(kC rec).length≤2400) then((l++kC rec,f),true) else((l,f),false)) else(([],0),false)
def iI (recs:List (List UInt8)):List UInt8:=(recs.map kC).flatten
def eR (l:List UInt8) (f:Int) (recs:List (List UInt8)): (List UInt8×Int)×Bool:=
 if eJ l f then(if recs.all wE&&decide ((iI recs).length≤2400) then((iI recs,(iI recs).length),true) else((l,f),false)) else(([],0),false)
theorem aCs {l:List UInt8} {f keep:Int} (h:0≤f∧f≤l.length):f≤kK l f keep∧kK l f keep≤l.length:=by
 unfold kK
 split<;>omega
theorem aHj (l:List UInt8) (f keep:Int):sh l f keep≤l.length:=by
 have:=(yW _ (l.take (kK l f keep).toNat) (aWa _)).1
 rw[aV4] at this
 unfold sh;omega
theorem sP {rec:List UInt8} (h:rec.length≤900000): (kC rec).length≤rec.length+8:=by
 have h2:=cL (k:=5) (n:=rec.length) (by simp;omega)
 simp only[kC,aVz,aV3,aV2];omega
theorem aCt (recs:List (List UInt8)) (r:List UInt8):iI (recs++[r])=iI recs++kC r:=by simp[iI]
def nL (k:aJ) (keep:Int):aJ:=if aZ k then⟨k.id,false,(jU k.log k.forced keep).1,(jU k.log k.forced keep).2,[]⟩ else .zero
def jX (k:aJ):aJ:=if aZ k then{k with up:=true} else .zero
def lF (k:aJ):aJ:={k with log:=(fO k.log k.forced).1,forced:=(fO k.log k.forced).2}
def eI (k:aJ):aJ×Bool:=if aZ k then(if !k.up||k.forced==k.log.length then(k,false) else(lF k,true)) else(.zero,false)
def eE (k:aJ):bO:=if aZ k then(bB k).1 else .zero
theorem fP {k:aJ} (h:aZ k=true):jG k=true∧k.log.length≤2400∧(0≤k.forced∧k.forced≤k.log.length)∧k.halves.length≤3∧(k.up=true∨k.halves=[])∧ ∀x∈k.halves,x.got.length≤14:=by
 have h1:jG k=true:=by
  cases hh:jG k with
  |true=>rfl
  |false=>rw[wX hh] at h;cases h
 obtain⟨_,q1,q2,q3⟩:=fX h1
 obtain⟨q4,q5,_,_⟩:=mS q1
 refine⟨h1,q4,q5,q2,q3.imp (fun h=>h) (fun h=>List.eq_nil_of_length_eq_zero h),fun x hx=> ?_⟩
 unfold aZ at h
 rw[aV1] at h
 obtain⟨i,hi⟩:=List.mem_iff_getElem?.1 hx
 have hlt:=(aV9.1 hi).1
 have h2:=aWf.1 h.2 i (List.mem_range.2 hlt)
 unfold hG at h2
 rw[aV1] at h2
 have h3:=h2.1
 rw[aV6,hi] at h3
 have h3:lS x=true:=h3
 unfold lS at h3
 rw[aV1] at h3
 exact(lE h3.1).2.2.2.2.2
def iq (k:aJ):Prop:=k.log.length≤2400∧k.halves.length≤4∧ ∀x∈k.halves,x.got.length≤15
theorem aK1 {k:aJ} (h:aZ k=true) (hu:k.up=false):jX k=⟨k.id,true,k.log,k.forced,[]⟩:=by
 obtain⟨_,_,_,_,h4,_⟩:=fP h
 have h5:k.halves=[]:=by
  rcases h4 with h4|h4
  · rw[hu] at h4;cases h4
  · exact h4
 rw[jX,if_pos h,← h5]
def oT (b:Int):Nat→Int
 |0=>0
 |d+1=>oT b d+gZ b ((d+1:Nat):Int)
def ca (b n:Int):Int:=aWe (wrap64 (Int.tdiv (cR (cR (wrap64 (wrap64 (n*31)+b)))) 16)) (oT b b.toNat)
def zI (b:Int) (r:Int):Nat→Nat→Int
 |0,_=>b
 |f+1,d=>if(d:Int)<b then(if r<oT b d then d else zI b r f (d+1)) else b
def hO (b n:Int):Int:=if mD b n then(if n<b then 1 else zI b (ca b n) 6 1) else 0
theorem nM {b:Int} (hb:1≤b∧b≤6): ∀{d:Nat},(d:Int)≤6→0≤oT b d∧oT b d≤70*d∧(1≤d→10≤oT b d)
 |0,_=>by simp[oT]
 |d+1,h=>by
  have ih:=nM hb (d:=d) (by omega)
  have hw:=nJ (b:=b) (d:=((d+1:Nat):Int)) hb (by omega)
  unfold oT
  refine⟨by omega,by omega,fun _=> ?_⟩
  by_cases h0:d=0
  · subst h0
    have:=hw.2.2 rfl
    omega
  · have:=ih.2.2 (by omega);omega
theorem vi {b r:Int} (hb:1≤b): ∀(f d:Nat),1≤d→1≤zI b r f d∧zI b r f d≤b
 |0,d,h=>by unfold zI;omega
 |f+1,d,h=>by
  unfold zI
  split
  · split
    · omega
    · exact vi hb f (d+1) (by omega)
  · omega
theorem mJ {b n:Int} (h:mD b n=true):1≤hO b n∧hO b n≤b:=by
 obtain⟨hb,_⟩:=rL h
 unfold hO
 rw[if_pos h]
 split
 · omega
 · exact vi hb.1 6 1 (aWa _)
theorem aNp {b r:Int} {f d:Nat} (hd: (d:Int)<b) (h:r<oT b d):zI b r (f+1) d=d:=by
 unfold zI;rw[if_pos hd,if_pos h]
theorem aK2 {b r:Int} {f d:Nat} (hd: (d:Int)<b) (h: ¬r<oT b d):zI b r (f+1) d=zI b r f (d+1):=by
 conv=>lhs;unfold zI
 rw[if_pos hd,if_neg h]
theorem cc {b r:Int} {f d:Nat} (hd: ¬(d:Int)<b):zI b r f d=b:=by
 cases f with
 |zero=>rfl
 |succ f=>unfold zI;rw[if_neg hd]
def pQ (u:List Bool) (b:Int):Nat→Int→Int
 |0,a=>a
 |f+1,a=>if u.getD a.toNat false then pQ u b f (aWe (wrap64 (a+1)) b) else a
def uD (b x:Int) (u:List Bool):List Bool:=u.set (pQ u b 6 (aWe (wrap64 (Int.tdiv (cR x) 16)) b)).toNat true
def kj (b:Int):Nat→Int→List Bool→List Bool
 |0,_,u=>u
 |k+1,x,u=>kj b k (cR x) (uD b x u)
def oL (b n:Int):List Bool:=kj b (hO b n).toNat (cR (wrap64 (wrap64 (n*7)+1))) (List.replicate 6 false)
def aNq (u:List Bool):List Int:=((aWb u.length).filter fun i=>u.getD i false).map fun(i:Nat)=>((i:Nat):Int)
def bK (b n:Int):List Int:=if mD b n then(if n<b then [n] else aNq (oL b n)) else []
theorem xQ {u:List Bool} {b a:Int} {f:Nat} (h:u.getD a.toNat false=false):pQ u b f a=a:=by
 cases f with
 |zero=>rfl
 |succ f=>unfold pQ;rw[h];rfl
theorem zJ {u:List Bool} {b a:Int} {f:Nat} (h:u.getD a.toNat false=true):pQ u b (f+1) a=pQ u b f (aWe (wrap64 (a+1)) b):=by
 conv=>lhs;unfold pQ
 rw[if_pos h]
theorem vj {u:List Bool} {b:Int} (hb:1≤b∧b≤6) {f:Int} (hf:0≤f∧f<b) (hfree:u.getD f.toNat false=false): ∀(g:Nat) (a:Int),0≤a∧a<b→((f+b - a) % b).toNat≤g→
 (0≤pQ u b g a∧pQ u b g a<b)∧u.getD (pQ u b g a).toNat false=false
 |0,a,ha,hg=>by
  have e:a=f:=by
   by_cases h:a<f
   · have: (f+b - a) % b=f - a:=by
      rw[show f+b - a=(f - a)+b by omega,Int.add_emod_right,Int.emod_eq_of_lt (by omega) (by omega)]
     omega
   · by_cases h2:a=f
     · exact h2
     · have: (f+b - a) % b=f+b - a:=Int.emod_eq_of_lt (by omega) (by omega)
       omega
  subst e
  exact⟨ha,hfree⟩
 |g+1,a,ha,hg=>by
  cases hu:u.getD a.toNat false with
  |false=>rw[xQ hu];exact⟨ha,hu⟩
  |true=>
   have hne:a≠f:=fun e=>by subst e;rw[hfree] at hu;cases hu
   obtain⟨q1,q2⟩:=aCi hb hf ha hne
   rw[zJ hu]
   exact vj hb hf hfree g _ q2 (by omega)
theorem nq {b x:Int} (hb:1≤b∧b≤6):0≤aWe (wrap64 (Int.tdiv (cR x) 16)) b∧aWe (wrap64 (Int.tdiv (cR x) 16)) b<b:=by
 have hr:=bt x
 exact nI (x:=wrap64 (Int.tdiv (cR x) 16)) (n:=b) (by rw[aB (by have:=pJ hr.1 (n:=16) (by omega);omega)];exact(pJ hr.1 (by omega)).1) hb.1
def UOk (b:Int) (u:List Bool):Prop:=u.length=6∧ ∀i:Nat,b≤i→u.getD i false=false
theorem vk {b:Int} {u:List Bool} (hb:1≤b∧b≤6) (h:UOk b u) (hc: (u.count true:Int)<b): ∃f:Int,(0≤f∧f<b)∧u.getD f.toNat false=false:=by
 obtain⟨f,hf1,hf2⟩:=aEk (u:=u.take b.toNat) (by
  have h1: (u.take b.toNat).count true≤u.count true:=(List.take_sublist _ _).count_le _
  rw[aV4,h.1];omega)
 rw[aV4,h.1] at hf1
 refine⟨f,by omega,?_⟩
 rw[xN (by omega)] at hf2
 rw[aVy];exact hf2
theorem kl {b x:Int} {u:List Bool} (hb:1≤b∧b≤6) (h:UOk b u) (hc: (u.count true:Int)<b):UOk b (uD b x u)∧(uD b x u).count true=u.count true+1:=by
 obtain⟨f,hf,hfree⟩:=vk hb h hc
 have ha:=nq (x:=x) hb
 obtain⟨q1,q2⟩:=vj hb hf hfree 6 _ ha (by
  have:=Int.emod_lt_of_pos (f+b - aWe (wrap64 (Int.tdiv (cR x) 16)) b) (show 0<b by omega)
  have:=Int.emod_nonneg (f+b - aWe (wrap64 (Int.tdiv (cR x) 16)) b) (show b≠0 by omega)
  omega)
 refine⟨⟨by rw[uD,List.length_set];exact h.1,fun i hi=> ?_⟩,?_⟩
 · rw[uD,aV6,List.getElem?_set_ne (by omega),← aV6]
   exact h.2 i hi
 · exact aJ8 (by rw[h.1];omega) q2
theorem qO (b:Int):UOk b (List.replicate 6 false)∧(List.replicate 6 false).count true=0:=by
 refine⟨⟨rfl,fun i _=> ?_⟩,rfl⟩
 rw[aV6,List.getElem?_replicate]
 split<;>rfl
def aY (t:List UInt8):List (List UInt8):=if fG t.length 1 24 then(aWb ((t.length+3) / 4)).map fun i=>(aWb 4).map fun j=>t.getD (4*i+j) 0 else []
def km (a b:List UInt8):List UInt8:=(aWb 4).map fun i=>u8 (yA (gY a i) (gY b i))
def sQ (bl:List (List UInt8)):List UInt8→List Int→List UInt8
 |x,[]=>x
 |x,k::ks=>sQ bl (km x (bl.getD k.toNat [])) ks
def kD (t:List UInt8) (n:Int):List UInt8:=
 if aY t=[]∨bK (aY t).length n=[] then [] else sQ (aY t) [0,0,0,0] (bK (aY t).length n)
def oZ (n:Nat):List UInt8:=jI++[32]++kE n
def ko (n:Nat):List UInt8:=kR++[32]++kE n
def sB (w:List UInt8) (m:cM):List UInt8:=w++[32]++kE m.frm.toNat++[32]++kE m.num.toNat++[32]++kE m.til.toNat
def fH (w:List UInt8) (n:bA):List UInt8:=w++[32]++iF n
def aCu (k:bO):List (List UInt8):=
 (if 0<k.time then [oZ k.time.toNat] else [])++(if 1<k.next then [ko k.next.toNat] else [])++k.marks.map (sB iV)++k.held.map (fH iP)++k.inbox.map (fH gH)
def jJ (k:bO):List (List UInt8):=if eG k then aCu k else []
def lT (k:aJ) (s:List UInt8×Int):aJ:={k with log:=s.1,forced:=s.2}
def pT (k:aJ) (rec:List UInt8):aJ×Bool:=
 if(eH (bB k).1 rec).2 then
  if(bT k.log k.forced rec).2 then(lT k (bT k.log k.forced rec).1,true)
  else if(eR k.log k.forced (jJ (bB k).1)).2 then
   if(bT (eR k.log k.forced (jJ (bB k).1)).1.1 (eR k.log k.forced (jJ (bB k).1)).1.2 rec).2 then
    (lT k (bT (eR k.log k.forced (jJ (bB k).1)).1.1 (eR k.log k.forced (jJ (bB k).1)).1.2 rec).1,true)
   else(k,false)
  else(k,false)
 else(k,false)
def iR (k:aJ) (rec:List UInt8):aJ×Bool:=if(pT k rec).2 then(lF (pT k rec).1,true) else(k,false)
def dU (k:aJ):aJ×Bool:=if aZ k then(if k.up then iR k (oZ ((bB k).1.time+1).toNat) else(k,false)) else(.zero,false)
def pA (k:aJ) (to til:Int) (text:List UInt8):bA:=⟨k.id,(bB k).1.next,to,til,text⟩
def dR (k:aJ) (to til:Int) (text:List UInt8):aJ×Int:=
 if aZ k then(if k.up then(if(iR k (fH kJ (pA k to til text))).2 then((iR k (fH kJ (pA k to til text))).1,(bB k).1.next) else(k,0)) else(k,0)) else(.zero,0)
def zK (k:aJ) (f n:Int):List UInt8:=sB nD ⟨f,n,((bB k).1.inbox.getD (aW (bB k).1.inbox f n).toNat .zero).til⟩
def cP (k:aJ) (f n:Int):aJ×bA×Bool:=
 if aZ k then
  (if k.up&&decide (0≤aW (bB k).1.inbox f n) then(if(iR k (zK k f n)).2 then((iR k (zK k f n)).1,(bB k).1.inbox.getD (aW (bB k).1.inbox f n).toNat .zero,true) else(k,.zero,false)) else(k,.zero,false))
 else(.zero,.zero,false)
def cI.zero:cI:=⟨0,0,0,0,0,0,0,0,0,[]⟩
def kr (k:aJ) (n:bA) (mix:Int):cI:=⟨1,k.id,fR k.id n.to,n.frm,n.num,n.to,n.til,n.text.length,mix,kD n.text mix⟩
def aU (k:aJ) (f n mix:Int):cI×Bool:=
 if aZ k&&k.up&&fG mix 0 999&&decide (0≤aW (bB k).1.held f n) then(kr k ((bB k).1.held.getD (aW (bB k).1.held f n).toNat .zero) mix,true) else(.zero,false)
def eC (k:aJ):aJ×Bool:=
 if aZ k then(if k.up&&(eR k.log k.forced (jJ (bB k).1)).2 then(lT k (eR k.log k.forced (jJ (bB k).1)).1,true) else(k,false)) else(.zero,false)
def dF (u:List Bool):List C:=u.map fun b=> .d (.b b)
theorem lG (u:List Bool): (dF u).length=u.length:=by simp[dF]
theorem vl {u:List Bool} {j:Nat} (h:j<u.length): (dF u).getD j .nil= .d (.b (u.getD j false)):=by
 rw[aV6,aV6]
 simp[dF,h]
theorem yo {u:List Bool} {j:Nat} {x:Bool} (h:j<u.length):cX (dF u) j [.d (.b x)]=dF (u.set j x):=by
 unfold cX dF
 rw[List.map_set]
 apply List.ext_getElem?
 intro i
 simp only[aV3,aV2]
 rw[List.getElem?_set]
 by_cases hi:i<j
 · rw[List.append_assoc,List.getElem?_append_left (by simp;omega),List.getElem?_take,if_pos hi,if_neg (by omega)]
 · rw[List.append_assoc,List.getElem?_append_right (by simp;omega)]
   by_cases he:j=i
   · subst he
     simp[h,Nat.min_eq_left (Nat.le_of_lt h)]
   · rw[if_neg he,List.getElem?_append_right (by simp;omega),List.getElem?_drop]
     congr 1
     simp;omega
section
variable {τ σ':St} {rl:List (Nat×Nat)} {bor:List Nat} {r:St}
theorem nr: ∀(u:List Bool),tc τ σ' rl bor (dF u) (dF u)
 | []=>trivial
 |b::u=>⟨rfl,nr u⟩
theorem ec {j:Nat} {ty:TypeId} {cs:List C} {u:List Bool} (h:aR τ (.o (jT rl j))=some (.box ty cs)) (e:cs=dF u) (hr:mL τ σ' rl bor r):mL τ σ' rl bor ((.o j,.box ty (dF u))::r):=by
 subst e;exact aS h (nr u) hr
theorem aBa {s:Nat} {c:C} {y:D} (h:aR τ (.t s)=some (.v (.e (.c c)))) (e:c= .d y) (hr:mL τ σ' rl bor r):mL τ σ' rl bor ((.t s,.v (Dv y))::r):=by
 subst e;exact cJ h rfl hr
theorem sC {s:Nat} {cs:List C} {u:List Bool} (h:aR τ (.t s)=some (.v (.e (.agg cs)))) (e:cs=dF u) (hr:mL τ σ' rl bor r):mL τ σ' rl bor ((.t s,.v (.e (.agg (dF u))))::r):=by
 subst e;exact dB h (nr u) hr
end
section
variable {P:Program} {T:gO} {o:Oper} {σ:St} {x y:Operand} {d ob j:Nat} {t ty:TypeId} {ti:TI} {Rx Ry:List (dG×Option K)} {k:List (dG×Option K)→List (dG×K)→Prop}
theorem aP9 (hT:dM P T) {n e:Nat} {ei:TI} (u:List Bool) (i:Int) (ho:o.op= .index t x y) (hd:o.dst=some d) (ht:T t=some ti) (hk:ti.kind= .arr n e) (he:T e=some ei) (ha:ei.kind.agg=false) (hs:ei.size=1)
 (hx:ev σ x=some (.e (.agg (dF u)),Rx)) (hy:ev σ y=some (I i,Ry)) (hi:0≤i∧i<n) (hn:n=u.length):vT P o (Rx++Ry) [(.t d,.v (B (u.getD i.toNat false)))]:=
 mY hd fun cx σ ι S a w hr hw=>by
  obtain⟨va,ea,la,hva⟩:=(show ER σ ι w S (.agg (dF u)) _ from cZ hx hr.left hw)
  have hY:=cZ hy hr.right hw
  simp only[lJ,ER,CR] at hY
  cases hv2:a.eval y<;>rw[hv2] at hY<;>cases hY
  have hu:=(hT t ti ht).kind
  rw[hk] at hu;simp only[lK] at hu
  rw[lG] at la
  have hlt:i.toNat<va.length:=by omega
  have h1: (dF u)[i.toNat]? =some (.d (.b (u.getD i.toNat false))):=by
   have hlt2:i.toNat<u.length:=by omega
   simp[dF,aV6,hlt2]
  have h2:=hva i.toNat _ va[i.toNat] h1 (by simp[hlt])
  refine⟨va[i.toNat],?_,h2⟩
  have h3: (Go.part e va.toArray i.toNat).run P w= .ok va[i.toNat] w:=by
   unfold Go.part
   rw[Sem.run_bind,pF (hT e ei he),Result.andThen_ok,ha]
   simp[hlt]
  simp[execOp,ho,ea,hv2,Instr.index,asIntOf,run_underlying hu,hi.1,hi.2,eV (hT e ei he),hs,h3]
theorem aT0 (hT:dM P T) {n e:Nat} {ei:TI} (u:List Bool) (i:Int) (b:Bool) (ho:o.op= .index t x y) (hd:o.dst=some d) (ht:T t=some ti) (hk:ti.kind= .arr n e) (he:T e=some ei) (ha:ei.kind.agg=false) (hs:ei.size=1)
 (hx:ev σ x=some (.e (.agg (dF u)),Rx)) (hy:ev σ y=some (I i,Ry)) (hi:0≤i∧i<n) (hn:n=u.length) (hb:u.getD i.toNat false=b) (h:k (Rx++Ry) [(.t d,.v (B b))]): ∃R W,vT P o R W∧bV R σ∧k R W:=
 ⟨_,_,hb▸aP9 hT u i ho hd ht hk he ha hs hx hy hi hn,(cU hx).append (cU hy),h⟩
end
def rG (b:Int) (k:Nat):List Int:=(aWb (k+1)).map fun i=>if i=0 then 0 else gZ b ((i:Nat):Int)
theorem lU (b:Int) (k:Nat): (rG b k).length=k+1:=by simp[rG]
theorem vm (b:Int) (k:Nat):rG b (k+1)=rG b k++[gZ b ((k+1:Nat):Int)]:=by
 unfold rG
 rw[List.range_succ,List.map_append];rfl
theorem aHk {b:Int} {k i:Nat} (h1:1≤i) (h2:i≤k): (rG b k).getD i 0=gZ b ((i:Nat):Int):=by
 rw[aV6]
 simp[rG,show i<k+1 by omega,show ¬i=0 by omega]
theorem aE6 {b:Int} {k i:Nat} (h1:1≤i) (h2:i≤k):sd (((bX (rG b k)).getD i []).getD 0 (.i 0))=gZ b ((i:Nat):Int):=by
 rw[eW (by rw[lU];omega),aHk h1 h2];rfl
theorem fa {b d:Int} (h: ¬d=1):wrap64 (Int.tdiv 60 (wrap64 (d*wrap64 (d - 1))))=gZ b d:=by
 rw[gZ,if_neg h]
theorem kt {d:Int} (h:2≤d∧d≤6):wrap64 (d*wrap64 (d - 1))≠0:=by
 rw[aB (n:=d - 1) (by omega)]
 have:d=2∨d=3∨d=4∨d=5∨d=6:=by omega
 rcases this with rfl|rfl|rfl|rfl|rfl<;>(rw[aB (by omega)];omega)
theorem aNs (b:Int):oT b 1=wrap64 (wrap64 (Int.tdiv 60 b)+10):=by simp[oT,gZ]
theorem am {b n:Int} (h:mD b n=true) (hn:n<b):hO b n=1:=by rw[hO,if_pos h,if_pos hn]
theorem fb {b n:Int} (h:mD b n=true) (hn: ¬n<b):hO b n=zI b (ca b n) 6 1:=by rw[hO,if_pos h,if_neg hn]
theorem aBb {b r:Int} {j:Nat} (hj:j+1≤6) (hle: ((j+1:Nat):Int)≤b) (h: ¬r<oT b (j+1)):zI b r (6 - j) (j+1)=zI b r (6 - (j+1)) (j+1+1):=by
 by_cases hb: ((j+1:Nat):Int)<b
 · rw[show 6 - j=(6 - (j+1))+1 by omega,aK2 hb h]
 · rw[cc hb,cc (by omega)]
theorem aBc {b r:Int} {j:Nat} (hj:j+1≤6) (hle: ((j+1:Nat):Int)≤b) (h:r<oT b (j+1)):zI b r (6 - j) (j+1)=((j+1:Nat):Int):=by
 by_cases hb: ((j+1:Nat):Int)<b
 · rw[show 6 - j=(6 - (j+1))+1 by omega,aNp hb h]
 · rw[cc hb];omega
theorem aHl {b n:Int} (hb:1≤b∧b≤6):0≤ca b n∧ca b n<oT b b.toNat:=by
 have h1:=(nM hb (d:=b.toNat) (by omega)).2.2 (by omega)
 have hr:=bt (cR (wrap64 (wrap64 (n*31)+b)))
 exact nI (x:=wrap64 (Int.tdiv (cR (cR (wrap64 (wrap64 (n*31)+b)))) 16)) (by rw[aB (by have:=pJ hr.1 (n:=16) (by omega);omega)];exact(pJ hr.1 (by omega)).1) (by omega)
theorem vn {u:List Bool} {b:Int} (hb:1≤b∧b≤6) {f:Int} (hf:0≤f∧f<b) (hfree:u.getD f.toNat false=false): ∀(g h:Nat) (a:Int),0≤a∧a<b→((f+b - a) % b).toNat≤g→((f+b - a) % b).toNat≤h→pQ u b g a=pQ u b h a
 |g,h,a,ha,hg,hh=>by
  cases hu:u.getD a.toNat false with
  |false=>rw[xQ hu,xQ hu]
  |true=>
   have hne:a≠f:=fun e=>by subst e;rw[hfree] at hu;cases hu
   obtain⟨q1,q2⟩:=aCi hb hf ha hne
   match g,h,hg,hh with
   |0,_,hg,_=>omega
   |_+1,0,_,hh=>omega
   |g+1,h+1,hg,hh=>
    rw[zJ hu,zJ hu]
    exact vn hb hf hfree g h _ q2 (by omega) (by omega)
theorem aE7 {u:List Bool} {b:Int} (hb:1≤b∧b≤6) {f:Int} (hf:0≤f∧f<b) (hfree:u.getD f.toNat false=false) {a:Int} (ha:0≤a∧a<b) (hu:u.getD a.toNat false=true):pQ u b 6 a=pQ u b 6 (aWe (wrap64 (a+1)) b):=by
 have h1:=Int.emod_lt_of_pos (f+b - a) (show 0<b by omega)
 have h2:=Int.emod_nonneg (f+b - a) (show b≠0 by omega)
 rw[vn hb hf hfree 6 7 a ha (by omega) (by omega),zJ hu]
def iJ (u:List Bool) (i:Nat):List Int:=((aWb i).filter fun i=>u.getD i false).map fun(i:Nat)=>((i:Nat):Int)
theorem zL {u:List Bool} {i:Nat} (h:u.getD i false=true):iJ u (i+1)=iJ u i++[(i:Int)]:=by
 unfold iJ
 rw[List.range_succ,List.filter_append,List.map_append,List.filter_cons_of_pos (by exact h)]
 rfl
theorem xR {u:List Bool} {i:Nat} (h:u.getD i false=false):iJ u (i+1)=iJ u i:=by
 unfold iJ
 rw[List.range_succ,List.filter_append,List.map_append,List.filter_cons_of_neg (by rw[h];exact Bool.false_ne_true)]
 exact List.append_nil _
theorem gv {u:List Bool}:iJ u u.length=aNq u:=rfl
theorem qn {u:List Bool} {i:Nat} (h: ∀j,i≤j→u.getD j false=false): ∀{m:Nat},i≤m→iJ u m=iJ u i
 |0,hm=>by rw[Nat.le_zero.1 hm]
 |m+1,hm=>by
  by_cases e:i=m+1
  · rw[e]
  · rw[xR (h m (by omega)),qn h (by omega)]
theorem sD (u:List Bool) (i:Nat): (iJ u i).length≤i:=by
 unfold iJ
 rw[List.length_map]
 exact Nat.le_trans (List.length_filter_le _ _) (by simp)
theorem aHm {u:List Bool} {i:Nat} {x:Int} (h:x∈iJ u i):0≤x∧u.getD x.toNat false=true:=by
 unfold iJ at h
 obtain⟨j,hj,rfl⟩:=aWc.1 h
 have:=(List.mem_filter.1 hj).2
 exact⟨by omega,by rw[aVy];exact this⟩
theorem vM {b n:Int} (h: ¬mD b n=true):bK b n=[]:=if_neg h
theorem nN {b n:Int} (h:mD b n=true) (hn:n<b):bK b n=[n]:=by rw[bK,if_pos h,if_pos hn]
theorem xS {b n:Int} (h:mD b n=true) (hn: ¬n<b):bK b n=aNq (oL b n):=by rw[bK,if_pos h,if_neg hn]
theorem nu {b:Int} (hb:1≤b∧b≤6): ∀(k:Nat) (x:Int) (u:List Bool),UOk b u→((u.count true:Int)+k≤b)→UOk b (kj b k x u)
 |0,x,u,h,_=>h
 |k+1,x,u,h,hc=>by
  obtain⟨h1,h2⟩:=kl (x:=x) hb h (by omega)
  exact nu hb k (cR x) _ h1 (by rw[h2];omega)
theorem nO {b n:Int}: ∀x∈bK b n,0≤x∧x<b:=by
 intro x hx
 by_cases h:mD b n=true
 · obtain⟨hb,hn⟩:=rL h
   by_cases hs:n<b
   · rw[nN h hs] at hx
     simp at hx;omega
   · rw[xS h hs] at hx
     have hu:UOk b (oL b n):=nu hb _ _ _ (qO b).1 (by rw[(qO b).2];have:=mJ h;omega)
     obtain⟨q1,q2⟩:=aHm (i:=(oL b n).length) hx
     refine⟨q1,?_⟩
     by_cases hlt:x<b
     · exact hlt
     · rw[hu.2 x.toNat (by omega)] at q2;cases q2
 · rw[vM h] at hx;cases hx
theorem uE (b n:Int): (bK b n).length≤6:=by
 by_cases h:mD b n=true
 · obtain⟨hb,hn⟩:=rL h
   by_cases hs:n<b
   · rw[nN h hs];simp
   · rw[xS h hs]
     have hu:UOk b (oL b n):=nu hb _ _ _ (qO b).1 (by rw[(qO b).2];have:=mJ h;omega)
     rw[← gv]
     have:=sD (oL b n) (oL b n).length
     have:=hu.1;omega
 · rw[vM h];simp
def tQ (t:List UInt8) (i c:Nat):List UInt8:=(aWb c).map fun j=>t.getD (4*i+j) 0
def nP (t:List UInt8) (k:Nat):List (List UInt8):=(aWb k).map fun i=>tQ t i 4
def vN (a b:List UInt8) (k:Nat):List UInt8:=(aWb k).map fun i=>u8 (yA (gY a i) (gY b i))
theorem zM (t:List UInt8) (i c:Nat):tQ t i (c+1)=tQ t i c++[t.getD (4*i+c) 0]:=by
 unfold tQ;rw[List.range_succ,List.map_append];rfl
theorem gw (t:List UInt8) (k:Nat):nP t (k+1)=nP t k++[tQ t k 4]:=by
 unfold nP;rw[List.range_succ,List.map_append];rfl
theorem vo (a b:List UInt8) (k:Nat):vN a b (k+1)=vN a b k++[u8 (yA (gY a k) (gY b k))]:=by
 unfold vN;rw[List.range_succ,List.map_append];rfl
theorem kS (t:List UInt8) (i c:Nat): (tQ t i c).length=c:=by simp[tQ]
theorem jQ (t:List UInt8) (k:Nat): (nP t k).length=k:=by simp[nP]
theorem lV (a b:List UInt8) (k:Nat): (vN a b k).length=k:=by simp[vN]
theorem rO {t:List UInt8} (h:fG t.length 1 24=true):aY t=nP t ((t.length+3) / 4):=if_pos h
theorem nw {t:List UInt8} (h: ¬fG t.length 1 24=true):aY t=[]:=if_neg h
theorem nQ {t:List UInt8}: (aY t).length≤6∧ ∀x∈aY t,x.length=4:=by
 by_cases h:fG t.length 1 24=true
 · rw[rO h]
   refine⟨?_,fun x hx=> ?_⟩
   · rw[jQ]
     have h1: (1:Int)≤t.length∧(t.length:Int)≤24:=by simpa[fG] using h
     omega
   · obtain⟨i,_,rfl⟩:=aWc.1 hx
     exact kS t i 4
 · rw[nw h];exact⟨by simp,fun x hx=>by cases hx⟩
theorem aNt (t:List UInt8) (i:Nat): ((t.drop (4*i)).take (min (t.drop (4*i)).length 4))++(List.replicate 4 0).drop (min (t.drop (4*i)).length 4)=tQ t i 4:=by
 apply List.ext_getElem?
 intro j
 unfold tQ
 rw[List.getElem?_map]
 by_cases hj:j<4
 · rw[List.getElem?_range hj]
   by_cases h1:j< (t.drop (4*i)).length
   · rw[List.getElem?_append_left (by rw[aV4];omega),List.getElem?_take,if_pos (by omega),List.getElem?_drop]
     rw[aV7] at h1
     simp[show 4*i+j<t.length by omega]
   · rw[List.getElem?_append_right (by rw[aV4];omega),List.getElem?_drop,aV4]
     rw[List.getElem?_replicate,if_pos (by omega)]
     rw[aV7] at h1
     simp[show t.length≤4*i+j by omega]
 · rw[List.getElem?_eq_none (by simp;omega)]
   simp[hj]
theorem aNu (t:List UInt8) (i:Nat): ((aA (t.drop (4*i))).take (min (aA (t.drop (4*i))).length 4))++(List.replicate 4 [D.u 0]).drop (min (aA (t.drop (4*i))).length 4)=aA (tQ t i 4):=by
 rw[← aNt,aP,repB]
 simp only[aA,List.map_append,List.map_take,List.map_drop]
theorem aBd (t:List UInt8) (i:Nat):List.take (min (List.map (fun b:UInt8=>[D.u (b.toNat:Int)]) (List.drop (eK (some ((4*i:Nat):Int))) (List.take (fM none t.length) t))).length (Int.toNat 4)) (List.map (fun b:UInt8=>[D.u (b.toNat:Int)]) (List.drop (eK (some ((4*i:Nat):Int))) (List.take (fM none t.length) t)))++List.drop (min (List.map (fun b:UInt8=>[D.u (b.toNat:Int)]) (List.drop (eK (some ((4*i:Nat):Int))) (List.take (fM none t.length) t))).length (Int.toNat 4)) (List.replicate (Int.toNat 4) [D.u 0])=aA (tQ t i 4):=by
 have e:List.drop (eK (some ((4*i:Nat):Int))) (List.take (fM none t.length) t)=t.drop (4*i):=by
  show List.drop (Int.toNat ((4*i:Nat):Int)) (List.take t.length t)=_
  rw[aVy,aWd]
 rw[e]
 exact aNu t i
theorem aK3 {n:Int} (h:0≤n∧n<256):yA 0 n=n:=by
 rw[aM7 (by omega) h]
 simp;omega
theorem aNv (b:List UInt8) (i:Nat):u8 (gY b i)=b.getD i 0:=by
 have h:=iO b i
 apply UInt8.toNat_inj.1
 have h1:=jl (gY b i)
 unfold iA at h1
 rw[Int.emod_eq_of_lt h.1 h.2] at h1
 have h2:gY b i=((b.getD i 0).toNat:Int):=rfl
 omega
theorem aBe {b:List UInt8} (h:b.length=4):km [0,0,0,0] b=b:=by
 apply List.ext_getElem?
 intro i
 unfold km
 rw[List.getElem?_map]
 by_cases hi:i<4
 · rw[List.getElem?_range hi]
   have e:gY [0,0,0,0] i=0:=by
    have:i=0∨i=1∨i=2∨i=3:=by omega
    rcases this with rfl|rfl|rfl|rfl<;>rfl
   simp only[Option.map_some]
   rw[e,aK3 (iO b i),aNv,aV6,aV8 (by omega)]
   rfl
 · rw[List.getElem?_eq_none (by simp;omega),List.getElem?_eq_none (by omega)];rfl
theorem qo (a b:List UInt8): (km a b).length=4:=by simp[km]
theorem vp (bl:List (List UInt8)): ∀(x:List UInt8) (l:List Int) (k:Int),sQ bl x (l++[k])=km (sQ bl x l) (bl.getD k.toNat [])
 |x,[],k=>rfl
 |x,j::l,k=>vp bl _ l k
def sR (bl:List (List UInt8)) (ks:List Int) (i:Nat):List UInt8:=if i=0 then [] else sQ bl [0,0,0,0] (ks.take i)
theorem gx {bl:List (List UInt8)} {ks:List Int} {i:Nat} (h:i<ks.length) {x:List UInt8}:sQ bl x (ks.take (i+1))=km (sQ bl x (ks.take i)) (bl.getD (ks.getD i 0).toNat []):=by
 rw[fB (z:=0) h,vp]
theorem aE8 {bl:List (List UInt8)} {ks:List Int} (h:0<ks.length) (hb: (bl.getD (ks.getD 0 0).toNat []).length=4):sR bl ks 1=bl.getD (ks.getD 0 0).toNat []:=by
 have h1:sR bl ks 1=sQ bl [0,0,0,0] (ks.take (0+1)):=rfl
 rw[h1,gx h]
 exact aBe hb
theorem aHn {bl:List (List UInt8)} {ks:List Int} {i:Nat} (h0:i≠0) (h:i<ks.length):sR bl ks (i+1)=km (sR bl ks i) (bl.getD (ks.getD i 0).toNat []):=by
 have h1:sR bl ks (i+1)=sQ bl [0,0,0,0] (ks.take (i+1)):=rfl
 rw[h1,gx h,sR,if_neg h0]
theorem uF {bl:List (List UInt8)} {ks:List Int}: ∀{x:List UInt8},x.length=4→(sQ bl x ks).length=4:=by
 induction ks with
 |nil=>intro x h;exact h
 |cons k ks ih=>intro x h;exact ih (qo _ _)
theorem aCv {bl:List (List UInt8)} {ks:List Int} {i:Nat} (h:i≠0): (sR bl ks i).length=4:=by
 rw[sR,if_neg h];exact uF rfl
theorem ku {t:List UInt8} {n:Int} (h:aY t=[]∨bK (aY t).length n=[]):kD t n=[]:=if_pos h
theorem uG {t:List UInt8} {n:Int} (h: ¬(aY t=[]∨bK (aY t).length n=[])):kD t n=sQ (aY t) [0,0,0,0] (bK (aY t).length n):=if_neg h
theorem aHo (n:Int):bK ((([]:List (List UInt8)).length:Nat):Int) n=[]:=vM (by simp[mD,fG])
theorem vt {t:List UInt8} {n:Int}:kD t n=sR (aY t) (bK (aY t).length n) (bK (aY t).length n).length:=by
 by_cases h:bK (aY t).length n=[]
 · rw[ku (.inr h),h];rfl
 · have h2: ¬aY t=[]:=fun e=>h (by rw[e];exact aHo n)
   rw[uG (by rintro(h3|h3);exact h2 h3;exact h h3),sR,if_neg (by rw[List.length_eq_zero_iff];exact h),aWd]
theorem vu (t:List UInt8) (n:Int): (kD t n).length≤4:=by
 rw[vt,sR]
 split
 · simp
 · rw[uF rfl];omega
theorem aNw {t:List UInt8} {n:Int} {i:Nat} (h:i< (bK (aY t).length n).length):0≤(bK (aY t).length n).getD i 0∧(bK (aY t).length n).getD i 0< (aY t).length∧((aY t).getD ((bK (aY t).length n).getD i 0).toNat []).length=4:=by
 have h1:=nO (b:=(aY t).length) (n:=n) ((bK (aY t).length n).getD i 0) (by rw[aV6,aV8 h];exact List.getElem_mem _)
 refine⟨h1.1,h1.2,(nQ (t:=t)).2 _ ?_⟩
 rw[aV6,aV8 (by omega)];exact List.getElem_mem _
theorem getD_none {α:Type} {l:List α} {i:Nat} {z:α} (h:l.length≤i):l.getD i z=z:=by
 rw[aV6,List.getElem?_eq_none h];rfl
theorem aQa {a c:List UInt8} {i:Nat} (h:i<a.length): (vN a c i++a.drop i).getD i 0=a.getD i 0:=by
 rw[aV6,List.getElem?_append_right (by rw[lV];omega),lV,List.getElem?_drop,show i+(i - i)=i by omega,aV6]
theorem aQb {a c:List UInt8} {i:Nat} (h:i<a.length): (aA (vN a c i++a.drop i)).set i (cX [D.u ((a.getD i 0).toNat:Int)] 0 [D.u (yA (toU (([D.u ((a.getD i 0).toNat:Int)]:List D).getD 0 (.i 0))) ((c.getD i 0).toNat:Int))])=aA (vN a c (i+1)++a.drop (i+1)):=by
 show(aA (vN a c i++a.drop i)).set i [D.u (yA ((a.getD i 0).toNat:Int) ((c.getD i 0).toNat:Int))]=_
 have hx: ([D.u (yA ((a.getD i 0).toNat:Int) ((c.getD i 0).toNat:Int))]:List D)=[D.u ((u8 (yA (gY a i) (gY c i))).toNat:Int)]:=by
  rw[jl,← yS];rfl
 rw[hx,aA,← List.map_set (f:=fun b:UInt8=>[D.u (b.toNat:Int)])]
 congr 1
 rw[vo,List.append_assoc]
 apply List.ext_getElem?
 intro j
 have hlen: (vN a c i).length=i:=lV a c i
 by_cases h1:j<i
 · rw[List.getElem?_set_ne (by omega),List.getElem?_append_left (by omega),List.getElem?_append_left (by omega)]
 · by_cases h2:j=i
   · subst h2
     rw[List.getElem?_set_self (by rw[aVz,hlen,aV7];omega),List.getElem?_append_right (by omega),hlen,Nat.sub_self];rfl
   · rw[List.getElem?_set_ne (by omega),List.getElem?_append_right (by omega),List.getElem?_append_right (by omega),hlen,List.getElem?_append_right (by simp;omega),List.getElem?_drop,List.getElem?_drop]
     congr 1
     simp;omega
deriving instance DecidableEq for cI
theorem aK4 {k:bO} {r:List UInt8} (h: (eH k r).2=true):eG (eH k r).1=true:=by
 unfold eH at h ⊢
 split at h
 · rename_i hk
   rw[if_pos hk]
   unfold oJ at h ⊢
   split at h
   · rename_i hx
     rw[if_pos hx]
     simp only[aV1] at hx
     exact hx.2
   · cases h
 · cases h
theorem aBf: ∀{rs:List (List UInt8)} {k:bO},eG k=true→(oK k rs).2=true→eG (oK k rs).1=true
 | [],k,hk,h=>hk
 |r::rs,k,hk,h=>by
  unfold oK at h ⊢
  split at h
  · rename_i hd
    rw[if_pos hd]
    exact aBf (aK4 hd) h
  · cases h
theorem aCw {id:Int} (h:eA id=true):eG (eB id)=true:=by
 simp[eG,eB,h,fG,jL,nX]
theorem aK5 {id:Int} {rs:List (List UInt8)} (h: (gL id rs).2=true):eG (gL id rs).1=true:=by
 unfold gL at h ⊢
 split at h
 · rename_i hn
   rw[if_pos hn]
   exact aBf (aCw hn) h
 · cases h
theorem gU {k:aJ} (h:aZ k=true):eG (bB k).1=true:=by
 unfold aZ at h
 simp only[aV1] at h
 exact aK5 h.1.1.2
theorem kY {k:aJ} (h:aZ k=true):eE k=(bB k).1:=if_pos h
theorem aCx {k:aJ} (h: ¬aZ k=true):eE k= .zero:=if_neg h
theorem uH {k:aJ} {f n mix:Int} (h: ¬(aZ k&&k.up&&fG mix 0 999&&decide (0≤aW (bB k).1.held f n))=true):aU k f n mix=(.zero,false):=if_neg h
theorem wY {k:aJ} {f n mix:Int} (h1:aZ k=true) (h2:k.up=true) (h3:fG mix 0 999=true) (h4:0≤aW (bB k).1.held f n):aU k f n mix=(kr k ((bB k).1.held.getD (aW (bB k).1.held f n).toNat .zero) mix,true):=by
 unfold aU
 rw[if_pos (by rw[h1,h2,h3,decide_eq_true h4];rfl)]
theorem pR {k:aJ} (h:aZ k=true) {f n:Int} (hp:0≤aW (bB k).1.held f n): ∃j:Nat,aW (bB k).1.held f n=j∧j< (bB k).1.held.length∧((bB k).1.held.getD j .zero).text.length≤140737488355328:=by
 obtain⟨j,hj⟩:=Int.eq_ofNat_of_zero_le hp
 have hlt:=(fL (bB k).1.held f n).2
 refine⟨j,hj,by omega,?_⟩
 have h6:=fC (gU h)
 exact h6.2.1 _ (dH (z:=bA.zero) (l:=(bB k).1.held) (i:=j) (by omega))
structure qP where
 frm:Int
 to:Int
 data:List UInt8
 done:Bool
 deriving DecidableEq
def qP.row (p:qP):List D:=[.i p.frm,.i p.to,.s p.data,.b p.done]
abbrev qP.V (p:qP):V:= .e (.agg [.d (.i p.frm),.d (.i p.to),.d (.s p.data),.d (.b p.done)])
def qP.zero:qP:=⟨0,0,[],false⟩
def vv (l:List qP):List (List D):=l.map qP.row
def aF (l:List aJ):List (List D):=l.map aJ.row
structure nx where
 time:Int
 keepers:List aJ
 links:List Bool
 radio:List qP
 sent:List bA
 got:List bA
 deriving DecidableEq
def nx.row (r:nx):List D:=[.i r.time,.sl (aF r.keepers),.sl (aL r.links),.sl (vv r.radio),.sl (aE r.sent),.sl (aE r.got)]
abbrev nx.V (r:nx):V:= .e (.agg [.d (.i r.time),.d (.sl (aF r.keepers)),.d (.sl (aL r.links)),.d (.sl (vv r.radio)),.d (.sl (aE r.sent)),.d (.sl (aE r.got))])
def nx.zero:nx:=⟨0,[],[],[],[],[]⟩
theorem bE (l:List aJ): (aF l).length=l.length:=by simp[aF]
theorem cD {l:List aJ} {i:Nat} (h:i<l.length): (aF l).getD i []=(l.getD i aJ.zero).row:=by
 rw[aV6,aV6]
 simp[aF,h]
theorem aQc (n m:Nat) {j:Int} (e:j=m): ((n:Int) != j)= !(n==m):=by
 subst e
 by_cases h:n=m
 · subst h;simp
 · have h2: ¬(n:Int)=m:=by omega
   rw[beq_eq_false_iff_ne.2 h,bne,beq_eq_false_iff_ne.2 h2]
theorem aCy {l:List UInt8} {f:Int} {rec:List UInt8} (h: ¬eJ l f=true):bT l f rec=(([],0),false):=if_neg h
theorem aE9 {l:List UInt8} {f:Int} {rec:List UInt8} (h:eJ l f=true) (h2: ¬(wE rec=true∧l.length+(kC rec).length≤2400)):bT l f rec=((l,f),false):=by
 unfold bT
 rw[if_pos h,if_neg (by simpa using h2)]
theorem aCz {l:List UInt8} {f:Int} {rec:List UInt8} (h:eJ l f=true) (h2:wE rec=true∧l.length+(kC rec).length≤2400):bT l f rec=((l++kC rec,f),true):=by
 unfold bT
 rw[if_pos h,if_pos (by simpa using h2)]
theorem yp {l:List UInt8} {f:Int} {recs:List (List UInt8)} (h: ¬eJ l f=true):eR l f recs=(([],0),false):=if_neg h
theorem kv {l:List UInt8} {f:Int} {recs:List (List UInt8)} (h:eJ l f=true) (h2: ¬(recs.all wE=true∧(iI recs).length≤2400)):eR l f recs=((l,f),false):=by
 unfold eR
 rw[if_pos h,if_neg (by simpa using h2)]
theorem yq {l:List UInt8} {f:Int} {recs:List (List UInt8)} (h:eJ l f=true) (h2:recs.all wE=true∧(iI recs).length≤2400):eR l f recs=((iI recs,((iI recs).length:Int)),true):=by
 unfold eR
 rw[if_pos h,if_pos (by simpa using h2)]
theorem aC0 {recs:List (List UInt8)} {i:Nat} (h:i<recs.length):iI (recs.take (i+1))=iI (recs.take i)++kC (recs.getD i []):=by
 rw[fB (z:=[]) h,aCt]
theorem aHp (recs:List (List UInt8)) (i:Nat): (iI (recs.take i)).length≤(iI recs).length:=by
 conv=>rhs;rw[← List.take_append_drop i recs]
 unfold iI
 rw[List.map_append,List.flatten_append,aVz]
 omega
theorem fd: ∀{recs:List (List UInt8)},(∀r∈recs,r.length≤900000)→(iI recs).length≤recs.length*900008
 | [],_=>by simp[iI]
 |r::recs,h=>by
  have h1:=sP (h r (List.mem_cons_self ..))
  have h2:=fd (recs:=recs) fun x hx=>h x (List.mem_cons_of_mem _ hx)
  have h3:=h r (List.mem_cons_self ..)
  have e:iI (r::recs)=kC r++iI recs:=by simp[iI]
  rw[e,aVz,aV3]
  omega
theorem aNx {recs:List (List UInt8)} {i:Nat} (h:i<recs.length) (hb:wE (recs.getD i [])=false): ¬recs.all wE=true:=by
 intro h9
 rw[aWf.1 h9 _ (dH h)] at hb
 cases hb
theorem aK6 {recs:List (List UInt8)} (hk: ∀j,j<recs.length→wE (recs.getD j [])=true):recs.all wE=true:=by
 rw[aWf]
 intro x hx
 obtain⟨i,hi⟩:=List.mem_iff_getElem?.1 hx
 have hlt:=(aV9.1 hi).1
 have:=hk i hlt
 rw[aV6,hi] at this
 exact this
theorem aFa {a:Bool} {n m:Nat} {c:Bool} (h: (!a||decide (wrap64 ((n:Int)+(m:Int))>2400))=c) (hn:n≤2400) (hm:m≤1000000): (a=true∧n+m≤2400)↔c=false:=by
 subst h
 rw[aB (by omega)]
 cases a
 · simp
 · simp;omega
def cf (k:bO):List (List UInt8):=if 0<k.time then [oZ k.time.toNat] else []
def cg (k:bO):List (List UInt8):=cf k++(if 1<k.next then [ko k.next.toNat] else [])
def tR (k:bO) (i:Nat):List (List UInt8):=cg k++(k.marks.take i).map (sB iV)
def wF (k:bO) (i:Nat):List (List UInt8):=tR k k.marks.length++(k.held.take i).map (fH iP)
def wG (k:bO) (i:Nat):List (List UInt8):=wF k k.held.length++(k.inbox.take i).map (fH gH)
theorem aK7 {k:bO} (h:k.time>0):cf k=[oZ k.time.toNat]:=if_pos h
theorem aNy {k:bO} (h: ¬k.time>0):cf k=[]:=if_neg h
theorem aK8 {k:bO} (h:k.next>1):cg k=cf k++[ko k.next.toNat]:=by rw[cg,if_pos h]
theorem aNz {k:bO} (h: ¬k.next>1):cg k=cf k:=by rw[cg,if_neg h,List.append_nil]
theorem aHq (k:bO):tR k 0=cg k:=by simp[tR]
theorem aHr (k:bO):wF k 0=tR k k.marks.length:=by simp[wF]
theorem aHs (k:bO):wG k 0=wF k k.held.length:=by simp[wG]
theorem aHt {k:bO} {i:Nat} (h:i<k.marks.length):tR k (i+1)=tR k i++[sB iV (k.marks.getD i .zero)]:=by
 unfold tR
 rw[fB (z:=cM.zero) h,List.map_append,← List.append_assoc];rfl
theorem aHu {k:bO} {i:Nat} (h:i<k.held.length):wF k (i+1)=wF k i++[fH iP (k.held.getD i .zero)]:=by
 unfold wF
 rw[fB (z:=bA.zero) h,List.map_append,← List.append_assoc];rfl
theorem aHv {k:bO} {i:Nat} (h:i<k.inbox.length):wG k (i+1)=wG k i++[fH gH (k.inbox.getD i .zero)]:=by
 unfold wG
 rw[fB (z:=bA.zero) h,List.map_append,← List.append_assoc];rfl
theorem aBg (k:bO):wG k k.inbox.length=aCu k:=by
 unfold wG wF tR cg cf aCu
 rw[aWd,aWd,aWd]
theorem aFb (k:bO): (cg k).length≤2:=by
 unfold cg cf
 split<;>split<;>simp
theorem aFc (k:bO) (i:Nat): (tR k i).length≤2+k.marks.length:=by
 have:=aFb k
 unfold tR
 rw[aVz,List.length_map,aV4];omega
theorem aFd (k:bO) (i:Nat): (wF k i).length≤2+k.marks.length+k.held.length:=by
 have:=aFc k k.marks.length
 unfold wF
 rw[aVz,List.length_map,aV4];omega
theorem aFe (k:bO) (i:Nat): (wG k i).length≤2+k.marks.length+k.held.length+k.inbox.length:=by
 have:=aFd k k.held.length
 unfold wG
 rw[aVz,List.length_map,aV4];omega
theorem kw {k:bO} (h:eG k=true):jJ k=wG k k.inbox.length:=by rw[aBg];exact if_pos h
theorem qp {k:bO} (h: ¬eG k=true):jJ k=[]:=if_neg h
theorem aHw {k:bO} (hk:eG k=true) {i:Nat} (h:i<k.marks.length): (0≤(k.marks.getD i .zero).frm∧(k.marks.getD i .zero).frm≤3)∧(1≤(k.marks.getD i .zero).num∧(k.marks.getD i .zero).num≤99)∧(1≤(k.marks.getD i .zero).til∧(k.marks.getD i .zero).til≤999):=by
 obtain⟨_,⟨_,h5,_⟩,_⟩:=(cH k).1 hk
 exact uA (wC h5 (dH h))
theorem rP (n:bA): (iF n).length≤60:=by
 by_cases h:fA n=true
 · obtain⟨p1,p2,p3,p4,p5⟩:=lQ h
   have q1:=cL (k:=3) (n:=n.frm.toNat) (by simp;omega)
   have q2:=cL (k:=3) (n:=n.num.toNat) (by simp;omega)
   have q3:=cL (k:=3) (n:=n.to.toNat) (by simp;omega)
   have q4:=cL (k:=3) (n:=n.til.toNat) (by simp;omega)
   rw[iF,if_pos h]
   simp only[kQ,aVz,aV3,aV2];omega
 · rw[iF,if_neg h];simp
theorem qq {w:List UInt8} {m:cM} (h: (0≤m.frm∧m.frm≤1000000)∧(0≤m.num∧m.num≤1000000)∧(0≤m.til∧m.til≤1000000)): (sB w m).length≤w.length+30:=by
 have q1:=cL (k:=6) (n:=m.frm.toNat) (by simp;omega)
 have q2:=cL (k:=6) (n:=m.num.toNat) (by simp;omega)
 have q3:=cL (k:=6) (n:=m.til.toNat) (by simp;omega)
 unfold sB
 simp only[aVz,aV3,aV2];omega
theorem wH (w:List UInt8) (n:bA): (fH w n).length≤w.length+61:=by
 have:=rP n
 unfold fH
 simp only[aVz,aV3,aV2];omega
theorem qr {n:Nat} (h:n≤1000000): (oZ n).length≤12:=by
 have:=cL (k:=6) (n:=n) (by simp;omega)
 unfold oZ jI
 simp only[aVz,aV3,aV2];omega
theorem aFf {n:Nat} (h:n≤1000000): (ko n).length≤12:=by
 have:=cL (k:=6) (n:=n) (by simp;omega)
 unfold ko kR
 simp only[aVz,aV3,aV2];omega
theorem ci {k:bO}: (jJ k).length≤26∧ ∀r∈jJ k,r.length≤100:=by
 by_cases hk:eG k=true
 · obtain⟨⟨_,ht,hn,h1,h2,h3⟩,⟨h4,h5,h6⟩,_⟩:=(cH k).1 hk
   rw[kw hk]
   refine⟨by have:=aFe k k.inbox.length;omega,fun r hr=> ?_⟩
   rw[aBg] at hr
   unfold aCu at hr
   simp only[List.mem_append,aWc] at hr
   rcases hr with(((hr|hr)|⟨m,hm,rfl⟩)|⟨m,hm,rfl⟩)|⟨m,hm,rfl⟩
   · split at hr
     · rw[aWg.1 hr];have:=qr (n:=k.time.toNat) (by omega);omega
     · cases hr
   · split at hr
     · rw[aWg.1 hr];have:=aFf (n:=k.next.toNat) (by omega);omega
     · cases hr
   · obtain⟨q1,q2,q3⟩:=uA (wC h5 hm)
     have:=qq (w:=iV) (m:=m) (by omega)
     have e:iV.length=4:=rfl
     omega
   · have:=wH iP m
     have e:iP.length=4:=rfl
     omega
   · have:=wH gH m
     have e:gH.length=5:=rfl
     omega
 · rw[qp hk];exact⟨by simp,fun r hr=>by cases hr⟩
def dO (k:aJ): (List UInt8×Int)×Bool:=eR k.log k.forced (jJ (bB k).1)
theorem aI3 {k:aJ} {rec:List UInt8} (h1: ¬(eH (bB k).1 rec).2=true):pT k rec=(k,false):=by
 unfold pT;rw[if_neg h1]
theorem sS {k:aJ} {rec:List UInt8} (h1: (eH (bB k).1 rec).2=true) (h2: (bT k.log k.forced rec).2=true):pT k rec=(lT k (bT k.log k.forced rec).1,true):=by
 unfold pT;rw[if_pos h1,if_pos h2]
theorem aFg {k:aJ} {rec:List UInt8} (h1: (eH (bB k).1 rec).2=true) (h2: ¬(bT k.log k.forced rec).2=true) (h3: ¬(dO k).2=true):pT k rec=(k,false):=by
 unfold pT
 rw[if_pos h1,if_neg h2]
 show(if(dO k).2=true then(if(bT (dO k).1.1 (dO k).1.2 rec).2=true then(lT k (bT (dO k).1.1 (dO k).1.2 rec).1,true) else(k,false)) else(k,false))=_
 rw[if_neg h3]
theorem aK9 {k:aJ} {rec:List UInt8} (h1: (eH (bB k).1 rec).2=true) (h2: ¬(bT k.log k.forced rec).2=true) (h3: (dO k).2=true) (h4: ¬(bT (dO k).1.1 (dO k).1.2 rec).2=true):pT k rec=(k,false):=by
 unfold pT
 rw[if_pos h1,if_neg h2]
 show(if(dO k).2=true then(if(bT (dO k).1.1 (dO k).1.2 rec).2=true then(lT k (bT (dO k).1.1 (dO k).1.2 rec).1,true) else(k,false)) else(k,false))=_
 rw[if_pos h3,if_neg h4]
theorem aLa {k:aJ} {rec:List UInt8} (h1: (eH (bB k).1 rec).2=true) (h2: ¬(bT k.log k.forced rec).2=true) (h3: (dO k).2=true) (h4: (bT (dO k).1.1 (dO k).1.2 rec).2=true):pT k rec=(lT k (bT (dO k).1.1 (dO k).1.2 rec).1,true):=by
 unfold pT
 rw[if_pos h1,if_neg h2]
 show(if(dO k).2=true then(if(bT (dO k).1.1 (dO k).1.2 rec).2=true then(lT k (bT (dO k).1.1 (dO k).1.2 rec).1,true) else(k,false)) else(k,false))=_
 rw[if_pos h3,if_pos h4]
theorem aLb {k:aJ} (hs:eJ k.log k.forced=true) (h: ¬(dO k).2=true): (dO k).1=(k.log,k.forced):=by
 unfold dO eR at h ⊢
 rw[if_pos hs] at h ⊢
 split at h
 · exact absurd rfl h
 · rename_i h9
   rw[if_neg h9]
theorem vw {k:aJ} (hl:k.log.length≤140737488355328): (dO k).1.1.length≤140737488355328:=by
 unfold dO eR
 split
 · split
   · rename_i h9
     simp only[aV1,decide_eq_true_eq] at h9
     show(iI _).length≤_
     omega
   · exact hl
 · simp
theorem vz {k:aJ} {rec:List UInt8} (hs:eJ k.log k.forced=true) (h1: (eH (bB k).1 rec).2=true) (h2: ¬(bT k.log k.forced rec).2=true) (h4: ¬(bT (dO k).1.1 (dO k).1.2 rec).2=true):pT k rec=(k,false):=by
 by_cases h3: (dO k).2=true
 · exact aK9 h1 h2 h3 h4
 · exact aFg h1 h2 h3
theorem nR {k:aJ} {rec:List UInt8} (hs:eJ k.log k.forced=true) (h1: (eH (bB k).1 rec).2=true) (h2: ¬(bT k.log k.forced rec).2=true) (h4: (bT (dO k).1.1 (dO k).1.2 rec).2=true):pT k rec=(lT k (bT (dO k).1.1 (dO k).1.2 rec).1,true):=by
 by_cases h3: (dO k).2=true
 · exact aLa h1 h2 h3 h4
 · rw[aLb hs h3] at h4
   exact absurd h4 h2
def fQ (k:aJ) (rec:List UInt8) (fc:Bool):aJ×Bool:=if(pT k rec).2 then(if fc then lF (pT k rec).1 else(pT k rec).1,true) else(k,false)
theorem oC {l:List UInt8} {f:Int} {rec:List UInt8} (hl:l.length≤140737488355328): (bT l f rec).1.1.length≤140737488355328:=by
 unfold bT
 split
 · split
   · rename_i h9
     simp only[aV1,decide_eq_true_eq] at h9
     show(l++kC rec).length≤_
     rw[aVz];omega
   · exact hl
 · simp
theorem aFh {k:aJ} {rec:List UInt8} (hl:k.log.length≤140737488355328): (pT k rec).1.log.length≤140737488355328∧(pT k rec).1.halves=k.halves:=by
 unfold pT
 split
 · split
   · exact⟨oC hl,rfl⟩
   · split
     · split
       · exact⟨oC (vw hl),rfl⟩
       · exact⟨hl,rfl⟩
     · exact⟨hl,rfl⟩
 · exact⟨hl,rfl⟩
theorem sT {k:aJ} (h:aZ k=true):KB (bB k).1:=(fC (gU h)).seven.big
theorem jY {a:Bool} (h: (!a)=false):a=true:=by simpa using h
theorem sU {a:Bool} (h: (!a)=true): ¬a=true:=by simpa using h
theorem aHx (k:bO) {n:Nat} (hn:n<100000):gI k (oZ n)=nB k jI n:=by
 have e:oZ n=jI++32::kE n:=by simp[oZ]
 obtain⟨h1,h2,h3⟩:=qH (w:=jI) (r:=kE n) (by decide)
 rw[e,aEv h3 (by rw[h1];rfl) (by rw[h2,qI hn];rfl),h1,h2,uV (qI hn)]
theorem kx {k:bO} (hk:eG k=true) (rec:List UInt8):eH k rec=oJ k (gI k rec):=if_pos hk
theorem aLc {k:bO} (hk:eG k=true) (h:k.time≥999): ¬(eH k (oZ (k.time+1).toNat)).2=true:=by
 obtain⟨⟨_,ht,_⟩,_⟩:=(cH k).1 hk
 rw[kx hk,aHx k (by omega)]
 have e: (((k.time+1).toNat:Nat):Int)=k.time+1:=by omega
 rw[e]
 have hd:nB k jI (k.time+1)=(kB k (k.time+1),true):=by
  unfold nB
  rw[if_pos (by rw[decide_eq_true (by omega)];rfl)]
 rw[hd]
 unfold oJ
 rw[if_neg]
 · simp
 · intro h9
   simp only[Bool.true_and] at h9
   obtain⟨⟨_,ht2,_⟩,_⟩:=(cH _).1 h9
   have e2: (kB k (k.time+1)).time=k.time+1:=rfl
   omega
theorem aLd {k:bO} (hk:eG k=true) {n:bA} (h:iF n=[]): ¬(eH k (fH kJ n)).2=true:=by
 have e:fH kJ n=kJ++32::[]:=by rw[fH,h];simp
 obtain⟨h1,h2,h3⟩:=qH (w:=kJ) (r:=[]) (by decide)
 rw[kx hk,e,vL h3 (by rw[h1];rfl) (by rw[h1];rfl) (by rw[h2];rfl)]
 simp[oJ]
theorem ky {k:aJ} {rec:List UInt8} (h: ¬(eH (bB k).1 rec).2=true):iR k rec=(k,false):=by
 unfold iR;rw[aI3 h];rfl
theorem wb {k:aJ} (h: ¬aZ k=true):dU k=(.zero,false):=if_neg h
theorem ao {k:aJ} (h:aZ k=true) (hu: ¬k.up=true):dU k=(k,false):=by rw[dU,if_pos h,if_neg hu]
theorem fe {k:aJ} (h:aZ k=true) (hu:k.up=true):dU k=iR k (oZ ((bB k).1.time+1).toNat):=by rw[dU,if_pos h,if_pos hu]
theorem rj {k:aJ} (h:aZ k=true) (ht: (bB k).1.time≥999):dU k=(k,false):=by
 by_cases hu:k.up=true
 · rw[fe h hu,ky (aLc (gU h) ht)]
 · exact ao h hu
theorem yr {k:aJ} {to til:Int} {text:List UInt8} (h: ¬aZ k=true):dR k to til text=(.zero,0):=if_neg h
theorem wc {k:aJ} {to til:Int} {text:List UInt8} (h:aZ k=true) (hu: ¬k.up=true):dR k to til text=(k,0):=by rw[dR,if_pos h,if_neg hu]
theorem kz {k:aJ} {to til:Int} {text:List UInt8} (h:aZ k=true) (hl: ¬(iR k (fH kJ (pA k to til text))).2=true):dR k to til text=(k,0):=by
 rw[dR,if_pos h]
 split
 · first|rfl|rw[if_neg hl]
 · rfl
theorem aC1 {k:aJ} {to til:Int} {text:List UInt8} (h:aZ k=true) (hu:k.up=true) (hl: (iR k (fH kJ (pA k to til text))).2=true):dR k to til text=((iR k (fH kJ (pA k to til text))).1,(bB k).1.next):=by
 rw[dR,if_pos h,if_pos hu,if_pos hl]
theorem wd {k:aJ} {to til:Int} {text:List UInt8} (h:aZ k=true) (hn:iF (pA k to til text)=[]):dR k to til text=(k,0):=by
 refine kz h ?_
 rw[ky (aLd (gU h) hn)]
 simp
theorem yt {k:aJ} {f n:Int} (h: ¬aZ k=true):cP k f n=(.zero,.zero,false):=if_neg h
theorem aC2 {k:aJ} {f n:Int} (h:aZ k=true) (hc: ¬(k.up=true∧0≤aW (bB k).1.inbox f n)):cP k f n=(k,.zero,false):=by
 rw[cP,if_pos h,if_neg (by simpa using hc)]
theorem we {k:aJ} {f n:Int} (h:aZ k=true) (hc:k.up=true∧0≤aW (bB k).1.inbox f n) (hl: ¬(iR k (zK k f n)).2=true):cP k f n=(k,.zero,false):=by
 rw[cP,if_pos h,if_pos (by simpa using hc),if_neg hl]
theorem aC3 {k:aJ} {f n:Int} (h:aZ k=true) (hc:k.up=true∧0≤aW (bB k).1.inbox f n) (hl: (iR k (zK k f n)).2=true):cP k f n=((iR k (zK k f n)).1,(bB k).1.inbox.getD (aW (bB k).1.inbox f n).toNat .zero,true):=by
 rw[cP,if_pos h,if_pos (by simpa using hc),if_pos hl]
theorem wg {k:aJ} (h:aZ k=true) {f n:Int} (hp:0≤aW (bB k).1.inbox f n): ∃j:Nat,aW (bB k).1.inbox f n=j∧j< (bB k).1.inbox.length∧((0≤f∧f≤1000000)∧(0≤n∧n≤1000000)∧(0≤((bB k).1.inbox.getD j .zero).til∧((bB k).1.inbox.getD j .zero).til≤1000000)):=by
 obtain⟨j,hj⟩:=Int.eq_ofNat_of_zero_le hp
 have hlt:=(fL (bB k).1.inbox f n).2
 obtain⟨_,⟨_,_,h6⟩,_⟩:=(cH _).1 (gU h)
 obtain⟨q1,q2,q3⟩:=gt h6 hp
 rw[hj,aVy] at q1 q2 q3
 obtain⟨p1,p2,p3,p4,p5⟩:=lQ q1
 exact⟨j,hj,by omega,by omega,by omega,by omega⟩
theorem wh {k:aJ} (h: ¬aZ k=true):eC k=(.zero,false):=if_neg h
theorem rm {k:aJ} (h:aZ k=true) (hu: ¬k.up=true):eC k=(k,false):=by
 rw[eC,if_pos h,if_neg (by simp[hu])]
theorem yu {k:aJ} (h:aZ k=true) (hp: ¬(dO k).2=true):eC k=(k,false):=by
 rw[eC,if_pos h,if_neg]
 intro h9
 simp only[aV1] at h9
 exact hp h9.2
theorem yv {k:aJ} (h:aZ k=true) (hu:k.up=true) (hp: (dO k).2=true):eC k=(lT k (dO k).1,true):=by
 rw[eC,if_pos h,if_pos]
 · rfl
 · rw[hu];exact hp
def oD (b:Int) (m:gC):Bool:=mD b m.num&&decide (m.data.length=4)
def unk (kn:List (List UInt8)) (j:Int):Bool:=(kn.getD j.toNat []).isEmpty
def fD (kn:List (List UInt8)) (ks:List Int):List Int:=ks.filter (unk kn)
def lN (kn:List (List UInt8)):List UInt8→List Int→List UInt8
 |x,[]=>x
 |x,j::js=>lN kn (if unk kn j then x else km x (kn.getD j.toNat [])) js
def fI (b:Int) (kn:List (List UInt8)) (m:gC):List (List UInt8)×Bool:=
 if oD b m&&(fD kn (bK b m.num)).length==1 then(kn.set ((fD kn (bK b m.num)).getD 0 0).toNat (lN kn m.data (bK b m.num)),true) else(kn,false)
def bD (b:Int):List gC→List (List UInt8)×Bool→List (List UInt8)×Bool
 | [],s=>s
 |m::l,s=>bD b l ((fI b s.1 m).1,s.2||(fI b s.1 m).2)
def oM (b:Int) (l:List gC):Nat→List (List UInt8)→List (List UInt8)
 |0,kn=>kn
 |f+1,kn=>if(bD b l (kn,false)).2 then oM b l f (bD b l (kn,false)).1 else(bD b l (kn,false)).1
def cB (b:Int) (l:List gC):List (List UInt8):=if fG b 1 6 then oM b l 7 (List.replicate b.toNat []) else []
def xT (b:Int) (kn:List (List UInt8)):Prop:=(kn.length:Int)=b∧ ∀x∈kn,x.length=0∨x.length=4
def sV (kn:List (List UInt8)):Nat:=kn.countP (·.isEmpty)
theorem xT.at {b:Int} {kn:List (List UInt8)} (h:xT b kn) {j:Nat} (hj:j<kn.length): (kn.getD j []).length=0∨(kn.getD j []).length=4:=h.2 _ (dH hj)
theorem xT.start {b:Int} (hb:0≤b):xT b (List.replicate b.toNat []):=by
 refine⟨by rw[List.length_replicate];omega,fun x hx=> ?_⟩
 rw[(List.mem_replicate.1 hx).2];exact .inl rfl
theorem uI {kn:List (List UInt8)}: ∀{ks:List Int} {x:List UInt8},x.length=4→(lN kn x ks).length=4
 | [],x,h=>h
 |j::js,x,h=>by
  unfold lN
  refine uI ?_
  split
  · exact h
  · exact qo _ _
theorem ed {kn:List (List UInt8)} {ks:List Int} {j:Int} (h:j∈fD kn ks):j∈ks∧unk kn j=true:=by
 unfold fD at h
 exact List.mem_filter.1 h
theorem aFi: ∀{kn:List (List UInt8)} {j:Nat} {x:List UInt8},j<kn.length→(kn.getD j []).isEmpty=true→x.isEmpty=false→sV (kn.set j x)+1=sV kn
 | [],j,x,h,_,_=>by simp at h
 |y::kn,0,x,h,h1,h2=>by
  have h1:y.isEmpty=true:=h1
  simp[sV,List.countP_cons,h1,h2]
 |y::kn,j+1,x,h,h1,h2=>by
  have ih:=aFi (kn:=kn) (j:=j) (x:=x) (by simpa using h) (by simpa using h1) h2
  simp only[sV,List.set_cons_succ,List.countP_cons] at ih ⊢
  omega
theorem aHy {b:Int} {kn:List (List UInt8)} {m:gC} (h:xT b kn):xT b (fI b kn m).1∧((fI b kn m).2=true→sV (fI b kn m).1+1=sV kn)∧((fI b kn m).2=false→(fI b kn m).1=kn):=by
 unfold fI
 split
 · rename_i hc
   simp only[aV1,beq_iff_eq,oD,decide_eq_true_eq] at hc
   obtain⟨⟨h1,h4⟩,hl⟩:=hc
   have hm: (fD kn (bK b m.num)).getD 0 0∈fD kn (bK b m.num):=dH (by omega)
   obtain⟨q1,q2⟩:=ed hm
   have hr:=nO _ q1
   have hx:=uI (kn:=kn) (ks:=bK b m.num) h4
   have hlt: ((fD kn (bK b m.num)).getD 0 0).toNat<kn.length:=by have:=h.1;omega
   refine⟨⟨by rw[List.length_set];exact h.1,fun x hx'=> ?_⟩,fun _=> ?_,fun h9=>by cases h9⟩
   · rcases List.mem_or_eq_of_mem_set hx' with h9|h9
     · exact h.2 x h9
     · rw[h9];exact .inr hx
   · refine aFi hlt q2 ?_
     cases hq:lN kn m.data (bK b m.num) with
     |nil=>rw[hq] at hx;cases hx
     |cons _ _=>rfl
 · exact⟨h,fun h9=>(by cases h9),fun _=>rfl⟩
theorem nS {b:Int}: ∀{l:List gC} {s:List (List UInt8)×Bool},xT b s.1→xT b (bD b l s).1∧sV (bD b l s).1≤sV s.1∧(s.2=false→(bD b l s).2=true→sV (bD b l s).1<sV s.1)∧(s.2=true→(bD b l s).2=true)
 | [],s,h=>⟨h,aWa _,fun h1 h2=>(by
  have h2:s.2=true:=h2
  rw[h1] at h2;cases h2),fun h1=>h1⟩
 |m::l,s,h=>by
  obtain⟨p1,p2,p3⟩:=aHy (m:=m) h
  obtain⟨r1,r2,r3,r4⟩:=nS (l:=l) (s:=((fI b s.1 m).1,s.2||(fI b s.1 m).2)) p1
  unfold bD
  cases hd: (fI b s.1 m).2 with
  |true=>
   have:=p2 hd
   rw[hd] at r1 r2 r3 r4
   have r2:sV (bD b l ((fI b s.1 m).1,s.2||true)).1≤sV (fI b s.1 m).1:=r2
   exact⟨r1,by omega,fun _ _=>by omega,fun h1=>r4 (by simp)⟩
  |false=>
   have e:=p3 hd
   rw[hd] at r1 r2 r3 r4
   refine⟨r1,by rw[e] at r2 ⊢; exact r2,fun h1 h2=> ?_,fun h1=>r4 (by simp[h1])⟩
   have:=r3 (by simp[h1]) h2
   simp only[e] at this ⊢
   exact this
theorem cj {kn:List (List UInt8)} {ks:List Int} {j:Int} (h:unk kn j=true):fD kn (ks++[j])=fD kn ks++[j]:=by
 unfold fD;rw[List.filter_append,List.filter_cons_of_pos h];rfl
theorem ff {kn:List (List UInt8)} {ks:List Int} {j:Int} (h:unk kn j=false):fD kn (ks++[j])=fD kn ks:=by
 unfold fD;rw[List.filter_append,List.filter_cons_of_neg (by rw[h];exact Bool.false_ne_true)];exact List.append_nil _
theorem gy {kn:List (List UInt8)}: ∀{ks:List Int} {x:List UInt8} {j:Int},lN kn x (ks++[j])=if unk kn j then lN kn x ks else km (lN kn x ks) (kn.getD j.toNat [])
 | [],x,j=>by
  show(if unk kn j then x else km x (kn.getD j.toNat []))=_
  rfl
 |k::ks,x,j=>gy (ks:=ks)
theorem aBi {kn:List (List UInt8)} {ks:List Int} {x:List UInt8} {j:Int} (h:unk kn j=true):lN kn x (ks++[j])=lN kn x ks:=by rw[gy,if_pos h]
theorem aFj {kn:List (List UInt8)} {ks:List Int} {x:List UInt8} {j:Int} (h:unk kn j=false):lN kn x (ks++[j])=km (lN kn x ks) (kn.getD j.toNat []):=by rw[gy,if_neg (by rw[h];exact Bool.false_ne_true)]
theorem aN0 {l:List Int} (h:l.length=1):l.getLastD (-1)=l.getD 0 0:=by
 match l,h with
 | [x],_=>rfl
theorem aBj {l:List Int} {j:Int}: (l++[j]).getLastD (-1)=j:=by
 rw[List.getLastD_eq_getLast?,List.getLast?_append];rfl
theorem uJ {b:Int} {m:gC}: ∀{l:List gC} {s:List (List UInt8)×Bool},bD b (l++[m]) s=((fI b (bD b l s).1 m).1,(bD b l s).2||(fI b (bD b l s).1 m).2)
 | [],s=>rfl
 |k::l,s=>uJ (l:=l)
theorem qt {b:Int} {l:List gC}: ∀(f g:Nat) {kn:List (List UInt8)},xT b kn→sV kn<f→sV kn<g→oM b l f kn=oM b l g kn
 |0,_,kn,_,h,_=>absurd h (by omega)
 |_+1,0,kn,_,_,h=>absurd h (by omega)
 |f+1,g+1,kn,hk,hf,hg=>by
  obtain⟨r1,r2,r3,_⟩:=nS (l:=l) (s:=(kn,false)) hk
  unfold oM
  split
  · rename_i hd
    have hlt:=r3 rfl hd
    have hlt:sV (bD b l (kn,false)).1<sV kn:=hlt
    exact qt f g r1 (by omega) (by omega)
  · rfl
theorem aQd (kn:List (List UInt8)):sV kn≤kn.length:=List.countP_le_length
theorem aI4 {b:Int} (hb:b≤6) {l:List gC} {kn:List (List UInt8)} (hk:xT b kn) (hd: (bD b l (kn,false)).2=true):oM b l 7 kn=oM b l 7 (bD b l (kn,false)).1∧sV (bD b l (kn,false)).1<sV kn∧xT b (bD b l (kn,false)).1:=by
 obtain⟨r1,r2,r3,_⟩:=nS (l:=l) (s:=(kn,false)) hk
 have hlt:sV (bD b l (kn,false)).1<sV kn:=r3 rfl hd
 have h6:sV kn≤6:=by have:=aQd kn;have:=hk.1;omega
 refine⟨?_,hlt,r1⟩
 rw[qt 7 8 hk (by omega) (by omega)]
 show(if(bD b l (kn,false)).2 then oM b l 7 (bD b l (kn,false)).1 else(bD b l (kn,false)).1)=_
 rw[if_pos hd]
theorem aFk {b:Int} {l:List gC} {kn:List (List UInt8)} (hd: (bD b l (kn,false)).2=false):oM b l 7 kn=(bD b l (kn,false)).1:=by
 show(if(bD b l (kn,false)).2 then oM b l 6 (bD b l (kn,false)).1 else(bD b l (kn,false)).1)=_
 rw[if_neg (by rw[hd];exact Bool.false_ne_true)]
theorem ee {kn:List (List UInt8)} {j:Nat} {x:List UInt8} (h:j<kn.length): (aX kn).set j (cX ((aX kn).getD j []) 0 [D.s x])=aX (kn.set j x):=by
 rw[eN h]
 show(aX kn).set j [D.s x]=_
 rw[aX,aX,← List.map_set (f:=fun y:List UInt8=>[D.s y])]
theorem aBk {b:Int} {m:gC} {c:Bool} (h: (!(mD b m.num&&decide ((m.data.length:Int)=4)))=c):oD b m= !c:=by
 subst h
 unfold oD
 rw[Bool.not_not]
 congr 1
 exact decide_eq_decide.2 (by omega)
theorem qu {b:Int} {m:gC} (h:oD b m=true):m.data.length=4:=by
 unfold oD at h
 rw[aV1] at h
 exact of_decide_eq_true h.2
theorem aN1 {n:Nat} (h: ((n:Int)==1)=true):n=1:=by
 have h9: (n:Int)=1:=by simpa using h
 omega
theorem wj {n:Nat} (h: ((n:Int)==1)=false): ¬n=1:=by
 have h9: ¬(n:Int)=1:=by simpa using h
 omega
def jE:List (List UInt8)→List UInt8:=List.flatten
def dK (size:Int) (l:List gC):List UInt8×Bool:=
 if fG size 1 24 then
  (if(cB ((size+3) / 4) l).any (·.isEmpty) then([],false)
   else if((jE (cB ((size+3) / 4) l)).drop size.toNat).any (· != 0) then([],false)
   else((jE (cB ((size+3) / 4) l)).take size.toNat,true))
 else([],false)
theorem wl {b:Int} {l:List gC} (hb:1≤b∧b≤6):xT b (cB b l):=by
 have key: ∀(f:Nat) {kn:List (List UInt8)},xT b kn→xT b (oM b l f kn):=by
  intro f
  induction f with
  |zero=>intro kn h;exact h
  |succ f ih=>
   intro kn h
   have r:=(nS (l:=l) (s:=(kn,false)) h).1
   unfold oM
   split
   · exact ih r
   · exact r
 unfold cB
 rw[if_pos (by simp[fG];omega)]
 exact key 7 (xT.start (by omega))
theorem wm {b:Int} {l:List gC} (h: ¬fG b 1 6=true):cB b l=[]:=if_neg h
theorem aBl {b:Int} (hb:1≤b∧b≤6) {m:gC} {c:Bool} (h: (!fG m.num 0 999||((m.data.length:Int) != 4))=c):oD b m= !c:=by
 subst h
 unfold oD mD
 rw[show fG b 1 6=true by simp[fG];omega,Bool.true_and,aQc (j:=4) m.data.length 4 rfl]
 cases fG m.num 0 999<;>cases hq: (m.data.length==4)<;>simp_all
def sW (kn:List (List UInt8)) (i:Nat):List UInt8:=(kn.take i).flatten
theorem zN {kn:List (List UInt8)} {i:Nat} (h:i<kn.length):sW kn (i+1)=sW kn i++kn.getD i []:=by
 unfold sW
 rw[fB (z:=([]:List UInt8)) h,List.flatten_append]
 simp
theorem wn {kn:List (List UInt8)} (h: ∀x∈kn,x.length=0∨x.length=4): ∀{i:Nat},(sW kn i).length≤4*i
 |0=>by simp[sW]
 |i+1=>by
  have ih:=wn h (i:=i)
  by_cases hi:i<kn.length
  · rw[zN hi,aVz]
    have:=h _ (dH (z:=([]:List UInt8)) hi)
    omega
  · have e:sW kn (i+1)=sW kn i:=by unfold sW;rw[List.take_of_length_le (by omega),List.take_of_length_le (by omega)]
    rw[e];omega
theorem wo {kn:List (List UInt8)} (h: ∀x∈kn,x.length=0∨x.length=4): ∀{i:Nat},i≤kn.length→(∀j,j<i→(kn.getD j []).length≠0)→(sW kn i).length=4*i
 |0,_,_=>by simp[sW]
 |i+1,hi,hj=>by
  have ih:=wo h (i:=i) (by omega) (fun j hj2=>hj j (by omega))
  rw[zN (by omega),aVz,ih]
  have h1:=h _ (dH (z:=([]:List UInt8)) (i:=i) (show i<kn.length by omega))
  have h2:=hj i (by omega)
  omega
theorem ef (kn:List (List UInt8)):sW kn kn.length=jE kn:=by unfold sW jE;rw[aWd]
theorem fh {kn:List (List UInt8)} {i:Nat} (h:i<kn.length) (he:kn.getD i []=[]):kn.any (·.isEmpty)=true:=by
 rw[List.any_eq_true]
 exact⟨_,dH (z:=([]:List UInt8)) h,by rw[he];rfl⟩
theorem zO {kn:List (List UInt8)} (h: ∀j,j<kn.length→(kn.getD j []).length≠0):kn.any (·.isEmpty)=false:=by
 rw[← Bool.not_eq_true,List.any_eq_true]
 rintro⟨x,hx,he⟩
 obtain⟨i,hi⟩:=List.mem_iff_getElem?.1 hx
 have hlt:=(aV9.1 hi).1
 have:=h i hlt
 rw[aV6,hi] at this
 have e:x=[]:=by simpa using he
 rw[e] at this;exact this rfl
theorem lc {l:List UInt8} {n i:Nat} (h1:n≤i) (h2:i<l.length) (h:l.getD i 0≠0): (l.drop n).any (· != 0)=true:=by
 rw[List.any_eq_true]
 refine⟨l.getD i 0,?_,by simpa using h⟩
 rw[List.mem_iff_getElem?]
 exact⟨i - n,by rw[List.getElem?_drop,show n+(i - n)=i by omega,aV6,aV8 h2];rfl⟩
theorem qv {l:List UInt8} {n:Nat} (h: ∀i,n≤i→i<l.length→l.getD i 0=0): (l.drop n).any (· != 0)=false:=by
 rw[← Bool.not_eq_true,List.any_eq_true]
 rintro⟨x,hx,he⟩
 obtain⟨i,hi⟩:=List.mem_iff_getElem?.1 hx
 rw[List.getElem?_drop] at hi
 have hlt:=(aV9.1 hi).1
 have:=h (n+i) (by omega) hlt
 rw[aV6,hi] at this
 have e:x=0:=this
 rw[e] at he;cases he
theorem qw {size:Int} {l:List gC} (h: ¬fG size 1 24=true):dK size l=([],false):=if_neg h
theorem ld {size:Int} {l:List gC} (h:fG size 1 24=true) (h2: (cB ((size+3) / 4) l).any (·.isEmpty)=true):dK size l=([],false):=by
 unfold dK;rw[if_pos h,if_pos h2]
theorem lf {size:Int} {l:List gC} (h:fG size 1 24=true) (h2: (cB ((size+3) / 4) l).any (·.isEmpty)=false) (h3: ((jE (cB ((size+3) / 4) l)).drop size.toNat).any (· != 0)=true):dK size l=([],false):=by
 unfold dK;rw[if_pos h,if_neg (by rw[h2];exact Bool.false_ne_true),if_pos h3]
theorem ck {size:Int} {l:List gC} (h:fG size 1 24=true) (h2: (cB ((size+3) / 4) l).any (·.isEmpty)=false) (h3: ((jE (cB ((size+3) / 4) l)).drop size.toNat).any (· != 0)=false):dK size l=((jE (cB ((size+3) / 4) l)).take size.toNat,true):=by
 unfold dK;rw[if_pos h,if_neg (by rw[h2];exact Bool.false_ne_true),if_neg (by rw[h3];exact Bool.false_ne_true)]
def mT (l:List cI):List (List D):=l.map cI.row
theorem lH (l:List cI): (mT l).length=l.length:=by simp[mT]
def ba (kind:Int) (f:cI):cI:=⟨kind,f.dst,f.src,f.frm,f.num,f.to,f.til,0,0,[]⟩
def sE (f:cI):dT:=⟨f.frm,f.num,f.to,f.til,f.size,[]⟩
def rQ (l:List gC):List gC:=if 14≤l.length then l.drop 1 else l
def ny (l:List gC) (m:gC):List gC:=rQ (l.filter fun x=> !(x.num==m.num))++[m]
def gJ (l:List dT):List dT:=if 3≤l.length then l.drop 1 else l
def dL (l:List dT) (f:cI):List dT×Nat:=
 if gM l f.frm f.num<0 then(gJ l++[sE f],(gJ l).length) else(l,(gM l f.frm f.num).toNat)
def bW (l:List dT) (f:cI):dT:=(dL l f).1.getD (dL l f).2 .zero
def qQ (h:dT) (f:cI):Bool:=h.to==f.to&&h.til==f.til&&h.size==f.size
def uK (h:dT) (f:cI):dT:={h with got:=ny h.got ⟨f.mix,f.data⟩}
def bY (l:List dT) (f:cI):List dT×Int:=
 if qQ (bW l f) f then((dL l f).1.set (dL l f).2 (uK (bW l f) f),(dL l f).2) else((dL l f).1,-1)
def dV (k:aJ) (l:List dT):aJ:={k with halves:=l}
def eM (f:cI) (text:List UInt8):bA:=⟨f.frm,f.num,f.to,f.til,text⟩
def oE (k:aJ) (f:cI) (l:List dT) (i:Nat):aJ×List cI:=
 let x:=dK f.size (l.getD i .zero).got
 if x.2 then
  let k2:=dV k (hF l i)
  let r:=fQ k2 (fH gD (eM f x.1)) true
  if iF (eM f x.1)=[] then(k2,[]) else(r.1,if r.2 then [ba 2 f] else [])
 else(dV k l,[])
def dS (k:aJ) (f:cI):aJ×List cI:=
 if f.til≤(bB k).1.time then(k,[ba 3 f]) else
 if 0≤aW (bB k).1.held f.frm f.num∨0≤iT (bB k).1.marks f.frm f.num then(lF k,[ba 2 f]) else
 if f.frm=k.id∨ ¬mD ((f.size+3) / 4) f.mix=true then(k,[]) else
 if(bY k.halves f).2<0 then(dV k (bY k.halves f).1,[]) else oE k f (bY k.halves f).1 (bY k.halves f).2.toNat
def nz (f:cI):List UInt8:=sB oI ⟨f.frm,f.num,f.til⟩
def cl (k:aJ) (f:cI):Bool:=
 f.kind==2&&decide (0≤aW (bB k).1.held f.frm f.num)&&((bB k).1.held.getD (aW (bB k).1.held f.frm f.num).toNat .zero).til==f.til&&((bB k).1.held.getD (aW (bB k).1.held f.frm f.num).toNat .zero).to==f.to
def dC (k:aJ) (f:cI):aJ×List cI:=
 if aZ k then
  (if k.up&&dJ f&&f.dst==k.id then
   (if f.kind=1 then dS k f else if cl k f then((fQ k (nz f) false).1,[]) else(k,[]))
  else(k,[]))
 else(.zero,[])
theorem aC4 {l:List dT} {i:Nat} {h:dT} (hi:i<l.length): (bC l).set i (cX ((bC l).getD i []) 0 h.row)=bC (l.set i h):=by
 rw[gT hi]
 have:cX ((l.getD i .zero).row) 0 h.row=h.row:=rfl
 rw[this]
 simp[bC,List.map_set]
theorem cm {l:List dT} {f:cI} (h:gM l f.frm f.num<0):dL l f=(gJ l++[sE f],(gJ l).length):=if_pos h
theorem gz {l:List dT} {f:cI} (h: ¬gM l f.frm f.num<0):dL l f=(l,(gM l f.frm f.num).toNat):=if_neg h
theorem li (l:List dT) (h:l.length≤3): (gJ l).length≤2:=by
 unfold gJ
 split
 · rw[aV7];omega
 · omega
theorem wt {l:List dT} {f:cI} (hl:l.length≤3): (dL l f).2< (dL l f).1.length∧(dL l f).1.length≤3:=by
 unfold dL
 split
 · have:=li l hl
   simp;omega
 · rename_i h
   have:=aK0 l f.frm f.num
   simp;omega
theorem ia {l:List dT} {f:cI} (h: ¬qQ (bW l f) f=true):bY l f=((dL l f).1,-1):=if_neg h
theorem cn {l:List dT} {f:cI} (h:qQ (bW l f) f=true):bY l f=((dL l f).1.set (dL l f).2 (uK (bW l f) f),(((dL l f).2:Nat):Int)):=if_pos h
theorem aC5 {l:List dT} {f:cI} (h: ∀x∈l,x.got.length≤14): (bW l f).got.length≤14:=by
 unfold bW
 by_cases hm: (dL l f).2< (dL l f).1.length
 · have h1: (dL l f).1.getD (dL l f).2 .zero∈(dL l f).1:=dH hm
   generalize (dL l f).1.getD (dL l f).2 .zero=y at h1
   unfold dL at h1
   split at h1
   · rcases List.mem_append.1 h1 with h1|h1
     · unfold gJ at h1
       split at h1
       · exact h y (List.mem_of_mem_drop h1)
       · exact h y h1
     · rw[aWg.1 h1];exact aV5 _
   · exact h y h1
 · rw[aV6,List.getElem?_eq_none (by omega)];exact aV5 _
def iK (l:List gC) (n:Int):List gC:=l.filter fun x=> !(x.num==n)
theorem aFl {l:List gC} {n:Int} {m:gC} (h: (m.num != n)=true):iK (l++[m]) n=iK l n++[m]:=by
 have h: (!(m.num==n))=true:=h
 simp[iK,List.filter_append,List.filter_cons,h]
theorem aHz {l:List gC} {n:Int} {m:gC} (h: (m.num != n)=false):iK (l++[m]) n=iK l n:=by
 have h: (!(m.num==n))=false:=h
 simp[iK,List.filter_append,List.filter_cons,h]
theorem wu (l:List gC) (n:Int): (iK l n).length≤l.length:=List.length_filter_le _ _
def GOk (l:List gC):Prop:=(∀m∈l,wD m=true)∧l.Pairwise fun a b=>a.num≠b.num
def HOk (l:List dT):Prop:=(∀h∈l,lS h=true)∧l.Pairwise fun a b=> ¬(a.frm=b.frm∧a.num=b.num)
theorem pS {n:Nat} {p:Nat→Bool}: (aWb n).all p=true↔ ∀i,i<n→p i=true:=by
 rw[aWf]
 exact⟨fun h i hi=>h i (List.mem_range.2 hi),fun h i hi=>h i (List.mem_range.1 hi)⟩
theorem mM {α:Type} {l:List α} {i:Nat} {z:α} (h:i<l.length):l.getD i z=l[i]:=by
 rw[aV6,aV8 h];rfl
theorem aQe (l:List gC): (aWb l.length).all (oA l)=true↔GOk l:=by
 rw[pS]
 constructor
 · intro h
   refine⟨fun m hm=> ?_,List.pairwise_iff_getElem.2 fun i j hi hj hij=> ?_⟩
   · obtain⟨i,hi,rfl⟩:=List.mem_iff_getElem.1 hm
     have:=h i hi
     unfold oA at this
     rw[aV1,mM hi] at this
     exact this.1
   · have:=h j hj
     unfold oA at this
     rw[aV1,pS,mM hj] at this
     have:=this.2 i hij
     rw[mM hi] at this
     simpa using this
 · rintro⟨h1,h2⟩ i hi
   unfold oA
   rw[aV1,pS,mM hi]
   refine⟨h1 _ (List.getElem_mem hi),fun j hj=> ?_⟩
   rw[mM (by omega)]
   simpa using List.pairwise_iff_getElem.1 h2 j i (by omega) hi hj
theorem aFm (l:List dT): (aWb l.length).all (hG l)=true↔HOk l:=by
 rw[pS]
 constructor
 · intro h
   refine⟨fun m hm=> ?_,List.pairwise_iff_getElem.2 fun i j hi hj hij=> ?_⟩
   · obtain⟨i,hi,rfl⟩:=List.mem_iff_getElem.1 hm
     have:=h i hi
     unfold hG at this
     rw[aV1,mM hi] at this
     exact this.1
   · have:=h j hj
     unfold hG at this
     rw[aV1,pS,mM hj] at this
     have:=this.2 i hij
     unfold hP at this
     rw[mM hi] at this
     rintro⟨e1,e2⟩
     rw[e1,e2] at this
     simp at this
 · rintro⟨h1,h2⟩ i hi
   unfold hG
   rw[aV1,pS,mM hi]
   refine⟨h1 _ (List.getElem_mem hi),fun j hj=> ?_⟩
   unfold hP
   rw[mM (by omega)]
   have h3:=List.pairwise_iff_getElem.1 h2 j i (by omega) hi hj
   cases hq: (l[j].frm==l[i].frm&&l[j].num==l[i].num) with
   |false=>rfl
   |true=>rw[aV1,beq_iff_eq,beq_iff_eq] at hq;exact absurd hq h3
theorem vO (h:dT):lS h=true↔qN h=true∧GOk h.got:=by
 unfold lS
 rw[aV1,aQe]
theorem lj {k:aJ} (h:aZ k=true):HOk k.halves:=by
 unfold aZ at h
 rw[aV1] at h
 exact(aFm _).1 h.2
theorem lk {k:aJ} {l:List dT} (hok:aZ k=true) (hu:k.up=true) (hl:l.length≤3) (h:HOk l):aZ (dV k l)=true:=by
 have hl': ((l.length:Nat):Int)≤3:=by omega
 unfold aZ jG at hok ⊢
 simp only[aV1] at hok ⊢
 obtain⟨⟨⟨⟨⟨⟨h1,h2⟩,h3⟩,h4⟩,h5⟩,h6⟩,h7⟩:=hok
 exact⟨⟨⟨⟨⟨⟨h1,h2⟩,decide_eq_true hl'⟩,by show(k.up||_)=true;rw[hu];rfl⟩,h5⟩,h6⟩,(aFm _).2 h⟩
theorem aI5 {l l':List dT} (hs:l'.Sublist l) (h:HOk l):HOk l':=⟨fun x hx=>h.1 x (hs.subset hx),h.2.sublist hs⟩
theorem aLe {α:Type} (l:List α) (i:Nat): (hF l i).Sublist l:=by
 unfold hF
 have h1: (l.drop (i+1)).Sublist (l.drop i):=by
  rw[← List.drop_drop];exact List.drop_sublist _ _
 exact(List.Sublist.append (List.Sublist.refl _) h1).trans (by rw[List.take_append_drop];exact List.Sublist.refl _)
theorem aI6 {l:List dT} (h:HOk l) (i:Nat):HOk (hF l i):=aI5 (aLe l i) h
theorem aQf {l:List gC} {m:gC} (h:GOk l) (hm:wD m=true) (hl:l.length≤14):GOk (ny l m)∧(ny l m).length≤14:=by
 have h1: (l.filter fun x=> !(x.num==m.num)).length≤l.length:=List.length_filter_le _ _
 have hsub: (rQ (l.filter fun x=> !(x.num==m.num))).Sublist (l.filter fun x=> !(x.num==m.num)):=by
  unfold rQ
  split
  · exact List.drop_sublist _ _
  · exact List.Sublist.refl _
 have hlen: (rQ (l.filter fun x=> !(x.num==m.num))).length≤13:=by
  unfold rQ
  split
  · rw[aV7];omega
  · omega
 refine⟨⟨fun x hx=> ?_,?_⟩,by unfold ny;simp;omega⟩
 · rcases List.mem_append.1 hx with hx|hx
   · exact h.1 x (List.mem_filter.1 (hsub.subset hx)).1
   · rw[aWg.1 hx];exact hm
 · unfold ny
   rw[List.pairwise_append]
   refine⟨(h.2.sublist List.filter_sublist).sublist hsub,by simp,fun a ha b hb=> ?_⟩
   rw[aWg.1 hb]
   have:=(List.mem_filter.1 (hsub.subset ha)).2
   simpa using this
theorem ib {f:cI} (hf:dJ f=true) (hk:f.kind=1):qN (sE f)=true∧wD ⟨f.mix,f.data⟩=true∧(1≤f.size∧f.size≤24)∧(0≤f.mix∧f.mix≤999)∧f.data.length=4:=by
 have h:=hf
 unfold dJ at h
 rw[if_pos hk] at h
 simp only[aV1,decide_eq_true_eq] at h
 obtain⟨⟨⟨⟨⟨⟨h1,h2⟩,h3⟩,h4⟩,h5⟩,h6⟩,⟨⟨h7,h8⟩,h9⟩,h10⟩:=h
 have q7:1≤f.size∧f.size≤24:=by simpa[fG] using h7
 have q8:0≤f.mix∧f.mix≤999:=by simpa[fG] using h8
 refine⟨?_,?_,q7,q8,h9⟩
 · unfold qN sE
   simp only[h3,h4,h5,h6,h7,aV2];rfl
 · unfold wD
   simp only[h8,h9];rfl
theorem aFn {l:List dT} {f n:Int} (h:gM l f n<0): ∀x∈l,¬(x.frm=f∧x.num=n):=by
 intro x hx ⟨e1,e2⟩
 obtain⟨i,hi,rfl⟩:=List.mem_iff_getElem.1 hx
 rcases gR (hP l f n) l.length 0 with h1|⟨k,h1,_⟩
 · have h2:hP l f n i=true:=by unfold hP;rw[mM hi,e1,e2];simp
   have: ∀(m j:Nat),kP (hP l f n) j m= -1→ ∀q,j≤q→q<j+m→hP l f n q=false:=by
    intro m
    induction m with
    |zero=>intro j _ q h3 h4;omega
    |succ m ih=>
     intro j hj q h3 h4
     unfold kP at hj
     split at hj
     · have: ((j:Nat):Int)= -1:=hj
       omega
     · rename_i hne
       by_cases e:q=j
       · subst e;simpa using hne
       · exact ih (j+1) hj q (by omega) (by omega)
   have:=this l.length 0 h1 i (aV5 _) (by omega)
   rw[h2] at this;cases this
 · unfold gM at h;omega
theorem aH0 {l:List dT} {f n:Int} (h: ¬gM l f n<0): (gM l f n).toNat<l.length∧(l.getD (gM l f n).toNat .zero).frm=f∧(l.getD (gM l f n).toNat .zero).num=n:=by
 rcases gR (hP l f n) l.length 0 with h1|⟨k,h1,h2,h3,h4,_⟩
 · exact absurd (show gM l f n<0 by unfold gM;omega) h
 · have e: (gM l f n).toNat=k:=by unfold gM;omega
   rw[e]
   unfold hP at h4
   rw[aV1,beq_iff_eq,beq_iff_eq] at h4
   exact⟨by omega,h4⟩
theorem aQg {l:List dT} {f:cI} (h:HOk l) (hl:l.length≤3) (hf:dJ f=true) (hk:f.kind=1):HOk (dL l f).1:=by
 by_cases hn:gM l f.frm f.num<0
 · rw[cm hn]
   have hsub: (gJ l).Sublist l:=by
    unfold gJ
    split
    · exact List.drop_sublist _ _
    · exact List.Sublist.refl _
   have h2:=aI5 hsub h
   refine⟨fun x hx=> ?_,?_⟩
   · rcases List.mem_append.1 hx with hx|hx
     · exact h2.1 x hx
     · rw[aWg.1 hx,vO]
       exact⟨(ib hf hk).1,by simp[sE],by simp[sE]⟩
   · rw[List.pairwise_append]
     refine⟨h2.2,by simp,fun a ha b hb=> ?_⟩
     rw[aWg.1 hb]
     exact aFn hn a (hsub.subset ha)
 · rw[gz hn];exact h
theorem aT1 {α:Type} {R:α→α→Prop} {l:List α} {i:Nat} {x:α} (h:l.Pairwise R) (hi:i<l.length) (h1: ∀y,R y l[i]→R y x) (h2: ∀y,R l[i] y→R x y): (l.set i x).Pairwise R:=by
 rw[List.pairwise_iff_getElem] at h ⊢
 intro a b ha hb hab
 simp only[List.length_set] at ha hb
 simp only[List.getElem_set]
 by_cases c1:i=a
 · by_cases c2:i=b
   · omega
   · rw[if_pos c1,if_neg c2]
     subst c1
     exact h2 _ (h i b ha hb hab)
 · by_cases c2:i=b
   · rw[if_neg c1,if_pos c2]
     subst c2
     exact h1 _ (h a i ha hb hab)
   · rw[if_neg c1,if_neg c2]
     exact h a b ha hb hab
theorem aI7 {l:List dT} {f:cI} (h:HOk l) (hl:l.length≤3) (hf:dJ f=true) (hk:f.kind=1):HOk (bY l f).1∧(bY l f).1.length≤3:=by
 have hp:=aQg h hl hf hk
 have hlt:=wt (f:=f) hl
 by_cases hfit:qQ (bW l f) f=true
 · rw[cn hfit]
   have hh:bW l f=(dL l f).1[(dL l f).2]:=mM hlt.1
   have hok:=hp.1 _ (List.getElem_mem hlt.1)
   rw[← hh,vO] at hok
   have hg:=aQf hok.2 (ib hf hk).2.1 (lE hok.1).2.2.2.2.2
   refine⟨⟨fun x hx=> ?_,?_⟩,by simpa using hlt.2⟩
   · rcases List.mem_or_eq_of_mem_set hx with hx|rfl
     · exact hp.1 x hx
     · rw[vO]
       refine⟨?_,hg.1⟩
       have h1:=hok.1
       unfold qN at h1 ⊢
       simp only[aV1] at h1 ⊢
       exact⟨h1.1,decide_eq_true (by have:=hg.2;show((ny (bW l f).got ⟨f.mix,f.data⟩).length:Int)≤14;omega)⟩
   · refine aT1 hp.2 hlt.1 (fun y hy=> ?_) (fun y hy=> ?_)
     · rw[← hh] at hy;exact hy
     · rw[← hh] at hy;exact hy
 · rw[ia hfit]
   exact⟨hp,hlt.2⟩
theorem aH1 {l:List dT} {f:cI} {i:Nat} (h: (bY l f).2=(i:Int)):i< (bY l f).1.length:=by
 by_cases hfit:qQ (bW l f) f=true
 · rw[cn hfit] at h ⊢
   have h: (((dL l f).2:Nat):Int)=(i:Int):=h
   have h2: (dL l f).2< (dL l f).1.length:=by
    by_cases hn:gM l f.frm f.num<0
    · rw[cm hn];simp
    · rw[gz hn];exact(aH0 hn).1
   simp only[List.length_set];omega
 · rw[ia hfit] at h
   have h: (-1:Int)=(i:Int):=h
   omega
theorem aFo (size:Int) (l:List gC): (dK size l).1.length≤size.toNat:=by
 unfold dK
 split
 · split
   · exact aV5 _
   · split
     · exact aV5 _
     · rw[aV4];omega
 · exact aV5 _
section
variable {k:aJ} {f:cI} {l:List dT} {i:Nat}
theorem ll (h: ¬(dK f.size (l.getD i .zero).got).2=true):oE k f l i=(dV k l,[]):=if_neg h
theorem eg (h: (dK f.size (l.getD i .zero).got).2=true) (he:iF (eM f (dK f.size (l.getD i .zero).got).1)=[]):oE k f l i=(dV k (hF l i),[]):=by
 rw[oE,if_pos h,if_pos he]
theorem zP (h: (dK f.size (l.getD i .zero).got).2=true) (he: ¬iF (eM f (dK f.size (l.getD i .zero).got).1)=[]) (hw: ¬(fQ (dV k (hF l i)) (fH gD (eM f (dK f.size (l.getD i .zero).got).1)) true).2=true):
 oE k f l i=((fQ (dV k (hF l i)) (fH gD (eM f (dK f.size (l.getD i .zero).got).1)) true).1,[]):=by
 rw[oE,if_pos h,if_neg he,if_neg hw]
theorem lm (h: (dK f.size (l.getD i .zero).got).2=true) (he: ¬iF (eM f (dK f.size (l.getD i .zero).got).1)=[]) (hw: (fQ (dV k (hF l i)) (fH gD (eM f (dK f.size (l.getD i .zero).got).1)) true).2=true):
 oE k f l i=((fQ (dV k (hF l i)) (fH gD (eM f (dK f.size (l.getD i .zero).got).1)) true).1,[ba 2 f]):=by
 rw[oE,if_pos h,if_neg he,if_pos hw]
end
theorem fj {k:aJ} {rec:List UInt8} {fc:Bool} (hl:k.log.length≤140737488355328): (fQ k rec fc).1.halves=k.halves:=by
 unfold fQ
 split
 · have:=(aFh (k:=k) (rec:=rec) hl).2
   cases fc
   · exact this
   · exact this
 · rfl
theorem qy {k:aJ} {f:cI} (hok:aZ k=true) (hu:k.up=true) (hf:dJ f=true) (hk:f.kind=1):HOk (dS k f).1.halves∧(dS k f).1.halves.length≤3:=by
 have h0:=lj hok
 have hlg:=fP hok
 have h1:=aI7 (f:=f) h0 hlg.2.2.2.1 hf hk
 have hcut: ∀i,HOk (hF (bY k.halves f).1 i)∧(hF (bY k.halves f).1 i).length≤3:=fun i=>⟨aI6 h1.1 i,Nat.le_trans (xP _ i) h1.2⟩
 unfold dS
 split
 · exact⟨h0,hlg.2.2.2.1⟩
 · split
   · exact⟨h0,hlg.2.2.2.1⟩
   · split
     · exact⟨h0,hlg.2.2.2.1⟩
     · split
       · exact h1
       · by_cases h2: (dK f.size ((bY k.halves f).1.getD (bY k.halves f).2.toNat .zero).got).2=true
         · by_cases h3:iF (eM f (dK f.size ((bY k.halves f).1.getD (bY k.halves f).2.toNat .zero).got).1)=[]
           · rw[eg h2 h3];exact hcut _
           · have hlog: (dV k (hF (bY k.halves f).1 (bY k.halves f).2.toNat)).log.length≤140737488355328:=by show k.log.length≤_;omega
             by_cases h4: (fQ (dV k (hF (bY k.halves f).1 (bY k.halves f).2.toNat)) (fH gD (eM f (dK f.size ((bY k.halves f).1.getD (bY k.halves f).2.toNat .zero).got).1)) true).2=true
             · rw[lm h2 h3 h4];dsimp only;rw[fj hlog];exact hcut _
             · rw[zP h2 h3 h4];dsimp only;rw[fj hlog];exact hcut _
         · rw[ll h2];exact h1
theorem aI8 {l:List dT} (h:HOk l): ∀x∈l,x.got.length≤14:=fun x hx=>(lE ((vO x).1 (h.1 x hx)).1).2.2.2.2.2
section
variable {k:aJ} {f:cI}
theorem wv (h: ¬aZ k=true):dC k f=(.zero,[]):=if_neg h
theorem ww (h:aZ k=true) (h2: ¬(k.up&&dJ f&&f.dst==k.id)=true):dC k f=(k,[]):=by rw[dC,if_pos h,if_neg h2]
theorem ic (h:aZ k=true) (h2: (k.up&&dJ f&&f.dst==k.id)=true) (h3:f.kind=1):dC k f=dS k f:=by rw[dC,if_pos h,if_pos h2,if_pos h3]
theorem wx (h:aZ k=true) (h2: (k.up&&dJ f&&f.dst==k.id)=true) (h3: ¬f.kind=1) (h4:cl k f=true):dC k f=((fQ k (nz f) false).1,[]):=by rw[dC,if_pos h,if_pos h2,if_neg h3,if_pos h4]
theorem oa (h:aZ k=true) (h2: (k.up&&dJ f&&f.dst==k.id)=true) (h3: ¬f.kind=1) (h4: ¬cl k f=true):dC k f=(k,[]):=by rw[dC,if_pos h,if_pos h2,if_neg h3,if_neg h4]
end
theorem aBm {k:aJ} {f:cI} {c:Bool} (hok:aZ k=true) (h: (f.kind != 2||decide (aW (bB k).1.held f.frm f.num<0)||sd ((List.drop 3 ((aE (bB k).1.held).getD (aW (bB k).1.held f.frm f.num).toNat [])).getD 0 (.i 0)) != f.til||
 sd ((List.drop 2 ((aE (bB k).1.held).getD (aW (bB k).1.held f.frm f.num).toNat [])).getD 0 (.i 0)) != f.to)=c):cl k f= !c:=by
 subst h
 unfold cl
 by_cases hp:0≤aW (bB k).1.held f.frm f.num
 · obtain⟨j,hj,hjl,_⟩:=pR hok hp
   rw[hj,aVy,aT hjl]
   show _= !(f.kind != 2||decide ((j:Int)<0)||((bB k).1.held.getD j .zero).til != f.til||((bB k).1.held.getD j .zero).to != f.to)
   have e1:decide ((j:Int)<0)=false:=by simp
   have e2:decide (0≤(j:Int))=true:=by simp
   rw[e1,e2]
   simp only[bne]
   cases f.kind==2<;>cases ((bB k).1.held.getD j .zero).til==f.til<;>cases ((bB k).1.held.getD j .zero).to==f.to<;>rfl
 · have e1:decide (aW (bB k).1.held f.frm f.num<0)=true:=by simp;omega
   have e2:decide (0≤aW (bB k).1.held f.frm f.num)=false:=by simp;omega
   rw[e1,e2]
   simp
theorem aN2 {k:aJ} {f:cI} (hok:aZ k=true) (h: (f.kind != 2||decide (aW (bB k).1.held f.frm f.num<0)||sd ((List.drop 3 ((aE (bB k).1.held).getD (aW (bB k).1.held f.frm f.num).toNat [])).getD 0 (.i 0)) != f.til||
 sd ((List.drop 2 ((aE (bB k).1.held).getD (aW (bB k).1.held f.frm f.num).toNat [])).getD 0 (.i 0)) != f.to)=true): ¬cl k f=true:=by rw[aBm hok h];simp
theorem aLf {k:aJ} {f:cI} (hok:aZ k=true) (h: (f.kind != 2||decide (aW (bB k).1.held f.frm f.num<0)||sd ((List.drop 3 ((aE (bB k).1.held).getD (aW (bB k).1.held f.frm f.num).toNat [])).getD 0 (.i 0)) != f.til||
 sd ((List.drop 2 ((aE (bB k).1.held).getD (aW (bB k).1.held f.frm f.num).toNat [])).getD 0 (.i 0)) != f.to)=false):cl k f=true:=by rw[aBm hok h];rfl
structure EvR where
 kind:Int
 at_:Int
 frm:Int
 num:Int
 word:Int
 mix:Int
 keep:Int
 dst:Int
 til:Int
 text:List UInt8
def EvR.row (e:EvR):List D:=[.i e.kind,.i e.at_,.i e.frm,.i e.num,.i e.word,.i e.mix,.i e.keep,.i e.dst,.i e.til,.s e.text]
abbrev EvR.V (e:EvR):V:= .e (.agg [.d (.i e.kind),.d (.i e.at_),.d (.i e.frm),.d (.i e.num),.d (.i e.word),.d (.i e.mix),.d (.i e.keep),.d (.i e.dst),.d (.i e.til),.d (.s e.text)])
def Adj (a b:Int):Prop:=(0≤a∧a≤3)∧(0≤b∧b≤3)∧ ¬(a=3∧b=3)
def FP (f:cI):Prop:=Adj f.src f.dst∧f.data.length≤1000
def PP (p:qP):Prop:=Adj p.frm p.to∧p.data.length≤1000
def eY (r:List D):Prop:= ∃p:qP,r=p.row∧PP p
def cO (r:List D):Prop:= ∃n:bA,r=n.row∧n.text.length≤1000000
def iX (r:List D):Prop:=True
theorem wy:eY [.i 0,.i 0,.s [],.b false]:=⟨⟨0,0,[],false⟩,rfl,by unfold PP Adj;simp⟩
theorem aFp:cO [.i 0,.i 0,.i 0,.i 0,.s []]:=⟨⟨0,0,0,0,[]⟩,rfl,aV5 _⟩
def co (a b:Int):Int:=if a<b then a else b
theorem aC6 {a b:Int} (h:Adj a b):0≤co a b∧co a b≤2:=by
 obtain⟨h1,h2,h3⟩:=h
 unfold co
 split<;>omega
theorem qR:iq .zero:=⟨aV5 _,aV5 _,fun x h=>(by cases h)⟩
def Sm (k' k:aJ):Prop:=k'.log.length≤2400∧k'.halves=k.halves
theorem Sm.ks {k k':aJ} (h:Sm k' k) (hk:iq k):iq k':=⟨h.1,by rw[h.2];exact hk.2.1,by rw[h.2];exact hk.2.2⟩
theorem Sm.refl {k:aJ} (h:k.log.length≤2400):Sm k k:=⟨h,rfl⟩
theorem cp {l:List UInt8} {f:Int} {rec:List UInt8} (h:l.length≤2400): (bT l f rec).1.1.length≤2400:=by
 unfold bT
 split
 · split
   · rename_i h9
     simp only[aV1,decide_eq_true_eq] at h9
     show(l++kC rec).length≤_
     rw[aVz];exact h9.2
   · exact h
 · exact aV5 _
theorem ap {l:List UInt8} {f:Int} {recs:List (List UInt8)} (h:l.length≤2400): (eR l f recs).1.1.length≤2400:=by
 unfold eR
 split
 · split
   · rename_i h9
     simp only[aV1,decide_eq_true_eq] at h9
     exact h9.2
   · exact h
 · exact aV5 _
theorem aH2 {k:aJ} {rec:List UInt8} (h:k.log.length≤2400):Sm (pT k rec).1 k:=by
 unfold pT
 split
 · split
   · exact⟨cp h,rfl⟩
   · split
     · split
       · exact⟨cp (ap h),rfl⟩
       · exact Sm.refl h
     · exact Sm.refl h
 · exact Sm.refl h
theorem oc {l:List UInt8} {f:Int} (h:l.length≤2400): (fO l f).1.length≤2400:=by
 unfold fO
 split
 · exact h
 · exact aV5 _
theorem zQ {k:aJ} (h:k.log.length≤2400):Sm (lF k) k:=⟨oc h,rfl⟩
theorem uL {k:aJ} {rec:List UInt8} {fc:Bool} (h:k.log.length≤2400):Sm (fQ k rec fc).1 k:=by
 have hl:=aH2 (rec:=rec) h
 unfold fQ
 split
 · cases fc
   · exact hl
   · exact⟨(zQ hl.1).1,hl.2⟩
 · exact Sm.refl h
theorem od {k:aJ} {rec:List UInt8} (h:k.log.length≤2400):Sm (iR k rec).1 k:=uL (fc:=true) h
theorem zR {k:aJ} (h:iq k):iq (dU k).1:=by
 unfold dU
 split
 · split
   · exact(od h.1).ks h
   · exact h
 · exact qR
theorem aLg {k:aJ} {a b:Int} {t:List UInt8} (h:iq k):iq (dR k a b t).1:=by
 unfold dR
 split
 · split
   · split
     · exact(od h.1).ks h
     · exact h
   · exact h
 · exact qR
theorem aLh {k:aJ} {a b:Int} (h:iq k):iq (cP k a b).1:=by
 unfold cP
 split
 · split
   · split
     · exact(od h.1).ks h
     · exact h
   · exact h
 · exact qR
theorem zS {k:aJ} (h:iq k):iq (eC k).1:=by
 unfold eC
 split
 · split
   · exact(show Sm (lT k (eR k.log k.forced (jJ (bB k).1)).1) k from⟨ap h.1,rfl⟩).ks h
   · exact h
 · exact qR
theorem wI {k:aJ} (h:iq k):iq (eI k).1:=by
 unfold eI
 split
 · split
   · exact h
   · exact(zQ h.1).ks h
 · exact qR
theorem aH3 {k:aJ} {keep:Int} (h:iq k):iq (nL k keep):=by
 unfold nL
 split
 · refine⟨?_,aV5 _,fun x hx=>(by cases hx)⟩
   show(jU k.log k.forced keep).1.length≤_
   have:=h.1
   unfold jU
   split
   · show(k.log.take _).length≤_
     rw[aV4];omega
   · exact aV5 _
 · exact qR
theorem aH4 {k:aJ} (h:iq k):iq (jX k):=by
 unfold jX
 split
 · exact h
 · exact qR
theorem aLi {k:aJ} (hl:k.log.length≤2400) (h:HOk k.halves∧k.halves.length≤3):iq k:=⟨hl,by have:=h.2;omega,fun x hx=>by have:=aI8 h.1 x hx;omega⟩
theorem yw {k:aJ} {f:cI} (h:k.log.length≤2400): (dS k f).1.log.length≤2400:=by
 unfold dS
 split
 · exact h
 · split
   · exact(zQ h).1
   · split
     · exact h
     · split
       · exact h
       · by_cases h2: (dK f.size ((bY k.halves f).1.getD (bY k.halves f).2.toNat .zero).got).2=true
         · by_cases h3:iF (eM f (dK f.size ((bY k.halves f).1.getD (bY k.halves f).2.toNat .zero).got).1)=[]
           · rw[eg h2 h3];exact h
           · have hlog: (dV k (hF (bY k.halves f).1 (bY k.halves f).2.toNat)).log.length≤2400:=h
             by_cases h4: (fQ (dV k (hF (bY k.halves f).1 (bY k.halves f).2.toNat)) (fH gD (eM f (dK f.size ((bY k.halves f).1.getD (bY k.halves f).2.toNat .zero).got).1)) true).2=true
             · rw[lm h2 h3 h4];exact(uL hlog).1
             · rw[zP h2 h3 h4];exact(uL hlog).1
         · rw[ll h2];exact h
theorem aH5 {k:aJ} {f:cI} (h:iq k):iq (dC k f).1:=by
 by_cases hok:aZ k=true
 · by_cases hgo: (k.up&&dJ f&&f.dst==k.id)=true
   · have h1:k.up=true:=by simp at hgo;exact hgo.1.1
     have h2:dJ f=true:=by simp at hgo;exact hgo.1.2
     by_cases hk:f.kind=1
     · rw[ic hok hgo hk]
       exact aLi (yw h.1) (qy hok h1 h2 hk)
     · by_cases hl:cl k f=true
       · rw[wx hok hgo hk hl];exact(uL h.1).ks h
       · rw[oa hok hgo hk hl];exact h
   · rw[ww hok hgo];exact h
 · rw[wv hok];exact qR
theorem aQi {kind:Int} {f:cI} (h:dJ f=true):FP (ba kind f):=by
 have hs:=lO h
 refine⟨⟨hs.2.1,hs.1,?_⟩,aV5 _⟩
 intro ⟨e1,e2⟩
 have e1:f.dst=3:=e1
 have e2:f.src=3:=e2
 by_cases hk:f.kind=1
 · have:=(aKa h hk).2;omega
 · have:=(aKb h hk).2;omega
theorem aC7 {k:aJ} {f:cI} (h:dJ f=true): (∀g∈(dS k f).2,FP g)∧(dS k f).2.length≤1:=by
 have one: ∀c,(∀g∈[ba c f],FP g)∧[ba c f].length≤1:=fun c=>⟨fun g hg=>by rw[aWg.1 hg];exact aQi h,aWa _⟩
 have none: (∀g∈([]:List cI),FP g)∧([]:List cI).length≤1:=⟨fun g hg=>(by cases hg),aV5 _⟩
 unfold dS
 split
 · exact one 3
 · split
   · exact one 2
   · split
     · exact none
     · split
       · exact none
       · by_cases h2: (dK f.size ((bY k.halves f).1.getD (bY k.halves f).2.toNat .zero).got).2=true
         · by_cases h3:iF (eM f (dK f.size ((bY k.halves f).1.getD (bY k.halves f).2.toNat .zero).got).1)=[]
           · rw[eg h2 h3];exact none
           · by_cases h4: (fQ (dV k (hF (bY k.halves f).1 (bY k.halves f).2.toNat)) (fH gD (eM f (dK f.size ((bY k.halves f).1.getD (bY k.halves f).2.toNat .zero).got).1)) true).2=true
             · rw[lm h2 h3 h4];exact one 2
             · rw[zP h2 h3 h4];exact none
         · rw[ll h2];exact none
theorem aI9 {k:aJ} {f:cI}: (∀g∈(dC k f).2,FP g)∧(dC k f).2.length≤1:=by
 have none: (∀g∈([]:List cI),FP g)∧([]:List cI).length≤1:=⟨fun g hg=>(by cases hg),aV5 _⟩
 by_cases hok:aZ k=true
 · by_cases hgo: (k.up&&dJ f&&f.dst==k.id)=true
   · have h2:dJ f=true:=by simp at hgo;exact hgo.1.2
     by_cases hk:f.kind=1
     · rw[ic hok hgo hk];exact aC7 h2
     · by_cases hl:cl k f=true
       · rw[wx hok hgo hk hl];exact none
       · rw[oa hok hgo hk hl];exact none
   · rw[ww hok hgo];exact none
 · rw[wv hok];exact none
theorem aLj (k:bO) (n:bA): (jN k n).1.id=k.id:=by
 unfold jN
 repeat' split
 all_goals rfl
theorem aN3 (k:bO) (w:List UInt8) (n:Int): (nB k w n).1.id=k.id:=by
 unfold nB
 repeat' split
 all_goals rfl
theorem aLk (k:bO) (w:List UInt8) (n:bA): (gK k w n).1.id=k.id:=by
 unfold gK
 repeat' split
 all_goals first|rfl|exact aLj _ _
theorem aLl (k:bO) (w:List UInt8) (m:cM): (jO k w m).1.id=k.id:=by
 unfold jO
 repeat' split
 all_goals rfl
theorem aLm (k:bO) (rec:List UInt8): (gI k rec).1.id=k.id:=by
 unfold gI
 repeat' split
 all_goals first|rfl|exact aN3 _ _ _|exact aLk _ _ _|exact aLl _ _ _
theorem aLn {k:bO} {rec:List UInt8} (h: (eH k rec).2=true): (eH k rec).1.id=k.id:=by
 unfold eH at h ⊢
 split at h
 · rename_i hk
   rw[if_pos hk]
   unfold oJ
   split
   · exact aLm k rec
   · rfl
 · cases h
theorem aBn: ∀{rs:List (List UInt8)} {k:bO},(oK k rs).2=true→(oK k rs).1.id=k.id
 | [],k,_=>rfl
 |r::rs,k,h=>by
  unfold oK at h ⊢
  split at h
  · rename_i hd
    rw[if_pos hd,aBn h,aLn hd]
  · cases h
theorem aFq {k:aJ} (h:aZ k=true): (bB k).1.id=k.id:=by
 unfold aZ at h
 simp only[aV1] at h
 have h2:=h.1.1.2
 unfold bB gL at h2 ⊢
 split at h2
 · rename_i hn
   rw[if_pos hn,aBn h2]
   unfold eB
   rw[if_pos hn]
 · cases h2
theorem aC8 {a b:Int} (ha:eA a=true) (hb:eA b=true) (h:a≠b):Adj a (fR a b)∧(a - fR a b=1∨fR a b - a=1):=by
 have h1:0≤a∧a≤3:=by simpa[eA,fG] using ha
 have h2:0≤b∧b≤3:=by simpa[eA,fG] using hb
 have e:fR a b=if a<b then a+1 else a - 1:=by
  unfold fR
  rw[ha,hb,beq_eq_false_iff_ne.2 h];rfl
 rw[e]
 unfold Adj
 split<;>omega
theorem aT2 {k:aJ} {a b c:Int} (h: (aU k a b c).2=true):FP (aU k a b c).1:=by
 unfold aU at h ⊢
 split at h
 · rename_i hc
   rw[if_pos hc]
   simp only[aV1,decide_eq_true_eq] at hc
   obtain⟨⟨⟨hok,hu⟩,hm⟩,hat⟩:=hc
   obtain⟨j,hj,hjl,_⟩:=pR hok hat
   rw[hj,aVy]
   have hp:=(cH _).1 (gU hok)
   have hh:=pS.1 hp.2.2.1 j hjl
   have hn:=pS.1 hp.2.1.1 j hjl
   unfold tC at hh
   unfold lD fA at hn
   simp only[aV1] at hh hn
   have hw:=hh.1.2
   unfold al at hw
   simp only[aV1] at hw
   have hid:=aFq hok
   have h1:eA k.id=true:=by rw[← hid];exact hp.1.1
   have h2:=hn.1.1.1.1.2
   have h3:k.id≠((bB k).1.held.getD j .zero).to:=by rw[← hid];simpa using hw.1
   exact⟨(aC8 h1 h2 h3).1,by have:=vu ((bB k).1.held.getD j .zero).text c;show(kD _ c).length≤_;omega⟩
 · cases h
section
variable {P:Program} {T:gO} {o:Oper} {σ σ1:St} {x:Operand} {t e:TypeId} {s1 s2 d j es n:Nat} {s3:List C} {Z:fy} {R:List (dG×Option K)} {g:Bool} {k:List (dG×Option K)→V→Prop}
theorem aC9 (hT:dM P T) (ho:o.op= .call {callee:= .builtin .len,args:= #[x],argTypes:= #[t]}) (hd:o.dst=some d) (ht:T t=some ⟨.sl e,s1,s2,s3⟩) (hx:ev σ1 x=some (.e (.c (ps j es n)),R)) (hl:aR σ1 (.o j)=some (.zone Z))
 (hr:g=true→oG σ (R++[(.o j,some (.zone Z))])) (h:k (R++[(.o j,some (.zone Z))]) (I n)): ∃R X,(g=true→vT P o R [(.t d,.v X)]∧bV R σ1)∧(g=true→oG σ R)∧k R X:=by
 obtain⟨R',W',h1,h2,e1,e2⟩:=gm (k:=fun R' W'=>R'=R++[(.o j,some (.zone Z))]∧W'=[(.t d,.v (I n))]) hT ho hd ht hx hl ⟨rfl,rfl⟩
 subst e1;subst e2
 exact⟨_,_,fun _=>⟨h1,h2⟩,hr,h⟩
end
theorem wz {l:List cI} {i:Nat} (h:i<l.length): (mT l).getD i []=(l.getD i cI.zero).row:=by
 rw[aV6,aV6]
 simp[mT,h]
def fk (a n:Nat):Nat:=a+min n (30 - a)
theorem xa {a n:Nat} (h:a≤30):fk a n≤30:=by unfold fk;omega
structure ye (ks:List aJ) (ls:List Bool) (a b c:Nat):Prop where
 four:ks.length=4
 small: ∀k∈ks,iq k
 three:ls.length=3
 ra:a≤30
 rb:b≤6
 rc:c≤6
theorem ye.at {ks:List aJ} {ls:List Bool} {a b c i:Nat} (h:ye ks ls a b c) (hi:i<4):iq (ks.getD i .zero):=h.small _ (dH (by rw[h.four];exact hi))
theorem ye.set {ks:List aJ} {ls:List Bool} {a b c:Nat} (h:ye ks ls a b c) {k:aJ} (hk:iq k) (i:Nat):ye (ks.set i k) ls a b c:=
 ⟨by rw[List.length_set];exact h.four,fun x hx=>by rcases List.mem_or_eq_of_mem_set hx with hx|rfl;exact h.small x hx;exact hk,h.three,h.ra,h.rb,h.rc⟩
theorem ye.to {ks:List aJ} {ls:List Bool} {a b c a' b' c':Nat} (h:ye ks ls a b c) (h1:a'≤30) (h2:b'≤6) (h3:c'≤6):ye ks ls a' b' c':=⟨h.four,h.small,h.three,h1,h2,h3⟩
theorem ye.links {ks:List aJ} {ls ls':List Bool} {a b c:Nat} (h:ye ks ls a b c) (h1:ls'.length=3):ye ks ls' a b c:=⟨h.four,h.small,h1,h.ra,h.rb,h.rc⟩
theorem bM {l:List aJ} {i:Nat} {k:aJ} (hi:i<l.length): (aF l).set i (cX ((aF l).getD i []) 0 k.row)=aF (l.set i k):=by
 rw[cD hi]
 have:cX ((l.getD i .zero).row) 0 k.row=k.row:=rfl
 rw[this]
 simp[aF,List.map_set]
theorem aDa {l:List Bool} {i:Nat} {x:Bool} (hi:i<l.length): (aL l).set i (cX ((aL l).getD i []) 0 [D.b x])=aL (l.set i x):=by
 rw[kW hi]
 have:cX [D.b (l.getD i false)] 0 [D.b x]=[D.b x]:=rfl
 rw[this]
 simp[aL,List.map_set]
theorem wJ {a:Int} (h:0≤a∧a≤3): ∃i:Nat,a=(i:Int)∧i<4:=⟨a.toNat,by omega,by omega⟩
theorem aN4 {k:aJ} {a b:Int} (h:iq k): (cP k a b).2.1.text.length≤1000000:=by
 unfold cP
 split
 · rename_i hok
   split
   · split
     · rename_i hc _
       simp only[aV1,decide_eq_true_eq] at hc
       obtain⟨j,hj,hjl,_⟩:=wg hok hc.2
       rw[hj,aVy]
       have h6:=(cH _).1 (gU hok)
       have hn:=sO h6.2.1.2.2 (dH (z:=bA.zero) hjl)
       unfold fA yU at hn
       simp only[aV1] at hn
       have h24:1≤(((bB k).1.inbox.getD j .zero).text.length:Int)∧(((bB k).1.inbox.getD j .zero).text.length:Int)≤24:=by simpa[fG] using hn.2.2
       show((bB k).1.inbox.getD j .zero).text.length≤_
       omega
     · exact aV5 _
   · exact aV5 _
 · exact aV5 _
def mgC (j j2:Nat):C→C
 | .z o Q=> .z (if o=j2 then j else o) Q
 |c=>c
def mgE (j j2:Nat):E→E
 | .c x=> .c (mgC j j2 x)
 | .agg cs=> .agg (cs.map (mgC j j2))
def mgV (j j2:Nat):V→V
 | .e x=> .e (mgE j j2 x)
 | .tup xs=> .tup (xs.map (mgE j j2))
def mgK (j j2:Nat):K→K
 | .v x=> .v (mgV j j2 x)
 | .cv s w b x=> .cv s w b (mgV j j2 x)
 | .box ty cs=> .box ty (cs.map (mgC j j2))
 |k=>k
def mgS (j j2:Nat) (σ:St):St:=σ.map fun p=>(p.1,if p.1= .o j2 then .dead else mgK j j2 p.2)
theorem oF (j j2:Nat) (σ:St) (l:dG):aR (mgS j j2 σ) l=(aR σ l).map fun k=>if l= .o j2 then .dead else mgK j j2 k:=by
 induction σ with
 |nil=>rfl
 |cons p r ih=>
  unfold mgS at ih ⊢
  rw[List.map_cons]
  unfold aR
  by_cases h:p.1=l
  · simp[h]
  · simp only[h,if_false];exact ih
def cq:Value→Value→Value
 | .tuple a,.tuple b=> .tuple (a++b)
 |p,_=>p
theorem ln {p q v:Value} (hp: ∃vs,p= .tuple vs) (hq: ∃vs,q= .tuple vs):tz (cq p q) v↔tz p v∨tz q v:=by
 obtain⟨a,rfl⟩:=hp
 obtain⟨b,rfl⟩:=hq
 simp[tz,cq]
theorem aDb {p:Value} (hp: ∃vs,p= .tuple vs) {b:Nat}:uW p b↔ ∃v,tz p v∧blk v=some b:=by
 obtain⟨a,rfl⟩:=hp
 simp[tz,uW]
section
variable {σ:St} {ι ν:Nat→Value} {S:Nat→Prop} {w:World} {j j2 es:Nat} {e:TypeId} {Pr:List D→Prop}
theorem CR.mg (h1:aR σ (.o j)=some (aI e es Pr)) (h2:aR σ (.o j2)=some (aI e es Pr)) (hne:j≠j2) (hp: ∃vs,ι j= .tuple vs) (hq: ∃vs,ι j2= .tuple vs) {c:C} {v:Value} (h:CR σ ι w S c v):
 CR (mgS j j2 σ) (fun o=>if o=j then cq (ι j) (ι j2) else ι o) w S (mgC j j2 c) v:=by
 cases c with
 |d x=>exact h
 |nil=>exact h
 |own o n=>
  refine⟨h.1,?_⟩
  rcases h.2 with⟨e',es',rows,hl,hn,hv⟩|hl
  · have ho:o≠j:=fun e=>by rw[e,h1] at hl;cases hl
    have ho2:o≠j2:=fun e=>by rw[e,h2] at hl;cases hl
    refine .inl ⟨e',es',rows,by rw[oF,hl];simp[ho2,mgK],hn,fun hh=> ?_⟩
    dsimp only;rw[if_neg ho];exact hv hh
  · right;rw[oF,hl];simp[mgK]
 |pt o k=>
  refine⟨h.1,?_⟩
  rcases h.2 with⟨ty,cs,hl,b,hi,hv⟩|hl
  · have ho:o≠j:=fun e=>by rw[e,h1] at hl;cases hl
    have ho2:o≠j2:=fun e=>by rw[e,h2] at hl;cases hl
    refine .inl ⟨ty,cs.map (mgC j j2),by rw[oF,hl];simp[ho2,mgK],b,?_,hv⟩
    dsimp only;rw[if_neg ho];exact hi
  · right;rw[oF,hl];simp[mgK]
 |pe o n i k=>
  refine⟨h.1,?_⟩
  rcases h.2 with⟨e',es',rows,hl,hn,hv⟩|hl
  · have ho:o≠j:=fun e=>by rw[e,h1] at hl;cases hl
    have ho2:o≠j2:=fun e=>by rw[e,h2] at hl;cases hl
    refine .inl ⟨e',es',rows,by rw[oF,hl];simp[ho2,mgK],hn,fun hh=> ?_⟩
    dsimp only;rw[if_neg ho];exact hv hh
  · right;rw[oF,hl];simp[mgK]
 |rp cs=>exact h
 |z o Q=>
  refine⟨h.1,?_⟩
  have hj:aR (mgS j j2 σ) (.o j)=some (aI e es Pr):=by rw[oF,h1];simp[hne,mgK]
  rcases h.2 with⟨Z,hl,hv⟩|hl
  · by_cases ho2:o=j2
    · subst ho2
      rw[h2] at hl;cases hl
      refine .inl ⟨aMp e es Pr,by rw[if_pos rfl];exact hj,fun p hpp=>hv p fun v hv'=> ?_⟩
      rw[if_pos rfl] at hpp
      dsimp only at hpp
      rw[if_pos rfl] at hpp
      exact hpp v ((ln hp hq).2 (.inr hv'))
    · rw[if_neg ho2]
      by_cases ho:o=j
      · subst ho
        rw[h1] at hl;cases hl
        refine .inl ⟨aMp e es Pr,hj,fun p hpp=>hv p fun v hv'=> ?_⟩
        dsimp only at hpp
        rw[if_pos rfl] at hpp
        exact hpp v ((ln hp hq).2 (.inl hv'))
      · refine .inl ⟨Z,by rw[oF,hl];simp[ho2,mgK],fun p hpp=>hv p ?_⟩
        dsimp only at hpp
        rw[if_neg ho] at hpp
        exact hpp
  · have ho2:o≠j2:=fun e=>by rw[e,h2] at hl;cases hl
    right;rw[if_neg ho2,oF,hl];simp[ho2,mgK]
theorem ER.mg (h1:aR σ (.o j)=some (aI e es Pr)) (h2:aR σ (.o j2)=some (aI e es Pr)) (hne:j≠j2) (hp: ∃vs,ι j= .tuple vs) (hq: ∃vs,ι j2= .tuple vs) {c:E} {v:Value} (h:ER σ ι w S c v):
 ER (mgS j j2 σ) (fun o=>if o=j then cq (ι j) (ι j2) else ι o) w S (mgE j j2 c) v:=by
 cases c with
 |c x=>exact CR.mg h1 h2 hne hp hq h
 |agg cs=>
  obtain⟨vs,hv,hl,hk⟩:=h
  refine⟨vs,hv,by simp[hl],fun k c u hc hu=> ?_⟩
  rw[List.getElem?_map] at hc
  cases hx:cs[k]? with
  |none=>rw[hx] at hc;cases hc
  |some c0=>rw[hx] at hc;cases hc;exact CR.mg h1 h2 hne hp hq (hk k c0 u hx hu)
theorem lJ.mg (h1:aR σ (.o j)=some (aI e es Pr)) (h2:aR σ (.o j2)=some (aI e es Pr)) (hne:j≠j2) (hp: ∃vs,ι j= .tuple vs) (hq: ∃vs,ι j2= .tuple vs) {c:V} {v:Value} (h:lJ σ ι w S c v):
 lJ (mgS j j2 σ) (fun o=>if o=j then cq (ι j) (ι j2) else ι o) w S (mgV j j2 c) v:=by
 cases c with
 |e x=>exact ER.mg h1 h2 hne hp hq h
 |tup cs=>
  obtain⟨vs,hv,hl,hk⟩:=h
  refine⟨vs,hv,by simp[hl],fun k c u hc hu=> ?_⟩
  rw[List.getElem?_map] at hc
  cases hx:cs[k]? with
  |none=>rw[hx] at hc;cases hc
  |some c0=>rw[hx] at hc;cases hc;exact ER.mg h1 h2 hne hp hq (hk k c0 u hx hu)
theorem kM.mg (h1:aR σ (.o j)=some (aI e es Pr)) (h2:aR σ (.o j2)=some (aI e es Pr)) (hne:j≠j2) (hp: ∃vs,ι j= .tuple vs) (hq: ∃vs,ι j2= .tuple vs) {o b:Nat} (h:kM (mgS j j2 σ) (fun o=>if o=j then cq (ι j) (ι j2) else ι o) o b):
 o≠j2∧(kM σ ι o b∨(o=j∧kM σ ι j2 b)):=by
 obtain⟨⟨k,hk,hl⟩,hb⟩:=h
 rw[oF] at hk
 by_cases ho2:o=j2
 · subst ho2
   rw[h2] at hk
   simp at hk
   subst hk
   exact hl.elim
 · refine⟨ho2,?_⟩
   by_cases ho:o=j
   · subst ho
     dsimp only at hb
     rw[if_pos rfl,aDb (by obtain⟨a,ha⟩:=hp;obtain⟨b,hb⟩:=hq;rw[ha,hb];exact⟨_,rfl⟩)] at hb
     obtain⟨v,hv,hbv⟩:=hb
     rcases(ln hp hq).1 hv with hv|hv
     · exact .inl ⟨⟨_,h1,trivial⟩,(aDb hp).2 ⟨v,hv,hbv⟩⟩
     · exact .inr ⟨rfl,⟨_,h2,trivial⟩,(aDb hq).2 ⟨v,hv,hbv⟩⟩
   · left
     dsimp only at hb
     rw[if_neg ho] at hb
     cases hx:aR σ (.o o) with
     |none=>rw[hx] at hk;cases hk
     |some k0=>
      rw[hx] at hk
      simp[ho2] at hk
      subst hk
      refine⟨⟨k0,hx,?_⟩,hb⟩
      cases k0<;>first|trivial|exact hl
theorem VR.mg (h:VR σ ι ν S w) (h1:aR σ (.o j)=some (aI e es Pr)) (h2:aR σ (.o j2)=some (aI e es Pr)) (hne:j≠j2):VR (mgS j j2 σ) (fun o=>if o=j then cq (ι j) (ι j2) else ι o) ν S w:=by
 have hp: ∃vs,ι j= .tuple vs:=(h.objs j _ h1).1
 have hq: ∃vs,ι j2= .tuple vs:=(h.objs j2 _ h2).1
 refine⟨fun s k hk=> ?_,fun o k hk=> ?_,fun o b hm=> ?_,fun o o' b hm hm'=> ?_,h.sz⟩
 · rw[oF] at hk
   cases hx:aR σ (.t s) with
   |none=>rw[hx] at hk;cases hk
   |some k0=>
    rw[hx] at hk
    simp at hk
    subst hk
    have:=h.slots s k0 hx
    cases k0 with
    |v x=>exact lJ.mg h1 h2 hne hp hq this
    |cv s w b x=>exact⟨fun hb=>lJ.mg h1 h2 hne hp hq (this.1 hb),this.2⟩
    |_=>trivial
 · rw[oF] at hk
   by_cases ho2:o=j2
   · subst ho2;rw[h2] at hk;simp at hk;subst hk;trivial
   · cases hx:aR σ (.o o) with
     |none=>rw[hx] at hk;cases hk
     |some k0=>
      rw[hx] at hk
      simp[ho2] at hk
      subst hk
      have ho':=h.objs o k0 hx
      by_cases ho:o=j
      · subst ho
        rw[h1] at hx;cases hx
        rw[if_pos rfl]
        refine⟨by obtain⟨a,ha⟩:=hp;obtain⟨b,hb⟩:=hq;rw[ha,hb];exact⟨_,rfl⟩,fun v hv=> ?_⟩
        rcases(ln hp hq).1 hv with hv|hv
        · exact(h.objs o _ h1).2 v hv
        · exact(h.objs j2 _ h2).2 v hv
      · rw[if_neg ho]
        cases k0 with
        |box ty cs=>
         obtain⟨b,vs,q1,q2,q3,q4⟩:=ho'
         refine⟨b,vs,q1,q2,by simp[q3],fun k c u hc hu=> ?_⟩
         rw[List.getElem?_map] at hc
         cases hy:cs[k]? with
         |none=>rw[hy] at hc;cases hc
         |some c0=>rw[hy] at hc;cases hc;exact CR.mg h1 h2 hne hp hq (q4 k c0 u hy hu)
        |row e es rows=>exact ho'
        |zone Z=>exact ho'
        |_=>trivial
 · rcases(kM.mg h1 h2 hne hp hq hm).2 with h'|⟨_,h'⟩
   · exact h.mutS _ b h'
   · exact h.mutS _ b h'
 · obtain⟨n1,c1⟩:=kM.mg h1 h2 hne hp hq hm
   obtain⟨n2,c2⟩:=kM.mg h1 h2 hne hp hq hm'
   rcases c1 with c1|⟨rfl,c1⟩<;>rcases c2 with c2|⟨rfl,c2⟩
   · exact h.inj o o' b c1 c2
   · exact(n1 (h.inj o j2 b c1 c2)).elim
   · exact(n2 (h.inj o' j2 b c2 c1)).elim
   · rfl
end
theorem RW.mg {P:Program} {cx:Cx P} {σ:St} {ι:Nat→Value} {S:Nat→Prop} {a:Act} {w:World} {j j2 es:Nat} {e:TypeId} {Pr:List D→Prop} (h:RW cx σ ι S a w) (h1:aR σ (.o j)=some (aI e es Pr)) (h2:aR σ (.o j2)=some (aI e es Pr)) (hne:j≠j2) (hk:cx.kio j2=none):
 RW cx (mgS j j2 σ) (fun o=>if o=j then cq (ι j) (ι j2) else ι o) S a w:=by
 have hp: ∃vs,ι j= .tuple vs:=(h.vr.objs j _ h1).1
 have hq: ∃vs,ι j2= .tuple vs:=(h.vr.objs j2 _ h2).1
 refine⟨h.vr.mg h1 h2 hne,h.size,h.defers,h.fr,fun o b hm=> ?_,h.rd,fun o k ho=> ?_⟩
 · rcases(kM.mg h1 h2 hne hp hq hm).2 with h'|⟨_,h'⟩
   · exact h.own _ b h'
   · exact h.own _ b h'
 · obtain⟨k',hk',hev⟩:=h.io o k ho
   have ho2:o≠j2:=fun e=>by rw[e,hk] at ho;cases ho
   refine⟨mgK j j2 k',by rw[oF,hk'];simp[ho2],?_⟩
   refine nE.trans hev ?_
   by_cases hj:o=j
   · subst hj
     rw[h1] at hk';cases hk'
     rw[if_pos rfl]
     exact⟨rfl,fun v hv=>(ln hp hq).2 (.inl hv)⟩
   · rw[if_neg hj]
     cases k'<;>simp[nE,mgK,fy.refl]
theorem SW.merge {P:Program} {io:List Nat} {Q:Ex→St→Prop} {σ:St} {c:Code} (j j2:Nat) {e:TypeId} {es:Nat} {Pr:List D→Prop} (h1:aR σ (.o j)=some (aI e es Pr)) (h2:aR σ (.o j2)=some (aI e es Pr)) (hne:j≠j2) (hk:iM j2 io=false) (h:SW P io c Q (mgS j j2 σ)):SW P io c Q σ:=fun cx ι S a w hio hw hf=>
 h cx _ S a w hio (hw.mg h1 h2 hne (by
  cases hx:cx.kio j2 with
  |none=>rfl
  |some k=>exact absurd (gP.2 (hio j2 k hx)) (by rw[hk];simp))) hf
def aJa (P:Program) (io:List Nat) (s q:St):Prop:= ∀c Q,SW P io c Q q→SW P io c Q s
section
variable {P:Program} {io:List Nat} {σ q:St} {Q:Ex→St→Prop}
theorem lp (h:WK io (fun x=>x=q) σ):aJa P io σ q:=fun c Q hq=>SW.wk h (fun s hs=>by subst hs;exact hq)
theorem aFr (j j2:Nat) {e:TypeId} {es:Nat} {Pr:List D→Prop} (h1:aR σ (.o j)=some (aI e es Pr)) (h2:aR σ (.o j2)=some (aI e es Pr)) (hne:j≠j2) (hk:iM j2 io=false) (h:aJa P io (mgS j j2 σ) q):aJa P io σ q:=
 fun c Q hq=>SW.merge j j2 h1 h2 hne hk (h c Q hq)
theorem SW.midL {A:Type} (ok:A→Prop) (st:A→St) {x y:Code} (h:SW P io x (iz (fun s=> ∃a,ok a∧aJa P io s (st a)) Q) σ) (hy: ∀a,ok a→SW P io y Q (st a)):SW P io (.seq x y) Q σ:=
 SW.mid _ h fun s ⟨a,h1,h2⟩=>h2 y Q (hy a h1)
end
theorem vq {p:Prop} (h:p:=by first|exact True.intro|rfl|exact aV0 rfl|exact⟨rfl,aV0 rfl⟩|exact⟨by kernel_rfl,aV0 (by kernel_rfl)⟩|omega|((repeat' apply And.intro)<;>first|trivial|rfl|exact aV0 rfl|omega)|(simp;done)|(simp;omega)):p:=h
theorem s1 {p1 k:Prop} (x:k) (h1:p1:=by exact vq):p1∧k:=⟨h1,x⟩
theorem s2 {p1 p2 k:Prop} (x:k) (h1:p1:=by exact vq) (h2:p2:=by exact vq):p1∧p2∧k:=⟨h1,h2,x⟩
theorem s3 {p1 p2 p3 k:Prop} (x:k) (h1:p1:=by exact vq) (h2:p2:=by exact vq) (h3:p3:=by exact vq):p1∧p2∧p3∧k:=⟨h1,h2,h3,x⟩
theorem s4 {p1 p2 p3 p4 k:Prop} (x:k) (h1:p1:=by exact vq) (h2:p2:=by exact vq) (h3:p3:=by exact vq) (h4:p4:=by exact vq):p1∧p2∧p3∧p4∧k:=⟨h1,h2,h3,h4,x⟩
theorem s5 {p1 p2 p3 p4 p5 k:Prop} (x:k) (h1:p1:=by exact vq) (h2:p2:=by exact vq) (h3:p3:=by exact vq) (h4:p4:=by exact vq) (h5:p5:=by exact vq):p1∧p2∧p3∧p4∧p5∧k:=⟨h1,h2,h3,h4,h5,x⟩
theorem s6 {p1 p2 p3 p4 p5 p6 k:Prop} (x:k) (h1:p1:=by exact vq) (h2:p2:=by exact vq) (h3:p3:=by exact vq) (h4:p4:=by exact vq) (h5:p5:=by exact vq) (h6:p6:=by exact vq):p1∧p2∧p3∧p4∧p5∧p6∧k:=⟨h1,h2,h3,h4,h5,h6,x⟩
theorem s7 {p1 p2 p3 p4 p5 p6 p7 k:Prop} (x:k) (h1:p1:=by exact vq) (h2:p2:=by exact vq) (h3:p3:=by exact vq) (h4:p4:=by exact vq) (h5:p5:=by exact vq) (h6:p6:=by exact vq) (h7:p7:=by exact vq):p1∧p2∧p3∧p4∧p5∧p6∧p7∧k:=⟨h1,h2,h3,h4,h5,h6,h7,x⟩
theorem s8 {p1 p2 p3 p4 p5 p6 p7 p8 k:Prop} (x:k) (h1:p1:=by exact vq) (h2:p2:=by exact vq) (h3:p3:=by exact vq) (h4:p4:=by exact vq) (h5:p5:=by exact vq) (h6:p6:=by exact vq) (h7:p7:=by exact vq) (h8:p8:=by exact vq):p1∧p2∧p3∧p4∧p5∧p6∧p7∧p8∧k:=⟨h1,h2,h3,h4,h5,h6,h7,h8,x⟩
theorem s9 {p1 p2 p3 p4 p5 p6 p7 p8 p9 k:Prop} (x:k) (h1:p1:=by exact vq) (h2:p2:=by exact vq) (h3:p3:=by exact vq) (h4:p4:=by exact vq) (h5:p5:=by exact vq) (h6:p6:=by exact vq) (h7:p7:=by exact vq) (h8:p8:=by exact vq) (h9:p9:=by exact vq):p1∧p2∧p3∧p4∧p5∧p6∧p7∧p8∧p9∧k:=⟨h1,h2,h3,h4,h5,h6,h7,h8,h9,x⟩
theorem y1 {w1 p1 q1 k:Prop} (x:k) (h1:w1→p1:=by intro _;exact vq) (j1:q1:=by exact rk): (w1→p1)∧q1∧k:=⟨h1,j1,x⟩
theorem y2 {w1 p1 q1 w2 p2 q2 k:Prop} (x:k) (h1:w1→p1:=by intro _;exact vq) (j1:q1:=by exact rk) (h2:w2→p2:=by intro _;exact vq) (j2:q2:=by exact rk): (w1→p1)∧q1∧(w2→p2)∧q2∧k:=⟨h1,j1,h2,j2,x⟩
theorem y3 {w1 p1 q1 w2 p2 q2 w3 p3 q3 k:Prop} (x:k) (h1:w1→p1:=by intro _;exact vq) (j1:q1:=by exact rk) (h2:w2→p2:=by intro _;exact vq) (j2:q2:=by exact rk) (h3:w3→p3:=by intro _;exact vq) (j3:q3:=by exact rk): (w1→p1)∧q1∧(w2→p2)∧q2∧(w3→p3)∧q3∧k:=⟨h1,j1,h2,j2,h3,j3,x⟩
theorem y4 {w1 p1 q1 w2 p2 q2 w3 p3 q3 w4 p4 q4 k:Prop} (x:k) (h1:w1→p1:=by intro _;exact vq) (j1:q1:=by exact rk) (h2:w2→p2:=by intro _;exact vq) (j2:q2:=by exact rk) (h3:w3→p3:=by intro _;exact vq) (j3:q3:=by exact rk) (h4:w4→p4:=by intro _;exact vq) (j4:q4:=by exact rk): (w1→p1)∧q1∧(w2→p2)∧q2∧(w3→p3)∧q3∧(w4→p4)∧q4∧k:=⟨h1,j1,h2,j2,h3,j3,h4,j4,x⟩
section
variable {P:Program} {σ σ1 σin:St} {o:Oper} {f n:Nat} {X:V}
def aJb (σ:St) (o:Oper) (f n:Nat) (σin:St) (X:V) (k:List (dG×Option K)→Tmp→Prop):Prop:=match o.op,o.dst with
 | .call c,some d=>match c.callee,evA σ c.args.toList with
  | .value (.func f'),some (Xs,Ra)=>match Nat.beq f' f&&(Nat.beq Xs.length n&&(Xs.all oH&&oH X)) with
   |true=>σin=eL 0 Xs∧k Ra d
   |false=>False
  |_,_=>False
 |_,_=>False
theorem xb {k:List (dG×Option K)→Tmp→Prop} (h:aJb σ o f n σin X k): ∃c d Xs Ra,o.op= .call c∧c.callee= .value (.func f)∧o.dst=some d∧evA σ c.args.toList=some (Xs,Ra)∧Xs.length=n∧σin=eL 0 Xs∧Xs.all oH=true∧oH X=true∧k Ra d:=by
 unfold aJb at h
 split at h<;>try exact h.elim
 rename_i c d ho hd
 split at h<;>try exact h.elim
 rename_i f' Xs Ra hc hx
 split at h<;>try exact h.elim
 rename_i hb
 simp only[aV1] at hb
 obtain⟨h1,h2,h3,h4⟩:=hb
 have h1:=Nat.eq_of_beq_eq_true h1
 subst h1
 exact⟨c,d,Xs,Ra,ho,hc,hd,hx,Nat.eq_of_beq_eq_true h2,h.1,h3,h4,h.2⟩
theorem xp {k:List (dG×Option K)→List (dG×K)→Prop} (hs:Spec P f n σin [(.t 0,.v X)]) (h:aJb σ o f n σin X fun Ra d=>k Ra [(.t d,.v X)]): ∃R W,vT P o R W∧bV R σ∧k R W:=by
 obtain⟨c,d,Xs,Ra,h1,h2,h3,h4,h5,h6,h7,h8,h9⟩:=xb h
 exact je hs h1 h2 h3 h4 h5 h6 h7 h8 h9
theorem xc {g:Bool} {d:Tmp} {k:List (dG×Option K)→V→Prop} (hs:g=true→Spec P f n σin [(.t 0,.v X)]) (h:aJb σ1 o f n σin X fun Ra d'=>match Nat.beq d' d with|true=>(g=true→oG σ Ra)∧k Ra X|false=>False): ∃R X,(g=true→vT P o R [(.t d,.v X)]∧bV R σ1)∧(g=true→oG σ R)∧k R X:=by
 obtain⟨c,d',Xs,Ra,h1,h2,h3,h4,h5,h6,h7,h8,h9⟩:=xb h
 split at h9
 · rename_i hb
   have hb:=Nat.eq_of_beq_eq_true hb
   subst hb
   exact aMm hs h1 h2 h3 h4 h5 h6 h7 h8 h9.1 h9.2
 · exact h9.elim
end
section
variable {P:Program} {io:List Nat} {Q:Ex→St→Prop} {s σ':St} {rl:List (Nat×Nat)} {bor:List Nat}
theorem wq {J:St→Prop} (rl:List (Nat×Nat)) (bor:List Nat) (h:J σ') (h1:qL s σ' rl bor σ') (h2:af σ' rl bor=true:=by rfl) (h3:yL io σ' rl bor=true:=by rfl):WK io J s:=Ab.wk σ' rl bor h (qs h1) h2 h3
theorem wa {c:Code} (σ':St) (rl:List (Nat×Nat)) (bor:List Nat) (h1:qL s σ' rl bor σ') (h:SW P io c Q σ') (h2:af σ' rl bor=true:=by rfl) (h3:yL io σ' rl bor=true:=by rfl):SW P io c Q s:=SW.weaken σ' rl bor ⟨qs h1,h2⟩ h3 h
theorem rq {T:gO} {rs:List ResultVar} {X:V} (rl:List (Nat×Nat)) (bor:List Nat) (h1:aGd T s rs=some X) (h2:qL ((.t 0,.v X)::dX s) σ' rl bor σ') (h3:af σ' rl bor=true:=by rfl) (h4:tf io σ' rl bor=true:=by rfl):ah T io rs σ' s:=dQ X rl bor h1 (qs h2) h3 h4
theorem sq {x y:Code} (h:SW P io x (iz (SW P io y Q) Q) s):SW P io (.seq x y) Q s:=SW.seq h
theorem sk (h:Q .norm s):SW P io .skip Q s:=SW.skip h
theorem bk {id:Nat} {c:Code} (h:SW P io c (aGb id Q) s):SW P io (.block id c) Q s:=SW.block h
theorem xt {id:Nat} (h:Q (.exit id) s):SW P io (.exit id) Q s:=SW.exit h
theorem rt (h:Q .ret s):SW P io .ret Q s:=SW.ret h
theorem cd {c:Operand} {x y:Code} {t:Bool} {R:List (dG×Option K)} (hc:ev s c=some (B t,R)) (h1:t=true→SW P io x Q s) (h2:t=false→SW P io y Q s):SW P io (.cond c x y) Q s:=SW.cond hc h1 h2
end
theorem qx {p:Prop} (h:p:=by first|exact True.intro|with_reducible rfl|exact aVk):p:=h
theorem qz {p:Prop} (h:p:=by(repeat' apply ai)<;>first|exact True.intro|with_reducible rfl|exact aVk|rfl|(simp;done)|omega):p:=h
abbrev tI (s:Nat) (x:Int):dG×K:=(.t s,.v (I x))
abbrev tB (s:Nat) (x:Bool):dG×K:=(.t s,.v (B x))
abbrev tD (s:Nat) (x:D):dG×K:=(.t s,.v (Dv x))
abbrev tP (s o:Nat):dG×K:=(.t s,.v (.e (.c (.pt o 0))))
abbrev tO (s o n:Nat):dG×K:=(.t s,.v (.e (.c (.own o n))))
abbrev tV (s:Nat) (x:V):dG×K:=(.t s,.v x)
abbrev oB (o:Nat) (t:TypeId) (cs:List C):dG×K:=(.o o,.box t cs)
abbrev oR (o:Nat) (t:TypeId) (n:Nat) (r:List (List D)):dG×K:=(.o o,.row t n r)
end Go.Ab
namespace Go.Proofs.YtmabaopgkimfmaaGreatDoor
open Int renaming toNat_natCast→aVy,tmod→aWe
open List renaming length_append→aVz,length_nil→aV2,length_cons→aV3,length_take→aV4,getD_eq_getElem?_getD→aV6,length_drop→aV7,getElem?_eq_getElem→aV8,getElem?_eq_some_iff→aV9,range→aWb,mem_map→aWc,take_length→aWd,all_eq_true→aWf,mem_singleton→aWg
open Nat renaming le_of_ble_eq_true→aV0,zero_le→aV5,le_refl→aWa,add_mul→aWh
open Bool renaming and_eq_true→aV1
open Go Go.Ab Go.RowKit
set_option linter.unusedVariables false
abbrev Sp:=Ab.Spec Tryz.prog
abbrev xd:=Ab.SpecE Tryz.prog
theorem mo:Tryz.prog.follows .mixedOrders=true:=by kernel_rfl
theorem rT {io:List Nat} {Q:Ex→St→Prop} {σ:St} (ks:List Nat) {id:Nat} {ops:Array Oper} (h:goC Tryz.prog tab ops.toList false ops.toList σ [] fun σ' _=>rC ks σ' (Q .norm)):SW Tryz.prog io (.region id ops false) Q σ:=SW.regT dA ks h
theorem rD {io:List Nat} {Q:Ex→St→Prop} {σ:St} (ks:List Nat) {id:Nat} {ops:Array Oper} (h:goC Tryz.prog tab ops.toList true ops.toList σ [] fun σ' ns=>bm ops.toList ns=true∧rC ks σ' (Q .norm)):SW Tryz.prog io (.region id ops true) Q σ:=SW.regD dA mo ks h
theorem rE {io:List Nat} {Q:Ex→St→Prop} {σ:St} (ks:List Nat) {id:Nat} {ops:Array Oper} (h:goE Tryz.prog tab io ops.toList ops.toList σ fun σ'=>rC ks σ' (Q .norm)):SW Tryz.prog io (.region id ops false) Q σ:=SW.regE dA ks h
theorem rF {io:List Nat} {Q:Ex→St→Prop} {σ:St} (ks:List Nat) {id:Nat} {ops:Array Oper} (h:goF Tryz.prog tab io ops.toList ops.toList σ fun σ'=>rC ks σ' (Q .norm)):SW Tryz.prog io (.region id ops false) Q σ:=SW.regF dA ks h
theorem rX {io:List Nat} {Q:Ex→St→Prop} {σ:St} (ks:List Nat) {id:Nat} {ops:Array Oper} (h:goX Tryz.prog ops.toList σ [] fun σ' ns=>bm ops.toList ns=true∧rC ks σ' (Q .norm)):SW Tryz.prog io (.region id ops true) Q σ:=SW.regX mo ks h
theorem sb {f:FuncId} {fn:Func} {c:Code} {n:Nat} {σin:St} {σout:St} (hf:Tryz.prog.funcs[f]? =some fn) (hb:fn.body=some c) (h:SW Tryz.prog ((cE σin).filter fun o=>iM o (cE σout)) c (aQv tab ((cE σin).filter fun o=>iM o (cE σout)) fn.results.toList σout) σin) (hname: (fn.name== "runtime.NumGoroutine")=false:=by kernel_rfl) (hn:n≤fn.ntmps:=by decide) (hfit:sZ fn.ntmps c=true:=by kernel_rfl) (hsl:rZ n σin=true:=by rfl):Sp f n σin σout:=aB1 dA hf hb hname hn hfit hsl h
theorem yf {f:FuncId} {fn:Func} {c:Code} {n:Nat} {σin:St} {Qo:St→Prop} (hf:Tryz.prog.funcs[f]? =some fn) (hb:fn.body=some c) (h:SW Tryz.prog (cE σin) c (aMn tab (cE σin) fn.results.toList Qo) σin) (hname: (fn.name== "runtime.NumGoroutine")=false:=by kernel_rfl) (hn:n≤fn.ntmps:=by decide) (hfit:sZ fn.ntmps c=true:=by kernel_rfl) (hsl:rZ n σin=true:=by rfl):xd f n σin Qo:=yj dA hf hb hname hn hfit hsl h
end Go.Proofs.YtmabaopgkimfmaaGreatDoor
namespace Go.Ab
open Int renaming toNat_natCast→aVy,tmod→aWe
open List renaming length_append→aVz,length_nil→aV2,length_cons→aV3,length_take→aV4,getD_eq_getElem?_getD→aV6,length_drop→aV7,getElem?_eq_getElem→aV8,getElem?_eq_some_iff→aV9,range→aWb,mem_map→aWc,take_length→aWd,all_eq_true→aWf,mem_singleton→aWg
open Nat renaming le_of_ble_eq_true→aV0,zero_le→aV5,le_refl→aWa,add_mul→aWh
open Bool renaming and_eq_true→aV1
open Go Go.RowKit
set_option linter.unusedVariables false
set_option linter.unusedSimpArgs false
def oe (T:gO) (sz:Nat):Nat→List (Nat×TypeId)→Bool
 |off,[]=>Nat.beq off sz
 |off,p::r=>Nat.beq p.1 off&&(match T p.2 with|some fi=>oe T sz (off+fi.size) r|none=>false)
def ie (T:gO):Nat→TypeId→Bool
 |0,_=>false
 |n+1,t=>match T t with
  |none=>false
  |some ti=>match ti.kind with
   | .int .i64=>true
   | .int .u8=>true
   | .bool=>true
   | .str=>true
   | .sl e=>ie T n e
   | .st fs=>oe T ti.size 0 fs&&fs.all fun p=>ie T n p.2
   |_=>false
def vP (T:gO) (B:Nat):Nat→TypeId→List D→Prop
 |0,_,_=>False
 |n+1,t,ds=>match T t with
  |none=>False
  |some ti=>match ti.kind with
   | .int .i64=> ∃x,ds=[.i x]∧(Lit.int .i64 x).wf=true
   | .int .u8=> ∃x,ds=[.u x]∧(Lit.int .u8 x).wf=true
   | .bool=> ∃b,ds=[.b b]
   | .str=> ∃l,ds=[.s l]∧l.length≤B
   | .sl e=> ∃rows,ds=[.sl rows]∧(match T e with|some ei=>rows.length*ei.bytes≤B|none=>False)∧ ∀r∈rows,vP T B n e r
   | .st fs=>ds.length=ti.size∧ ∀p∈fs,match T p.2 with|some fi=>vP T B n p.2 ((ds.drop p.1).take fi.size)|none=>False
   |_=>False
section
variable {H:Type} {enc:TypeId×Value→H} {P:Program} {W:World} {sp:Nat→Bool} {held:Bool} {T:gO} {B:Nat}
theorem ig (hT:dM P T) {t:TypeId} {ti:TI} (h:T t=some ti):P.cellsOf t=ti.size∧P.bytesOf t=ti.bytes:=by
 obtain⟨i,z,hi,h1,h2,_⟩:=(hT t ti h).info
 exact⟨by simp[Program.cellsOf,hi,h1],by simp[Program.bytesOf,hi,h2]⟩
theorem aQj {a:Addr} {v:Value} (h:W.cell? a=some v):a.block<W.heap.size:=by
 unfold World.cell? at h
 cases hq:W.heap[a.block]? with
 |none=>rw[hq] at h;simp at h
 |some o=>exact(Array.getElem?_eq_some_iff.1 hq).1
theorem aFs {base:Nat} {a:Addr} {n:Nat} {cs:List Value} (h:W.cells? base a n=some cs):cs.length=n∧ ∀(k:Nat) v,cs[k]? =some v→W.cell? (a.add k)=some v:=by
 unfold World.cells? at h
 split at h
 · have key: ∀(l:List Nat) (cs:List Value),l.mapM (fun i=>W.cell? (a.add i))=some cs→cs.length=l.length∧ ∀(k:Nat) v,cs[k]? =some v→ ∃i,l[k]? =some i∧W.cell? (a.add i)=some v:=by
    intro l
    induction l with
    |nil=>intro cs h;simp at h;subst h;exact⟨rfl,by simp⟩
    |cons x r ih=>
     intro cs h
     rw[List.mapM_cons] at h
     obtain⟨v,h1,h⟩:=Option.bind_eq_some_iff.1 h
     obtain⟨vs,h2,h⟩:=Option.bind_eq_some_iff.1 h
     cases h
     obtain⟨q1,q2⟩:=ih vs h2
     refine⟨by simp[q1],fun k u hu=> ?_⟩
     cases k with
     |zero=>simp at hu;subst hu;exact⟨x,rfl,h1⟩
     |succ k=>simpa using q2 k u (by simpa using hu)
   obtain⟨q1,q2⟩:=key _ _ h
   refine⟨by simpa using q1,fun k v hv=> ?_⟩
   obtain⟨i,h1,h2⟩:=q2 k v hv
   have:=(aV9.1 h1)
   obtain⟨h3,h4⟩:=this
   simp at h4
   rw[h4];exact h2
 · cases h
def SW0 (W:World):Nat→Prop:=fun b=>b<W.heap.size
def Rd (W:World) (ds:List D) (cs:List Value):Prop:=ds.length=cs.length∧ ∀(k:Nat) x v,ds[k]? =some x→cs[k]? =some v→DR W (SW0 W) x v
theorem Rd.one {x:D} {v:Value} (h:DR W (SW0 W) x v):Rd W [x] [v]:=⟨rfl,fun k y u h1 h2=>by
 cases k with
 |zero=>simp at h1 h2;subst h1;subst h2;exact h
 |succ k=>simp at h1⟩
theorem Rd.append {ds es:List D} {cs vs:List Value} (h:Rd W ds cs) (k:Rd W es vs):Rd W (ds++es) (cs++vs):=by
 refine⟨by simp[h.1,k.1],fun i x v h1 h2=> ?_⟩
 by_cases hi:i<ds.length
 · rw[List.getElem?_append_left hi] at h1
   rw[List.getElem?_append_left (by rw[← h.1];exact hi)] at h2
   exact h.2 i x v h1 h2
 · rw[List.getElem?_append_right (by omega)] at h1
   rw[List.getElem?_append_right (by rw[← h.1];omega),← h.1] at h2
   exact k.2 _ x v h1 h2
def aN6 (enc:TypeId×Value→H) (P:Program) (W:World) (sp:Nat→Bool) (held:Bool) (T:gO) (B N:Nat) (t:TypeId):Prop:=
 ∀fuel cs d ps,DataW.trod enc P W 0 sp held fuel t cs=some (d,ps)→(d.weights P t).all (· ≤B)=true→ ∃ds,Rd W ds cs∧vP T B N t ds
theorem lq (hT:dM P T) {N sz fuel:Nat}: ∀(fs:List Field) (off:Nat) (cs:List Value) (xs:List (DataW H×List MemPlace)),oe T sz off (fs.map fun f=>(f.offset,f.type))=true→cs.length=sz→off≤sz→
 (∀f∈fs,aN6 enc P W sp held T B N f.type)→fs.mapM (fun f=>DataW.trod enc P W 0 sp held fuel f.type ((cs.drop f.offset).take (P.cellsOf f.type)))=some xs→(DataW.weightsEach P (fs.map (·.type)) (xs.map (·.1))).all (· ≤B)=true→
 ∃ds,Rd W ds (cs.drop off)∧ ∀p∈fs.map (fun f=>(f.offset,f.type)),off≤p.1∧match T p.2 with|some fi=>vP T B N p.2 ((ds.drop (p.1 - off)).take fi.size)|none=>False
 | [],off,cs,xs,ht,hl,ho,_,_,_=>by
  have:off=sz:=Nat.eq_of_beq_eq_true ht
  exact⟨[],by rw[List.drop_eq_nil_of_le (by omega)];exact⟨rfl,by simp⟩,by simp⟩
 |f::fs,off,cs,xs,ht,hl,ho,hop,hm,hw=>by
  simp only[List.map_cons,oe,aV1] at ht
  obtain⟨h1,h2⟩:=ht
  have h1:=Nat.eq_of_beq_eq_true h1
  cases hf:T f.type with
  |none=>rw[hf] at h2;cases h2
  |some fi=>
   rw[hf] at h2
   simp only at h2
   rw[List.mapM_cons] at hm
   obtain⟨x,hx,hm⟩:=Option.bind_eq_some_iff.1 hm
   obtain⟨ys,hy,hm⟩:=Option.bind_eq_some_iff.1 hm
   cases hm
   obtain⟨hc1,hc2⟩:=ig hT hf
   simp only[List.map_cons,DataW.weightsEach,List.all_append,aV1] at hw
   obtain⟨ds,hr,hty⟩:=hop f (List.mem_cons_self ..) _ _ _ _ hx hw.1
   have hoff:off+fi.size≤sz:=by
    have key: ∀(l:List (Nat×TypeId)) (o:Nat),oe T sz o l=true→o≤sz:=by
     intro l
     induction l with
     |nil=>intro o h;exact Nat.le_of_eq (Nat.eq_of_beq_eq_true h)
     |cons p r ih=>
      intro o h
      simp only[oe,aV1] at h
      cases hq:T p.2 with
      |none=>rw[hq] at h;cases h.2
      |some qi=>rw[hq] at h;have:=ih _ h.2;omega
    exact key _ _ h2
   obtain⟨es,hr2,hty2⟩:=lq hT fs (off+fi.size) cs ys h2 hl hoff (fun g hg=>hop g (List.mem_cons_of_mem _ hg)) hy hw.2
   rw[hc1,h1] at hr
   have hdl:ds.length=fi.size:=by rw[hr.1,aV4,aV7];omega
   refine⟨ds++es,?_,fun p hp=> ?_⟩
   · have e:cs.drop off=(cs.drop off).take fi.size++cs.drop (off+fi.size):=by
      rw[← List.drop_drop,List.take_append_drop]
     rw[e];exact hr.append hr2
   · rcases List.mem_cons.1 hp with rfl|hp
     · refine⟨Nat.le_of_eq h1.symm,?_⟩
       simp only[hf,h1,Nat.sub_self,List.drop_zero]
       rw[List.take_append_of_le_length (by omega),← hdl,aWd];exact hty
     · obtain⟨q1,q2⟩:=hty2 p hp
       refine⟨by omega,?_⟩
       cases hq:T p.2 with
       |none=>rw[hq] at q2;exact q2
       |some qi=>
        rw[hq] at q2
        simp only at q2 ⊢
        rw[List.drop_append,List.drop_eq_nil_of_le (by omega),List.nil_append,hdl,show p.1 - off - fi.size=p.1 - (off+fi.size) by omega]
        exact q2
theorem cr {e:TypeId}: ∀{l:List (DataW H)},(DataW.weightsAll P e l).all (· ≤B)=true→ ∀d∈l,(d.weights P e).all (· ≤B)=true
 | [],_,d,hd=>by cases hd
 |x::r,h,d,hd=>by
  simp only[DataW.weightsAll,List.all_append,aV1] at h
  rcases List.mem_cons.1 hd with rfl|hd
  · exact h.1
  · exact cr h.2 d hd
theorem ii (hT:dM P T): ∀(N:Nat) (t:TypeId),ie T N t=true→aN6 enc P W sp held T B N t
 |0,t,h=>by cases h
 |N+1,t,h=>by
  intro fuel cs d ps htr hw
  unfold ie at h
  cases ht:T t with
  |none=>rw[ht] at h;cases h
  |some ti=>
   rw[ht] at h
   simp only at h
   have hok:=hT t ti ht
   have hk:=hok.kind
   cases fuel with
   |zero=>cases htr
   |succ fuel=>
    cases hkk:ti.kind with
    |int k=>
     rw[hkk] at h hk
     simp only[lK] at hk
     unfold DataW.trod at htr
     rw[hk] at htr
     split at htr<;>rename_i he<;>try(cases he;done)
     · rename_i _ _ kk mm
       cases he
       split at htr
       · rename_i hc
         cases htr
         obtain⟨rfl,hwf⟩:=hc
         cases kk<;>try(cases h;done)
         · exact⟨[.i mm],.one (.i _),by unfold vP;simp only[ht,hkk];exact⟨_,rfl,hwf⟩⟩
         · exact⟨[.u mm],.one (.u _),by unfold vP;simp only[ht,hkk];exact⟨_,rfl,hwf⟩⟩
       · cases htr
     all_goals cases htr
    |bool=>
     rw[hkk] at hk
     simp only[lK] at hk
     unfold DataW.trod at htr
     rw[hk] at htr
     split at htr<;>rename_i he<;>try(cases he;done)
     · cases htr
       exact⟨[.b _],.one (.b _),by unfold vP;simp only[ht,hkk];exact⟨_,rfl⟩⟩
     all_goals cases htr
    |str=>
     rw[hkk] at hk
     simp only[lK] at hk
     unfold DataW.trod at htr
     rw[hk] at htr
     split at htr<;>rename_i he<;>try(cases he;done)
     · rename_i _ s
       split at htr
       · cases htr
         refine⟨[.s s.data.toList],.one (.s _),?_⟩
         unfold vP;simp only[ht,hkk]
         exact⟨_,rfl,by simpa[DataW.weights] using hw⟩
       · cases htr
     all_goals cases htr
    |sl e=>
     rw[hkk] at h hk
     simp only[lK] at hk
     simp only at h
     have hih:=ii hT N e h
     cases he:T e with
     |none=>cases N with
      |zero=>cases h
      |succ N=>unfold ie at h;rw[he] at h;cases h
     |some ei=>
      obtain⟨hc1,hc2⟩:=ig hT he
      have hep:=(hT e ei he).pos
      rcases Deep.open_slice hk htr with⟨rfl,hx⟩|⟨a,len,cap,m,n,Df,Pl,rfl,hb,hl,hm,hmm,hx,hel⟩
      · refine⟨[.sl []],.one (.sl [] none 0 0 ⟨0,0,none⟩ (fun _ _=>undef) (by simp) (by simp[maxLen]) (by simp) (by simp) (by simp) (by simp)),?_⟩
        unfold vP;simp only[ht,hkk]
        exact⟨[],rfl,by simp[he],by simp⟩
      · cases hx
        simp only[DataW.weights,hk,List.all_cons,List.all_append,aV1,decide_eq_true_eq,List.length_map,List.length_range] at hw
        have hlm:len≤m:=by rw[hmm];split<;>omega
        have hrow: ∀i,i<len→ ∃r,(∃cs',W.cells? 0 (a.add (i*ei.size)) ei.size=some cs'∧Rd W r cs')∧vP T B N e r:=by
         intro i hi
         obtain⟨cs',h1,h2⟩:=hel i (by omega)
         rw[hc1] at h1
         obtain⟨r,q1,q2⟩:=hih _ _ _ _ h2 (cr hw.2.1 _ (aWc.2 ⟨i,List.mem_range.2 hi,rfl⟩))
         exact⟨r,⟨cs',h1,q1⟩,q2⟩
        obtain⟨rf,hrf⟩: ∃rf:Nat→List D,∀i,i<len→(∃cs',W.cells? 0 (a.add (i*ei.size)) ei.size=some cs'∧Rd W (rf i) cs')∧vP T B N e (rf i):=
         ⟨fun i=>if hi:i<len then Classical.choose (hrow i hi) else [],fun i hi=>by dsimp only;rw[dif_pos hi];exact Classical.choose_spec (hrow i hi)⟩
        have hget: ∀(i:Nat) r,((aWb len).map rf)[i]? =some r→i<len∧r=rf i:=by
         intro i r hr
         rw[List.getElem?_map] at hr
         by_cases hi:i<len
         · rw[List.getElem?_range hi] at hr;simp at hr;exact⟨hi,hr.symm⟩
         · rw[List.getElem?_eq_none (by simpa using hi)] at hr;cases hr
        have hlen: ∀i,i<len→(rf i).length=ei.size:=by
         intro i hi
         obtain⟨⟨cs',h1,h2⟩,_⟩:=hrf i hi
         rw[h2.1,(aFs h1).1]
        have hcell: ∀i,i<len→ ∀(k:Nat) x,(rf i)[k]? =some x→ ∃v,W.cell? (a.add (i*ei.size+k))=some v∧DR W (SW0 W) x v:=by
         intro i hi k x hx
         obtain⟨⟨cs',h1,h2⟩,_⟩:=hrf i hi
         have hk':k<cs'.length:=by rw[← h2.1];exact(aV9.1 hx).1
         refine⟨cs'[k],?_,h2.2 k x _ hx (aV8 hk')⟩
         have:=(aFs h1).2 k _ (aV8 hk')
         rwa [Deep.add_add] at this
        refine⟨[.sl ((aWb len).map rf)],.one ?_,?_⟩
        · have e1: ((aWb len).map rf).length=len:=by simp
          have:=DR.sl (w:=W) (S:=SW0 W) ((aWb len).map rf) (some a) cap ei.size a (fun i k=>(W.cell? (a.add (i*ei.size+k))).getD undef) (by rw[e1];exact hl) hm
           (fun r hr=>by obtain⟨i,hi,rfl⟩:=aWc.1 hr;exact hlen i (List.mem_range.1 hi)) (fun _=>rfl)
           (fun i r k d hi hk=>by
            obtain⟨h1,rfl⟩:=hget i r hi
            obtain⟨v,h2,h3⟩:=hcell i h1 k d hk
            have hb: (a.add (i*ei.size+k)).block=a.block:=by unfold Addr.add;split<;>rfl
            exact⟨by have:=aQj h2;rw[hb] at this;exact this,by rw[h2];rfl⟩)
           (fun i r k d hi hk=>by
            obtain⟨h1,rfl⟩:=hget i r hi
            obtain⟨v,h2,h3⟩:=hcell i h1 k d hk
            rw[h2];exact h3)
          rw[e1] at this;exact this
        · unfold vP;simp only[ht,hkk]
          refine⟨_,rfl,?_,fun r hr=> ?_⟩
          · simp only[he]
            rw[List.length_map,List.length_range,← hc2]
            have:=hw.1
            rw[aWh] at this
            omega
          · obtain⟨i,hi,rfl⟩:=aWc.1 hr
            exact(hrf i (List.mem_range.1 hi)).2
    |st fs=>
     rw[hkk] at h hk
     simp only[lK] at hk
     obtain⟨fields,hu,hfs⟩:=hk
     simp only[aV1] at h
     unfold DataW.trod at htr
     rw[hu] at htr
     have htr: (if cs.length=P.cellsOf t then(fields.toList.mapM fun f=>DataW.trod enc P W 0 sp held fuel f.type ((cs.drop f.offset).take (P.cellsOf f.type))).map fun xs=>(DataW.agg (xs.map (·.1)),xs.flatMap (·.2)) else none)=some (d,ps):=htr
     split at htr
     · rename_i hcl
       obtain⟨xs,hxs,hmk⟩:=Option.map_eq_some_iff.1 htr
       cases hmk
       have hsz:=(ig hT ht).1
       simp only[DataW.weights,hu] at hw
       obtain⟨ds,h1,h2⟩:=lq hT fields.toList 0 cs xs (by rw[hfs];exact h.1) (by rw[hcl,hsz]) (aV5 _)
        (fun f hf=>ii hT N f.type (by
         have:=aWf.1 h.2 (f.offset,f.type) (by rw[← hfs];exact aWc.2 ⟨f,hf,rfl⟩)
         exact this)) hxs hw
       refine⟨ds,by simpa using h1,?_⟩
       unfold vP;simp only[ht,hkk]
       refine⟨by have:=h1.1;simp at this;rw[this,hcl,hsz],fun p hp=> ?_⟩
       rw[← hfs] at hp
       have:=(h2 p hp).2
       simpa using this
     · cases htr
    |arr n e=>rw[hkk] at h;cases h
    |ptr e=>rw[hkk] at h;cases h
end
section
variable {H:Type} {enc:TypeId×Value→H} {P:Program} {W:World} {sp:Nat→Bool} {held:Bool} {T:gO} {B:Nat}
theorem aLp (hT:dM P T) (N:Nat) {t:TypeId} {ti:TI} (ht:T t=some ti) (hd:ie T N t=true) {v:Value} {d:DataW H} {ps:List MemPlace} {r:Reach} {base:Nat} (h:DataW.Trod enc P W 0 sp held t v d ps) (hv:Value.okWide P W r base t v) (hw: (d.weights P t).all (· ≤B)=true):
 ∃ds,vP T B N t ds∧(ti.kind.agg=true→ ∀σ ι,lJ σ ι W (SW0 W) (.e (.agg (ds.map C.d))) v)∧(ti.kind.agg=false→ ∃x,ds=[x]∧ ∀σ ι,lJ σ ι W (SW0 W) (Dv x) v):=by
 obtain⟨fuel,hf⟩:=h
 obtain⟨ds,h1,h2⟩:=ii hT N t hd _ _ _ _ hf hw
 refine⟨ds,h2,fun ha=> ?_,fun ha=> ?_⟩
 · have hk:=(hT t ti ht).kind
   have hcs: ∃cs,v= .agg cs:=by
    cases hkk:ti.kind<;>rw[hkk] at ha hk<;>simp only[TK.agg] at ha<;>try(cases ha;done)
    · simp only[lK] at hk
      obtain⟨fields,hu,_⟩:=hk
      obtain⟨cs,hcs,_⟩:=WideShapes.okWide_struct hu hv
      exact⟨cs,hcs⟩
    · cases N with
      |zero=>cases hd
      |succ N=>unfold ie at hd;rw[ht] at hd;simp only[hkk] at hd;cases hd
   obtain⟨cs,rfl⟩:=hcs
   intro σ ι
   have h1:Rd W ds cs.toList:=h1
   refine⟨cs.toList,by simp,by rw[List.length_map,h1.1],fun k c u hc hu=> ?_⟩
   rw[List.getElem?_map] at hc
   cases hq:ds[k]? with
   |none=>rw[hq] at hc;cases hc
   |some x=>rw[hq] at hc;cases hc;exact h1.2 k x u hq hu
 · have hk:=(hT t ti ht).kind
   have hone:v.cells.toList=[v]:=by
    cases hkk:ti.kind<;>rw[hkk] at ha hk<;>simp only[TK.agg] at ha<;>try(cases ha;done)
    all_goals simp only[lK] at hk
    · obtain⟨n,rfl⟩:=WideShapes.okWide_int hk hv;rfl
    · obtain⟨n,rfl⟩:=WideShapes.okWide_bool hk hv;rfl
    · obtain⟨n,rfl⟩:=WideShapes.okWide_string hk hv;rfl
    · obtain⟨a,l,c,rfl⟩:=WideShapes.okWide_slice hk hv;rfl
    · obtain⟨a,rfl⟩:=WideShapes.okWide_pointer hk hv;rfl
   rw[hone] at h1
   match ds,h1.1 with
   | [x],_=>exact⟨x,rfl,fun σ ι=>h1.2 0 x v rfl rfl⟩
theorem aH6 (hgb:GB P W fun _=>False) {f:FuncId} {n:Nat} {Xs:List V} (hs:Spec P f n (eL 0 Xs) [(.t 0,.v (Ab.B true))]) {args:Array Value} (hn:Xs.length=n) (hsz:args.size=n) (hX: ∀(i:Nat) X v,Xs[i]? =some X→args[i]? =some v→ ∀σ ι,lJ σ ι W (SW0 W) X v):
 Calls P f args W fun e W'=>e= .returned (.bool true)∧Below W.heap.size W W':=by
 have hlo: ∀o,aR (eL 0 Xs) (.o o)=none:=fun o=>by have:=kN 0 Xs [] o;simpa[aR] using this
 have hvr:VR (eL 0 Xs) (fun _=>undef) (fun i=>(args[i]?).getD undef) (SW0 W) W:=by
  refine⟨fun s k hk=> ?_,(fun o k hk=>by rw[hlo] at hk;cases hk),fun o b hm=> ?_,fun o o' b hm=> ?_,fun b hb=>hb⟩
  · rcases tW 0 Xs [] s k (by simpa using hk) with⟨X,h1,rfl,_,h2⟩|h
    · have h3:s<args.size:=by omega
      have:args[s]? =some args[s]:=Array.getElem?_eq_getElem h3
      show lJ _ _ _ _ X ((args[s]?).getD undef)
      rw[this]
      exact hX s X _ (by simpa using h1) this _ _
    · cases h
  · obtain⟨⟨k,hk,_⟩,_⟩:=hm;rw[hlo] at hk;cases hk
  · obtain⟨⟨k,hk,_⟩,_⟩:=hm;rw[hlo] at hk;cases hk
 refine(hs.2 _ _ _ W args (hgb.weak fun b ⟨o,⟨k,hk,_⟩,_⟩=>by rw[hlo] at hk;cases hk) hvr hsz fun i hi=> ?_).mono fun e W' ⟨v,ι',S',he,hp⟩=> ?_
 · rw[Array.getElem?_eq_getElem (by omega)];rfl
 · have hv:=hp.vr.slots 0 (.v (Ab.B true)) rfl
   simp only[qZ,lJ,ER,CR] at hv
   refine⟨?_,hp.fr.os,hp.fr.tape,hp.fr.output,hp.fr.size,fun k hk=>hp.fr.block k hk fun⟨o,⟨q,hq,_⟩,_⟩=>by rw[hlo] at hq;cases hq⟩
   rw[he];cases hv;rfl
end
end Go.Ab
namespace Go.Proofs.YtmabaopgkimfmaaGreatDoor
open Int renaming toNat_natCast→aVy,tmod→aWe
open List renaming length_append→aVz,length_nil→aV2,length_cons→aV3,length_take→aV4,getD_eq_getElem?_getD→aV6,length_drop→aV7,getElem?_eq_getElem→aV8,getElem?_eq_some_iff→aV9,range→aWb,mem_map→aWc,take_length→aWd,all_eq_true→aWf,mem_singleton→aWg
open Nat renaming le_of_ble_eq_true→aV0,zero_le→aV5,le_refl→aWa,add_mul→aWh
open Bool renaming and_eq_true→aV1
open Go Go.Ab Go.RowKit
set_option linter.unusedVariables false
set_option linter.unusedSimpArgs false
set_option maxRecDepth 9000
theorem dW (n lo hi:Int):Sp 109 3 [tI 0 n,tI 1 lo,tI 2 hi] [tB 0 (fG n lo hi)]:=by
 refine sb Tryz.func109 rfl (sq (rT [0,1,2] (s1 (sq (rT [6] (s4 (y3 (ai pk (s1 (rt (bL rfl ?_)))))))))))
 simp[fG,gb]
theorem dI (n lo hi:Int):Sp 123 3 [tI 0 n,tI 1 lo,tI 2 hi] [tB 0 (fG n lo hi)]:=by
 refine sb Tryz.func123 rfl (sq (rT [0,1,2] (s1 (sq (rT [6] (s4 (y3 (ai pk (s1 (rt (bL rfl ?_)))))))))))
 simp[fG,gb]
theorem eP (n:Int):Sp 111 1 [tI 0 n] [tB 0 (eA n)]:=by
 refine sb Tryz.func111 rfl (sq (rT [0] (s1 (sq (rT [2] (s1 (xp (dW _ _ _) (ai rfl ?_))))))))
 refine s1 (rt (bL rfl ?_))
 first|rfl|(simp;done)|(simp_all;done)
theorem dP (n:Int):Sp 130 1 [tI 0 n] [tB 0 (eA n)]:=by
 refine sb Tryz.func130 rfl (sq (rT [0] (s1 (sq (rT [2] (s1 (xp (dI _ _ _) (ai rfl ?_))))))))
 refine s1 (rt (bL rfl ?_))
 first|rfl|(simp;done)|(simp_all;done)
theorem sF (a b c d:Int):Sp 226 4 [tI 0 a,tI 1 b,tI 2 c,tI 3 d] [tB 0 (cK a b c d)]:=by
 refine sb Tryz.func226 rfl (sq (rT [0,1,2,3] (s1 (sq (rT [8] (s4 (y4 (y3 (ai (fun h=>pk) (ai rk (ai pk (s1 (rt (bL rfl (congrArg D.b ?_)))))))))))))))
 simp[cK,gb]
theorem qS (a b c d:Int):Sp 225 4 [tI 0 a,tI 1 b,tI 2 c,tI 3 d] [tB 0 (cK a b c d)]:=by
 refine sb Tryz.func225 rfl (sq (rT [0,1,2,3] (s1 (sq (rT [8] (s4 (y4 (y3 (ai (fun h=>pk) (ai rk (ai pk (s1 (rt (bL rfl (congrArg D.b ?_)))))))))))))))
 simp[cK,gb]
theorem yx (m:cM):Sp 227 1 [tV 0 m.V] [tB 0 (lC m)]:=by
 refine sb Tryz.func227 rfl (sq (rT [1] (s2 (sq (rT [2] (s2 (xp (eP _) (ai rfl ?_))))))))
 refine s1 (y2 (xc (fun h=>(dW _ _ _)) (ai rfl (ai rk ?_))))
 refine ai pk (s1 (y2 (xc (fun h=>(dW _ _ _)) (ai rfl (ai rk ?_)))))
 refine ai pk (s1 (rt (bL rfl (congrArg D.b ?_))))
 simp[lC,gb]
theorem yy (s:List UInt8) (hl:s.length≤140737488355328):Sp 197 1 [tD 0 (.s s)] [tB 0 (yU s)]:=by
 refine sb Tryz.func197 rfl (sq (rT [0] (s1 (sq (sq (rT [0,3] (s1 (bk (SW.loopW (n:=s.length) (fun n q=> ∃i:Nat,n=s.length - i∧i≤s.length∧(∀k,k<i→vF s k=true)∧q=[tD 0 (.s s),tI 3 (i:Nat)]) ?_ ?_)))))))))
 · exact wq (σ':=[tD 0 (.s s),tI 3 (0:Nat)]) [] [] (⟨0,rfl,aV5 _,fun k h=>absurd h (by omega),rfl⟩) qz
 rintro n s ⟨i,rfl,hi,hk,rfl⟩
 refine sq (sq (rT [0,3,7] (s4 (cd rfl (fun c7=> ?_) fun c7=> ?_))))
 · have hi2:i<s.length:=by simpa using c7
   have hb8:=iO s i
   have hw:wrap64 ((s.getD ((i:Nat):Int).toNat 0).toNat:Int)=gY s i:=aB (by unfold gY at hb8;rw[aVy];omega)
   refine sk (sq (bk (sq (rT [0,3,15] (s2 (ai (by exact⟨by omega,by omega⟩) (s1 (xp (dW _ _ _) (ai rfl ?_)))))))))
   refine s1 (cd rfl (fun c15=> ?_) fun c15=> ?_)
   · refine sq (rT [2] (s1 (rt (bL rfl (congrArg D.b ?_)))))
     have hs:vF s i=false:=by
      have h9:=c15
      rw[hw] at h9
      simpa[vF] using h9
     rw[yU,fK hi2 hs];rfl
   refine sk (rT [0,3] (s3 ?_))
   have hs:vF s i=true:=by
    have h9:=c15
    rw[hw] at h9
    simpa[vF] using h9
   refine wq [] [] (⟨s.length - (i+1),by omega,i+1,rfl,by omega,fun k h=>by by_cases e:k=i;exact e▸hs;exact hk k (by omega),rfl⟩) ?_
   repeat' apply ai
   all_goals first|exact qx|exact congrArg D.i (aB (by omega))|exact qz
 have hi3:i=s.length:=by simp at c7;omega
 refine xt (sq (rT [2] (s2 (xp (dW _ _ _) (ai rfl ?_)))))
 refine s1 (rt (bL rfl (congrArg D.b ?_)))
 subst hi3
 rw[yU,iD hk];rfl
theorem sG (n:bA) (hl:n.text.length≤140737488355328):Sp 153 1 [tV 0 n.V] [tB 0 (fA n)]:=by
 refine sb Tryz.func153 rfl (sq (rT [1] (s2 (sq (rT [2] (s2 (xp (eP _) (ai rfl ?_))))))))
 refine s1 (y2 (xc (fun h=>(eP _)) (ai rfl (ai rk ?_))))
 refine ai pk (s1 (y2 (xc (fun h=>(dW _ _ _)) (ai rfl (ai rk ?_)))))
 refine ai pk (s1 (y2 (xc (fun h=>(dW _ _ _)) (ai rfl (ai rk ?_)))))
 refine ai pk (s1 (y2 (xc (fun h=>(yy n.text hl)) (ai rfl (ai rk ?_)))))
 refine ai pk (s1 (rt (bL rfl (congrArg D.b ?_))))
 simp[fA,gb,Bool.and_assoc]
theorem wZ (n:bA) (hl:n.text.length≤140737488355328):Sp 152 1 [tV 0 n.V] [tB 0 (fA n)]:=by
 refine sb Tryz.func152 rfl (sq (rT [1] (s2 (sq (sq (rT [1,37] (s2 (xp (dP _) (ai rfl ?_)))))))))
 refine s2 (y2 (xc (fun h=>(dP _)) (ai rfl (ai rk ?_))))
 refine y1 (ai pk (s1 (y2 (xc (fun h=>(dI _ _ _)) (ai rfl (ai rk ?_))))))
 refine y1 (ai pk (s1 (y2 (xc (fun h=>(dI _ _ _)) (ai rfl (ai rk ?_))))))
 refine y1 (ai pk (s1 (y4 (ai pk (s1 (y4 (ai pk (cd rfl (fun c37=> ?_) fun c37=> ?_))))))))
 · refine sq (rT [2] (s1 (rt (bL rfl (congrArg D.b ?_)))))
   cases h:fA n with
   |false=>rfl
   |true=>
    exfalso
    simp only[fA,yU,aV1] at h
    obtain⟨⟨⟨⟨h1,h2⟩,h3⟩,h4⟩,h5,h6⟩:=h
    simp only[fG,aV1,decide_eq_true_eq] at h6
    simp only[h1,h2,h3,h4,Bool.not_true,Bool.false_or,Bool.or_eq_true,decide_eq_true_eq] at c37
    omega
 have hf:eA n.frm=true∧eA n.to=true∧fG n.num 1 99=true∧fG n.til 1 999=true∧1≤n.text.length∧n.text.length≤24:=by
  simp only[gb,Bool.or_eq_false_iff,Bool.not_eq_false,decide_eq_false_iff_not,Bool.not_eq_eq_eq_not,Bool.not_false] at c37
  grind
 refine sk (sq (sq (rT [1,3] (s1 (bk (SW.loopW (n:=n.text.length) (fun m q=> ∃i:Nat,m=n.text.length - i∧i≤n.text.length∧(∀k,k<i→vF n.text k=true)∧q=[tP 1 1,tI 3 (i:Nat),oB 1 52 [.d (.i n.frm),.d (.i n.num),.d (.i n.to),.d (.i n.til),.d (.s n.text)]]) ?_ ?_))))))
 · exact wq (σ':=[tP 1 1,tI 3 (0:Nat),oB 1 52 [.d (.i n.frm),.d (.i n.num),.d (.i n.to),.d (.i n.til),.d (.s n.text)]]) [] [] (⟨0,rfl,aV5 _,fun k h=>absurd h (by omega),rfl⟩) qz
 rintro n s ⟨i,rfl,hi,hk,rfl⟩
 refine sq (sq (rT [1,3,42] (s5 (cd rfl (fun c42=> ?_) fun c42=> ?_))))
 · have hi2:i<n.text.length:=by simpa using c42
   refine sk (sq (bk (sq (rT [1,3,56] (s3 (ai (by exact⟨by omega,by omega⟩) (s2 (y3 (ai (fun h=>(by exact⟨by omega,by omega⟩)) (ai rk (y1 (ai pk (cd rfl (fun c56=> ?_) fun c56=> ?_)))))))))))))
   · refine sq (rT [2] (s1 (rt (bL rfl (congrArg D.b ?_)))))
     have hs:vF n.text i=false:=by
      have h9:=c56
      rw[aVy] at h9
      simp[gb] at h9
      simp[vF,fG,gY];omega
     rw[fA,yU,fK hi2 hs];simp
   refine sk (rT [1,3] (s3 ?_))
   have hs:vF n.text i=true:=by
    have h9:=c56
    rw[aVy] at h9
    simp[gb] at h9
    simp[vF,fG,gY];omega
   refine wq [] [] (⟨n.text.length - (i+1),by omega,i+1,rfl,by omega,fun k h=>by by_cases e:k=i;exact e▸hs;exact hk k (by omega),rfl⟩) ?_
   repeat' apply ai
   all_goals first|exact qx|exact congrArg D.i (aB (by omega))|exact qz
 have hi3:i=n.text.length:=by simp at c42;omega
 refine xt (sq (rT [2] (s1 (rt (bL rfl (congrArg D.b ?_))))))
 subst hi3
 obtain⟨h1,h2,h3,h4,h5,h6⟩:=hf
 rw[fA,yU,iD hk,h1,h2,h3,h4]
 simp[fG];omega
theorem kZ (l:List bA) (f m:Int) (hl:l.length≤1000000):Sp 96 3 [tD 0 (.sl (aE l)),tI 1 f,tI 2 m] [tI 0 (aW l f m)]:=by
 refine sb Tryz.func96 rfl (sq (rT [0,1,2] (s1 (sq (sq (rT [1,2,9,10,11] (s3 (bk (SW.loopW (n:=l.length) (fun n q=> ∃i:Nat,n=l.length - i∧i≤l.length∧(∀k,k<i→mU l f m k=false)∧q=[tI 1 f,tI 2 m,tD 9 (.sl (aE l)),tI 10 (l.length:Nat),tI 11 (i:Nat)]) ?_ ?_)))))))))
 · refine wq (σ':=[tI 1 f,tI 2 m,tD 9 (.sl (aE l)),tI 10 (l.length:Nat),tI 11 (0:Nat)]) [] [] (⟨0,rfl,aV5 _,fun k h=>absurd h (by omega),rfl⟩) ?_
   repeat' apply ai
   all_goals first|exact qx|(rw[aD];done)|rfl|exact qz
 rintro n s ⟨i,rfl,hi,hk,rfl⟩
 refine sq (rT [1,2,9,10,11,12] (s1 (sq (cd rfl (fun c12=> ?_) fun c12=> ?_))))
 · have hi2:i<l.length:=by simpa using c12
   have hg:=aT (l:=l) hi2
   refine sk (sq (bk (sq (rT [1,2,7,8,9,10,11] (s1 (ai (by rw[aVy,hg];exact⟨⟨by omega,by rw[aD];omega⟩,rfl⟩) (ai (by rw[aVy,hg];exact⟨aV0 rfl,rfl⟩) (s3 (sq (rT [1,2,7,9,10,11,25] (s5 (y4 (ai pk (cd rfl (fun c25=> ?_) fun c25=> ?_))))))))))))))
   · refine sq (rT [6] (s2 (rt (bL rfl (congrArg D.i ?_)))))
     have hs:mU l f m i=true:=by
      have h9:=c25
      rw[aVy,hg] at h9
      exact h9
     exact(lM (aV5 _) (by omega) (fun j _ h=>hk j h) hs).symm
   refine sk (rT [1,2,9,10,11] (s2 ?_))
   have hs:mU l f m i=false:=by
    have h9:=c25
    rw[aVy,hg] at h9
    exact h9
   refine wq [] [] (⟨l.length - (i+1),by omega,i+1,rfl,by omega,fun k h=>by by_cases e:k=i;exact e▸hs;exact hk k (by omega),rfl⟩) ?_
   repeat' apply ai
   all_goals first|exact qx|exact congrArg D.i (aB (by omega))|exact qz
 have hi3:i=l.length:=by simp at c12;omega
 refine xt (sq (rT [6] (s1 (rt (bL rfl (congrArg D.i ?_))))))
 exact(lP (fun j _ h=>hk j (by omega))).symm
theorem fU (l:List bA) (f m:Int) (hl:l.length≤1000000):Sp 94 3 [tD 0 (.sl (aE l)),tI 1 f,tI 2 m] [tI 0 (aW l f m)]:=by
 refine sb Tryz.func94 rfl (sq (rT [0,1,2] (s1 (sq (sq (rT [0,1,2,7] (s1 (bk (SW.loopW (n:=l.length) (fun n q=> ∃i:Nat,n=l.length - i∧i≤l.length∧(∀k,k<i→mU l f m k=false)∧q=[tD 0 (.sl (aE l)),tI 1 f,tI 2 m,tI 7 (i:Nat)]) ?_ ?_)))))))))
 · exact wq (σ':=[tD 0 (.sl (aE l)),tI 1 f,tI 2 m,tI 7 (0:Nat)]) [] [] (⟨0,rfl,aV5 _,fun k h=>absurd h (by omega),rfl⟩) qz
 rintro n s ⟨i,rfl,hi,hk,rfl⟩
 refine sq (sq (rT [0,1,2,7,11] (s4 (cd rfl (fun c11=> ?_) fun c11=> ?_))))
 · have hi2:i<l.length:=by simpa[aD] using c11
   have hg:=aT (l:=l) hi2
   refine sk (sq (bk (sq (rT [0,1,2,7,29] (s2 (ai (by rw[aVy,hg];exact⟨⟨by omega,by rw[aD];omega⟩,rfl⟩) (s1 (ai (by rw[aVy,hg];exact⟨aV0 rfl,rfl⟩) (s3 (y2 (ai (fun h=>(by rw[aVy,hg];exact⟨⟨by omega,by rw[aD];omega⟩,rfl⟩)) (ai rk (y1 (ai (fun h=>(by rw[aVy,hg];exact⟨aV0 rfl,rfl⟩)) (ai rk (y2 (ai pk (cd rfl (fun c29=> ?_) fun c29=> ?_))))))))))))))))))
   · refine sq (rT [6] (s2 (rt (bL rfl (congrArg D.i ?_)))))
     have hs:mU l f m i=true:=by
      have h9:=c29
      rw[aVy,hg] at h9
      exact h9
     exact(lM (aV5 _) (by omega) (fun j _ h=>hk j h) hs).symm
   refine sk (rT [0,1,2,7] (s3 ?_))
   have hs:mU l f m i=false:=by
    have h9:=c29
    rw[aVy,hg] at h9
    exact h9
   refine wq [] [] (⟨l.length - (i+1),by omega,i+1,rfl,by omega,fun k h=>by by_cases e:k=i;exact e▸hs;exact hk k (by omega),rfl⟩) ?_
   repeat' apply ai
   all_goals first|exact qx|exact congrArg D.i (aB (by omega))|exact qz
 have hi3:i=l.length:=by simp[aD] at c11;omega
 refine xt (sq (rT [6] (s1 (rt (bL rfl (congrArg D.i ?_))))))
 exact(lP (fun j _ h=>hk j (by omega))).symm
theorem sH (l:List cM) (f m:Int) (hl:l.length≤1000000):Sp 162 3 [tD 0 (.sl (aQ l)),tI 1 f,tI 2 m] [tI 0 (iT l f m)]:=by
 refine sb Tryz.func162 rfl (sq (rT [0,1,2] (s1 (sq (sq (rT [1,2,9,10,11] (s3 (bk (SW.loopW (n:=l.length) (fun n q=> ∃i:Nat,n=l.length - i∧i≤l.length∧(∀k,k<i→vG l f m k=false)∧q=[tI 1 f,tI 2 m,tD 9 (.sl (aQ l)),tI 10 (l.length:Nat),tI 11 (i:Nat)]) ?_ ?_)))))))))
 · refine wq (σ':=[tI 1 f,tI 2 m,tD 9 (.sl (aQ l)),tI 10 (l.length:Nat),tI 11 (0:Nat)]) [] [] (⟨0,rfl,aV5 _,fun k h=>absurd h (by omega),rfl⟩) ?_
   repeat' apply ai
   all_goals first|exact qx|(rw[aO];done)|rfl|exact qz
 rintro n s ⟨i,rfl,hi,hk,rfl⟩
 refine sq (rT [1,2,9,10,11,12] (s1 (sq (cd rfl (fun c12=> ?_) fun c12=> ?_))))
 · have hi2:i<l.length:=by simpa using c12
   have hg:=cA (l:=l) hi2
   refine sk (sq (bk (sq (rT [1,2,7,8,9,10,11] (s1 (ai (by rw[aVy,hg];exact⟨⟨by omega,by rw[aO];omega⟩,rfl⟩) (ai (by rw[aVy,hg];exact⟨aV0 rfl,rfl⟩) (s3 (sq (rT [1,2,7,9,10,11,25] (s5 (y4 (ai pk (cd rfl (fun c25=> ?_) fun c25=> ?_))))))))))))))
   · refine sq (rT [6] (s2 (rt (bL rfl (congrArg D.i ?_)))))
     have hs:vG l f m i=true:=by
      have h9:=c25
      rw[aVy,hg] at h9
      exact h9
     exact(lM (aV5 _) (by omega) (fun j _ h=>hk j h) hs).symm
   refine sk (rT [1,2,9,10,11] (s2 ?_))
   have hs:vG l f m i=false:=by
    have h9:=c25
    rw[aVy,hg] at h9
    exact h9
   refine wq [] [] (⟨l.length - (i+1),by omega,i+1,rfl,by omega,fun k h=>by by_cases e:k=i;exact e▸hs;exact hk k (by omega),rfl⟩) ?_
   repeat' apply ai
   all_goals first|exact qx|exact congrArg D.i (aB (by omega))|exact qz
 have hi3:i=l.length:=by simp at c12;omega
 refine xt (sq (rT [6] (s1 (rt (bL rfl (congrArg D.i ?_))))))
 exact(lP (fun j _ h=>hk j (by omega))).symm
theorem nT (l:List cM) (f m:Int) (hl:l.length≤1000000):Sp 155 3 [tD 0 (.sl (aQ l)),tI 1 f,tI 2 m] [tI 0 (iT l f m)]:=by
 refine sb Tryz.func155 rfl (sq (rT [0,1,2] (s1 (sq (sq (rT [0,1,2,7] (s1 (bk (SW.loopW (n:=l.length) (fun n q=> ∃i:Nat,n=l.length - i∧i≤l.length∧(∀k,k<i→vG l f m k=false)∧q=[tD 0 (.sl (aQ l)),tI 1 f,tI 2 m,tI 7 (i:Nat)]) ?_ ?_)))))))))
 · exact wq (σ':=[tD 0 (.sl (aQ l)),tI 1 f,tI 2 m,tI 7 (0:Nat)]) [] [] (⟨0,rfl,aV5 _,fun k h=>absurd h (by omega),rfl⟩) qz
 rintro n s ⟨i,rfl,hi,hk,rfl⟩
 refine sq (sq (rT [0,1,2,7,11] (s4 (cd rfl (fun c11=> ?_) fun c11=> ?_))))
 · have hi2:i<l.length:=by simpa[aO] using c11
   have hg:=cA (l:=l) hi2
   refine sk (sq (bk (sq (rT [0,1,2,7,29] (s2 (ai (by rw[aVy,hg];exact⟨⟨by omega,by rw[aO];omega⟩,rfl⟩) (s1 (ai (by rw[aVy,hg];exact⟨aV0 rfl,rfl⟩) (s3 (y2 (ai (fun h=>(by rw[aVy,hg];exact⟨⟨by omega,by rw[aO];omega⟩,rfl⟩)) (ai rk (y1 (ai (fun h=>(by rw[aVy,hg];exact⟨aV0 rfl,rfl⟩)) (ai rk (y2 (ai pk (cd rfl (fun c29=> ?_) fun c29=> ?_))))))))))))))))))
   · refine sq (rT [6] (s2 (rt (bL rfl (congrArg D.i ?_)))))
     have hs:vG l f m i=true:=by
      have h9:=c29
      rw[aVy,hg] at h9
      exact h9
     exact(lM (aV5 _) (by omega) (fun j _ h=>hk j h) hs).symm
   refine sk (rT [0,1,2,7] (s3 ?_))
   have hs:vG l f m i=false:=by
    have h9:=c29
    rw[aVy,hg] at h9
    exact h9
   refine wq [] [] (⟨l.length - (i+1),by omega,i+1,rfl,by omega,fun k h=>by by_cases e:k=i;exact e▸hs;exact hk k (by omega),rfl⟩) ?_
   repeat' apply ai
   all_goals first|exact qx|exact congrArg D.i (aB (by omega))|exact qz
 have hi3:i=l.length:=by simp[aO] at c11;omega
 refine xt (sq (rT [6] (s1 (rt (bL rfl (congrArg D.i ?_))))))
 exact(lP (fun j _ h=>hk j (by omega))).symm
theorem aDc (id:Int) (n:bA):Sp 193 2 [tI 0 id,tV 1 n.V] [tB 0 (al id n)]:=by
 refine sb Tryz.func193 rfl (sq (rT [0,3] (s2 (sq (rT [4] (s5 (y4 (y1 (xc (fun h=>(dW _ _ _)) (ai rfl (ai rk ?_)))))))))))
 refine y4 (y2 (xc (fun h=>(dW _ _ _)) (ai rfl (ai rk ?_))))
 refine ai (fun h=>pk) (ai rk (ai pk (s1 (rt (bL rfl (congrArg D.b ?_))))))
 first|(simp only[al,fG,gb];done)|(simp only[al,fG,gb];grind)
theorem yz (n:bA) (id:Int):Sp 190 2 [tV 0 n.V,tI 1 id] [tB 0 (al id n)]:=by
 refine sb Tryz.func190 rfl (sq (rT [1,2] (s2 (sq (rT [4] (s5 (y4 (ai pk (s1 (y4 (y4 (y1 (ai (fun h=>pk) (ai rk (ai pk (s1 (rt (bL rfl (congrArg D.b ?_)))))))))))))))))))
 first|(simp only[al,fG,gb];done)|(simp only[al,fG,gb];grind)
theorem ct (l:List bA) (hx: ∀x∈l,x.text.length≤140737488355328) (hl:l.length≤100000):Sp 191 1 [tD 0 (.sl (aE l))] [tB 0 (jL l)]:=by
 refine sb Tryz.func191 rfl (sq (rT [0] (s1 (sq (sq (rT [0,5,6,7] (s3 (bk (SW.loopW (n:=l.length) (fun n q=> ∃i:Nat,n=l.length - i∧i≤l.length∧(∀k,k<i→lD l k=true)∧q=[tD 0 (.sl (aE l)),tD 5 (.sl (aE l)),tI 6 (l.length:Nat),tI 7 (i:Nat)]) ?_ ?_)))))))))
 · refine wq (σ':=[tD 0 (.sl (aE l)),tD 5 (.sl (aE l)),tI 6 (l.length:Nat),tI 7 (0:Nat)]) [] [] (⟨0,rfl,aV5 _,fun k h=>absurd h (by omega),rfl⟩) ?_
   repeat' apply ai
   all_goals first|exact qx|(rw[aD];done)|rfl|exact qz
 rintro n s ⟨i,rfl,hi,hk,rfl⟩
 refine sq (rT [0,5,6,7,8] (s1 (sq (cd rfl (fun c8=> ?_) fun c8=> ?_))))
 · have hi2:i<l.length:=by simpa using c8
   have hg:=aT (l:=l) hi2
   have hmem:l.getD i .zero∈l:=by rw[aV6,aV8 hi2];exact List.getElem_mem _
   refine sk (sq (bk (sq (rT [0,3,4,5,6,7] (s1 (ai (by rw[aVy,hg];exact⟨⟨by omega,by rw[aD];omega⟩,rfl⟩) (ai (by rw[aVy,hg];exact⟨aV0 rfl,rfl⟩) (s3 (sq (rD [0,5,6,7,38] (s1 (xp (sG (l.getD i .zero) (hx _ hmem)) (ai (by rw[aVy,hg];rfl) ?_)))))))))))))
   refine s2 (y4 (y2 (ai (fun h=>(by have h0:0<i:=(by have h9:=h;simp[gb] at h9;omega);rw[eQ h0 (by omega),aVy,aT (by omega),aD];exact⟨⟨by omega,by omega⟩,rfl⟩)) (ai rk (y1 (ai (fun h=>(by have h0:0<i:=(by have h9:=h;simp[gb] at h9;omega);rw[eQ h0 (by omega),aVy,aT (by omega)];exact⟨aV0 rfl,rfl⟩)) (ai rk (y3 (ai (fun h=>(by have h0:0<i:=(by have h9:=h;simp[gb] at h9;omega);rw[eQ h0 (by omega),aVy,aT (by omega),aD];exact⟨⟨by omega,by omega⟩,rfl⟩)) (ai rk (y1 (ai (fun h=>(by have h0:0<i:=(by have h9:=h;simp[gb] at h9;omega);rw[eQ h0 (by omega),aVy,aT (by omega)];exact⟨aV0 rfl,rfl⟩)) (ai rk (y4 (xc (fun h=>(sF _ _ _ _)) (ai rfl (ai rk ?_)))))))))))))))))
   refine y1 (ai (fun h=>pk) (ai rk (ai pk (ai (by kernel_rfl) (cd rfl (fun c38=> ?_) fun c38=> ?_)))))
   · refine sq (rT [2] (s1 (rt (bL rfl (congrArg D.b ?_)))))
     have hs:lD l i=false:=tY c38 (fun h0=>by simp only[eQ h0 (show i≤1000000 by omega),aVy,hg,aT (show i - 1<l.length by omega)];rfl)
     rw[jL,fK hi2 hs]
   refine sk (rT [0,5,6,7] (s2 ?_))
   have hs:lD l i=true:=tY c38 (fun h0=>by simp only[eQ h0 (show i≤1000000 by omega),aVy,hg,aT (show i - 1<l.length by omega)];rfl)
   refine wq [] [] (⟨l.length - (i+1),by omega,i+1,rfl,by omega,fun k h=>by by_cases e:k=i;exact e▸hs;exact hk k (by omega),rfl⟩) ?_
   repeat' apply ai
   all_goals first|exact qx|exact congrArg D.i (aB (by omega))|exact qz
 have hi3:i=l.length:=by simp at c8;omega
 refine xt (sq (rT [2] (s1 (rt (bL rfl (congrArg D.b ?_))))))
 subst hi3
 rw[jL,iD hk]
theorem aq (l:List bA) (most:Int) (hx: ∀x∈l,x.text.length≤140737488355328) (hl:l.length≤100000):Sp 188 2 [tD 0 (.sl (aE l)),tI 1 most] [tB 0 (decide ((l.length:Int)≤most)&&jL l)]:=by
 refine sb Tryz.func188 rfl (sq (rT [0,1] (s1 (sq (sq (rT [0,9] (s4 (cd rfl (fun c9=> ?_) fun c9=> ?_))))))))
 · refine sq (rT [4] (s1 (rt (bL rfl (congrArg D.b ?_)))))
   simp[aD] at c9
   simp[Int.not_le.2 c9]
 have hm: (l.length:Int)≤most:=by simp[aD] at c9;omega
 refine sk (sq (sq (rT [0,5] (s1 (bk (SW.loopW (n:=l.length) (fun n q=> ∃i:Nat,n=l.length - i∧i≤l.length∧(∀k,k<i→lD l k=true)∧q=[tD 0 (.sl (aE l)),tI 5 (i:Nat)]) ?_ ?_))))))
 · exact wq (σ':=[tD 0 (.sl (aE l)),tI 5 (0:Nat)]) [] [] (⟨0,rfl,aV5 _,fun k h=>absurd h (by omega),rfl⟩) qz
 rintro n s ⟨i,rfl,hi,hk,rfl⟩
 refine sq (sq (rT [0,5,13] (s4 (cd rfl (fun c13=> ?_) fun c13=> ?_))))
 · have hi2:i<l.length:=by simpa[aD] using c13
   have hg:=aT (l:=l) hi2
   have hmem:l.getD i .zero∈l:=by rw[aV6,aV8 hi2];exact List.getElem_mem _
   refine sk (sq (bk (sq (rD [0,5,51] (s2 (ai (by rw[aVy,hg];exact⟨⟨by omega,by rw[aD];omega⟩,rfl⟩) (ai (by rw[aVy,hg];exact⟨aV0 rfl,rfl⟩) (xp (wZ (l.getD i .zero) (hx _ hmem)) (ai (by rw[aVy,hg];rfl) ?_)))))))))
   refine s2 (y4 (y2 (ai (fun h=>(by have h0:0<i:=(by have h9:=h;simp[gb] at h9;omega);rw[eQ h0 (by omega),aVy,aT (by omega),aD];exact⟨⟨by omega,by omega⟩,rfl⟩)) (ai rk (y1 (ai (fun h=>(by have h0:0<i:=(by have h9:=h;simp[gb] at h9;omega);rw[eQ h0 (by omega),aVy,aT (by omega)];exact⟨aV0 rfl,rfl⟩)) (ai rk (y3 (ai (fun h=>(by have h0:0<i:=(by have h9:=h;simp[gb] at h9;omega);rw[eQ h0 (by omega),aVy,aT (by omega),aD];exact⟨⟨by omega,by omega⟩,rfl⟩)) (ai rk (y1 (ai (fun h=>(by have h0:0<i:=(by have h9:=h;simp[gb] at h9;omega);rw[eQ h0 (by omega),aVy,aT (by omega)];exact⟨aV0 rfl,rfl⟩)) (ai rk (y2 (ai (fun h=>(by rw[aVy,hg];exact⟨⟨by omega,by rw[aD];omega⟩,rfl⟩)) (ai rk (y1 (ai (fun h=>(by rw[aVy,hg];exact⟨aV0 rfl,rfl⟩)) (ai rk (y2 (ai (fun h=>(by rw[aVy,hg];exact⟨⟨by omega,by rw[aD];omega⟩,rfl⟩)) (ai rk (y1 (ai (fun h=>(by rw[aVy,hg];exact⟨aV0 rfl,rfl⟩)) (ai rk (xc (fun h=>(qS _ _ _ _)) (ai rfl (ai rk ?_))))))))))))))))))))))))))))
   refine y1 (ai (fun h=>pk) (ai rk (ai pk (ai (by kernel_rfl) (cd rfl (fun c51=> ?_) fun c51=> ?_)))))
   · refine sq (rT [4] (s1 (rt (bL rfl (congrArg D.b ?_)))))
     have hs:lD l i=false:=tY c51 (fun h0=>by simp only[eQ h0 (show i≤1000000 by omega),aVy,hg,aT (show i - 1<l.length by omega)];rfl)
     rw[jL,fK hi2 hs];simp
   refine sk (rT [0,5] (s3 ?_))
   have hs:lD l i=true:=tY c51 (fun h0=>by simp only[eQ h0 (show i≤1000000 by omega),aVy,hg,aT (show i - 1<l.length by omega)];rfl)
   refine wq [] [] (⟨l.length - (i+1),by omega,i+1,rfl,by omega,fun k h=>by by_cases e:k=i;exact e▸hs;exact hk k (by omega),rfl⟩) ?_
   repeat' apply ai
   all_goals first|exact qx|exact congrArg D.i (aB (by omega))|exact qz
 have hi3:i=l.length:=by simp[aD] at c13;omega
 refine xt (sq (rT [4] (s1 (rt (bL rfl (congrArg D.b ?_))))))
 subst hi3
 rw[jL,iD hk];simp[hm]
theorem xe (l:List cM) (hl:l.length≤100000):Sp 192 1 [tD 0 (.sl (aQ l))] [tB 0 (nX l)]:=by
 refine sb Tryz.func192 rfl (sq (rT [0] (s1 (sq (sq (rT [0,5,6,7] (s3 (bk (SW.loopW (n:=l.length) (fun n q=> ∃i:Nat,n=l.length - i∧i≤l.length∧(∀k,k<i→mF l k=true)∧q=[tD 0 (.sl (aQ l)),tD 5 (.sl (aQ l)),tI 6 (l.length:Nat),tI 7 (i:Nat)]) ?_ ?_)))))))))
 · refine wq (σ':=[tD 0 (.sl (aQ l)),tD 5 (.sl (aQ l)),tI 6 (l.length:Nat),tI 7 (0:Nat)]) [] [] (⟨0,rfl,aV5 _,fun k h=>absurd h (by omega),rfl⟩) ?_
   repeat' apply ai
   all_goals first|exact qx|(rw[aO];done)|rfl|exact qz
 rintro n s ⟨i,rfl,hi,hk,rfl⟩
 refine sq (rT [0,5,6,7,8] (s1 (sq (cd rfl (fun c8=> ?_) fun c8=> ?_))))
 · have hi2:i<l.length:=by simpa using c8
   have hg:=cA (l:=l) hi2
   have hmem:l.getD i .zero∈l:=by rw[aV6,aV8 hi2];exact List.getElem_mem _
   refine sk (sq (bk (sq (rT [0,3,4,5,6,7] (s1 (ai (by rw[aVy,hg];exact⟨⟨by omega,by rw[aO];omega⟩,rfl⟩) (ai (by rw[aVy,hg];exact⟨aV0 rfl,rfl⟩) (s3 (sq (rD [0,5,6,7,38] (s1 (xp (yx (l.getD i .zero)) (ai (by rw[aVy,hg];rfl) ?_)))))))))))))
   refine s2 (y4 (y2 (ai (fun h=>(by have h0:0<i:=(by have h9:=h;simp[gb] at h9;omega);rw[eQ h0 (by omega),aVy,cA (by omega),aO];exact⟨⟨by omega,by omega⟩,rfl⟩)) (ai rk (y1 (ai (fun h=>(by have h0:0<i:=(by have h9:=h;simp[gb] at h9;omega);rw[eQ h0 (by omega),aVy,cA (by omega)];exact⟨aV0 rfl,rfl⟩)) (ai rk (y3 (ai (fun h=>(by have h0:0<i:=(by have h9:=h;simp[gb] at h9;omega);rw[eQ h0 (by omega),aVy,cA (by omega),aO];exact⟨⟨by omega,by omega⟩,rfl⟩)) (ai rk (y1 (ai (fun h=>(by have h0:0<i:=(by have h9:=h;simp[gb] at h9;omega);rw[eQ h0 (by omega),aVy,cA (by omega)];exact⟨aV0 rfl,rfl⟩)) (ai rk (y4 (xc (fun h=>(sF _ _ _ _)) (ai rfl (ai rk ?_)))))))))))))))))
   refine y1 (ai (fun h=>pk) (ai rk (ai pk (ai (by kernel_rfl) (cd rfl (fun c38=> ?_) fun c38=> ?_)))))
   · refine sq (rT [2] (s1 (rt (bL rfl (congrArg D.b ?_)))))
     have hs:mF l i=false:=tZ c38 (fun h0=>by simp only[eQ h0 (show i≤1000000 by omega),aVy,hg,cA (show i - 1<l.length by omega)];rfl)
     rw[nX,fK hi2 hs]
   refine sk (rT [0,5,6,7] (s2 ?_))
   have hs:mF l i=true:=tZ c38 (fun h0=>by simp only[eQ h0 (show i≤1000000 by omega),aVy,hg,cA (show i - 1<l.length by omega)];rfl)
   refine wq [] [] (⟨l.length - (i+1),by omega,i+1,rfl,by omega,fun k h=>by by_cases e:k=i;exact e▸hs;exact hk k (by omega),rfl⟩) ?_
   repeat' apply ai
   all_goals first|exact qx|exact congrArg D.i (aB (by omega))|exact qz
 have hi3:i=l.length:=by simp at c8;omega
 refine xt (sq (rT [2] (s1 (rt (bL rfl (congrArg D.b ?_))))))
 subst hi3
 rw[nX,iD hk]
theorem fm (k:bO) (hx: ∀x∈k.held,x.text.length≤140737488355328) (hy: ∀x∈k.inbox,x.text.length≤140737488355328):Sp 148 1 [tV 0 k.V] [tB 0 (eG k)]:=by
 refine sb Tryz.func148 rfl (sq (rT [1] (s2 (sq (sq (rT [1,42] (s2 (xp (eP _) (ai rfl ?_)))))))))
 refine s2 (y2 (xc (fun h=>(dW _ _ _)) (ai rfl (ai rk ?_))))
 refine y1 (ai pk (s1 (y2 (xc (fun h=>(dW _ _ _)) (ai rfl (ai rk ?_))))))
 refine y1 (ai pk (s1 (y4 (ai pk (s1 (y4 (ai pk (s1 (y4 (ai pk (cd rfl (fun c42=> ?_) fun c42=> ?_)))))))))))
 · refine sq (rT [2] (s1 (rt (bL rfl (congrArg D.b ?_)))))
   refine(nY fun h=> ?_).symm
   obtain⟨⟨h1,h2,h3,h4,h5,h6⟩,⟨h7,h8,h9⟩,h10,h11,h12⟩:=(cH k).1 h
   simp only[gb,fG,aD,aO,h1,Bool.not_true,Bool.false_or,Bool.or_eq_true,Bool.not_eq_eq_eq_not,Bool.and_eq_false_iff,decide_eq_true_eq,decide_eq_false_iff_not,Bool.not_eq_true'] at c42
   omega
 have hf:eA k.id=true∧(0≤k.time∧k.time≤999)∧(1≤k.next∧k.next≤100)∧k.held.length≤6∧k.marks.length≤12∧k.inbox.length≤6:=by
  simp only[gb,fG,aD,aO,Bool.or_eq_false_iff,Bool.not_eq_false,decide_eq_false_iff_not,Bool.not_eq_eq_eq_not,Bool.not_false,aV1,decide_eq_true_eq] at c42
  obtain⟨⟨⟨⟨⟨q1,q2⟩,q3⟩,q4⟩,q5⟩,q6⟩:=c42
  exact⟨q1,q2,q3,by omega,by omega,by omega⟩
 obtain⟨f1,f2,f3,f4,f5,f6⟩:=hf
 refine sk (sq (sq (rT [1,58] (s2 (xp (ct k.held hx (by omega)) (ai rfl ?_))))))
 refine s2 (y2 (xc (fun h=>(xe k.marks (by omega))) (ai rfl (ai rk ?_))))
 refine y1 (ai pk (s1 (y2 (xc (fun h=>(ct k.inbox hy (by omega))) (ai rfl (ai rk ?_))))))
 refine y1 (ai pk (cd rfl (fun c58=> ?_) fun c58=> ?_))
 · refine sq (rT [2] (s1 (rt (bL rfl (congrArg D.b ?_)))))
   refine(nY fun h=> ?_).symm
   obtain⟨⟨h1,h2,h3,h4,h5,h6⟩,⟨h7,h8,h9⟩,h10,h11,h12⟩:=(cH k).1 h
   rw[h7,h8,h9] at c58
   cases c58
 have hg3:jL k.held=true∧nX k.marks=true∧jL k.inbox=true:=by
  simp only[gb,Bool.or_eq_false_iff,Bool.not_eq_false,Bool.not_eq_eq_eq_not,Bool.not_false] at c58
  exact⟨c58.1.1,c58.1.2,c58.2⟩
 refine sk (sq (sq (rT [1,60,61,62] (s4 (bk (SW.loopW (n:=k.held.length) (fun n q=> ∃i:Nat,n=k.held.length - i∧i≤k.held.length∧(∀j,j<i→tC k j=true)∧q=[tP 1 1,tD 60 (.sl (aE k.held)),tI 61 (k.held.length:Nat),tI 62 (i:Nat),oB 1 44 [.d (.i k.id),.d (.i k.time),.d (.i k.next),.d (.sl (aE k.held)),.d (.sl (aQ k.marks)),.d (.sl (aE k.inbox))]]) ?_ ?_))))))
 · refine wq (σ':=[tP 1 1,tD 60 (.sl (aE k.held)),tI 61 (k.held.length:Nat),tI 62 (0:Nat),oB 1 44 [.d (.i k.id),.d (.i k.time),.d (.i k.next),.d (.sl (aE k.held)),.d (.sl (aQ k.marks)),.d (.sl (aE k.inbox))]]) [] [] (⟨0,rfl,aV5 _,fun j h=>absurd h (by omega),rfl⟩) ?_
   repeat' apply ai
   all_goals first|exact qx|(rw[aD];done)|rfl|exact qz
 rintro n s ⟨i,rfl,hi,hk,rfl⟩
 refine sq (rT [1,60,61,62,63] (s1 (sq (cd rfl (fun c63=> ?_) fun c63=> ?_))))
 · have hi2:i<k.held.length:=by simpa using c63
   have hg:=aT (l:=k.held) hi2
   refine sk (sq (bk (sq (rT [1,4,60,61,62] (ai (by rw[aVy,hg];exact⟨⟨by omega,by rw[aD];omega⟩,rfl⟩) (ai (by rw[aVy,hg];exact⟨aV0 rfl,rfl⟩) (s2 (sq (wa [tP 1 1,tD 60 (.sl (aE k.held)),tI 61 (k.held.length:Nat),tI 62 (i:Nat),oB 1 44 [.d (.i k.id),.d (.i k.time),.d (.i k.next),.d (.sl (aE k.held)),.d (.sl (aQ k.marks)),.d (.sl (aE k.inbox))],tP 4 4,oB 4 52 [.d (.i (k.held.getD i .zero).frm),.d (.i (k.held.getD i .zero).num),.d (.i (k.held.getD i .zero).to),.d (.i (k.held.getD i .zero).til),.d (.s (k.held.getD i .zero).text)]] [] [] ?_ ?_)))))))))
   · repeat' apply ai
     all_goals first|exact qx|(rw[aVy,hg];rfl)|exact qz
   refine rT [1,60,61,62,101] (s6 (y4 (y1 (ai pk (s1 (y4 (y1 (ai pk (s1 (y3 (xc (fun h=>(aDc k.id (k.held.getD i .zero))) (ai rfl (ai rk ?_)))))))))))))
   refine y1 (ai pk (s1 (y4 (y2 (xc (fun h=>(sH k.marks _ _ (by omega))) (ai rfl (ai rk ?_)))))))
   refine y1 (ai pk (cd rfl (fun c101=> ?_) fun c101=> ?_))
   · refine sq (rT [2] (s1 (rt (bL rfl (congrArg D.b ?_)))))
     refine(nY fun h=> ?_).symm
     obtain⟨⟨h1,h2,h3,h4,h5,h6⟩,⟨h7,h8,h9⟩,h10,h11,h12⟩:=(cH k).1 h
     rw[fK hi2 (yX c101)] at h10
     cases h10
   refine sk (rT [1,60,61,62] (s2 ?_))
   have hs:tC k i=true:=yX c101
   refine wq [] [] (⟨k.held.length - (i+1),by omega,i+1,rfl,by omega,fun j h=>by by_cases e:j=i;exact e▸hs;exact hk j (by omega),rfl⟩) ?_
   repeat' apply ai
   all_goals first|exact qx|exact congrArg D.i (aB (by omega))|exact qz
 have hiA:i=k.held.length:=by simp at c63;omega
 have hkA:=hk
 clear hk hi
 refine xt (sq (sq (rT [1,104,105,106] (s4 (bk (SW.loopW (n:=k.marks.length) (fun n q=> ∃i:Nat,n=k.marks.length - i∧i≤k.marks.length∧(∀j,j<i→wV k j=true)∧q=[tP 1 1,tD 104 (.sl (aQ k.marks)),tI 105 (k.marks.length:Nat),tI 106 (i:Nat),oB 1 44 [.d (.i k.id),.d (.i k.time),.d (.i k.next),.d (.sl (aE k.held)),.d (.sl (aQ k.marks)),.d (.sl (aE k.inbox))]]) ?_ ?_))))))
 · refine wq (σ':=[tP 1 1,tD 104 (.sl (aQ k.marks)),tI 105 (k.marks.length:Nat),tI 106 (0:Nat),oB 1 44 [.d (.i k.id),.d (.i k.time),.d (.i k.next),.d (.sl (aE k.held)),.d (.sl (aQ k.marks)),.d (.sl (aE k.inbox))]]) [] [] (⟨0,rfl,aV5 _,fun j h=>absurd h (by omega),rfl⟩) ?_
   repeat' apply ai
   all_goals first|exact qx|(rw[aO];done)|rfl|exact qz
 rintro n s ⟨i,rfl,hi,hk,rfl⟩
 refine sq (rT [1,104,105,106,107] (s1 (sq (cd rfl (fun c107=> ?_) fun c107=> ?_))))
 · have hi2:i<k.marks.length:=by simpa using c107
   have hg:=cA (l:=k.marks) hi2
   refine sk (sq (bk (sq (rT [1,6,104,105,106] (ai (by rw[aVy,hg];exact⟨⟨by omega,by rw[aO];omega⟩,rfl⟩) (ai (by rw[aVy,hg];exact⟨aV0 rfl,rfl⟩) (s2 (sq (wa [tP 1 1,tD 104 (.sl (aQ k.marks)),tI 105 (k.marks.length:Nat),tI 106 (i:Nat),oB 1 44 [.d (.i k.id),.d (.i k.time),.d (.i k.next),.d (.sl (aE k.held)),.d (.sl (aQ k.marks)),.d (.sl (aE k.inbox))],tP 6 6,oB 6 162 [.d (.i (k.marks.getD i .zero).frm),.d (.i (k.marks.getD i .zero).num),.d (.i (k.marks.getD i .zero).til)]] [] [] ?_ ?_)))))))))
   · repeat' apply ai
     all_goals first|exact qx|(rw[aVy,hg];rfl)|exact qz
   refine rT [1,104,105,106,128] (s6 (y4 (y1 (ai pk (s1 (y4 (y1 (ai pk (cd rfl (fun c128=> ?_) fun c128=> ?_)))))))))
   · refine sq (rT [2] (s1 (rt (bL rfl (congrArg D.b ?_)))))
     refine(nY fun h=> ?_).symm
     obtain⟨⟨h1,h2,h3,h4,h5,h6⟩,⟨h7,h8,h9⟩,h10,h11,h12⟩:=(cH k).1 h
     rw[fK hi2 (yY c128)] at h11
     cases h11
   refine sk (rT [1,104,105,106] (s2 ?_))
   have hs:wV k i=true:=yY c128
   refine wq [] [] (⟨k.marks.length - (i+1),by omega,i+1,rfl,by omega,fun j h=>by by_cases e:j=i;exact e▸hs;exact hk j (by omega),rfl⟩) ?_
   repeat' apply ai
   all_goals first|exact qx|exact congrArg D.i (aB (by omega))|exact qz
 have hiB:i=k.marks.length:=by simp at c107;omega
 have hkB:=hk
 clear hk hi
 refine xt (sq (sq (rT [1,131,132,133] (s4 (bk (SW.loopW (n:=k.inbox.length) (fun n q=> ∃i:Nat,n=k.inbox.length - i∧i≤k.inbox.length∧(∀j,j<i→sA k j=true)∧q=[tP 1 1,tD 131 (.sl (aE k.inbox)),tI 132 (k.inbox.length:Nat),tI 133 (i:Nat),oB 1 44 [.d (.i k.id),.d (.i k.time),.d (.i k.next),.d (.sl (aE k.held)),.d (.sl (aQ k.marks)),.d (.sl (aE k.inbox))]]) ?_ ?_))))))
 · refine wq (σ':=[tP 1 1,tD 131 (.sl (aE k.inbox)),tI 132 (k.inbox.length:Nat),tI 133 (0:Nat),oB 1 44 [.d (.i k.id),.d (.i k.time),.d (.i k.next),.d (.sl (aE k.held)),.d (.sl (aQ k.marks)),.d (.sl (aE k.inbox))]]) [] [] (⟨0,rfl,aV5 _,fun j h=>absurd h (by omega),rfl⟩) ?_
   repeat' apply ai
   all_goals first|exact qx|(rw[aD];done)|rfl|exact qz
 rintro n s ⟨i,rfl,hi,hk,rfl⟩
 refine sq (rT [1,131,132,133,134] (s1 (sq (cd rfl (fun c134=> ?_) fun c134=> ?_))))
 · have hi2:i<k.inbox.length:=by simpa using c134
   have hg:=aT (l:=k.inbox) hi2
   refine sk (sq (bk (sq (rT [1,8,131,132,133] (ai (by rw[aVy,hg];exact⟨⟨by omega,by rw[aD];omega⟩,rfl⟩) (ai (by rw[aVy,hg];exact⟨aV0 rfl,rfl⟩) (s2 (sq (wa [tP 1 1,tD 131 (.sl (aE k.inbox)),tI 132 (k.inbox.length:Nat),tI 133 (i:Nat),oB 1 44 [.d (.i k.id),.d (.i k.time),.d (.i k.next),.d (.sl (aE k.held)),.d (.sl (aQ k.marks)),.d (.sl (aE k.inbox))],tP 8 8,oB 8 52 [.d (.i (k.inbox.getD i .zero).frm),.d (.i (k.inbox.getD i .zero).num),.d (.i (k.inbox.getD i .zero).to),.d (.i (k.inbox.getD i .zero).til),.d (.s (k.inbox.getD i .zero).text)]] [] [] ?_ ?_)))))))))
   · repeat' apply ai
     all_goals first|exact qx|(rw[aVy,hg];rfl)|exact qz
   refine rT [1,131,132,133,172] (s6 (y4 (y1 (ai pk (s1 (y4 (y1 (ai pk (s1 (y4 (y4 (y4 (xc (fun h=>(sH k.marks _ _ (by omega))) (ai rfl (ai rk ?_)))))))))))))))
   refine y1 (ai (fun h=>pk) (ai rk (ai pk (cd rfl (fun c172=> ?_) fun c172=> ?_))))
   · refine sq (rT [2] (s1 (rt (bL rfl (congrArg D.b ?_)))))
     refine(nY fun h=> ?_).symm
     obtain⟨⟨h1,h2,h3,h4,h5,h6⟩,⟨h7,h8,h9⟩,h10,h11,h12⟩:=(cH k).1 h
     rw[fK hi2 (wB c172)] at h12
     cases h12
   refine sk (rT [1,131,132,133] (s2 ?_))
   have hs:sA k i=true:=wB c172
   refine wq [] [] (⟨k.inbox.length - (i+1),by omega,i+1,rfl,by omega,fun j h=>by by_cases e:j=i;exact e▸hs;exact hk j (by omega),rfl⟩) ?_
   repeat' apply ai
   all_goals first|exact qx|exact congrArg D.i (aB (by omega))|exact qz
 have hiC:i=k.inbox.length:=by simp at c134;omega
 refine xt (sq (rT [2] (s1 (rt (bL rfl (congrArg D.b ?_))))))
 refine((cH k).2 ⟨⟨f1,f2,f3,f4,f5,f6⟩,hg3,iD ?_,iD ?_,iD ?_⟩).symm
 · rw[← hiA];exact hkA
 · rw[← hiB];exact hkB
 rw[← hiC];exact hk
theorem or4 (a b c d:Bool): (c||a||b||d)=(a||b||c||d):=by cases a<;>cases b<;>cases c<;>cases d<;>rfl
theorem or3 (a b c:Bool): (b||a||c)=(a||b||c):=by cases a<;>cases b<;>cases c<;>rfl
theorem or2 (a b:Bool): (b||a)=(a||b):=by cases a<;>cases b<;>rfl
theorem aSb (a b c d:Bool): (!(a&&b&&c)||d)=(!a|| !b|| !c||d):=by cases a<;>cases b<;>cases c<;>cases d<;>rfl
theorem rn (l:List cM) (hl:l.length≤100000):Sp 189 1 [tD 0 (.sl (aQ l))] [tB 0 (decide (l.length≤12)&&nX l)]:=by
 refine sb Tryz.func189 rfl (sq (rT [0] (s1 (sq (sq (rT [0,7] (s3 (cd rfl (fun c7=> ?_) fun c7=> ?_))))))))
 · have hm: ¬l.length≤12:=by simp[aO] at c7;omega
   refine sq (rT [2] (s1 (rt (bL rfl (congrArg D.b ?_)))))
   simp[hm]
 have hm:l.length≤12:=by simp[aO] at c7;omega
 refine sk (sq (sq (rT [0,3] (s1 (bk (SW.loopW (n:=l.length) (fun n q=> ∃i:Nat,n=l.length - i∧i≤l.length∧(∀k,k<i→mF l k=true)∧q=[tD 0 (.sl (aQ l)),tI 3 (i:Nat)]) ?_ ?_))))))
 · exact wq (σ':=[tD 0 (.sl (aQ l)),tI 3 (0:Nat)]) [] [] (⟨0,rfl,aV5 _,fun k h=>absurd h (by omega),rfl⟩) qz
 rintro n s ⟨i,rfl,hi,hk,rfl⟩
 refine sq (sq (rT [0,3,11] (s4 (cd rfl (fun c11=> ?_) fun c11=> ?_))))
 · have hi2:i<l.length:=by simpa[aO] using c11
   have hg:=cA (l:=l) hi2
   refine sk (sq (bk (sq (rT [0,3,4] (s2 (ai (by rw[aVy,hg];exact⟨⟨by omega,by rw[aO];omega⟩,rfl⟩) (ai (by rw[aVy,hg];exact⟨aV0 rfl,rfl⟩) (s2 (sq (wa [tD 0 (.sl (aQ l)),tI 3 (i:Nat),tP 4 4,oB 4 162 [.d (.i (l.getD i .zero).frm),.d (.i (l.getD i .zero).num),.d (.i (l.getD i .zero).til)]] [] [] ?_ ?_))))))))))
   · repeat' apply ai
     all_goals first|exact qx|(rw[aVy,hg];rfl)|exact qz
   refine rD [0,3,57] (s2 (xp (dP _) (ai rfl ?_)))
   refine s2 (y2 (xc (fun h=>(dI _ _ _)) (ai rfl (ai rk ?_))))
   refine y1 (ai pk (s1 (y2 (xc (fun h=>(dI _ _ _)) (ai rfl (ai rk ?_))))))
   refine y1 (ai pk (s1 (y4 (y2 (ai (fun h=>(by have h0:0<i:=(by have h9:=h;simp[gb] at h9;omega);rw[eQ h0 (by omega),aVy,cA (by omega),aO];exact⟨⟨by omega,by omega⟩,rfl⟩)) (ai rk (y1 (ai (fun h=>(by have h0:0<i:=(by have h9:=h;simp[gb] at h9;omega);rw[eQ h0 (by omega),aVy,cA (by omega)];exact⟨aV0 rfl,rfl⟩)) (ai rk (y3 (ai (fun h=>(by have h0:0<i:=(by have h9:=h;simp[gb] at h9;omega);rw[eQ h0 (by omega),aVy,cA (by omega),aO];exact⟨⟨by omega,by omega⟩,rfl⟩)) (ai rk (y1 (ai (fun h=>(by have h0:0<i:=(by have h9:=h;simp[gb] at h9;omega);rw[eQ h0 (by omega),aVy,cA (by omega)];exact⟨aV0 rfl,rfl⟩)) (ai rk (y4 (xc (fun h=>(qS _ _ _ _)) (ai rfl (ai rk ?_)))))))))))))))))))
   refine y1 (ai (fun h=>pk) (ai rk (ai pk (ai (by kernel_rfl) (cd rfl (fun c57=> ?_) fun c57=> ?_)))))
   · refine sq (rT [2] (s1 (rt (bL rfl (congrArg D.b ?_)))))
     have hs:mF l i=false:=tZ ((aSb _ _ _ _).trans c57) (fun h0=>by simp only[eQ h0 (show i≤1000000 by omega),aVy,cA (show i - 1<l.length by omega)];rfl)
     rw[nX,fK hi2 hs];simp
   refine sk (rT [0,3] (s3 ?_))
   have hs:mF l i=true:=tZ ((aSb _ _ _ _).trans c57) (fun h0=>by simp only[eQ h0 (show i≤1000000 by omega),aVy,cA (show i - 1<l.length by omega)];rfl)
   refine wq [] [] (⟨l.length - (i+1),by omega,i+1,rfl,by omega,fun k h=>by by_cases e:k=i;exact e▸hs;exact hk k (by omega),rfl⟩) ?_
   repeat' apply ai
   all_goals first|exact qx|exact congrArg D.i (aB (by omega))|exact qz
 have hi3:i=l.length:=by simp[aO] at c11;omega
 refine xt (sq (rT [2] (s1 (rt (bL rfl (congrArg D.b ?_))))))
 subst hi3
 rw[nX,iD hk];simp[hm]
theorem xA (k:bO) (hb1:k.held.length≤100000∧k.marks.length≤100000∧k.inbox.length≤100000) (hx: ∀x∈k.held,x.text.length≤140737488355328) (hy: ∀x∈k.inbox,x.text.length≤140737488355328):Sp 145 1 [tV 0 k.V] [tB 0 (eG k)]:=by
 refine sb Tryz.func145 rfl (sq (rT [1] (s2 (sq (sq (rT [1,42] (s2 (xp (dP _) (ai rfl ?_)))))))))
 refine s2 (y2 (xc (fun h=>(dI _ _ _)) (ai rfl (ai rk ?_))))
 refine y1 (ai pk (s1 (y2 (xc (fun h=>(dI _ _ _)) (ai rfl (ai rk ?_))))))
 refine y1 (ai pk (s1 (y2 (xc (fun h=>(aq k.held 6 hx hb1.1)) (ai rfl (ai rk ?_))))))
 refine y1 (ai pk (s1 (y2 (xc (fun h=>(rn k.marks hb1.2.1)) (ai rfl (ai rk ?_))))))
 refine y1 (ai pk (s1 (y2 (xc (fun h=>(aq k.inbox 6 hy hb1.2.2)) (ai rfl (ai rk ?_))))))
 refine y1 (ai pk (cd rfl (fun c42=> ?_) fun c42=> ?_))
 · refine sq (rT [2] (s1 (rt (bL rfl (congrArg D.b ?_)))))
   refine(nY fun h=> ?_).symm
   obtain⟨⟨h1,h2,h3,h4,h5,h6⟩,⟨h7,h8,h9⟩,h10,h11,h12⟩:=(cH k).1 h
   have h4b: ((k.held.length:Int)≤6):=by omega
   have h6b: ((k.inbox.length:Int)≤6):=by omega
   simp only[gb,fG,h1,h7,h8,h9,h5,h4b,h6b,h2.1,h2.2,h3.1,h3.2,decide_true,Bool.and_true,Bool.not_true,Bool.or_false] at c42
   cases c42
 have hf: (eA k.id=true∧(0≤k.time∧k.time≤999)∧(1≤k.next∧k.next≤100)∧k.held.length≤6∧k.marks.length≤12∧k.inbox.length≤6)∧jL k.held=true∧nX k.marks=true∧jL k.inbox=true:=by
  simp only[gb,fG,Bool.or_eq_false_iff,Bool.not_eq_false,decide_eq_false_iff_not,Bool.not_eq_eq_eq_not,Bool.not_false,aV1,decide_eq_true_eq] at c42
  obtain⟨⟨⟨⟨⟨q1,q2⟩,q3⟩,q4,q4b⟩,q5,q5b⟩,q6,q6b⟩:=c42
  exact⟨⟨q1,q2,q3,by omega,by omega,by omega⟩,q4b,q5b,q6b⟩
 obtain⟨⟨f1,f2,f3,f4,f5,f6⟩,hg3⟩:=hf
 refine sk (sq (sq (rT [1,3] (s1 (bk (SW.loopW (n:=k.held.length) (fun n q=> ∃i:Nat,n=k.held.length - i∧i≤k.held.length∧(∀j,j<i→tC k j=true)∧q=[tP 1 1,tI 3 (i:Nat),oB 1 44 [.d (.i k.id),.d (.i k.time),.d (.i k.next),.d (.sl (aE k.held)),.d (.sl (aQ k.marks)),.d (.sl (aE k.inbox))]]) ?_ ?_))))))
 · refine wq (σ':=[tP 1 1,tI 3 (0:Nat),oB 1 44 [.d (.i k.id),.d (.i k.time),.d (.i k.next),.d (.sl (aE k.held)),.d (.sl (aQ k.marks)),.d (.sl (aE k.inbox))]]) [] [] (⟨0,rfl,aV5 _,fun j h=>absurd h (by omega),rfl⟩) ?_
   repeat' apply ai
   all_goals first|exact qx|(rw[aD];done)|rfl|exact qz
 rintro n s ⟨i,rfl,hi,hk,rfl⟩
 refine sq (sq (rT [1,3,47] (s5 (cd rfl (fun c47=> ?_) fun c47=> ?_))))
 · have hi2:i<k.held.length:=by simpa[aD] using c47
   have hg:=aT (l:=k.held) hi2
   refine sk (sq (bk (sq (rT [1,3,4] (s3 (ai (by rw[aVy,hg];exact⟨⟨by omega,by rw[aD];omega⟩,rfl⟩) (ai (by rw[aVy,hg];exact⟨aV0 rfl,rfl⟩) (s2 (sq (wa [tP 1 1,tI 3 (i:Nat),oB 1 44 [.d (.i k.id),.d (.i k.time),.d (.i k.next),.d (.sl (aE k.held)),.d (.sl (aQ k.marks)),.d (.sl (aE k.inbox))],tP 4 4,oB 4 52 [.d (.i (k.held.getD i .zero).frm),.d (.i (k.held.getD i .zero).num),.d (.i (k.held.getD i .zero).to),.d (.i (k.held.getD i .zero).til),.d (.s (k.held.getD i .zero).text)]] [] [] ?_ ?_))))))))))
   · repeat' apply ai
     all_goals first|exact qx|(rw[aVy,hg];rfl)|exact qz
   refine rT [1,3,90] (s6 (y3 (xc (fun h=>(yz (k.held.getD i .zero) k.id)) (ai rfl (ai rk ?_)))))
   refine y1 (ai pk (s1 (y4 (y4 (y3 (ai (fun h=>pk) (ai rk (ai pk (s1 (y4 (y2 (xc (fun h=>(nT k.marks _ _ (by omega))) (ai rfl (ai rk ?_))))))))))))))
   refine y1 (ai pk (cd rfl (fun c90=> ?_) fun c90=> ?_))
   · refine sq (rT [2] (s1 (rt (bL rfl (congrArg D.b ?_)))))
     refine(nY fun h=> ?_).symm
     obtain⟨⟨h1,h2,h3,h4,h5,h6⟩,⟨h7,h8,h9⟩,h10,h11,h12⟩:=(cH k).1 h
     rw[fK hi2 (yX ((or4 _ _ _ _).trans c90))] at h10
     cases h10
   refine sk (rT [1,3] (s3 ?_))
   have hs:tC k i=true:=yX ((or4 _ _ _ _).trans c90)
   refine wq [] [] (⟨k.held.length - (i+1),by omega,i+1,rfl,by omega,fun j h=>by by_cases e:j=i;exact e▸hs;exact hk j (by omega),rfl⟩) ?_
   repeat' apply ai
   all_goals first|exact qx|exact congrArg D.i (aB (by omega))|exact qz
 have hiA:i=k.held.length:=by simp[aD] at c47;omega
 have hkA:=hk
 clear hk hi
 refine xt (sq (sq (rT [1,5] (s1 (bk (SW.loopW (n:=k.marks.length) (fun n q=> ∃i:Nat,n=k.marks.length - i∧i≤k.marks.length∧(∀j,j<i→wV k j=true)∧q=[tP 1 1,tI 5 (i:Nat),oB 1 44 [.d (.i k.id),.d (.i k.time),.d (.i k.next),.d (.sl (aE k.held)),.d (.sl (aQ k.marks)),.d (.sl (aE k.inbox))]]) ?_ ?_))))))
 · refine wq (σ':=[tP 1 1,tI 5 (0:Nat),oB 1 44 [.d (.i k.id),.d (.i k.time),.d (.i k.next),.d (.sl (aE k.held)),.d (.sl (aQ k.marks)),.d (.sl (aE k.inbox))]]) [] [] (⟨0,rfl,aV5 _,fun j h=>absurd h (by omega),rfl⟩) ?_
   repeat' apply ai
   all_goals first|exact qx|(rw[aO];done)|rfl|exact qz
 rintro n s ⟨i,rfl,hi,hk,rfl⟩
 refine sq (sq (rT [1,5,95] (s5 (cd rfl (fun c95=> ?_) fun c95=> ?_))))
 · have hi2:i<k.marks.length:=by simpa[aO] using c95
   have hg:=cA (l:=k.marks) hi2
   refine sk (sq (bk (sq (rT [1,5,6] (s3 (ai (by rw[aVy,hg];exact⟨⟨by omega,by rw[aO];omega⟩,rfl⟩) (ai (by rw[aVy,hg];exact⟨aV0 rfl,rfl⟩) (s2 (sq (wa [tP 1 1,tI 5 (i:Nat),oB 1 44 [.d (.i k.id),.d (.i k.time),.d (.i k.next),.d (.sl (aE k.held)),.d (.sl (aQ k.marks)),.d (.sl (aE k.inbox))],tP 6 6,oB 6 162 [.d (.i (k.marks.getD i .zero).frm),.d (.i (k.marks.getD i .zero).num),.d (.i (k.marks.getD i .zero).til)]] [] [] ?_ ?_))))))))))
   · repeat' apply ai
     all_goals first|exact qx|(rw[aVy,hg];rfl)|exact qz
   refine rT [1,5,121] (s6 (y4 (y4 (y3 (ai (fun h=>pk) (ai rk (ai pk (cd rfl (fun c121=> ?_) fun c121=> ?_))))))))
   · refine sq (rT [2] (s1 (rt (bL rfl (congrArg D.b ?_)))))
     refine(nY fun h=> ?_).symm
     obtain⟨⟨h1,h2,h3,h4,h5,h6⟩,⟨h7,h8,h9⟩,h10,h11,h12⟩:=(cH k).1 h
     rw[fK hi2 (yY ((or2 _ _).trans c121))] at h11
     cases h11
   refine sk (rT [1,5] (s3 ?_))
   have hs:wV k i=true:=yY ((or2 _ _).trans c121)
   refine wq [] [] (⟨k.marks.length - (i+1),by omega,i+1,rfl,by omega,fun j h=>by by_cases e:j=i;exact e▸hs;exact hk j (by omega),rfl⟩) ?_
   repeat' apply ai
   all_goals first|exact qx|exact congrArg D.i (aB (by omega))|exact qz
 have hiB:i=k.marks.length:=by simp[aO] at c95;omega
 have hkB:=hk
 clear hk hi
 refine xt (sq (sq (rT [1,7] (s1 (bk (SW.loopW (n:=k.inbox.length) (fun n q=> ∃i:Nat,n=k.inbox.length - i∧i≤k.inbox.length∧(∀j,j<i→sA k j=true)∧q=[tP 1 1,tI 7 (i:Nat),oB 1 44 [.d (.i k.id),.d (.i k.time),.d (.i k.next),.d (.sl (aE k.held)),.d (.sl (aQ k.marks)),.d (.sl (aE k.inbox))]]) ?_ ?_))))))
 · refine wq (σ':=[tP 1 1,tI 7 (0:Nat),oB 1 44 [.d (.i k.id),.d (.i k.time),.d (.i k.next),.d (.sl (aE k.held)),.d (.sl (aQ k.marks)),.d (.sl (aE k.inbox))]]) [] [] (⟨0,rfl,aV5 _,fun j h=>absurd h (by omega),rfl⟩) ?_
   repeat' apply ai
   all_goals first|exact qx|(rw[aD];done)|rfl|exact qz
 rintro n s ⟨i,rfl,hi,hk,rfl⟩
 refine sq (sq (rT [1,7,126] (s5 (cd rfl (fun c126=> ?_) fun c126=> ?_))))
 · have hi2:i<k.inbox.length:=by simpa[aD] using c126
   have hg:=aT (l:=k.inbox) hi2
   refine sk (sq (bk (sq (rT [1,7,8] (s3 (ai (by rw[aVy,hg];exact⟨⟨by omega,by rw[aD];omega⟩,rfl⟩) (ai (by rw[aVy,hg];exact⟨aV0 rfl,rfl⟩) (s2 (sq (wa [tP 1 1,tI 7 (i:Nat),oB 1 44 [.d (.i k.id),.d (.i k.time),.d (.i k.next),.d (.sl (aE k.held)),.d (.sl (aQ k.marks)),.d (.sl (aE k.inbox))],tP 8 8,oB 8 52 [.d (.i (k.inbox.getD i .zero).frm),.d (.i (k.inbox.getD i .zero).num),.d (.i (k.inbox.getD i .zero).to),.d (.i (k.inbox.getD i .zero).til),.d (.s (k.inbox.getD i .zero).text)]] [] [] ?_ ?_))))))))))
   · repeat' apply ai
     all_goals first|exact qx|(rw[aVy,hg];rfl)|exact qz
   refine rT [1,7,169] (s6 (y4 (y4 (y3 (ai (fun h=>pk) (ai rk (ai pk (s1 (y4 (y4 (y4 (xc (fun h=>(nT k.marks _ _ (by omega))) (ai rfl (ai rk ?_))))))))))))))
   refine y1 (ai (fun h=>pk) (ai rk (ai pk (cd rfl (fun c169=> ?_) fun c169=> ?_))))
   · refine sq (rT [2] (s1 (rt (bL rfl (congrArg D.b ?_)))))
     refine(nY fun h=> ?_).symm
     obtain⟨⟨h1,h2,h3,h4,h5,h6⟩,⟨h7,h8,h9⟩,h10,h11,h12⟩:=(cH k).1 h
     rw[fK hi2 (wB ((or3 _ _ _).trans c169))] at h12
     cases h12
   refine sk (rT [1,7] (s3 ?_))
   have hs:sA k i=true:=wB ((or3 _ _ _).trans c169)
   refine wq [] [] (⟨k.inbox.length - (i+1),by omega,i+1,rfl,by omega,fun j h=>by by_cases e:j=i;exact e▸hs;exact hk j (by omega),rfl⟩) ?_
   repeat' apply ai
   all_goals first|exact qx|exact congrArg D.i (aB (by omega))|exact qz
 have hiC:i=k.inbox.length:=by simp[aD] at c126;omega
 refine xt (sq (rT [2] (s1 (rt (bL rfl (congrArg D.b ?_))))))
 refine((cH k).2 ⟨⟨f1,f2,f3,f4,f5,f6⟩,hg3,iD ?_,iD ?_,iD ?_⟩).symm
 · rw[← hiA];exact hkA
 · rw[← hiB];exact hkB
 rw[← hiC];exact hk
theorem uM (n:Nat) (hn:n≤1000000000):Sp 89 1 [tI 0 (n:Nat)] [tD 0 (.s (kE n))]:=by
 induction n using Nat.strongRecOn
 rename_i n ih
 refine sb Tryz.func89 rfl (sq (rT [0] (s1 (sq (sq (rT [0,4] (s2 (cd rfl (fun c4=> ?_) fun c4=> ?_))))))))
 · simp at c4
   omega
 refine sk (sq (sq (rT [0,6] (s2 (cd rfl (fun c6=> ?_) fun c6=> ?_)))))
 · simp at c6
   omega
 refine sk (sq (sq (rT [0,12] (s2 (cd rfl (fun c12=> ?_) fun c12=> ?_)))))
 · have h10:n<10:=by simp at c12;omega
   refine sq (rT [2] (s3 (ai (by exact⟨by simp,aV0 rfl⟩) (ai (by exact⟨rfl,congrArg (fun r=>[r]) (aCg _)⟩) (s1 (rt (bL rfl (congrArg D.s ?_))))))))
   rw[mR h10,← aEn h10]
   rfl
 have h10: ¬n<10:=by simp at c12;omega
 have hq:wrap64 (Int.tdiv (n:Int) 10)=((n / 10:Nat):Int):=by rw[Int.tdiv_eq_ediv_of_nonneg (by omega),aB (by omega)];omega
 have hr:aWe (n:Int) 10=((n % 10:Nat):Int):=by rw[Int.tmod_eq_emod_of_nonneg (by omega)];omega
 have hdl:=aIx (n / 10)
 refine sk (sq (rD [2] (s1 (ai (by omega) (xp (ih (n / 10) (by omega) (by omega)) (ai (by rw[hq];rfl) ?_))))))
 refine s1 (ai (by omega) (s2 (ai (by exact⟨by simp,aV0 rfl⟩) (ai (by exact⟨rfl,congrArg (fun r=>[r]) (aCg _)⟩) (ai (by show _≤9223372036854775807;simp only[iZ,List.length_map,aV3,aV2];omega) (s1 (ai (by kernel_rfl) (rt (bL rfl (congrArg D.s ?_))))))))))
 refine Eq.trans ?_ (tX (by omega)).symm
 rw[hr,← aEn (Nat.mod_lt n (by decide))]
 rfl
theorem cu (s:List UInt8) (hl:s.length≤140737488355328):Sp 108 1 [tD 0 (.s s)] [tV 0 (.tup [.c (.d (.i (match jF s with|some n=>(n:Int)|none=>0))),.c (.d (.b (jF s).isSome))])]:=by
 refine sb Tryz.func108 rfl (sq (rT [0] (s2 (sq (sq (rT [0,19] (s2 (xp (dW _ _ _) (ai rfl ?_)))))))))
 refine s2 (y1 (ai (fun h=>(by have h9:=h;simp[gb,fG] at h9;exact⟨by omega,by omega⟩)) (ai rk (y4 (y1 (ai (fun h=>pk) (ai rk (ai pk (cd rfl (fun c19=> ?_) fun c19=> ?_)))))))))
 · refine sq (rT [2,3] (s2 (rt ?_)))
   have hno:jF s=none:=by
    unfold jF
    rw[if_neg]
    rintro⟨h1,h2,h3⟩
    have h4:fG (s.length:Int) 1 5=true:=by simp only[fG,aV1,decide_eq_true_eq];omega
    rw[h4] at c19
    simp only[Bool.not_true,Bool.false_or,aV1,beq_iff_eq,decide_eq_true_eq] at c19
    refine h2 ⟨UInt8.toNat_inj.1 ?_,by omega⟩
    have h5: ((s.getD 0 0).toNat:Int)=48:=c19.1
    have h6: (48:UInt8).toNat=48:=rfl
    omega
   refine bU rfl rfl ?_
   rw[hno]
   rfl
 have hL: (1≤s.length∧s.length≤5)∧ ¬(s.getD 0 0=48∧1<s.length):=by
  by_cases h1:1≤s.length∧s.length≤5
  · refine⟨h1,fun h2=> ?_⟩
    have h3: (((s.getD (Int.toNat 0) 0).toNat:Int)==48)=true:=by rw[show Int.toNat 0=0 from rfl,h2.1];rfl
    have h4:decide ((s.length:Int)>1)=true:=decide_eq_true (by omega)
    rw[h3,h4] at c19
    simp at c19
  · have h3:fG (s.length:Int) 1 5=false:=by
     cases h:fG (s.length:Int) 1 5 with
     |false=>rfl
     |true=>simp only[fG,aV1,decide_eq_true_eq] at h;omega
    rw[h3] at c19
    simp at c19
 refine sk (sq (rT [0,4] (s1 (sq (sq (rT [0,4,5] (s1 (bk (SW.loopW (n:=s.length) (fun m q=> ∃i:Nat,m=s.length - i∧i≤s.length∧(∀k,k<i→gF (s.getD k 0)=true)∧q=[tD 0 (.s s),tI 4 (pK (s.take (i)):Nat),tI 5 (i:Nat)]) ?_ ?_)))))))))
 · refine wq (σ':=[tD 0 (.s s),tI 4 (pK (s.take (0)):Nat),tI 5 (0:Nat)]) [] [] (⟨0,rfl,aV5 _,fun k h=>absurd h (by omega),rfl⟩) ?_
   repeat' apply ai
   all_goals first|exact qx|(simp[pK];done)|exact qz
 rintro n s ⟨i,rfl,hi,hk,rfl⟩
 refine sq (sq (rT [0,4,5,23] (s4 (cd rfl (fun c23=> ?_) fun c23=> ?_))))
 · have hi2:i<s.length:=by simpa using c23
   have hb8:=iO s i
   have hw:wrap64 ((s.getD ((i:Nat):Int).toNat 0).toNat:Int)=gY s i:=aB (by unfold gY at hb8;rw[aVy];omega)
   have hvb:=ni hk hi (by omega)
   refine sk (sq (bk (sq (sq (rT [0,4,5,31] (s2 (ai (by exact⟨by omega,by omega⟩) (s1 (xp (dW _ _ _) (ai rfl ?_))))))))))
   refine s1 (cd rfl (fun c31=> ?_) fun c31=> ?_)
   · refine sq (rT [2,3] (s2 (rt ?_)))
     have hno:jF s=none:=by
      unfold jF
      rw[if_neg]
      rintro⟨h1,h2,h3⟩
      have h9:=c31
      rw[hw,← ul] at h9
      have hs:gF (s.getD i 0)=false:=by simpa using h9
      rw[uk hi2 hs] at h3
      cases h3
     refine bU rfl rfl ?_
     rw[hno]
     rfl
   refine sk (rT [0,4,5] (s4 (ai (by exact⟨by omega,by omega⟩) (s4 (rT [0,4,5] (s3 ?_))))))
   have hs:gF (s.getD i 0)=true:=by
    have h9:=c31
    rw[hw,← ul] at h9
    simpa using h9
   refine wq [] [] (⟨s.length - (i+1),by omega,i+1,rfl,by omega,fun k h=>by by_cases e:k=i;exact e▸hs;exact hk k (by omega),rfl⟩) ?_
   repeat' apply ai
   all_goals first|exact qx|(rw[aVy];exact congrArg D.i (aEo hi2 hs rfl (by omega)).1)|exact congrArg D.i (aB (by omega))|exact qz
 have hi3:i=s.length:=by simp at c23;omega
 refine xt (sq (rT [2,3] (s3 (rt ?_))))
 have hyes:jF s=some (pK s):=by
  unfold jF
  rw[if_pos ⟨hL.1,hL.2,aAy (hi3▸hk)⟩]
 refine bU rfl rfl ?_
 rw[hyes,hi3,aWd]
 rfl
theorem uN (s:List UInt8) (hl:s.length≤140737488355328):Sp 222 1 [tD 0 (.s s)] [tI 0 (gG s)]:=by
 refine sb Tryz.func222 rfl (sq (rT [0] (s1 (sq (sq (rT [0,12] (s4 (y3 (ai pk (cd rfl (fun c12=> ?_) fun c12=> ?_))))))))))
 · have hL: ¬(1≤s.length∧s.length≤4):=by simp[gb] at c12;omega
   refine sq (rT [2] (s1 (rt (bL rfl (congrArg D.i ?_)))))
   unfold gG
   rw[if_neg]
   rintro⟨h1,h2,h3⟩
   exact hL h1
 have hL:1≤s.length∧s.length≤4:=by
  simp only[Bool.or_eq_false_iff,decide_eq_false_iff_not] at c12
  omega
 refine sk (sq (rT [0,3] (s1 (sq (sq (rT [0,3,4] (s1 (bk (SW.loopW (n:=s.length) (fun m q=> ∃i:Nat,m=s.length - i∧i≤s.length∧(∀k,k<i→gF (s.getD k 0)=true)∧q=[tD 0 (.s s),tI 3 (pK (s.take (i)):Nat),tI 4 (i:Nat)]) ?_ ?_)))))))))
 · refine wq (σ':=[tD 0 (.s s),tI 3 (pK (s.take (0)):Nat),tI 4 (0:Nat)]) [] [] (⟨0,rfl,aV5 _,fun k h=>absurd h (by omega),rfl⟩) ?_
   repeat' apply ai
   all_goals first|exact qx|(simp[pK];done)|exact qz
 rintro n s ⟨i,rfl,hi,hk,rfl⟩
 refine sq (sq (rT [0,3,4,16] (s4 (cd rfl (fun c16=> ?_) fun c16=> ?_))))
 · have hi2:i<s.length:=by simpa using c16
   have hvb:=ni hk hi (by omega)
   refine sk (sq (bk (sq (sq (rT [0,3,4,28] (s2 (ai (by exact⟨by omega,by omega⟩) (s2 (y2 (ai (fun h=>(by exact⟨by omega,by omega⟩)) (ai rk (y1 (ai pk (cd rfl (fun c28=> ?_) fun c28=> ?_))))))))))))))
   · refine sq (rT [2] (s1 (rt (bL rfl (congrArg D.i ?_)))))
     unfold gG
     rw[if_neg]
     rintro⟨h1,h2,h3⟩
     have hs:gF (s.getD i 0)=false:=by
      have h9:=c28
      rw[aVy] at h9
      simp[gb] at h9
      simp[gF];omega
     rw[uk hi2 hs] at h2
     cases h2
   refine sk (rT [0,3,4] (s4 (ai (by exact⟨by omega,by omega⟩) (s4 (rT [0,3,4] (s3 ?_))))))
   have hs:gF (s.getD i 0)=true:=by
    have h9:=c28
    rw[aVy] at h9
    simp[gb] at h9
    simp[gF];omega
   refine wq [] [] (⟨s.length - (i+1),by omega,i+1,rfl,by omega,fun k h=>by by_cases e:k=i;exact e▸hs;exact hk k (by omega),rfl⟩) ?_
   repeat' apply ai
   all_goals first|exact qx|(rw[aVy];exact congrArg D.i (aEo hi2 hs rfl (by omega)).2)|exact congrArg D.i (aB (by omega))|exact qz
 have hi3:i=s.length:=by simp at c16;omega
 have hvb:=ni hk hi (by omega)
 refine xt (sq (sq (rT [3,40] (s1 (xp (uM (pK (s.take i)) (by omega)) (ai rfl ?_))))))
 refine s2 (cd rfl (fun c40=> ?_) fun c40=> ?_)
 · refine sq (rT [2] (s1 (rt (bL rfl (congrArg D.i ?_)))))
   unfold gG
   rw[if_neg]
   rintro⟨h1,h2,h3⟩
   rw[hi3,aWd,h3] at c40
   simp at c40
 refine sk (sq (rT [2] (s2 (rt (bL rfl (congrArg D.i ?_))))))
 rw[hi3,aWd] at c40
 unfold gG
 rw[if_pos ⟨hL,aAy (hi3▸hk),by simpa using c40⟩,hi3,aWd]
theorem za (s:List UInt8) (hl:s.length≤1000000):Sp 183 1 [tD 0 (.s s)] [tV 0 (.tup [.c (.d (.s (aKd s))),.c (.d (.i (aCj s:Nat)))])]:=by
 refine sb Tryz.func183 rfl (sq (rT [0] (s2 (sq (sq (rT [0,4] (s1 (bk (SW.loopW (n:=3) (fun m q=> ∃i:Nat,m=3 - i∧(i≤s.length∧i≤3)∧(∀j,j<i→s.getD j 0≠58)∧q=[tD 0 (.s s),tI 4 (i:Nat)]) ?_ ?_)))))))))
 · exact wq (σ':=[tD 0 (.s s),tI 4 (0:Nat)]) [] [] (⟨0,rfl,⟨aV5 _,by omega⟩,fun j h=>absurd h (by omega),rfl⟩) qz
 rintro n s ⟨i,rfl,hi,hk,rfl⟩
 refine sq (sq (rT [0,4,13] (s5 (y2 (ai pk (cd rfl (fun c13=> ?_) fun c13=> ?_))))))
 · have hi2:i<s.length∧i<3:=by simp only[aV1,decide_eq_true_eq] at c13;omega
   refine sk (sq (bk (sq (sq (rT [0,4,19] (s2 (ai (by exact⟨by omega,by omega⟩) (s1 (cd rfl (fun c19=> ?_) fun c19=> ?_)))))))))
   · refine xt (rT [0,4] (s3 ?_))
     have hs:s.getD i 0≠58:=by
      have h9:=c19
      rw[aVy] at h9
      intro e
      rw[e] at h9
      exact absurd h9 (by decide)
     refine wq [] [] (⟨3 - (i+1),by omega,i+1,rfl,⟨by omega,by omega⟩,fun j h=>by by_cases e:j=i;exact e▸hs;exact hk j (by omega),rfl⟩) ?_
     repeat' apply ai
     all_goals first|exact qx|exact congrArg D.i (aB (by omega))|exact qz
   have hcol:yV s=some i:=by
    refine um hi2.2 hi2.1 ?_ hk
    have h9:=c19
    rw[aVy] at h9
    have h10: ((s.getD i 0).toNat:Int)=58:=by simpa only[bne_eq_false_iff_eq] using h9
    apply UInt8.toNat_inj.1
    have h6: (58:UInt8).toNat=58:=rfl
    omega
   have hv:=yZ (s.take i)
   have hra:=aM9 hcol
   refine sk (sq (rT [0,4,5] (s2 (ai (by simp[mu,eK,fM];omega) (xp (uN (s.take i) (by rw[aV4];omega)) (ai rfl ?_))))))
   refine s1 (sq (sq (rT [0,4,5,47] (s3 (y2 (ai pk (s1 (y4 (y3 (ai pk (s1 (y4 (y1 (ai (fun h=>(by have h9:=h;simp only[gb,aV1,Bool.not_eq_true',Bool.or_eq_false_iff,decide_eq_false_iff_not] at h9;rw[aB (n:=(i:Int)+2) (by omega),aB (n:=(i:Int)+2+gG (s.take i)) (by omega)] at h9;rw[aB (n:=(i:Int)+1) (by omega),aB (n:=(i:Int)+1+gG (s.take i)) (by omega)];omega)) (ai rk (y1 (ai pk (cd rfl (fun c47=> ?_) fun c47=> ?_))))))))))))))))))
   · refine sq (rT [2,3] (s2 (rt ?_)))
     have hno:jH s=none:=by
      rw[hra,if_neg]
      rintro⟨p1,p2,p3,p4⟩
      have h9:=c47
      rw[aB (n:=(i:Int)+2) (by omega),aB (n:=(i:Int)+2+gG (s.take i)) (by omega),aB (n:=(i:Int)+1) (by omega),aB (n:=(i:Int)+1+gG (s.take i)) (by omega),show((i:Int)+1+gG (s.take i)).toNat=i+1+(gG (s.take i)).toNat by omega,p4] at h9
      simp at h9
      omega
     refine bU rfl rfl ?_
     rw[aKd,aCj,hno]
     rfl
   have hok:1≤gG (s.take i)∧gG (s.take i)≤60∧i+2+(gG (s.take i)).toNat≤s.length∧s.getD (i+1+(gG (s.take i)).toNat) 0=59:=by
    have h9:=c47
    rw[aB (n:=(i:Int)+2) (by omega),aB (n:=(i:Int)+2+gG (s.take i)) (by omega),aB (n:=(i:Int)+1) (by omega),aB (n:=(i:Int)+1+gG (s.take i)) (by omega)] at h9
    simp only[Bool.or_eq_false_iff,decide_eq_false_iff_not,bne_eq_false_iff_eq] at h9
    obtain⟨⟨⟨p1,p2⟩,p3⟩,p4⟩:=h9
    rw[show((i:Int)+1+gG (s.take i)).toNat=i+1+(gG (s.take i)).toNat by omega] at p4
    refine⟨by omega,by omega,by omega,UInt8.toNat_inj.1 ?_⟩
    have h6: (59:UInt8).toNat=59:=rfl
    omega
   refine sk (sq (rT [2,3] (s7 (ai (by rw[aB (n:=(i:Int)+1) (by omega),aB (n:=(i:Int)+1+gG (s.take i)) (by omega)];simp[mu,eK,fM];omega) (s6 (rt ?_))))))
   have hyes:=hra.trans (if_pos hok)
   refine bU rfl rfl ?_
   rw[aKd,aCj,hyes]
   rw[aB (n:=(i:Int)+1) (by omega),aB (n:=(i:Int)+1+gG (s.take i)) (by omega),aB (n:=(i:Int)+2) (by omega),aB (n:=(i:Int)+2+gG (s.take i)) (by omega)]
   have e1: ((i:Int)+1).toNat=i+1:=by omega
   have e2: ((i:Int)+1+gG (s.take i)).toNat=i+1+(gG (s.take i)).toNat:=by omega
   have e3: (i:Int)+2+gG (s.take i)=((i+2+(gG (s.take i)).toNat:Nat):Int):=by omega
   rw[e3]
   show V.tup [.c (.d (.s (List.drop ((i:Int)+1).toNat (List.take ((i:Int)+1+gG (s.take i)).toNat s)))),_]=_
   rw[e1,e2]
 have hi3:i=3∨i=s.length:=by
  by_cases h3:i<3
  · right;have h4:decide ((i:Int)<3)=true:=decide_eq_true (by omega)
    rw[h4,Bool.and_true,decide_eq_false_iff_not] at c13;omega
  · left;omega
 refine xt (sq (rT [2,3] (s2 (rt ?_))))
 have hno:jH s=none:=by
  exact ep (jp fun j h3 hjl=>hk j (by omega))
 refine bU rfl rfl ?_
 rw[aKd,aCj,hno]
 rfl
theorem og (s:List UInt8) (hl:s.length≤1000000):Sp 132 1 [tD 0 (.s s)] [tV 0 (.tup [.c (.own 0 (cG s).1.length),.c (.d (.i ((cG s).2:Nat)))]),oR 0 9 1 (aX (cG s).1)]:=by
 refine sb Tryz.func132 rfl (sq (rT [0] (s2 (sq (rT [0,4] (s2 (sq (rT [0,4,5] (s1 (sq (bk (SW.loopW (n:=s.length) (fun m q=> ∃(a:Nat) (o:List (List UInt8)),m=s.length - a∧(a≤s.length∧o.length≤a)∧(o++(cG (s.drop a)).1=(cG s).1∧a+(cG (s.drop a)).2=(cG s).2)∧q=[tD 0 (.s s),tO 4 8 (o).length,tI 5 (a:Nat),oR 8 9 1 (aX (o))]) ?_ ?_))))))))))))
 · refine wq (σ':=[tD 0 (.s s),tO 4 8 ([]).length,tI 5 (0:Nat),oR 8 9 1 (aX ([]))]) [] [] (⟨0,[],rfl,⟨aV5 _,by simp⟩,⟨rfl,by rw[List.drop_zero,Nat.zero_add]⟩,rfl⟩) ?_
   repeat' apply ai
   all_goals first|exact qx|rfl|exact qz
 rintro n s ⟨a,o,rfl,ha,hr,rfl⟩
 refine sq (sq (rT [0,4,5,12] (s4 (cd rfl (fun c12=> ?_) fun c12=> ?_))))
 · have ha2:a<s.length:=by simpa using c12
   refine sk (bk (sq (rT [0,4,5,6,7] (s2 (ai (by simp[mu,eK,fM];omega) (xp (za (s.drop a) (by rw[aV7];omega)) (ai (by show _=eL 0 [Dv (.s (List.drop ((a:Int)).toNat (List.take s.length s)))];rw[aVy,aWd];rfl) ?_)))))))
   refine s5 (sq (sq (rT [0,4,5,6,7,21] (s2 (cd rfl (fun c21=> ?_) fun c21=> ?_)))))
   · have hz:jH (s.drop a)=none:=by
      refine aAz.1 ?_
      have h9: ((aCj (s.drop a):Nat):Int)=0:=by simpa using c21
      omega
     rw[iE hz,List.append_nil,Nat.add_zero] at hr
     refine sq (rT [2,3] (s4 (rt ?_)))
     rw[← hr.1,← hr.2]
     exact dQ _ [(0,8)] [] rfl ⟨⟨_,rfl,⟨rfl,rfl,_,_,_,rfl⟩,rfl,trivial⟩,bR rfl rfl trivial⟩ rfl rfl
   obtain⟨r,n,hra⟩: ∃r n,jH (s.drop a)=some (r,n):=by
    cases h:jH (s.drop a) with
    |none=>
     rw[aAz.2 h] at c21
     exact absurd c21 (by decide)
    |some p=>exact⟨p.1,p.2,rfl⟩
   have hS:aKd (s.drop a)=r:=by rw[aKd,hra]
   have hN:aCj (s.drop a)=n:=by rw[aCj,hra]
   have hrs:=rM hra
   rw[aV7] at hrs
   refine sk (sq (rT [0,4,5,7] (s3 (ai (by refine⟨rfl,aM _,by simp,?_⟩;show(_+1)*16≤_;omega) (s1 (rT [0,4,5] (s4 ?_)))))))
   have hstep:=qG hra
   rw[List.drop_drop] at hstep
   rw[hstep] at hr
   refine wq [] [] (⟨s.length - (a+n),by omega,a+n,o++[r],rfl,⟨by omega,by rw[aVz];simp;omega⟩,⟨by rw[← hr.1,List.append_assoc];rfl,by rw[← hr.2];simp only;omega⟩,rfl⟩) ?_
   repeat' apply ai
   all_goals first|exact qx|(rw[aVz];done)|(refine congrArg D.i ?_;rw[hN,aB (by omega)];omega)|(rw[hS];exact iC _ _)|(simp[aM];done)|exact qz
 have ha3:a=s.length:=by simp at c12;omega
 have hd0:s.drop a=[]:=by rw[ha3];exact List.drop_length
 rw[hd0,iE uS,List.append_nil,Nat.add_zero] at hr
 refine xt (sq (rT [2,3] (s4 (rt ?_))))
 rw[← hr.1,← hr.2]
 exact dQ _ [(0,8)] [] rfl ⟨⟨_,rfl,⟨rfl,rfl,_,_,_,rfl⟩,rfl,trivial⟩,bR rfl rfl trivial⟩ rfl rfl
theorem zT (l:List (List UInt8)) (hl:l.length≤1000000):Sp 110 1 [tD 0 (.sl (aX l))] [tO 0 0 l.length,oR 0 9 1 (aX (l))]:=by
 refine sb Tryz.func110 rfl (sq (rT [0] (s1 (sq (sq (rT [0,6] (s3 (cd rfl (fun c6=> ?_) fun c6=> ?_))))))))
 · refine sq (rT [2] (s1 (SW.nilOwn 2 0 9 1 rfl rfl (rt (rq [] [] rfl ?_)))))
   repeat' apply ai
   all_goals try exact qx
   all_goals(simp[aM] at c6;simp[c6,aX])
 refine sk (sq (rT [0,3] (s2 (ai (by refine⟨rfl,by omega,?_⟩;rw[aM];show((16:Nat):Int)*_≤_;omega) (s1 (sq (rT [3] (s2 (ai (by refine⟨trivial,by simp,yR l⟩) (sq (rT [2] (s2 (rt (rq [(0,9)] [] rfl ?_))))))))))))))
 repeat' apply ai
 all_goals try exact qx
 all_goals first|(simp[aM];done)|(simp;done)
theorem pk3 {p:Prop} (h:p:=by constructor<;>intro h<;>first|(simp only[gb,vD];done)|(simpa only[gb,vD] using h)|(simp only[gb,vD] at h ⊢; first|(simp;done)|(simpa using h))|(simpa[gb,vD] using h)):p:=h
theorem sj (o:List (List UInt8)):mA [tO 0 0 o.length,oR 0 9 1 (aX (o))]:=by
 intro p hp
 simp at hp
 rcases hp with rfl|rfl
 · trivial
 intro r hr d hd
 obtain⟨x,_,rfl⟩:=aWc.1 hr
 simp at hd;subst hd;trivial
theorem oh (s:List UInt8) (hl:s.length≤1000000):Sp 49 1 [tD 0 (.s s)] [tV 0 (.tup [.c (.own 0 (cG s).1.length),.c (.d (.i ((cG s).2:Nat)))]),oR 0 9 1 (aX (cG s).1)]:=by
 refine sb Tryz.func49 rfl (sq (rT [0] (s2 (sq (rT [0,4] (s1 (sq (rT [0,4,5] (s1 (sq (bk (SW.nilOwn 4 8 9 1 rfl rfl (SW.loopW (n:=s.length) (fun m q=> ∃(a:Nat) (o:List (List UInt8)),m=s.length - a∧(a≤s.length∧o.length≤a)∧(o++(cG (s.drop a)).1=(cG s).1∧a+(cG (s.drop a)).2=(cG s).2)∧q=[tD 0 (.s s),tO 4 8 (o).length,tI 5 (a:Nat),oR 8 9 1 (aX (o))]) ?_ ?_)))))))))))))
 · refine wq (σ':=[tD 0 (.s s),tO 4 8 ([]).length,tI 5 (0:Nat),oR 8 9 1 (aX ([]))]) [] [] (⟨0,[],rfl,⟨aV5 _,by simp⟩,⟨rfl,by rw[List.drop_zero,Nat.zero_add]⟩,rfl⟩) ?_
   repeat' apply ai
   all_goals first|exact qx|rfl|exact qz
 rintro n s ⟨a,o,rfl,ha,hr,rfl⟩
 refine sq (sq (rT [0,4,5,13] (s4 (cd rfl (fun c13=> ?_) fun c13=> ?_))))
 · have ha2:a<s.length:=by simpa using c13
   refine sk (bk (sq (rT [0,4,5,6] (s2 (sq (bk (SW.loopW (n:=3) (fun m q=> ∃c:Nat,m=a+3 - c∧(a≤c∧c≤a+3∧c≤s.length)∧(∀j,a≤j→j<c→s.getD j 0≠58)∧q=[tD 0 (.s s),tO 4 8 (o).length,tI 5 (a:Nat),tI 6 (c:Nat),oR 8 9 1 (aX (o))]) ?_ ?_)))))))
   · exact wq [] [] (⟨a,by omega,by omega,fun j h1 h2=>absurd h1 (by omega),rfl⟩) qz
   rintro n s ⟨c,rfl,hc,hk,rfl⟩
   refine sq (sq (rT [0,4,5,6,30] (s5 (y4 (ai pk (s1 (y2 (ai (fun h=>(by have h9:=h;simp only[gb,aV1,decide_eq_true_eq] at h9;exact⟨by omega,by omega⟩)) (ai rk (y1 (ai pk (cd rfl (fun c30=> ?_) fun c30=> ?_))))))))))))
   · refine sk (bk (rT [0,4,5,6] (s3 ?_)))
     have hs:s.getD c 0≠58:=by
      have h9:=c30
      simp only[aV1] at h9
      have h10:=h9.2
      rw[aVy] at h10
      intro e
      rw[e] at h10
      exact absurd h10 (by decide)
     have hcl:c<s.length∧c<a+3:=by
      have h9:=c30
      rw[aB (by omega)] at h9
      simp only[aV1,decide_eq_true_eq] at h9
      omega
     refine wq [] [] (⟨a+3 - (c+1),by omega,c+1,rfl,by omega,fun j h1 h2=>by by_cases e:j=c;exact e▸hs;exact hk j h1 (by omega),rfl⟩) ?_
     repeat' apply ai
     all_goals first|exact qx|exact congrArg D.i (aB (by omega))|exact qz
   have hstop:s.length≤c∨a+3≤c∨s.getD c 0=58:=by
    have h9:=c30
    rw[aB (by omega),aVy] at h9
    by_cases h1:c<s.length
    · by_cases h2:c<a+3
      · rw[decide_eq_true (show(c:Int)< (s.length:Int) by omega),decide_eq_true (show(c:Int)< (a:Int)+3 by omega)] at h9
        have h10: ((s.getD c 0).toNat:Int)=58:=by simpa only[Bool.true_and,bne_eq_false_iff_eq] using h9
        right;right
        apply UInt8.toNat_inj.1
        have h6: (58:UInt8).toNat=58:=rfl
        omega
      · right;left;omega
    · left;omega
   refine xt (sq (sq (rT [0,4,5,6,42] (s5 (y2 (ai (fun h=>(by have h9:=h;simp only[gb,Bool.not_eq_true',decide_eq_false_iff_not] at h9;exact⟨by omega,by omega⟩)) (ai rk (y1 (ai pk (cd rfl (fun c42=> ?_) fun c42=> ?_))))))))))
   · have hz:jH (s.drop a)=none:=by
      refine xM hk ?_
      by_cases h1:c<s.length
      · rcases hstop with h|h|h
        · exact .inl h
        · exact .inr h
        · exfalso
          have h9:=c42
          rw[aVy,h,decide_eq_false (show ¬((c:Int)≥(s.length:Int)) by omega)] at h9
          exact absurd h9 (by decide)
      · exact .inl (by omega)
     rw[iE hz,List.append_nil,Nat.add_zero] at hr
     refine xt (sq (rT [2,3] (s1 (bH (robj:=[(8,.row 9 1 (aX o))]) (rl:=[(0,85)]) (bor:=[8]) (zT o (by omega)) rfl rfl rfl rfl ⟨eD rfl rfl rfl (aM _) rfl trivial,rfl⟩ rfl (.inr (sj o)) (aH ⟨rfl,trivial⟩) (fun j hj=>by(obtain rfl:j=0:=by simpa[kI,cE,iM] using hj);rfl) (s3 (rt ?_))))))
     rw[← hr.1,← hr.2]
     exact dQ _ [(0,85)] [] rfl ⟨⟨_,rfl,⟨rfl,rfl,_,_,_,rfl⟩,rfl,trivial⟩,bR rfl rfl trivial⟩ rfl rfl
   have hcl:c<s.length:=by
    have h9:=c42
    simp only[Bool.or_eq_false_iff,decide_eq_false_iff_not] at h9
    omega
   have h58:s.getD c 0=58:=by
    have h9:=c42
    simp only[Bool.or_eq_false_iff,decide_eq_false_iff_not] at h9
    have h10:=h9.2
    rw[aVy] at h10
    have h11: ((s.getD c 0).toNat:Int)=58:=by simpa only[bne_eq_false_iff_eq] using h10
    apply UInt8.toNat_inj.1
    have h6: (58:UInt8).toNat=58:=rfl
    omega
   obtain⟨himp1,himp2⟩:=aNb hc.1 hk hc.2.1 hcl h58
   have hN:=aG7 ((s.take c).drop a)
   have hw1:wrap64 ((c:Int)+1)=((c+1:Nat):Int):=by rw[aB (by omega)];omega
   have hw2:wrap64 (((c+1:Nat):Int)+iU ((s.take c).drop a))=((c+1+(iU ((s.take c).drop a)).toNat:Nat):Int):=by rw[aB (by omega)];omega
   refine sk (sq (rT [0,4,5,6,7,8] (s3 (ai (by simp[mu,eK,fM];omega) (xp (cu ((s.take c).drop a) (by rw[aV7,aV4];omega)) (ai rfl ?_))))))
   refine s5 (sq (rT [0,4,5,6,7,8,9] (s5 (sq (sq (SW.wk (J:=fun q=>q=[tD 0 (.s s),tO 4 8 (o).length,tI 5 (a:Nat),tI 6 (c:Nat),tI 7 (iU ((s.take c).drop a)),tB 8 (jF ((s.take c).drop a)).isSome,tI 9 (c+1+(iU ((s.take c).drop a)).toNat:Nat),oR 8 9 1 (aX (o))]) ?_ ?_))))))
   · refine wq [] [] (rfl) ?_
     repeat' apply ai
     all_goals first|exact qx|(rw[hw1];exact congrArg D.i hw2)|(unfold iU;rfl)|exact qz
   rintro q rfl
   refine rT [0,4,5,6,9,73] (s3 (y1 (xc (fun h=>(dW _ _ _)) (ai rfl (ai rk ?_)))))
   refine y1 (ai pk3 (s1 (y4 (ai pk3 (s1 (y2 (ai (fun h=>(by have h9:=h;simp only[gb,Bool.not_eq_true',Bool.or_eq_false_iff,decide_eq_false_iff_not] at h9;exact⟨by omega,by omega⟩)) (ai rk (y1 (ai pk3 (cd rfl (fun c73=> ?_) fun c73=> ?_)))))))))))
   · have hz:jH (s.drop a)=none:=by
      refine himp1 ?_
      rintro⟨n,h1,h2,h3,h4,h5⟩
      have hNn:iU ((s.take c).drop a)=n:=by rw[iU,h1]
      have h9:=c73
      rw[hNn,h1,aVy,aVy,h5] at h9
      simp only[fG,decide_eq_true (show(1:Int)≤(n:Int) by omega),decide_eq_true (show(n:Int)≤60 by omega),decide_eq_false (show ¬(((c+1+n:Nat):Int)≥(s.length:Int)) by omega)] at h9
      simp at h9
     rw[iE hz,List.append_nil,Nat.add_zero] at hr
     refine xt (sq (rT [2,3] (s1 (bH (robj:=[(8,.row 9 1 (aX o))]) (rl:=[(0,85)]) (bor:=[8]) (zT o (by omega)) rfl rfl rfl rfl ⟨eD rfl rfl rfl (aM _) rfl trivial,rfl⟩ rfl (.inr (sj o)) (aH ⟨rfl,trivial⟩) (fun j hj=>by(obtain rfl:j=0:=by simpa[kI,cE,iM] using hj);rfl) (s3 (rt ?_))))))
     rw[← hr.1,← hr.2]
     exact dQ _ [(0,85)] [] rfl ⟨⟨_,rfl,⟨rfl,rfl,_,_,_,rfl⟩,rfl,trivial⟩,bR rfl rfl trivial⟩ rfl rfl
   have h9:=c73
   simp only[Bool.or_eq_false_iff,decide_eq_false_iff_not,Bool.not_eq_false,Bool.not_eq_eq_eq_not,Bool.not_false] at h9
   obtain⟨⟨⟨g1,g2⟩,g3⟩,g4⟩:=h9
   obtain⟨n,hn⟩:=Option.isSome_iff_exists.1 g1
   have hNn:iU ((s.take c).drop a)=n:=by rw[iU,hn]
   rw[hNn] at g2 g3 g4
   rw[aVy] at g3 g4
   simp only[fG,aV1,decide_eq_true_eq] at g2
   have h59:s.getD (c+1+n) 0=59:=by
    rw[aVy] at g4
    have h11: ((s.getD (c+1+n) 0).toNat:Int)=59:=by simpa only[bne_eq_false_iff_eq] using g4
    apply UInt8.toNat_inj.1
    have h6: (59:UInt8).toNat=59:=rfl
    omega
   have hra:=himp2 n hn (by omega) (by omega) (by omega) h59
   refine sk (sq (rT [0,4,9] (s5 (ai (by rw[hw1,hNn,aVy];simp[mu,eK,fM];omega) (ai (by exact⟨by simp,aV0 rfl⟩) (ai (by refine⟨rfl,aM _,by simp,?_⟩;show(_+1)*16≤_;omega) (s1 (rT [0,4,5] (s3 ?_)))))))))
   have hstep:=qG hra
   rw[List.drop_drop,show a+(c+2+n - a)=c+2+n by omega] at hstep
   rw[hstep] at hr
   refine wq [] [] (⟨s.length - (c+2+n),by omega,c+2+n,o++[(s.take (c+1+n)).drop (c+1)],rfl,⟨by omega,by rw[aVz];simp;omega⟩,⟨by rw[← hr.1,List.append_assoc];rfl,by rw[← hr.2];simp only;omega⟩,rfl⟩) ?_
   repeat' apply ai
   all_goals first|exact qx|(rw[aVz];done)|(refine congrArg D.i ?_;rw[hNn,aB (by omega)];omega)|(rw[hw1,hNn];exact iC _ _)|(simp[aM];done)|exact qz
 have ha3:a=s.length:=by simp at c13;omega
 have hd0:s.drop a=[]:=by rw[ha3];exact List.drop_length
 rw[hd0,iE uS,List.append_nil,Nat.add_zero] at hr
 refine xt (sq (rT [2,3] (s1 (bH (robj:=[(8,.row 9 1 (aX o))]) (rl:=[(0,85)]) (bor:=[8]) (zT o (by omega)) rfl rfl rfl rfl ⟨eD rfl rfl rfl (aM _) rfl trivial,rfl⟩ rfl (.inr (sj o)) (aH ⟨rfl,trivial⟩) (fun j hj=>by(obtain rfl:j=0:=by simpa[kI,cE,iM] using hj);rfl) (s3 (rt ?_))))))
 rw[← hr.1,← hr.2]
 exact dQ _ [(0,85)] [] rfl ⟨⟨_,rfl,⟨rfl,rfl,_,_,_,rfl⟩,rfl,trivial⟩,bR rfl rfl trivial⟩ rfl rfl
end Go.Proofs.YtmabaopgkimfmaaGreatDoor
namespace Go.Proofs
open Int renaming toNat_natCast→aVy,tmod→aWe
open List renaming length_append→aVz,length_nil→aV2,length_cons→aV3,length_take→aV4,getD_eq_getElem?_getD→aV6,length_drop→aV7,getElem?_eq_getElem→aV8,getElem?_eq_some_iff→aV9,range→aWb,mem_map→aWc,take_length→aWd,all_eq_true→aWf,mem_singleton→aWg
open Nat renaming le_of_ble_eq_true→aV0,zero_le→aV5,le_refl→aWa,add_mul→aWh
open Bool renaming and_eq_true→aV1
open Go.Shelf
def Tryz.laysM171_ren:Go.Shelf.Ren:=⟨fun|171=>91|243=>151|246=>196|283=>237|284=>238|285=>239|286=>240|129=>254|317=>253|318=>255|319=>256|320=>257|337=>264|338=>265|n=>n,fun|3=>3|9=>9|2=>2|4=>4|171=>237|0=>0|53=>238|37=>68|5=>5|173=>241|212=>251|51=>252|20=>20|213=>253|46=>254|232=>266|233=>267|n=>n,fun|17=>0|18=>2|19=>3|n=>n⟩
theorem Tryz.laysM171:Go.Proofs.LaysM.n171 Tryz.prog Tryz.laysM171_ren:={
 mixed:=by kernel_rfl
 f129:=Tryz.func254.trans (congrArg some (by kernel_rfl))
 f171:=Tryz.func91.trans (congrArg some (by kernel_rfl))
 f243:=Tryz.func151.trans (congrArg some (by kernel_rfl))
 f246:=Tryz.func196.trans (congrArg some (by kernel_rfl))
 f283:=Tryz.func237.trans (congrArg some (by kernel_rfl))
 f284:=Tryz.func238.trans (congrArg some (by kernel_rfl))
 f285:=Tryz.func239.trans (congrArg some (by kernel_rfl))
 f286:=Tryz.func240.trans (congrArg some (by kernel_rfl))
 f317:=Tryz.func253.trans (congrArg some (by kernel_rfl))
 f318:=Tryz.func255.trans (congrArg some (by kernel_rfl))
 f319:=Tryz.func256.trans (congrArg some (by kernel_rfl))
 f320:=Tryz.func257.trans (congrArg some (by kernel_rfl))
 f337:=Tryz.func264.trans (congrArg some (by kernel_rfl))
 f338:=Tryz.func265.trans (congrArg some (by kernel_rfl))
 t0:=Tryz.underlying0
 a0:=Tryz.isAgg0
 z0:=Tryz.sizeOf0
 v0:=Tryz.zeroValue0
 t2:=Tryz.underlying2
 a2:=Tryz.isAgg2
 z2:=Tryz.sizeOf2
 v2:=Tryz.zeroValue2
 t3:=Tryz.underlying3
 a3:=Tryz.isAgg3
 z3:=Tryz.sizeOf3
 v3:=Tryz.zeroValue3
 t4:=Tryz.underlying4
 a4:=Tryz.isAgg4
 z4:=Tryz.sizeOf4
 v4:=Tryz.zeroValue4
 t5:=Tryz.underlying5
 a5:=Tryz.isAgg5
 z5:=Tryz.sizeOf5
 v5:=Tryz.zeroValue5
 t9:=Tryz.underlying9
 a9:=Tryz.isAgg9
 z9:=Tryz.sizeOf9
 v9:=Tryz.zeroValue9
 t20:=Tryz.underlying20
 a20:=Tryz.isAgg20
 z20:=Tryz.sizeOf20
 v20:=Tryz.zeroValue20
 t37:=Tryz.underlying68
 a37:=Tryz.isAgg68
 z37:=Tryz.sizeOf68
 v37:=Tryz.zeroValue68
 t46:=Tryz.underlying254
 a46:=Tryz.isAgg254
 z46:=Tryz.sizeOf254
 v46:=Tryz.zeroValue254
 t51:=Tryz.underlying252
 a51:=Tryz.isAgg252
 z51:=Tryz.sizeOf252
 v51:=Tryz.zeroValue252
 t53:=Tryz.underlying238
 a53:=Tryz.isAgg238
 z53:=Tryz.sizeOf238
 v53:=Tryz.zeroValue238
 t171:=Tryz.underlying237
 a171:=Tryz.isAgg237
 z171:=Tryz.sizeOf237
 v171:=Tryz.zeroValue237
 t173:=Tryz.underlying241
 a173:=Tryz.isAgg241
 z173:=Tryz.sizeOf241
 v173:=Tryz.zeroValue241
 t212:=Tryz.underlying251
 a212:=Tryz.isAgg251
 z212:=Tryz.sizeOf251
 v212:=Tryz.zeroValue251
 t213:=Tryz.underlying253
 a213:=Tryz.isAgg253
 z213:=Tryz.sizeOf253
 t232:=Tryz.underlying266
 a232:=Tryz.isAgg266
 z232:=Tryz.sizeOf266
 v232:=Tryz.zeroValue266
 t233:=Tryz.underlying267
 a233:=Tryz.isAgg267
 z233:=Tryz.sizeOf267
 v233:=Tryz.zeroValue267
 g17:=by kernel_rfl
 g18:=by kernel_rfl
 g19:=by kernel_rfl
 i0:=by kernel_rfl
 i2:=by kernel_rfl
 i3:=by kernel_rfl
 i4:=by kernel_rfl
 i5:=by kernel_rfl
 i9:=by kernel_rfl
 i20:=by kernel_rfl
 i37:=by kernel_rfl
 i46:=by kernel_rfl
 i51:=by kernel_rfl
 i53:=by kernel_rfl
 i171:=by kernel_rfl
 i173:=by kernel_rfl
 i212:=by kernel_rfl
 i232:=by kernel_rfl
 i233:=by kernel_rfl
 m17:=by kernel_rfl
 m18:=by kernel_rfl
 m19:=by kernel_rfl}
open Go.RowKit Go.Sort Go.Lib in
theorem Tryz.strconv_Itoa (n:Int) (h0: -9223372036854775808≤n) (h1:n≤9223372036854775807) (w:World) (htab:Lib.TabIs Tryz.prog w "internal/strconv.uint64pow10" .u64 Lib.pow10Tab):
 Calls Tryz.prog 91 #[.int .i64 n] w fun e w'=>e= .returned (.string ⟨(Lib.itoa n).toArray⟩)∧ ∃k os,w'=grow (w.drewN k) os:=Any.strconv_Itoa Tryz.laysM171 n h0 h1 w htab
def Tryz.lays145_ren:Go.Shelf.Ren:=⟨fun|145=>204|220=>243|219=>260|217=>270|225=>271|224=>272|267=>273|266=>278|314=>279|n=>n,fun|9=>9|4=>4|59=>206|3=>3|5=>5|46=>254|146=>269|51=>252|n=>n,fun|1=>1|n=>n⟩
theorem Tryz.lays145:Go.Proofs.Lays.n145 Tryz.prog Tryz.lays145_ren:={
 mixed:=by kernel_rfl
 f145:=Tryz.func204.trans (congrArg some (by kernel_rfl))
 f217:=Tryz.func270.trans (congrArg some (by kernel_rfl))
 f219:=Tryz.func260.trans (congrArg some (by kernel_rfl))
 f220:=Tryz.func243.trans (congrArg some (by kernel_rfl))
 f224:=Tryz.func272.trans (congrArg some (by kernel_rfl))
 f225:=Tryz.func271.trans (congrArg some (by kernel_rfl))
 f266:=Tryz.func278.trans (congrArg some (by kernel_rfl))
 f267:=Tryz.func273.trans (congrArg some (by kernel_rfl))
 f314:=Tryz.func279.trans (congrArg some (by kernel_rfl))
 t3:=Tryz.underlying3
 a3:=Tryz.isAgg3
 z3:=Tryz.sizeOf3
 v3:=Tryz.zeroValue3
 t4:=Tryz.underlying4
 a4:=Tryz.isAgg4
 z4:=Tryz.sizeOf4
 v4:=Tryz.zeroValue4
 t5:=Tryz.underlying5
 a5:=Tryz.isAgg5
 z5:=Tryz.sizeOf5
 v5:=Tryz.zeroValue5
 t9:=Tryz.underlying9
 a9:=Tryz.isAgg9
 z9:=Tryz.sizeOf9
 v9:=Tryz.zeroValue9
 t46:=Tryz.underlying254
 a46:=Tryz.isAgg254
 z46:=Tryz.sizeOf254
 v46:=Tryz.zeroValue254
 t51:=Tryz.underlying252
 a51:=Tryz.isAgg252
 z51:=Tryz.sizeOf252
 v51:=Tryz.zeroValue252
 t59:=Tryz.underlying206
 a59:=Tryz.isAgg206
 z59:=Tryz.sizeOf206
 v59:=Tryz.zeroValue206
 t146:=Tryz.underlying269
 a146:=Tryz.isAgg269
 z146:=Tryz.sizeOf269
 v146:=Tryz.zeroValue269
 g1:=by kernel_rfl}
open Go.RowKit Go.Lib in
theorem Tryz.strings_Cut (s sep:ByteArray) (m:Int) (w:World) (hs:s.size<4294967281) (hm:w.cell? ⟨1,0,none⟩=some (.int .i64 m)):
 Calls Tryz.prog 204 #[.string s,.string sep] w fun e w'=>e= .returned (.tuple #[.string ⟨(Lib.cut s.data.toList sep.data.toList).1.toArray⟩,.string ⟨(Lib.cut s.data.toList sep.data.toList).2.1.toArray⟩,.bool (Lib.cut s.data.toList sep.data.toList).2.2])∧ ∃n,w'=w.drewN n:=Any.strings_Cut Tryz.lays145 s sep m w hs hm
def Tryz.lays146_ren:Go.Shelf.Ren:=⟨fun|146=>209|221=>248|268=>261|138=>262|143=>263|195=>274|197=>275|218=>276|219=>260|260=>280|217=>270|225=>271|224=>272|267=>273|266=>278|314=>279|n=>n,fun|9=>9|31=>71|3=>3|4=>4|0=>0|105=>264|21=>21|5=>5|46=>254|119=>273|139=>276|138=>275|146=>269|51=>252|n=>n,fun|1=>1|3=>4|4=>5|n=>n⟩
theorem Tryz.lays146:Go.Proofs.Lays.n146 Tryz.prog Tryz.lays146_ren:={
 mixed:=by kernel_rfl
 f138:=Tryz.func262.trans (congrArg some (by kernel_rfl))
 f143:=Tryz.func263.trans (congrArg some (by kernel_rfl))
 f146:=Tryz.func209.trans (congrArg some (by kernel_rfl))
 f195:=Tryz.func274.trans (congrArg some (by kernel_rfl))
 f197:=Tryz.func275.trans (congrArg some (by kernel_rfl))
 f217:=Tryz.func270.trans (congrArg some (by kernel_rfl))
 f218:=Tryz.func276.trans (congrArg some (by kernel_rfl))
 f219:=Tryz.func260.trans (congrArg some (by kernel_rfl))
 f221:=Tryz.func248.trans (congrArg some (by kernel_rfl))
 f224:=Tryz.func272.trans (congrArg some (by kernel_rfl))
 f225:=Tryz.func271.trans (congrArg some (by kernel_rfl))
 f260:=Tryz.func280.trans (congrArg some (by kernel_rfl))
 f266:=Tryz.func278.trans (congrArg some (by kernel_rfl))
 f267:=Tryz.func273.trans (congrArg some (by kernel_rfl))
 f268:=Tryz.func261.trans (congrArg some (by kernel_rfl))
 f314:=Tryz.func279.trans (congrArg some (by kernel_rfl))
 t0:=Tryz.underlying0
 a0:=Tryz.isAgg0
 z0:=Tryz.sizeOf0
 v0:=Tryz.zeroValue0
 t3:=Tryz.underlying3
 a3:=Tryz.isAgg3
 z3:=Tryz.sizeOf3
 v3:=Tryz.zeroValue3
 t4:=Tryz.underlying4
 a4:=Tryz.isAgg4
 z4:=Tryz.sizeOf4
 v4:=Tryz.zeroValue4
 t5:=Tryz.underlying5
 a5:=Tryz.isAgg5
 z5:=Tryz.sizeOf5
 v5:=Tryz.zeroValue5
 t9:=Tryz.underlying9
 a9:=Tryz.isAgg9
 z9:=Tryz.sizeOf9
 v9:=Tryz.zeroValue9
 t21:=Tryz.underlying21
 a21:=Tryz.isAgg21
 z21:=Tryz.sizeOf21
 v21:=Tryz.zeroValue21
 t31:=Tryz.underlying71
 a31:=Tryz.isAgg71
 z31:=Tryz.sizeOf71
 v31:=Tryz.zeroValue71
 t46:=Tryz.underlying254
 a46:=Tryz.isAgg254
 z46:=Tryz.sizeOf254
 v46:=Tryz.zeroValue254
 t51:=Tryz.underlying252
 a51:=Tryz.isAgg252
 z51:=Tryz.sizeOf252
 v51:=Tryz.zeroValue252
 t105:=Tryz.underlying264
 a105:=Tryz.isAgg264
 z105:=Tryz.sizeOf264
 v105:=Tryz.zeroValue264
 t119:=Tryz.underlying273
 a119:=Tryz.isAgg273
 z119:=Tryz.sizeOf273
 t138:=Tryz.underlying275
 a138:=Tryz.isAgg275
 z138:=Tryz.sizeOf275
 v138:=Tryz.zeroValue275
 t139:=Tryz.underlying276
 a139:=Tryz.isAgg276
 z139:=Tryz.sizeOf276
 v139:=Tryz.zeroValue276
 t146:=Tryz.underlying269
 a146:=Tryz.isAgg269
 z146:=Tryz.sizeOf269
 v146:=Tryz.zeroValue269
 g1:=by kernel_rfl
 g3:=by kernel_rfl
 g4:=by kernel_rfl}
open Go.RowKit Go.Lib in
theorem Tryz.strings_Split (s sep:ByteArray) (m:Int) (w:World) (hs:s.size<4294967281) (hm:w.cell? ⟨1,0,none⟩=some (.int .i64 m)) (h1:1≤sep.size):
 Calls Tryz.prog 209 #[.string s,.string sep] w fun e w'=>
  e= .returned (.slice (some ⟨w.heap.size,0,none⟩) (Lib.countB s sep+1) (Lib.countB s sep+1))∧w'=w.alloc (.cells ((Lib.splitB sep 0 (Lib.countB s sep) s).map Value.string).toArray 9):=Any.strings_Split Tryz.lays146 (by kernel_rfl) s sep m w hs hm h1
def Tryz.lays147_ren:Go.Shelf.Ren:=⟨fun|147=>245|221=>248|268=>261|138=>262|143=>263|195=>274|197=>275|218=>276|219=>260|260=>280|217=>270|225=>271|224=>272|267=>273|266=>278|314=>279|n=>n,fun|9=>9|3=>3|31=>71|4=>4|0=>0|105=>264|21=>21|5=>5|46=>254|119=>273|139=>276|138=>275|146=>269|51=>252|n=>n,fun|1=>1|3=>4|4=>5|n=>n⟩
theorem Tryz.lays147:Go.Proofs.Lays.n147 Tryz.prog Tryz.lays147_ren:={
 mixed:=by kernel_rfl
 f138:=Tryz.func262.trans (congrArg some (by kernel_rfl))
 f143:=Tryz.func263.trans (congrArg some (by kernel_rfl))
 f147:=Tryz.func245.trans (congrArg some (by kernel_rfl))
 f195:=Tryz.func274.trans (congrArg some (by kernel_rfl))
 f197:=Tryz.func275.trans (congrArg some (by kernel_rfl))
 f217:=Tryz.func270.trans (congrArg some (by kernel_rfl))
 f218:=Tryz.func276.trans (congrArg some (by kernel_rfl))
 f219:=Tryz.func260.trans (congrArg some (by kernel_rfl))
 f221:=Tryz.func248.trans (congrArg some (by kernel_rfl))
 f224:=Tryz.func272.trans (congrArg some (by kernel_rfl))
 f225:=Tryz.func271.trans (congrArg some (by kernel_rfl))
 f260:=Tryz.func280.trans (congrArg some (by kernel_rfl))
 f266:=Tryz.func278.trans (congrArg some (by kernel_rfl))
 f267:=Tryz.func273.trans (congrArg some (by kernel_rfl))
 f268:=Tryz.func261.trans (congrArg some (by kernel_rfl))
 f314:=Tryz.func279.trans (congrArg some (by kernel_rfl))
 t0:=Tryz.underlying0
 a0:=Tryz.isAgg0
 z0:=Tryz.sizeOf0
 v0:=Tryz.zeroValue0
 t3:=Tryz.underlying3
 a3:=Tryz.isAgg3
 z3:=Tryz.sizeOf3
 v3:=Tryz.zeroValue3
 t4:=Tryz.underlying4
 a4:=Tryz.isAgg4
 z4:=Tryz.sizeOf4
 v4:=Tryz.zeroValue4
 t5:=Tryz.underlying5
 a5:=Tryz.isAgg5
 z5:=Tryz.sizeOf5
 v5:=Tryz.zeroValue5
 t9:=Tryz.underlying9
 a9:=Tryz.isAgg9
 z9:=Tryz.sizeOf9
 v9:=Tryz.zeroValue9
 t21:=Tryz.underlying21
 a21:=Tryz.isAgg21
 z21:=Tryz.sizeOf21
 v21:=Tryz.zeroValue21
 t31:=Tryz.underlying71
 a31:=Tryz.isAgg71
 z31:=Tryz.sizeOf71
 v31:=Tryz.zeroValue71
 t46:=Tryz.underlying254
 a46:=Tryz.isAgg254
 z46:=Tryz.sizeOf254
 v46:=Tryz.zeroValue254
 t51:=Tryz.underlying252
 a51:=Tryz.isAgg252
 z51:=Tryz.sizeOf252
 v51:=Tryz.zeroValue252
 t105:=Tryz.underlying264
 a105:=Tryz.isAgg264
 z105:=Tryz.sizeOf264
 v105:=Tryz.zeroValue264
 t119:=Tryz.underlying273
 a119:=Tryz.isAgg273
 z119:=Tryz.sizeOf273
 t138:=Tryz.underlying275
 a138:=Tryz.isAgg275
 z138:=Tryz.sizeOf275
 v138:=Tryz.zeroValue275
 t139:=Tryz.underlying276
 a139:=Tryz.isAgg276
 z139:=Tryz.sizeOf276
 v139:=Tryz.zeroValue276
 t146:=Tryz.underlying269
 a146:=Tryz.isAgg269
 z146:=Tryz.sizeOf269
 v146:=Tryz.zeroValue269
 g1:=by kernel_rfl
 g3:=by kernel_rfl
 g4:=by kernel_rfl}
open Go.RowKit Go.Lib in
theorem Tryz.strings_SplitN (s sep:ByteArray) (n:Nat) (m:Int) (w:World) (hs:s.size<4294967281) (hm:w.cell? ⟨1,0,none⟩=some (.int .i64 m)) (h1:1≤sep.size) (hn:1≤n) (hn63:n≤9223372036854775807):
 Calls Tryz.prog 245 #[.string s,.string sep,.int .i64 n] w fun e w'=>
  e= .returned (.slice (some ⟨w.heap.size,0,none⟩) (Lib.splitB sep 0 (min n (s.size+1) - 1) s).length (min n (s.size+1)))∧w'=w.alloc (.cells (Lib.cellsOf (Lib.splitB sep 0 (min n (s.size+1) - 1) s) (min n (s.size+1))) 9):=Any.strings_SplitN Tryz.lays147 (by kernel_rfl) s sep n m w hs hm h1 hn hn63
end Go.Proofs
namespace Go.Proofs.YtmabaopgkimfmaaGreatDoor
open Int renaming toNat_natCast→aVy,tmod→aWe
open List renaming length_append→aVz,length_nil→aV2,length_cons→aV3,length_take→aV4,getD_eq_getElem?_getD→aV6,length_drop→aV7,getElem?_eq_getElem→aV8,getElem?_eq_some_iff→aV9,range→aWb,mem_map→aWc,take_length→aWd,all_eq_true→aWf,mem_singleton→aWg
open Nat renaming le_of_ble_eq_true→aV0,zero_le→aV5,le_refl→aWa,add_mul→aWh
open Bool renaming and_eq_true→aV1
open Go Go.Ab Go.RowKit
set_option linter.unusedVariables false
set_option linter.unusedSimpArgs false
set_option maxRecDepth 9000
theorem xf (n:Nat) (hn:n≤1000000):Ab.Spec Tryz.prog 91 1 [(.t 0,.v (I n))] [(.t 0,.v (Dv (.s (kE n))))]:=aKf ⟨Tryz.f91,Tryz.func91,by kernel_rfl,by kernel_rfl⟩ n hn fun w ht=>Tryz.strconv_Itoa n (by omega) (by omega) w ht
theorem zb (s:List UInt8) (hs:s.length≤1000000):Sp 204 2 [tD 0 (.s s),tD 1 (.s [32])] [tV 0 (.tup [.c (.d (.s (bG s))),.c (.d (.s (aN s))),.c (.d (.b (fS s)))])]:=by
 refine aNc ⟨Tryz.f204,Tryz.func204,by kernel_rfl,by kernel_rfl⟩ s hs fun w hg=> ?_
 obtain⟨m,hm⟩:=nj hg (g:=1) (by kernel_rfl)
 exact Tryz.strings_Cut ⟨s.toArray⟩ ⟨#[32]⟩ m w (show s.toArray.size<4294967281 by simp;omega) hm
theorem ro (s:List UInt8) (hs:s.length≤1000000):Sp 209 2 [tD 0 (.s s),tD 1 (.s [32])] [tD 0 (.sl (aX (dE s)))]:=by
 refine aG9 (e:=9) ⟨Tryz.f209,Tryz.func209,by kernel_rfl,by kernel_rfl⟩ s hs fun w hg=> ?_
 obtain⟨m,hm⟩:=nj hg (g:=1) (by kernel_rfl)
 exact Tryz.strings_Split ⟨s.toArray⟩ ⟨#[32]⟩ m w (show s.toArray.size<4294967281 by simp;omega) hm (show 1≤1 by omega)
theorem oi (s:List UInt8) (hs:s.length≤1000000):Sp 245 3 [tD 0 (.s s),tD 1 (.s [32]),tI 2 5] [tD 0 (.sl (aX (iN 4 s)))]:=by
 refine aEq (e:=9) ⟨Tryz.f245,Tryz.func245,by kernel_rfl,by kernel_rfl⟩ 4 s hs (by omega) fun w hg=> ?_
 obtain⟨m,hm⟩:=nj hg (g:=1) (by kernel_rfl)
 exact Tryz.strings_SplitN ⟨s.toArray⟩ ⟨#[32]⟩ 5 m w (show s.toArray.size<4294967281 by simp;omega) hm (show 1≤1 by omega) (by omega) (by omega)
theorem aBo (s:List UInt8) (hl:s.length≤140737488355328):Ab.Spec Tryz.prog 108 1 [(.t 0,.v (Dv (.s s)))] [(.t 0,.v (.tup [.c (.d (.i (iU s))),.c (.d (.b (jF s).isSome))]))]:=cu s hl
theorem sm (n:Int) (h:0≤n∧n≤1000000):Sp 91 1 [tI 0 n] [tD 0 (.s (kE n.toNat))]:=by
 obtain⟨m,rfl⟩:=Int.eq_ofNat_of_zero_le h.1
 exact xf m (by omega)
theorem jZ (n:Int) (h:0≤n∧n≤1000000):Sp 89 1 [tI 0 n] [tD 0 (.s (kE n.toNat))]:=by
 obtain⟨m,rfl⟩:=Int.eq_ofNat_of_zero_le h.1
 exact uM m (by omega)
theorem ar (l:List (List UInt8)) (hl:l.length≤1000000) (hx: ∀x∈l,x.length≤1000000):Sp 208 1 [tD 0 (.sl (aX l))] [tV 0 (.tup [.c (.d (.sl (bX (kH l)))),.c (.d (.b (iG l)))])]:=by
 refine sb Tryz.func208 rfl (sq (rT [0] (s2 (sq (rT [0,4] (s1 (sq (sq (rT [4,9,10,11] (s3 (bk (SW.nilOwn 4 8 3 1 rfl rfl (SW.loopW (n:=l.length) (fun m q=> ∃i:Nat,m=l.length - i∧i≤l.length∧(∀j,j<i→(jF (l.getD j [])).isSome=true)∧q=[tO 4 8 (i),tD 9 (.sl (aX l)),tI 10 (l.length:Nat),tI 11 (i:Nat),oR 8 3 1 (bX ((l.take (i)).map iU))]) ?_ ?_)))))))))))))
 · refine wq (σ':=[tO 4 8 (0),tD 9 (.sl (aX l)),tI 10 (l.length:Nat),tI 11 (0:Nat),oR 8 3 1 (bX ((l.take (0)).map iU))]) [] [] (⟨0,rfl,aV5 _,fun j h=>absurd h (by omega),rfl⟩) ?_
   repeat' apply ai
   all_goals first|exact qx|rfl|(rw[aM];done)|(simp[aM];done)|exact qz
 rintro n s ⟨i,rfl,hi,hk,rfl⟩
 refine sq (rT [4,9,10,11,12] (s1 (sq (cd rfl (fun c12=> ?_) fun c12=> ?_))))
 · have hi2:i<l.length:=by simpa using c12
   have hg:=eN (l:=l) hi2
   refine sk (sq (bk (sq (rT [4,6,9,10,11] (ai (by rw[aVy,hg];exact⟨⟨by omega,by rw[aM];omega⟩,rfl⟩) (ai (by rw[aVy,hg];exact⟨aV0 rfl,rfl⟩) (s1 (sq (wa [tO 4 8 (i),tD 6 (.s (l.getD i [])),tD 9 (.sl (aX l)),tI 10 (l.length:Nat),tI 11 (i:Nat),oR 8 3 1 (bX ((l.take (i)).map iU))] [] [] ?_ ?_)))))))))
   · repeat' apply ai
     all_goals first|exact qx|(rw[aVy,hg];rfl)|exact qz
   refine rT [4,7,8,9,10,11] (s1 (xp (aBo (l.getD i []) (by have:=hx _ (dH (z:=[]) hi2);omega)) (ai rfl ?_)))
   refine s5 (sq (sq (rT [4,7,9,10,11,21] (s2 (cd rfl (fun c21=> ?_) fun c21=> ?_)))))
   · refine sq (rT [2,3] (s2 (rt ?_)))
     have hno:=aKj hi2 (by simpa using c21)
     exact dQ _ [] [] rfl ⟨⟨_,rfl,congrArg D.sl (show bX (kH l)=[] by rw[kH,hno];rfl),congrArg D.b hno.symm,trivial⟩,trivial⟩ rfl rfl
   refine sk (rT [4,9,10,11] (s2 (ai (by exact⟨by simp,aV0 rfl⟩) (ai (by refine⟨rfl,by rw[bS,List.length_map,aV4];omega,by simp,?_⟩;show(_+1)*8≤_;omega) (s1 (rT [4,9,10,11] (s2 ?_)))))))
   have hs: (jF (l.getD i [])).isSome=true:=by simpa using c21
   refine wq [] [] (⟨l.length - (i+1),by omega,i+1,rfl,by omega,fun j h=>by by_cases e:j=i;exact e▸hs;exact hk j (by omega),rfl⟩) ?_
   repeat' apply ai
   all_goals first|exact qx|rfl|(rw[ym hi2];exact iW _ _)|(exact congrArg D.i (by rw[aB (by omega)];omega))|(simp[bS,aV4];omega)|exact qz
 have hi3:i=l.length:=by simp at c12;omega
 refine xt (sq (rT [2,3] (s3 (rt ?_))))
 have hyes:=aHb (hi3▸hk)
 exact dQ _ [] [8] rfl ⟨⟨_,rfl,⟨by simp,_,_,_,rfl,by rw[bS,List.length_map,aV4];omega,.inl (congrArg D.sl (by rw[kH,if_pos hyes,hi3,aWd]))⟩,congrArg D.b hyes.symm,trivial⟩,trivial⟩ rfl rfl
theorem fo (s:List UInt8) (hl:s.length≤1000000):Sp 228 1 [tD 0 (.s s)] [tV 0 (.tup [.c (.d (.s (bG s))),.c (.d (.s (aN s)))])]:=by
 refine sb Tryz.func228 rfl (sq (rT [0] (s2 (sq (sq (rT [0,4] (s1 (bk (SW.loopW (n:=s.length) (fun m q=> ∃i:Nat,m=s.length - i∧i≤s.length∧(∀j,j<i→s.getD j 0≠32)∧q=[tD 0 (.s s),tI 4 (i:Nat)]) ?_ ?_)))))))))
 · exact wq (σ':=[tD 0 (.s s),tI 4 (0:Nat)]) [] [] (⟨0,rfl,aV5 _,fun j h=>absurd h (by omega),rfl⟩) qz
 rintro n s ⟨i,rfl,hi,hk,rfl⟩
 refine sq (sq (rT [0,4,8] (s4 (cd rfl (fun c8=> ?_) fun c8=> ?_))))
 · have hi2:i<s.length:=by simpa using c8
   refine sk (sq (bk (sq (rT [0,4,14] (s2 (ai (by exact⟨by omega,by omega⟩) (s1 (cd rfl (fun c14=> ?_) fun c14=> ?_))))))))
   · have h32:s.getD i 0=32:=by
      have h9:=c14
      rw[aVy] at h9
      have h10: ((s.getD i 0).toNat:Int)=32:=by simpa only[beq_iff_eq] using h9
      apply UInt8.toNat_inj.1
      have h6: (32:UInt8).toNat=32:=rfl
      omega
     obtain⟨e1,e2,e3⟩:=aNe hk hi2 h32
     refine sq (rD [2,3] (s2 (ai (by simp[mu,eK,fM];omega) (s3 (ai (by rw[aB (by omega)];simp[mu,eK,fM];omega) (s2 (ai (by kernel_rfl) (rt (bU rfl rfl ?_)))))))))
     rw[e1,e2,aB (by omega)]
     simp[eK,fM]
   refine sk (rT [0,4] (s3 ?_))
   have hs:s.getD i 0≠32:=by
    have h9:=c14
    rw[aVy] at h9
    intro e
    rw[e] at h9
    exact absurd h9 (by decide)
   refine wq [] [] (⟨s.length - (i+1),by omega,i+1,rfl,by omega,fun j h=>by by_cases e:j=i;exact e▸hs;exact hk j (by omega),rfl⟩) ?_
   repeat' apply ai
   all_goals first|exact qx|exact congrArg D.i (aB (by omega))|exact qz
 have hi3:i=s.length:=by simp at c8;omega
 refine xt (sq (rT [2,3] (s3 (rt ?_))))
 obtain⟨e1,e2,e3⟩:=aKi (hi3▸hk)
 refine bU rfl rfl ?_
 rw[e1,e2]
 rfl
theorem fp (s:List UInt8) (n:Nat) (hl:s.length≤1000000) (hn:n≤100):Sp 233 2 [tD 0 (.s s),tI 1 (n:Nat)] [tV 0 (.tup [.c (.d (.sl (bX (eO n s)))),.c (.d (.s (mG n s)))])]:=by
 refine sb Tryz.func233 rfl (sq (rT [0,1] (s2 (sq (rT [0,1,6] (ai (by exact⟨by simp,aV0 rfl⟩) (s1 (sq (sq (rT [0,1,6,7] (s1 (bk (SW.loopW (n:=n) (fun m q=> ∃i:Nat,m=n - i∧i≤n∧q=[tD 0 (.s (mG (i) s)),tI 1 (n:Nat),tO 6 10 (i),tI 7 (i:Nat),oR 10 3 1 (bX (eO (i) s))]) ?_ ?_)))))))))))))
 · refine wq (σ':=[tD 0 (.s (mG (0) s)),tI 1 (n:Nat),tO 6 10 (0),tI 7 (0:Nat),oR 10 3 1 (bX (eO (0) s))]) [] [] (⟨0,rfl,aV5 _,rfl⟩) ?_
   repeat' apply ai
   all_goals first|exact qx|rfl|exact qz
 rintro n s ⟨i,rfl,hi,rfl⟩
 refine sq (sq (rT [0,1,6,7,13] (s3 (cd rfl (fun c13=> ?_) fun c13=> ?_))))
 · have hi2:i<n:=by simpa using c13
   have hr:=uq i s
   have hr2:=dq (mG i s)
   refine sk (sq (bk (sq (rT [1,6,7,8,9] (s1 (xp (fo (mG i s) (by omega)) (ai rfl ?_)))))))
   refine s5 (sq (rT [1,6,7,9] (s2 (xp (uN (bG (mG i s)) (by omega)) (ai rfl ?_)))))
   refine ai (by exact⟨by simp,aV0 rfl⟩) (ai (by refine⟨rfl,by rw[bS,bP],by simp,?_⟩;show(_+1)*8≤_;omega) (s1 (rT [0,1,6,7] (s2 (rT [0,1,6,7] (s3 (wq [] [] (⟨n - (i+1),by omega,i+1,rfl,by omega,rfl⟩) ?_)))))))
   repeat' apply ai
   all_goals first|exact qx|rfl|(rw[aHa];exact iW _ _)|(exact congrArg D.i (by rw[aB (by omega)];omega))|(simp[bS,bP];done)|exact qz
 have hi3:i=n:=by simp at c13;omega
 refine xt (sq (rT [4,5] (s4 (rt ?_))))
 subst hi3
 exact dQ _ [] [10] rfl ⟨⟨_,rfl,⟨by simp,_,_,_,rfl,by rw[bS,bP],.inl rfl⟩,rfl,trivial⟩,trivial⟩ rfl rfl
theorem oj (n:bA) (hl:n.text.length≤140737488355328):Sp 93 1 [tV 0 n.V] [tD 0 (.s (iF n))]:=by
 refine sb Tryz.func93 rfl (sq (rT [1] (s2 (sq (sq (rT [1,5] (s1 (xp (sG _ vc) (ai rfl ?_)))))))))
 refine s1 (cd rfl (fun c5=> ?_) fun c5=> ?_)
 · refine sq (rT [2] (s1 (rt (bL rfl (congrArg D.s ?_)))))
   have hno:fA n=false:=by simpa using c5
   rw[iF,hno];rfl
 have hok:fA n=true:=by simpa using c5
 obtain⟨p1,p2,p3,p4,p5⟩:=lQ hok
 have q1:=cL (k:=3) (n:=n.frm.toNat) (by simp;omega)
 have q2:=cL (k:=3) (n:=n.num.toNat) (by simp;omega)
 have q3:=cL (k:=3) (n:=n.to.toNat) (by simp;omega)
 have q4:=cL (k:=3) (n:=n.til.toNat) (by simp;omega)
 refine sk (sq (rD [2] (s2 (xp (sm n.frm (by omega)) (ai rfl ?_)))))
 refine ai (by show _≤9223372036854775807;simp only[aVz,aV3,aV2];omega) (s2 (xp (sm n.num (by omega)) (ai rfl ?_)))
 refine ai (by show _≤9223372036854775807;simp only[aVz,aV3,aV2];omega) (ai (by show _≤9223372036854775807;simp only[aVz,aV3,aV2];omega) (s2 (xp (sm n.to (by omega)) (ai rfl ?_))))
 refine ai (by show _≤9223372036854775807;simp only[aVz,aV3,aV2];omega) (ai (by show _≤9223372036854775807;simp only[aVz,aV3,aV2];omega) (s2 (xp (sm n.til (by omega)) (ai rfl ?_))))
 refine ai (by show _≤9223372036854775807;simp only[aVz,aV3,aV2];omega) (ai (by show _≤9223372036854775807;simp only[aVz,aV3,aV2];omega) (s2 (ai (by show _≤9223372036854775807;simp only[aVz,aV3,aV2];omega) (s1 (ai (by kernel_rfl) (rt (bL rfl (congrArg D.s ?_))))))))
 rw[iF,if_pos hok];rfl
theorem jV (n:bA) (hl:n.text.length≤140737488355328):Sp 92 1 [tV 0 n.V] [tD 0 (.s (iF n))]:=by
 refine sb Tryz.func92 rfl (sq (rT [1] (s2 (sq (sq (rT [1,5] (s1 (xp (wZ _ vc) (ai rfl ?_)))))))))
 refine s1 (cd rfl (fun c5=> ?_) fun c5=> ?_)
 · refine sq (rT [2] (s1 (rt (bL rfl (congrArg D.s ?_)))))
   have hno:fA n=false:=by simpa using c5
   rw[iF,hno];rfl
 have hok:fA n=true:=by simpa using c5
 obtain⟨p1,p2,p3,p4,p5⟩:=lQ hok
 have q1:=cL (k:=3) (n:=n.frm.toNat) (by simp;omega)
 have q2:=cL (k:=3) (n:=n.num.toNat) (by simp;omega)
 have q3:=cL (k:=3) (n:=n.to.toNat) (by simp;omega)
 have q4:=cL (k:=3) (n:=n.til.toNat) (by simp;omega)
 refine sk (sq (rD [2] (s2 (xp (jZ n.frm (by omega)) (ai rfl ?_)))))
 refine ai (by show _≤9223372036854775807;simp only[aVz,aV3,aV2];omega) (s2 (xp (jZ n.num (by omega)) (ai rfl ?_)))
 refine ai (by show _≤9223372036854775807;simp only[aVz,aV3,aV2];omega) (ai (by show _≤9223372036854775807;simp only[aVz,aV3,aV2];omega) (s2 (xp (jZ n.to (by omega)) (ai rfl ?_))))
 refine ai (by show _≤9223372036854775807;simp only[aVz,aV3,aV2];omega) (ai (by show _≤9223372036854775807;simp only[aVz,aV3,aV2];omega) (s2 (xp (jZ n.til (by omega)) (ai rfl ?_))))
 refine ai (by show _≤9223372036854775807;simp only[aVz,aV3,aV2];omega) (ai (by show _≤9223372036854775807;simp only[aVz,aV3,aV2];omega) (s2 (ai (by show _≤9223372036854775807;simp only[aVz,aV3,aV2];omega) (s1 (ai (by kernel_rfl) (rt (bL rfl (congrArg D.s ?_))))))))
 rw[iF,if_pos hok];rfl
theorem rr (s:List UInt8) (hl:s.length≤1000000):Sp 206 1 [tD 0 (.s s)] [tV 0 (.tup [.agg [.d (.i ((dZ s).1).frm),.d (.i ((dZ s).1).num),.d (.i ((dZ s).1).to),.d (.i ((dZ s).1).til),.d (.s ((dZ s).1).text)],.c (.d (.b (dZ s).2))])]:=by
 refine sb Tryz.func206 rfl (sq (rT [0,2] (s2 (sq (rT [0,2,4] (s1 (xp (oi s hl) (ai rfl ?_))))))))
 refine s1 (sq (sq (rT [0,2,4,12] (s3 (cd rfl (fun c12=> ?_) fun c12=> ?_)))))
 · refine sq (rT [2,3] (s3 (rt (bU rfl rfl ?_))))
   rw[ur (.inl (by simp[aM] at c12;omega))]
   rfl
 have h5: (iN 4 s).length=5:=by simp[aM] at c12;omega
 refine sk (sq (rT [0,2,4,5,6] (s1 (ai (by refine⟨?_,yR _⟩;rw[aM,h5];simp[mu,eK,fM]) (xp (ar ((iN 4 s).take 4) (by rw[aV4];omega) (fun x hx=>by have:=jr 4 s x (List.mem_of_mem_take hx);omega)) (ai (by show _=eL 0 [Dv (.sl (List.drop 0 (List.take 4 (aX (iN 4 s)))))];rw[List.drop_zero,aCl];rfl) ?_))))))
 refine s5 (sq (sq (rT [0,2,4,5,21] (s2 (cd rfl (fun c21=> ?_) fun c21=> ?_)))))
 · refine sq (rT [2,3] (s3 (rt (bU rfl rfl ?_))))
   rw[ur (.inr (.inl (by simpa using c21)))]
   rfl
 have hok:iG ((iN 4 s).take 4)=true:=by simpa using c21
 refine sk (sq (rD [0,2,7] (s1 (ai (by exact jm (l:=kH ((iN 4 s).take 4)) (by omega) (by rw[hD hok,aV4];omega)) (ai (by have:=iH (l:=kH ((iN 4 s).take 4)) (i:=0) (by rw[hD hok,aV4];omega);first|(rw[show((0:Int)).toNat=((0:Nat):Int).toNat from rfl,this];exact⟨aV0 rfl,rfl⟩)) (s1 (ai (by exact jm (l:=kH ((iN 4 s).take 4)) (by omega) (by rw[hD hok,aV4];omega)) (ai (by have:=iH (l:=kH ((iN 4 s).take 4)) (i:=1) (by rw[hD hok,aV4];omega);first|(rw[show((1:Int)).toNat=((1:Nat):Int).toNat from rfl,this];exact⟨aV0 rfl,rfl⟩)) (s1 (ai (by exact jm (l:=kH ((iN 4 s).take 4)) (by omega) (by rw[hD hok,aV4];omega)) (ai (by have:=iH (l:=kH ((iN 4 s).take 4)) (i:=2) (by rw[hD hok,aV4];omega);first|(rw[show((2:Int)).toNat=((2:Nat):Int).toNat from rfl,this];exact⟨aV0 rfl,rfl⟩)) (s1 (ai (by exact jm (l:=kH ((iN 4 s).take 4)) (by omega) (by rw[hD hok,aV4];omega)) (ai (by have:=iH (l:=kH ((iN 4 s).take 4)) (i:=3) (by rw[hD hok,aV4];omega);first|(rw[show((3:Int)).toNat=((3:Nat):Int).toNat from rfl,this];exact⟨aV0 rfl,rfl⟩)) (s1 (ai (by exact ixS (l:=iN 4 s) (by omega) (by omega)) (ai (by exact ldS (l:=iN 4 s) (by omega) (by omega)) (s3 (ai (by kernel_rfl) (sq (sq (SW.wk (J:=fun q=>q=[tD 0 (.s s),tP 2 2,tP 7 7,oB 2 52 [.d (.i 0),.d (.i 0),.d (.i 0),.d (.i 0),.d (.s [])],oB 7 52 [.d (.i (oQ s).frm),.d (.i (oQ s).num),.d (.i (oQ s).to),.d (.i (oQ s).til),.d (.s (oQ s).text)]]) ?_ ?_))))))))))))))))))))))
 · refine wq [] [] (rfl) ?_
   repeat' apply ai
   all_goals first|exact qx|exact congrArg D.i (aCm hok h5 (i:=0) (by omega))|exact congrArg D.i (aCm hok h5 (i:=1) (by omega))|exact congrArg D.i (aCm hok h5 (i:=2) (by omega))|exact congrArg D.i (aCm hok h5 (i:=3) (by omega))|exact congrArg D.s (aM6 (l:=iN 4 s) (j:=4) (by omega) (by omega))|exact qz
 rintro q rfl
 refine rT [2,7,47] (s1 (xp (sG (oQ s) (by have:=jr 4 s _ (dH (z:=[]) (show 4< (iN 4 s).length by omega));show((iN 4 s).getD 4 []).length≤_;omega)) (ai rfl ?_)))
 refine s2 (y1 (xc (fun h=>(oj (oQ s) (by have:=jr 4 s _ (dH (z:=[]) (show 4< (iN 4 s).length by omega));show((iN 4 s).getD 4 []).length≤_;omega))) (ai rfl (ai rk ?_))))
 refine y2 (ai pk (cd rfl (fun c47=> ?_) fun c47=> ?_))
 · refine sq (rT [2,3] (s3 (rt (bU rfl rfl ?_))))
   rw[ur (.inr (.inr (by cases h:fA (oQ s) with|false=>exact .inl rfl|true=>rw[h] at c47;exact .inr (by simpa using c47))))]
   rfl
 refine sk (sq (rT [2,3] (s3 (rt ?_))))
 have h6:fA (oQ s)=true∧iF (oQ s)=s:=by simpa using c47
 refine bU rfl rfl ?_
 rw[aKk h5 hok h6.1 h6.2]
 rfl
theorem tG (s:List UInt8) (hl:s.length≤1000000):Sp 230 1 [tD 0 (.s s)] [tV 0 (.tup [.agg [.d (.i ((dZ s).1).frm),.d (.i ((dZ s).1).num),.d (.i ((dZ s).1).to),.d (.i ((dZ s).1).til),.d (.s ((dZ s).1).text)],.c (.d (.b (dZ s).2))])]:=by
 refine sb Tryz.func230 rfl (sq (rT [0,2] (s2 (sq (rT [0,2,4,5] (s1 (xp (fp s 4 hl (by omega)) (ai rfl ?_))))))))
 refine s5 (sq (rD [0,2,6] (s1 (ai (by exact jm (l:=eO 4 s) (by omega) (by rw[bP];omega)) (ai (by have:=iH (l:=eO 4 s) (i:=0) (by rw[bP];omega);first|(rw[show((0:Int)).toNat=((0:Nat):Int).toNat from rfl,this];exact⟨aV0 rfl,rfl⟩)) (s1 (ai (by exact jm (l:=eO 4 s) (by omega) (by rw[bP];omega)) (ai (by have:=iH (l:=eO 4 s) (i:=1) (by rw[bP];omega);first|(rw[show((1:Int)).toNat=((1:Nat):Int).toNat from rfl,this];exact⟨aV0 rfl,rfl⟩)) (s1 (ai (by exact jm (l:=eO 4 s) (by omega) (by rw[bP];omega)) (ai (by have:=iH (l:=eO 4 s) (i:=2) (by rw[bP];omega);first|(rw[show((2:Int)).toNat=((2:Nat):Int).toNat from rfl,this];exact⟨aV0 rfl,rfl⟩)) (s1 (ai (by exact jm (l:=eO 4 s) (by omega) (by rw[bP];omega)) (ai (by have:=iH (l:=eO 4 s) (i:=3) (by rw[bP];omega);first|(rw[show((3:Int)).toNat=((3:Nat):Int).toNat from rfl,this];exact⟨aV0 rfl,rfl⟩)) (s4 (ai (by kernel_rfl) (sq (sq (SW.wk (J:=fun q=>q=[tD 0 (.s s),tP 2 2,tP 6 6,oB 2 52 [.d (.i 0),.d (.i 0),.d (.i 0),.d (.i 0),.d (.s [])],oB 6 52 [.d (.i (bx s).frm),.d (.i (bx s).num),.d (.i (bx s).to),.d (.i (bx s).til),.d (.s (bx s).text)]]) ?_ ?_)))))))))))))))))))
 · refine wq [] [] (rfl) ?_
   repeat' apply ai
   all_goals first|exact qx|exact congrArg D.i (sg (i:=0) (by omega))|exact congrArg D.i (sg (i:=1) (by omega))|exact congrArg D.i (sg (i:=2) (by omega))|exact congrArg D.i (sg (i:=3) (by omega))|rfl|exact qz
 rintro q rfl
 refine rT [2,6,33] (s3 (y1 (xc (fun h=>(jV (bx s) (by have:=uq 4 s;show(mG 4 s).length≤_;omega))) (ai rfl (ai rk ?_)))))
 refine y2 (ai pk (cd rfl (fun c33=> ?_) fun c33=> ?_))
 · refine sq (rT [2,3] (s3 (rt (bU rfl rfl ?_))))
   have hno:dZ s=(.zero,false):=by
    rw[dZ,if_pos]
    by_cases h:s=[]
    · exact .inl h
    · rw[show(s==[])=false by simpa using h] at c33;exact .inr (by simpa using c33)
   rw[hno]
   rfl
 refine sk (sq (rT [2,3] (s3 (rt (bU rfl rfl ?_)))))
 have hyes:dZ s=(bx s,true):=by
  rw[dZ,if_neg]
  rintro(h|h)
  · subst h;simp at c33
  · by_cases h2:s=[]
    · subst h2;simp at c33
    · rw[show(s==[])=false by simpa using h2] at c33;exact h (by simpa using c33)
 rw[hyes]
 rfl
theorem cw (l:List bA) (hl:l.length≤1000000):Sp 211 1 [tD 0 (.sl (aE l))] [tD 0 (.sl (aE l))]:=by
 refine sb Tryz.func211 rfl (sq (rT [0] (s1 (sq (sq (rT [0,6] (s3 (cd rfl (fun c6=> ?_) fun c6=> ?_))))))))
 · refine sq (rT [2] (s1 (rt (dQ _ [] [] rfl (bq rfl (congrArg D.sl ?_) trivial) rfl rfl))))
   simp[aD] at c6;simp[c6,aE]
 refine sk (sq (rT [0,3] (s2 (ai (by refine⟨rfl,by omega,?_⟩;rw[aD];show((48:Nat):Int)*_≤_;omega) (s1 (sq (rT [3] (s2 (ai (by refine⟨trivial,by simp,fW l⟩) (sq (rT [2] (s2 (rt (dQ _ [] [9] rfl (eD rfl rfl rfl ?_ (congrArg D.sl ?_) trivial) rfl rfl))))))))))))))
 · simp
 simp
theorem xg (l:List cM) (hl:l.length≤1000000):Sp 212 1 [tD 0 (.sl (aQ l))] [tD 0 (.sl (aQ l))]:=by
 refine sb Tryz.func212 rfl (sq (rT [0] (s1 (sq (sq (rT [0,6] (s3 (cd rfl (fun c6=> ?_) fun c6=> ?_))))))))
 · refine sq (rT [2] (s1 (rt (dQ _ [] [] rfl (bq rfl (congrArg D.sl ?_) trivial) rfl rfl))))
   simp[aO] at c6;simp[c6,aQ]
 refine sk (sq (rT [0,3] (s2 (ai (by refine⟨rfl,by omega,?_⟩;rw[aO];show((24:Nat):Int)*_≤_;omega) (s1 (sq (rT [3] (s2 (ai (by refine⟨trivial,by simp,kX l⟩) (sq (rT [2] (s2 (rt (dQ _ [] [9] rfl (eD rfl rfl rfl ?_ (congrArg D.sl ?_) trivial) rfl rfl))))))))))))))
 · simp
 simp
theorem tH (k:bO) (hb:k.held.length≤1000000∧k.marks.length≤1000000∧k.inbox.length≤1000000):Sp 171 1 [tV 0 k.V] [tV 0 k.V]:=by
 refine sb Tryz.func171 rfl (sq (rT [1,2] (s2 (sq (rT [1,2,3] (s3 (sq (rT [1,2,3] (s2 (xp (cw k.held hb.1) (ai rfl ?_)))))))))))
 refine s2 (sq (rT [1,2,3] (s2 (xp (xg k.marks hb.2.1) (ai rfl ?_)))))
 refine s2 (sq (rT [2,3] (s2 (xp (cw k.inbox hb.2.2) (ai rfl ?_)))))
 exact s2 (sq (rT [2] (s2 (rt (bU rfl rfl rfl)))))
theorem vQ (k:bO) (hb:k.held.length≤1000000∧k.marks.length≤1000000∧k.inbox.length≤1000000):Sp 195 1 [tV 0 k.V] [tV 0 k.V]:=by
 refine sb Tryz.func195 rfl (sq (rT [1,2] (s2 (sq (rT [1,2] (ai (by simp) (s2 (ai (by refine⟨trivial,rfl,?_,?_⟩<;>first|exact fW _|exact kX _|(simp only[aD,aO,aV2,Nat.zero_add];show _*48≤_;omega)) (s2 (sq (rT [1,2] (ai (by simp) (s2 (ai (by refine⟨trivial,rfl,?_,?_⟩<;>first|exact fW _|exact kX _|(simp only[aD,aO,aV2,Nat.zero_add];show _*24≤_;omega)) (s2 (sq (rT [1,2] (ai (by simp) (s2 (ai (by refine⟨trivial,rfl,?_,?_⟩<;>first|exact fW _|exact kX _|(simp only[aD,aO,aV2,Nat.zero_add];show _*48≤_;omega)) (s2 (sq (rT [2] (s2 (rt (rq [] [3,8,13] rfl ?_))))))))))))))))))))))))))
 repeat' apply ai
 all_goals try exact qx
 all_goals(first|with_reducible rfl|(simp;done))
theorem sI (l:List bA) (n:bA) (hl:l.length≤100000):Sp 247 2 [tD 0 (.sl (aE l)),tV 1 n.V] [tD 0 (.sl (aE (mW l n)))]:=by
 refine sb Tryz.func247 rfl (sq (rT [0,3] (s2 (sq (rT [0,3,5] (s1 (sq (bk (SW.loopW (n:=l.length) (fun m q=> ∃i:Nat,m=l.length - i∧i≤l.length∧(∀j,j<i→cK (l.getD j .zero).frm (l.getD j .zero).num n.frm n.num=true)∧q=[tD 0 (.sl (aE l)),tP 3 3,tI 5 (i:Nat),oB 3 52 [.d (.i (n).frm),.d (.i (n).num),.d (.i (n).to),.d (.i (n).til),.d (.s (n).text)]]) ?_ ?_)))))))))
 · exact wq (σ':=[tD 0 (.sl (aE l)),tP 3 3,tI 5 (0:Nat),oB 3 52 [.d (.i (n).frm),.d (.i (n).num),.d (.i (n).to),.d (.i (n).til),.d (.s (n).text)]]) [] [] (⟨0,rfl,aV5 _,fun j h=>absurd h (by omega),rfl⟩) qz
 rintro n s ⟨i,rfl,hi,hk,rfl⟩
 refine sq (sq (rD [0,3,5,26] (s5 (y2 (ai (fun h=>(by have h8:=h;simp[gb,aD] at h8;have h9:i<l.length:=(by omega);rw[aVy,aT h9];exact⟨⟨by omega,by rw[aD];omega⟩,rfl⟩)) (ai rk (y1 (ai (fun h=>(by have h8:=h;simp[gb,aD] at h8;have h9:i<l.length:=(by omega);rw[aVy,aT h9];exact⟨aV0 rfl,rfl⟩)) (ai rk (y2 (ai (fun h=>(by have h8:=h;simp[gb,aD] at h8;have h9:i<l.length:=(by omega);rw[aVy,aT h9];exact⟨⟨by omega,by rw[aD];omega⟩,rfl⟩)) (ai rk (y1 (ai (fun h=>(by have h8:=h;simp[gb,aD] at h8;have h9:i<l.length:=(by omega);rw[aVy,aT h9];exact⟨aV0 rfl,rfl⟩)) (ai rk (y4 (xc (fun h=>(sF _ _ _ _)) (ai rfl (ai rk ?_)))))))))))))))))))
 refine ai pk (ai (by kernel_rfl) (cd rfl (fun c26=> ?_) fun c26=> ?_))
 · have h9:=c26
   simp only[aV1,decide_eq_true_eq,aD] at h9
   have hi2:i<l.length:=by omega
   have hb:cK (l.getD i .zero).frm (l.getD i .zero).num n.frm n.num=true:=by
    have h10:=h9.2
    rw[aVy,aT hi2] at h10
    exact h10
   refine sk (bk (rT [0,3,5] (s3 (wq [] [] (⟨l.length - (i+1),by omega,i+1,rfl,by omega,fun j h=>by by_cases e:j=i;exact e▸hb;exact hk j (by omega),rfl⟩) ?_))))
   repeat' apply ai
   all_goals first|exact qx|exact congrArg D.i (aB (by omega))|exact qz
 have hend:i=l.length∨cK (l.getD i .zero).frm (l.getD i .zero).num n.frm n.num=false:=by
  by_cases h:i<l.length
  · right
    have h9:=c26
    rw[decide_eq_true (show((i:Nat):Int)< ((aE l).length:Int) by rw[aD];omega),Bool.true_and,aVy,aT h] at h9
    exact h9
  · left;omega
 have hins:mW l n=_:=aI0 (z:=bA.zero) (p:=fun x=>cK x.frm x.num n.frm n.num) (n:=n) hi hk hend
 refine xt (sq (rD [4] (ai (by simp) (s2 (ai (by exact⟨by rw[aD];exact⟨by first|(simp;done)|(simp;omega),by first|(simp;done)|(simp;omega),by first|(simp;done)|(simp;omega)⟩,fW _⟩) (ai (by exact⟨by first|trivial|rfl|(simp;done),by first|rfl|(simp[aD];done),by first|exact jP l _ _|(simp;done),by(try simp only[aVz,aV3,aV2,aV4,aV7,aD,jA,jB,jC,jD]);show _*48≤_;omega⟩) (s1 (ai (by exact⟨by simp,aV0 rfl⟩) (ai (by exact⟨by first|trivial|rfl|(simp;done),by first|rfl|(simp[aD];done),by first|exact jP l _ _|(simp;done),by(try simp only[aVz,aV3,aV2,aV4,aV7,aD,jA,jB,jC,jD]);show _*48≤_;omega⟩) (s2 (ai (by exact⟨by rw[aD];exact⟨by first|(simp;done)|(simp;omega),by first|(simp;done)|(simp;omega),by first|(simp;done)|(simp;omega)⟩,fW _⟩) (ai (by exact⟨by first|trivial|rfl|(simp;done),by first|rfl|(simp[aD];done),by first|exact jP l _ _|(simp;done),by(try simp only[aVz,aV3,aV2,aV4,aV7,aD,jA,jB,jC,jD]);show _*48≤_;omega⟩) (s1 (ai (by kernel_rfl) (rt (dQ _ [] [29] rfl (eD rfl rfl rfl ?_ (congrArg D.sl ?_) trivial) rfl rfl))))))))))))))))
 · rfl
 rw[hins,vK,zD];simp[aE,List.map_take,List.map_drop,bA.row]
theorem cy (l:List bA) (a:Int) (ha:0≤a∧a<l.length) (hl:l.length≤100000):Sp 249 2 [tD 0 (.sl (aE l)),tI 1 a] [tD 0 (.sl (aE (hF l a.toNat)))]:=by
 obtain⟨i,rfl⟩:=Int.eq_ofNat_of_zero_le ha.1
 have hw:wrap64 ((i:Int)+1)=((i+1:Nat):Int):=by rw[aB (by omega)];omega
 refine sb Tryz.func249 rfl (sq (rT [0,1] (s1 (sq (rD [4] (ai (by simp) (s2 (ai (by exact⟨by rw[aD];exact⟨by first|(simp;done)|(simp;omega),by first|(simp;done)|(simp;omega),by first|(simp;done)|(simp;omega)⟩,fW _⟩) (ai (by exact⟨by first|trivial|rfl|(simp;done),by first|rfl|(simp[aD];done),by first|exact jP l _ _|(simp;done),by(try simp only[aVz,aV3,aV2,aV4,aV7,aD,jA,jB,jC,jD]);show _*48≤_;omega⟩) (s3 (ai (by rw[hw];exact⟨by rw[aD];exact⟨by first|(simp;done)|(simp;omega),by first|(simp;done)|(simp;omega),by first|(simp;done)|(simp;omega)⟩,fW _⟩) (ai (by exact⟨by first|trivial|rfl|(simp;done),by first|rfl|(simp[aD];done),by first|exact jP l _ _|(simp;done),by(try simp only[hw]);(try simp only[aVz,aV3,aV2,aV4,aV7,aD,jA,jB,jC,jD]);show _*48≤_;omega⟩) (s1 (ai (by kernel_rfl) (rt (dQ _ [] [5] rfl (eD rfl rfl rfl ?_ (congrArg D.sl ?_) trivial) rfl rfl))))))))))))))))
 · rfl
 rw[hw,vK,zD];simp[aE,hF,List.map_take,List.map_drop]
theorem zU {l:List bA} {i:Nat} {n:bA}: (aE (midW (fun x:bA=>cK n.frm n.num x.frm x.num) n (l.take i))).length≤l.length+1:=by
 rw[aD,midW]
 split
 · rw[fJ,aV4];omega
 rw[aV4];omega
theorem nC (l:List bA) (n:bA) (hl:l.length≤100000):Sp 232 2 [tD 0 (.sl (aE l)),tV 1 n.V] [tD 0 (.sl (aE (jM l n)))]:=by
 refine sb Tryz.func232 rfl (sq (rT [0,3] (s2 (sq (rT [0,3,5] (ai (by simp) (s1 (sq (rT [0,3,5,6] (s1 (sq (sq (rT [0,3,5,6,7] (s1 (bk (SW.loopW (n:=l.length) (fun m q=> ∃i:Nat,m=l.length - i∧i≤l.length∧q=[tD 0 (.sl (aE l)),tP 3 3,tO 5 8 (aE (midW (fun x:bA=>cK n.frm n.num x.frm x.num) n (l.take i))).length,tB 6 ((l.take i).any (fun x:bA=>cK n.frm n.num x.frm x.num)),tI 7 (i:Nat),oB 3 52 [.d (.i (n).frm),.d (.i (n).num),.d (.i (n).to),.d (.i (n).til),.d (.s (n).text)],oR 8 52 5 (aE (midW (fun x:bA=>cK n.frm n.num x.frm x.num) n (l.take i)))]) ?_ ?_))))))))))))))))
 · refine wq (σ':=[tD 0 (.sl (aE l)),tP 3 3,tO 5 8 (aE (midW (fun x:bA=>cK n.frm n.num x.frm x.num) n (l.take 0))).length,tB 6 ((l.take 0).any (fun x:bA=>cK n.frm n.num x.frm x.num)),tI 7 (0:Nat),oB 3 52 [.d (.i (n).frm),.d (.i (n).num),.d (.i (n).to),.d (.i (n).til),.d (.s (n).text)],oR 8 52 5 (aE (midW (fun x:bA=>cK n.frm n.num x.frm x.num) n (l.take 0)))]) [] [] (⟨0,rfl,aV5 _,rfl⟩) ?_
   repeat' apply ai
   all_goals first|exact qx|rfl|(simp[midW];done)|exact qz
 rintro n s ⟨i,rfl,hi,rfl⟩
 refine sq (sq (rT [0,3,5,6,7,12] (s4 (cd rfl (fun c12=> ?_) fun c12=> ?_))))
 · have hi2:i<l.length:=by simpa[aD] using c12
   have hg:=aT (l:=l) hi2
   refine sk (sq (bk (sq (sq (rD [0,3,5,6,7,33] (s3 (y4 (y2 (ai (fun h=>(by have h9:=hi2;rw[aVy,aT h9];exact⟨⟨by omega,by rw[aD];omega⟩,rfl⟩)) (ai rk (y1 (ai (fun h=>(by have h9:=hi2;rw[aVy,aT h9];exact⟨aV0 rfl,rfl⟩)) (ai rk (y2 (ai (fun h=>(by have h9:=hi2;rw[aVy,aT h9];exact⟨⟨by omega,by rw[aD];omega⟩,rfl⟩)) (ai rk (y1 (ai (fun h=>(by have h9:=hi2;rw[aVy,aT h9];exact⟨aV0 rfl,rfl⟩)) (ai rk (xc (fun h=>(qS _ _ _ _)) (ai rfl (ai rk ?_))))))))))))))))))))))
   refine ai pk (ai (by kernel_rfl) (cd rfl (fun c33=> ?_) fun c33=> ?_))
   · have h9:=c33
     rw[aVy,hg] at h9
     rw[aV1] at h9
     have hq: (l.take i).any (fun x:bA=>cK n.frm n.num x.frm x.num)=false∧cK n.frm n.num (l.getD i .zero).frm (l.getD i .zero).num=true:=⟨by simpa only[Bool.not_eq_true'] using h9.1,h9.2⟩
     have hm:=aEu (q:=(fun x:bA=>cK n.frm n.num x.frm x.num)) (n:=n) (x:=l.getD i .zero) hq.1 hq.2
     rw[← fB hi2] at hm
     have ha: (l.take (i+1)).any (fun x:bA=>cK n.frm n.num x.frm x.num)=true:=by rw[fB (z:=bA.zero) hi2,jw,hq.1];exact hq.2
     refine sq (rT [0,3,5,7] (s2 (ai (by exact⟨by simp,aV0 rfl⟩) (ai (by exact⟨by first|trivial|rfl|(simp;done),by first|rfl|(simp;done),by first|(simp;done)|(intro r hr;rw[aWg.1 hr];rfl),by(try simp only[aVz,aV3,aV2]);have hm:=zU (l:=l) (i:=i) (n:=n);show _*48≤_;omega⟩) (s1 (rT [0,3,5,6,7] (s1 (rT [0,3,5,6,7] (s3 (ai (by have h9:=hi2;rw[aVy,aT h9];exact⟨⟨by omega,by rw[aD];omega⟩,rfl⟩) (ai (by have h9:=hi2;rw[aVy,aT h9];exact⟨aV0 rfl,rfl⟩) (ai (by exact⟨by simp,aV0 rfl⟩) (ai (by exact⟨by first|trivial|rfl|(simp;done),by first|rfl|(simp;done),by first|(simp;done)|(intro r hr;rw[aWg.1 hr];rfl),by(try simp only[aVz,aV3,aV2]);have hm:=zU (l:=l) (i:=i) (n:=n);show _*48≤_;omega⟩) (s1 (rT [0,3,5,6,7] (s3 (wq [] [] (⟨l.length - (i+1),by omega,i+1,rfl,by omega,rfl⟩) ?_)))))))))))))))))
     repeat' apply ai
     all_goals first|exact qx|exact congrArg D.i (by rw[aB (by omega)];omega)|(rw[ha];done)|exact congrArg D.b ha.symm|(rw[hm];simp[aE,aVy];done)|(rw[hm,aVy,hg];simp only[aE,List.map_append,List.map_cons,List.map_nil];rfl)|exact qz
   have h9:=c33
   rw[aVy,hg] at h9
   have hq: (l.take i).any (fun x:bA=>cK n.frm n.num x.frm x.num)=true∨cK n.frm n.num (l.getD i .zero).frm (l.getD i .zero).num=false:=by
    cases h: (l.take i).any (fun x:bA=>cK n.frm n.num x.frm x.num) with
    |true=>exact .inl rfl
    |false=>rw[h] at h9;exact .inr h9
   have hm:=aI1 (q:=(fun x:bA=>cK n.frm n.num x.frm x.num)) (n:=n) (x:=l.getD i .zero) hq
   rw[← fB hi2] at hm
   have ha: (l.take (i+1)).any (fun x:bA=>cK n.frm n.num x.frm x.num)=(l.take i).any (fun x:bA=>cK n.frm n.num x.frm x.num):=by
    rw[fB (z:=bA.zero) hi2,jw]
    rcases hq with h|h
    · rw[h];rfl
    · show((l.take i).any (fun x:bA=>cK n.frm n.num x.frm x.num)||(cK n.frm n.num (l.getD i .zero).frm (l.getD i .zero).num))=_
      rw[h,Bool.or_false]
   refine sk (rT [0,3,5,6,7] (s3 (ai (by have h9:=hi2;rw[aVy,aT h9];exact⟨⟨by omega,by rw[aD];omega⟩,rfl⟩) (ai (by have h9:=hi2;rw[aVy,aT h9];exact⟨aV0 rfl,rfl⟩) (ai (by exact⟨by simp,aV0 rfl⟩) (ai (by exact⟨by first|trivial|rfl|(simp;done),by first|rfl|(simp;done),by first|(simp;done)|(intro r hr;rw[aWg.1 hr];rfl),by(try simp only[aVz,aV3,aV2]);have hm:=zU (l:=l) (i:=i) (n:=n);show _*48≤_;omega⟩) (s1 (rT [0,3,5,6,7] (s3 (wq [] [] (⟨l.length - (i+1),by omega,i+1,rfl,by omega,rfl⟩) ?_))))))))))
   repeat' apply ai
   all_goals first|exact qx|exact congrArg D.i (by rw[aB (by omega)];omega)|(rw[ha];done)|exact congrArg D.b ha.symm|(rw[hm];simp[aE,aVy];done)|(rw[hm,aVy,hg];simp only[aE,List.map_append,List.map_cons,List.map_nil];rfl)|exact qz
 have hi3:i=l.length:=by simp[aD] at c12;omega
 subst hi3
 refine xt (sq (sq (rT [3,5,46] (s2 (cd rfl (fun c46=> ?_) fun c46=> ?_)))))
 · have he: (l.take l.length).any (fun x:bA=>cK n.frm n.num x.frm x.num)=false:=by simpa using c46
   refine rT [5] (s2 (ai (by exact⟨by simp,aV0 rfl⟩) (ai (by exact⟨by first|trivial|rfl|(simp;done),by first|rfl|(simp;done),by first|(simp;done)|(intro r hr;rw[aWg.1 hr];rfl),by(try simp only[aVz,aV3,aV2]);have hm:=zU (l:=l) (i:=l.length) (n:=n);show _*48≤_;omega⟩) (s1 (sq (rT [4] (s2 (rt (dQ _ [] [8] rfl (eD rfl rfl rfl ?_ (congrArg D.sl ?_) trivial) rfl rfl)))))))))
   · rfl
   rw[aWd] at he ⊢; rw[zB,jx,he];simp[aE,bA.row]
 have he: (l.take l.length).any (fun x:bA=>cK n.frm n.num x.frm x.num)=true:=by simpa using c46
 refine sk (sq (rT [4] (s2 (rt (dQ _ [] [8] rfl (eD rfl rfl rfl ?_ (congrArg D.sl ?_) trivial) rfl rfl)))))
 · rfl
 rw[aWd] at he ⊢; rw[zB,jx,he];simp[aE,bA.row]
theorem xB (l:List cM) (n:cM) (hl:l.length≤100000):Sp 250 2 [tD 0 (.sl (aQ l)),tV 1 n.V] [tD 0 (.sl (aQ (tE l n)))]:=by
 refine sb Tryz.func250 rfl (sq (rT [0,3] (s2 (sq (rT [0,3,5] (s1 (sq (bk (SW.loopW (n:=l.length) (fun m q=> ∃i:Nat,m=l.length - i∧i≤l.length∧(∀j,j<i→cK (l.getD j .zero).frm (l.getD j .zero).num n.frm n.num=true)∧q=[tD 0 (.sl (aQ l)),tP 3 3,tI 5 (i:Nat),oB 3 162 [.d (.i (n).frm),.d (.i (n).num),.d (.i (n).til)]]) ?_ ?_)))))))))
 · exact wq (σ':=[tD 0 (.sl (aQ l)),tP 3 3,tI 5 (0:Nat),oB 3 162 [.d (.i (n).frm),.d (.i (n).num),.d (.i (n).til)]]) [] [] (⟨0,rfl,aV5 _,fun j h=>absurd h (by omega),rfl⟩) qz
 rintro n s ⟨i,rfl,hi,hk,rfl⟩
 refine sq (sq (rD [0,3,5,26] (s5 (y2 (ai (fun h=>(by have h8:=h;simp[gb,aO] at h8;have h9:i<l.length:=(by omega);rw[aVy,cA h9];exact⟨⟨by omega,by rw[aO];omega⟩,rfl⟩)) (ai rk (y1 (ai (fun h=>(by have h8:=h;simp[gb,aO] at h8;have h9:i<l.length:=(by omega);rw[aVy,cA h9];exact⟨aV0 rfl,rfl⟩)) (ai rk (y2 (ai (fun h=>(by have h8:=h;simp[gb,aO] at h8;have h9:i<l.length:=(by omega);rw[aVy,cA h9];exact⟨⟨by omega,by rw[aO];omega⟩,rfl⟩)) (ai rk (y1 (ai (fun h=>(by have h8:=h;simp[gb,aO] at h8;have h9:i<l.length:=(by omega);rw[aVy,cA h9];exact⟨aV0 rfl,rfl⟩)) (ai rk (y4 (xc (fun h=>(sF _ _ _ _)) (ai rfl (ai rk ?_)))))))))))))))))))
 refine ai pk (ai (by kernel_rfl) (cd rfl (fun c26=> ?_) fun c26=> ?_))
 · have h9:=c26
   simp only[aV1,decide_eq_true_eq,aO] at h9
   have hi2:i<l.length:=by omega
   have hb:cK (l.getD i .zero).frm (l.getD i .zero).num n.frm n.num=true:=by
    have h10:=h9.2
    rw[aVy,cA hi2] at h10
    exact h10
   refine sk (bk (rT [0,3,5] (s3 (wq [] [] (⟨l.length - (i+1),by omega,i+1,rfl,by omega,fun j h=>by by_cases e:j=i;exact e▸hb;exact hk j (by omega),rfl⟩) ?_))))
   repeat' apply ai
   all_goals first|exact qx|exact congrArg D.i (aB (by omega))|exact qz
 have hend:i=l.length∨cK (l.getD i .zero).frm (l.getD i .zero).num n.frm n.num=false:=by
  by_cases h:i<l.length
  · right
    have h9:=c26
    rw[decide_eq_true (show((i:Nat):Int)< ((aQ l).length:Int) by rw[aO];omega),Bool.true_and,aVy,cA h] at h9
    exact h9
  · left;omega
 have hins:tE l n=_:=aI0 (z:=cM.zero) (p:=fun x=>cK x.frm x.num n.frm n.num) (n:=n) hi hk hend
 refine xt (sq (rD [4] (ai (by simp) (s2 (ai (by exact⟨by rw[aO];exact⟨by first|(simp;done)|(simp;omega),by first|(simp;done)|(simp;omega),by first|(simp;done)|(simp;omega)⟩,kX _⟩) (ai (by exact⟨by first|trivial|rfl|(simp;done),by first|rfl|(simp[aO];done),by first|exact zC l _ _|(simp;done),by(try simp only[aVz,aV3,aV2,aV4,aV7,aO,jA,jB,jC,jD]);show _*24≤_;omega⟩) (s1 (ai (by exact⟨by simp,aV0 rfl⟩) (ai (by exact⟨by first|trivial|rfl|(simp;done),by first|rfl|(simp[aO];done),by first|exact zC l _ _|(simp;done),by(try simp only[aVz,aV3,aV2,aV4,aV7,aO,jA,jB,jC,jD]);show _*24≤_;omega⟩) (s2 (ai (by exact⟨by rw[aO];exact⟨by first|(simp;done)|(simp;omega),by first|(simp;done)|(simp;omega),by first|(simp;done)|(simp;omega)⟩,kX _⟩) (ai (by exact⟨by first|trivial|rfl|(simp;done),by first|rfl|(simp[aO];done),by first|exact zC l _ _|(simp;done),by(try simp only[aVz,aV3,aV2,aV4,aV7,aO,jA,jB,jC,jD]);show _*24≤_;omega⟩) (s1 (ai (by kernel_rfl) (rt (dQ _ [] [29] rfl (eD rfl rfl rfl ?_ (congrArg D.sl ?_) trivial) rfl rfl))))))))))))))))
 · rfl
 rw[hins,vK,zD];simp[aQ,List.map_take,List.map_drop,cM.row]
theorem zV {l:List cM} {i:Nat} {n:cM}: (aQ (midW (fun x:cM=>cK n.frm n.num x.frm x.num) n (l.take i))).length≤l.length+1:=by
 rw[aO,midW]
 split
 · rw[fJ,aV4];omega
 rw[aV4];omega
theorem qT (l:List cM) (n:cM) (hl:l.length≤100000):Sp 236 2 [tD 0 (.sl (aQ l)),tV 1 n.V] [tD 0 (.sl (aQ (nZ l n)))]:=by
 refine sb Tryz.func236 rfl (sq (rT [0,3] (s2 (sq (rT [0,3,5] (ai (by simp) (s1 (sq (rT [0,3,5,6] (s1 (sq (sq (rT [0,3,5,6,7] (s1 (bk (SW.loopW (n:=l.length) (fun m q=> ∃i:Nat,m=l.length - i∧i≤l.length∧q=[tD 0 (.sl (aQ l)),tP 3 3,tO 5 8 (aQ (midW (fun x:cM=>cK n.frm n.num x.frm x.num) n (l.take i))).length,tB 6 ((l.take i).any (fun x:cM=>cK n.frm n.num x.frm x.num)),tI 7 (i:Nat),oB 3 162 [.d (.i (n).frm),.d (.i (n).num),.d (.i (n).til)],oR 8 162 3 (aQ (midW (fun x:cM=>cK n.frm n.num x.frm x.num) n (l.take i)))]) ?_ ?_))))))))))))))))
 · refine wq (σ':=[tD 0 (.sl (aQ l)),tP 3 3,tO 5 8 (aQ (midW (fun x:cM=>cK n.frm n.num x.frm x.num) n (l.take 0))).length,tB 6 ((l.take 0).any (fun x:cM=>cK n.frm n.num x.frm x.num)),tI 7 (0:Nat),oB 3 162 [.d (.i (n).frm),.d (.i (n).num),.d (.i (n).til)],oR 8 162 3 (aQ (midW (fun x:cM=>cK n.frm n.num x.frm x.num) n (l.take 0)))]) [] [] (⟨0,rfl,aV5 _,rfl⟩) ?_
   repeat' apply ai
   all_goals first|exact qx|rfl|(simp[midW];done)|exact qz
 rintro n s ⟨i,rfl,hi,rfl⟩
 refine sq (sq (rT [0,3,5,6,7,12] (s4 (cd rfl (fun c12=> ?_) fun c12=> ?_))))
 · have hi2:i<l.length:=by simpa[aO] using c12
   have hg:=cA (l:=l) hi2
   refine sk (sq (bk (sq (sq (rD [0,3,5,6,7,33] (s3 (y4 (y2 (ai (fun h=>(by have h9:=hi2;rw[aVy,cA h9];exact⟨⟨by omega,by rw[aO];omega⟩,rfl⟩)) (ai rk (y1 (ai (fun h=>(by have h9:=hi2;rw[aVy,cA h9];exact⟨aV0 rfl,rfl⟩)) (ai rk (y2 (ai (fun h=>(by have h9:=hi2;rw[aVy,cA h9];exact⟨⟨by omega,by rw[aO];omega⟩,rfl⟩)) (ai rk (y1 (ai (fun h=>(by have h9:=hi2;rw[aVy,cA h9];exact⟨aV0 rfl,rfl⟩)) (ai rk (xc (fun h=>(qS _ _ _ _)) (ai rfl (ai rk ?_))))))))))))))))))))))
   refine ai pk (ai (by kernel_rfl) (cd rfl (fun c33=> ?_) fun c33=> ?_))
   · have h9:=c33
     rw[aVy,hg] at h9
     rw[aV1] at h9
     have hq: (l.take i).any (fun x:cM=>cK n.frm n.num x.frm x.num)=false∧cK n.frm n.num (l.getD i .zero).frm (l.getD i .zero).num=true:=⟨by simpa only[Bool.not_eq_true'] using h9.1,h9.2⟩
     have hm:=aEu (q:=(fun x:cM=>cK n.frm n.num x.frm x.num)) (n:=n) (x:=l.getD i .zero) hq.1 hq.2
     rw[← fB hi2] at hm
     have ha: (l.take (i+1)).any (fun x:cM=>cK n.frm n.num x.frm x.num)=true:=by rw[fB (z:=cM.zero) hi2,jw,hq.1];exact hq.2
     refine sq (rT [0,3,5,7] (s2 (ai (by exact⟨by simp,aV0 rfl⟩) (ai (by exact⟨by first|trivial|rfl|(simp;done),by first|rfl|(simp;done),by first|(simp;done)|(intro r hr;rw[aWg.1 hr];rfl),by(try simp only[aVz,aV3,aV2]);have hm:=zV (l:=l) (i:=i) (n:=n);show _*24≤_;omega⟩) (s1 (rT [0,3,5,6,7] (s1 (rT [0,3,5,6,7] (s3 (ai (by have h9:=hi2;rw[aVy,cA h9];exact⟨⟨by omega,by rw[aO];omega⟩,rfl⟩) (ai (by have h9:=hi2;rw[aVy,cA h9];exact⟨aV0 rfl,rfl⟩) (ai (by exact⟨by simp,aV0 rfl⟩) (ai (by exact⟨by first|trivial|rfl|(simp;done),by first|rfl|(simp;done),by first|(simp;done)|(intro r hr;rw[aWg.1 hr];rfl),by(try simp only[aVz,aV3,aV2]);have hm:=zV (l:=l) (i:=i) (n:=n);show _*24≤_;omega⟩) (s1 (rT [0,3,5,6,7] (s3 (wq [] [] (⟨l.length - (i+1),by omega,i+1,rfl,by omega,rfl⟩) ?_)))))))))))))))))
     repeat' apply ai
     all_goals first|exact qx|exact congrArg D.i (by rw[aB (by omega)];omega)|(rw[ha];done)|exact congrArg D.b ha.symm|(rw[hm];simp[aQ,aVy];done)|(rw[hm,aVy,hg];simp only[aQ,List.map_append,List.map_cons,List.map_nil];rfl)|exact qz
   have h9:=c33
   rw[aVy,hg] at h9
   have hq: (l.take i).any (fun x:cM=>cK n.frm n.num x.frm x.num)=true∨cK n.frm n.num (l.getD i .zero).frm (l.getD i .zero).num=false:=by
    cases h: (l.take i).any (fun x:cM=>cK n.frm n.num x.frm x.num) with
    |true=>exact .inl rfl
    |false=>rw[h] at h9;exact .inr h9
   have hm:=aI1 (q:=(fun x:cM=>cK n.frm n.num x.frm x.num)) (n:=n) (x:=l.getD i .zero) hq
   rw[← fB hi2] at hm
   have ha: (l.take (i+1)).any (fun x:cM=>cK n.frm n.num x.frm x.num)=(l.take i).any (fun x:cM=>cK n.frm n.num x.frm x.num):=by
    rw[fB (z:=cM.zero) hi2,jw]
    rcases hq with h|h
    · rw[h];rfl
    · show((l.take i).any (fun x:cM=>cK n.frm n.num x.frm x.num)||(cK n.frm n.num (l.getD i .zero).frm (l.getD i .zero).num))=_
      rw[h,Bool.or_false]
   refine sk (rT [0,3,5,6,7] (s3 (ai (by have h9:=hi2;rw[aVy,cA h9];exact⟨⟨by omega,by rw[aO];omega⟩,rfl⟩) (ai (by have h9:=hi2;rw[aVy,cA h9];exact⟨aV0 rfl,rfl⟩) (ai (by exact⟨by simp,aV0 rfl⟩) (ai (by exact⟨by first|trivial|rfl|(simp;done),by first|rfl|(simp;done),by first|(simp;done)|(intro r hr;rw[aWg.1 hr];rfl),by(try simp only[aVz,aV3,aV2]);have hm:=zV (l:=l) (i:=i) (n:=n);show _*24≤_;omega⟩) (s1 (rT [0,3,5,6,7] (s3 (wq [] [] (⟨l.length - (i+1),by omega,i+1,rfl,by omega,rfl⟩) ?_))))))))))
   repeat' apply ai
   all_goals first|exact qx|exact congrArg D.i (by rw[aB (by omega)];omega)|(rw[ha];done)|exact congrArg D.b ha.symm|(rw[hm];simp[aQ,aVy];done)|(rw[hm,aVy,hg];simp only[aQ,List.map_append,List.map_cons,List.map_nil];rfl)|exact qz
 have hi3:i=l.length:=by simp[aO] at c12;omega
 subst hi3
 refine xt (sq (sq (rT [3,5,46] (s2 (cd rfl (fun c46=> ?_) fun c46=> ?_)))))
 · have he: (l.take l.length).any (fun x:cM=>cK n.frm n.num x.frm x.num)=false:=by simpa using c46
   refine rT [5] (s2 (ai (by exact⟨by simp,aV0 rfl⟩) (ai (by exact⟨by first|trivial|rfl|(simp;done),by first|rfl|(simp;done),by first|(simp;done)|(intro r hr;rw[aWg.1 hr];rfl),by(try simp only[aVz,aV3,aV2]);have hm:=zV (l:=l) (i:=l.length) (n:=n);show _*24≤_;omega⟩) (s1 (sq (rT [4] (s2 (rt (dQ _ [] [8] rfl (eD rfl rfl rfl ?_ (congrArg D.sl ?_) trivial) rfl rfl)))))))))
   · rfl
   rw[aWd] at he ⊢; rw[vJ,jx,he];simp[aQ,cM.row]
 have he: (l.take l.length).any (fun x:cM=>cK n.frm n.num x.frm x.num)=true:=by simpa using c46
 refine sk (sq (rT [4] (s2 (rt (dQ _ [] [8] rfl (eD rfl rfl rfl ?_ (congrArg D.sl ?_) trivial) rfl rfl)))))
 · rfl
 rw[aWd] at he ⊢; rw[vJ,jx,he];simp[aQ,cM.row]
end Go.Proofs.YtmabaopgkimfmaaGreatDoor
