/- Plain functions, and contracts of the functions that the law reaches. -/
import Derived.Deep.Slices
import Derived.WideShapes
import GoSem.ClaimJoined
import Derived.Shelf.Utf8.RuneCount
import Derived.Shelf.Strconv.Itoa0
import Derived.Shelf.Strconv.Itoa1
import Derived.Shelf.LaysM
import Derived.Shelf.Strconv.Itoa2
import Derived.Shelf.Strconv.Itoa3
import Derived.Shelf.Strings.Search1
import Derived.Shelf.Strings.Search2
import Derived.Shelf.Strings.Search3
import Derived.Shelf.Strings.Cut
import Derived.Shelf.Strings.Count
import Derived.Shelf.Strings.Split
import Derived.Test.YtmabaopgkimfmaaGreatDoorProg
import Derived.Test.YtmabaopgkimfmaaGreatDoorB1
set_option maxHeartbeats 12800000
namespace Go.Ab
open Int renaming toNat_natCast→aVr
open Nat renaming le_of_ble_eq_true→aVs,zero_le→aVv,le_refl→aVz
open List renaming length_append→aVt,length_cons→aVw,length_nil→aVx,getD_eq_getElem?_getD→aVy,length_take→aV0,getElem?_eq_getElem→aV1,getElem?_eq_some_iff→aV2,take_length→aV3,length_drop→aV4,mem_map→aV5,mem_cons→aV6,range→aV7,all_eq_true→aV8,length_set→aV9,mem_singleton→aWa,replicate→aWb
open Bool renaming and_eq_true→aVu,or_eq_true→aWc
open Go Go.RowKit
set_option linter.unusedVariables false
set_option linter.unusedSimpArgs false
theorem aBe {b:Int} (hb:1≤b∧b≤6) {m:cU} {c:Bool} (h: (!gT m.num 0 999||((m.data.length:Int) != 4))=c):oV b m= !c:=by
 subst h
 unfold oV oC
 rw[show gT b 1 6=true by simp[gT];omega,Bool.true_and,aPy (j:=4) m.data.length 4 rfl]
 cases gT m.num 0 999<;>cases hq: (m.data.length==4)<;>simp_all
def sW (kn:List (List UInt8)) (i:Nat):List UInt8:=(kn.take i).flatten
theorem zT {kn:List (List UInt8)} {i:Nat} (h:i<kn.length):sW kn (i+1)=sW kn i++kn.getD i []:=by
 unfold sW
 rw[dH (z:=([]:List UInt8)) h,List.flatten_append]
 simp
theorem vp {kn:List (List UInt8)} (h: ∀x∈kn,x.length=0∨x.length=4): ∀{i:Nat},(sW kn i).length≤4*i
 |0=>by simp[sW]
 |i+1=>by
  have ih:=vp h (i:=i)
  by_cases hi:i<kn.length
  · rw[zT hi,aVt]
    have:=h _ (cM (z:=([]:List UInt8)) hi)
    omega
  · have e:sW kn (i+1)=sW kn i:=by unfold sW;rw[List.take_of_length_le (by omega),List.take_of_length_le (by omega)]
    rw[e];omega
theorem vt {kn:List (List UInt8)} (h: ∀x∈kn,x.length=0∨x.length=4): ∀{i:Nat},i≤kn.length→(∀j,j<i→(kn.getD j []).length≠0)→(sW kn i).length=4*i
 |0,_,_=>by simp[sW]
 |i+1,hi,hj=>by
  have ih:=vt h (i:=i) (by omega) (fun j hj2=>hj j (by omega))
  rw[zT (by omega),aVt,ih]
  have h1:=h _ (cM (z:=([]:List UInt8)) (i:=i) (show i<kn.length by omega))
  have h2:=hj i (by omega)
  omega
theorem ec (kn:List (List UInt8)):sW kn kn.length=jU kn:=by unfold sW jU;rw[aV3]
theorem fb {kn:List (List UInt8)} {i:Nat} (h:i<kn.length) (he:kn.getD i []=[]):kn.any (·.isEmpty)=true:=by
 rw[List.any_eq_true]
 exact⟨_,cM (z:=([]:List UInt8)) h,by rw[he];rfl⟩
theorem kl {kn:List (List UInt8)} (h: ∀j,j<kn.length→(kn.getD j []).length≠0):kn.any (·.isEmpty)=false:=by
 rw[← Bool.not_eq_true,List.any_eq_true]
 rintro⟨x,hx,he⟩
 obtain⟨i,hi⟩:=List.mem_iff_getElem?.1 hx
 have hlt:=(aV2.1 hi).1
 have:=h i hlt
 rw[aVy,hi] at this
 have e:x=[]:=by simpa using he
 rw[e] at this;exact this rfl
theorem km {l:List UInt8} {n i:Nat} (h1:n≤i) (h2:i<l.length) (h:l.getD i 0≠0): (l.drop n).any (· != 0)=true:=by
 rw[List.any_eq_true]
 refine⟨l.getD i 0,?_,by simpa using h⟩
 rw[List.mem_iff_getElem?]
 exact⟨i - n,by rw[List.getElem?_drop,show n+(i - n)=i by omega,aVy,aV1 h2];rfl⟩
theorem pv {l:List UInt8} {n:Nat} (h: ∀i,n≤i→i<l.length→l.getD i 0=0): (l.drop n).any (· != 0)=false:=by
 rw[← Bool.not_eq_true,List.any_eq_true]
 rintro⟨x,hx,he⟩
 obtain⟨i,hi⟩:=List.mem_iff_getElem?.1 hx
 rw[List.getElem?_drop] at hi
 have hlt:=(aV2.1 hi).1
 have:=h (n+i) (by omega) hlt
 rw[aVy,hi] at this
 have e:x=0:=this
 rw[e] at he;cases he
theorem pw {size:Int} {l:List cU} (h: ¬gT size 1 24=true):cF size l=([],false):=aB h
theorem ko {size:Int} {l:List cU} (h:gT size 1 24=true) (h2: (bS ((size+3) / 4) l).any (·.isEmpty)=true):cF size l=([],false):=by
 unfold cF;rw[aC h,aC h2]
theorem kp {size:Int} {l:List cU} (h:gT size 1 24=true) (h2: (bS ((size+3) / 4) l).any (·.isEmpty)=false) (h3: ((jU (bS ((size+3) / 4) l)).drop size.toNat).any (· != 0)=true):cF size l=([],false):=by
 unfold cF;rw[aC h,aB (by rw[h2];exact Bool.false_ne_true),aC h3]
theorem px {size:Int} {l:List cU} (h:gT size 1 24=true) (h2: (bS ((size+3) / 4) l).any (·.isEmpty)=false) (h3: ((jU (bS ((size+3) / 4) l)).drop size.toNat).any (· != 0)=false):cF size l=((jU (bS ((size+3) / 4) l)).take size.toNat,true):=by
 unfold cF;rw[aC h,aB (by rw[h2];exact Bool.false_ne_true),aB (by rw[h3];exact Bool.false_ne_true)]
def aZ (l:List bH):List (List D):=l.map bH.row
theorem cE (l:List bH): (aZ l).length=l.length:=by simp[aZ]
def yA (kind:Int) (f:bH):bH:=⟨kind,f.dst,f.src,f.frm,f.num,f.to,f.til,0,0,[]⟩
def mO (f:bH):bB:=⟨f.frm,f.num,f.to,f.til,f.size,[]⟩
def jG (l:List cU):List cU:=if 14≤l.length then l.drop 1 else l
def hF (l:List cU) (m:cU):List cU:=jG (l.filter fun x=> !(x.num==m.num))++[m]
def dI (l:List bB):List bB:=if 3≤l.length then l.drop 1 else l
def cZ (l:List bB) (f:bH):List bB×Nat:=
 if fD l f.frm f.num<0 then(dI l++[mO f],(dI l).length) else(l,(fD l f.frm f.num).toNat)
def bK (l:List bB) (f:bH):bB:=(cZ l f).1.getD (cZ l f).2 .zero
def kD (h:bB) (f:bH):Bool:=h.to==f.to&&h.til==f.til&&h.size==f.size
def fE (h:bB) (f:bH):bB:={h with got:=hF h.got ⟨f.mix,f.data⟩}
def bT (l:List bB) (f:bH):List bB×Int:=
 if kD (bK l f) f then((cZ l f).1.set (cZ l f).2 (fE (bK l f) f),(cZ l f).2) else((cZ l f).1,-1)
def cC (k:aT) (l:List bB):aT:={k with halves:=l}
def cN (f:bH) (text:List UInt8):bA:=⟨f.frm,f.num,f.to,f.til,text⟩
def kT (k:aT) (f:bH) (l:List bB) (i:Nat):aT×List bH:=
 let x:=cF f.size (l.getD i .zero).got
 if x.2 then
  let k2:=cC k (eG l i)
  let r:=eI k2 (cY dF (cN f x.1)) true
  if fN (cN f x.1)=[] then(k2,[]) else(r.1,if r.2 then [yA 2 f] else [])
 else(cC k l,[])
def cA (k:aT) (f:bH):aT×List bH:=
 if f.til≤(bM k).1.time then(k,[yA 3 f]) else
 if 0≤aW (bM k).1.held f.frm f.num∨0≤fM (bM k).1.marks f.frm f.num then(jT k,[yA 2 f]) else
 if f.frm=k.id∨ ¬oC ((f.size+3) / 4) f.mix=true then(k,[]) else
 if(bT k.halves f).2<0 then(cC k (bT k.halves f).1,[]) else kT k f (bT k.halves f).1 (bT k.halves f).2.toNat
def qU (f:bH):List UInt8:=jE kV ⟨f.frm,f.num,f.til⟩
def tL (k:aT) (f:bH):Bool:=
 f.kind==2&&decide (0≤aW (bM k).1.held f.frm f.num)&&((bM k).1.held.getD (aW (bM k).1.held f.frm f.num).toNat .zero).til==f.til&&((bM k).1.held.getD (aW (bM k).1.held f.frm f.num).toNat .zero).to==f.to
def aS (k:aT) (f:bH):aT×List bH:=
 if bL k then
  (if k.up&&dV f&&f.dst==k.id then
   (if f.kind=1 then cA k f else if tL k f then((eI k (qU f) false).1,[]) else(k,[]))
  else(k,[]))
 else(.zero,[])
theorem aC1 {l:List bB} {i:Nat} {h:bB} (hi:i<l.length): (aP l).set i (cT ((aP l).getD i []) 0 h.row)=aP (l.set i h):=by
 rw[dG hi]
 have:cT ((l.getD i .zero).row) 0 h.row=h.row:=rfl
 rw[this]
 simp[aP,List.map_set]
theorem wD {l:List bB} {f:bH} (h:fD l f.frm f.num<0):cZ l f=(dI l++[mO f],(dI l).length):=aC h
theorem zU {l:List bB} {f:bH} (h: ¬fD l f.frm f.num<0):cZ l f=(l,(fD l f.frm f.num).toNat):=aB h
theorem zV (l:List bB) (h:l.length≤3): (dI l).length≤2:=by
 unfold dI
 split
 · rw[aV4];omega
 · omega
theorem gx {l:List bB} {f:bH} (hl:l.length≤3): (cZ l f).2< (cZ l f).1.length∧(cZ l f).1.length≤3:=by
 unfold cZ
 split
 · have:=zV l hl
   simp;omega
 · rename_i h
   have:=aKh l f.frm f.num
   simp;omega
theorem zW {l:List bB} {f:bH} (h: ¬kD (bK l f) f=true):bT l f=((cZ l f).1,-1):=aB h
theorem wE {l:List bB} {f:bH} (h:kD (bK l f) f=true):bT l f=((cZ l f).1.set (cZ l f).2 (fE (bK l f) f),(((cZ l f).2:Nat):Int)):=aC h
theorem kr {l:List bB} {f:bH} (h: ∀x∈l,x.got.length≤14): (bK l f).got.length≤14:=by
 unfold bK
 by_cases hm: (cZ l f).2< (cZ l f).1.length
 · have h1: (cZ l f).1.getD (cZ l f).2 .zero∈(cZ l f).1:=cM hm
   generalize (cZ l f).1.getD (cZ l f).2 .zero=y at h1
   unfold cZ at h1
   split at h1
   · rcases List.mem_append.1 h1 with h1|h1
     · unfold dI at h1
       split at h1
       · exact h y (List.mem_of_mem_drop h1)
       · exact h y h1
     · rw[aWa.1 h1];exact aVv _
   · exact h y h1
 · rw[aVy,List.getElem?_eq_none (by omega)];exact aVv _
def dQ (l:List cU) (n:Int):List cU:=l.filter fun x=> !(x.num==n)
theorem py {l:List cU} {n:Int} {m:cU} (h: (m.num != n)=true):dQ (l++[m]) n=dQ l n++[m]:=by
 have h: (!(m.num==n))=true:=h
 simp[dQ,List.filter_append,List.filter_cons,h]
theorem vu {l:List cU} {n:Int} {m:cU} (h: (m.num != n)=false):dQ (l++[m]) n=dQ l n:=by
 have h: (!(m.num==n))=false:=h
 simp[dQ,List.filter_append,List.filter_cons,h]
theorem vI (l:List cU) (n:Int): (dQ l n).length≤l.length:=List.length_filter_le _ _
def GOk (l:List cU):Prop:=(∀m∈l,vZ m=true)∧l.Pairwise fun a b=>a.num≠b.num
def HOk (l:List bB):Prop:=(∀h∈l,lH h=true)∧l.Pairwise fun a b=> ¬(a.frm=b.frm∧a.num=b.num)
theorem uP {n:Nat} {p:Nat→Bool}: (aV7 n).all p=true↔ ∀i,i<n→p i=true:=by
 rw[aV8]
 exact⟨fun h i hi=>h i (List.mem_range.2 hi),fun h i hi=>h i (List.mem_range.1 hi)⟩
theorem lY {α:Type} {l:List α} {i:Nat} {z:α} (h:i<l.length):l.getD i z=l[i]:=by
 rw[aVy,aV1 h];rfl
theorem aP0 (l:List cU): (aV7 l.length).all (nP l)=true↔GOk l:=by
 rw[uP]
 constructor
 · intro h
   refine⟨fun m hm=> ?_,List.pairwise_iff_getElem.2 fun i j hi hj hij=> ?_⟩
   · obtain⟨i,hi,rfl⟩:=List.mem_iff_getElem.1 hm
     have:=h i hi
     unfold nP at this
     rw[aVu,lY hi] at this
     exact this.1
   · have:=h j hj
     unfold nP at this
     rw[aVu,uP,lY hj] at this
     have:=this.2 i hij
     rw[lY hi] at this
     simpa using this
 · rintro⟨h1,h2⟩ i hi
   unfold nP
   rw[aVu,uP,lY hi]
   refine⟨h1 _ (List.getElem_mem hi),fun j hj=> ?_⟩
   rw[lY (by omega)]
   simpa using List.pairwise_iff_getElem.1 h2 j i (by omega) hi hj
theorem aFa (l:List bB): (aV7 l.length).all (gQ l)=true↔HOk l:=by
 rw[uP]
 constructor
 · intro h
   refine⟨fun m hm=> ?_,List.pairwise_iff_getElem.2 fun i j hi hj hij=> ?_⟩
   · obtain⟨i,hi,rfl⟩:=List.mem_iff_getElem.1 hm
     have:=h i hi
     unfold gQ at this
     rw[aVu,lY hi] at this
     exact this.1
   · have:=h j hj
     unfold gQ at this
     rw[aVu,uP,lY hj] at this
     have:=this.2 i hij
     unfold gR at this
     rw[lY hi] at this
     rintro⟨e1,e2⟩
     rw[e1,e2] at this
     simp at this
 · rintro⟨h1,h2⟩ i hi
   unfold gQ
   rw[aVu,uP,lY hi]
   refine⟨h1 _ (List.getElem_mem hi),fun j hj=> ?_⟩
   unfold gR
   rw[lY (by omega)]
   have h3:=List.pairwise_iff_getElem.1 h2 j i (by omega) hi hj
   cases hq: (l[j].frm==l[i].frm&&l[j].num==l[i].num) with
   |false=>rfl
   |true=>rw[aVu,beq_iff_eq,beq_iff_eq] at hq;exact absurd hq h3
theorem vJ (h:bB):lH h=true↔qP h=true∧GOk h.got:=by
 unfold lH
 rw[aVu,aP0]
theorem uE {k:aT} (h:bL k=true):HOk k.halves:=by
 unfold bL at h
 rw[aVu] at h
 exact(aFa _).1 h.2
theorem zX {k:aT} {l:List bB} (hok:bL k=true) (hu:k.up=true) (hl:l.length≤3) (h:HOk l):bL (cC k l)=true:=by
 have hl': ((l.length:Nat):Int)≤3:=by omega
 unfold bL iW at hok ⊢
 simp only[aVu] at hok ⊢
 obtain⟨⟨⟨⟨⟨⟨h1,h2⟩,h3⟩,h4⟩,h5⟩,h6⟩,h7⟩:=hok
 exact⟨⟨⟨⟨⟨⟨h1,h2⟩,decide_eq_true hl'⟩,by show(k.up||_)=true;rw[hu];rfl⟩,h5⟩,h6⟩,(aFa _).2 h⟩
theorem aIw {l l':List bB} (hs:l'.Sublist l) (h:HOk l):HOk l':=⟨fun x hx=>h.1 x (hs.subset hx),h.2.sublist hs⟩
theorem aKn {α:Type} (l:List α) (i:Nat): (eG l i).Sublist l:=by
 unfold eG
 have h1: (l.drop (i+1)).Sublist (l.drop i):=by
  rw[← List.drop_drop];exact List.drop_sublist _ _
 exact(List.Sublist.append (List.Sublist.refl _) h1).trans (by rw[List.take_append_drop];exact List.Sublist.refl _)
theorem rr {l:List bB} (h:HOk l) (i:Nat):HOk (eG l i):=aIw (aKn l i) h
theorem aP1 {l:List cU} {m:cU} (h:GOk l) (hm:vZ m=true) (hl:l.length≤14):GOk (hF l m)∧(hF l m).length≤14:=by
 have h1: (l.filter fun x=> !(x.num==m.num)).length≤l.length:=List.length_filter_le _ _
 have hsub: (jG (l.filter fun x=> !(x.num==m.num))).Sublist (l.filter fun x=> !(x.num==m.num)):=by
  unfold jG
  split
  · exact List.drop_sublist _ _
  · exact List.Sublist.refl _
 have hlen: (jG (l.filter fun x=> !(x.num==m.num))).length≤13:=by
  unfold jG
  split
  · rw[aV4];omega
  · omega
 refine⟨⟨fun x hx=> ?_,?_⟩,by unfold hF;simp;omega⟩
 · rcases List.mem_append.1 hx with hx|hx
   · exact h.1 x (List.mem_filter.1 (hsub.subset hx)).1
   · rw[aWa.1 hx];exact hm
 · unfold hF
   rw[List.pairwise_append]
   refine⟨(h.2.sublist List.filter_sublist).sublist hsub,by simp,fun a ha b hb=> ?_⟩
   rw[aWa.1 hb]
   have:=(List.mem_filter.1 (hsub.subset ha)).2
   simpa using this
theorem vK {f:bH} (hf:dV f=true) (hk:f.kind=1):qP (mO f)=true∧vZ ⟨f.mix,f.data⟩=true∧(1≤f.size∧f.size≤24)∧(0≤f.mix∧f.mix≤999)∧f.data.length=4:=by
 have h:=hf
 unfold dV at h
 rw[aC hk] at h
 simp only[aVu,aD] at h
 obtain⟨⟨⟨⟨⟨⟨h1,h2⟩,h3⟩,h4⟩,h5⟩,h6⟩,⟨⟨h7,h8⟩,h9⟩,h10⟩:=h
 have q7:1≤f.size∧f.size≤24:=by simpa[gT] using h7
 have q8:0≤f.mix∧f.mix≤999:=by simpa[gT] using h8
 refine⟨?_,?_,q7,q8,h9⟩
 · unfold qP mO
   simp only[h3,h4,h5,h6,h7,aVx];rfl
 · unfold vZ
   simp only[h8,h9];rfl
theorem aFb {l:List bB} {f n:Int} (h:fD l f n<0): ∀x∈l,¬(x.frm=f∧x.num=n):=by
 intro x hx ⟨e1,e2⟩
 obtain⟨i,hi,rfl⟩:=List.mem_iff_getElem.1 hx
 rcases gE (gR l f n) l.length 0 with h1|⟨k,h1,_⟩
 · have h2:gR l f n i=true:=by unfold gR;rw[lY hi,e1,e2];simp
   have: ∀(m j:Nat),kC (gR l f n) j m= -1→ ∀q,j≤q→q<j+m→gR l f n q=false:=by
    intro m
    induction m with
    |zero=>intro j _ q h3 h4;omega
    |succ m ih=>
     intro j hj q h3 h4
     unfold kC at hj
     split at hj
     · have: ((j:Nat):Int)= -1:=hj
       omega
     · rename_i hne
       by_cases e:q=j
       · subst e;simpa using hne
       · exact ih (j+1) hj q (by omega) (by omega)
   have:=this l.length 0 h1 i (aVv _) (by omega)
   rw[h2] at this;cases this
 · unfold fD at h;omega
theorem aHi {l:List bB} {f n:Int} (h: ¬fD l f n<0): (fD l f n).toNat<l.length∧(l.getD (fD l f n).toNat .zero).frm=f∧(l.getD (fD l f n).toNat .zero).num=n:=by
 rcases gE (gR l f n) l.length 0 with h1|⟨k,h1,h2,h3,h4,_⟩
 · exact absurd (show fD l f n<0 by unfold fD;omega) h
 · have e: (fD l f n).toNat=k:=by unfold fD;omega
   rw[e]
   unfold gR at h4
   rw[aVu,beq_iff_eq,beq_iff_eq] at h4
   exact⟨by omega,h4⟩
theorem aP2 {l:List bB} {f:bH} (h:HOk l) (hl:l.length≤3) (hf:dV f=true) (hk:f.kind=1):HOk (cZ l f).1:=by
 by_cases hn:fD l f.frm f.num<0
 · rw[wD hn]
   have hsub: (dI l).Sublist l:=by
    unfold dI
    split
    · exact List.drop_sublist _ _
    · exact List.Sublist.refl _
   have h2:=aIw hsub h
   refine⟨fun x hx=> ?_,?_⟩
   · rcases List.mem_append.1 hx with hx|hx
     · exact h2.1 x hx
     · rw[aWa.1 hx,vJ]
       exact⟨(vK hf hk).1,by simp[mO],by simp[mO]⟩
   · rw[List.pairwise_append]
     refine⟨h2.2,by simp,fun a ha b hb=> ?_⟩
     rw[aWa.1 hb]
     exact aFb hn a (hsub.subset ha)
 · rw[zU hn];exact h
theorem aTs {α:Type} {R:α→α→Prop} {l:List α} {i:Nat} {x:α} (h:l.Pairwise R) (hi:i<l.length) (h1: ∀y,R y l[i]→R y x) (h2: ∀y,R l[i] y→R x y): (l.set i x).Pairwise R:=by
 rw[List.pairwise_iff_getElem] at h ⊢
 intro a b ha hb hab
 simp only[aV9] at ha hb
 simp only[List.getElem_set]
 by_cases c1:i=a
 · by_cases c2:i=b
   · omega
   · rw[aC c1,aB c2]
     subst c1
     exact h2 _ (h i b ha hb hab)
 · by_cases c2:i=b
   · rw[aB c1,aC c2]
     subst c2
     exact h1 _ (h a i ha hb hab)
   · rw[aB c1,aB c2]
     exact h a b ha hb hab
theorem ru {l:List bB} {f:bH} (h:HOk l) (hl:l.length≤3) (hf:dV f=true) (hk:f.kind=1):HOk (bT l f).1∧(bT l f).1.length≤3:=by
 have hp:=aP2 h hl hf hk
 have hlt:=gx (f:=f) hl
 by_cases hfit:kD (bK l f) f=true
 · rw[wE hfit]
   have hh:bK l f=(cZ l f).1[(cZ l f).2]:=lY hlt.1
   have hok:=hp.1 _ (List.getElem_mem hlt.1)
   rw[← hh,vJ] at hok
   have hg:=aP1 hok.2 (vK hf hk).2.1 (kR hok.1).2.2.2.2.2
   refine⟨⟨fun x hx=> ?_,?_⟩,by simpa using hlt.2⟩
   · rcases List.mem_or_eq_of_mem_set hx with hx|rfl
     · exact hp.1 x hx
     · rw[vJ]
       refine⟨?_,hg.1⟩
       have h1:=hok.1
       unfold qP at h1 ⊢
       simp only[aVu] at h1 ⊢
       exact⟨h1.1,decide_eq_true (by have:=hg.2;show((hF (bK l f).got ⟨f.mix,f.data⟩).length:Int)≤14;omega)⟩
   · refine aTs hp.2 hlt.1 (fun y hy=> ?_) (fun y hy=> ?_)
     · rw[← hh] at hy;exact hy
     · rw[← hh] at hy;exact hy
 · rw[zW hfit]
   exact⟨hp,hlt.2⟩
theorem aHj {l:List bB} {f:bH} {i:Nat} (h: (bT l f).2=(i:Int)):i< (bT l f).1.length:=by
 by_cases hfit:kD (bK l f) f=true
 · rw[wE hfit] at h ⊢
   have h: (((cZ l f).2:Nat):Int)=(i:Int):=h
   have h2: (cZ l f).2< (cZ l f).1.length:=by
    by_cases hn:fD l f.frm f.num<0
    · rw[wD hn];simp
    · rw[zU hn];exact(aHi hn).1
   simp only[aV9];omega
 · rw[zW hfit] at h
   have h: (-1:Int)=(i:Int):=h
   omega
theorem pz (size:Int) (l:List cU): (cF size l).1.length≤size.toNat:=by
 unfold cF
 split
 · split
   · exact aVv _
   · split
     · exact aVv _
     · rw[aV0];omega
 · exact aVv _
section
variable {k:aT} {f:bH} {l:List bB} {i:Nat}
theorem kt (h: ¬(cF f.size (l.getD i .zero).got).2=true):kT k f l i=(cC k l,[]):=aB h
theorem ed (h: (cF f.size (l.getD i .zero).got).2=true) (he:fN (cN f (cF f.size (l.getD i .zero).got).1)=[]):kT k f l i=(cC k (eG l i),[]):=by
 rw[kT,aC h,aC he]
theorem zY (h: (cF f.size (l.getD i .zero).got).2=true) (he: ¬fN (cN f (cF f.size (l.getD i .zero).got).1)=[]) (hw: ¬(eI (cC k (eG l i)) (cY dF (cN f (cF f.size (l.getD i .zero).got).1)) true).2=true):
 kT k f l i=((eI (cC k (eG l i)) (cY dF (cN f (cF f.size (l.getD i .zero).got).1)) true).1,[]):=by
 rw[kT,aC h,aB he,aB hw]
theorem ku (h: (cF f.size (l.getD i .zero).got).2=true) (he: ¬fN (cN f (cF f.size (l.getD i .zero).got).1)=[]) (hw: (eI (cC k (eG l i)) (cY dF (cN f (cF f.size (l.getD i .zero).got).1)) true).2=true):
 kT k f l i=((eI (cC k (eG l i)) (cY dF (cN f (cF f.size (l.getD i .zero).got).1)) true).1,[yA 2 f]):=by
 rw[kT,aC h,aB he,aC hw]
end
theorem fd {k:aT} {rec:List UInt8} {fc:Bool} (hl:k.log.length≤140737488355328): (eI k rec fc).1.halves=k.halves:=by
 unfold eI
 split
 · have:=(kj (k:=k) (rec:=rec) hl).2
   cases fc
   · exact this
   · exact this
 · rfl
theorem qa {k:aT} {f:bH} (hok:bL k=true) (hu:k.up=true) (hf:dV f=true) (hk:f.kind=1):HOk (cA k f).1.halves∧(cA k f).1.halves.length≤3:=by
 have h0:=uE hok
 have hlg:=fW hok
 have h1:=ru (f:=f) h0 hlg.2.2.2.1 hf hk
 have hcut: ∀i,HOk (eG (bT k.halves f).1 i)∧(eG (bT k.halves f).1 i).length≤3:=fun i=>⟨rr h1.1 i,Nat.le_trans (sR _ i) h1.2⟩
 unfold cA
 split
 · exact⟨h0,hlg.2.2.2.1⟩
 · split
   · exact⟨h0,hlg.2.2.2.1⟩
   · split
     · exact⟨h0,hlg.2.2.2.1⟩
     · split
       · exact h1
       · by_cases h2: (cF f.size ((bT k.halves f).1.getD (bT k.halves f).2.toNat .zero).got).2=true
         · by_cases h3:fN (cN f (cF f.size ((bT k.halves f).1.getD (bT k.halves f).2.toNat .zero).got).1)=[]
           · rw[ed h2 h3];exact hcut _
           · have hlog: (cC k (eG (bT k.halves f).1 (bT k.halves f).2.toNat)).log.length≤140737488355328:=by show k.log.length≤_;omega
             by_cases h4: (eI (cC k (eG (bT k.halves f).1 (bT k.halves f).2.toNat)) (cY dF (cN f (cF f.size ((bT k.halves f).1.getD (bT k.halves f).2.toNat .zero).got).1)) true).2=true
             · rw[ku h2 h3 h4];dsimp only;rw[fd hlog];exact hcut _
             · rw[zY h2 h3 h4];dsimp only;rw[fd hlog];exact hcut _
         · rw[kt h2];exact h1
theorem aIx {l:List bB} (h:HOk l): ∀x∈l,x.got.length≤14:=fun x hx=>(kR ((vJ x).1 (h.1 x hx)).1).2.2.2.2.2
section
variable {k:aT} {f:bH}
theorem vv (h: ¬bL k=true):aS k f=(.zero,[]):=aB h
theorem vw (h:bL k=true) (h2: ¬(k.up&&dV f&&f.dst==k.id)=true):aS k f=(k,[]):=by rw[aS,aC h,aB h2]
theorem gy (h:bL k=true) (h2: (k.up&&dV f&&f.dst==k.id)=true) (h3:f.kind=1):aS k f=cA k f:=by rw[aS,aC h,aC h2,aC h3]
theorem vz (h:bL k=true) (h2: (k.up&&dV f&&f.dst==k.id)=true) (h3: ¬f.kind=1) (h4:tL k f=true):aS k f=((eI k (qU f) false).1,[]):=by rw[aS,aC h,aC h2,aB h3,aC h4]
theorem ee (h:bL k=true) (h2: (k.up&&dV f&&f.dst==k.id)=true) (h3: ¬f.kind=1) (h4: ¬tL k f=true):aS k f=(k,[]):=by rw[aS,aC h,aC h2,aB h3,aB h4]
end
theorem aBf {k:aT} {f:bH} {c:Bool} (hok:bL k=true) (h: (f.kind != 2||decide (aW (bM k).1.held f.frm f.num<0)||xK ((List.drop 3 ((aH (bM k).1.held).getD (aW (bM k).1.held f.frm f.num).toNat [])).getD 0 (.i 0)) != f.til||
 xK ((List.drop 2 ((aH (bM k).1.held).getD (aW (bM k).1.held f.frm f.num).toNat [])).getD 0 (.i 0)) != f.to)=c):tL k f= !c:=by
 subst h
 unfold tL
 by_cases hp:0≤aW (bM k).1.held f.frm f.num
 · obtain⟨j,hj,hjl,_⟩:=xV hok hp
   rw[hj,aVr,aV hjl]
   show _= !(f.kind != 2||decide ((j:Int)<0)||((bM k).1.held.getD j .zero).til != f.til||((bM k).1.held.getD j .zero).to != f.to)
   have e1:decide ((j:Int)<0)=false:=by simp
   have e2:decide (0≤(j:Int))=true:=by simp
   rw[e1,e2]
   simp only[bne]
   cases f.kind==2<;>cases ((bM k).1.held.getD j .zero).til==f.til<;>cases ((bM k).1.held.getD j .zero).to==f.to<;>rfl
 · have e1:decide (aW (bM k).1.held f.frm f.num<0)=true:=by simp;omega
   have e2:decide (0≤aW (bM k).1.held f.frm f.num)=false:=by simp;omega
   rw[e1,e2]
   simp
theorem aM9 {k:aT} {f:bH} (hok:bL k=true) (h: (f.kind != 2||decide (aW (bM k).1.held f.frm f.num<0)||xK ((List.drop 3 ((aH (bM k).1.held).getD (aW (bM k).1.held f.frm f.num).toNat [])).getD 0 (.i 0)) != f.til||
 xK ((List.drop 2 ((aH (bM k).1.held).getD (aW (bM k).1.held f.frm f.num).toNat [])).getD 0 (.i 0)) != f.to)=true): ¬tL k f=true:=by rw[aBf hok h];simp
theorem aKo {k:aT} {f:bH} (hok:bL k=true) (h: (f.kind != 2||decide (aW (bM k).1.held f.frm f.num<0)||xK ((List.drop 3 ((aH (bM k).1.held).getD (aW (bM k).1.held f.frm f.num).toNat [])).getD 0 (.i 0)) != f.til||
 xK ((List.drop 2 ((aH (bM k).1.held).getD (aW (bM k).1.held f.frm f.num).toNat [])).getD 0 (.i 0)) != f.to)=false):tL k f=true:=by rw[aBf hok h];rfl
structure EvR where
 kind:Int
 at_:Int
 frm:Int
 num:Int
 word:Int
 mix:Int
 keep:Int
 dst:Int
 til:Int
 text:List UInt8
def EvR.row (e:EvR):List D:=[.i e.kind,.i e.at_,.i e.frm,.i e.num,.i e.word,.i e.mix,.i e.keep,.i e.dst,.i e.til,.s e.text]
abbrev EvR.V (e:EvR):V:= .e (.agg [.d (.i e.kind),.d (.i e.at_),.d (.i e.frm),.d (.i e.num),.d (.i e.word),.d (.i e.mix),.d (.i e.keep),.d (.i e.dst),.d (.i e.til),.d (.s e.text)])
theorem aNa:KSm .zero:=⟨aVv _,aVv _,fun x h=>(by cases h)⟩
def Sm (k' k:aT):Prop:=k'.log.length≤2400∧k'.halves=k.halves
theorem Sm.ks {k k':aT} (h:Sm k' k) (hk:KSm k):KSm k':=⟨h.1,by rw[h.2];exact hk.2.1,by rw[h.2];exact hk.2.2⟩
theorem Sm.refl {k:aT} (h:k.log.length≤2400):Sm k k:=⟨h,rfl⟩
theorem aKp (k:aX) (n:bA): (fZ k n).1.id=k.id:=by
 unfold fZ
 repeat' split
 all_goals rfl
theorem aNb (k:aX) (w:List UInt8) (n:Int): (kQ k w n).1.id=k.id:=by
 unfold kQ
 repeat' split
 all_goals rfl
theorem aKq (k:aX) (w:List UInt8) (n:bA): (fC k w n).1.id=k.id:=by
 unfold fC
 repeat' split
 all_goals first|rfl|exact aKp _ _
theorem aKr (k:aX) (w:List UInt8) (m:bU): (gL k w m).1.id=k.id:=by
 unfold gL
 repeat' split
 all_goals rfl
theorem aKs (k:aX) (rec:List UInt8): (dL k rec).1.id=k.id:=by
 unfold dL
 repeat' split
 all_goals first|rfl|exact aNb _ _ _|exact aKq _ _ _|exact aKr _ _ _
theorem aKt {k:aX} {rec:List UInt8} (h: (bX k rec).2=true): (bX k rec).1.id=k.id:=by
 unfold bX at h ⊢
 split at h
 · rename_i hk
   rw[aC hk]
   unfold mG
   split
   · exact aKs k rec
   · rfl
 · cases h
theorem aBg: ∀{rs:List (List UInt8)} {k:aX},(fR k rs).2=true→(fR k rs).1.id=k.id
 | [],k,_=>rfl
 |r::rs,k,h=>by
  unfold fR at h ⊢
  split at h
  · rename_i hd
    rw[aC hd,aBg h,aKt hd]
  · cases h
theorem aNc {k:aT} (h:bL k=true): (bM k).1.id=k.id:=by
 unfold bL at h
 simp only[aVu] at h
 have h2:=h.1.1.2
 unfold bM cQ at h2 ⊢
 split at h2
 · rename_i hn
   rw[aC hn,aBg h2]
   unfold bY
   rw[aC hn]
 · cases h2
section
variable {P:Program} {T:gJ} {o:Oper} {σ σ1:St} {x:Operand} {t e:TypeId} {s1 s2 d j es n:Nat} {s3:List C} {Z:qk} {R:List (cL×Option K)} {g:Bool} {k:List (cL×Option K)→V→Prop}
end
theorem vL {l:List bH} {i:Nat} (h:i<l.length): (aZ l).getD i []=(l.getD i bH.zero).row:=by
 rw[aVy,aVy]
 simp[aZ,h]
structure WOk (ks:List aT) (ls:List Bool) (a b c:Nat):Prop where
 four:ks.length=4
 small: ∀k∈ks,KSm k
 three:ls.length=3
 ra:a≤30
 rb:b≤6
 rc:c≤6
theorem WOk.at {ks:List aT} {ls:List Bool} {a b c i:Nat} (h:WOk ks ls a b c) (hi:i<4):KSm (ks.getD i .zero):=h.small _ (cM (by rw[h.four];exact hi))
theorem WOk.set {ks:List aT} {ls:List Bool} {a b c:Nat} (h:WOk ks ls a b c) {k:aT} (hk:KSm k) (i:Nat):WOk (ks.set i k) ls a b c:=
 ⟨by rw[aV9];exact h.four,fun x hx=>by rcases List.mem_or_eq_of_mem_set hx with hx|rfl;exact h.small x hx;exact hk,h.three,h.ra,h.rb,h.rc⟩
theorem WOk.to {ks:List aT} {ls:List Bool} {a b c a' b' c':Nat} (h:WOk ks ls a b c) (h1:a'≤30) (h2:b'≤6) (h3:c'≤6):WOk ks ls a' b' c':=⟨h.four,h.small,h.three,h1,h2,h3⟩
theorem WOk.links {ks:List aT} {ls ls':List Bool} {a b c:Nat} (h:WOk ks ls a b c) (h1:ls'.length=3):WOk ks ls' a b c:=⟨h.four,h.small,h1,h.ra,h.rb,h.rc⟩
theorem vq {p:Prop} (h:p:=by first|exact True.intro|rfl|exact aVs rfl|exact⟨rfl,aVs rfl⟩|exact⟨by kernel_rfl,aVs (by kernel_rfl)⟩|omega|((repeat' apply And.intro)<;>first|trivial|rfl|exact aVs rfl|omega)|(simp;done)|(simp;omega)):p:=h
theorem s1 {p1 k:Prop} (x:k) (h1:p1:=by exact vq):p1∧k:=⟨h1,x⟩
theorem s2 {p1 p2 k:Prop} (x:k) (h1:p1:=by exact vq) (h2:p2:=by exact vq):p1∧p2∧k:=⟨h1,h2,x⟩
theorem s3 {p1 p2 p3 k:Prop} (x:k) (h1:p1:=by exact vq) (h2:p2:=by exact vq) (h3:p3:=by exact vq):p1∧p2∧p3∧k:=⟨h1,h2,h3,x⟩
theorem s4 {p1 p2 p3 p4 k:Prop} (x:k) (h1:p1:=by exact vq) (h2:p2:=by exact vq) (h3:p3:=by exact vq) (h4:p4:=by exact vq):p1∧p2∧p3∧p4∧k:=⟨h1,h2,h3,h4,x⟩
theorem s5 {p1 p2 p3 p4 p5 k:Prop} (x:k) (h1:p1:=by exact vq) (h2:p2:=by exact vq) (h3:p3:=by exact vq) (h4:p4:=by exact vq) (h5:p5:=by exact vq):p1∧p2∧p3∧p4∧p5∧k:=⟨h1,h2,h3,h4,h5,x⟩
theorem s6 {p1 p2 p3 p4 p5 p6 k:Prop} (x:k) (h1:p1:=by exact vq) (h2:p2:=by exact vq) (h3:p3:=by exact vq) (h4:p4:=by exact vq) (h5:p5:=by exact vq) (h6:p6:=by exact vq):p1∧p2∧p3∧p4∧p5∧p6∧k:=⟨h1,h2,h3,h4,h5,h6,x⟩
theorem s7 {p1 p2 p3 p4 p5 p6 p7 k:Prop} (x:k) (h1:p1:=by exact vq) (h2:p2:=by exact vq) (h3:p3:=by exact vq) (h4:p4:=by exact vq) (h5:p5:=by exact vq) (h6:p6:=by exact vq) (h7:p7:=by exact vq):p1∧p2∧p3∧p4∧p5∧p6∧p7∧k:=⟨h1,h2,h3,h4,h5,h6,h7,x⟩
theorem s8 {p1 p2 p3 p4 p5 p6 p7 p8 k:Prop} (x:k) (h1:p1:=by exact vq) (h2:p2:=by exact vq) (h3:p3:=by exact vq) (h4:p4:=by exact vq) (h5:p5:=by exact vq) (h6:p6:=by exact vq) (h7:p7:=by exact vq) (h8:p8:=by exact vq):p1∧p2∧p3∧p4∧p5∧p6∧p7∧p8∧k:=⟨h1,h2,h3,h4,h5,h6,h7,h8,x⟩
theorem s9 {p1 p2 p3 p4 p5 p6 p7 p8 p9 k:Prop} (x:k) (h1:p1:=by exact vq) (h2:p2:=by exact vq) (h3:p3:=by exact vq) (h4:p4:=by exact vq) (h5:p5:=by exact vq) (h6:p6:=by exact vq) (h7:p7:=by exact vq) (h8:p8:=by exact vq) (h9:p9:=by exact vq):p1∧p2∧p3∧p4∧p5∧p6∧p7∧p8∧p9∧k:=⟨h1,h2,h3,h4,h5,h6,h7,h8,h9,x⟩
theorem y1 {w1 p1 q1 k:Prop} (x:k) (h1:w1→p1:=by intro _;exact vq) (j1:q1:=by exact rk): (w1→p1)∧q1∧k:=⟨h1,j1,x⟩
theorem y2 {w1 p1 q1 w2 p2 q2 k:Prop} (x:k) (h1:w1→p1:=by intro _;exact vq) (j1:q1:=by exact rk) (h2:w2→p2:=by intro _;exact vq) (j2:q2:=by exact rk): (w1→p1)∧q1∧(w2→p2)∧q2∧k:=⟨h1,j1,h2,j2,x⟩
theorem y3 {w1 p1 q1 w2 p2 q2 w3 p3 q3 k:Prop} (x:k) (h1:w1→p1:=by intro _;exact vq) (j1:q1:=by exact rk) (h2:w2→p2:=by intro _;exact vq) (j2:q2:=by exact rk) (h3:w3→p3:=by intro _;exact vq) (j3:q3:=by exact rk): (w1→p1)∧q1∧(w2→p2)∧q2∧(w3→p3)∧q3∧k:=⟨h1,j1,h2,j2,h3,j3,x⟩
theorem y4 {w1 p1 q1 w2 p2 q2 w3 p3 q3 w4 p4 q4 k:Prop} (x:k) (h1:w1→p1:=by intro _;exact vq) (j1:q1:=by exact rk) (h2:w2→p2:=by intro _;exact vq) (j2:q2:=by exact rk) (h3:w3→p3:=by intro _;exact vq) (j3:q3:=by exact rk) (h4:w4→p4:=by intro _;exact vq) (j4:q4:=by exact rk): (w1→p1)∧q1∧(w2→p2)∧q2∧(w3→p3)∧q3∧(w4→p4)∧q4∧k:=⟨h1,j1,h2,j2,h3,j3,h4,j4,x⟩
section
variable {P:Program} {σ σ1 σin:St} {o:Oper} {f n:Nat} {X:V}
def aIy (σ:St) (o:Oper) (f n:Nat) (σin:St) (X:V) (k:List (cL×Option K)→Tmp→Prop):Prop:=match o.op,o.dst with
 | .call c,some d=>match c.callee,ri σ c.args.toList with
  | .value (.func f'),some (Xs,Ra)=>match Nat.beq f' f&&(Nat.beq Xs.length n&&(Xs.all mF&&mF X)) with
   |true=>σin=dJ 0 Xs∧k Ra d
   |false=>False
  |_,_=>False
 |_,_=>False
theorem wb {k:List (cL×Option K)→Tmp→Prop} (h:aIy σ o f n σin X k): ∃c d Xs Ra,o.op= .call c∧c.callee= .value (.func f)∧o.dst=some d∧ri σ c.args.toList=some (Xs,Ra)∧Xs.length=n∧σin=dJ 0 Xs∧Xs.all mF=true∧mF X=true∧k Ra d:=by
 unfold aIy at h
 split at h<;>try exact h.elim
 rename_i c d ho hd
 split at h<;>try exact h.elim
 rename_i f' Xs Ra hc hx
 split at h<;>try exact h.elim
 rename_i hb
 simp only[aVu] at hb
 obtain⟨h1,h2,h3,h4⟩:=hb
 have h1:=Nat.eq_of_beq_eq_true h1
 subst h1
 exact⟨c,d,Xs,Ra,ho,hc,hd,hx,Nat.eq_of_beq_eq_true h2,h.1,h3,h4,h.2⟩
theorem xp {k:List (cL×Option K)→List (cL×K)→Prop} (hs:Spec P f n σin [(.t 0,.v X)]) (h:aIy σ o f n σin X fun Ra d=>k Ra [(.t d,.v X)]): ∃R W,yE P o R W∧bO R σ∧k R W:=by
 obtain⟨c,d,Xs,Ra,h1,h2,h3,h4,h5,h6,h7,h8,h9⟩:=wb h
 exact jc hs h1 h2 h3 h4 h5 h6 h7 h8 h9
theorem xc {g:Bool} {d:Tmp} {k:List (cL×Option K)→V→Prop} (hs:g=true→Spec P f n σin [(.t 0,.v X)]) (h:aIy σ1 o f n σin X fun Ra d'=>match Nat.beq d' d with|true=>(g=true→qA σ Ra)∧k Ra X|false=>False): ∃R X,(g=true→yE P o R [(.t d,.v X)]∧bO R σ1)∧(g=true→qA σ R)∧k R X:=by
 obtain⟨c,d',Xs,Ra,h1,h2,h3,h4,h5,h6,h7,h8,h9⟩:=wb h
 split at h9
 · rename_i hb
   have hb:=Nat.eq_of_beq_eq_true hb
   subst hb
   exact aMc hs h1 h2 h3 h4 h5 h6 h7 h8 h9.1 h9.2
 · exact h9.elim
end
section
variable {P:Program} {io:List Nat} {Q:Ex→St→Prop} {s σ':St} {rl:List (Nat×Nat)} {bor:List Nat}
theorem wq {J:St→Prop} (rl:List (Nat×Nat)) (bor:List Nat) (h:J σ') (h1:qL s σ' rl bor σ') (h2:ap σ' rl bor=true:=by rfl) (h3:yO io σ' rl bor=true:=by rfl):WK io J s:=Ab.wk σ' rl bor h (qs h1) h2 h3
theorem wa {c:Code} (σ':St) (rl:List (Nat×Nat)) (bor:List Nat) (h1:qL s σ' rl bor σ') (h:SW P io c Q σ') (h2:ap σ' rl bor=true:=by rfl) (h3:yO io σ' rl bor=true:=by rfl):SW P io c Q s:=SW.weaken σ' rl bor ⟨qs h1,h2⟩ h3 h
theorem rq {T:gJ} {rs:List ResultVar} {X:V} (rl:List (Nat×Nat)) (bor:List Nat) (h1:aGc T s rs=some X) (h2:qL ((.t 0,.v X)::dA s) σ' rl bor σ') (h3:ap σ' rl bor=true:=by rfl) (h4:sj io σ' rl bor=true:=by rfl):xJ T io rs σ' s:=dO X rl bor h1 (qs h2) h3 h4
theorem sq {x y:Code} (h:SW P io x (oa (SW P io y Q) Q) s):SW P io (.seq x y) Q s:=SW.seq h
theorem sk (h:Q .norm s):SW P io .skip Q s:=SW.skip h
theorem bk {id:Nat} {c:Code} (h:SW P io c (aF9 id Q) s):SW P io (.block id c) Q s:=SW.block h
theorem xt {id:Nat} (h:Q (.exit id) s):SW P io (.exit id) Q s:=SW.exit h
theorem rt (h:Q .ret s):SW P io .ret Q s:=SW.ret h
theorem cd {c:Operand} {x y:Code} {t:Bool} {R:List (cL×Option K)} (hc:ev s c=some (B t,R)) (h1:t=true→SW P io x Q s) (h2:t=false→SW P io y Q s):SW P io (.cond c x y) Q s:=SW.cond hc h1 h2
end
theorem qx {p:Prop} (h:p:=by first|exact True.intro|with_reducible rfl|exact aVg):p:=h
theorem qz {p:Prop} (h:p:=by(repeat' apply ai)<;>first|exact True.intro|with_reducible rfl|exact aVg|rfl|(simp;done)|omega):p:=h
abbrev tI (s:Nat) (x:Int):cL×K:=(.t s,.v (I x))
abbrev tB (s:Nat) (x:Bool):cL×K:=(.t s,.v (B x))
abbrev tD (s:Nat) (x:D):cL×K:=(.t s,.v (Dv x))
abbrev tP (s o:Nat):cL×K:=(.t s,.v (.e (.c (.pt o 0))))
abbrev tO (s o n:Nat):cL×K:=(.t s,.v (.e (.c (.own o n))))
abbrev tV (s:Nat) (x:V):cL×K:=(.t s,.v x)
abbrev oB (o:Nat) (t:TypeId) (cs:List C):cL×K:=(.o o,.box t cs)
abbrev oR (o:Nat) (t:TypeId) (n:Nat) (r:List (List D)):cL×K:=(.o o,.row t n r)
end Go.Ab
namespace Go.Proofs.YtmabaopgkimfmaaGreatDoor
open Int renaming toNat_natCast→aVr
open Nat renaming le_of_ble_eq_true→aVs,zero_le→aVv,le_refl→aVz
open List renaming length_append→aVt,length_cons→aVw,length_nil→aVx,getD_eq_getElem?_getD→aVy,length_take→aV0,getElem?_eq_getElem→aV1,getElem?_eq_some_iff→aV2,take_length→aV3,length_drop→aV4,mem_map→aV5,mem_cons→aV6,range→aV7,all_eq_true→aV8,length_set→aV9,mem_singleton→aWa,replicate→aWb
open Bool renaming and_eq_true→aVu,or_eq_true→aWc
open Go Go.Ab Go.RowKit
set_option linter.unusedVariables false
abbrev Sp:=Ab.Spec Tryz.prog
abbrev SpE:=Ab.SpecE Tryz.prog
theorem mo:Tryz.prog.follows .mixedOrders=true:=by kernel_rfl
theorem rT {io:List Nat} {Q:Ex→St→Prop} {σ:St} (ks:List Nat) {id:Nat} {ops:Array Oper} (h:goC Tryz.prog tab ops.toList false ops.toList σ [] fun σ' _=>uW ks σ' (Q .norm)):SW Tryz.prog io (.region id ops false) Q σ:=SW.regT kX ks h
theorem rD {io:List Nat} {Q:Ex→St→Prop} {σ:St} (ks:List Nat) {id:Nat} {ops:Array Oper} (h:goC Tryz.prog tab ops.toList true ops.toList σ [] fun σ' ns=>mh ops.toList ns=true∧uW ks σ' (Q .norm)):SW Tryz.prog io (.region id ops true) Q σ:=SW.regD kX mo ks h
theorem rE {io:List Nat} {Q:Ex→St→Prop} {σ:St} (ks:List Nat) {id:Nat} {ops:Array Oper} (h:goE Tryz.prog tab io ops.toList ops.toList σ fun σ'=>uW ks σ' (Q .norm)):SW Tryz.prog io (.region id ops false) Q σ:=SW.regE kX ks h
theorem sb {f:FuncId} {fn:Func} {c:Code} {n:Nat} {σin:St} {σout:St} (hf:Tryz.prog.funcs[f]? =some fn) (hb:fn.body=some c) (h:SW Tryz.prog ((bJ σin).filter fun o=>gB o (bJ σout)) c (aQp tab ((bJ σin).filter fun o=>gB o (bJ σout)) fn.results.toList σout) σin) (hname: (fn.name== "runtime.NumGoroutine")=false:=by kernel_rfl) (hn:n≤fn.ntmps:=by decide) (hfit:tQ fn.ntmps c=true:=by kernel_rfl) (hsl:pX n σin=true:=by rfl):Sp f n σin σout:=aB8 kX hf hb hname hn hfit hsl h
theorem sbE {f:FuncId} {fn:Func} {c:Code} {n:Nat} {σin:St} {Qo:St→Prop} (hf:Tryz.prog.funcs[f]? =some fn) (hb:fn.body=some c) (h:SW Tryz.prog (bJ σin) c (aGw tab (bJ σin) fn.results.toList Qo) σin) (hname: (fn.name== "runtime.NumGoroutine")=false:=by kernel_rfl) (hn:n≤fn.ntmps:=by decide) (hfit:tQ fn.ntmps c=true:=by kernel_rfl) (hsl:pX n σin=true:=by rfl):SpE f n σin Qo:=yn kX hf hb hname hn hfit hsl h
end Go.Proofs.YtmabaopgkimfmaaGreatDoor
namespace Go.Ab
open Int renaming toNat_natCast→aVr
open Nat renaming le_of_ble_eq_true→aVs,zero_le→aVv,le_refl→aVz
open List renaming length_append→aVt,length_cons→aVw,length_nil→aVx,getD_eq_getElem?_getD→aVy,length_take→aV0,getElem?_eq_getElem→aV1,getElem?_eq_some_iff→aV2,take_length→aV3,length_drop→aV4,mem_map→aV5,mem_cons→aV6,range→aV7,all_eq_true→aV8,length_set→aV9,mem_singleton→aWa,replicate→aWb
open Bool renaming and_eq_true→aVu,or_eq_true→aWc
open Go Go.RowKit
set_option linter.unusedVariables false
set_option linter.unusedSimpArgs false
def nd (T:gJ) (sz:Nat):Nat→List (Nat×TypeId)→Bool
 |off,[]=>Nat.beq off sz
 |off,p::r=>Nat.beq p.1 off&&(match T p.2 with|some fi=>nd T sz (off+fi.size) r|none=>false)
def gz (T:gJ):Nat→TypeId→Bool
 |0,_=>false
 |n+1,t=>match T t with
  |none=>false
  |some ti=>match ti.kind with
   | .int .i64=>true
   | .int .u8=>true
   | .bool=>true
   | .str=>true
   | .sl e=>gz T n e
   | .st fs=>nd T ti.size 0 fs&&fs.all fun p=>gz T n p.2
   |_=>false
def rH (T:gJ) (B:Nat):Nat→TypeId→List D→Prop
 |0,_,_=>False
 |n+1,t,ds=>match T t with
  |none=>False
  |some ti=>match ti.kind with
   | .int .i64=> ∃x,ds=[.i x]∧(Lit.int .i64 x).wf=true
   | .int .u8=> ∃x,ds=[.u x]∧(Lit.int .u8 x).wf=true
   | .bool=> ∃b,ds=[.b b]
   | .str=> ∃l,ds=[.s l]∧l.length≤B
   | .sl e=> ∃rows,ds=[.sl rows]∧(match T e with|some ei=>rows.length*ei.bytes≤B|none=>False)∧ ∀r∈rows,rH T B n e r
   | .st fs=>ds.length=ti.size∧ ∀p∈fs,match T p.2 with|some fi=>rH T B n p.2 ((ds.drop p.1).take fi.size)|none=>False
   |_=>False
section
variable {H:Type} {enc:TypeId×Value→H} {P:Program} {W:World} {sp:Nat→Bool} {held:Bool} {T:gJ} {B:Nat}
theorem ia (hT:eC P T) {t:TypeId} {ti:TI} (h:T t=some ti):P.cellsOf t=ti.size∧P.bytesOf t=ti.bytes:=by
 obtain⟨i,z,hi,h1,h2,_⟩:=(hT t ti h).info
 exact⟨by simp[Program.cellsOf,hi,h1],by simp[Program.bytesOf,hi,h2]⟩
theorem aP3 {a:Addr} {v:Value} (h:W.cell? a=some v):a.block<W.heap.size:=by
 unfold World.cell? at h
 cases hq:W.heap[a.block]? with
 |none=>rw[hq] at h;simp at h
 |some o=>exact(Array.getElem?_eq_some_iff.1 hq).1
theorem aFc {base:Nat} {a:Addr} {n:Nat} {cs:List Value} (h:W.cells? base a n=some cs):cs.length=n∧ ∀(k:Nat) v,cs[k]? =some v→W.cell? (a.add k)=some v:=by
 unfold World.cells? at h
 split at h
 · have key: ∀(l:List Nat) (cs:List Value),l.mapM (fun i=>W.cell? (a.add i))=some cs→cs.length=l.length∧ ∀(k:Nat) v,cs[k]? =some v→ ∃i,l[k]? =some i∧W.cell? (a.add i)=some v:=by
    intro l
    induction l with
    |nil=>intro cs h;simp at h;subst h;exact⟨rfl,by simp⟩
    |cons x r ih=>
     intro cs h
     rw[List.mapM_cons] at h
     obtain⟨v,h1,h⟩:=Option.bind_eq_some_iff.1 h
     obtain⟨vs,h2,h⟩:=Option.bind_eq_some_iff.1 h
     cases h
     obtain⟨q1,q2⟩:=ih vs h2
     refine⟨by simp[q1],fun k u hu=> ?_⟩
     cases k with
     |zero=>simp at hu;subst hu;exact⟨x,rfl,h1⟩
     |succ k=>simpa using q2 k u (by simpa using hu)
   obtain⟨q1,q2⟩:=key _ _ h
   refine⟨by simpa using q1,fun k v hv=> ?_⟩
   obtain⟨i,h1,h2⟩:=q2 k v hv
   have:=(aV2.1 h1)
   obtain⟨h3,h4⟩:=this
   simp at h4
   rw[h4];exact h2
 · cases h
def SW0 (W:World):Nat→Prop:=fun b=>b<W.heap.size
def Rd (W:World) (ds:List D) (cs:List Value):Prop:=ds.length=cs.length∧ ∀(k:Nat) x v,ds[k]? =some x→cs[k]? =some v→DR W (SW0 W) x v
theorem Rd.one {x:D} {v:Value} (h:DR W (SW0 W) x v):Rd W [x] [v]:=⟨rfl,fun k y u h1 h2=>by
 cases k with
 |zero=>simp at h1 h2;subst h1;subst h2;exact h
 |succ k=>simp at h1⟩
theorem Rd.append {ds es:List D} {cs vs:List Value} (h:Rd W ds cs) (k:Rd W es vs):Rd W (ds++es) (cs++vs):=by
 refine⟨by simp[h.1,k.1],fun i x v h1 h2=> ?_⟩
 by_cases hi:i<ds.length
 · rw[List.getElem?_append_left hi] at h1
   rw[List.getElem?_append_left (by rw[← h.1];exact hi)] at h2
   exact h.2 i x v h1 h2
 · rw[List.getElem?_append_right (by omega)] at h1
   rw[List.getElem?_append_right (by rw[← h.1];omega),← h.1] at h2
   exact k.2 _ x v h1 h2
def aNe (enc:TypeId×Value→H) (P:Program) (W:World) (sp:Nat→Bool) (held:Bool) (T:gJ) (B N:Nat) (t:TypeId):Prop:=
 ∀fuel cs d ps,DataW.trod enc P W 0 sp held fuel t cs=some (d,ps)→(d.weights P t).all (· ≤B)=true→ ∃ds,Rd W ds cs∧rH T B N t ds
theorem kv (hT:eC P T) {N sz fuel:Nat}: ∀(fs:List Field) (off:Nat) (cs:List Value) (xs:List (DataW H×List MemPlace)),nd T sz off (fs.map fun f=>(f.offset,f.type))=true→cs.length=sz→off≤sz→
 (∀f∈fs,aNe enc P W sp held T B N f.type)→fs.mapM (fun f=>DataW.trod enc P W 0 sp held fuel f.type ((cs.drop f.offset).take (P.cellsOf f.type)))=some xs→(DataW.weightsEach P (fs.map (·.type)) (xs.map (·.1))).all (· ≤B)=true→
 ∃ds,Rd W ds (cs.drop off)∧ ∀p∈fs.map (fun f=>(f.offset,f.type)),off≤p.1∧match T p.2 with|some fi=>rH T B N p.2 ((ds.drop (p.1 - off)).take fi.size)|none=>False
 | [],off,cs,xs,ht,hl,ho,_,_,_=>by
  have:off=sz:=Nat.eq_of_beq_eq_true ht
  exact⟨[],by rw[List.drop_eq_nil_of_le (by omega)];exact⟨rfl,by simp⟩,by simp⟩
 |f::fs,off,cs,xs,ht,hl,ho,hop,hm,hw=>by
  simp only[List.map_cons,nd,aVu] at ht
  obtain⟨h1,h2⟩:=ht
  have h1:=Nat.eq_of_beq_eq_true h1
  cases hf:T f.type with
  |none=>rw[hf] at h2;cases h2
  |some fi=>
   rw[hf] at h2
   simp only at h2
   rw[List.mapM_cons] at hm
   obtain⟨x,hx,hm⟩:=Option.bind_eq_some_iff.1 hm
   obtain⟨ys,hy,hm⟩:=Option.bind_eq_some_iff.1 hm
   cases hm
   obtain⟨hc1,hc2⟩:=ia hT hf
   simp only[List.map_cons,DataW.weightsEach,List.all_append,aVu] at hw
   obtain⟨ds,hr,hty⟩:=hop f (List.mem_cons_self ..) _ _ _ _ hx hw.1
   have hoff:off+fi.size≤sz:=by
    have key: ∀(l:List (Nat×TypeId)) (o:Nat),nd T sz o l=true→o≤sz:=by
     intro l
     induction l with
     |nil=>intro o h;exact Nat.le_of_eq (Nat.eq_of_beq_eq_true h)
     |cons p r ih=>
      intro o h
      simp only[nd,aVu] at h
      cases hq:T p.2 with
      |none=>rw[hq] at h;cases h.2
      |some qi=>rw[hq] at h;have:=ih _ h.2;omega
    exact key _ _ h2
   obtain⟨es,hr2,hty2⟩:=kv hT fs (off+fi.size) cs ys h2 hl hoff (fun g hg=>hop g (List.mem_cons_of_mem _ hg)) hy hw.2
   rw[hc1,h1] at hr
   have hdl:ds.length=fi.size:=by rw[hr.1,aV0,aV4];omega
   refine⟨ds++es,?_,fun p hp=> ?_⟩
   · have e:cs.drop off=(cs.drop off).take fi.size++cs.drop (off+fi.size):=by
      rw[← List.drop_drop,List.take_append_drop]
     rw[e];exact hr.append hr2
   · rcases aV6.1 hp with rfl|hp
     · refine⟨Nat.le_of_eq h1.symm,?_⟩
       simp only[hf,h1,Nat.sub_self,List.drop_zero]
       rw[List.take_append_of_le_length (by omega),← hdl,aV3];exact hty
     · obtain⟨q1,q2⟩:=hty2 p hp
       refine⟨by omega,?_⟩
       cases hq:T p.2 with
       |none=>rw[hq] at q2;exact q2
       |some qi=>
        rw[hq] at q2
        simp only at q2 ⊢
        rw[List.drop_append,List.drop_eq_nil_of_le (by omega),List.nil_append,hdl,show p.1 - off - fi.size=p.1 - (off+fi.size) by omega]
        exact q2
theorem ck {e:TypeId}: ∀{l:List (DataW H)},(DataW.weightsAll P e l).all (· ≤B)=true→ ∀d∈l,(d.weights P e).all (· ≤B)=true
 | [],_,d,hd=>by cases hd
 |x::r,h,d,hd=>by
  simp only[DataW.weightsAll,List.all_append,aVu] at h
  rcases aV6.1 hd with rfl|hd
  · exact h.1
  · exact ck h.2 d hd
theorem ib (hT:eC P T): ∀(N:Nat) (t:TypeId),gz T N t=true→aNe enc P W sp held T B N t
 |0,t,h=>by cases h
 |N+1,t,h=>by
  intro fuel cs d ps htr hw
  unfold gz at h
  cases ht:T t with
  |none=>rw[ht] at h;cases h
  |some ti=>
   rw[ht] at h
   simp only at h
   have hok:=hT t ti ht
   have hk:=hok.kind
   cases fuel with
   |zero=>cases htr
   |succ fuel=>
    cases hkk:ti.kind with
    |int k=>
     rw[hkk] at h hk
     simp only[mR] at hk
     unfold DataW.trod at htr
     rw[hk] at htr
     split at htr<;>rename_i he<;>try(cases he;done)
     · rename_i _ _ kk mm
       cases he
       split at htr
       · rename_i hc
         cases htr
         obtain⟨rfl,hwf⟩:=hc
         cases kk<;>try(cases h;done)
         · exact⟨[.i mm],.one (.i _),by unfold rH;simp only[ht,hkk];exact⟨_,rfl,hwf⟩⟩
         · exact⟨[.u mm],.one (.u _),by unfold rH;simp only[ht,hkk];exact⟨_,rfl,hwf⟩⟩
       · cases htr
     all_goals cases htr
    |bool=>
     rw[hkk] at hk
     simp only[mR] at hk
     unfold DataW.trod at htr
     rw[hk] at htr
     split at htr<;>rename_i he<;>try(cases he;done)
     · cases htr
       exact⟨[.b _],.one (.b _),by unfold rH;simp only[ht,hkk];exact⟨_,rfl⟩⟩
     all_goals cases htr
    |str=>
     rw[hkk] at hk
     simp only[mR] at hk
     unfold DataW.trod at htr
     rw[hk] at htr
     split at htr<;>rename_i he<;>try(cases he;done)
     · rename_i _ s
       split at htr
       · cases htr
         refine⟨[.s s.data.toList],.one (.s _),?_⟩
         unfold rH;simp only[ht,hkk]
         exact⟨_,rfl,by simpa[DataW.weights] using hw⟩
       · cases htr
     all_goals cases htr
    |sl e=>
     rw[hkk] at h hk
     simp only[mR] at hk
     simp only at h
     have hih:=ib hT N e h
     cases he:T e with
     |none=>cases N with
      |zero=>cases h
      |succ N=>unfold gz at h;rw[he] at h;cases h
     |some ei=>
      obtain⟨hc1,hc2⟩:=ia hT he
      have hep:=(hT e ei he).pos
      rcases Deep.open_slice hk htr with⟨rfl,hx⟩|⟨a,len,cap,m,n,Df,Pl,rfl,hb,hl,hm,hmm,hx,hel⟩
      · refine⟨[.sl []],.one (.sl [] none 0 0 ⟨0,0,none⟩ (fun _ _=>undef) (by simp) (by simp[maxLen]) (by simp) (by simp) (by simp) (by simp)),?_⟩
        unfold rH;simp only[ht,hkk]
        exact⟨[],rfl,by simp[he],by simp⟩
      · cases hx
        simp only[DataW.weights,hk,List.all_cons,List.all_append,aVu,aD,List.length_map,List.length_range] at hw
        have hlm:len≤m:=by rw[hmm];split<;>omega
        have hrow: ∀i,i<len→ ∃r,(∃cs',W.cells? 0 (a.add (i*ei.size)) ei.size=some cs'∧Rd W r cs')∧rH T B N e r:=by
         intro i hi
         obtain⟨cs',h1,h2⟩:=hel i (by omega)
         rw[hc1] at h1
         obtain⟨r,q1,q2⟩:=hih _ _ _ _ h2 (ck hw.2.1 _ (aV5.2 ⟨i,List.mem_range.2 hi,rfl⟩))
         exact⟨r,⟨cs',h1,q1⟩,q2⟩
        obtain⟨rf,hrf⟩: ∃rf:Nat→List D,∀i,i<len→(∃cs',W.cells? 0 (a.add (i*ei.size)) ei.size=some cs'∧Rd W (rf i) cs')∧rH T B N e (rf i):=
         ⟨fun i=>if hi:i<len then Classical.choose (hrow i hi) else [],fun i hi=>by dsimp only;rw[dif_pos hi];exact Classical.choose_spec (hrow i hi)⟩
        have hget: ∀(i:Nat) r,((aV7 len).map rf)[i]? =some r→i<len∧r=rf i:=by
         intro i r hr
         rw[List.getElem?_map] at hr
         by_cases hi:i<len
         · rw[List.getElem?_range hi] at hr;simp at hr;exact⟨hi,hr.symm⟩
         · rw[List.getElem?_eq_none (by simpa using hi)] at hr;cases hr
        have hlen: ∀i,i<len→(rf i).length=ei.size:=by
         intro i hi
         obtain⟨⟨cs',h1,h2⟩,_⟩:=hrf i hi
         rw[h2.1,(aFc h1).1]
        have hcell: ∀i,i<len→ ∀(k:Nat) x,(rf i)[k]? =some x→ ∃v,W.cell? (a.add (i*ei.size+k))=some v∧DR W (SW0 W) x v:=by
         intro i hi k x hx
         obtain⟨⟨cs',h1,h2⟩,_⟩:=hrf i hi
         have hk':k<cs'.length:=by rw[← h2.1];exact(aV2.1 hx).1
         refine⟨cs'[k],?_,h2.2 k x _ hx (aV1 hk')⟩
         have:=(aFc h1).2 k _ (aV1 hk')
         rwa [Deep.add_add] at this
        refine⟨[.sl ((aV7 len).map rf)],.one ?_,?_⟩
        · have e1: ((aV7 len).map rf).length=len:=by simp
          have:=DR.sl (w:=W) (S:=SW0 W) ((aV7 len).map rf) (some a) cap ei.size a (fun i k=>(W.cell? (a.add (i*ei.size+k))).getD undef) (by rw[e1];exact hl) hm
           (fun r hr=>by obtain⟨i,hi,rfl⟩:=aV5.1 hr;exact hlen i (List.mem_range.1 hi)) (fun _=>rfl)
           (fun i r k d hi hk=>by
            obtain⟨h1,rfl⟩:=hget i r hi
            obtain⟨v,h2,h3⟩:=hcell i h1 k d hk
            have hb: (a.add (i*ei.size+k)).block=a.block:=by unfold Addr.add;split<;>rfl
            exact⟨by have:=aP3 h2;rw[hb] at this;exact this,by rw[h2];rfl⟩)
           (fun i r k d hi hk=>by
            obtain⟨h1,rfl⟩:=hget i r hi
            obtain⟨v,h2,h3⟩:=hcell i h1 k d hk
            rw[h2];exact h3)
          rw[e1] at this;exact this
        · unfold rH;simp only[ht,hkk]
          refine⟨_,rfl,?_,fun r hr=> ?_⟩
          · simp only[he]
            rw[List.length_map,List.length_range,← hc2]
            have:=hw.1
            rw[Nat.add_mul] at this
            omega
          · obtain⟨i,hi,rfl⟩:=aV5.1 hr
            exact(hrf i (List.mem_range.1 hi)).2
    |st fs=>
     rw[hkk] at h hk
     simp only[mR] at hk
     obtain⟨fields,hu,hfs⟩:=hk
     simp only[aVu] at h
     unfold DataW.trod at htr
     rw[hu] at htr
     have htr: (if cs.length=P.cellsOf t then(fields.toList.mapM fun f=>DataW.trod enc P W 0 sp held fuel f.type ((cs.drop f.offset).take (P.cellsOf f.type))).map fun xs=>(DataW.agg (xs.map (·.1)),xs.flatMap (·.2)) else none)=some (d,ps):=htr
     split at htr
     · rename_i hcl
       obtain⟨xs,hxs,hmk⟩:=Option.map_eq_some_iff.1 htr
       cases hmk
       have hsz:=(ia hT ht).1
       simp only[DataW.weights,hu] at hw
       obtain⟨ds,h1,h2⟩:=kv hT fields.toList 0 cs xs (by rw[hfs];exact h.1) (by rw[hcl,hsz]) (aVv _)
        (fun f hf=>ib hT N f.type (by
         have:=aV8.1 h.2 (f.offset,f.type) (by rw[← hfs];exact aV5.2 ⟨f,hf,rfl⟩)
         exact this)) hxs hw
       refine⟨ds,by simpa using h1,?_⟩
       unfold rH;simp only[ht,hkk]
       refine⟨by have:=h1.1;simp at this;rw[this,hcl,hsz],fun p hp=> ?_⟩
       rw[← hfs] at hp
       have:=(h2 p hp).2
       simpa using this
     · cases htr
    |arr n e=>rw[hkk] at h;cases h
    |ptr e=>rw[hkk] at h;cases h
end
section
variable {H:Type} {enc:TypeId×Value→H} {P:Program} {W:World} {sp:Nat→Bool} {held:Bool} {T:gJ} {B:Nat}
theorem aBh (hT:eC P T) (N:Nat) {t:TypeId} {ti:TI} (ht:T t=some ti) (hd:gz T N t=true) {v:Value} {d:DataW H} {ps:List MemPlace} {r:Reach} {base:Nat} (h:DataW.Trod enc P W 0 sp held t v d ps) (hv:Value.okWide P W r base t v) (hw: (d.weights P t).all (· ≤B)=true):
 ∃ds,rH T B N t ds∧(ti.kind.agg=true→ ∀σ ι,lM σ ι W (SW0 W) (.e (.agg (ds.map C.d))) v)∧(ti.kind.agg=false→ ∃x,ds=[x]∧ ∀σ ι,lM σ ι W (SW0 W) (Dv x) v):=by
 obtain⟨fuel,hf⟩:=h
 obtain⟨ds,h1,h2⟩:=ib hT N t hd _ _ _ _ hf hw
 refine⟨ds,h2,fun ha=> ?_,fun ha=> ?_⟩
 · have hk:=(hT t ti ht).kind
   have hcs: ∃cs,v= .agg cs:=by
    cases hkk:ti.kind<;>rw[hkk] at ha hk<;>simp only[TK.agg] at ha<;>try(cases ha;done)
    · simp only[mR] at hk
      obtain⟨fields,hu,_⟩:=hk
      obtain⟨cs,hcs,_⟩:=WideShapes.okWide_struct hu hv
      exact⟨cs,hcs⟩
    · cases N with
      |zero=>cases hd
      |succ N=>unfold gz at hd;rw[ht] at hd;simp only[hkk] at hd;cases hd
   obtain⟨cs,rfl⟩:=hcs
   intro σ ι
   have h1:Rd W ds cs.toList:=h1
   refine⟨cs.toList,by simp,by rw[List.length_map,h1.1],fun k c u hc hu=> ?_⟩
   rw[List.getElem?_map] at hc
   cases hq:ds[k]? with
   |none=>rw[hq] at hc;cases hc
   |some x=>rw[hq] at hc;cases hc;exact h1.2 k x u hq hu
 · have hk:=(hT t ti ht).kind
   have hone:v.cells.toList=[v]:=by
    cases hkk:ti.kind<;>rw[hkk] at ha hk<;>simp only[TK.agg] at ha<;>try(cases ha;done)
    all_goals simp only[mR] at hk
    · obtain⟨n,rfl⟩:=WideShapes.okWide_int hk hv;rfl
    · obtain⟨n,rfl⟩:=WideShapes.okWide_bool hk hv;rfl
    · obtain⟨n,rfl⟩:=WideShapes.okWide_string hk hv;rfl
    · obtain⟨a,l,c,rfl⟩:=WideShapes.okWide_slice hk hv;rfl
    · obtain⟨a,rfl⟩:=WideShapes.okWide_pointer hk hv;rfl
   rw[hone] at h1
   match ds,h1.1 with
   | [x],_=>exact⟨x,rfl,fun σ ι=>h1.2 0 x v rfl rfl⟩
theorem aHk (hgb:GB P W fun _=>False) {f:FuncId} {n:Nat} {Xs:List V} (hs:Spec P f n (dJ 0 Xs) [(.t 0,.v (Ab.B true))]) {args:Array Value} (hn:Xs.length=n) (hsz:args.size=n) (hX: ∀(i:Nat) X v,Xs[i]? =some X→args[i]? =some v→ ∀σ ι,lM σ ι W (SW0 W) X v):
 Calls P f args W fun e W'=>e= .returned (.bool true)∧Below W.heap.size W W':=by
 have hlo: ∀o,aQ (dJ 0 Xs) (.o o)=none:=fun o=>by have:=iL 0 Xs [] o;simpa[aQ] using this
 have hvr:VR (dJ 0 Xs) (fun _=>undef) (fun i=>(args[i]?).getD undef) (SW0 W) W:=by
  refine⟨fun s k hk=> ?_,(fun o k hk=>by rw[hlo] at hk;cases hk),fun o b hm=> ?_,fun o o' b hm=> ?_,fun b hb=>hb⟩
  · rcases tS 0 Xs [] s k (by simpa using hk) with⟨X,h1,rfl,_,h2⟩|h
    · have h3:s<args.size:=by omega
      have:args[s]? =some args[s]:=Array.getElem?_eq_getElem h3
      show lM _ _ _ _ X ((args[s]?).getD undef)
      rw[this]
      exact hX s X _ (by simpa using h1) this _ _
    · cases h
  · obtain⟨⟨k,hk,_⟩,_⟩:=hm;rw[hlo] at hk;cases hk
  · obtain⟨⟨k,hk,_⟩,_⟩:=hm;rw[hlo] at hk;cases hk
 refine(hs.2 _ _ _ W args (hgb.weak fun b ⟨o,⟨k,hk,_⟩,_⟩=>by rw[hlo] at hk;cases hk) hvr hsz fun i hi=> ?_).mono fun e W' ⟨v,ι',S',he,hp⟩=> ?_
 · rw[Array.getElem?_eq_getElem (by omega)];rfl
 · have hv:=hp.vr.slots 0 (.v (Ab.B true)) rfl
   simp only[pR,lM,ER,CR] at hv
   refine⟨?_,hp.fr.os,hp.fr.tape,hp.fr.output,hp.fr.size,fun k hk=>hp.fr.block k hk fun⟨o,⟨q,hq,_⟩,_⟩=>by rw[hlo] at hq;cases hq⟩
   rw[he];cases hv;rfl
end
end Go.Ab
namespace Go.Proofs.YtmabaopgkimfmaaGreatDoor
open Int renaming toNat_natCast→aVr
open Nat renaming le_of_ble_eq_true→aVs,zero_le→aVv,le_refl→aVz
open List renaming length_append→aVt,length_cons→aVw,length_nil→aVx,getD_eq_getElem?_getD→aVy,length_take→aV0,getElem?_eq_getElem→aV1,getElem?_eq_some_iff→aV2,take_length→aV3,length_drop→aV4,mem_map→aV5,mem_cons→aV6,range→aV7,all_eq_true→aV8,length_set→aV9,mem_singleton→aWa,replicate→aWb
open Bool renaming and_eq_true→aVu,or_eq_true→aWc
open Go Go.Ab Go.RowKit
set_option linter.unusedVariables false
set_option linter.unusedSimpArgs false
set_option maxRecDepth 9000
theorem dM (n lo hi:Int):Sp 109 3 [tI 0 n,tI 1 lo,tI 2 hi] [tB 0 (gT n lo hi)]:=by
 refine sb Tryz.func109 rfl (sq (rT [0,1,2] (s1 (sq (rT [6] (s4 (y3 (ai pk (s1 (rt (aU rfl ?_)))))))))))
 simp[gT,gb]
theorem dU (n lo hi:Int):Sp 123 3 [tI 0 n,tI 1 lo,tI 2 hi] [tB 0 (gT n lo hi)]:=by
 refine sb Tryz.func123 rfl (sq (rT [0,1,2] (s1 (sq (rT [6] (s4 (y3 (ai pk (s1 (rt (aU rfl ?_)))))))))))
 simp[gT,gb]
theorem eB (n:Int):Sp 111 1 [tI 0 n] [tB 0 (dY n)]:=by
 refine sb Tryz.func111 rfl (sq (rT [0] (s1 (sq (rT [2] (s1 (xp (dM _ _ _) (ai rfl ?_))))))))
 refine s1 (rt (aU rfl ?_))
 first|rfl|(simp;done)|(simp_all;done)
theorem dT (n:Int):Sp 130 1 [tI 0 n] [tB 0 (dY n)]:=by
 refine sb Tryz.func130 rfl (sq (rT [0] (s1 (sq (rT [2] (s1 (xp (dU _ _ _) (ai rfl ?_))))))))
 refine s1 (rt (aU rfl ?_))
 first|rfl|(simp;done)|(simp_all;done)
theorem sE (a b c d:Int):Sp 226 4 [tI 0 a,tI 1 b,tI 2 c,tI 3 d] [tB 0 (cD a b c d)]:=by
 refine sb Tryz.func226 rfl (sq (rT [0,1,2,3] (s1 (sq (rT [8] (s4 (y4 (y3 (ai (fun h=>pk) (ai rk (ai pk (s1 (rt (aU rfl (aA D.b ?_)))))))))))))))
 simp[cD,gb]
theorem qW (a b c d:Int):Sp 225 4 [tI 0 a,tI 1 b,tI 2 c,tI 3 d] [tB 0 (cD a b c d)]:=by
 refine sb Tryz.func225 rfl (sq (rT [0,1,2,3] (s1 (sq (rT [8] (s4 (y4 (y3 (ai (fun h=>pk) (ai rk (ai pk (s1 (rt (aU rfl (aA D.b ?_)))))))))))))))
 simp[cD,gb]
theorem yt (m:bU):Sp 227 1 [tV 0 m.V] [tB 0 (jQ m)]:=by
 refine sb Tryz.func227 rfl (sq (rT [1] (s2 (sq (rT [2] (s2 (xp (eB _) (ai rfl ?_))))))))
 refine s1 (y2 (xc (fun h=>(dM _ _ _)) (ai rfl (ai rk ?_))))
 refine ai pk (s1 (y2 (xc (fun h=>(dM _ _ _)) (ai rfl (ai rk ?_)))))
 refine ai pk (s1 (rt (aU rfl (aA D.b ?_))))
 simp[jQ,gb]
theorem yu (s:List UInt8) (hl:s.length≤140737488355328):Sp 197 1 [tD 0 (.s s)] [tB 0 (yY s)]:=by
 refine sb Tryz.func197 rfl (sq (rT [0] (s1 (sq (sq (rT [0,3] (s1 (bk (SW.loopW (n:=s.length) (fun n q=> ∃i:Nat,n=s.length - i∧i≤s.length∧(∀k,k<i→vA s k=true)∧q=[tD 0 (.s s),tI 3 (i:Nat)]) ?_ ?_)))))))))
 · exact wq (σ':=[tD 0 (.s s),tI 3 (0:Nat)]) [] [] (⟨0,rfl,aVv _,fun k h=>absurd h (by omega),rfl⟩) qz
 rintro n s ⟨i,rfl,hi,hk,rfl⟩
 refine sq (sq (rT [0,3,7] (s4 (cd rfl (fun c7=> ?_) fun c7=> ?_))))
 · have hi2:i<s.length:=by simpa using c7
   have hb8:=ou s i
   have hw:wrap64 ((s.getD ((i:Nat):Int).toNat 0).toNat:Int)=pL s i:=aF (by unfold pL at hb8;rw[aVr];omega)
   refine sk (sq (bk (sq (rT [0,3,15] (s2 (ai (by exact⟨by omega,by omega⟩) (s1 (xp (dM _ _ _) (ai rfl ?_)))))))))
   refine s1 (cd rfl (fun c15=> ?_) fun c15=> ?_)
   · refine sq (rT [2] (s1 (rt (aU rfl (aA D.b ?_)))))
     have hs:vA s i=false:=by
      have h9:=c15
      rw[hw] at h9
      simpa[vA] using h9
     rw[yY,fB hi2 hs];rfl
   refine sk (rT [0,3] (s3 ?_))
   have hs:vA s i=true:=by
    have h9:=c15
    rw[hw] at h9
    simpa[vA] using h9
   refine wq [] [] (⟨s.length - (i+1),by omega,i+1,rfl,by omega,fun k h=>by by_cases e:k=i;exact e▸hs;exact hk k (by omega),rfl⟩) ?_
   repeat' apply ai
   all_goals first|exact qx|exact aA D.i (aF (by omega))|exact qz
 have hi3:i=s.length:=by simp at c7;omega
 refine xt (sq (rT [2] (s2 (xp (dM _ _ _) (ai rfl ?_)))))
 refine s1 (rt (aU rfl (aA D.b ?_)))
 subst hi3
 rw[yY,gX hk];rfl
theorem sF (n:bA) (hl:n.text.length≤140737488355328):Sp 153 1 [tV 0 n.V] [tB 0 (dZ n)]:=by
 refine sb Tryz.func153 rfl (sq (rT [1] (s2 (sq (rT [2] (s2 (xp (eB _) (ai rfl ?_))))))))
 refine s1 (y2 (xc (fun h=>(eB _)) (ai rfl (ai rk ?_))))
 refine ai pk (s1 (y2 (xc (fun h=>(dM _ _ _)) (ai rfl (ai rk ?_)))))
 refine ai pk (s1 (y2 (xc (fun h=>(dM _ _ _)) (ai rfl (ai rk ?_)))))
 refine ai pk (s1 (y2 (xc (fun h=>(yu n.text hl)) (ai rfl (ai rk ?_)))))
 refine ai pk (s1 (rt (aU rfl (aA D.b ?_))))
 simp[dZ,gb,Bool.and_assoc]
theorem wV (n:bA) (hl:n.text.length≤140737488355328):Sp 152 1 [tV 0 n.V] [tB 0 (dZ n)]:=by
 refine sb Tryz.func152 rfl (sq (rT [1] (s2 (sq (sq (rT [1,37] (s2 (xp (dT _) (ai rfl ?_)))))))))
 refine s2 (y2 (xc (fun h=>(dT _)) (ai rfl (ai rk ?_))))
 refine y1 (ai pk (s1 (y2 (xc (fun h=>(dU _ _ _)) (ai rfl (ai rk ?_))))))
 refine y1 (ai pk (s1 (y2 (xc (fun h=>(dU _ _ _)) (ai rfl (ai rk ?_))))))
 refine y1 (ai pk (s1 (y4 (ai pk (s1 (y4 (ai pk (cd rfl (fun c37=> ?_) fun c37=> ?_))))))))
 · refine sq (rT [2] (s1 (rt (aU rfl (aA D.b ?_)))))
   cases h:dZ n with
   |false=>rfl
   |true=>
    exfalso
    simp only[dZ,yY,aVu] at h
    obtain⟨⟨⟨⟨h1,h2⟩,h3⟩,h4⟩,h5,h6⟩:=h
    simp only[gT,aVu,aD] at h6
    simp only[h1,h2,h3,h4,Bool.not_true,Bool.false_or,aWc,aD] at c37
    omega
 have hf:dY n.frm=true∧dY n.to=true∧gT n.num 1 99=true∧gT n.til 1 999=true∧1≤n.text.length∧n.text.length≤24:=by
  simp only[gb,Bool.or_eq_false_iff,Bool.not_eq_false,decide_eq_false_iff_not,Bool.not_eq_eq_eq_not,Bool.not_false] at c37
  grind
 refine sk (sq (sq (rT [1,3] (s1 (bk (SW.loopW (n:=n.text.length) (fun m q=> ∃i:Nat,m=n.text.length - i∧i≤n.text.length∧(∀k,k<i→vA n.text k=true)∧q=[tP 1 1,tI 3 (i:Nat),oB 1 52 [.d (.i n.frm),.d (.i n.num),.d (.i n.to),.d (.i n.til),.d (.s n.text)]]) ?_ ?_))))))
 · exact wq (σ':=[tP 1 1,tI 3 (0:Nat),oB 1 52 [.d (.i n.frm),.d (.i n.num),.d (.i n.to),.d (.i n.til),.d (.s n.text)]]) [] [] (⟨0,rfl,aVv _,fun k h=>absurd h (by omega),rfl⟩) qz
 rintro n s ⟨i,rfl,hi,hk,rfl⟩
 refine sq (sq (rT [1,3,42] (s5 (cd rfl (fun c42=> ?_) fun c42=> ?_))))
 · have hi2:i<n.text.length:=by simpa using c42
   refine sk (sq (bk (sq (rT [1,3,56] (s3 (ai (by exact⟨by omega,by omega⟩) (s2 (y3 (ai (fun h=>(by exact⟨by omega,by omega⟩)) (ai rk (y1 (ai pk (cd rfl (fun c56=> ?_) fun c56=> ?_)))))))))))))
   · refine sq (rT [2] (s1 (rt (aU rfl (aA D.b ?_)))))
     have hs:vA n.text i=false:=by
      have h9:=c56
      rw[aVr] at h9
      simp[gb] at h9
      simp[vA,gT,pL];omega
     rw[dZ,yY,fB hi2 hs];simp
   refine sk (rT [1,3] (s3 ?_))
   have hs:vA n.text i=true:=by
    have h9:=c56
    rw[aVr] at h9
    simp[gb] at h9
    simp[vA,gT,pL];omega
   refine wq [] [] (⟨n.text.length - (i+1),by omega,i+1,rfl,by omega,fun k h=>by by_cases e:k=i;exact e▸hs;exact hk k (by omega),rfl⟩) ?_
   repeat' apply ai
   all_goals first|exact qx|exact aA D.i (aF (by omega))|exact qz
 have hi3:i=n.text.length:=by simp at c42;omega
 refine xt (sq (rT [2] (s1 (rt (aU rfl (aA D.b ?_))))))
 subst hi3
 obtain⟨h1,h2,h3,h4,h5,h6⟩:=hf
 rw[dZ,yY,gX hk,h1,h2,h3,h4]
 simp[gT];omega
theorem jK (l:List bA) (f m:Int) (hl:l.length≤1000000):Sp 96 3 [tD 0 (.sl (aH l)),tI 1 f,tI 2 m] [tI 0 (aW l f m)]:=by
 refine sb Tryz.func96 rfl (sq (rT [0,1,2] (s1 (sq (sq (rT [1,2,9,10,11] (s3 (bk (SW.loopW (n:=l.length) (fun n q=> ∃i:Nat,n=l.length - i∧i≤l.length∧(∀k,k<i→oD l f m k=false)∧q=[tI 1 f,tI 2 m,tD 9 (.sl (aH l)),tI 10 (l.length:Nat),tI 11 (i:Nat)]) ?_ ?_)))))))))
 · refine wq (σ':=[tI 1 f,tI 2 m,tD 9 (.sl (aH l)),tI 10 (l.length:Nat),tI 11 (0:Nat)]) [] [] (⟨0,rfl,aVv _,fun k h=>absurd h (by omega),rfl⟩) ?_
   repeat' apply ai
   all_goals first|exact qx|(rw[aG];done)|rfl|exact qz
 rintro n s ⟨i,rfl,hi,hk,rfl⟩
 refine sq (rT [1,2,9,10,11,12] (s1 (sq (cd rfl (fun c12=> ?_) fun c12=> ?_))))
 · have hi2:i<l.length:=by simpa using c12
   have hg:=aV (l:=l) hi2
   refine sk (sq (bk (sq (rT [1,2,7,8,9,10,11] (s1 (ai (by rw[aVr,hg];exact⟨⟨by omega,by rw[aG];omega⟩,rfl⟩) (ai (by rw[aVr,hg];exact⟨aVs rfl,rfl⟩) (s3 (sq (rT [1,2,7,9,10,11,25] (s5 (y4 (ai pk (cd rfl (fun c25=> ?_) fun c25=> ?_))))))))))))))
   · refine sq (rT [6] (s2 (rt (aU rfl (aA D.i ?_)))))
     have hs:oD l f m i=true:=by
      have h9:=c25
      rw[aVr,hg] at h9
      exact h9
     exact(kY (aVv _) (by omega) (fun j _ h=>hk j h) hs).symm
   refine sk (rT [1,2,9,10,11] (s2 ?_))
   have hs:oD l f m i=false:=by
    have h9:=c25
    rw[aVr,hg] at h9
    exact h9
   refine wq [] [] (⟨l.length - (i+1),by omega,i+1,rfl,by omega,fun k h=>by by_cases e:k=i;exact e▸hs;exact hk k (by omega),rfl⟩) ?_
   repeat' apply ai
   all_goals first|exact qx|exact aA D.i (aF (by omega))|exact qz
 have hi3:i=l.length:=by simp at c12;omega
 refine xt (sq (rT [6] (s1 (rt (aU rfl (aA D.i ?_))))))
 exact(lF (fun j _ h=>hk j (by omega))).symm
theorem gG (l:List bA) (f m:Int) (hl:l.length≤1000000):Sp 94 3 [tD 0 (.sl (aH l)),tI 1 f,tI 2 m] [tI 0 (aW l f m)]:=by
 refine sb Tryz.func94 rfl (sq (rT [0,1,2] (s1 (sq (sq (rT [0,1,2,7] (s1 (bk (SW.loopW (n:=l.length) (fun n q=> ∃i:Nat,n=l.length - i∧i≤l.length∧(∀k,k<i→oD l f m k=false)∧q=[tD 0 (.sl (aH l)),tI 1 f,tI 2 m,tI 7 (i:Nat)]) ?_ ?_)))))))))
 · exact wq (σ':=[tD 0 (.sl (aH l)),tI 1 f,tI 2 m,tI 7 (0:Nat)]) [] [] (⟨0,rfl,aVv _,fun k h=>absurd h (by omega),rfl⟩) qz
 rintro n s ⟨i,rfl,hi,hk,rfl⟩
 refine sq (sq (rT [0,1,2,7,11] (s4 (cd rfl (fun c11=> ?_) fun c11=> ?_))))
 · have hi2:i<l.length:=by simpa[aG] using c11
   have hg:=aV (l:=l) hi2
   refine sk (sq (bk (sq (rT [0,1,2,7,29] (s2 (ai (by rw[aVr,hg];exact⟨⟨by omega,by rw[aG];omega⟩,rfl⟩) (s1 (ai (by rw[aVr,hg];exact⟨aVs rfl,rfl⟩) (s3 (y2 (ai (fun h=>(by rw[aVr,hg];exact⟨⟨by omega,by rw[aG];omega⟩,rfl⟩)) (ai rk (y1 (ai (fun h=>(by rw[aVr,hg];exact⟨aVs rfl,rfl⟩)) (ai rk (y2 (ai pk (cd rfl (fun c29=> ?_) fun c29=> ?_))))))))))))))))))
   · refine sq (rT [6] (s2 (rt (aU rfl (aA D.i ?_)))))
     have hs:oD l f m i=true:=by
      have h9:=c29
      rw[aVr,hg] at h9
      exact h9
     exact(kY (aVv _) (by omega) (fun j _ h=>hk j h) hs).symm
   refine sk (rT [0,1,2,7] (s3 ?_))
   have hs:oD l f m i=false:=by
    have h9:=c29
    rw[aVr,hg] at h9
    exact h9
   refine wq [] [] (⟨l.length - (i+1),by omega,i+1,rfl,by omega,fun k h=>by by_cases e:k=i;exact e▸hs;exact hk k (by omega),rfl⟩) ?_
   repeat' apply ai
   all_goals first|exact qx|exact aA D.i (aF (by omega))|exact qz
 have hi3:i=l.length:=by simp[aG] at c11;omega
 refine xt (sq (rT [6] (s1 (rt (aU rfl (aA D.i ?_))))))
 exact(lF (fun j _ h=>hk j (by omega))).symm
theorem oM (l:List bU) (f m:Int) (hl:l.length≤1000000):Sp 162 3 [tD 0 (.sl (aM l)),tI 1 f,tI 2 m] [tI 0 (fM l f m)]:=by
 refine sb Tryz.func162 rfl (sq (rT [0,1,2] (s1 (sq (sq (rT [1,2,9,10,11] (s3 (bk (SW.loopW (n:=l.length) (fun n q=> ∃i:Nat,n=l.length - i∧i≤l.length∧(∀k,k<i→rO l f m k=false)∧q=[tI 1 f,tI 2 m,tD 9 (.sl (aM l)),tI 10 (l.length:Nat),tI 11 (i:Nat)]) ?_ ?_)))))))))
 · refine wq (σ':=[tI 1 f,tI 2 m,tD 9 (.sl (aM l)),tI 10 (l.length:Nat),tI 11 (0:Nat)]) [] [] (⟨0,rfl,aVv _,fun k h=>absurd h (by omega),rfl⟩) ?_
   repeat' apply ai
   all_goals first|exact qx|(rw[aI];done)|rfl|exact qz
 rintro n s ⟨i,rfl,hi,hk,rfl⟩
 refine sq (rT [1,2,9,10,11,12] (s1 (sq (cd rfl (fun c12=> ?_) fun c12=> ?_))))
 · have hi2:i<l.length:=by simpa using c12
   have hg:=bQ (l:=l) hi2
   refine sk (sq (bk (sq (rT [1,2,7,8,9,10,11] (s1 (ai (by rw[aVr,hg];exact⟨⟨by omega,by rw[aI];omega⟩,rfl⟩) (ai (by rw[aVr,hg];exact⟨aVs rfl,rfl⟩) (s3 (sq (rT [1,2,7,9,10,11,25] (s5 (y4 (ai pk (cd rfl (fun c25=> ?_) fun c25=> ?_))))))))))))))
   · refine sq (rT [6] (s2 (rt (aU rfl (aA D.i ?_)))))
     have hs:rO l f m i=true:=by
      have h9:=c25
      rw[aVr,hg] at h9
      exact h9
     exact(kY (aVv _) (by omega) (fun j _ h=>hk j h) hs).symm
   refine sk (rT [1,2,9,10,11] (s2 ?_))
   have hs:rO l f m i=false:=by
    have h9:=c25
    rw[aVr,hg] at h9
    exact h9
   refine wq [] [] (⟨l.length - (i+1),by omega,i+1,rfl,by omega,fun k h=>by by_cases e:k=i;exact e▸hs;exact hk k (by omega),rfl⟩) ?_
   repeat' apply ai
   all_goals first|exact qx|exact aA D.i (aF (by omega))|exact qz
 have hi3:i=l.length:=by simp at c12;omega
 refine xt (sq (rT [6] (s1 (rt (aU rfl (aA D.i ?_))))))
 exact(lF (fun j _ h=>hk j (by omega))).symm
theorem nA (l:List bU) (f m:Int) (hl:l.length≤1000000):Sp 155 3 [tD 0 (.sl (aM l)),tI 1 f,tI 2 m] [tI 0 (fM l f m)]:=by
 refine sb Tryz.func155 rfl (sq (rT [0,1,2] (s1 (sq (sq (rT [0,1,2,7] (s1 (bk (SW.loopW (n:=l.length) (fun n q=> ∃i:Nat,n=l.length - i∧i≤l.length∧(∀k,k<i→rO l f m k=false)∧q=[tD 0 (.sl (aM l)),tI 1 f,tI 2 m,tI 7 (i:Nat)]) ?_ ?_)))))))))
 · exact wq (σ':=[tD 0 (.sl (aM l)),tI 1 f,tI 2 m,tI 7 (0:Nat)]) [] [] (⟨0,rfl,aVv _,fun k h=>absurd h (by omega),rfl⟩) qz
 rintro n s ⟨i,rfl,hi,hk,rfl⟩
 refine sq (sq (rT [0,1,2,7,11] (s4 (cd rfl (fun c11=> ?_) fun c11=> ?_))))
 · have hi2:i<l.length:=by simpa[aI] using c11
   have hg:=bQ (l:=l) hi2
   refine sk (sq (bk (sq (rT [0,1,2,7,29] (s2 (ai (by rw[aVr,hg];exact⟨⟨by omega,by rw[aI];omega⟩,rfl⟩) (s1 (ai (by rw[aVr,hg];exact⟨aVs rfl,rfl⟩) (s3 (y2 (ai (fun h=>(by rw[aVr,hg];exact⟨⟨by omega,by rw[aI];omega⟩,rfl⟩)) (ai rk (y1 (ai (fun h=>(by rw[aVr,hg];exact⟨aVs rfl,rfl⟩)) (ai rk (y2 (ai pk (cd rfl (fun c29=> ?_) fun c29=> ?_))))))))))))))))))
   · refine sq (rT [6] (s2 (rt (aU rfl (aA D.i ?_)))))
     have hs:rO l f m i=true:=by
      have h9:=c29
      rw[aVr,hg] at h9
      exact h9
     exact(kY (aVv _) (by omega) (fun j _ h=>hk j h) hs).symm
   refine sk (rT [0,1,2,7] (s3 ?_))
   have hs:rO l f m i=false:=by
    have h9:=c29
    rw[aVr,hg] at h9
    exact h9
   refine wq [] [] (⟨l.length - (i+1),by omega,i+1,rfl,by omega,fun k h=>by by_cases e:k=i;exact e▸hs;exact hk k (by omega),rfl⟩) ?_
   repeat' apply ai
   all_goals first|exact qx|exact aA D.i (aF (by omega))|exact qz
 have hi3:i=l.length:=by simp[aI] at c11;omega
 refine xt (sq (rT [6] (s1 (rt (aU rfl (aA D.i ?_))))))
 exact(lF (fun j _ h=>hk j (by omega))).symm
theorem aC2 (id:Int) (n:bA):Sp 193 2 [tI 0 id,tV 1 n.V] [tB 0 (ek id n)]:=by
 refine sb Tryz.func193 rfl (sq (rT [0,3] (s2 (sq (rT [4] (s5 (y4 (y1 (xc (fun h=>(dM _ _ _)) (ai rfl (ai rk ?_)))))))))))
 refine y4 (y2 (xc (fun h=>(dM _ _ _)) (ai rfl (ai rk ?_))))
 refine ai (fun h=>pk) (ai rk (ai pk (s1 (rt (aU rfl (aA D.b ?_))))))
 first|(simp only[ek,gT,gb];done)|(simp only[ek,gT,gb];grind)
theorem yv (n:bA) (id:Int):Sp 190 2 [tV 0 n.V,tI 1 id] [tB 0 (ek id n)]:=by
 refine sb Tryz.func190 rfl (sq (rT [1,2] (s2 (sq (rT [4] (s5 (y4 (ai pk (s1 (y4 (y4 (y1 (ai (fun h=>pk) (ai rk (ai pk (s1 (rt (aU rfl (aA D.b ?_)))))))))))))))))))
 first|(simp only[ek,gT,gb];done)|(simp only[ek,gT,gb];grind)
theorem cl (l:List bA) (hx: ∀x∈l,x.text.length≤140737488355328) (hl:l.length≤100000):Sp 191 1 [tD 0 (.sl (aH l))] [tB 0 (iZ l)]:=by
 refine sb Tryz.func191 rfl (sq (rT [0] (s1 (sq (sq (rT [0,5,6,7] (s3 (bk (SW.loopW (n:=l.length) (fun n q=> ∃i:Nat,n=l.length - i∧i≤l.length∧(∀k,k<i→lR l k=true)∧q=[tD 0 (.sl (aH l)),tD 5 (.sl (aH l)),tI 6 (l.length:Nat),tI 7 (i:Nat)]) ?_ ?_)))))))))
 · refine wq (σ':=[tD 0 (.sl (aH l)),tD 5 (.sl (aH l)),tI 6 (l.length:Nat),tI 7 (0:Nat)]) [] [] (⟨0,rfl,aVv _,fun k h=>absurd h (by omega),rfl⟩) ?_
   repeat' apply ai
   all_goals first|exact qx|(rw[aG];done)|rfl|exact qz
 rintro n s ⟨i,rfl,hi,hk,rfl⟩
 refine sq (rT [0,5,6,7,8] (s1 (sq (cd rfl (fun c8=> ?_) fun c8=> ?_))))
 · have hi2:i<l.length:=by simpa using c8
   have hg:=aV (l:=l) hi2
   have hmem:l.getD i .zero∈l:=by rw[aVy,aV1 hi2];exact List.getElem_mem _
   refine sk (sq (bk (sq (rT [0,3,4,5,6,7] (s1 (ai (by rw[aVr,hg];exact⟨⟨by omega,by rw[aG];omega⟩,rfl⟩) (ai (by rw[aVr,hg];exact⟨aVs rfl,rfl⟩) (s3 (sq (rD [0,5,6,7,38] (s1 (xp (sF (l.getD i .zero) (hx _ hmem)) (ai (by rw[aVr,hg];rfl) ?_)))))))))))))
   refine s2 (y4 (y2 (ai (fun h=>(by have h0:0<i:=(by have h9:=h;simp[gb] at h9;omega);rw[eS h0 (by omega),aVr,aV (by omega),aG];exact⟨⟨by omega,by omega⟩,rfl⟩)) (ai rk (y1 (ai (fun h=>(by have h0:0<i:=(by have h9:=h;simp[gb] at h9;omega);rw[eS h0 (by omega),aVr,aV (by omega)];exact⟨aVs rfl,rfl⟩)) (ai rk (y3 (ai (fun h=>(by have h0:0<i:=(by have h9:=h;simp[gb] at h9;omega);rw[eS h0 (by omega),aVr,aV (by omega),aG];exact⟨⟨by omega,by omega⟩,rfl⟩)) (ai rk (y1 (ai (fun h=>(by have h0:0<i:=(by have h9:=h;simp[gb] at h9;omega);rw[eS h0 (by omega),aVr,aV (by omega)];exact⟨aVs rfl,rfl⟩)) (ai rk (y4 (xc (fun h=>(sE _ _ _ _)) (ai rfl (ai rk ?_)))))))))))))))))
   refine y1 (ai (fun h=>pk) (ai rk (ai pk (ai (by kernel_rfl) (cd rfl (fun c38=> ?_) fun c38=> ?_)))))
   · refine sq (rT [2] (s1 (rt (aU rfl (aA D.b ?_)))))
     have hs:lR l i=false:=tX c38 (fun h0=>by simp only[eS h0 (show i≤1000000 by omega),aVr,hg,aV (show i - 1<l.length by omega)];rfl)
     rw[iZ,fB hi2 hs]
   refine sk (rT [0,5,6,7] (s2 ?_))
   have hs:lR l i=true:=tX c38 (fun h0=>by simp only[eS h0 (show i≤1000000 by omega),aVr,hg,aV (show i - 1<l.length by omega)];rfl)
   refine wq [] [] (⟨l.length - (i+1),by omega,i+1,rfl,by omega,fun k h=>by by_cases e:k=i;exact e▸hs;exact hk k (by omega),rfl⟩) ?_
   repeat' apply ai
   all_goals first|exact qx|exact aA D.i (aF (by omega))|exact qz
 have hi3:i=l.length:=by simp at c8;omega
 refine xt (sq (rT [2] (s1 (rt (aU rfl (aA D.b ?_))))))
 subst hi3
 rw[iZ,gX hk]
theorem aw (l:List bA) (most:Int) (hx: ∀x∈l,x.text.length≤140737488355328) (hl:l.length≤100000):Sp 188 2 [tD 0 (.sl (aH l)),tI 1 most] [tB 0 (decide ((l.length:Int)≤most)&&iZ l)]:=by
 refine sb Tryz.func188 rfl (sq (rT [0,1] (s1 (sq (sq (rT [0,9] (s4 (cd rfl (fun c9=> ?_) fun c9=> ?_))))))))
 · refine sq (rT [4] (s1 (rt (aU rfl (aA D.b ?_)))))
   simp[aG] at c9
   simp[Int.not_le.2 c9]
 have hm: (l.length:Int)≤most:=by simp[aG] at c9;omega
 refine sk (sq (sq (rT [0,5] (s1 (bk (SW.loopW (n:=l.length) (fun n q=> ∃i:Nat,n=l.length - i∧i≤l.length∧(∀k,k<i→lR l k=true)∧q=[tD 0 (.sl (aH l)),tI 5 (i:Nat)]) ?_ ?_))))))
 · exact wq (σ':=[tD 0 (.sl (aH l)),tI 5 (0:Nat)]) [] [] (⟨0,rfl,aVv _,fun k h=>absurd h (by omega),rfl⟩) qz
 rintro n s ⟨i,rfl,hi,hk,rfl⟩
 refine sq (sq (rT [0,5,13] (s4 (cd rfl (fun c13=> ?_) fun c13=> ?_))))
 · have hi2:i<l.length:=by simpa[aG] using c13
   have hg:=aV (l:=l) hi2
   have hmem:l.getD i .zero∈l:=by rw[aVy,aV1 hi2];exact List.getElem_mem _
   refine sk (sq (bk (sq (rD [0,5,51] (s2 (ai (by rw[aVr,hg];exact⟨⟨by omega,by rw[aG];omega⟩,rfl⟩) (ai (by rw[aVr,hg];exact⟨aVs rfl,rfl⟩) (xp (wV (l.getD i .zero) (hx _ hmem)) (ai (by rw[aVr,hg];rfl) ?_)))))))))
   refine s2 (y4 (y2 (ai (fun h=>(by have h0:0<i:=(by have h9:=h;simp[gb] at h9;omega);rw[eS h0 (by omega),aVr,aV (by omega),aG];exact⟨⟨by omega,by omega⟩,rfl⟩)) (ai rk (y1 (ai (fun h=>(by have h0:0<i:=(by have h9:=h;simp[gb] at h9;omega);rw[eS h0 (by omega),aVr,aV (by omega)];exact⟨aVs rfl,rfl⟩)) (ai rk (y3 (ai (fun h=>(by have h0:0<i:=(by have h9:=h;simp[gb] at h9;omega);rw[eS h0 (by omega),aVr,aV (by omega),aG];exact⟨⟨by omega,by omega⟩,rfl⟩)) (ai rk (y1 (ai (fun h=>(by have h0:0<i:=(by have h9:=h;simp[gb] at h9;omega);rw[eS h0 (by omega),aVr,aV (by omega)];exact⟨aVs rfl,rfl⟩)) (ai rk (y2 (ai (fun h=>(by rw[aVr,hg];exact⟨⟨by omega,by rw[aG];omega⟩,rfl⟩)) (ai rk (y1 (ai (fun h=>(by rw[aVr,hg];exact⟨aVs rfl,rfl⟩)) (ai rk (y2 (ai (fun h=>(by rw[aVr,hg];exact⟨⟨by omega,by rw[aG];omega⟩,rfl⟩)) (ai rk (y1 (ai (fun h=>(by rw[aVr,hg];exact⟨aVs rfl,rfl⟩)) (ai rk (xc (fun h=>(qW _ _ _ _)) (ai rfl (ai rk ?_))))))))))))))))))))))))))))
   refine y1 (ai (fun h=>pk) (ai rk (ai pk (ai (by kernel_rfl) (cd rfl (fun c51=> ?_) fun c51=> ?_)))))
   · refine sq (rT [4] (s1 (rt (aU rfl (aA D.b ?_)))))
     have hs:lR l i=false:=tX c51 (fun h0=>by simp only[eS h0 (show i≤1000000 by omega),aVr,hg,aV (show i - 1<l.length by omega)];rfl)
     rw[iZ,fB hi2 hs];simp
   refine sk (rT [0,5] (s3 ?_))
   have hs:lR l i=true:=tX c51 (fun h0=>by simp only[eS h0 (show i≤1000000 by omega),aVr,hg,aV (show i - 1<l.length by omega)];rfl)
   refine wq [] [] (⟨l.length - (i+1),by omega,i+1,rfl,by omega,fun k h=>by by_cases e:k=i;exact e▸hs;exact hk k (by omega),rfl⟩) ?_
   repeat' apply ai
   all_goals first|exact qx|exact aA D.i (aF (by omega))|exact qz
 have hi3:i=l.length:=by simp[aG] at c13;omega
 refine xt (sq (rT [4] (s1 (rt (aU rfl (aA D.b ?_))))))
 subst hi3
 rw[iZ,gX hk];simp[hm]
theorem wc (l:List bU) (hl:l.length≤100000):Sp 192 1 [tD 0 (.sl (aM l))] [tB 0 (nJ l)]:=by
 refine sb Tryz.func192 rfl (sq (rT [0] (s1 (sq (sq (rT [0,5,6,7] (s3 (bk (SW.loopW (n:=l.length) (fun n q=> ∃i:Nat,n=l.length - i∧i≤l.length∧(∀k,k<i→lS l k=true)∧q=[tD 0 (.sl (aM l)),tD 5 (.sl (aM l)),tI 6 (l.length:Nat),tI 7 (i:Nat)]) ?_ ?_)))))))))
 · refine wq (σ':=[tD 0 (.sl (aM l)),tD 5 (.sl (aM l)),tI 6 (l.length:Nat),tI 7 (0:Nat)]) [] [] (⟨0,rfl,aVv _,fun k h=>absurd h (by omega),rfl⟩) ?_
   repeat' apply ai
   all_goals first|exact qx|(rw[aI];done)|rfl|exact qz
 rintro n s ⟨i,rfl,hi,hk,rfl⟩
 refine sq (rT [0,5,6,7,8] (s1 (sq (cd rfl (fun c8=> ?_) fun c8=> ?_))))
 · have hi2:i<l.length:=by simpa using c8
   have hg:=bQ (l:=l) hi2
   have hmem:l.getD i .zero∈l:=by rw[aVy,aV1 hi2];exact List.getElem_mem _
   refine sk (sq (bk (sq (rT [0,3,4,5,6,7] (s1 (ai (by rw[aVr,hg];exact⟨⟨by omega,by rw[aI];omega⟩,rfl⟩) (ai (by rw[aVr,hg];exact⟨aVs rfl,rfl⟩) (s3 (sq (rD [0,5,6,7,38] (s1 (xp (yt (l.getD i .zero)) (ai (by rw[aVr,hg];rfl) ?_)))))))))))))
   refine s2 (y4 (y2 (ai (fun h=>(by have h0:0<i:=(by have h9:=h;simp[gb] at h9;omega);rw[eS h0 (by omega),aVr,bQ (by omega),aI];exact⟨⟨by omega,by omega⟩,rfl⟩)) (ai rk (y1 (ai (fun h=>(by have h0:0<i:=(by have h9:=h;simp[gb] at h9;omega);rw[eS h0 (by omega),aVr,bQ (by omega)];exact⟨aVs rfl,rfl⟩)) (ai rk (y3 (ai (fun h=>(by have h0:0<i:=(by have h9:=h;simp[gb] at h9;omega);rw[eS h0 (by omega),aVr,bQ (by omega),aI];exact⟨⟨by omega,by omega⟩,rfl⟩)) (ai rk (y1 (ai (fun h=>(by have h0:0<i:=(by have h9:=h;simp[gb] at h9;omega);rw[eS h0 (by omega),aVr,bQ (by omega)];exact⟨aVs rfl,rfl⟩)) (ai rk (y4 (xc (fun h=>(sE _ _ _ _)) (ai rfl (ai rk ?_)))))))))))))))))
   refine y1 (ai (fun h=>pk) (ai rk (ai pk (ai (by kernel_rfl) (cd rfl (fun c38=> ?_) fun c38=> ?_)))))
   · refine sq (rT [2] (s1 (rt (aU rfl (aA D.b ?_)))))
     have hs:lS l i=false:=tY c38 (fun h0=>by simp only[eS h0 (show i≤1000000 by omega),aVr,hg,bQ (show i - 1<l.length by omega)];rfl)
     rw[nJ,fB hi2 hs]
   refine sk (rT [0,5,6,7] (s2 ?_))
   have hs:lS l i=true:=tY c38 (fun h0=>by simp only[eS h0 (show i≤1000000 by omega),aVr,hg,bQ (show i - 1<l.length by omega)];rfl)
   refine wq [] [] (⟨l.length - (i+1),by omega,i+1,rfl,by omega,fun k h=>by by_cases e:k=i;exact e▸hs;exact hk k (by omega),rfl⟩) ?_
   repeat' apply ai
   all_goals first|exact qx|exact aA D.i (aF (by omega))|exact qz
 have hi3:i=l.length:=by simp at c8;omega
 refine xt (sq (rT [2] (s1 (rt (aU rfl (aA D.b ?_))))))
 subst hi3
 rw[nJ,gX hk]
theorem oN (k:aX) (hx: ∀x∈k.held,x.text.length≤140737488355328) (hy: ∀x∈k.inbox,x.text.length≤140737488355328):Sp 148 1 [tV 0 k.V] [tB 0 (cP k)]:=by
 refine sb Tryz.func148 rfl (sq (rT [1] (s2 (sq (sq (rT [1,42] (s2 (xp (eB _) (ai rfl ?_)))))))))
 refine s2 (y2 (xc (fun h=>(dM _ _ _)) (ai rfl (ai rk ?_))))
 refine y1 (ai pk (s1 (y2 (xc (fun h=>(dM _ _ _)) (ai rfl (ai rk ?_))))))
 refine y1 (ai pk (s1 (y4 (ai pk (s1 (y4 (ai pk (s1 (y4 (ai pk (cd rfl (fun c42=> ?_) fun c42=> ?_)))))))))))
 · refine sq (rT [2] (s1 (rt (aU rfl (aA D.b ?_)))))
   refine(nL fun h=> ?_).symm
   obtain⟨⟨h1,h2,h3,h4,h5,h6⟩,⟨h7,h8,h9⟩,h10,h11,h12⟩:=(cG k).1 h
   simp only[gb,gT,aG,aI,h1,Bool.not_true,Bool.false_or,aWc,Bool.not_eq_eq_eq_not,Bool.and_eq_false_iff,aD,decide_eq_false_iff_not,Bool.not_eq_true'] at c42
   omega
 have hf:dY k.id=true∧(0≤k.time∧k.time≤999)∧(1≤k.next∧k.next≤100)∧k.held.length≤6∧k.marks.length≤12∧k.inbox.length≤6:=by
  simp only[gb,gT,aG,aI,Bool.or_eq_false_iff,Bool.not_eq_false,decide_eq_false_iff_not,Bool.not_eq_eq_eq_not,Bool.not_false,aVu,aD] at c42
  obtain⟨⟨⟨⟨⟨q1,q2⟩,q3⟩,q4⟩,q5⟩,q6⟩:=c42
  exact⟨q1,q2,q3,by omega,by omega,by omega⟩
 obtain⟨f1,f2,f3,f4,f5,f6⟩:=hf
 refine sk (sq (sq (rT [1,58] (s2 (xp (cl k.held hx (by omega)) (ai rfl ?_))))))
 refine s2 (y2 (xc (fun h=>(wc k.marks (by omega))) (ai rfl (ai rk ?_))))
 refine y1 (ai pk (s1 (y2 (xc (fun h=>(cl k.inbox hy (by omega))) (ai rfl (ai rk ?_))))))
 refine y1 (ai pk (cd rfl (fun c58=> ?_) fun c58=> ?_))
 · refine sq (rT [2] (s1 (rt (aU rfl (aA D.b ?_)))))
   refine(nL fun h=> ?_).symm
   obtain⟨⟨h1,h2,h3,h4,h5,h6⟩,⟨h7,h8,h9⟩,h10,h11,h12⟩:=(cG k).1 h
   rw[h7,h8,h9] at c58
   cases c58
 have hg3:iZ k.held=true∧nJ k.marks=true∧iZ k.inbox=true:=by
  simp only[gb,Bool.or_eq_false_iff,Bool.not_eq_false,Bool.not_eq_eq_eq_not,Bool.not_false] at c58
  exact⟨c58.1.1,c58.1.2,c58.2⟩
 refine sk (sq (sq (rT [1,60,61,62] (s4 (bk (SW.loopW (n:=k.held.length) (fun n q=> ∃i:Nat,n=k.held.length - i∧i≤k.held.length∧(∀j,j<i→vB k j=true)∧q=[tP 1 1,tD 60 (.sl (aH k.held)),tI 61 (k.held.length:Nat),tI 62 (i:Nat),oB 1 44 [.d (.i k.id),.d (.i k.time),.d (.i k.next),.d (.sl (aH k.held)),.d (.sl (aM k.marks)),.d (.sl (aH k.inbox))]]) ?_ ?_))))))
 · refine wq (σ':=[tP 1 1,tD 60 (.sl (aH k.held)),tI 61 (k.held.length:Nat),tI 62 (0:Nat),oB 1 44 [.d (.i k.id),.d (.i k.time),.d (.i k.next),.d (.sl (aH k.held)),.d (.sl (aM k.marks)),.d (.sl (aH k.inbox))]]) [] [] (⟨0,rfl,aVv _,fun j h=>absurd h (by omega),rfl⟩) ?_
   repeat' apply ai
   all_goals first|exact qx|(rw[aG];done)|rfl|exact qz
 rintro n s ⟨i,rfl,hi,hk,rfl⟩
 refine sq (rT [1,60,61,62,63] (s1 (sq (cd rfl (fun c63=> ?_) fun c63=> ?_))))
 · have hi2:i<k.held.length:=by simpa using c63
   have hg:=aV (l:=k.held) hi2
   refine sk (sq (bk (sq (rT [1,4,60,61,62] (ai (by rw[aVr,hg];exact⟨⟨by omega,by rw[aG];omega⟩,rfl⟩) (ai (by rw[aVr,hg];exact⟨aVs rfl,rfl⟩) (s2 (sq (wa [tP 1 1,tD 60 (.sl (aH k.held)),tI 61 (k.held.length:Nat),tI 62 (i:Nat),oB 1 44 [.d (.i k.id),.d (.i k.time),.d (.i k.next),.d (.sl (aH k.held)),.d (.sl (aM k.marks)),.d (.sl (aH k.inbox))],tP 4 4,oB 4 52 [.d (.i (k.held.getD i .zero).frm),.d (.i (k.held.getD i .zero).num),.d (.i (k.held.getD i .zero).to),.d (.i (k.held.getD i .zero).til),.d (.s (k.held.getD i .zero).text)]] [] [] ?_ ?_)))))))))
   · repeat' apply ai
     all_goals first|exact qx|(rw[aVr,hg];rfl)|exact qz
   refine rT [1,60,61,62,101] (s6 (y4 (y1 (ai pk (s1 (y4 (y1 (ai pk (s1 (y3 (xc (fun h=>(aC2 k.id (k.held.getD i .zero))) (ai rfl (ai rk ?_)))))))))))))
   refine y1 (ai pk (s1 (y4 (y2 (xc (fun h=>(oM k.marks _ _ (by omega))) (ai rfl (ai rk ?_)))))))
   refine y1 (ai pk (cd rfl (fun c101=> ?_) fun c101=> ?_))
   · refine sq (rT [2] (s1 (rt (aU rfl (aA D.b ?_)))))
     refine(nL fun h=> ?_).symm
     obtain⟨⟨h1,h2,h3,h4,h5,h6⟩,⟨h7,h8,h9⟩,h10,h11,h12⟩:=(cG k).1 h
     rw[fB hi2 (zA c101)] at h10
     cases h10
   refine sk (rT [1,60,61,62] (s2 ?_))
   have hs:vB k i=true:=zA c101
   refine wq [] [] (⟨k.held.length - (i+1),by omega,i+1,rfl,by omega,fun j h=>by by_cases e:j=i;exact e▸hs;exact hk j (by omega),rfl⟩) ?_
   repeat' apply ai
   all_goals first|exact qx|exact aA D.i (aF (by omega))|exact qz
 have hiA:i=k.held.length:=by simp at c63;omega
 have hkA:=hk
 clear hk hi
 refine xt (sq (sq (rT [1,104,105,106] (s4 (bk (SW.loopW (n:=k.marks.length) (fun n q=> ∃i:Nat,n=k.marks.length - i∧i≤k.marks.length∧(∀j,j<i→wQ k j=true)∧q=[tP 1 1,tD 104 (.sl (aM k.marks)),tI 105 (k.marks.length:Nat),tI 106 (i:Nat),oB 1 44 [.d (.i k.id),.d (.i k.time),.d (.i k.next),.d (.sl (aH k.held)),.d (.sl (aM k.marks)),.d (.sl (aH k.inbox))]]) ?_ ?_))))))
 · refine wq (σ':=[tP 1 1,tD 104 (.sl (aM k.marks)),tI 105 (k.marks.length:Nat),tI 106 (0:Nat),oB 1 44 [.d (.i k.id),.d (.i k.time),.d (.i k.next),.d (.sl (aH k.held)),.d (.sl (aM k.marks)),.d (.sl (aH k.inbox))]]) [] [] (⟨0,rfl,aVv _,fun j h=>absurd h (by omega),rfl⟩) ?_
   repeat' apply ai
   all_goals first|exact qx|(rw[aI];done)|rfl|exact qz
 rintro n s ⟨i,rfl,hi,hk,rfl⟩
 refine sq (rT [1,104,105,106,107] (s1 (sq (cd rfl (fun c107=> ?_) fun c107=> ?_))))
 · have hi2:i<k.marks.length:=by simpa using c107
   have hg:=bQ (l:=k.marks) hi2
   refine sk (sq (bk (sq (rT [1,6,104,105,106] (ai (by rw[aVr,hg];exact⟨⟨by omega,by rw[aI];omega⟩,rfl⟩) (ai (by rw[aVr,hg];exact⟨aVs rfl,rfl⟩) (s2 (sq (wa [tP 1 1,tD 104 (.sl (aM k.marks)),tI 105 (k.marks.length:Nat),tI 106 (i:Nat),oB 1 44 [.d (.i k.id),.d (.i k.time),.d (.i k.next),.d (.sl (aH k.held)),.d (.sl (aM k.marks)),.d (.sl (aH k.inbox))],tP 6 6,oB 6 162 [.d (.i (k.marks.getD i .zero).frm),.d (.i (k.marks.getD i .zero).num),.d (.i (k.marks.getD i .zero).til)]] [] [] ?_ ?_)))))))))
   · repeat' apply ai
     all_goals first|exact qx|(rw[aVr,hg];rfl)|exact qz
   refine rT [1,104,105,106,128] (s6 (y4 (y1 (ai pk (s1 (y4 (y1 (ai pk (cd rfl (fun c128=> ?_) fun c128=> ?_)))))))))
   · refine sq (rT [2] (s1 (rt (aU rfl (aA D.b ?_)))))
     refine(nL fun h=> ?_).symm
     obtain⟨⟨h1,h2,h3,h4,h5,h6⟩,⟨h7,h8,h9⟩,h10,h11,h12⟩:=(cG k).1 h
     rw[fB hi2 (zB c128)] at h11
     cases h11
   refine sk (rT [1,104,105,106] (s2 ?_))
   have hs:wQ k i=true:=zB c128
   refine wq [] [] (⟨k.marks.length - (i+1),by omega,i+1,rfl,by omega,fun j h=>by by_cases e:j=i;exact e▸hs;exact hk j (by omega),rfl⟩) ?_
   repeat' apply ai
   all_goals first|exact qx|exact aA D.i (aF (by omega))|exact qz
 have hiB:i=k.marks.length:=by simp at c107;omega
 have hkB:=hk
 clear hk hi
 refine xt (sq (sq (rT [1,131,132,133] (s4 (bk (SW.loopW (n:=k.inbox.length) (fun n q=> ∃i:Nat,n=k.inbox.length - i∧i≤k.inbox.length∧(∀j,j<i→sB k j=true)∧q=[tP 1 1,tD 131 (.sl (aH k.inbox)),tI 132 (k.inbox.length:Nat),tI 133 (i:Nat),oB 1 44 [.d (.i k.id),.d (.i k.time),.d (.i k.next),.d (.sl (aH k.held)),.d (.sl (aM k.marks)),.d (.sl (aH k.inbox))]]) ?_ ?_))))))
 · refine wq (σ':=[tP 1 1,tD 131 (.sl (aH k.inbox)),tI 132 (k.inbox.length:Nat),tI 133 (0:Nat),oB 1 44 [.d (.i k.id),.d (.i k.time),.d (.i k.next),.d (.sl (aH k.held)),.d (.sl (aM k.marks)),.d (.sl (aH k.inbox))]]) [] [] (⟨0,rfl,aVv _,fun j h=>absurd h (by omega),rfl⟩) ?_
   repeat' apply ai
   all_goals first|exact qx|(rw[aG];done)|rfl|exact qz
 rintro n s ⟨i,rfl,hi,hk,rfl⟩
 refine sq (rT [1,131,132,133,134] (s1 (sq (cd rfl (fun c134=> ?_) fun c134=> ?_))))
 · have hi2:i<k.inbox.length:=by simpa using c134
   have hg:=aV (l:=k.inbox) hi2
   refine sk (sq (bk (sq (rT [1,8,131,132,133] (ai (by rw[aVr,hg];exact⟨⟨by omega,by rw[aG];omega⟩,rfl⟩) (ai (by rw[aVr,hg];exact⟨aVs rfl,rfl⟩) (s2 (sq (wa [tP 1 1,tD 131 (.sl (aH k.inbox)),tI 132 (k.inbox.length:Nat),tI 133 (i:Nat),oB 1 44 [.d (.i k.id),.d (.i k.time),.d (.i k.next),.d (.sl (aH k.held)),.d (.sl (aM k.marks)),.d (.sl (aH k.inbox))],tP 8 8,oB 8 52 [.d (.i (k.inbox.getD i .zero).frm),.d (.i (k.inbox.getD i .zero).num),.d (.i (k.inbox.getD i .zero).to),.d (.i (k.inbox.getD i .zero).til),.d (.s (k.inbox.getD i .zero).text)]] [] [] ?_ ?_)))))))))
   · repeat' apply ai
     all_goals first|exact qx|(rw[aVr,hg];rfl)|exact qz
   refine rT [1,131,132,133,172] (s6 (y4 (y1 (ai pk (s1 (y4 (y1 (ai pk (s1 (y4 (y4 (y4 (xc (fun h=>(oM k.marks _ _ (by omega))) (ai rfl (ai rk ?_)))))))))))))))
   refine y1 (ai (fun h=>pk) (ai rk (ai pk (cd rfl (fun c172=> ?_) fun c172=> ?_))))
   · refine sq (rT [2] (s1 (rt (aU rfl (aA D.b ?_)))))
     refine(nL fun h=> ?_).symm
     obtain⟨⟨h1,h2,h3,h4,h5,h6⟩,⟨h7,h8,h9⟩,h10,h11,h12⟩:=(cG k).1 h
     rw[fB hi2 (vW c172)] at h12
     cases h12
   refine sk (rT [1,131,132,133] (s2 ?_))
   have hs:sB k i=true:=vW c172
   refine wq [] [] (⟨k.inbox.length - (i+1),by omega,i+1,rfl,by omega,fun j h=>by by_cases e:j=i;exact e▸hs;exact hk j (by omega),rfl⟩) ?_
   repeat' apply ai
   all_goals first|exact qx|exact aA D.i (aF (by omega))|exact qz
 have hiC:i=k.inbox.length:=by simp at c134;omega
 refine xt (sq (rT [2] (s1 (rt (aU rfl (aA D.b ?_))))))
 refine((cG k).2 ⟨⟨f1,f2,f3,f4,f5,f6⟩,hg3,gX ?_,gX ?_,gX ?_⟩).symm
 · rw[← hiA];exact hkA
 · rw[← hiB];exact hkB
 rw[← hiC];exact hk
theorem or4 (a b c d:Bool): (c||a||b||d)=(a||b||c||d):=by cases a<;>cases b<;>cases c<;>cases d<;>rfl
theorem or3 (a b c:Bool): (b||a||c)=(a||b||c):=by cases a<;>cases b<;>cases c<;>rfl
theorem or2 (a b:Bool): (b||a)=(a||b):=by cases a<;>cases b<;>rfl
theorem aR4 (a b c d:Bool): (!(a&&b&&c)||d)=(!a|| !b|| !c||d):=by cases a<;>cases b<;>cases c<;>cases d<;>rfl
theorem qn (l:List bU) (hl:l.length≤100000):Sp 189 1 [tD 0 (.sl (aM l))] [tB 0 (decide (l.length≤12)&&nJ l)]:=by
 refine sb Tryz.func189 rfl (sq (rT [0] (s1 (sq (sq (rT [0,7] (s3 (cd rfl (fun c7=> ?_) fun c7=> ?_))))))))
 · have hm: ¬l.length≤12:=by simp[aI] at c7;omega
   refine sq (rT [2] (s1 (rt (aU rfl (aA D.b ?_)))))
   simp[hm]
 have hm:l.length≤12:=by simp[aI] at c7;omega
 refine sk (sq (sq (rT [0,3] (s1 (bk (SW.loopW (n:=l.length) (fun n q=> ∃i:Nat,n=l.length - i∧i≤l.length∧(∀k,k<i→lS l k=true)∧q=[tD 0 (.sl (aM l)),tI 3 (i:Nat)]) ?_ ?_))))))
 · exact wq (σ':=[tD 0 (.sl (aM l)),tI 3 (0:Nat)]) [] [] (⟨0,rfl,aVv _,fun k h=>absurd h (by omega),rfl⟩) qz
 rintro n s ⟨i,rfl,hi,hk,rfl⟩
 refine sq (sq (rT [0,3,11] (s4 (cd rfl (fun c11=> ?_) fun c11=> ?_))))
 · have hi2:i<l.length:=by simpa[aI] using c11
   have hg:=bQ (l:=l) hi2
   refine sk (sq (bk (sq (rT [0,3,4] (s2 (ai (by rw[aVr,hg];exact⟨⟨by omega,by rw[aI];omega⟩,rfl⟩) (ai (by rw[aVr,hg];exact⟨aVs rfl,rfl⟩) (s2 (sq (wa [tD 0 (.sl (aM l)),tI 3 (i:Nat),tP 4 4,oB 4 162 [.d (.i (l.getD i .zero).frm),.d (.i (l.getD i .zero).num),.d (.i (l.getD i .zero).til)]] [] [] ?_ ?_))))))))))
   · repeat' apply ai
     all_goals first|exact qx|(rw[aVr,hg];rfl)|exact qz
   refine rD [0,3,57] (s2 (xp (dT _) (ai rfl ?_)))
   refine s2 (y2 (xc (fun h=>(dU _ _ _)) (ai rfl (ai rk ?_))))
   refine y1 (ai pk (s1 (y2 (xc (fun h=>(dU _ _ _)) (ai rfl (ai rk ?_))))))
   refine y1 (ai pk (s1 (y4 (y2 (ai (fun h=>(by have h0:0<i:=(by have h9:=h;simp[gb] at h9;omega);rw[eS h0 (by omega),aVr,bQ (by omega),aI];exact⟨⟨by omega,by omega⟩,rfl⟩)) (ai rk (y1 (ai (fun h=>(by have h0:0<i:=(by have h9:=h;simp[gb] at h9;omega);rw[eS h0 (by omega),aVr,bQ (by omega)];exact⟨aVs rfl,rfl⟩)) (ai rk (y3 (ai (fun h=>(by have h0:0<i:=(by have h9:=h;simp[gb] at h9;omega);rw[eS h0 (by omega),aVr,bQ (by omega),aI];exact⟨⟨by omega,by omega⟩,rfl⟩)) (ai rk (y1 (ai (fun h=>(by have h0:0<i:=(by have h9:=h;simp[gb] at h9;omega);rw[eS h0 (by omega),aVr,bQ (by omega)];exact⟨aVs rfl,rfl⟩)) (ai rk (y4 (xc (fun h=>(qW _ _ _ _)) (ai rfl (ai rk ?_)))))))))))))))))))
   refine y1 (ai (fun h=>pk) (ai rk (ai pk (ai (by kernel_rfl) (cd rfl (fun c57=> ?_) fun c57=> ?_)))))
   · refine sq (rT [2] (s1 (rt (aU rfl (aA D.b ?_)))))
     have hs:lS l i=false:=tY ((aR4 _ _ _ _).trans c57) (fun h0=>by simp only[eS h0 (show i≤1000000 by omega),aVr,bQ (show i - 1<l.length by omega)];rfl)
     rw[nJ,fB hi2 hs];simp
   refine sk (rT [0,3] (s3 ?_))
   have hs:lS l i=true:=tY ((aR4 _ _ _ _).trans c57) (fun h0=>by simp only[eS h0 (show i≤1000000 by omega),aVr,bQ (show i - 1<l.length by omega)];rfl)
   refine wq [] [] (⟨l.length - (i+1),by omega,i+1,rfl,by omega,fun k h=>by by_cases e:k=i;exact e▸hs;exact hk k (by omega),rfl⟩) ?_
   repeat' apply ai
   all_goals first|exact qx|exact aA D.i (aF (by omega))|exact qz
 have hi3:i=l.length:=by simp[aI] at c11;omega
 refine xt (sq (rT [2] (s1 (rt (aU rfl (aA D.b ?_))))))
 subst hi3
 rw[nJ,gX hk];simp[hm]
theorem wW (k:aX) (hb1:k.held.length≤100000∧k.marks.length≤100000∧k.inbox.length≤100000) (hx: ∀x∈k.held,x.text.length≤140737488355328) (hy: ∀x∈k.inbox,x.text.length≤140737488355328):Sp 145 1 [tV 0 k.V] [tB 0 (cP k)]:=by
 refine sb Tryz.func145 rfl (sq (rT [1] (s2 (sq (sq (rT [1,42] (s2 (xp (dT _) (ai rfl ?_)))))))))
 refine s2 (y2 (xc (fun h=>(dU _ _ _)) (ai rfl (ai rk ?_))))
 refine y1 (ai pk (s1 (y2 (xc (fun h=>(dU _ _ _)) (ai rfl (ai rk ?_))))))
 refine y1 (ai pk (s1 (y2 (xc (fun h=>(aw k.held 6 hx hb1.1)) (ai rfl (ai rk ?_))))))
 refine y1 (ai pk (s1 (y2 (xc (fun h=>(qn k.marks hb1.2.1)) (ai rfl (ai rk ?_))))))
 refine y1 (ai pk (s1 (y2 (xc (fun h=>(aw k.inbox 6 hy hb1.2.2)) (ai rfl (ai rk ?_))))))
 refine y1 (ai pk (cd rfl (fun c42=> ?_) fun c42=> ?_))
 · refine sq (rT [2] (s1 (rt (aU rfl (aA D.b ?_)))))
   refine(nL fun h=> ?_).symm
   obtain⟨⟨h1,h2,h3,h4,h5,h6⟩,⟨h7,h8,h9⟩,h10,h11,h12⟩:=(cG k).1 h
   have h4b: ((k.held.length:Int)≤6):=by omega
   have h6b: ((k.inbox.length:Int)≤6):=by omega
   simp only[gb,gT,h1,h7,h8,h9,h5,h4b,h6b,h2.1,h2.2,h3.1,h3.2,decide_true,Bool.and_true,Bool.not_true,Bool.or_false] at c42
   cases c42
 have hf: (dY k.id=true∧(0≤k.time∧k.time≤999)∧(1≤k.next∧k.next≤100)∧k.held.length≤6∧k.marks.length≤12∧k.inbox.length≤6)∧iZ k.held=true∧nJ k.marks=true∧iZ k.inbox=true:=by
  simp only[gb,gT,Bool.or_eq_false_iff,Bool.not_eq_false,decide_eq_false_iff_not,Bool.not_eq_eq_eq_not,Bool.not_false,aVu,aD] at c42
  obtain⟨⟨⟨⟨⟨q1,q2⟩,q3⟩,q4,q4b⟩,q5,q5b⟩,q6,q6b⟩:=c42
  exact⟨⟨q1,q2,q3,by omega,by omega,by omega⟩,q4b,q5b,q6b⟩
 obtain⟨⟨f1,f2,f3,f4,f5,f6⟩,hg3⟩:=hf
 refine sk (sq (sq (rT [1,3] (s1 (bk (SW.loopW (n:=k.held.length) (fun n q=> ∃i:Nat,n=k.held.length - i∧i≤k.held.length∧(∀j,j<i→vB k j=true)∧q=[tP 1 1,tI 3 (i:Nat),oB 1 44 [.d (.i k.id),.d (.i k.time),.d (.i k.next),.d (.sl (aH k.held)),.d (.sl (aM k.marks)),.d (.sl (aH k.inbox))]]) ?_ ?_))))))
 · refine wq (σ':=[tP 1 1,tI 3 (0:Nat),oB 1 44 [.d (.i k.id),.d (.i k.time),.d (.i k.next),.d (.sl (aH k.held)),.d (.sl (aM k.marks)),.d (.sl (aH k.inbox))]]) [] [] (⟨0,rfl,aVv _,fun j h=>absurd h (by omega),rfl⟩) ?_
   repeat' apply ai
   all_goals first|exact qx|(rw[aG];done)|rfl|exact qz
 rintro n s ⟨i,rfl,hi,hk,rfl⟩
 refine sq (sq (rT [1,3,47] (s5 (cd rfl (fun c47=> ?_) fun c47=> ?_))))
 · have hi2:i<k.held.length:=by simpa[aG] using c47
   have hg:=aV (l:=k.held) hi2
   refine sk (sq (bk (sq (rT [1,3,4] (s3 (ai (by rw[aVr,hg];exact⟨⟨by omega,by rw[aG];omega⟩,rfl⟩) (ai (by rw[aVr,hg];exact⟨aVs rfl,rfl⟩) (s2 (sq (wa [tP 1 1,tI 3 (i:Nat),oB 1 44 [.d (.i k.id),.d (.i k.time),.d (.i k.next),.d (.sl (aH k.held)),.d (.sl (aM k.marks)),.d (.sl (aH k.inbox))],tP 4 4,oB 4 52 [.d (.i (k.held.getD i .zero).frm),.d (.i (k.held.getD i .zero).num),.d (.i (k.held.getD i .zero).to),.d (.i (k.held.getD i .zero).til),.d (.s (k.held.getD i .zero).text)]] [] [] ?_ ?_))))))))))
   · repeat' apply ai
     all_goals first|exact qx|(rw[aVr,hg];rfl)|exact qz
   refine rT [1,3,90] (s6 (y3 (xc (fun h=>(yv (k.held.getD i .zero) k.id)) (ai rfl (ai rk ?_)))))
   refine y1 (ai pk (s1 (y4 (y4 (y3 (ai (fun h=>pk) (ai rk (ai pk (s1 (y4 (y2 (xc (fun h=>(nA k.marks _ _ (by omega))) (ai rfl (ai rk ?_))))))))))))))
   refine y1 (ai pk (cd rfl (fun c90=> ?_) fun c90=> ?_))
   · refine sq (rT [2] (s1 (rt (aU rfl (aA D.b ?_)))))
     refine(nL fun h=> ?_).symm
     obtain⟨⟨h1,h2,h3,h4,h5,h6⟩,⟨h7,h8,h9⟩,h10,h11,h12⟩:=(cG k).1 h
     rw[fB hi2 (zA ((or4 _ _ _ _).trans c90))] at h10
     cases h10
   refine sk (rT [1,3] (s3 ?_))
   have hs:vB k i=true:=zA ((or4 _ _ _ _).trans c90)
   refine wq [] [] (⟨k.held.length - (i+1),by omega,i+1,rfl,by omega,fun j h=>by by_cases e:j=i;exact e▸hs;exact hk j (by omega),rfl⟩) ?_
   repeat' apply ai
   all_goals first|exact qx|exact aA D.i (aF (by omega))|exact qz
 have hiA:i=k.held.length:=by simp[aG] at c47;omega
 have hkA:=hk
 clear hk hi
 refine xt (sq (sq (rT [1,5] (s1 (bk (SW.loopW (n:=k.marks.length) (fun n q=> ∃i:Nat,n=k.marks.length - i∧i≤k.marks.length∧(∀j,j<i→wQ k j=true)∧q=[tP 1 1,tI 5 (i:Nat),oB 1 44 [.d (.i k.id),.d (.i k.time),.d (.i k.next),.d (.sl (aH k.held)),.d (.sl (aM k.marks)),.d (.sl (aH k.inbox))]]) ?_ ?_))))))
 · refine wq (σ':=[tP 1 1,tI 5 (0:Nat),oB 1 44 [.d (.i k.id),.d (.i k.time),.d (.i k.next),.d (.sl (aH k.held)),.d (.sl (aM k.marks)),.d (.sl (aH k.inbox))]]) [] [] (⟨0,rfl,aVv _,fun j h=>absurd h (by omega),rfl⟩) ?_
   repeat' apply ai
   all_goals first|exact qx|(rw[aI];done)|rfl|exact qz
 rintro n s ⟨i,rfl,hi,hk,rfl⟩
 refine sq (sq (rT [1,5,95] (s5 (cd rfl (fun c95=> ?_) fun c95=> ?_))))
 · have hi2:i<k.marks.length:=by simpa[aI] using c95
   have hg:=bQ (l:=k.marks) hi2
   refine sk (sq (bk (sq (rT [1,5,6] (s3 (ai (by rw[aVr,hg];exact⟨⟨by omega,by rw[aI];omega⟩,rfl⟩) (ai (by rw[aVr,hg];exact⟨aVs rfl,rfl⟩) (s2 (sq (wa [tP 1 1,tI 5 (i:Nat),oB 1 44 [.d (.i k.id),.d (.i k.time),.d (.i k.next),.d (.sl (aH k.held)),.d (.sl (aM k.marks)),.d (.sl (aH k.inbox))],tP 6 6,oB 6 162 [.d (.i (k.marks.getD i .zero).frm),.d (.i (k.marks.getD i .zero).num),.d (.i (k.marks.getD i .zero).til)]] [] [] ?_ ?_))))))))))
   · repeat' apply ai
     all_goals first|exact qx|(rw[aVr,hg];rfl)|exact qz
   refine rT [1,5,121] (s6 (y4 (y4 (y3 (ai (fun h=>pk) (ai rk (ai pk (cd rfl (fun c121=> ?_) fun c121=> ?_))))))))
   · refine sq (rT [2] (s1 (rt (aU rfl (aA D.b ?_)))))
     refine(nL fun h=> ?_).symm
     obtain⟨⟨h1,h2,h3,h4,h5,h6⟩,⟨h7,h8,h9⟩,h10,h11,h12⟩:=(cG k).1 h
     rw[fB hi2 (zB ((or2 _ _).trans c121))] at h11
     cases h11
   refine sk (rT [1,5] (s3 ?_))
   have hs:wQ k i=true:=zB ((or2 _ _).trans c121)
   refine wq [] [] (⟨k.marks.length - (i+1),by omega,i+1,rfl,by omega,fun j h=>by by_cases e:j=i;exact e▸hs;exact hk j (by omega),rfl⟩) ?_
   repeat' apply ai
   all_goals first|exact qx|exact aA D.i (aF (by omega))|exact qz
 have hiB:i=k.marks.length:=by simp[aI] at c95;omega
 have hkB:=hk
 clear hk hi
 refine xt (sq (sq (rT [1,7] (s1 (bk (SW.loopW (n:=k.inbox.length) (fun n q=> ∃i:Nat,n=k.inbox.length - i∧i≤k.inbox.length∧(∀j,j<i→sB k j=true)∧q=[tP 1 1,tI 7 (i:Nat),oB 1 44 [.d (.i k.id),.d (.i k.time),.d (.i k.next),.d (.sl (aH k.held)),.d (.sl (aM k.marks)),.d (.sl (aH k.inbox))]]) ?_ ?_))))))
 · refine wq (σ':=[tP 1 1,tI 7 (0:Nat),oB 1 44 [.d (.i k.id),.d (.i k.time),.d (.i k.next),.d (.sl (aH k.held)),.d (.sl (aM k.marks)),.d (.sl (aH k.inbox))]]) [] [] (⟨0,rfl,aVv _,fun j h=>absurd h (by omega),rfl⟩) ?_
   repeat' apply ai
   all_goals first|exact qx|(rw[aG];done)|rfl|exact qz
 rintro n s ⟨i,rfl,hi,hk,rfl⟩
 refine sq (sq (rT [1,7,126] (s5 (cd rfl (fun c126=> ?_) fun c126=> ?_))))
 · have hi2:i<k.inbox.length:=by simpa[aG] using c126
   have hg:=aV (l:=k.inbox) hi2
   refine sk (sq (bk (sq (rT [1,7,8] (s3 (ai (by rw[aVr,hg];exact⟨⟨by omega,by rw[aG];omega⟩,rfl⟩) (ai (by rw[aVr,hg];exact⟨aVs rfl,rfl⟩) (s2 (sq (wa [tP 1 1,tI 7 (i:Nat),oB 1 44 [.d (.i k.id),.d (.i k.time),.d (.i k.next),.d (.sl (aH k.held)),.d (.sl (aM k.marks)),.d (.sl (aH k.inbox))],tP 8 8,oB 8 52 [.d (.i (k.inbox.getD i .zero).frm),.d (.i (k.inbox.getD i .zero).num),.d (.i (k.inbox.getD i .zero).to),.d (.i (k.inbox.getD i .zero).til),.d (.s (k.inbox.getD i .zero).text)]] [] [] ?_ ?_))))))))))
   · repeat' apply ai
     all_goals first|exact qx|(rw[aVr,hg];rfl)|exact qz
   refine rT [1,7,169] (s6 (y4 (y4 (y3 (ai (fun h=>pk) (ai rk (ai pk (s1 (y4 (y4 (y4 (xc (fun h=>(nA k.marks _ _ (by omega))) (ai rfl (ai rk ?_))))))))))))))
   refine y1 (ai (fun h=>pk) (ai rk (ai pk (cd rfl (fun c169=> ?_) fun c169=> ?_))))
   · refine sq (rT [2] (s1 (rt (aU rfl (aA D.b ?_)))))
     refine(nL fun h=> ?_).symm
     obtain⟨⟨h1,h2,h3,h4,h5,h6⟩,⟨h7,h8,h9⟩,h10,h11,h12⟩:=(cG k).1 h
     rw[fB hi2 (vW ((or3 _ _ _).trans c169))] at h12
     cases h12
   refine sk (rT [1,7] (s3 ?_))
   have hs:sB k i=true:=vW ((or3 _ _ _).trans c169)
   refine wq [] [] (⟨k.inbox.length - (i+1),by omega,i+1,rfl,by omega,fun j h=>by by_cases e:j=i;exact e▸hs;exact hk j (by omega),rfl⟩) ?_
   repeat' apply ai
   all_goals first|exact qx|exact aA D.i (aF (by omega))|exact qz
 have hiC:i=k.inbox.length:=by simp[aG] at c126;omega
 refine xt (sq (rT [2] (s1 (rt (aU rfl (aA D.b ?_))))))
 refine((cG k).2 ⟨⟨f1,f2,f3,f4,f5,f6⟩,hg3,gX ?_,gX ?_,gX ?_⟩).symm
 · rw[← hiA];exact hkA
 · rw[← hiB];exact hkB
 rw[← hiC];exact hk
theorem uF (n:Nat) (hn:n≤1000000000):Sp 89 1 [tI 0 (n:Nat)] [tD 0 (.s (jA n))]:=by
 induction n using Nat.strongRecOn
 rename_i n ih
 refine sb Tryz.func89 rfl (sq (rT [0] (s1 (sq (sq (rT [0,4] (s2 (cd rfl (fun c4=> ?_) fun c4=> ?_))))))))
 · simp at c4
   omega
 refine sk (sq (sq (rT [0,6] (s2 (cd rfl (fun c6=> ?_) fun c6=> ?_)))))
 · simp at c6
   omega
 refine sk (sq (sq (rT [0,12] (s2 (cd rfl (fun c12=> ?_) fun c12=> ?_)))))
 · have h10:n<10:=by simp at c12;omega
   refine sq (rT [2] (s3 (ai (by exact⟨by simp,aVs rfl⟩) (ai (by exact⟨rfl,aA (fun r=>[r]) (aCk _)⟩) (s1 (rt (aU rfl (aA D.s ?_))))))))
   rw[mB h10,← aEd h10]
   rfl
 have h10: ¬n<10:=by simp at c12;omega
 have hq:wrap64 (Int.tdiv (n:Int) 10)=((n / 10:Nat):Int):=by rw[Int.tdiv_eq_ediv_of_nonneg (by omega),aF (by omega)];omega
 have hr:Int.tmod (n:Int) 10=((n % 10:Nat):Int):=by rw[Int.tmod_eq_emod_of_nonneg (by omega)];omega
 have hdl:=aIo (n / 10)
 refine sk (sq (rD [2] (s1 (ai (by omega) (xp (ih (n / 10) (by omega) (by omega)) (ai (by rw[hq];rfl) ?_))))))
 refine s1 (ai (by omega) (s2 (ai (by exact⟨by simp,aVs rfl⟩) (ai (by exact⟨rfl,aA (fun r=>[r]) (aCk _)⟩) (ai (by show _≤9223372036854775807;simp only[mA,List.length_map,aVw,aVx];omega) (s1 (ai (by kernel_rfl) (rt (aU rfl (aA D.s ?_))))))))))
 refine Eq.trans ?_ (tU (by omega)).symm
 rw[hr,← aEd (Nat.mod_lt n (by decide))]
 rfl
theorem cm (s:List UInt8) (hl:s.length≤140737488355328):Sp 108 1 [tD 0 (.s s)] [tV 0 (.tup [.c (.d (.i (match iU s with|some n=>(n:Int)|none=>0))),.c (.d (.b (iU s).isSome))])]:=by
 refine sb Tryz.func108 rfl (sq (rT [0] (s2 (sq (sq (rT [0,19] (s2 (xp (dM _ _ _) (ai rfl ?_)))))))))
 refine s2 (y1 (ai (fun h=>(by have h9:=h;simp[gb,gT] at h9;exact⟨by omega,by omega⟩)) (ai rk (y4 (y1 (ai (fun h=>pk) (ai rk (ai pk (cd rfl (fun c19=> ?_) fun c19=> ?_)))))))))
 · refine sq (rT [2,3] (s2 (rt ?_)))
   have hno:iU s=none:=by
    unfold iU
    rw[aB]
    rintro⟨h1,h2,h3⟩
    have h4:gT (s.length:Int) 1 5=true:=by simp only[gT,aVu,aD];omega
    rw[h4] at c19
    simp only[Bool.not_true,Bool.false_or,aVu,beq_iff_eq,aD] at c19
    refine h2 ⟨UInt8.toNat_inj.1 ?_,by omega⟩
    have h5: ((s.getD 0 0).toNat:Int)=48:=c19.1
    have h6: (48:UInt8).toNat=48:=rfl
    omega
   refine bI rfl rfl ?_
   rw[hno]
   rfl
 have hL: (1≤s.length∧s.length≤5)∧ ¬(s.getD 0 0=48∧1<s.length):=by
  by_cases h1:1≤s.length∧s.length≤5
  · refine⟨h1,fun h2=> ?_⟩
    have h3: (((s.getD (Int.toNat 0) 0).toNat:Int)==48)=true:=by rw[show Int.toNat 0=0 from rfl,h2.1];rfl
    have h4:decide ((s.length:Int)>1)=true:=decide_eq_true (by omega)
    rw[h3,h4] at c19
    simp at c19
  · have h3:gT (s.length:Int) 1 5=false:=by
     cases h:gT (s.length:Int) 1 5 with
     |false=>rfl
     |true=>simp only[gT,aVu,aD] at h;omega
    rw[h3] at c19
    simp at c19
 refine sk (sq (rT [0,4] (s1 (sq (sq (rT [0,4,5] (s1 (bk (SW.loopW (n:=s.length) (fun m q=> ∃i:Nat,m=s.length - i∧i≤s.length∧(∀k,k<i→fO (s.getD k 0)=true)∧q=[tD 0 (.s s),tI 4 (pE (s.take (i)):Nat),tI 5 (i:Nat)]) ?_ ?_)))))))))
 · refine wq (σ':=[tD 0 (.s s),tI 4 (pE (s.take (0)):Nat),tI 5 (0:Nat)]) [] [] (⟨0,rfl,aVv _,fun k h=>absurd h (by omega),rfl⟩) ?_
   repeat' apply ai
   all_goals first|exact qx|(simp[pE];done)|exact qz
 rintro n s ⟨i,rfl,hi,hk,rfl⟩
 refine sq (sq (rT [0,4,5,23] (s4 (cd rfl (fun c23=> ?_) fun c23=> ?_))))
 · have hi2:i<s.length:=by simpa using c23
   have hb8:=ou s i
   have hw:wrap64 ((s.getD ((i:Nat):Int).toNat 0).toNat:Int)=pL s i:=aF (by unfold pL at hb8;rw[aVr];omega)
   have hvb:=mr hk hi (by omega)
   refine sk (sq (bk (sq (sq (rT [0,4,5,31] (s2 (ai (by exact⟨by omega,by omega⟩) (s1 (xp (dM _ _ _) (ai rfl ?_))))))))))
   refine s1 (cd rfl (fun c31=> ?_) fun c31=> ?_)
   · refine sq (rT [2,3] (s2 (rt ?_)))
     have hno:iU s=none:=by
      unfold iU
      rw[aB]
      rintro⟨h1,h2,h3⟩
      have h9:=c31
      rw[hw,← tj] at h9
      have hs:fO (s.getD i 0)=false:=by simpa using h9
      rw[th hi2 hs] at h3
      cases h3
     refine bI rfl rfl ?_
     rw[hno]
     rfl
   refine sk (rT [0,4,5] (s4 (ai (by exact⟨by omega,by omega⟩) (s4 (rT [0,4,5] (s3 ?_))))))
   have hs:fO (s.getD i 0)=true:=by
    have h9:=c31
    rw[hw,← tj] at h9
    simpa using h9
   refine wq [] [] (⟨s.length - (i+1),by omega,i+1,rfl,by omega,fun k h=>by by_cases e:k=i;exact e▸hs;exact hk k (by omega),rfl⟩) ?_
   repeat' apply ai
   all_goals first|exact qx|(rw[aVr];exact aA D.i (aEe hi2 hs rfl (by omega)).1)|exact aA D.i (aF (by omega))|exact qz
 have hi3:i=s.length:=by simp at c23;omega
 refine xt (sq (rT [2,3] (s3 (rt ?_))))
 have hyes:iU s=some (pE s):=by
  unfold iU
  rw[aC ⟨hL.1,hL.2,aAo (hi3▸hk)⟩]
 refine bI rfl rfl ?_
 rw[hyes,hi3,aV3]
 rfl
theorem uG (s:List UInt8) (hl:s.length≤140737488355328):Sp 222 1 [tD 0 (.s s)] [tI 0 (fU s)]:=by
 refine sb Tryz.func222 rfl (sq (rT [0] (s1 (sq (sq (rT [0,12] (s4 (y3 (ai pk (cd rfl (fun c12=> ?_) fun c12=> ?_))))))))))
 · have hL: ¬(1≤s.length∧s.length≤4):=by simp[gb] at c12;omega
   refine sq (rT [2] (s1 (rt (aU rfl (aA D.i ?_)))))
   unfold fU
   rw[aB]
   rintro⟨h1,h2,h3⟩
   exact hL h1
 have hL:1≤s.length∧s.length≤4:=by
  simp only[Bool.or_eq_false_iff,decide_eq_false_iff_not] at c12
  omega
 refine sk (sq (rT [0,3] (s1 (sq (sq (rT [0,3,4] (s1 (bk (SW.loopW (n:=s.length) (fun m q=> ∃i:Nat,m=s.length - i∧i≤s.length∧(∀k,k<i→fO (s.getD k 0)=true)∧q=[tD 0 (.s s),tI 3 (pE (s.take (i)):Nat),tI 4 (i:Nat)]) ?_ ?_)))))))))
 · refine wq (σ':=[tD 0 (.s s),tI 3 (pE (s.take (0)):Nat),tI 4 (0:Nat)]) [] [] (⟨0,rfl,aVv _,fun k h=>absurd h (by omega),rfl⟩) ?_
   repeat' apply ai
   all_goals first|exact qx|(simp[pE];done)|exact qz
 rintro n s ⟨i,rfl,hi,hk,rfl⟩
 refine sq (sq (rT [0,3,4,16] (s4 (cd rfl (fun c16=> ?_) fun c16=> ?_))))
 · have hi2:i<s.length:=by simpa using c16
   have hvb:=mr hk hi (by omega)
   refine sk (sq (bk (sq (sq (rT [0,3,4,28] (s2 (ai (by exact⟨by omega,by omega⟩) (s2 (y2 (ai (fun h=>(by exact⟨by omega,by omega⟩)) (ai rk (y1 (ai pk (cd rfl (fun c28=> ?_) fun c28=> ?_))))))))))))))
   · refine sq (rT [2] (s1 (rt (aU rfl (aA D.i ?_)))))
     unfold fU
     rw[aB]
     rintro⟨h1,h2,h3⟩
     have hs:fO (s.getD i 0)=false:=by
      have h9:=c28
      rw[aVr] at h9
      simp[gb] at h9
      simp[fO];omega
     rw[th hi2 hs] at h2
     cases h2
   refine sk (rT [0,3,4] (s4 (ai (by exact⟨by omega,by omega⟩) (s4 (rT [0,3,4] (s3 ?_))))))
   have hs:fO (s.getD i 0)=true:=by
    have h9:=c28
    rw[aVr] at h9
    simp[gb] at h9
    simp[fO];omega
   refine wq [] [] (⟨s.length - (i+1),by omega,i+1,rfl,by omega,fun k h=>by by_cases e:k=i;exact e▸hs;exact hk k (by omega),rfl⟩) ?_
   repeat' apply ai
   all_goals first|exact qx|(rw[aVr];exact aA D.i (aEe hi2 hs rfl (by omega)).2)|exact aA D.i (aF (by omega))|exact qz
 have hi3:i=s.length:=by simp at c16;omega
 have hvb:=mr hk hi (by omega)
 refine xt (sq (sq (rT [3,40] (s1 (xp (uF (pE (s.take i)) (by omega)) (ai rfl ?_))))))
 refine s2 (cd rfl (fun c40=> ?_) fun c40=> ?_)
 · refine sq (rT [2] (s1 (rt (aU rfl (aA D.i ?_)))))
   unfold fU
   rw[aB]
   rintro⟨h1,h2,h3⟩
   rw[hi3,aV3,h3] at c40
   simp at c40
 refine sk (sq (rT [2] (s2 (rt (aU rfl (aA D.i ?_))))))
 rw[hi3,aV3] at c40
 unfold fU
 rw[aC ⟨hL,aAo (hi3▸hk),by simpa using c40⟩,hi3,aV3]
theorem yw (s:List UInt8) (hl:s.length≤1000000):Sp 183 1 [tD 0 (.s s)] [tV 0 (.tup [.c (.d (.s (aJx s))),.c (.d (.i (aCo s:Nat)))])]:=by
 refine sb Tryz.func183 rfl (sq (rT [0] (s2 (sq (sq (rT [0,4] (s1 (bk (SW.loopW (n:=3) (fun m q=> ∃i:Nat,m=3 - i∧(i≤s.length∧i≤3)∧(∀j,j<i→s.getD j 0≠58)∧q=[tD 0 (.s s),tI 4 (i:Nat)]) ?_ ?_)))))))))
 · exact wq (σ':=[tD 0 (.s s),tI 4 (0:Nat)]) [] [] (⟨0,rfl,⟨aVv _,by omega⟩,fun j h=>absurd h (by omega),rfl⟩) qz
 rintro n s ⟨i,rfl,hi,hk,rfl⟩
 refine sq (sq (rT [0,4,13] (s5 (y2 (ai pk (cd rfl (fun c13=> ?_) fun c13=> ?_))))))
 · have hi2:i<s.length∧i<3:=by simp only[aVu,aD] at c13;omega
   refine sk (sq (bk (sq (sq (rT [0,4,19] (s2 (ai (by exact⟨by omega,by omega⟩) (s1 (cd rfl (fun c19=> ?_) fun c19=> ?_)))))))))
   · refine xt (rT [0,4] (s3 ?_))
     have hs:s.getD i 0≠58:=by
      have h9:=c19
      rw[aVr] at h9
      intro e
      rw[e] at h9
      exact absurd h9 (by decide)
     refine wq [] [] (⟨3 - (i+1),by omega,i+1,rfl,⟨by omega,by omega⟩,fun j h=>by by_cases e:j=i;exact e▸hs;exact hk j (by omega),rfl⟩) ?_
     repeat' apply ai
     all_goals first|exact qx|exact aA D.i (aF (by omega))|exact qz
   have hcol:tW s=some i:=by
    refine tk hi2.2 hi2.1 ?_ hk
    have h9:=c19
    rw[aVr] at h9
    have h10: ((s.getD i 0).toNat:Int)=58:=by simpa only[bne_eq_false_iff_eq] using h9
    apply UInt8.toNat_inj.1
    have h6: (58:UInt8).toNat=58:=rfl
    omega
   have hv:=zC (s.take i)
   have hra:=aMo hcol
   refine sk (sq (rT [0,4,5] (s2 (ai (by simp[bnd,gD,iE];omega) (xp (uG (s.take i) (by rw[aV0];omega)) (ai rfl ?_))))))
   refine s1 (sq (sq (rT [0,4,5,47] (s3 (y2 (ai pk (s1 (y4 (y3 (ai pk (s1 (y4 (y1 (ai (fun h=>(by have h9:=h;simp only[gb,aVu,Bool.not_eq_true',Bool.or_eq_false_iff,decide_eq_false_iff_not] at h9;rw[aF (n:=(i:Int)+2) (by omega),aF (n:=(i:Int)+2+fU (s.take i)) (by omega)] at h9;rw[aF (n:=(i:Int)+1) (by omega),aF (n:=(i:Int)+1+fU (s.take i)) (by omega)];omega)) (ai rk (y1 (ai pk (cd rfl (fun c47=> ?_) fun c47=> ?_))))))))))))))))))
   · refine sq (rT [2,3] (s2 (rt ?_)))
     have hno:gO s=none:=by
      rw[hra,aB]
      rintro⟨p1,p2,p3,p4⟩
      have h9:=c47
      rw[aF (n:=(i:Int)+2) (by omega),aF (n:=(i:Int)+2+fU (s.take i)) (by omega),aF (n:=(i:Int)+1) (by omega),aF (n:=(i:Int)+1+fU (s.take i)) (by omega),show((i:Int)+1+fU (s.take i)).toNat=i+1+(fU (s.take i)).toNat by omega,p4] at h9
      simp at h9
      omega
     refine bI rfl rfl ?_
     rw[aJx,aCo,hno]
     rfl
   have hok:1≤fU (s.take i)∧fU (s.take i)≤60∧i+2+(fU (s.take i)).toNat≤s.length∧s.getD (i+1+(fU (s.take i)).toNat) 0=59:=by
    have h9:=c47
    rw[aF (n:=(i:Int)+2) (by omega),aF (n:=(i:Int)+2+fU (s.take i)) (by omega),aF (n:=(i:Int)+1) (by omega),aF (n:=(i:Int)+1+fU (s.take i)) (by omega)] at h9
    simp only[Bool.or_eq_false_iff,decide_eq_false_iff_not,bne_eq_false_iff_eq] at h9
    obtain⟨⟨⟨p1,p2⟩,p3⟩,p4⟩:=h9
    rw[show((i:Int)+1+fU (s.take i)).toNat=i+1+(fU (s.take i)).toNat by omega] at p4
    refine⟨by omega,by omega,by omega,UInt8.toNat_inj.1 ?_⟩
    have h6: (59:UInt8).toNat=59:=rfl
    omega
   refine sk (sq (rT [2,3] (s7 (ai (by rw[aF (n:=(i:Int)+1) (by omega),aF (n:=(i:Int)+1+fU (s.take i)) (by omega)];simp[bnd,gD,iE];omega) (s6 (rt ?_))))))
   have hyes:=hra.trans (aC hok)
   refine bI rfl rfl ?_
   rw[aJx,aCo,hyes]
   rw[aF (n:=(i:Int)+1) (by omega),aF (n:=(i:Int)+1+fU (s.take i)) (by omega),aF (n:=(i:Int)+2) (by omega),aF (n:=(i:Int)+2+fU (s.take i)) (by omega)]
   have e1: ((i:Int)+1).toNat=i+1:=by omega
   have e2: ((i:Int)+1+fU (s.take i)).toNat=i+1+(fU (s.take i)).toNat:=by omega
   have e3: (i:Int)+2+fU (s.take i)=((i+2+(fU (s.take i)).toNat:Nat):Int):=by omega
   rw[e3]
   show V.tup [.c (.d (.s (List.drop ((i:Int)+1).toNat (List.take ((i:Int)+1+fU (s.take i)).toNat s)))),_]=_
   rw[e1,e2]
 have hi3:i=3∨i=s.length:=by
  by_cases h3:i<3
  · right;have h4:decide ((i:Int)<3)=true:=decide_eq_true (by omega)
    rw[h4,Bool.and_true,decide_eq_false_iff_not] at c13;omega
  · left;omega
 refine xt (sq (rT [2,3] (s2 (rt ?_))))
 have hno:gO s=none:=by
  exact em (jj fun j h3 hjl=>hk j (by omega))
 refine bI rfl rfl ?_
 rw[aJx,aCo,hno]
 rfl
theorem nf (s:List UInt8) (hl:s.length≤1000000):Sp 132 1 [tD 0 (.s s)] [tV 0 (.tup [.c (.own 0 (bF s).1.length),.c (.d (.i ((bF s).2:Nat)))]),oR 0 9 1 (aY (bF s).1)]:=by
 refine sb Tryz.func132 rfl (sq (rT [0] (s2 (sq (rT [0,4] (s2 (sq (rT [0,4,5] (s1 (sq (bk (SW.loopW (n:=s.length) (fun m q=> ∃(a:Nat) (o:List (List UInt8)),m=s.length - a∧(a≤s.length∧o.length≤a)∧(o++(bF (s.drop a)).1=(bF s).1∧a+(bF (s.drop a)).2=(bF s).2)∧q=[tD 0 (.s s),tO 4 8 (o).length,tI 5 (a:Nat),oR 8 9 1 (aY (o))]) ?_ ?_))))))))))))
 · refine wq (σ':=[tD 0 (.s s),tO 4 8 ([]).length,tI 5 (0:Nat),oR 8 9 1 (aY ([]))]) [] [] (⟨0,[],rfl,⟨aVv _,by simp⟩,⟨rfl,by rw[List.drop_zero,Nat.zero_add]⟩,rfl⟩) ?_
   repeat' apply ai
   all_goals first|exact qx|rfl|exact qz
 rintro n s ⟨a,o,rfl,ha,hr,rfl⟩
 refine sq (sq (rT [0,4,5,12] (s4 (cd rfl (fun c12=> ?_) fun c12=> ?_))))
 · have ha2:a<s.length:=by simpa using c12
   refine sk (bk (sq (rT [0,4,5,6,7] (s2 (ai (by simp[bnd,gD,iE];omega) (xp (yw (s.drop a) (by rw[aV4];omega)) (ai (by show _=dJ 0 [Dv (.s (List.drop ((a:Int)).toNat (List.take s.length s)))];rw[aVr,aV3];rfl) ?_)))))))
   refine s5 (sq (sq (rT [0,4,5,6,7,21] (s2 (cd rfl (fun c21=> ?_) fun c21=> ?_)))))
   · have hz:gO (s.drop a)=none:=by
      refine aAp.1 ?_
      have h9: ((aCo (s.drop a):Nat):Int)=0:=by simpa using c21
      omega
     rw[eV hz,List.append_nil,Nat.add_zero] at hr
     refine sq (rT [2,3] (s4 (rt ?_)))
     rw[← hr.1,← hr.2]
     exact dO _ [(0,8)] [] rfl ⟨⟨_,rfl,⟨rfl,rfl,_,_,_,rfl⟩,rfl,trivial⟩,cJ rfl rfl trivial⟩ rfl rfl
   obtain⟨r,n,hra⟩: ∃r n,gO (s.drop a)=some (r,n):=by
    cases h:gO (s.drop a) with
    |none=>
     rw[aAp.2 h] at c21
     exact absurd c21 (by decide)
    |some p=>exact⟨p.1,p.2,rfl⟩
   have hS:aJx (s.drop a)=r:=by rw[aJx,hra]
   have hN:aCo (s.drop a)=n:=by rw[aCo,hra]
   have hrs:=pF hra
   rw[aV4] at hrs
   refine sk (sq (rT [0,4,5,7] (s3 (ai (by refine⟨rfl,aJ _,by simp,?_⟩;show(_+1)*16≤_;omega) (s1 (rT [0,4,5] (s4 ?_)))))))
   have hstep:=jR hra
   rw[List.drop_drop] at hstep
   rw[hstep] at hr
   refine wq [] [] (⟨s.length - (a+n),by omega,a+n,o++[r],rfl,⟨by omega,by rw[aVt];simp;omega⟩,⟨by rw[← hr.1,List.append_assoc];rfl,by rw[← hr.2];simp only;omega⟩,rfl⟩) ?_
   repeat' apply ai
   all_goals first|exact qx|(rw[aVt];done)|(refine aA D.i ?_;rw[hN,aF (by omega)];omega)|(rw[hS];exact eU _ _)|(simp[aJ];done)|exact qz
 have ha3:a=s.length:=by simp at c12;omega
 have hd0:s.drop a=[]:=by rw[ha3];exact List.drop_length
 rw[hd0,eV nK,List.append_nil,Nat.add_zero] at hr
 refine xt (sq (rT [2,3] (s4 (rt ?_))))
 rw[← hr.1,← hr.2]
 exact dO _ [(0,8)] [] rfl ⟨⟨_,rfl,⟨rfl,rfl,_,_,_,rfl⟩,rfl,trivial⟩,cJ rfl rfl trivial⟩ rfl rfl
theorem zZ (l:List (List UInt8)) (hl:l.length≤1000000):Sp 110 1 [tD 0 (.sl (aY l))] [tO 0 0 l.length,oR 0 9 1 (aY (l))]:=by
 refine sb Tryz.func110 rfl (sq (rT [0] (s1 (sq (sq (rT [0,6] (s3 (cd rfl (fun c6=> ?_) fun c6=> ?_))))))))
 · refine sq (rT [2] (s1 (SW.nilOwn 2 0 9 1 rfl rfl (rt (rq [] [] rfl ?_)))))
   repeat' apply ai
   all_goals try exact qx
   all_goals(simp[aJ] at c6;simp[c6,aY])
 refine sk (sq (rT [0,3] (s2 (ai (by refine⟨rfl,by omega,?_⟩;rw[aJ];show((16:Nat):Int)*_≤_;omega) (s1 (sq (rT [3] (s2 (ai (by refine⟨trivial,by simp,yX l⟩) (sq (rT [2] (s2 (rt (rq [(0,9)] [] rfl ?_))))))))))))))
 repeat' apply ai
 all_goals try exact qx
 all_goals first|(simp[aJ];done)|(simp;done)
theorem pk3 {p:Prop} (h:p:=by constructor<;>intro h<;>first|(simp only[gb,uX];done)|(simpa only[gb,uX] using h)|(simp only[gb,uX] at h ⊢; first|(simp;done)|(simpa using h))|(simpa[gb,uX] using h)):p:=h
theorem rv (o:List (List UInt8)):gU [tO 0 0 o.length,oR 0 9 1 (aY (o))]:=by
 intro p hp
 simp at hp
 rcases hp with rfl|rfl
 · trivial
 intro r hr d hd
 obtain⟨x,_,rfl⟩:=aV5.1 hr
 simp at hd;subst hd;trivial
theorem ng (s:List UInt8) (hl:s.length≤1000000):Sp 49 1 [tD 0 (.s s)] [tV 0 (.tup [.c (.own 0 (bF s).1.length),.c (.d (.i ((bF s).2:Nat)))]),oR 0 9 1 (aY (bF s).1)]:=by
 refine sb Tryz.func49 rfl (sq (rT [0] (s2 (sq (rT [0,4] (s1 (sq (rT [0,4,5] (s1 (sq (bk (SW.nilOwn 4 8 9 1 rfl rfl (SW.loopW (n:=s.length) (fun m q=> ∃(a:Nat) (o:List (List UInt8)),m=s.length - a∧(a≤s.length∧o.length≤a)∧(o++(bF (s.drop a)).1=(bF s).1∧a+(bF (s.drop a)).2=(bF s).2)∧q=[tD 0 (.s s),tO 4 8 (o).length,tI 5 (a:Nat),oR 8 9 1 (aY (o))]) ?_ ?_)))))))))))))
 · refine wq (σ':=[tD 0 (.s s),tO 4 8 ([]).length,tI 5 (0:Nat),oR 8 9 1 (aY ([]))]) [] [] (⟨0,[],rfl,⟨aVv _,by simp⟩,⟨rfl,by rw[List.drop_zero,Nat.zero_add]⟩,rfl⟩) ?_
   repeat' apply ai
   all_goals first|exact qx|rfl|exact qz
 rintro n s ⟨a,o,rfl,ha,hr,rfl⟩
 refine sq (sq (rT [0,4,5,13] (s4 (cd rfl (fun c13=> ?_) fun c13=> ?_))))
 · have ha2:a<s.length:=by simpa using c13
   refine sk (bk (sq (rT [0,4,5,6] (s2 (sq (bk (SW.loopW (n:=3) (fun m q=> ∃c:Nat,m=a+3 - c∧(a≤c∧c≤a+3∧c≤s.length)∧(∀j,a≤j→j<c→s.getD j 0≠58)∧q=[tD 0 (.s s),tO 4 8 (o).length,tI 5 (a:Nat),tI 6 (c:Nat),oR 8 9 1 (aY (o))]) ?_ ?_)))))))
   · exact wq [] [] (⟨a,by omega,by omega,fun j h1 h2=>absurd h1 (by omega),rfl⟩) qz
   rintro n s ⟨c,rfl,hc,hk,rfl⟩
   refine sq (sq (rT [0,4,5,6,30] (s5 (y4 (ai pk (s1 (y2 (ai (fun h=>(by have h9:=h;simp only[gb,aVu,aD] at h9;exact⟨by omega,by omega⟩)) (ai rk (y1 (ai pk (cd rfl (fun c30=> ?_) fun c30=> ?_))))))))))))
   · refine sk (bk (rT [0,4,5,6] (s3 ?_)))
     have hs:s.getD c 0≠58:=by
      have h9:=c30
      simp only[aVu] at h9
      have h10:=h9.2
      rw[aVr] at h10
      intro e
      rw[e] at h10
      exact absurd h10 (by decide)
     have hcl:c<s.length∧c<a+3:=by
      have h9:=c30
      rw[aF (by omega)] at h9
      simp only[aVu,aD] at h9
      omega
     refine wq [] [] (⟨a+3 - (c+1),by omega,c+1,rfl,by omega,fun j h1 h2=>by by_cases e:j=c;exact e▸hs;exact hk j h1 (by omega),rfl⟩) ?_
     repeat' apply ai
     all_goals first|exact qx|exact aA D.i (aF (by omega))|exact qz
   have hstop:s.length≤c∨a+3≤c∨s.getD c 0=58:=by
    have h9:=c30
    rw[aF (by omega),aVr] at h9
    by_cases h1:c<s.length
    · by_cases h2:c<a+3
      · rw[decide_eq_true (show(c:Int)< (s.length:Int) by omega),decide_eq_true (show(c:Int)< (a:Int)+3 by omega)] at h9
        have h10: ((s.getD c 0).toNat:Int)=58:=by simpa only[Bool.true_and,bne_eq_false_iff_eq] using h9
        right;right
        apply UInt8.toNat_inj.1
        have h6: (58:UInt8).toNat=58:=rfl
        omega
      · right;left;omega
    · left;omega
   refine xt (sq (sq (rT [0,4,5,6,42] (s5 (y2 (ai (fun h=>(by have h9:=h;simp only[gb,Bool.not_eq_true',decide_eq_false_iff_not] at h9;exact⟨by omega,by omega⟩)) (ai rk (y1 (ai pk (cd rfl (fun c42=> ?_) fun c42=> ?_))))))))))
   · have hz:gO (s.drop a)=none:=by
      refine xP hk ?_
      by_cases h1:c<s.length
      · rcases hstop with h|h|h
        · exact .inl h
        · exact .inr h
        · exfalso
          have h9:=c42
          rw[aVr,h,decide_eq_false (show ¬((c:Int)≥(s.length:Int)) by omega)] at h9
          exact absurd h9 (by decide)
      · exact .inl (by omega)
     rw[eV hz,List.append_nil,Nat.add_zero] at hr
     refine xt (sq (rT [2,3] (s1 (eX (robj:=[(8,.row 9 1 (aY o))]) (rl:=[(0,85)]) (bor:=[8]) (zZ o (by omega)) rfl rfl rfl rfl ⟨dD rfl rfl rfl (aJ _) rfl trivial,rfl⟩ rfl (.inr (rv o)) (cH ⟨rfl,trivial⟩) (fun j hj=>by(obtain rfl:j=0:=by simpa[fI,bJ,gB] using hj);rfl) (s3 (rt ?_))))))
     rw[← hr.1,← hr.2]
     exact dO _ [(0,85)] [] rfl ⟨⟨_,rfl,⟨rfl,rfl,_,_,_,rfl⟩,rfl,trivial⟩,cJ rfl rfl trivial⟩ rfl rfl
   have hcl:c<s.length:=by
    have h9:=c42
    simp only[Bool.or_eq_false_iff,decide_eq_false_iff_not] at h9
    omega
   have h58:s.getD c 0=58:=by
    have h9:=c42
    simp only[Bool.or_eq_false_iff,decide_eq_false_iff_not] at h9
    have h10:=h9.2
    rw[aVr] at h10
    have h11: ((s.getD c 0).toNat:Int)=58:=by simpa only[bne_eq_false_iff_eq] using h10
    apply UInt8.toNat_inj.1
    have h6: (58:UInt8).toNat=58:=rfl
    omega
   obtain⟨himp1,himp2⟩:=aMq hc.1 hk hc.2.1 hcl h58
   have hN:=aG2 ((s.take c).drop a)
   have hw1:wrap64 ((c:Int)+1)=((c+1:Nat):Int):=by rw[aF (by omega)];omega
   have hw2:wrap64 (((c+1:Nat):Int)+iH ((s.take c).drop a))=((c+1+(iH ((s.take c).drop a)).toNat:Nat):Int):=by rw[aF (by omega)];omega
   refine sk (sq (rT [0,4,5,6,7,8] (s3 (ai (by simp[bnd,gD,iE];omega) (xp (cm ((s.take c).drop a) (by rw[aV4,aV0];omega)) (ai rfl ?_))))))
   refine s5 (sq (rT [0,4,5,6,7,8,9] (s5 (sq (sq (SW.wk (J:=fun q=>q=[tD 0 (.s s),tO 4 8 (o).length,tI 5 (a:Nat),tI 6 (c:Nat),tI 7 (iH ((s.take c).drop a)),tB 8 (iU ((s.take c).drop a)).isSome,tI 9 (c+1+(iH ((s.take c).drop a)).toNat:Nat),oR 8 9 1 (aY (o))]) ?_ ?_))))))
   · refine wq [] [] (rfl) ?_
     repeat' apply ai
     all_goals first|exact qx|(rw[hw1];exact aA D.i hw2)|(unfold iH;rfl)|exact qz
   rintro q rfl
   refine rT [0,4,5,6,9,73] (s3 (y1 (xc (fun h=>(dM _ _ _)) (ai rfl (ai rk ?_)))))
   refine y1 (ai pk3 (s1 (y4 (ai pk3 (s1 (y2 (ai (fun h=>(by have h9:=h;simp only[gb,Bool.not_eq_true',Bool.or_eq_false_iff,decide_eq_false_iff_not] at h9;exact⟨by omega,by omega⟩)) (ai rk (y1 (ai pk3 (cd rfl (fun c73=> ?_) fun c73=> ?_)))))))))))
   · have hz:gO (s.drop a)=none:=by
      refine himp1 ?_
      rintro⟨n,h1,h2,h3,h4,h5⟩
      have hNn:iH ((s.take c).drop a)=n:=by rw[iH,h1]
      have h9:=c73
      rw[hNn,h1,aVr,aVr,h5] at h9
      simp only[gT,decide_eq_true (show(1:Int)≤(n:Int) by omega),decide_eq_true (show(n:Int)≤60 by omega),decide_eq_false (show ¬(((c+1+n:Nat):Int)≥(s.length:Int)) by omega)] at h9
      simp at h9
     rw[eV hz,List.append_nil,Nat.add_zero] at hr
     refine xt (sq (rT [2,3] (s1 (eX (robj:=[(8,.row 9 1 (aY o))]) (rl:=[(0,85)]) (bor:=[8]) (zZ o (by omega)) rfl rfl rfl rfl ⟨dD rfl rfl rfl (aJ _) rfl trivial,rfl⟩ rfl (.inr (rv o)) (cH ⟨rfl,trivial⟩) (fun j hj=>by(obtain rfl:j=0:=by simpa[fI,bJ,gB] using hj);rfl) (s3 (rt ?_))))))
     rw[← hr.1,← hr.2]
     exact dO _ [(0,85)] [] rfl ⟨⟨_,rfl,⟨rfl,rfl,_,_,_,rfl⟩,rfl,trivial⟩,cJ rfl rfl trivial⟩ rfl rfl
   have h9:=c73
   simp only[Bool.or_eq_false_iff,decide_eq_false_iff_not,Bool.not_eq_false,Bool.not_eq_eq_eq_not,Bool.not_false] at h9
   obtain⟨⟨⟨g1,g2⟩,g3⟩,g4⟩:=h9
   obtain⟨n,hn⟩:=Option.isSome_iff_exists.1 g1
   have hNn:iH ((s.take c).drop a)=n:=by rw[iH,hn]
   rw[hNn] at g2 g3 g4
   rw[aVr] at g3 g4
   simp only[gT,aVu,aD] at g2
   have h59:s.getD (c+1+n) 0=59:=by
    rw[aVr] at g4
    have h11: ((s.getD (c+1+n) 0).toNat:Int)=59:=by simpa only[bne_eq_false_iff_eq] using g4
    apply UInt8.toNat_inj.1
    have h6: (59:UInt8).toNat=59:=rfl
    omega
   have hra:=himp2 n hn (by omega) (by omega) (by omega) h59
   refine sk (sq (rT [0,4,9] (s5 (ai (by rw[hw1,hNn,aVr];simp[bnd,gD,iE];omega) (ai (by exact⟨by simp,aVs rfl⟩) (ai (by refine⟨rfl,aJ _,by simp,?_⟩;show(_+1)*16≤_;omega) (s1 (rT [0,4,5] (s3 ?_)))))))))
   have hstep:=jR hra
   rw[List.drop_drop,show a+(c+2+n - a)=c+2+n by omega] at hstep
   rw[hstep] at hr
   refine wq [] [] (⟨s.length - (c+2+n),by omega,c+2+n,o++[(s.take (c+1+n)).drop (c+1)],rfl,⟨by omega,by rw[aVt];simp;omega⟩,⟨by rw[← hr.1,List.append_assoc];rfl,by rw[← hr.2];simp only;omega⟩,rfl⟩) ?_
   repeat' apply ai
   all_goals first|exact qx|(rw[aVt];done)|(refine aA D.i ?_;rw[hNn,aF (by omega)];omega)|(rw[hw1,hNn];exact eU _ _)|(simp[aJ];done)|exact qz
 have ha3:a=s.length:=by simp at c13;omega
 have hd0:s.drop a=[]:=by rw[ha3];exact List.drop_length
 rw[hd0,eV nK,List.append_nil,Nat.add_zero] at hr
 refine xt (sq (rT [2,3] (s1 (eX (robj:=[(8,.row 9 1 (aY o))]) (rl:=[(0,85)]) (bor:=[8]) (zZ o (by omega)) rfl rfl rfl rfl ⟨dD rfl rfl rfl (aJ _) rfl trivial,rfl⟩ rfl (.inr (rv o)) (cH ⟨rfl,trivial⟩) (fun j hj=>by(obtain rfl:j=0:=by simpa[fI,bJ,gB] using hj);rfl) (s3 (rt ?_))))))
 rw[← hr.1,← hr.2]
 exact dO _ [(0,85)] [] rfl ⟨⟨_,rfl,⟨rfl,rfl,_,_,_,rfl⟩,rfl,trivial⟩,cJ rfl rfl trivial⟩ rfl rfl
end Go.Proofs.YtmabaopgkimfmaaGreatDoor
namespace Go.Proofs
open Int renaming toNat_natCast→aVr
open Nat renaming le_of_ble_eq_true→aVs,zero_le→aVv,le_refl→aVz
open List renaming length_append→aVt,length_cons→aVw,length_nil→aVx,getD_eq_getElem?_getD→aVy,length_take→aV0,getElem?_eq_getElem→aV1,getElem?_eq_some_iff→aV2,take_length→aV3,length_drop→aV4,mem_map→aV5,mem_cons→aV6,range→aV7,all_eq_true→aV8,length_set→aV9,mem_singleton→aWa,replicate→aWb
open Bool renaming and_eq_true→aVu,or_eq_true→aWc
open Go.Shelf
def Tryz.laysM171_ren:Go.Shelf.Ren:=⟨fun|171=>91|243=>151|246=>196|283=>237|284=>238|285=>239|286=>240|129=>254|317=>253|318=>255|319=>256|320=>257|337=>264|338=>265|n=>n,fun|3=>3|9=>9|2=>2|4=>4|171=>237|0=>0|53=>238|37=>68|5=>5|173=>241|212=>251|51=>252|20=>20|213=>253|46=>254|232=>266|233=>267|n=>n,fun|17=>0|18=>2|19=>3|n=>n⟩
theorem Tryz.laysM171:Go.Proofs.LaysM.n171 Tryz.prog Tryz.laysM171_ren:={
 mixed:=by kernel_rfl
 f129:=Tryz.func254.trans (aA some (by kernel_rfl))
 f171:=Tryz.func91.trans (aA some (by kernel_rfl))
 f243:=Tryz.func151.trans (aA some (by kernel_rfl))
 f246:=Tryz.func196.trans (aA some (by kernel_rfl))
 f283:=Tryz.func237.trans (aA some (by kernel_rfl))
 f284:=Tryz.func238.trans (aA some (by kernel_rfl))
 f285:=Tryz.func239.trans (aA some (by kernel_rfl))
 f286:=Tryz.func240.trans (aA some (by kernel_rfl))
 f317:=Tryz.func253.trans (aA some (by kernel_rfl))
 f318:=Tryz.func255.trans (aA some (by kernel_rfl))
 f319:=Tryz.func256.trans (aA some (by kernel_rfl))
 f320:=Tryz.func257.trans (aA some (by kernel_rfl))
 f337:=Tryz.func264.trans (aA some (by kernel_rfl))
 f338:=Tryz.func265.trans (aA some (by kernel_rfl))
 t0:=Tryz.underlying0
 a0:=Tryz.isAgg0
 z0:=Tryz.sizeOf0
 v0:=Tryz.zeroValue0
 t2:=Tryz.underlying2
 a2:=Tryz.isAgg2
 z2:=Tryz.sizeOf2
 v2:=Tryz.zeroValue2
 t3:=Tryz.underlying3
 a3:=Tryz.isAgg3
 z3:=Tryz.sizeOf3
 v3:=Tryz.zeroValue3
 t4:=Tryz.underlying4
 a4:=Tryz.isAgg4
 z4:=Tryz.sizeOf4
 v4:=Tryz.zeroValue4
 t5:=Tryz.underlying5
 a5:=Tryz.isAgg5
 z5:=Tryz.sizeOf5
 v5:=Tryz.zeroValue5
 t9:=Tryz.underlying9
 a9:=Tryz.isAgg9
 z9:=Tryz.sizeOf9
 v9:=Tryz.zeroValue9
 t20:=Tryz.underlying20
 a20:=Tryz.isAgg20
 z20:=Tryz.sizeOf20
 v20:=Tryz.zeroValue20
 t37:=Tryz.underlying68
 a37:=Tryz.isAgg68
 z37:=Tryz.sizeOf68
 v37:=Tryz.zeroValue68
 t46:=Tryz.underlying254
 a46:=Tryz.isAgg254
 z46:=Tryz.sizeOf254
 v46:=Tryz.zeroValue254
 t51:=Tryz.underlying252
 a51:=Tryz.isAgg252
 z51:=Tryz.sizeOf252
 v51:=Tryz.zeroValue252
 t53:=Tryz.underlying238
 a53:=Tryz.isAgg238
 z53:=Tryz.sizeOf238
 v53:=Tryz.zeroValue238
 t171:=Tryz.underlying237
 a171:=Tryz.isAgg237
 z171:=Tryz.sizeOf237
 v171:=Tryz.zeroValue237
 t173:=Tryz.underlying241
 a173:=Tryz.isAgg241
 z173:=Tryz.sizeOf241
 v173:=Tryz.zeroValue241
 t212:=Tryz.underlying251
 a212:=Tryz.isAgg251
 z212:=Tryz.sizeOf251
 v212:=Tryz.zeroValue251
 t213:=Tryz.underlying253
 a213:=Tryz.isAgg253
 z213:=Tryz.sizeOf253
 t232:=Tryz.underlying266
 a232:=Tryz.isAgg266
 z232:=Tryz.sizeOf266
 v232:=Tryz.zeroValue266
 t233:=Tryz.underlying267
 a233:=Tryz.isAgg267
 z233:=Tryz.sizeOf267
 v233:=Tryz.zeroValue267
 g17:=by kernel_rfl
 g18:=by kernel_rfl
 g19:=by kernel_rfl
 i0:=by kernel_rfl
 i2:=by kernel_rfl
 i3:=by kernel_rfl
 i4:=by kernel_rfl
 i5:=by kernel_rfl
 i9:=by kernel_rfl
 i20:=by kernel_rfl
 i37:=by kernel_rfl
 i46:=by kernel_rfl
 i51:=by kernel_rfl
 i53:=by kernel_rfl
 i171:=by kernel_rfl
 i173:=by kernel_rfl
 i212:=by kernel_rfl
 i232:=by kernel_rfl
 i233:=by kernel_rfl
 m17:=by kernel_rfl
 m18:=by kernel_rfl
 m19:=by kernel_rfl}
open Go.RowKit Go.Sort Go.Lib in
theorem Tryz.strconv_Itoa (n:Int) (h0: -9223372036854775808≤n) (h1:n≤9223372036854775807) (w:World) (htab:Lib.TabIs Tryz.prog w "internal/strconv.uint64pow10" .u64 Lib.pow10Tab):
 Calls Tryz.prog 91 #[.int .i64 n] w fun e w'=>e= .returned (.string ⟨(Lib.itoa n).toArray⟩)∧ ∃k os,w'=grow (w.drewN k) os:=Any.strconv_Itoa Tryz.laysM171 n h0 h1 w htab
def Tryz.lays145_ren:Go.Shelf.Ren:=⟨fun|145=>204|220=>243|219=>260|217=>270|225=>271|224=>272|267=>273|266=>278|314=>279|n=>n,fun|9=>9|4=>4|59=>206|3=>3|5=>5|46=>254|146=>269|51=>252|n=>n,fun|1=>1|n=>n⟩
theorem Tryz.lays145:Go.Proofs.Lays.n145 Tryz.prog Tryz.lays145_ren:={
 mixed:=by kernel_rfl
 f145:=Tryz.func204.trans (aA some (by kernel_rfl))
 f217:=Tryz.func270.trans (aA some (by kernel_rfl))
 f219:=Tryz.func260.trans (aA some (by kernel_rfl))
 f220:=Tryz.func243.trans (aA some (by kernel_rfl))
 f224:=Tryz.func272.trans (aA some (by kernel_rfl))
 f225:=Tryz.func271.trans (aA some (by kernel_rfl))
 f266:=Tryz.func278.trans (aA some (by kernel_rfl))
 f267:=Tryz.func273.trans (aA some (by kernel_rfl))
 f314:=Tryz.func279.trans (aA some (by kernel_rfl))
 t3:=Tryz.underlying3
 a3:=Tryz.isAgg3
 z3:=Tryz.sizeOf3
 v3:=Tryz.zeroValue3
 t4:=Tryz.underlying4
 a4:=Tryz.isAgg4
 z4:=Tryz.sizeOf4
 v4:=Tryz.zeroValue4
 t5:=Tryz.underlying5
 a5:=Tryz.isAgg5
 z5:=Tryz.sizeOf5
 v5:=Tryz.zeroValue5
 t9:=Tryz.underlying9
 a9:=Tryz.isAgg9
 z9:=Tryz.sizeOf9
 v9:=Tryz.zeroValue9
 t46:=Tryz.underlying254
 a46:=Tryz.isAgg254
 z46:=Tryz.sizeOf254
 v46:=Tryz.zeroValue254
 t51:=Tryz.underlying252
 a51:=Tryz.isAgg252
 z51:=Tryz.sizeOf252
 v51:=Tryz.zeroValue252
 t59:=Tryz.underlying206
 a59:=Tryz.isAgg206
 z59:=Tryz.sizeOf206
 v59:=Tryz.zeroValue206
 t146:=Tryz.underlying269
 a146:=Tryz.isAgg269
 z146:=Tryz.sizeOf269
 v146:=Tryz.zeroValue269
 g1:=by kernel_rfl}
open Go.RowKit Go.Lib in
theorem Tryz.strings_Cut (s sep:ByteArray) (m:Int) (w:World) (hs:s.size<4294967281) (hm:w.cell? ⟨1,0,none⟩=some (.int .i64 m)):
 Calls Tryz.prog 204 #[.string s,.string sep] w fun e w'=>e= .returned (.tuple #[.string ⟨(Lib.cut s.data.toList sep.data.toList).1.toArray⟩,.string ⟨(Lib.cut s.data.toList sep.data.toList).2.1.toArray⟩,.bool (Lib.cut s.data.toList sep.data.toList).2.2])∧ ∃n,w'=w.drewN n:=Any.strings_Cut Tryz.lays145 s sep m w hs hm
def Tryz.lays146_ren:Go.Shelf.Ren:=⟨fun|146=>209|221=>248|268=>261|138=>262|143=>263|195=>274|197=>275|218=>276|219=>260|260=>280|217=>270|225=>271|224=>272|267=>273|266=>278|314=>279|n=>n,fun|9=>9|31=>71|3=>3|4=>4|0=>0|105=>264|21=>21|5=>5|46=>254|119=>273|139=>276|138=>275|146=>269|51=>252|n=>n,fun|1=>1|3=>4|4=>5|n=>n⟩
theorem Tryz.lays146:Go.Proofs.Lays.n146 Tryz.prog Tryz.lays146_ren:={
 mixed:=by kernel_rfl
 f138:=Tryz.func262.trans (aA some (by kernel_rfl))
 f143:=Tryz.func263.trans (aA some (by kernel_rfl))
 f146:=Tryz.func209.trans (aA some (by kernel_rfl))
 f195:=Tryz.func274.trans (aA some (by kernel_rfl))
 f197:=Tryz.func275.trans (aA some (by kernel_rfl))
 f217:=Tryz.func270.trans (aA some (by kernel_rfl))
 f218:=Tryz.func276.trans (aA some (by kernel_rfl))
 f219:=Tryz.func260.trans (aA some (by kernel_rfl))
 f221:=Tryz.func248.trans (aA some (by kernel_rfl))
 f224:=Tryz.func272.trans (aA some (by kernel_rfl))
 f225:=Tryz.func271.trans (aA some (by kernel_rfl))
 f260:=Tryz.func280.trans (aA some (by kernel_rfl))
 f266:=Tryz.func278.trans (aA some (by kernel_rfl))
 f267:=Tryz.func273.trans (aA some (by kernel_rfl))
 f268:=Tryz.func261.trans (aA some (by kernel_rfl))
 f314:=Tryz.func279.trans (aA some (by kernel_rfl))
 t0:=Tryz.underlying0
 a0:=Tryz.isAgg0
 z0:=Tryz.sizeOf0
 v0:=Tryz.zeroValue0
 t3:=Tryz.underlying3
 a3:=Tryz.isAgg3
 z3:=Tryz.sizeOf3
 v3:=Tryz.zeroValue3
 t4:=Tryz.underlying4
 a4:=Tryz.isAgg4
 z4:=Tryz.sizeOf4
 v4:=Tryz.zeroValue4
 t5:=Tryz.underlying5
 a5:=Tryz.isAgg5
 z5:=Tryz.sizeOf5
 v5:=Tryz.zeroValue5
 t9:=Tryz.underlying9
 a9:=Tryz.isAgg9
 z9:=Tryz.sizeOf9
 v9:=Tryz.zeroValue9
 t21:=Tryz.underlying21
 a21:=Tryz.isAgg21
 z21:=Tryz.sizeOf21
 v21:=Tryz.zeroValue21
 t31:=Tryz.underlying71
 a31:=Tryz.isAgg71
 z31:=Tryz.sizeOf71
 v31:=Tryz.zeroValue71
 t46:=Tryz.underlying254
 a46:=Tryz.isAgg254
 z46:=Tryz.sizeOf254
 v46:=Tryz.zeroValue254
 t51:=Tryz.underlying252
 a51:=Tryz.isAgg252
 z51:=Tryz.sizeOf252
 v51:=Tryz.zeroValue252
 t105:=Tryz.underlying264
 a105:=Tryz.isAgg264
 z105:=Tryz.sizeOf264
 v105:=Tryz.zeroValue264
 t119:=Tryz.underlying273
 a119:=Tryz.isAgg273
 z119:=Tryz.sizeOf273
 t138:=Tryz.underlying275
 a138:=Tryz.isAgg275
 z138:=Tryz.sizeOf275
 v138:=Tryz.zeroValue275
 t139:=Tryz.underlying276
 a139:=Tryz.isAgg276
 z139:=Tryz.sizeOf276
 v139:=Tryz.zeroValue276
 t146:=Tryz.underlying269
 a146:=Tryz.isAgg269
 z146:=Tryz.sizeOf269
 v146:=Tryz.zeroValue269
 g1:=by kernel_rfl
 g3:=by kernel_rfl
 g4:=by kernel_rfl}
open Go.RowKit Go.Lib in
theorem Tryz.strings_Split (s sep:ByteArray) (m:Int) (w:World) (hs:s.size<4294967281) (hm:w.cell? ⟨1,0,none⟩=some (.int .i64 m)) (h1:1≤sep.size):
 Calls Tryz.prog 209 #[.string s,.string sep] w fun e w'=>
  e= .returned (.slice (some ⟨w.heap.size,0,none⟩) (Lib.countB s sep+1) (Lib.countB s sep+1))∧w'=w.alloc (.cells ((Lib.splitB sep 0 (Lib.countB s sep) s).map Value.string).toArray 9):=Any.strings_Split Tryz.lays146 (by kernel_rfl) s sep m w hs hm h1
def Tryz.lays147_ren:Go.Shelf.Ren:=⟨fun|147=>245|221=>248|268=>261|138=>262|143=>263|195=>274|197=>275|218=>276|219=>260|260=>280|217=>270|225=>271|224=>272|267=>273|266=>278|314=>279|n=>n,fun|9=>9|3=>3|31=>71|4=>4|0=>0|105=>264|21=>21|5=>5|46=>254|119=>273|139=>276|138=>275|146=>269|51=>252|n=>n,fun|1=>1|3=>4|4=>5|n=>n⟩
theorem Tryz.lays147:Go.Proofs.Lays.n147 Tryz.prog Tryz.lays147_ren:={
 mixed:=by kernel_rfl
 f138:=Tryz.func262.trans (aA some (by kernel_rfl))
 f143:=Tryz.func263.trans (aA some (by kernel_rfl))
 f147:=Tryz.func245.trans (aA some (by kernel_rfl))
 f195:=Tryz.func274.trans (aA some (by kernel_rfl))
 f197:=Tryz.func275.trans (aA some (by kernel_rfl))
 f217:=Tryz.func270.trans (aA some (by kernel_rfl))
 f218:=Tryz.func276.trans (aA some (by kernel_rfl))
 f219:=Tryz.func260.trans (aA some (by kernel_rfl))
 f221:=Tryz.func248.trans (aA some (by kernel_rfl))
 f224:=Tryz.func272.trans (aA some (by kernel_rfl))
 f225:=Tryz.func271.trans (aA some (by kernel_rfl))
 f260:=Tryz.func280.trans (aA some (by kernel_rfl))
 f266:=Tryz.func278.trans (aA some (by kernel_rfl))
 f267:=Tryz.func273.trans (aA some (by kernel_rfl))
 f268:=Tryz.func261.trans (aA some (by kernel_rfl))
 f314:=Tryz.func279.trans (aA some (by kernel_rfl))
 t0:=Tryz.underlying0
 a0:=Tryz.isAgg0
 z0:=Tryz.sizeOf0
 v0:=Tryz.zeroValue0
 t3:=Tryz.underlying3
 a3:=Tryz.isAgg3
 z3:=Tryz.sizeOf3
 v3:=Tryz.zeroValue3
 t4:=Tryz.underlying4
 a4:=Tryz.isAgg4
 z4:=Tryz.sizeOf4
 v4:=Tryz.zeroValue4
 t5:=Tryz.underlying5
 a5:=Tryz.isAgg5
 z5:=Tryz.sizeOf5
 v5:=Tryz.zeroValue5
 t9:=Tryz.underlying9
 a9:=Tryz.isAgg9
 z9:=Tryz.sizeOf9
 v9:=Tryz.zeroValue9
 t21:=Tryz.underlying21
 a21:=Tryz.isAgg21
 z21:=Tryz.sizeOf21
 v21:=Tryz.zeroValue21
 t31:=Tryz.underlying71
 a31:=Tryz.isAgg71
 z31:=Tryz.sizeOf71
 v31:=Tryz.zeroValue71
 t46:=Tryz.underlying254
 a46:=Tryz.isAgg254
 z46:=Tryz.sizeOf254
 v46:=Tryz.zeroValue254
 t51:=Tryz.underlying252
 a51:=Tryz.isAgg252
 z51:=Tryz.sizeOf252
 v51:=Tryz.zeroValue252
 t105:=Tryz.underlying264
 a105:=Tryz.isAgg264
 z105:=Tryz.sizeOf264
 v105:=Tryz.zeroValue264
 t119:=Tryz.underlying273
 a119:=Tryz.isAgg273
 z119:=Tryz.sizeOf273
 t138:=Tryz.underlying275
 a138:=Tryz.isAgg275
 z138:=Tryz.sizeOf275
 v138:=Tryz.zeroValue275
 t139:=Tryz.underlying276
 a139:=Tryz.isAgg276
 z139:=Tryz.sizeOf276
 v139:=Tryz.zeroValue276
 t146:=Tryz.underlying269
 a146:=Tryz.isAgg269
 z146:=Tryz.sizeOf269
 v146:=Tryz.zeroValue269
 g1:=by kernel_rfl
 g3:=by kernel_rfl
 g4:=by kernel_rfl}
open Go.RowKit Go.Lib in
theorem Tryz.strings_SplitN (s sep:ByteArray) (n:Nat) (m:Int) (w:World) (hs:s.size<4294967281) (hm:w.cell? ⟨1,0,none⟩=some (.int .i64 m)) (h1:1≤sep.size) (hn:1≤n) (hn63:n≤9223372036854775807):
 Calls Tryz.prog 245 #[.string s,.string sep,.int .i64 n] w fun e w'=>
  e= .returned (.slice (some ⟨w.heap.size,0,none⟩) (Lib.splitB sep 0 (min n (s.size+1) - 1) s).length (min n (s.size+1)))∧w'=w.alloc (.cells (Lib.cellsOf (Lib.splitB sep 0 (min n (s.size+1) - 1) s) (min n (s.size+1))) 9):=Any.strings_SplitN Tryz.lays147 (by kernel_rfl) s sep n m w hs hm h1 hn hn63
end Go.Proofs
namespace Go.Proofs.YtmabaopgkimfmaaGreatDoor
open Int renaming toNat_natCast→aVr
open Nat renaming le_of_ble_eq_true→aVs,zero_le→aVv,le_refl→aVz
open List renaming length_append→aVt,length_cons→aVw,length_nil→aVx,getD_eq_getElem?_getD→aVy,length_take→aV0,getElem?_eq_getElem→aV1,getElem?_eq_some_iff→aV2,take_length→aV3,length_drop→aV4,mem_map→aV5,mem_cons→aV6,range→aV7,all_eq_true→aV8,length_set→aV9,mem_singleton→aWa,replicate→aWb
open Bool renaming and_eq_true→aVu,or_eq_true→aWc
open Go Go.Ab Go.RowKit
set_option linter.unusedVariables false
set_option linter.unusedSimpArgs false
set_option maxRecDepth 9000
theorem cn (n:Nat) (hn:n≤1000000):Ab.Spec Tryz.prog 91 1 [(.t 0,.v (I n))] [(.t 0,.v (Dv (.s (jA n))))]:=aJz ⟨Tryz.f91,Tryz.func91,by kernel_rfl,by kernel_rfl⟩ n hn fun w ht=>Tryz.strconv_Itoa n (by omega) (by omega) w ht
theorem yx (s:List UInt8) (hs:s.length≤1000000):Sp 204 2 [tD 0 (.s s),tD 1 (.s [32])] [tV 0 (.tup [.c (.d (.s (bC s))),.c (.d (.s (aO s))),.c (.d (.b (fG s)))])]:=by
 refine aMr ⟨Tryz.f204,Tryz.func204,by kernel_rfl,by kernel_rfl⟩ s hs fun w hg=> ?_
 obtain⟨m,hm⟩:=ms hg (g:=1) (by kernel_rfl)
 exact Tryz.strings_Cut ⟨s.toArray⟩ ⟨#[32]⟩ m w (show s.toArray.size<4294967281 by simp;omega) hm
theorem qo (s:List UInt8) (hs:s.length≤1000000):Sp 209 2 [tD 0 (.s s),tD 1 (.s [32])] [tD 0 (.sl (aY (cR s)))]:=by
 refine aG4 (e:=9) ⟨Tryz.f209,Tryz.func209,by kernel_rfl,by kernel_rfl⟩ s hs fun w hg=> ?_
 obtain⟨m,hm⟩:=ms hg (g:=1) (by kernel_rfl)
 exact Tryz.strings_Split ⟨s.toArray⟩ ⟨#[32]⟩ m w (show s.toArray.size<4294967281 by simp;omega) hm (show 1≤1 by omega)
theorem nh (s:List UInt8) (hs:s.length≤1000000):Sp 245 3 [tD 0 (.s s),tD 1 (.s [32]),tI 2 5] [tD 0 (.sl (aY (iA 4 s)))]:=by
 refine aEg (e:=9) ⟨Tryz.f245,Tryz.func245,by kernel_rfl,by kernel_rfl⟩ 4 s hs (by omega) fun w hg=> ?_
 obtain⟨m,hm⟩:=ms hg (g:=1) (by kernel_rfl)
 exact Tryz.strings_SplitN ⟨s.toArray⟩ ⟨#[32]⟩ 5 m w (show s.toArray.size<4294967281 by simp;omega) hm (show 1≤1 by omega) (by omega) (by omega)
theorem aBi (s:List UInt8) (hl:s.length≤140737488355328):Ab.Spec Tryz.prog 108 1 [(.t 0,.v (Dv (.s s)))] [(.t 0,.v (.tup [.c (.d (.i (iH s))),.c (.d (.b (iU s).isSome))]))]:=cm s hl
theorem uH (n:Int) (h:0≤n∧n≤1000000):Sp 91 1 [tI 0 n] [tD 0 (.s (jA n.toNat))]:=by
 obtain⟨m,rfl⟩:=Int.eq_ofNat_of_zero_le h.1
 exact cn m (by omega)
theorem kU (n:Int) (h:0≤n∧n≤1000000):Sp 89 1 [tI 0 n] [tD 0 (.s (jA n.toNat))]:=by
 obtain⟨m,rfl⟩:=Int.eq_ofNat_of_zero_le h.1
 exact uF m (by omega)
theorem ax (l:List (List UInt8)) (hl:l.length≤1000000) (hx: ∀x∈l,x.length≤1000000):Sp 208 1 [tD 0 (.sl (aY l))] [tV 0 (.tup [.c (.d (.sl (bW (jY l)))),.c (.d (.b (gY l)))])]:=by
 refine sb Tryz.func208 rfl (sq (rT [0] (s2 (sq (rT [0,4] (s1 (sq (sq (rT [4,9,10,11] (s3 (bk (SW.nilOwn 4 8 3 1 rfl rfl (SW.loopW (n:=l.length) (fun m q=> ∃i:Nat,m=l.length - i∧i≤l.length∧(∀j,j<i→(iU (l.getD j [])).isSome=true)∧q=[tO 4 8 (i),tD 9 (.sl (aY l)),tI 10 (l.length:Nat),tI 11 (i:Nat),oR 8 3 1 (bW ((l.take (i)).map iH))]) ?_ ?_)))))))))))))
 · refine wq (σ':=[tO 4 8 (0),tD 9 (.sl (aY l)),tI 10 (l.length:Nat),tI 11 (0:Nat),oR 8 3 1 (bW ((l.take (0)).map iH))]) [] [] (⟨0,rfl,aVv _,fun j h=>absurd h (by omega),rfl⟩) ?_
   repeat' apply ai
   all_goals first|exact qx|rfl|(rw[aJ];done)|(simp[aJ];done)|exact qz
 rintro n s ⟨i,rfl,hi,hk,rfl⟩
 refine sq (rT [4,9,10,11,12] (s1 (sq (cd rfl (fun c12=> ?_) fun c12=> ?_))))
 · have hi2:i<l.length:=by simpa using c12
   have hg:=eN (l:=l) hi2
   refine sk (sq (bk (sq (rT [4,6,9,10,11] (ai (by rw[aVr,hg];exact⟨⟨by omega,by rw[aJ];omega⟩,rfl⟩) (ai (by rw[aVr,hg];exact⟨aVs rfl,rfl⟩) (s1 (sq (wa [tO 4 8 (i),tD 6 (.s (l.getD i [])),tD 9 (.sl (aY l)),tI 10 (l.length:Nat),tI 11 (i:Nat),oR 8 3 1 (bW ((l.take (i)).map iH))] [] [] ?_ ?_)))))))))
   · repeat' apply ai
     all_goals first|exact qx|(rw[aVr,hg];rfl)|exact qz
   refine rT [4,7,8,9,10,11] (s1 (xp (aBi (l.getD i []) (by have:=hx _ (cM (z:=[]) hi2);omega)) (ai rfl ?_)))
   refine s5 (sq (sq (rT [4,7,9,10,11,21] (s2 (cd rfl (fun c21=> ?_) fun c21=> ?_)))))
   · refine sq (rT [2,3] (s2 (rt ?_)))
     have hno:=aJ2 hi2 (by simpa using c21)
     exact dO _ [] [] rfl ⟨⟨_,rfl,aA D.sl (show bW (jY l)=[] by rw[jY,hno];rfl),aA D.b hno.symm,trivial⟩,trivial⟩ rfl rfl
   refine sk (rT [4,9,10,11] (s2 (ai (by exact⟨by simp,aVs rfl⟩) (ai (by refine⟨rfl,by rw[bN,List.length_map,aV0];omega,by simp,?_⟩;show(_+1)*8≤_;omega) (s1 (rT [4,9,10,11] (s2 ?_)))))))
   have hs: (iU (l.getD i [])).isSome=true:=by simpa using c21
   refine wq [] [] (⟨l.length - (i+1),by omega,i+1,rfl,by omega,fun j h=>by by_cases e:j=i;exact e▸hs;exact hk j (by omega),rfl⟩) ?_
   repeat' apply ai
   all_goals first|exact qx|rfl|(rw[yo hi2];exact iM _ _)|(exact aA D.i (by rw[aF (by omega)];omega))|(simp[bN,aV0];omega)|exact qz
 have hi3:i=l.length:=by simp at c12;omega
 refine xt (sq (rT [2,3] (s3 (rt ?_))))
 have hyes:=aG6 (hi3▸hk)
 exact dO _ [] [8] rfl ⟨⟨_,rfl,⟨by simp,_,_,_,rfl,by rw[bN,List.length_map,aV0];omega,.inl (aA D.sl (by rw[jY,aC hyes,hi3,aV3]))⟩,aA D.b hyes.symm,trivial⟩,trivial⟩ rfl rfl
theorem fe (s:List UInt8) (hl:s.length≤1000000):Sp 228 1 [tD 0 (.s s)] [tV 0 (.tup [.c (.d (.s (bC s))),.c (.d (.s (aO s)))])]:=by
 refine sb Tryz.func228 rfl (sq (rT [0] (s2 (sq (sq (rT [0,4] (s1 (bk (SW.loopW (n:=s.length) (fun m q=> ∃i:Nat,m=s.length - i∧i≤s.length∧(∀j,j<i→s.getD j 0≠32)∧q=[tD 0 (.s s),tI 4 (i:Nat)]) ?_ ?_)))))))))
 · exact wq (σ':=[tD 0 (.s s),tI 4 (0:Nat)]) [] [] (⟨0,rfl,aVv _,fun j h=>absurd h (by omega),rfl⟩) qz
 rintro n s ⟨i,rfl,hi,hk,rfl⟩
 refine sq (sq (rT [0,4,8] (s4 (cd rfl (fun c8=> ?_) fun c8=> ?_))))
 · have hi2:i<s.length:=by simpa using c8
   refine sk (sq (bk (sq (rT [0,4,14] (s2 (ai (by exact⟨by omega,by omega⟩) (s1 (cd rfl (fun c14=> ?_) fun c14=> ?_))))))))
   · have h32:s.getD i 0=32:=by
      have h9:=c14
      rw[aVr] at h9
      have h10: ((s.getD i 0).toNat:Int)=32:=by simpa only[beq_iff_eq] using h9
      apply UInt8.toNat_inj.1
      have h6: (32:UInt8).toNat=32:=rfl
      omega
     obtain⟨e1,e2,e3⟩:=aMt hk hi2 h32
     refine sq (rD [2,3] (s2 (ai (by simp[bnd,gD,iE];omega) (s3 (ai (by rw[aF (by omega)];simp[bnd,gD,iE];omega) (s2 (ai (by kernel_rfl) (rt (bI rfl rfl ?_)))))))))
     rw[e1,e2,aF (by omega)]
     simp[gD,iE]
   refine sk (rT [0,4] (s3 ?_))
   have hs:s.getD i 0≠32:=by
    have h9:=c14
    rw[aVr] at h9
    intro e
    rw[e] at h9
    exact absurd h9 (by decide)
   refine wq [] [] (⟨s.length - (i+1),by omega,i+1,rfl,by omega,fun j h=>by by_cases e:j=i;exact e▸hs;exact hk j (by omega),rfl⟩) ?_
   repeat' apply ai
   all_goals first|exact qx|exact aA D.i (aF (by omega))|exact qz
 have hi3:i=s.length:=by simp at c8;omega
 refine xt (sq (rT [2,3] (s3 (rt ?_))))
 obtain⟨e1,e2,e3⟩:=aJ1 (hi3▸hk)
 refine bI rfl rfl ?_
 rw[e1,e2]
 rfl
theorem ff (s:List UInt8) (n:Nat) (hl:s.length≤1000000) (hn:n≤100):Sp 233 2 [tD 0 (.s s),tI 1 (n:Nat)] [tV 0 (.tup [.c (.d (.sl (bW (eO n s)))),.c (.d (.s (lT n s)))])]:=by
 refine sb Tryz.func233 rfl (sq (rT [0,1] (s2 (sq (rT [0,1,6] (ai (by exact⟨by simp,aVs rfl⟩) (s1 (sq (sq (rT [0,1,6,7] (s1 (bk (SW.loopW (n:=n) (fun m q=> ∃i:Nat,m=n - i∧i≤n∧q=[tD 0 (.s (lT (i) s)),tI 1 (n:Nat),tO 6 10 (i),tI 7 (i:Nat),oR 10 3 1 (bW (eO (i) s))]) ?_ ?_)))))))))))))
 · refine wq (σ':=[tD 0 (.s (lT (0) s)),tI 1 (n:Nat),tO 6 10 (0),tI 7 (0:Nat),oR 10 3 1 (bW (eO (0) s))]) [] [] (⟨0,rfl,aVv _,rfl⟩) ?_
   repeat' apply ai
   all_goals first|exact qx|rfl|exact qz
 rintro n s ⟨i,rfl,hi,rfl⟩
 refine sq (sq (rT [0,1,6,7,13] (s3 (cd rfl (fun c13=> ?_) fun c13=> ?_))))
 · have hi2:i<n:=by simpa using c13
   have hr:=tp i s
   have hr2:=dm (lT i s)
   refine sk (sq (bk (sq (rT [1,6,7,8,9] (s1 (xp (fe (lT i s) (by omega)) (ai rfl ?_)))))))
   refine s5 (sq (rT [1,6,7,9] (s2 (xp (uG (bC (lT i s)) (by omega)) (ai rfl ?_)))))
   refine ai (by exact⟨by simp,aVs rfl⟩) (ai (by refine⟨rfl,by rw[bN,bE],by simp,?_⟩;show(_+1)*8≤_;omega) (s1 (rT [0,1,6,7] (s2 (rT [0,1,6,7] (s3 (wq [] [] (⟨n - (i+1),by omega,i+1,rfl,by omega,rfl⟩) ?_)))))))
   repeat' apply ai
   all_goals first|exact qx|rfl|(rw[aG5];exact iM _ _)|(exact aA D.i (by rw[aF (by omega)];omega))|(simp[bN,bE];done)|exact qz
 have hi3:i=n:=by simp at c13;omega
 refine xt (sq (rT [4,5] (s4 (rt ?_))))
 subst hi3
 exact dO _ [] [10] rfl ⟨⟨_,rfl,⟨by simp,_,_,_,rfl,by rw[bN,bE],.inl rfl⟩,rfl,trivial⟩,trivial⟩ rfl rfl
theorem nS (n:bA) (hl:n.text.length≤140737488355328):Sp 93 1 [tV 0 n.V] [tD 0 (.s (fN n))]:=by
 refine sb Tryz.func93 rfl (sq (rT [1] (s2 (sq (sq (rT [1,5] (s1 (xp (sF _ vc) (ai rfl ?_)))))))))
 refine s1 (cd rfl (fun c5=> ?_) fun c5=> ?_)
 · refine sq (rT [2] (s1 (rt (aU rfl (aA D.s ?_)))))
   have hno:dZ n=false:=by simpa using c5
   rw[fN,hno];rfl
 have hok:dZ n=true:=by simpa using c5
 obtain⟨p1,p2,p3,p4,p5⟩:=nM hok
 have q1:=bP (k:=3) (n:=n.frm.toNat) (by simp;omega)
 have q2:=bP (k:=3) (n:=n.num.toNat) (by simp;omega)
 have q3:=bP (k:=3) (n:=n.to.toNat) (by simp;omega)
 have q4:=bP (k:=3) (n:=n.til.toNat) (by simp;omega)
 refine sk (sq (rD [2] (s2 (xp (uH n.frm (by omega)) (ai rfl ?_)))))
 refine ai (by show _≤9223372036854775807;simp only[aVt,aVw,aVx];omega) (s2 (xp (uH n.num (by omega)) (ai rfl ?_)))
 refine ai (by show _≤9223372036854775807;simp only[aVt,aVw,aVx];omega) (ai (by show _≤9223372036854775807;simp only[aVt,aVw,aVx];omega) (s2 (xp (uH n.to (by omega)) (ai rfl ?_))))
 refine ai (by show _≤9223372036854775807;simp only[aVt,aVw,aVx];omega) (ai (by show _≤9223372036854775807;simp only[aVt,aVw,aVx];omega) (s2 (xp (uH n.til (by omega)) (ai rfl ?_))))
 refine ai (by show _≤9223372036854775807;simp only[aVt,aVw,aVx];omega) (ai (by show _≤9223372036854775807;simp only[aVt,aVw,aVx];omega) (s2 (ai (by show _≤9223372036854775807;simp only[aVt,aVw,aVx];omega) (s1 (ai (by kernel_rfl) (rt (aU rfl (aA D.s ?_))))))))
 rw[fN,aC hok];rfl
theorem nT (n:bA) (hl:n.text.length≤140737488355328):Sp 92 1 [tV 0 n.V] [tD 0 (.s (fN n))]:=by
 refine sb Tryz.func92 rfl (sq (rT [1] (s2 (sq (sq (rT [1,5] (s1 (xp (wV _ vc) (ai rfl ?_)))))))))
 refine s1 (cd rfl (fun c5=> ?_) fun c5=> ?_)
 · refine sq (rT [2] (s1 (rt (aU rfl (aA D.s ?_)))))
   have hno:dZ n=false:=by simpa using c5
   rw[fN,hno];rfl
 have hok:dZ n=true:=by simpa using c5
 obtain⟨p1,p2,p3,p4,p5⟩:=nM hok
 have q1:=bP (k:=3) (n:=n.frm.toNat) (by simp;omega)
 have q2:=bP (k:=3) (n:=n.num.toNat) (by simp;omega)
 have q3:=bP (k:=3) (n:=n.to.toNat) (by simp;omega)
 have q4:=bP (k:=3) (n:=n.til.toNat) (by simp;omega)
 refine sk (sq (rD [2] (s2 (xp (kU n.frm (by omega)) (ai rfl ?_)))))
 refine ai (by show _≤9223372036854775807;simp only[aVt,aVw,aVx];omega) (s2 (xp (kU n.num (by omega)) (ai rfl ?_)))
 refine ai (by show _≤9223372036854775807;simp only[aVt,aVw,aVx];omega) (ai (by show _≤9223372036854775807;simp only[aVt,aVw,aVx];omega) (s2 (xp (kU n.to (by omega)) (ai rfl ?_))))
 refine ai (by show _≤9223372036854775807;simp only[aVt,aVw,aVx];omega) (ai (by show _≤9223372036854775807;simp only[aVt,aVw,aVx];omega) (s2 (xp (kU n.til (by omega)) (ai rfl ?_))))
 refine ai (by show _≤9223372036854775807;simp only[aVt,aVw,aVx];omega) (ai (by show _≤9223372036854775807;simp only[aVt,aVw,aVx];omega) (s2 (ai (by show _≤9223372036854775807;simp only[aVt,aVw,aVx];omega) (s1 (ai (by kernel_rfl) (rt (aU rfl (aA D.s ?_))))))))
 rw[fN,aC hok];rfl
theorem qp (s:List UInt8) (hl:s.length≤1000000):Sp 206 1 [tD 0 (.s s)] [tV 0 (.tup [.agg [.d (.i ((dK s).1).frm),.d (.i ((dK s).1).num),.d (.i ((dK s).1).to),.d (.i ((dK s).1).til),.d (.s ((dK s).1).text)],.c (.d (.b (dK s).2))])]:=by
 refine sb Tryz.func206 rfl (sq (rT [0,2] (s2 (sq (rT [0,2,4] (s1 (xp (nh s hl) (ai rfl ?_))))))))
 refine s1 (sq (sq (rT [0,2,4,12] (s3 (cd rfl (fun c12=> ?_) fun c12=> ?_)))))
 · refine sq (rT [2,3] (s3 (rt (bI rfl rfl ?_))))
   rw[tq (.inl (by simp[aJ] at c12;omega))]
   rfl
 have h5: (iA 4 s).length=5:=by simp[aJ] at c12;omega
 refine sk (sq (rT [0,2,4,5,6] (s1 (ai (by refine⟨?_,yX _⟩;rw[aJ,h5];simp[bnd,gD,iE]) (xp (ax ((iA 4 s).take 4) (by rw[aV0];omega) (fun x hx=>by have:=jl 4 s x (List.mem_of_mem_take hx);omega)) (ai (by show _=dJ 0 [Dv (.sl (List.drop 0 (List.take 4 (aY (iA 4 s)))))];rw[List.drop_zero,aCq];rfl) ?_))))))
 refine s5 (sq (sq (rT [0,2,4,5,21] (s2 (cd rfl (fun c21=> ?_) fun c21=> ?_)))))
 · refine sq (rT [2,3] (s3 (rt (bI rfl rfl ?_))))
   rw[tq (.inr (.inl (by simpa using c21)))]
   rfl
 have hok:gY ((iA 4 s).take 4)=true:=by simpa using c21
 refine sk (sq (rD [0,2,7] (s1 (ai (by exact jg (l:=jY ((iA 4 s).take 4)) (by omega) (by rw[gP hok,aV0];omega)) (ai (by have:=gZ (l:=jY ((iA 4 s).take 4)) (i:=0) (by rw[gP hok,aV0];omega);first|(rw[show((0:Int)).toNat=((0:Nat):Int).toNat from rfl,this];exact⟨aVs rfl,rfl⟩)) (s1 (ai (by exact jg (l:=jY ((iA 4 s).take 4)) (by omega) (by rw[gP hok,aV0];omega)) (ai (by have:=gZ (l:=jY ((iA 4 s).take 4)) (i:=1) (by rw[gP hok,aV0];omega);first|(rw[show((1:Int)).toNat=((1:Nat):Int).toNat from rfl,this];exact⟨aVs rfl,rfl⟩)) (s1 (ai (by exact jg (l:=jY ((iA 4 s).take 4)) (by omega) (by rw[gP hok,aV0];omega)) (ai (by have:=gZ (l:=jY ((iA 4 s).take 4)) (i:=2) (by rw[gP hok,aV0];omega);first|(rw[show((2:Int)).toNat=((2:Nat):Int).toNat from rfl,this];exact⟨aVs rfl,rfl⟩)) (s1 (ai (by exact jg (l:=jY ((iA 4 s).take 4)) (by omega) (by rw[gP hok,aV0];omega)) (ai (by have:=gZ (l:=jY ((iA 4 s).take 4)) (i:=3) (by rw[gP hok,aV0];omega);first|(rw[show((3:Int)).toNat=((3:Nat):Int).toNat from rfl,this];exact⟨aVs rfl,rfl⟩)) (s1 (ai (by exact ixS (l:=iA 4 s) (by omega) (by omega)) (ai (by exact ldS (l:=iA 4 s) (by omega) (by omega)) (s3 (ai (by kernel_rfl) (sq (sq (SW.wk (J:=fun q=>q=[tD 0 (.s s),tP 2 2,tP 7 7,oB 2 52 [.d (.i 0),.d (.i 0),.d (.i 0),.d (.i 0),.d (.s [])],oB 7 52 [.d (.i (oI s).frm),.d (.i (oI s).num),.d (.i (oI s).to),.d (.i (oI s).til),.d (.s (oI s).text)]]) ?_ ?_))))))))))))))))))))))
 · refine wq [] [] (rfl) ?_
   repeat' apply ai
   all_goals first|exact qx|exact aA D.i (aCr hok h5 (i:=0) (by omega))|exact aA D.i (aCr hok h5 (i:=1) (by omega))|exact aA D.i (aCr hok h5 (i:=2) (by omega))|exact aA D.i (aCr hok h5 (i:=3) (by omega))|exact aA D.s (aVi (l:=iA 4 s) (j:=4) (by omega) (by omega))|exact qz
 rintro q rfl
 refine rT [2,7,47] (s1 (xp (sF (oI s) (by have:=jl 4 s _ (cM (z:=[]) (show 4< (iA 4 s).length by omega));show((iA 4 s).getD 4 []).length≤_;omega)) (ai rfl ?_)))
 refine s2 (y1 (xc (fun h=>(nS (oI s) (by have:=jl 4 s _ (cM (z:=[]) (show 4< (iA 4 s).length by omega));show((iA 4 s).getD 4 []).length≤_;omega))) (ai rfl (ai rk ?_))))
 refine y2 (ai pk (cd rfl (fun c47=> ?_) fun c47=> ?_))
 · refine sq (rT [2,3] (s3 (rt (bI rfl rfl ?_))))
   rw[tq (.inr (.inr (by cases h:dZ (oI s) with|false=>exact .inl rfl|true=>rw[h] at c47;exact .inr (by simpa using c47))))]
   rfl
 refine sk (sq (rT [2,3] (s3 (rt ?_))))
 have h6:dZ (oI s)=true∧fN (oI s)=s:=by simpa using c47
 refine bI rfl rfl ?_
 rw[aJ3 h5 hok h6.1 h6.2]
 rfl
theorem tE (s:List UInt8) (hl:s.length≤1000000):Sp 230 1 [tD 0 (.s s)] [tV 0 (.tup [.agg [.d (.i ((dK s).1).frm),.d (.i ((dK s).1).num),.d (.i ((dK s).1).to),.d (.i ((dK s).1).til),.d (.s ((dK s).1).text)],.c (.d (.b (dK s).2))])]:=by
 refine sb Tryz.func230 rfl (sq (rT [0,2] (s2 (sq (rT [0,2,4,5] (s1 (xp (ff s 4 hl (by omega)) (ai rfl ?_))))))))
 refine s5 (sq (rD [0,2,6] (s1 (ai (by exact jg (l:=eO 4 s) (by omega) (by rw[bE];omega)) (ai (by have:=gZ (l:=eO 4 s) (i:=0) (by rw[bE];omega);first|(rw[show((0:Int)).toNat=((0:Nat):Int).toNat from rfl,this];exact⟨aVs rfl,rfl⟩)) (s1 (ai (by exact jg (l:=eO 4 s) (by omega) (by rw[bE];omega)) (ai (by have:=gZ (l:=eO 4 s) (i:=1) (by rw[bE];omega);first|(rw[show((1:Int)).toNat=((1:Nat):Int).toNat from rfl,this];exact⟨aVs rfl,rfl⟩)) (s1 (ai (by exact jg (l:=eO 4 s) (by omega) (by rw[bE];omega)) (ai (by have:=gZ (l:=eO 4 s) (i:=2) (by rw[bE];omega);first|(rw[show((2:Int)).toNat=((2:Nat):Int).toNat from rfl,this];exact⟨aVs rfl,rfl⟩)) (s1 (ai (by exact jg (l:=eO 4 s) (by omega) (by rw[bE];omega)) (ai (by have:=gZ (l:=eO 4 s) (i:=3) (by rw[bE];omega);first|(rw[show((3:Int)).toNat=((3:Nat):Int).toNat from rfl,this];exact⟨aVs rfl,rfl⟩)) (s4 (ai (by kernel_rfl) (sq (sq (SW.wk (J:=fun q=>q=[tD 0 (.s s),tP 2 2,tP 6 6,oB 2 52 [.d (.i 0),.d (.i 0),.d (.i 0),.d (.i 0),.d (.s [])],oB 6 52 [.d (.i (cb s).frm),.d (.i (cb s).num),.d (.i (cb s).to),.d (.i (cb s).til),.d (.s (cb s).text)]]) ?_ ?_)))))))))))))))))))
 · refine wq [] [] (rfl) ?_
   repeat' apply ai
   all_goals first|exact qx|exact aA D.i (rn (i:=0) (by omega))|exact aA D.i (rn (i:=1) (by omega))|exact aA D.i (rn (i:=2) (by omega))|exact aA D.i (rn (i:=3) (by omega))|rfl|exact qz
 rintro q rfl
 refine rT [2,6,33] (s3 (y1 (xc (fun h=>(nT (cb s) (by have:=tp 4 s;show(lT 4 s).length≤_;omega))) (ai rfl (ai rk ?_)))))
 refine y2 (ai pk (cd rfl (fun c33=> ?_) fun c33=> ?_))
 · refine sq (rT [2,3] (s3 (rt (bI rfl rfl ?_))))
   have hno:dK s=(.zero,false):=by
    rw[dK,aC]
    by_cases h:s=[]
    · exact .inl h
    · rw[show(s==[])=false by simpa using h] at c33;exact .inr (by simpa using c33)
   rw[hno]
   rfl
 refine sk (sq (rT [2,3] (s3 (rt (bI rfl rfl ?_)))))
 have hyes:dK s=(cb s,true):=by
  rw[dK,aB]
  rintro(h|h)
  · subst h;simp at c33
  · by_cases h2:s=[]
    · subst h2;simp at c33
    · rw[show(s==[])=false by simpa using h2] at c33;exact h (by simpa using c33)
 rw[hyes]
 rfl
theorem co (l:List bA) (hl:l.length≤1000000):Sp 211 1 [tD 0 (.sl (aH l))] [tD 0 (.sl (aH l))]:=by
 refine sb Tryz.func211 rfl (sq (rT [0] (s1 (sq (sq (rT [0,6] (s3 (cd rfl (fun c6=> ?_) fun c6=> ?_))))))))
 · refine sq (rT [2] (s1 (rt (dO _ [] [] rfl (bw rfl (aA D.sl ?_) trivial) rfl rfl))))
   simp[aG] at c6;simp[c6,aH]
 refine sk (sq (rT [0,3] (s2 (ai (by refine⟨rfl,by omega,?_⟩;rw[aG];show((48:Nat):Int)*_≤_;omega) (s1 (sq (rT [3] (s2 (ai (by refine⟨trivial,by simp,eY l⟩) (sq (rT [2] (s2 (rt (dO _ [] [9] rfl (dD rfl rfl rfl ?_ (aA D.sl ?_) trivial) rfl rfl))))))))))))))
 · simp
 simp
theorem wd (l:List bU) (hl:l.length≤1000000):Sp 212 1 [tD 0 (.sl (aM l))] [tD 0 (.sl (aM l))]:=by
 refine sb Tryz.func212 rfl (sq (rT [0] (s1 (sq (sq (rT [0,6] (s3 (cd rfl (fun c6=> ?_) fun c6=> ?_))))))))
 · refine sq (rT [2] (s1 (rt (dO _ [] [] rfl (bw rfl (aA D.sl ?_) trivial) rfl rfl))))
   simp[aI] at c6;simp[c6,aM]
 refine sk (sq (rT [0,3] (s2 (ai (by refine⟨rfl,by omega,?_⟩;rw[aI];show((24:Nat):Int)*_≤_;omega) (s1 (sq (rT [3] (s2 (ai (by refine⟨trivial,by simp,jJ l⟩) (sq (rT [2] (s2 (rt (dO _ [] [9] rfl (dD rfl rfl rfl ?_ (aA D.sl ?_) trivial) rfl rfl))))))))))))))
 · simp
 simp
theorem oW (k:aX) (hb:k.held.length≤1000000∧k.marks.length≤1000000∧k.inbox.length≤1000000):Sp 171 1 [tV 0 k.V] [tV 0 k.V]:=by
 refine sb Tryz.func171 rfl (sq (rT [1,2] (s2 (sq (rT [1,2,3] (s3 (sq (rT [1,2,3] (s2 (xp (co k.held hb.1) (ai rfl ?_)))))))))))
 refine s2 (sq (rT [1,2,3] (s2 (xp (wd k.marks hb.2.1) (ai rfl ?_)))))
 refine s2 (sq (rT [2,3] (s2 (xp (co k.inbox hb.2.2) (ai rfl ?_)))))
 exact s2 (sq (rT [2] (s2 (rt (bI rfl rfl rfl)))))
theorem vM (k:aX) (hb:k.held.length≤1000000∧k.marks.length≤1000000∧k.inbox.length≤1000000):Sp 195 1 [tV 0 k.V] [tV 0 k.V]:=by
 refine sb Tryz.func195 rfl (sq (rT [1,2] (s2 (sq (rT [1,2] (ai (by simp) (s2 (ai (by refine⟨trivial,rfl,?_,?_⟩<;>first|exact eY _|exact jJ _|(simp only[aG,aI,aVx,Nat.zero_add];show _*48≤_;omega)) (s2 (sq (rT [1,2] (ai (by simp) (s2 (ai (by refine⟨trivial,rfl,?_,?_⟩<;>first|exact eY _|exact jJ _|(simp only[aG,aI,aVx,Nat.zero_add];show _*24≤_;omega)) (s2 (sq (rT [1,2] (ai (by simp) (s2 (ai (by refine⟨trivial,rfl,?_,?_⟩<;>first|exact eY _|exact jJ _|(simp only[aG,aI,aVx,Nat.zero_add];show _*48≤_;omega)) (s2 (sq (rT [2] (s2 (rt (rq [] [3,8,13] rfl ?_))))))))))))))))))))))))))
 repeat' apply ai
 all_goals try exact qx
 all_goals(first|with_reducible rfl|(simp;done))
theorem sG (l:List bA) (n:bA) (hl:l.length≤100000):Sp 247 2 [tD 0 (.sl (aH l)),tV 1 n.V] [tD 0 (.sl (aH (jB l n)))]:=by
 refine sb Tryz.func247 rfl (sq (rT [0,3] (s2 (sq (rT [0,3,5] (s1 (sq (bk (SW.loopW (n:=l.length) (fun m q=> ∃i:Nat,m=l.length - i∧i≤l.length∧(∀j,j<i→cD (l.getD j .zero).frm (l.getD j .zero).num n.frm n.num=true)∧q=[tD 0 (.sl (aH l)),tP 3 3,tI 5 (i:Nat),oB 3 52 [.d (.i (n).frm),.d (.i (n).num),.d (.i (n).to),.d (.i (n).til),.d (.s (n).text)]]) ?_ ?_)))))))))
 · exact wq (σ':=[tD 0 (.sl (aH l)),tP 3 3,tI 5 (0:Nat),oB 3 52 [.d (.i (n).frm),.d (.i (n).num),.d (.i (n).to),.d (.i (n).til),.d (.s (n).text)]]) [] [] (⟨0,rfl,aVv _,fun j h=>absurd h (by omega),rfl⟩) qz
 rintro n s ⟨i,rfl,hi,hk,rfl⟩
 refine sq (sq (rD [0,3,5,26] (s5 (y2 (ai (fun h=>(by have h8:=h;simp[gb,aG] at h8;have h9:i<l.length:=(by omega);rw[aVr,aV h9];exact⟨⟨by omega,by rw[aG];omega⟩,rfl⟩)) (ai rk (y1 (ai (fun h=>(by have h8:=h;simp[gb,aG] at h8;have h9:i<l.length:=(by omega);rw[aVr,aV h9];exact⟨aVs rfl,rfl⟩)) (ai rk (y2 (ai (fun h=>(by have h8:=h;simp[gb,aG] at h8;have h9:i<l.length:=(by omega);rw[aVr,aV h9];exact⟨⟨by omega,by rw[aG];omega⟩,rfl⟩)) (ai rk (y1 (ai (fun h=>(by have h8:=h;simp[gb,aG] at h8;have h9:i<l.length:=(by omega);rw[aVr,aV h9];exact⟨aVs rfl,rfl⟩)) (ai rk (y4 (xc (fun h=>(sE _ _ _ _)) (ai rfl (ai rk ?_)))))))))))))))))))
 refine ai pk (ai (by kernel_rfl) (cd rfl (fun c26=> ?_) fun c26=> ?_))
 · have h9:=c26
   simp only[aVu,aD,aG] at h9
   have hi2:i<l.length:=by omega
   have hb:cD (l.getD i .zero).frm (l.getD i .zero).num n.frm n.num=true:=by
    have h10:=h9.2
    rw[aVr,aV hi2] at h10
    exact h10
   refine sk (bk (rT [0,3,5] (s3 (wq [] [] (⟨l.length - (i+1),by omega,i+1,rfl,by omega,fun j h=>by by_cases e:j=i;exact e▸hb;exact hk j (by omega),rfl⟩) ?_))))
   repeat' apply ai
   all_goals first|exact qx|exact aA D.i (aF (by omega))|exact qz
 have hend:i=l.length∨cD (l.getD i .zero).frm (l.getD i .zero).num n.frm n.num=false:=by
  by_cases h:i<l.length
  · right
    have h9:=c26
    rw[decide_eq_true (show((i:Nat):Int)< ((aH l).length:Int) by rw[aG];omega),Bool.true_and,aVr,aV h] at h9
    exact h9
  · left;omega
 have hins:jB l n=_:=aIr (z:=bA.zero) (p:=fun x=>cD x.frm x.num n.frm n.num) (n:=n) hi hk hend
 refine xt (sq (rD [4] (ai (by simp) (s2 (ai (by exact⟨by rw[aG];exact⟨by first|(simp;done)|(simp;omega),by first|(simp;done)|(simp;omega),by first|(simp;done)|(simp;omega)⟩,eY _⟩) (ai (by exact⟨by first|trivial|rfl|(simp;done),by first|rfl|(simp[aG];done),by first|exact jD l _ _|(simp;done),by(try simp only[aVt,aVw,aVx,aV0,aV4,aG,hG,hO,hP,hU]);show _*48≤_;omega⟩) (s1 (ai (by exact⟨by simp,aVs rfl⟩) (ai (by exact⟨by first|trivial|rfl|(simp;done),by first|rfl|(simp[aG];done),by first|exact jD l _ _|(simp;done),by(try simp only[aVt,aVw,aVx,aV0,aV4,aG,hG,hO,hP,hU]);show _*48≤_;omega⟩) (s2 (ai (by exact⟨by rw[aG];exact⟨by first|(simp;done)|(simp;omega),by first|(simp;done)|(simp;omega),by first|(simp;done)|(simp;omega)⟩,eY _⟩) (ai (by exact⟨by first|trivial|rfl|(simp;done),by first|rfl|(simp[aG];done),by first|exact jD l _ _|(simp;done),by(try simp only[aVt,aVw,aVx,aV0,aV4,aG,hG,hO,hP,hU]);show _*48≤_;omega⟩) (s1 (ai (by kernel_rfl) (rt (dO _ [] [29] rfl (dD rfl rfl rfl ?_ (aA D.sl ?_) trivial) rfl rfl))))))))))))))))
 · rfl
 rw[hins,sQ,wR];simp[aH,List.map_take,List.map_drop,bA.row]
theorem cp (l:List bA) (a:Int) (ha:0≤a∧a<l.length) (hl:l.length≤100000):Sp 249 2 [tD 0 (.sl (aH l)),tI 1 a] [tD 0 (.sl (aH (eG l a.toNat)))]:=by
 obtain⟨i,rfl⟩:=Int.eq_ofNat_of_zero_le ha.1
 have hw:wrap64 ((i:Int)+1)=((i+1:Nat):Int):=by rw[aF (by omega)];omega
 refine sb Tryz.func249 rfl (sq (rT [0,1] (s1 (sq (rD [4] (ai (by simp) (s2 (ai (by exact⟨by rw[aG];exact⟨by first|(simp;done)|(simp;omega),by first|(simp;done)|(simp;omega),by first|(simp;done)|(simp;omega)⟩,eY _⟩) (ai (by exact⟨by first|trivial|rfl|(simp;done),by first|rfl|(simp[aG];done),by first|exact jD l _ _|(simp;done),by(try simp only[aVt,aVw,aVx,aV0,aV4,aG,hG,hO,hP,hU]);show _*48≤_;omega⟩) (s3 (ai (by rw[hw];exact⟨by rw[aG];exact⟨by first|(simp;done)|(simp;omega),by first|(simp;done)|(simp;omega),by first|(simp;done)|(simp;omega)⟩,eY _⟩) (ai (by exact⟨by first|trivial|rfl|(simp;done),by first|rfl|(simp[aG];done),by first|exact jD l _ _|(simp;done),by(try simp only[hw]);(try simp only[aVt,aVw,aVx,aV0,aV4,aG,hG,hO,hP,hU]);show _*48≤_;omega⟩) (s1 (ai (by kernel_rfl) (rt (dO _ [] [5] rfl (dD rfl rfl rfl ?_ (aA D.sl ?_) trivial) rfl rfl))))))))))))))))
 · rfl
 rw[hw,sQ,wR];simp[aH,eG,List.map_take,List.map_drop]
theorem aa {l:List bA} {i:Nat} {n:bA}: (aH (midW (fun x:bA=>cD n.frm n.num x.frm x.num) n (l.take i))).length≤l.length+1:=by
 rw[aG,midW]
 split
 · rw[eZ,aV0];omega
 rw[aV0];omega
theorem mP (l:List bA) (n:bA) (hl:l.length≤100000):Sp 232 2 [tD 0 (.sl (aH l)),tV 1 n.V] [tD 0 (.sl (aH (jC l n)))]:=by
 refine sb Tryz.func232 rfl (sq (rT [0,3] (s2 (sq (rT [0,3,5] (ai (by simp) (s1 (sq (rT [0,3,5,6] (s1 (sq (sq (rT [0,3,5,6,7] (s1 (bk (SW.loopW (n:=l.length) (fun m q=> ∃i:Nat,m=l.length - i∧i≤l.length∧q=[tD 0 (.sl (aH l)),tP 3 3,tO 5 8 (aH (midW (fun x:bA=>cD n.frm n.num x.frm x.num) n (l.take i))).length,tB 6 ((l.take i).any (fun x:bA=>cD n.frm n.num x.frm x.num)),tI 7 (i:Nat),oB 3 52 [.d (.i (n).frm),.d (.i (n).num),.d (.i (n).to),.d (.i (n).til),.d (.s (n).text)],oR 8 52 5 (aH (midW (fun x:bA=>cD n.frm n.num x.frm x.num) n (l.take i)))]) ?_ ?_))))))))))))))))
 · refine wq (σ':=[tD 0 (.sl (aH l)),tP 3 3,tO 5 8 (aH (midW (fun x:bA=>cD n.frm n.num x.frm x.num) n (l.take 0))).length,tB 6 ((l.take 0).any (fun x:bA=>cD n.frm n.num x.frm x.num)),tI 7 (0:Nat),oB 3 52 [.d (.i (n).frm),.d (.i (n).num),.d (.i (n).to),.d (.i (n).til),.d (.s (n).text)],oR 8 52 5 (aH (midW (fun x:bA=>cD n.frm n.num x.frm x.num) n (l.take 0)))]) [] [] (⟨0,rfl,aVv _,rfl⟩) ?_
   repeat' apply ai
   all_goals first|exact qx|rfl|(simp[midW];done)|exact qz
 rintro n s ⟨i,rfl,hi,rfl⟩
 refine sq (sq (rT [0,3,5,6,7,12] (s4 (cd rfl (fun c12=> ?_) fun c12=> ?_))))
 · have hi2:i<l.length:=by simpa[aG] using c12
   have hg:=aV (l:=l) hi2
   refine sk (sq (bk (sq (sq (rD [0,3,5,6,7,33] (s3 (y4 (y2 (ai (fun h=>(by have h9:=hi2;rw[aVr,aV h9];exact⟨⟨by omega,by rw[aG];omega⟩,rfl⟩)) (ai rk (y1 (ai (fun h=>(by have h9:=hi2;rw[aVr,aV h9];exact⟨aVs rfl,rfl⟩)) (ai rk (y2 (ai (fun h=>(by have h9:=hi2;rw[aVr,aV h9];exact⟨⟨by omega,by rw[aG];omega⟩,rfl⟩)) (ai rk (y1 (ai (fun h=>(by have h9:=hi2;rw[aVr,aV h9];exact⟨aVs rfl,rfl⟩)) (ai rk (xc (fun h=>(qW _ _ _ _)) (ai rfl (ai rk ?_))))))))))))))))))))))
   refine ai pk (ai (by kernel_rfl) (cd rfl (fun c33=> ?_) fun c33=> ?_))
   · have h9:=c33
     rw[aVr,hg] at h9
     rw[aVu] at h9
     have hq: (l.take i).any (fun x:bA=>cD n.frm n.num x.frm x.num)=false∧cD n.frm n.num (l.getD i .zero).frm (l.getD i .zero).num=true:=⟨by simpa only[Bool.not_eq_true'] using h9.1,h9.2⟩
     have hm:=aEl (q:=(fun x:bA=>cD n.frm n.num x.frm x.num)) (n:=n) (x:=l.getD i .zero) hq.1 hq.2
     rw[← dH hi2] at hm
     have ha: (l.take (i+1)).any (fun x:bA=>cD n.frm n.num x.frm x.num)=true:=by rw[dH (z:=bA.zero) hi2,jo,hq.1];exact hq.2
     refine sq (rT [0,3,5,7] (s2 (ai (by exact⟨by simp,aVs rfl⟩) (ai (by exact⟨by first|trivial|rfl|(simp;done),by first|rfl|(simp;done),by first|(simp;done)|(intro r hr;rw[aWa.1 hr];rfl),by(try simp only[aVt,aVw,aVx]);have hm:=aa (l:=l) (i:=i) (n:=n);show _*48≤_;omega⟩) (s1 (rT [0,3,5,6,7] (s1 (rT [0,3,5,6,7] (s3 (ai (by have h9:=hi2;rw[aVr,aV h9];exact⟨⟨by omega,by rw[aG];omega⟩,rfl⟩) (ai (by have h9:=hi2;rw[aVr,aV h9];exact⟨aVs rfl,rfl⟩) (ai (by exact⟨by simp,aVs rfl⟩) (ai (by exact⟨by first|trivial|rfl|(simp;done),by first|rfl|(simp;done),by first|(simp;done)|(intro r hr;rw[aWa.1 hr];rfl),by(try simp only[aVt,aVw,aVx]);have hm:=aa (l:=l) (i:=i) (n:=n);show _*48≤_;omega⟩) (s1 (rT [0,3,5,6,7] (s3 (wq [] [] (⟨l.length - (i+1),by omega,i+1,rfl,by omega,rfl⟩) ?_)))))))))))))))))
     repeat' apply ai
     all_goals first|exact qx|exact aA D.i (by rw[aF (by omega)];omega)|(rw[ha];done)|exact aA D.b ha.symm|(rw[hm];simp[aH,aVr];done)|(rw[hm,aVr,hg];simp only[aH,List.map_append,List.map_cons,List.map_nil];rfl)|exact qz
   have h9:=c33
   rw[aVr,hg] at h9
   have hq: (l.take i).any (fun x:bA=>cD n.frm n.num x.frm x.num)=true∨cD n.frm n.num (l.getD i .zero).frm (l.getD i .zero).num=false:=by
    cases h: (l.take i).any (fun x:bA=>cD n.frm n.num x.frm x.num) with
    |true=>exact .inl rfl
    |false=>rw[h] at h9;exact .inr h9
   have hm:=aIs (q:=(fun x:bA=>cD n.frm n.num x.frm x.num)) (n:=n) (x:=l.getD i .zero) hq
   rw[← dH hi2] at hm
   have ha: (l.take (i+1)).any (fun x:bA=>cD n.frm n.num x.frm x.num)=(l.take i).any (fun x:bA=>cD n.frm n.num x.frm x.num):=by
    rw[dH (z:=bA.zero) hi2,jo]
    rcases hq with h|h
    · rw[h];rfl
    · show((l.take i).any (fun x:bA=>cD n.frm n.num x.frm x.num)||(cD n.frm n.num (l.getD i .zero).frm (l.getD i .zero).num))=_
      rw[h,Bool.or_false]
   refine sk (rT [0,3,5,6,7] (s3 (ai (by have h9:=hi2;rw[aVr,aV h9];exact⟨⟨by omega,by rw[aG];omega⟩,rfl⟩) (ai (by have h9:=hi2;rw[aVr,aV h9];exact⟨aVs rfl,rfl⟩) (ai (by exact⟨by simp,aVs rfl⟩) (ai (by exact⟨by first|trivial|rfl|(simp;done),by first|rfl|(simp;done),by first|(simp;done)|(intro r hr;rw[aWa.1 hr];rfl),by(try simp only[aVt,aVw,aVx]);have hm:=aa (l:=l) (i:=i) (n:=n);show _*48≤_;omega⟩) (s1 (rT [0,3,5,6,7] (s3 (wq [] [] (⟨l.length - (i+1),by omega,i+1,rfl,by omega,rfl⟩) ?_))))))))))
   repeat' apply ai
   all_goals first|exact qx|exact aA D.i (by rw[aF (by omega)];omega)|(rw[ha];done)|exact aA D.b ha.symm|(rw[hm];simp[aH,aVr];done)|(rw[hm,aVr,hg];simp only[aH,List.map_append,List.map_cons,List.map_nil];rfl)|exact qz
 have hi3:i=l.length:=by simp[aG] at c12;omega
 subst hi3
 refine xt (sq (sq (rT [3,5,46] (s2 (cd rfl (fun c46=> ?_) fun c46=> ?_)))))
 · have he: (l.take l.length).any (fun x:bA=>cD n.frm n.num x.frm x.num)=false:=by simpa using c46
   refine rT [5] (s2 (ai (by exact⟨by simp,aVs rfl⟩) (ai (by exact⟨by first|trivial|rfl|(simp;done),by first|rfl|(simp;done),by first|(simp;done)|(intro r hr;rw[aWa.1 hr];rfl),by(try simp only[aVt,aVw,aVx]);have hm:=aa (l:=l) (i:=l.length) (n:=n);show _*48≤_;omega⟩) (s1 (sq (rT [4] (s2 (rt (dO _ [] [8] rfl (dD rfl rfl rfl ?_ (aA D.sl ?_) trivial) rfl rfl)))))))))
   · rfl
   rw[aV3] at he ⊢; rw[zE,jp,he];simp[aH,bA.row]
 have he: (l.take l.length).any (fun x:bA=>cD n.frm n.num x.frm x.num)=true:=by simpa using c46
 refine sk (sq (rT [4] (s2 (rt (dO _ [] [8] rfl (dD rfl rfl rfl ?_ (aA D.sl ?_) trivial) rfl rfl)))))
 · rfl
 rw[aV3] at he ⊢; rw[zE,jp,he];simp[aH,bA.row]
theorem wX (l:List bU) (n:bU) (hl:l.length≤100000):Sp 250 2 [tD 0 (.sl (aM l)),tV 1 n.V] [tD 0 (.sl (aM (qH l n)))]:=by
 refine sb Tryz.func250 rfl (sq (rT [0,3] (s2 (sq (rT [0,3,5] (s1 (sq (bk (SW.loopW (n:=l.length) (fun m q=> ∃i:Nat,m=l.length - i∧i≤l.length∧(∀j,j<i→cD (l.getD j .zero).frm (l.getD j .zero).num n.frm n.num=true)∧q=[tD 0 (.sl (aM l)),tP 3 3,tI 5 (i:Nat),oB 3 162 [.d (.i (n).frm),.d (.i (n).num),.d (.i (n).til)]]) ?_ ?_)))))))))
 · exact wq (σ':=[tD 0 (.sl (aM l)),tP 3 3,tI 5 (0:Nat),oB 3 162 [.d (.i (n).frm),.d (.i (n).num),.d (.i (n).til)]]) [] [] (⟨0,rfl,aVv _,fun j h=>absurd h (by omega),rfl⟩) qz
 rintro n s ⟨i,rfl,hi,hk,rfl⟩
 refine sq (sq (rD [0,3,5,26] (s5 (y2 (ai (fun h=>(by have h8:=h;simp[gb,aI] at h8;have h9:i<l.length:=(by omega);rw[aVr,bQ h9];exact⟨⟨by omega,by rw[aI];omega⟩,rfl⟩)) (ai rk (y1 (ai (fun h=>(by have h8:=h;simp[gb,aI] at h8;have h9:i<l.length:=(by omega);rw[aVr,bQ h9];exact⟨aVs rfl,rfl⟩)) (ai rk (y2 (ai (fun h=>(by have h8:=h;simp[gb,aI] at h8;have h9:i<l.length:=(by omega);rw[aVr,bQ h9];exact⟨⟨by omega,by rw[aI];omega⟩,rfl⟩)) (ai rk (y1 (ai (fun h=>(by have h8:=h;simp[gb,aI] at h8;have h9:i<l.length:=(by omega);rw[aVr,bQ h9];exact⟨aVs rfl,rfl⟩)) (ai rk (y4 (xc (fun h=>(sE _ _ _ _)) (ai rfl (ai rk ?_)))))))))))))))))))
 refine ai pk (ai (by kernel_rfl) (cd rfl (fun c26=> ?_) fun c26=> ?_))
 · have h9:=c26
   simp only[aVu,aD,aI] at h9
   have hi2:i<l.length:=by omega
   have hb:cD (l.getD i .zero).frm (l.getD i .zero).num n.frm n.num=true:=by
    have h10:=h9.2
    rw[aVr,bQ hi2] at h10
    exact h10
   refine sk (bk (rT [0,3,5] (s3 (wq [] [] (⟨l.length - (i+1),by omega,i+1,rfl,by omega,fun j h=>by by_cases e:j=i;exact e▸hb;exact hk j (by omega),rfl⟩) ?_))))
   repeat' apply ai
   all_goals first|exact qx|exact aA D.i (aF (by omega))|exact qz
 have hend:i=l.length∨cD (l.getD i .zero).frm (l.getD i .zero).num n.frm n.num=false:=by
  by_cases h:i<l.length
  · right
    have h9:=c26
    rw[decide_eq_true (show((i:Nat):Int)< ((aM l).length:Int) by rw[aI];omega),Bool.true_and,aVr,bQ h] at h9
    exact h9
  · left;omega
 have hins:qH l n=_:=aIr (z:=bU.zero) (p:=fun x=>cD x.frm x.num n.frm n.num) (n:=n) hi hk hend
 refine xt (sq (rD [4] (ai (by simp) (s2 (ai (by exact⟨by rw[aI];exact⟨by first|(simp;done)|(simp;omega),by first|(simp;done)|(simp;omega),by first|(simp;done)|(simp;omega)⟩,jJ _⟩) (ai (by exact⟨by first|trivial|rfl|(simp;done),by first|rfl|(simp[aI];done),by first|exact zF l _ _|(simp;done),by(try simp only[aVt,aVw,aVx,aV0,aV4,aI,hG,hO,hP,hU]);show _*24≤_;omega⟩) (s1 (ai (by exact⟨by simp,aVs rfl⟩) (ai (by exact⟨by first|trivial|rfl|(simp;done),by first|rfl|(simp[aI];done),by first|exact zF l _ _|(simp;done),by(try simp only[aVt,aVw,aVx,aV0,aV4,aI,hG,hO,hP,hU]);show _*24≤_;omega⟩) (s2 (ai (by exact⟨by rw[aI];exact⟨by first|(simp;done)|(simp;omega),by first|(simp;done)|(simp;omega),by first|(simp;done)|(simp;omega)⟩,jJ _⟩) (ai (by exact⟨by first|trivial|rfl|(simp;done),by first|rfl|(simp[aI];done),by first|exact zF l _ _|(simp;done),by(try simp only[aVt,aVw,aVx,aV0,aV4,aI,hG,hO,hP,hU]);show _*24≤_;omega⟩) (s1 (ai (by kernel_rfl) (rt (dO _ [] [29] rfl (dD rfl rfl rfl ?_ (aA D.sl ?_) trivial) rfl rfl))))))))))))))))
 · rfl
 rw[hins,sQ,wR];simp[aM,List.map_take,List.map_drop,bU.row]
theorem ab {l:List bU} {i:Nat} {n:bU}: (aM (midW (fun x:bU=>cD n.frm n.num x.frm x.num) n (l.take i))).length≤l.length+1:=by
 rw[aI,midW]
 split
 · rw[eZ,aV0];omega
 rw[aV0];omega
theorem qX (l:List bU) (n:bU) (hl:l.length≤100000):Sp 236 2 [tD 0 (.sl (aM l)),tV 1 n.V] [tD 0 (.sl (aM (nN l n)))]:=by
 refine sb Tryz.func236 rfl (sq (rT [0,3] (s2 (sq (rT [0,3,5] (ai (by simp) (s1 (sq (rT [0,3,5,6] (s1 (sq (sq (rT [0,3,5,6,7] (s1 (bk (SW.loopW (n:=l.length) (fun m q=> ∃i:Nat,m=l.length - i∧i≤l.length∧q=[tD 0 (.sl (aM l)),tP 3 3,tO 5 8 (aM (midW (fun x:bU=>cD n.frm n.num x.frm x.num) n (l.take i))).length,tB 6 ((l.take i).any (fun x:bU=>cD n.frm n.num x.frm x.num)),tI 7 (i:Nat),oB 3 162 [.d (.i (n).frm),.d (.i (n).num),.d (.i (n).til)],oR 8 162 3 (aM (midW (fun x:bU=>cD n.frm n.num x.frm x.num) n (l.take i)))]) ?_ ?_))))))))))))))))
 · refine wq (σ':=[tD 0 (.sl (aM l)),tP 3 3,tO 5 8 (aM (midW (fun x:bU=>cD n.frm n.num x.frm x.num) n (l.take 0))).length,tB 6 ((l.take 0).any (fun x:bU=>cD n.frm n.num x.frm x.num)),tI 7 (0:Nat),oB 3 162 [.d (.i (n).frm),.d (.i (n).num),.d (.i (n).til)],oR 8 162 3 (aM (midW (fun x:bU=>cD n.frm n.num x.frm x.num) n (l.take 0)))]) [] [] (⟨0,rfl,aVv _,rfl⟩) ?_
   repeat' apply ai
   all_goals first|exact qx|rfl|(simp[midW];done)|exact qz
 rintro n s ⟨i,rfl,hi,rfl⟩
 refine sq (sq (rT [0,3,5,6,7,12] (s4 (cd rfl (fun c12=> ?_) fun c12=> ?_))))
 · have hi2:i<l.length:=by simpa[aI] using c12
   have hg:=bQ (l:=l) hi2
   refine sk (sq (bk (sq (sq (rD [0,3,5,6,7,33] (s3 (y4 (y2 (ai (fun h=>(by have h9:=hi2;rw[aVr,bQ h9];exact⟨⟨by omega,by rw[aI];omega⟩,rfl⟩)) (ai rk (y1 (ai (fun h=>(by have h9:=hi2;rw[aVr,bQ h9];exact⟨aVs rfl,rfl⟩)) (ai rk (y2 (ai (fun h=>(by have h9:=hi2;rw[aVr,bQ h9];exact⟨⟨by omega,by rw[aI];omega⟩,rfl⟩)) (ai rk (y1 (ai (fun h=>(by have h9:=hi2;rw[aVr,bQ h9];exact⟨aVs rfl,rfl⟩)) (ai rk (xc (fun h=>(qW _ _ _ _)) (ai rfl (ai rk ?_))))))))))))))))))))))
   refine ai pk (ai (by kernel_rfl) (cd rfl (fun c33=> ?_) fun c33=> ?_))
   · have h9:=c33
     rw[aVr,hg] at h9
     rw[aVu] at h9
     have hq: (l.take i).any (fun x:bU=>cD n.frm n.num x.frm x.num)=false∧cD n.frm n.num (l.getD i .zero).frm (l.getD i .zero).num=true:=⟨by simpa only[Bool.not_eq_true'] using h9.1,h9.2⟩
     have hm:=aEl (q:=(fun x:bU=>cD n.frm n.num x.frm x.num)) (n:=n) (x:=l.getD i .zero) hq.1 hq.2
     rw[← dH hi2] at hm
     have ha: (l.take (i+1)).any (fun x:bU=>cD n.frm n.num x.frm x.num)=true:=by rw[dH (z:=bU.zero) hi2,jo,hq.1];exact hq.2
     refine sq (rT [0,3,5,7] (s2 (ai (by exact⟨by simp,aVs rfl⟩) (ai (by exact⟨by first|trivial|rfl|(simp;done),by first|rfl|(simp;done),by first|(simp;done)|(intro r hr;rw[aWa.1 hr];rfl),by(try simp only[aVt,aVw,aVx]);have hm:=ab (l:=l) (i:=i) (n:=n);show _*24≤_;omega⟩) (s1 (rT [0,3,5,6,7] (s1 (rT [0,3,5,6,7] (s3 (ai (by have h9:=hi2;rw[aVr,bQ h9];exact⟨⟨by omega,by rw[aI];omega⟩,rfl⟩) (ai (by have h9:=hi2;rw[aVr,bQ h9];exact⟨aVs rfl,rfl⟩) (ai (by exact⟨by simp,aVs rfl⟩) (ai (by exact⟨by first|trivial|rfl|(simp;done),by first|rfl|(simp;done),by first|(simp;done)|(intro r hr;rw[aWa.1 hr];rfl),by(try simp only[aVt,aVw,aVx]);have hm:=ab (l:=l) (i:=i) (n:=n);show _*24≤_;omega⟩) (s1 (rT [0,3,5,6,7] (s3 (wq [] [] (⟨l.length - (i+1),by omega,i+1,rfl,by omega,rfl⟩) ?_)))))))))))))))))
     repeat' apply ai
     all_goals first|exact qx|exact aA D.i (by rw[aF (by omega)];omega)|(rw[ha];done)|exact aA D.b ha.symm|(rw[hm];simp[aM,aVr];done)|(rw[hm,aVr,hg];simp only[aM,List.map_append,List.map_cons,List.map_nil];rfl)|exact qz
   have h9:=c33
   rw[aVr,hg] at h9
   have hq: (l.take i).any (fun x:bU=>cD n.frm n.num x.frm x.num)=true∨cD n.frm n.num (l.getD i .zero).frm (l.getD i .zero).num=false:=by
    cases h: (l.take i).any (fun x:bU=>cD n.frm n.num x.frm x.num) with
    |true=>exact .inl rfl
    |false=>rw[h] at h9;exact .inr h9
   have hm:=aIs (q:=(fun x:bU=>cD n.frm n.num x.frm x.num)) (n:=n) (x:=l.getD i .zero) hq
   rw[← dH hi2] at hm
   have ha: (l.take (i+1)).any (fun x:bU=>cD n.frm n.num x.frm x.num)=(l.take i).any (fun x:bU=>cD n.frm n.num x.frm x.num):=by
    rw[dH (z:=bU.zero) hi2,jo]
    rcases hq with h|h
    · rw[h];rfl
    · show((l.take i).any (fun x:bU=>cD n.frm n.num x.frm x.num)||(cD n.frm n.num (l.getD i .zero).frm (l.getD i .zero).num))=_
      rw[h,Bool.or_false]
   refine sk (rT [0,3,5,6,7] (s3 (ai (by have h9:=hi2;rw[aVr,bQ h9];exact⟨⟨by omega,by rw[aI];omega⟩,rfl⟩) (ai (by have h9:=hi2;rw[aVr,bQ h9];exact⟨aVs rfl,rfl⟩) (ai (by exact⟨by simp,aVs rfl⟩) (ai (by exact⟨by first|trivial|rfl|(simp;done),by first|rfl|(simp;done),by first|(simp;done)|(intro r hr;rw[aWa.1 hr];rfl),by(try simp only[aVt,aVw,aVx]);have hm:=ab (l:=l) (i:=i) (n:=n);show _*24≤_;omega⟩) (s1 (rT [0,3,5,6,7] (s3 (wq [] [] (⟨l.length - (i+1),by omega,i+1,rfl,by omega,rfl⟩) ?_))))))))))
   repeat' apply ai
   all_goals first|exact qx|exact aA D.i (by rw[aF (by omega)];omega)|(rw[ha];done)|exact aA D.b ha.symm|(rw[hm];simp[aM,aVr];done)|(rw[hm,aVr,hg];simp only[aM,List.map_append,List.map_cons,List.map_nil];rfl)|exact qz
 have hi3:i=l.length:=by simp[aI] at c12;omega
 subst hi3
 refine xt (sq (sq (rT [3,5,46] (s2 (cd rfl (fun c46=> ?_) fun c46=> ?_)))))
 · have he: (l.take l.length).any (fun x:bU=>cD n.frm n.num x.frm x.num)=false:=by simpa using c46
   refine rT [5] (s2 (ai (by exact⟨by simp,aVs rfl⟩) (ai (by exact⟨by first|trivial|rfl|(simp;done),by first|rfl|(simp;done),by first|(simp;done)|(intro r hr;rw[aWa.1 hr];rfl),by(try simp only[aVt,aVw,aVx]);have hm:=ab (l:=l) (i:=l.length) (n:=n);show _*24≤_;omega⟩) (s1 (sq (rT [4] (s2 (rt (dO _ [] [8] rfl (dD rfl rfl rfl ?_ (aA D.sl ?_) trivial) rfl rfl)))))))))
   · rfl
   rw[aV3] at he ⊢; rw[vE,jp,he];simp[aM,bU.row]
 have he: (l.take l.length).any (fun x:bU=>cD n.frm n.num x.frm x.num)=true:=by simpa using c46
 refine sk (sq (rT [4] (s2 (rt (dO _ [] [8] rfl (dD rfl rfl rfl ?_ (aA D.sl ?_) trivial) rfl rfl)))))
 · rfl
 rw[aV3] at he ⊢; rw[vE,jp,he];simp[aM,bU.row]
theorem we (k:aX) (t:Int) (hb:k.held.length≤100000∧k.marks.length≤100000∧k.inbox.length≤100000):Sp 244 2 [tV 0 k.V,tI 1 t] [tV 0 ((kN k t).V)]:=by
 refine sb Tryz.func244 rfl (sq (rT [1,2,4] (s2 (sq (rT [1,2,4,5] (s9 (s1 (sq (sq (rT [1,2,4,5,19,20,21] (s4 (bk (SW.nilBox 5 100 3 52 5 rfl rfl rfl (SW.nilBox 5 101 4 162 3 rfl rfl rfl (SW.loopW (n:=k.held.length) (fun m q=> ∃i:Nat,m=k.held.length - i∧i≤k.held.length∧q=[tI 1 t,tP 2 2,tP 4 4,tP 5 5,tD 19 (.sl (aH k.held)),tI 20 (k.held.length:Nat),tI 21 (i:Nat),oB 2 44 [.d (.i k.id),.d (.i k.time),.d (.i k.next),.d (.sl (aH k.held)),.d (.sl (aM k.marks)),.d (.sl (aH k.inbox))],oB 4 44 [.d (.i 0),.d (.i 0),.d (.i 0),.nil,.nil,.nil],oB 5 44 [.d (.i k.id),.d (.i t),.d (.i k.next),.own 100 (aH ((k.held.take i).filter (fun n=>decide (t<n.til)))).length,.own 101 (aM []).length,.d (.sl (aH k.inbox))],oR 100 52 5 (aH ((k.held.take i).filter (fun n=>decide (t<n.til)))),oR 101 162 3 (aM [])]) ?_ ?_)))))))))))))))
 · refine wq (σ':=[tI 1 t,tP 2 2,tP 4 4,tP 5 5,tD 19 (.sl (aH k.held)),tI 20 (k.held.length:Nat),tI 21 (0:Nat),oB 2 44 [.d (.i k.id),.d (.i k.time),.d (.i k.next),.d (.sl (aH k.held)),.d (.sl (aM k.marks)),.d (.sl (aH k.inbox))],oB 4 44 [.d (.i 0),.d (.i 0),.d (.i 0),.nil,.nil,.nil],oB 5 44 [.d (.i k.id),.d (.i t),.d (.i k.next),.own 100 (aH ((k.held.take 0).filter (fun n=>decide (t<n.til)))).length,.own 101 (aM []).length,.d (.sl (aH k.inbox))],oR 100 52 5 (aH ((k.held.take 0).filter (fun n=>decide (t<n.til)))),oR 101 162 3 (aM [])]) [] [] (⟨0,rfl,aVv _,rfl⟩) ?_
   repeat' apply ai
   all_goals first|exact qx|rfl|(rw[aG];done)|(rw[aI];done)|exact qz
 rintro n s ⟨i,rfl,hi,rfl⟩
 refine sq (rT [1,2,4,5,19,20,21,22] (s1 (sq (cd rfl (fun c22=> ?_) fun c22=> ?_))))
 · have hi2:i<k.held.length:=by simpa using c22
   have hg:=aV (l:=k.held) hi2
   refine sk (sq (bk (sq (rT [1,2,4,5,7,19,20,21] (ai (by rw[aVr,hg];exact⟨⟨by omega,by rw[aG];omega⟩,rfl⟩) (ai (by rw[aVr,hg];exact⟨aVs rfl,rfl⟩) (s2 (sq (wa [tI 1 t,tP 2 2,tP 4 4,tP 5 5,tD 19 (.sl (aH k.held)),tI 20 (k.held.length:Nat),tI 21 (i:Nat),oB 2 44 [.d (.i k.id),.d (.i k.time),.d (.i k.next),.d (.sl (aH k.held)),.d (.sl (aM k.marks)),.d (.sl (aH k.inbox))],oB 4 44 [.d (.i 0),.d (.i 0),.d (.i 0),.nil,.nil,.nil],oB 5 44 [.d (.i k.id),.d (.i t),.d (.i k.next),.own 100 (aH ((k.held.take i).filter (fun n=>decide (t<n.til)))).length,.own 101 (aM []).length,.d (.sl (aH k.inbox))],oR 100 52 5 (aH ((k.held.take i).filter (fun n=>decide (t<n.til)))),oR 101 162 3 (aM []),tP 7 7,oB 7 52 [.d (.i (k.held.getD i .zero).frm),.d (.i (k.held.getD i .zero).num),.d (.i (k.held.getD i .zero).to),.d (.i (k.held.getD i .zero).til),.d (.s (k.held.getD i .zero).text)]] [] [] ?_ ?_)))))))))
   · repeat' apply ai
     all_goals first|exact qx|(rw[aVr,hg];rfl)|exact qz
   refine rT [1,2,4,5,7,19,20,21,28] (s4 (cd rfl (fun c28=> ?_) fun c28=> ?_))
   · have hp: (fun n:bA=>decide (t<n.til)) (k.held.getD i .zero)=true:=c28
     have hf:=zD (z:=bA.zero) (p:=fun n=>decide (t<n.til)) hi2 hp
     refine rT [1,2,4,5,19,20,21] (s3 (ai (by exact⟨by simp,aVs rfl⟩) (ai (by exact⟨by first|trivial|rfl|(simp;done),by first|rfl|(simp;done),by first|(simp;done)|(intro r hr;rw[aWa.1 hr];rfl),by(have hm:=(List.length_filter_le (fun n=>decide (t<n.til)) (k.held.take i)));rw[aV0] at hm;simp only[aG,aVw,aVx];show _*48≤_;omega⟩) (s2 (rT [1,2,4,5,19,20,21] (s2 (wq [] [] (⟨k.held.length - (i+1),by omega,i+1,rfl,by omega,rfl⟩) ?_)))))))
     repeat' apply ai
     all_goals first|exact qx|exact aA D.i (by rw[aF (by omega)];omega)|(rw[hf];simp[aH,aM,bA.row,bU.row];done)|(rw[hf];done)|exact qz
   have hp: (fun n:bA=>decide (t<n.til)) (k.held.getD i .zero)=false:=c28
   have hf:=dn (z:=bA.zero) (p:=fun n=>decide (t<n.til)) hi2 hp
   refine sk (rT [1,2,4,5,19,20,21] (s2 (wq [] [] (⟨k.held.length - (i+1),by omega,i+1,rfl,by omega,rfl⟩) ?_)))
   repeat' apply ai
   all_goals first|exact qx|exact aA D.i (by rw[aF (by omega)];omega)|(rw[hf];simp[aH,aM,bA.row,bU.row];done)|(rw[hf];done)|exact qz
 have hi3:i=k.held.length:=by simp at c22;omega
 subst hi3
 clear hi
 refine xt (sq (sq (rT [1,4,5,37,38,39] (s4 (bk (SW.loopW (n:=k.marks.length) (fun m q=> ∃i:Nat,m=k.marks.length - i∧i≤k.marks.length∧q=[tI 1 t,tP 4 4,tP 5 5,tD 37 (.sl (aM k.marks)),tI 38 (k.marks.length:Nat),tI 39 (i:Nat),oB 4 44 [.d (.i 0),.d (.i 0),.d (.i 0),.nil,.nil,.nil],oB 5 44 [.d (.i k.id),.d (.i t),.d (.i k.next),.own 100 (aH ((k.held.take k.held.length).filter (fun n=>decide (t<n.til)))).length,.own 101 (aM ((k.marks.take i).filter (fun n=>decide (t<n.til)))).length,.d (.sl (aH k.inbox))],oR 100 52 5 (aH ((k.held.take k.held.length).filter (fun n=>decide (t<n.til)))),oR 101 162 3 (aM ((k.marks.take i).filter (fun n=>decide (t<n.til))))]) ?_ ?_))))))
 · refine wq (σ':=[tI 1 t,tP 4 4,tP 5 5,tD 37 (.sl (aM k.marks)),tI 38 (k.marks.length:Nat),tI 39 (0:Nat),oB 4 44 [.d (.i 0),.d (.i 0),.d (.i 0),.nil,.nil,.nil],oB 5 44 [.d (.i k.id),.d (.i t),.d (.i k.next),.own 100 (aH ((k.held.take k.held.length).filter (fun n=>decide (t<n.til)))).length,.own 101 (aM ((k.marks.take 0).filter (fun n=>decide (t<n.til)))).length,.d (.sl (aH k.inbox))],oR 100 52 5 (aH ((k.held.take k.held.length).filter (fun n=>decide (t<n.til)))),oR 101 162 3 (aM ((k.marks.take 0).filter (fun n=>decide (t<n.til))))]) [] [] (⟨0,rfl,aVv _,rfl⟩) ?_
   repeat' apply ai
   all_goals first|exact qx|rfl|(rw[aG];done)|(rw[aI];done)|exact qz
 rintro n s ⟨i,rfl,hi,rfl⟩
 refine sq (rT [1,4,5,37,38,39,40] (s1 (sq (cd rfl (fun c40=> ?_) fun c40=> ?_))))
 · have hi2:i<k.marks.length:=by simpa using c40
   have hg:=bQ (l:=k.marks) hi2
   refine sk (sq (bk (sq (rT [1,4,5,9,37,38,39] (ai (by rw[aVr,hg];exact⟨⟨by omega,by rw[aI];omega⟩,rfl⟩) (ai (by rw[aVr,hg];exact⟨aVs rfl,rfl⟩) (s2 (sq (wa [tI 1 t,tP 4 4,tP 5 5,tD 37 (.sl (aM k.marks)),tI 38 (k.marks.length:Nat),tI 39 (i:Nat),oB 4 44 [.d (.i 0),.d (.i 0),.d (.i 0),.nil,.nil,.nil],oB 5 44 [.d (.i k.id),.d (.i t),.d (.i k.next),.own 100 (aH ((k.held.take k.held.length).filter (fun n=>decide (t<n.til)))).length,.own 101 (aM ((k.marks.take i).filter (fun n=>decide (t<n.til)))).length,.d (.sl (aH k.inbox))],oR 100 52 5 (aH ((k.held.take k.held.length).filter (fun n=>decide (t<n.til)))),oR 101 162 3 (aM ((k.marks.take i).filter (fun n=>decide (t<n.til)))),tP 9 9,oB 9 162 [.d (.i (k.marks.getD i .zero).frm),.d (.i (k.marks.getD i .zero).num),.d (.i (k.marks.getD i .zero).til)]] [] [] ?_ ?_)))))))))
   · repeat' apply ai
     all_goals first|exact qx|(rw[aVr,hg];rfl)|exact qz
   refine rT [1,4,5,9,37,38,39,46] (s4 (cd rfl (fun c46=> ?_) fun c46=> ?_))
   · have hp: (fun n:bU=>decide (t<n.til)) (k.marks.getD i .zero)=true:=c46
     have hf:=zD (z:=bU.zero) (p:=fun n=>decide (t<n.til)) hi2 hp
     refine rT [1,4,5,37,38,39] (s3 (ai (by exact⟨by simp,aVs rfl⟩) (ai (by exact⟨by first|trivial|rfl|(simp;done),by first|rfl|(simp;done),by first|(simp;done)|(intro r hr;rw[aWa.1 hr];rfl),by(have hm:=(List.length_filter_le (fun n=>decide (t<n.til)) (k.marks.take i)));rw[aV0] at hm;simp only[aI,aVw,aVx];show _*24≤_;omega⟩) (s2 (rT [1,4,5,37,38,39] (s2 (wq [] [] (⟨k.marks.length - (i+1),by omega,i+1,rfl,by omega,rfl⟩) ?_)))))))
     repeat' apply ai
     all_goals first|exact qx|exact aA D.i (by rw[aF (by omega)];omega)|(rw[hf];simp[aH,aM,bA.row,bU.row];done)|(rw[hf];done)|exact qz
   have hp: (fun n:bU=>decide (t<n.til)) (k.marks.getD i .zero)=false:=c46
   have hf:=dn (z:=bU.zero) (p:=fun n=>decide (t<n.til)) hi2 hp
   refine sk (rT [1,4,5,37,38,39] (s2 (wq [] [] (⟨k.marks.length - (i+1),by omega,i+1,rfl,by omega,rfl⟩) ?_)))
   repeat' apply ai
   all_goals first|exact qx|exact aA D.i (by rw[aF (by omega)];omega)|(rw[hf];simp[aH,aM,bA.row,bU.row];done)|(rw[hf];done)|exact qz
 have hi3:i=k.marks.length:=by simp at c40;omega
 subst hi3
 refine xt (sq (rT [4] (s2 (rt (rq [] [100,101] rfl ?_)))))
 repeat' apply ai
 all_goals try exact qx
 all_goals(first|with_reducible rfl|(simp[kN];done))
theorem wg (k:aX) (t:Int) (hb:k.held.length≤100000∧k.marks.length≤100000∧k.inbox.length≤100000):Sp 229 2 [tV 0 k.V,tI 1 t] [tV 0 ((kN k t).V)]:=by
 refine sb Tryz.func229 rfl (sq (rT [1,2,4] (s2 (sq (rT [1,2,4,5] (ai (by simp) (s1 (sq (sq (rT [1,2,4,5,6] (s1 (bk (SW.loopW (n:=k.held.length) (fun m q=> ∃i:Nat,m=k.held.length - i∧i≤k.held.length∧q=[tI 1 t,tP 2 2,tP 4 4,tO 5 9 (aH ((k.held.take i).filter (fun n=>decide (t<n.til)))).length,tI 6 (i:Nat),oB 2 44 [.d (.i k.id),.d (.i k.time),.d (.i k.next),.d (.sl (aH k.held)),.d (.sl (aM k.marks)),.d (.sl (aH k.inbox))],oB 4 44 [.d (.i 0),.d (.i 0),.d (.i 0),.nil,.nil,.nil],oR 9 52 5 (aH ((k.held.take i).filter (fun n=>decide (t<n.til))))]) ?_ ?_)))))))))))))
 · refine wq (σ':=[tI 1 t,tP 2 2,tP 4 4,tO 5 9 (aH ((k.held.take 0).filter (fun n=>decide (t<n.til)))).length,tI 6 (0:Nat),oB 2 44 [.d (.i k.id),.d (.i k.time),.d (.i k.next),.d (.sl (aH k.held)),.d (.sl (aM k.marks)),.d (.sl (aH k.inbox))],oB 4 44 [.d (.i 0),.d (.i 0),.d (.i 0),.nil,.nil,.nil],oR 9 52 5 (aH ((k.held.take 0).filter (fun n=>decide (t<n.til))))]) [] [] (⟨0,rfl,aVv _,rfl⟩) ?_
   repeat' apply ai
   all_goals first|exact qx|rfl|(rw[aG];done)|(rw[aI];done)|exact qz
 rintro n s ⟨i,rfl,hi,rfl⟩
 refine sq (sq (rT [1,2,4,5,6,14] (s5 (cd rfl (fun c14=> ?_) fun c14=> ?_))))
 · have hi2:i<k.held.length:=by simpa[aG] using c14
   have hg:=aV (l:=k.held) hi2
   refine sk (sq (bk (sq (rT [1,2,4,5,6,24] (s3 (ai (by rw[aVr,hg];exact⟨⟨by omega,by rw[aG];omega⟩,rfl⟩) (s1 (ai (by rw[aVr,hg];exact⟨aVs rfl,rfl⟩) (s2 (cd rfl (fun c24=> ?_) fun c24=> ?_))))))))))
   · rw[aVr,hg] at c24
     have hp: (fun n:bA=>decide (t<n.til)) (k.held.getD i .zero)=true:=c24
     have hf:=zD (z:=bA.zero) (p:=fun n=>decide (t<n.til)) hi2 hp
     refine rT [1,2,4,5,6] (s4 (ai (by rw[aVr,hg];exact⟨⟨by omega,by rw[aG];omega⟩,rfl⟩) (ai (by rw[aVr,hg];exact⟨aVs rfl,rfl⟩) (ai (by exact⟨by simp,aVs rfl⟩) (ai (by exact⟨by first|trivial|rfl|(simp;done),by first|rfl|(simp;done),by first|(simp;done)|(intro r hr;rw[aWa.1 hr];rfl),by(have hm:=(List.length_filter_le (fun n=>decide (t<n.til)) (k.held.take i)));rw[aV0] at hm;simp only[aG,aVw,aVx];show _*48≤_;omega⟩) (s1 (rT [1,2,4,5,6] (s3 (wq [] [] (⟨k.held.length - (i+1),by omega,i+1,rfl,by omega,rfl⟩) ?_)))))))))
     repeat' apply ai
     all_goals first|exact qx|exact aA D.i (by rw[aF (by omega)];omega)|(rw[hf,aVr,hg];exact ep _ _)|(rw[hf];simp[aH,aM];done)|(rw[hf];done)|exact qz
   rw[aVr,hg] at c24
   have hp: (fun n:bA=>decide (t<n.til)) (k.held.getD i .zero)=false:=c24
   have hf:=dn (z:=bA.zero) (p:=fun n=>decide (t<n.til)) hi2 hp
   refine sk (rT [1,2,4,5,6] (s3 (wq [] [] (⟨k.held.length - (i+1),by omega,i+1,rfl,by omega,rfl⟩) ?_)))
   repeat' apply ai
   all_goals first|exact qx|exact aA D.i (by rw[aF (by omega)];omega)|(rw[hf,aVr,hg];exact ep _ _)|(rw[hf];simp[aH,aM];done)|(rw[hf];done)|exact qz
 have hi3:i=k.held.length:=by simp[aG] at c14;omega
 subst hi3
 clear hi
 refine xt (sq (rT [1,2,4,5,7] (ai (by simp) (s1 (sq (sq (rT [1,2,4,5,7,8] (s1 (bk (SW.loopW (n:=k.marks.length) (fun m q=> ∃i:Nat,m=k.marks.length - i∧i≤k.marks.length∧q=[tI 1 t,tP 2 2,tP 4 4,tO 5 9 (aH ((k.held.take k.held.length).filter (fun n=>decide (t<n.til)))).length,tO 7 33 (aM ((k.marks.take i).filter (fun n=>decide (t<n.til)))).length,tI 8 (i:Nat),oB 2 44 [.d (.i k.id),.d (.i k.time),.d (.i k.next),.d (.sl (aH k.held)),.d (.sl (aM k.marks)),.d (.sl (aH k.inbox))],oB 4 44 [.d (.i 0),.d (.i 0),.d (.i 0),.nil,.nil,.nil],oR 9 52 5 (aH ((k.held.take k.held.length).filter (fun n=>decide (t<n.til)))),oR 33 162 3 (aM ((k.marks.take i).filter (fun n=>decide (t<n.til))))]) ?_ ?_))))))))))
 · refine wq (σ':=[tI 1 t,tP 2 2,tP 4 4,tO 5 9 (aH ((k.held.take k.held.length).filter (fun n=>decide (t<n.til)))).length,tO 7 33 (aM ((k.marks.take 0).filter (fun n=>decide (t<n.til)))).length,tI 8 (0:Nat),oB 2 44 [.d (.i k.id),.d (.i k.time),.d (.i k.next),.d (.sl (aH k.held)),.d (.sl (aM k.marks)),.d (.sl (aH k.inbox))],oB 4 44 [.d (.i 0),.d (.i 0),.d (.i 0),.nil,.nil,.nil],oR 9 52 5 (aH ((k.held.take k.held.length).filter (fun n=>decide (t<n.til)))),oR 33 162 3 (aM ((k.marks.take 0).filter (fun n=>decide (t<n.til))))]) [] [] (⟨0,rfl,aVv _,rfl⟩) ?_
   repeat' apply ai
   all_goals first|exact qx|rfl|(rw[aG];done)|(rw[aI];done)|exact qz
 rintro n s ⟨i,rfl,hi,rfl⟩
 refine sq (sq (rT [1,2,4,5,7,8,38] (s5 (cd rfl (fun c38=> ?_) fun c38=> ?_))))
 · have hi2:i<k.marks.length:=by simpa[aI] using c38
   have hg:=bQ (l:=k.marks) hi2
   refine sk (sq (bk (sq (rT [1,2,4,5,7,8,48] (s3 (ai (by rw[aVr,hg];exact⟨⟨by omega,by rw[aI];omega⟩,rfl⟩) (s1 (ai (by rw[aVr,hg];exact⟨aVs rfl,rfl⟩) (s2 (cd rfl (fun c48=> ?_) fun c48=> ?_))))))))))
   · rw[aVr,hg] at c48
     have hp: (fun n:bU=>decide (t<n.til)) (k.marks.getD i .zero)=true:=c48
     have hf:=zD (z:=bU.zero) (p:=fun n=>decide (t<n.til)) hi2 hp
     refine rT [1,2,4,5,7,8] (s4 (ai (by rw[aVr,hg];exact⟨⟨by omega,by rw[aI];omega⟩,rfl⟩) (ai (by rw[aVr,hg];exact⟨aVs rfl,rfl⟩) (ai (by exact⟨by simp,aVs rfl⟩) (ai (by exact⟨by first|trivial|rfl|(simp;done),by first|rfl|(simp;done),by first|(simp;done)|(intro r hr;rw[aWa.1 hr];rfl),by(have hm:=(List.length_filter_le (fun n=>decide (t<n.til)) (k.marks.take i)));rw[aV0] at hm;simp only[aI,aVw,aVx];show _*24≤_;omega⟩) (s1 (rT [1,2,4,5,7,8] (s3 (wq [] [] (⟨k.marks.length - (i+1),by omega,i+1,rfl,by omega,rfl⟩) ?_)))))))))
     repeat' apply ai
     all_goals first|exact qx|exact aA D.i (by rw[aF (by omega)];omega)|(rw[hf,aVr,hg];exact er _ _)|(rw[hf];simp[aH,aM];done)|(rw[hf];done)|exact qz
   rw[aVr,hg] at c48
   have hp: (fun n:bU=>decide (t<n.til)) (k.marks.getD i .zero)=false:=c48
   have hf:=dn (z:=bU.zero) (p:=fun n=>decide (t<n.til)) hi2 hp
   refine sk (rT [1,2,4,5,7,8] (s3 (wq [] [] (⟨k.marks.length - (i+1),by omega,i+1,rfl,by omega,rfl⟩) ?_)))
   repeat' apply ai
   all_goals first|exact qx|exact aA D.i (by rw[aF (by omega)];omega)|(rw[hf,aVr,hg];exact er _ _)|(rw[hf];simp[aH,aM];done)|(rw[hf];done)|exact qz
 have hi3:i=k.marks.length:=by simp[aI] at c38;omega
 subst hi3
 refine xt (sq (rT [2,4,5,7] (s3 (sq (rT [2,4,7] (s3 (sq (rT [2,4] (s3 (sq (rT [4] (s2 (rt (rq [] [9,33] rfl ?_))))))))))))))
 repeat' apply ai
 all_goals try exact qx
 all_goals(first|with_reducible rfl|(simp[kN];done))
theorem fg (k:aX) (n:bA) (hb:k.held.length≤100000∧k.marks.length≤100000∧k.inbox.length≤100000) (hn:n.text.length≤140737488355328):Sp 246 2 [tV 0 k.V,tV 1 n.V] [tV 0 (.tup [.agg [.d (.i ((fZ k n).1).id),.d (.i ((fZ k n).1).time),.d (.i ((fZ k n).1).next),.d (.sl (aH ((fZ k n).1).held)),.d (.sl (aM ((fZ k n).1).marks)),.d (.sl (aH ((fZ k n).1).inbox))],.c (.d (.b (fZ k n).2))])]:=by
 refine sb Tryz.func246 rfl (sq (rT [2,3,4] (s4 (sq (sq (rT [2,3,4,56] (s1 (xp (sF n hn) (ai rfl ?_)))))))))
 refine s2 (y4 (y1 (ai pk (s1 (y4 (y2 (xc (fun h=>(jK k.held _ _ (by omega))) (ai rfl (ai rk ?_)))))))))
 refine y1 (ai pk (s1 (y4 (y2 (xc (fun h=>(jK k.inbox _ _ (by omega))) (ai rfl (ai rk ?_)))))))
 refine y1 (ai pk (s1 (y4 (y2 (xc (fun h=>(oM k.marks _ _ (by omega))) (ai rfl (ai rk ?_)))))))
 refine y1 (ai pk (s1 (y4 (y4 (y1 (ai pk (cd rfl (fun c56=> ?_) fun c56=> ?_)))))))
 · have ha:=tt hb c56
   refine sq (rT [4,5] (s3 (rt ?_)))
   have hr:fZ k n=(k,false):=aB (bn ha)
   refine bI rfl rfl ?_
   rw[hr]<;>rfl
 have ha:=tt hb c56
 refine sk (sq (sq (rT [2,3,4,62] (s5 (cd rfl (fun c62=> ?_) fun c62=> ?_)))))
 · refine sq (rT [2,3,4] (s3 (xp (sG k.inbox n hb.2.2) (ai rfl ?_))))
   refine s2 (rT [2,4] (s9 (xp (wX k.marks ⟨n.frm,n.num,n.til⟩ hb.2.1) (ai rfl ?_))))
   refine s2 (sq (rT [4,5] (s3 (rt ?_))))
   first|have hr:=aAu ha c62|have hr:=aAv ha c62
   refine bI rfl rfl ?_
   rw[hr]<;>rfl
 refine rT [2,4] (s3 (xp (sG k.held n hb.1) (ai rfl ?_)))
 refine s2 (sq (rT [4,5] (s3 (rt ?_))))
 first|have hr:=aAu ha c62|have hr:=aAv ha c62
 refine bI rfl rfl ?_
 rw[hr]<;>rfl
theorem aC3 (k:aX) (w:List UInt8) (n:Int) (hb:k.held.length≤100000∧k.marks.length≤100000∧k.inbox.length≤100000):Sp 205 3 [tV 0 k.V,tD 1 (.s w),tI 2 n] [tV 0 (.tup [.agg [.d (.i ((kQ k w n).1).id),.d (.i ((kQ k w n).1).time),.d (.i ((kQ k w n).1).next),.d (.sl (aH ((kQ k w n).1).held)),.d (.sl (aM ((kQ k w n).1).marks)),.d (.sl (aH ((kQ k w n).1).inbox))],.c (.d (.b (kQ k w n).2))])]:=by
 refine sb Tryz.func205 rfl (sq (rT [1,2,3,6] (s3 (sq (bk (sq (rT [1,2,3,6,8] (s3 (y4 (ai pk (s1 (cd rfl (fun c8=> ?_) fun c8=> ?_))))))))))))
 · refine sq (rT [6,7] (s2 (xp (we k n hb) (ai rfl ?_))))
   refine s2 (rt ?_)
   have hr:kQ k w n=(kN k n,true):=aC c8
   refine bI rfl rfl ?_
   rw[hr]<;>rfl
 refine sq (rT [2,3,6,20] (s3 (y4 (ai pk (s1 (cd rfl (fun c20=> ?_) fun c20=> ?_))))))
 · refine sq (rT [3,6] (s3 (sq (rT [6,7] (s3 (rt ?_))))))
   have hr:kQ k w n=({k with next:=n},true):=(aB (bn c8)).trans (aC c20)
   refine bI rfl rfl ?_
   rw[hr]<;>rfl
 refine sk (sq (rT [6,7] (s3 (rt ?_))))
 have hr:kQ k w n=(k,false):=(aB (bn c8)).trans (aB (bn c20))
 refine bI rfl rfl ?_
 rw[hr]<;>rfl
theorem yy (k:aX) (w:List UInt8) (n:bA) (hb:k.held.length≤100000∧k.marks.length≤100000∧k.inbox.length≤100000) (hn:n.text.length≤140737488355328):Sp 207 3 [tV 0 k.V,tD 1 (.s w),tV 2 n.V] [tV 0 (.tup [.agg [.d (.i ((fC k w n).1).id),.d (.i ((fC k w n).1).time),.d (.i ((fC k w n).1).next),.d (.sl (aH ((fC k w n).1).held)),.d (.sl (aM ((fC k w n).1).marks)),.d (.sl (aH ((fC k w n).1).inbox))],.c (.d (.b (fC k w n).2))])]:=by
 refine sb Tryz.func207 rfl (sq (rT [1,3,5,6] (s4 (sq (bk (sq (rT [1,3,5,6,8] (s3 (y4 (y1 (ai pk (s1 (y4 (y1 (ai pk (s1 (cd rfl (fun c8=> ?_) fun c8=> ?_)))))))))))))))))
 · refine sq (rT [3,5,6] (s5 (sq (rT [6,7] (s2 (xp (fg {k with next:=wrap64 (k.next+1)} n hb hn) (ai rfl ?_)))))))
   refine s4 (rt ?_)
   have hr:fC k w n=fZ {k with next:=wrap64 (k.next+1)} n:=aC c8
   refine bI rfl rfl ?_
   rw[hr]<;>rfl
 refine sq (rT [1,3,5,6,34] (s3 (y4 (y1 (ai pk (s1 (cd rfl (fun c34=> ?_) fun c34=> ?_)))))))
 · refine sq (rT [6,7] (s2 (xp (fg k n hb hn) (ai rfl ?_))))
   refine s4 (rt ?_)
   have hr:fC k w n=fZ k n:=(aB (bn c8)).trans (aC c34)
   refine bI rfl rfl ?_
   rw[hr]<;>rfl
 refine sq (rT [1,3,5,6,49] (s6 (xp (jK k.held _ _ (by omega)) (ai rfl ?_))))
 refine s2 (y4 (y2 (xc (fun h=>(jK k.inbox _ _ (by omega))) (ai rfl (ai rk ?_)))))
 refine y1 (ai pk (s1 (cd rfl (fun c49=> ?_) fun c49=> ?_)))
 · refine sk (sq (rT [6,7] (s3 (rt ?_))))
   have hr:fC k w n=(k,false):=by
    first|exact(aB (bn c8)).trans ((aB (bn c34)).trans (aC c49))|exact(aB (bn c8)).trans ((aB (bn c34)).trans ((aB (bn c49)).trans ((aB (bn c68)).trans (aB (bn c77)))))
   refine bI rfl rfl ?_
   rw[hr]<;>rfl
 refine sq (rT [1,3,5,6,68] (s3 (cd rfl (fun c68=> ?_) fun c68=> ?_)))
 · refine sq (rT [3,6] (s3 (xp (sG k.held n hb.1) (ai rfl ?_))))
   refine s2 (sq (rT [6,7] (s3 (rt ?_))))
   have hr:fC k w n=({k with held:=jB k.held n},true):=(aB (bn c8)).trans ((aB (bn c34)).trans ((aB (bn c49)).trans (aC c68)))
   refine bI rfl rfl ?_
   rw[hr]<;>rfl
 refine sq (rT [3,5,6,77] (s3 (cd rfl (fun c77=> ?_) fun c77=> ?_)))
 · refine sq (rT [3,6] (s3 (xp (sG k.inbox n hb.2.2) (ai rfl ?_))))
   refine s2 (sq (rT [6,7] (s3 (rt ?_))))
   have hr:fC k w n=({k with inbox:=jB k.inbox n},true):=(aB (bn c8)).trans ((aB (bn c34)).trans ((aB (bn c49)).trans ((aB (bn c68)).trans (aC c77))))
   refine bI rfl rfl ?_
   rw[hr]<;>rfl
 refine sk (sq (rT [6,7] (s3 (rt ?_))))
 have hr:fC k w n=(k,false):=by
  first|exact(aB (bn c8)).trans ((aB (bn c34)).trans (aC c49))|exact(aB (bn c8)).trans ((aB (bn c34)).trans ((aB (bn c49)).trans ((aB (bn c68)).trans (aB (bn c77)))))
 refine bI rfl rfl ?_
 rw[hr]<;>rfl
theorem yz (k:aX) (w:List UInt8) (m:bU) (hb:k.held.length≤100000∧k.marks.length≤100000∧k.inbox.length≤100000):Sp 210 3 [tV 0 k.V,tD 1 (.s w),tV 2 m.V] [tV 0 (.tup [.agg [.d (.i ((gL k w m).1).id),.d (.i ((gL k w m).1).time),.d (.i ((gL k w m).1).next),.d (.sl (aH ((gL k w m).1).held)),.d (.sl (aM ((gL k w m).1).marks)),.d (.sl (aH ((gL k w m).1).inbox))],.c (.d (.b (gL k w m).2))])]:=by
 refine sb Tryz.func210 rfl (sq (rT [1,3,5,6] (s4 (sq (rD [1,3,5,6,8,9] (s6 (xp (jK k.held _ _ (by omega)) (ai rfl ?_))))))))
 refine s6 (xp (jK k.inbox _ _ (by omega)) (ai rfl ?_))
 refine s2 (ai (by kernel_rfl) (sq (rT [1,3,5,6,8,9,10] (s6 (xp (oM k.marks _ _ (by omega)) (ai rfl ?_))))))
 refine s2 (sq (bk (sq (rD [1,3,5,6,8,9,10,33] (s3 (y2 (ai pk (s1 (y3 (ai (fun h=>(by skip;have hp:0≤aW k.held m.frm m.num:=(by have h8:=h;simp only[gb,aVu,aD] at h8;exact h8.2);have hr:=eT k.held m.frm m.num;rw[aV (by omega)];exact⟨⟨hp,by rw[aG];omega⟩,rfl⟩)) (ai rk (y1 (ai (fun h=>(by have hp:0≤aW k.held m.frm m.num:=(by have h8:=h;simp only[gb,aVu,aD] at h8;exact h8.2);have hr:=eT k.held m.frm m.num;rw[aV (by omega)];exact⟨aVs rfl,rfl⟩)) (ai rk (y3 (ai pk (s1 (ai (by kernel_rfl) (cd rfl (fun c33=> ?_) fun c33=> ?_)))))))))))))))))))
 · have hc: (w==kV&&decide (0≤aW k.held m.frm m.num)&&(k.held.getD (aW k.held m.frm m.num).toNat .zero).til==m.til)=true:=by
    have h9:=c33
    by_cases hp:0≤aW k.held m.frm m.num
    · have hr:=eT k.held m.frm m.num
      rw[aV (by omega)] at h9
      exact h9
    · rw[show decide (aW k.held m.frm m.num≥0)=false from decide_eq_false hp,Bool.and_false,Bool.false_and] at h9
      rw[show decide (0≤aW k.held m.frm m.num)=false from decide_eq_false hp,Bool.and_false,Bool.false_and]<;>exact h9
   have hp:0≤aW k.held m.frm m.num:=by
    simp only[aVu,aD] at hc
    exact hc.1.2
   have hr:=eT k.held m.frm m.num
   refine sq (rT [3,5,6] (s3 (xp (cp k.held (aW k.held m.frm m.num) ⟨hp,by omega⟩ hb.1) (ai rfl ?_))))
   refine s2 (sq (rT [3,6] (s3 (xp (wX k.marks m hb.2.1) (ai rfl ?_)))))
   refine s2 (sq (rT [6,7] (s3 (rt ?_))))
   have hr:gL k w m=({k with held:=eG k.held (aW k.held m.frm m.num).toNat,marks:=qH k.marks m},true):=aC hc
   refine bI rfl rfl ?_
   rw[hr]<;>rfl
 have hc: (w==kV&&decide (0≤aW k.held m.frm m.num)&&(k.held.getD (aW k.held m.frm m.num).toNat .zero).til==m.til)=false:=by
  have h9:=c33
  by_cases hp:0≤aW k.held m.frm m.num
  · have hr:=eT k.held m.frm m.num
    rw[aV (by omega)] at h9
    exact h9
  · rw[show decide (aW k.held m.frm m.num≥0)=false from decide_eq_false hp,Bool.and_false,Bool.false_and] at h9
    rw[show decide (0≤aW k.held m.frm m.num)=false from decide_eq_false hp,Bool.and_false,Bool.false_and]<;>exact h9
 have hc1:=hc
 clear hc
 refine sq (rD [1,3,5,6,9,10,62] (s3 (y2 (ai pk (s1 (y3 (ai (fun h=>(by skip;have hp:0≤aW k.inbox m.frm m.num:=(by have h8:=h;simp only[gb,aVu,aD] at h8;exact h8.2);have hr:=eT k.inbox m.frm m.num;rw[aV (by omega)];exact⟨⟨hp,by rw[aG];omega⟩,rfl⟩)) (ai rk (y1 (ai (fun h=>(by have hp:0≤aW k.inbox m.frm m.num:=(by have h8:=h;simp only[gb,aVu,aD] at h8;exact h8.2);have hr:=eT k.inbox m.frm m.num;rw[aV (by omega)];exact⟨aVs rfl,rfl⟩)) (ai rk (y3 (ai pk (s1 (ai (by kernel_rfl) (cd rfl (fun c62=> ?_) fun c62=> ?_))))))))))))))))
 · have hc: (w==oE&&decide (0≤aW k.inbox m.frm m.num)&&(k.inbox.getD (aW k.inbox m.frm m.num).toNat .zero).til==m.til)=true:=by
    have h9:=c62
    by_cases hp:0≤aW k.inbox m.frm m.num
    · have hr:=eT k.inbox m.frm m.num
      rw[aV (by omega)] at h9
      exact h9
    · rw[show decide (aW k.inbox m.frm m.num≥0)=false from decide_eq_false hp,Bool.and_false,Bool.false_and] at h9
      rw[show decide (0≤aW k.inbox m.frm m.num)=false from decide_eq_false hp,Bool.and_false,Bool.false_and]<;>exact h9
   have hp:0≤aW k.inbox m.frm m.num:=by
    simp only[aVu,aD] at hc
    exact hc.1.2
   have hr:=eT k.inbox m.frm m.num
   refine sq (rT [3,6] (s3 (xp (cp k.inbox (aW k.inbox m.frm m.num) ⟨hp,by omega⟩ hb.2.2) (ai rfl ?_))))
   refine s2 (sq (rT [6,7] (s3 (rt ?_))))
   have hr:gL k w m=({k with inbox:=eG k.inbox (aW k.inbox m.frm m.num).toNat},true):=(aB (bn hc1)).trans (aC hc)
   refine bI rfl rfl ?_
   rw[hr]<;>rfl
 have hc: (w==oE&&decide (0≤aW k.inbox m.frm m.num)&&(k.inbox.getD (aW k.inbox m.frm m.num).toNat .zero).til==m.til)=false:=by
  have h9:=c62
  by_cases hp:0≤aW k.inbox m.frm m.num
  · have hr:=eT k.inbox m.frm m.num
    rw[aV (by omega)] at h9
    exact h9
  · rw[show decide (aW k.inbox m.frm m.num≥0)=false from decide_eq_false hp,Bool.and_false,Bool.false_and] at h9
    rw[show decide (0≤aW k.inbox m.frm m.num)=false from decide_eq_false hp,Bool.and_false,Bool.false_and]<;>exact h9
 refine sq (rT [3,5,6,86] (s3 (y2 (ai pk (s1 (cd rfl (fun c86=> ?_) fun c86=> ?_))))))
 · have hm: (w==gK&&decide (fM k.marks m.frm m.num<0))=true:=by
    have h9:=c86
    rw[aAn,Bool.not_not] at h9
    exact h9
   refine sq (rT [3,6] (s3 (xp (wX k.marks m hb.2.1) (ai rfl ?_))))
   refine s2 (sq (rT [6,7] (s3 (rt ?_))))
   have hr:gL k w m=({k with marks:=qH k.marks m},true):=(aB (bn hc1)).trans ((aB (bn hc)).trans (aC hm))
   refine bI rfl rfl ?_
   rw[hr]<;>rfl
 have hm: (w==gK&&decide (fM k.marks m.frm m.num<0))=false:=by
  have h9:=c86
  rw[aAn,Bool.not_not] at h9
  exact h9
 refine sk (sq (rT [6,7] (s3 (rt ?_))))
 have hr:gL k w m=(k,false):=(aB (bn hc1)).trans ((aB (bn hc)).trans (aB (bn hm)))
 refine bI rfl rfl ?_
 rw[hr]<;>rfl
theorem kw (k:aX) (rec:List UInt8) (hb:k.held.length≤100000∧k.marks.length≤100000∧k.inbox.length≤100000) (hr:rec.length≤900000):Sp 170 2 [tV 0 k.V,tD 1 (.s rec)] [tV 0 (.tup [.agg [.d (.i ((dL k rec).1).id),.d (.i ((dL k rec).1).time),.d (.i ((dL k rec).1).next),.d (.sl (aH ((dL k rec).1).held)),.d (.sl (aM ((dL k rec).1).marks)),.d (.sl (aH ((dL k rec).1).inbox))],.c (.d (.b (dL k rec).2))])]:=by
 have hl1:=uL rec
 have hl2:=dm rec
 have hl3:=zG (aO rec)
 refine sb Tryz.func170 rfl (sq (rT [1,2,4] (s3 (sq (rT [2,4,6,7,8] (s1 (xp (yx rec (by omega)) (ai rfl ?_))))))))
 refine s7 (sq (sq (rT [2,4,6,7,22] (s2 (cd rfl (fun c22=> ?_) fun c22=> ?_)))))
 · have hs:fG rec=false:=by simpa using c22
   refine sq (rT [4,5] (s3 (rt ?_)))
   have hr:dL k rec=(k,false):=aJ8 hs
   refine bI rfl rfl ?_
   rw[hr]<;>rfl
 have hs:fG rec=true:=by simpa using c22
 refine sk (sq (sq (rT [2,4,6,7,24] (s1 (bk (SW.midW (fun q=>q=[tP 2 2,tP 4 4,tD 6 (.s (bC rec)),tD 7 (.s (aO rec)),tD 24 (.s (bC rec)),tB 25 (bC rec==iP||bC rec==iQ),oB 2 44 [.d (.i k.id),.d (.i k.time),.d (.i k.next),.d (.sl (aH k.held)),.d (.sl (aM k.marks)),.d (.sl (aH k.inbox))],oB 4 44 [.d (.i 0),.d (.i 0),.d (.i 0),.nil,.nil,.nil]]) ?_ ?_))))))
 · refine sq (rT [2,4,6,7,24,25] (s2 (cd rfl (fun c25=> ?_) fun c25=> ?_)))
   · refine sk (wq [] [] (rfl) ?_)
     repeat' apply ai
     all_goals first|exact qx|(refine aA D.b ?_;simp_all[iP,iQ,lG,dF,fY,eW,kV,oE,gK])|exact qz
   refine rT [2,4,6,7,24,25] (s2 (wq [] [] (rfl) ?_))
   repeat' apply ai
   all_goals first|exact qx|(refine aA D.b ?_;simp_all[iP,iQ,lG,dF,fY,eW,kV,oE,gK])|exact qz
 rintro s rfl
 refine cd rfl (fun c25=> ?_) fun c25=> ?_
 · refine sq (rT [2,4,6,9,10] (s1 (xp (aBi (aO rec) (by omega)) (ai rfl ?_))))
   refine s5 (sq (rT [2,4,6,9,33] (s1 (cd rfl (fun c33=> ?_) fun c33=> ?_))))
   · refine sq (rT [4,5] (s3 (xp (aC3 k (bC rec) (iH (aO rec)) hb) (ai rfl ?_))))
     refine s4 (rt ?_)
     have hr:dL k rec=_:=tv hs c25 c33
     refine bI rfl rfl ?_
     rw[hr]<;>rfl
   refine sk (sq (rT [4,5] (s3 (rt ?_))))
   have hr2:dL k rec=(k,false):=by
    first|exact dt hs c25 c33|exact rP hs c25 c40 c50|exact zH hs c25 c40 c57 hm3|exact jr hs c25 c40 c57
   refine bI rfl rfl ?_
   rw[hr2]<;>rfl
 refine SW.midW (fun q=>q=[tP 2 2,tP 4 4,tD 6 (.s (bC rec)),tD 7 (.s (aO rec)),tD 24 (.s (bC rec)),tB 40 (bC rec==lG||bC rec==dF||bC rec==fY||bC rec==eW),oB 2 44 [.d (.i k.id),.d (.i k.time),.d (.i k.next),.d (.sl (aH k.held)),.d (.sl (aM k.marks)),.d (.sl (aH k.inbox))],oB 4 44 [.d (.i 0),.d (.i 0),.d (.i 0),.nil,.nil,.nil]]) ?_ ?_
 · refine sq (rT [2,4,6,7,24,40] (s2 (cd rfl (fun c40=> ?_) fun c40=> ?_)))
   · refine sk (wq [] [] (rfl) ?_)
     repeat' apply ai
     all_goals first|exact qx|(refine aA D.b ?_;simp_all[iP,iQ,lG,dF,fY,eW,kV,oE,gK])|exact qz
   refine sq (rT [2,4,6,7,24,40] (s2 (cd rfl (fun c40_2=> ?_) fun c40_2=> ?_)))
   · refine sk (wq [] [] (rfl) ?_)
     repeat' apply ai
     all_goals first|exact qx|(refine aA D.b ?_;simp_all[iP,iQ,lG,dF,fY,eW,kV,oE,gK])|exact qz
   refine sq (rT [2,4,6,7,24,40] (s2 (cd rfl (fun c40_3=> ?_) fun c40_3=> ?_)))
   · refine sk (wq [] [] (rfl) ?_)
     repeat' apply ai
     all_goals first|exact qx|(refine aA D.b ?_;simp_all[iP,iQ,lG,dF,fY,eW,kV,oE,gK])|exact qz
   refine rT [2,4,6,7,24,40] (s2 (wq [] [] (rfl) ?_))
   repeat' apply ai
   all_goals first|exact qx|(refine aA D.b ?_;simp_all[iP,iQ,lG,dF,fY,eW,kV,oE,gK])|exact qz
 rintro s rfl
 refine cd rfl (fun c40=> ?_) fun c40=> ?_
 · refine sq (rT [2,4,6,11,12] (s1 (xp (qp (aO rec) (by omega)) (ai rfl ?_))))
   refine s6 (sq (rT [2,4,6,11,50] (s1 (cd rfl (fun c50=> ?_) fun c50=> ?_))))
   · refine sq (rT [4,5] (s3 (xp (yy k (bC rec) (dK (aO rec)).1 hb (by omega)) (ai rfl ?_))))
     refine s4 (rt ?_)
     have hr:dL k rec=_:=aAw hs c25 c40 c50
     refine bI rfl rfl ?_
     rw[hr]<;>rfl
   refine sk (sq (rT [4,5] (s3 (rt ?_))))
   have hr2:dL k rec=(k,false):=by
    first|exact dt hs c25 c33|exact rP hs c25 c40 c50|exact zH hs c25 c40 c57 hm3|exact jr hs c25 c40 c57
   refine bI rfl rfl ?_
   rw[hr2]<;>rfl
 refine SW.midW (fun q=>q=[tP 2 2,tP 4 4,tD 6 (.s (bC rec)),tD 7 (.s (aO rec)),tB 57 (bC rec==kV||bC rec==oE||bC rec==gK),oB 2 44 [.d (.i k.id),.d (.i k.time),.d (.i k.next),.d (.sl (aH k.held)),.d (.sl (aM k.marks)),.d (.sl (aH k.inbox))],oB 4 44 [.d (.i 0),.d (.i 0),.d (.i 0),.nil,.nil,.nil]]) ?_ ?_
 · refine sq (rT [2,4,6,7,24,57] (s2 (cd rfl (fun c57=> ?_) fun c57=> ?_)))
   · refine sk (wq [] [] (rfl) ?_)
     repeat' apply ai
     all_goals first|exact qx|(refine aA D.b ?_;simp_all[iP,iQ,lG,dF,fY,eW,kV,oE,gK])|exact qz
   refine sq (rT [2,4,6,7,24,57] (s2 (cd rfl (fun c57_2=> ?_) fun c57_2=> ?_)))
   · refine sk (wq [] [] (rfl) ?_)
     repeat' apply ai
     all_goals first|exact qx|(refine aA D.b ?_;simp_all[iP,iQ,lG,dF,fY,eW,kV,oE,gK])|exact qz
   refine rT [2,4,6,7,57] (s2 (wq [] [] (rfl) ?_))
   repeat' apply ai
   all_goals first|exact qx|(refine aA D.b ?_;simp_all[iP,iQ,lG,dF,fY,eW,kV,oE,gK])|exact qz
 rintro s rfl
 refine cd rfl (fun c57=> ?_) fun c57=> ?_
 · refine sq (rT [2,4,6,13,14] (s1 (xp (qo (aO rec) (by omega)) (ai rfl ?_))))
   refine xp (ax (cR (aO rec)) (by have:=aJ7 (aO rec);omega) (fun x hx=>by have:=aMu (aO rec) x hx;omega)) (ai rfl ?_)
   refine s5 (sq (rT [2,4,6,13,72] (s2 (y3 (ai pk (cd rfl (fun c72=> ?_) fun c72=> ?_))))))
   · have hm3:=aAy c72
     have hm4:=hm3
     rw[aVu,beq_iff_eq] at hm4
     obtain⟨hno,hl4⟩:=hm4
     have e0:xK (((bW (jY (cR (aO rec)))).getD 0 []).getD 0 (.i 0))=iH ((cR (aO rec)).getD 0 []):=aCt hno (by omega)
     have e1:xK (((bW (jY (cR (aO rec)))).getD 1 []).getD 0 (.i 0))=iH ((cR (aO rec)).getD 1 []):=aCt hno (by omega)
     have e2:xK (((bW (jY (cR (aO rec)))).getD 2 []).getD 0 (.i 0))=iH ((cR (aO rec)).getD 2 []):=aCt hno (by omega)
     refine sq (rD [4,5] (s3 (ai (by exact jg (l:=jY (cR (aO rec))) (by omega) (by rw[gP hno];omega)) (ai (by have:=gZ (l:=jY (cR (aO rec))) (i:=0) (by rw[gP hno];omega);first|(rw[show((0:Int)).toNat=((0:Nat):Int).toNat from rfl,this];exact⟨aVs rfl,rfl⟩)) (s1 (ai (by exact jg (l:=jY (cR (aO rec))) (by omega) (by rw[gP hno];omega)) (ai (by have:=gZ (l:=jY (cR (aO rec))) (i:=1) (by rw[gP hno];omega);first|(rw[show((1:Int)).toNat=((1:Nat):Int).toNat from rfl,this];exact⟨aVs rfl,rfl⟩)) (s1 (ai (by exact jg (l:=jY (cR (aO rec))) (by omega) (by rw[gP hno];omega)) (ai (by have:=gZ (l:=jY (cR (aO rec))) (i:=2) (by rw[gP hno];omega);first|(rw[show((2:Int)).toNat=((2:Nat):Int).toNat from rfl,this];exact⟨aVs rfl,rfl⟩)) (s1 (xp (yz k (bC rec) (three (cR (aO rec))) hb) (ai (by exact aVl e0 e1 e2) ?_)))))))))))))
     refine s4 (ai (by kernel_rfl) (rt ?_))
     have hr:dL k rec=_:=aAx hs c25 c40 c57 hm3
     refine bI rfl rfl ?_
     rw[hr]<;>rfl
   have hm3:=aAy c72
   refine sk (sq (rT [4,5] (s3 (rt ?_))))
   have hr2:dL k rec=(k,false):=by
    first|exact dt hs c25 c33|exact rP hs c25 c40 c50|exact zH hs c25 c40 c57 hm3|exact jr hs c25 c40 c57
   refine bI rfl rfl ?_
   rw[hr2]<;>rfl
 refine sk (sq (rT [4,5] (s3 (rt ?_))))
 have hr2:dL k rec=(k,false):=by
  first|exact dt hs c25 c33|exact rP hs c25 c40 c50|exact zH hs c25 c40 c57 hm3|exact jr hs c25 c40 c57
 refine bI rfl rfl ?_
 rw[hr2]<;>rfl
theorem ni (id:Int):Sp 112 1 [tI 0 id] [tV 0 ((bY id).V)]:=by
 refine sb Tryz.func112 rfl (sq (rT [0,2] (s1 (sq (sq (rT [0,2,5] (s1 (xp (eB _) (ai rfl ?_)))))))))
 refine s1 (cd rfl (fun c5=> ?_) fun c5=> ?_)
 · have hr:bY id= .zero:=aB (by simpa using c5)
   refine sq (rT [2] (s2 (rt ?_)))
   rw[hr]
   exact rq [] [] rfl qz
 have hr:bY id=⟨id,0,1,[],[],[]⟩:=aC (by simpa using c5)
 refine sk (sq (rT [2] (s3 (rt ?_))))
 rw[hr]
 exact rq [] [] rfl qz
theorem wY (k:aX) (rec:List UInt8) (hk:KB k) (hr:rec.length≤900000):Sp 113 2 [tV 0 k.V,tD 1 (.s rec)] [tV 0 (.tup [.agg [.d (.i ((bX k rec).1).id),.d (.i ((bX k rec).1).time),.d (.i ((bX k rec).1).next),.d (.sl (aH ((bX k rec).1).held)),.d (.sl (aM ((bX k rec).1).marks)),.d (.sl (aH ((bX k rec).1).inbox))],.c (.d (.b (bX k rec).2))])]:=by
 refine sb Tryz.func113 rfl (sq (rT [1,2,4] (s3 (sq (sq (rT [1,2,4,10] (s1 (xp (oN k hk.2.1 hk.2.2) (ai rfl ?_)))))))))
 refine s1 (cd rfl (fun c10=> ?_) fun c10=> ?_)
 · refine sq (rT [4,5] (s3 (rt ?_)))
   have hr:bX k rec=(.zero,false):=aB (by simpa using c10)
   rw[hr]
   exact rq [] [] rfl qz
 have hok:cP k=true:=by simpa using c10
 refine sk (sq (rT [2,4,6,7] (s1 (xp (oW k (by have:=hk.1;omega)) (ai rfl ?_)))))
 refine s1 (xp (kw k rec hk.1 hr) (ai rfl ?_))
 refine s6 (sq (sq (rT [2,4,6,25] (s3 (y1 (xc (fun h=>oN (dL k rec).1 (uM (eR hok) (by omega)).2.1 (uM (eR hok) (by omega)).2.2) (ai rfl (ai rk ?_))))))))
 refine y1 (ai pk (cd rfl (fun c25=> ?_) fun c25=> ?_))
 · refine sq (rT [4,5] (s1 (xp (oW k (by have:=hk.1;omega)) (ai rfl ?_))))
   refine s2 (rt ?_)
   have hr:bX k rec=(k,false):=(aC hok).trans (aB (by intro h;rw[aVu] at h;rw[h.1,h.2] at c25;cases c25))
   rw[hr]
   exact rq [] [] rfl qz
 refine sk (sq (rT [4,5] (s1 (xp (oW (dL k rec).1 (by have:=(uM (eR hok) (show rec.length≤1000000 by omega)).1;omega)) (ai rfl ?_)))))
 refine s2 (rt ?_)
 have hr:bX k rec=((dL k rec).1,true):=(aC hok).trans (aC (by simpa using c25))
 rw[hr]
 exact rq [] [] rfl qz
theorem za (id:Int) (l:List (List UInt8)) (hl:l.length≤900000) (hx: ∀x∈l,x.length≤900000):Sp 50 2 [tI 0 id,tD 1 (.sl (aY l))] [tV 0 (.tup [.agg [.d (.i ((cQ id l).1).id),.d (.i ((cQ id l).1).time),.d (.i ((cQ id l).1).next),.d (.sl (aH ((cQ id l).1).held)),.d (.sl (aM ((cQ id l).1).marks)),.d (.sl (aH ((cQ id l).1).inbox))],.c (.d (.b (cQ id l).2))])]:=by
 refine sb Tryz.func50 rfl (sq (rT [0,1,4] (s2 (sq (sq (rT [0,1,4,13] (s1 (xp (eB _) (ai rfl ?_)))))))))
 refine s1 (cd rfl (fun c13=> ?_) fun c13=> ?_)
 · refine sq (rT [4,5] (s3 (rt ?_)))
   have hr:cQ id l=(.zero,false):=aB (by simpa using c13)
   rw[hr]
   exact rq [] [] rfl qz
 have hnode:dY id=true:=by simpa using c13
 refine sk (sq (rT [1,4,6] (s1 (xp (ni id) (ai rfl ?_)))))
 refine s2 (sq (sq (rT [4,6,17,18,19] (s3 (bk (SW.loopW (n:=l.length) (fun m s=> ∃(i:Nat) (q:aX),m=l.length - i∧i≤l.length∧K6 q∧fR (bY id) l=fR q (l.drop i)∧s=[tP 4 4,tP 6 6,tD 17 (.sl (aY l)),tI 18 (l.length:Nat),tI 19 (i:Nat),oB 4 44 [.d (.i 0),.d (.i 0),.d (.i 0),.nil,.nil,.nil],oB 6 44 [.d (.i (q).id),.d (.i (q).time),.d (.i (q).next),.d (.sl (aH (q).held)),.d (.sl (aM (q).marks)),.d (.sl (aH (q).inbox))]]) ?_ ?_))))))
 · refine wq (σ':=[tP 4 4,tP 6 6,tD 17 (.sl (aY l)),tI 18 (l.length:Nat),tI 19 (0:Nat),oB 4 44 [.d (.i 0),.d (.i 0),.d (.i 0),.nil,.nil,.nil],oB 6 44 [.d (.i (bY id).id),.d (.i (bY id).time),.d (.i (bY id).next),.d (.sl (aH (bY id).held)),.d (.sl (aM (bY id).marks)),.d (.sl (aH (bY id).inbox))]]) [] [] (⟨0,bY id,rfl,aVv _,zI id,rfl,rfl⟩) ?_
   repeat' apply ai
   all_goals first|exact qx|rfl|(rw[aJ];done)|exact qz
 rintro n s ⟨i,q,rfl,hi,hq,hgo,rfl⟩
 refine sq (rT [4,6,17,18,19,20] (s1 (sq (cd rfl (fun c20=> ?_) fun c20=> ?_))))
 · have hi2:i<l.length:=by simpa using c20
   have hg:=eN (l:=l) hi2
   have hmem:l.getD i []∈l:=cM hi2
   refine sk (sq (bk (sq (rT [4,6,8,17,18,19] (ai (by rw[aVr,hg];exact⟨⟨by omega,by rw[aJ];omega⟩,rfl⟩) (ai (by rw[aVr,hg];exact⟨aVs rfl,rfl⟩) (s1 (sq (wa [tP 4 4,tP 6 6,tD 8 (.s (l.getD i [])),tD 17 (.sl (aY l)),tI 18 (l.length:Nat),tI 19 (i:Nat),oB 4 44 [.d (.i 0),.d (.i 0),.d (.i 0),.nil,.nil,.nil],oB 6 44 [.d (.i (q).id),.d (.i (q).time),.d (.i (q).next),.d (.sl (aH (q).held)),.d (.sl (aM (q).marks)),.d (.sl (aH (q).inbox))]] [] [] ?_ ?_)))))))))
   · repeat' apply ai
     all_goals first|exact qx|(rw[aVr,hg];rfl)|exact qz
   refine rT [4,6,9,10,17,18,19] (s2 (xp (wY q (l.getD i []) hq.seven.big (hx _ hmem)) (ai rfl ?_)))
   refine s6 (sq (sq (rT [4,6,9,17,18,19,30] (s2 (cd rfl (fun c30=> ?_) fun c30=> ?_)))))
   · have hno: (bX q (l.getD i [])).2=false:=by simpa using c30
     rw[List.drop_eq_getElem_cons hi2,fR,show l[i]=l.getD i [] by rw[aVy,aV1 hi2];rfl,hno] at hgo
     refine sq (rT [4,5] (s3 (rt ?_)))
     have hr:cQ id l=(.zero,false):=(aC hnode).trans (hgo.trans (aB (by simp)))
     rw[hr]
     exact rq [] [] rfl qz
   have hno: (bX q (l.getD i [])).2=true:=by simpa using c30
   rw[List.drop_eq_getElem_cons hi2,fR,show l[i]=l.getD i [] by rw[aVy,aV1 hi2];rfl,aC hno] at hgo
   refine sk (rT [4,6,17,18,19] (s2 (rT [4,6,17,18,19] (s2 (wq [] [] (⟨l.length - (i+1),by omega,i+1,(bX q (l.getD i [])).1,rfl,by omega,mv,hgo,rfl⟩) ?_)))))
   repeat' apply ai
   all_goals first|exact qx|exact aA D.i (aF (by omega))|exact qz
 have hi3:i=l.length:=by simp at c20;omega
 subst hi3
 refine xt (sq (rT [4,5] (s3 (rt ?_))))
 have hr:cQ id l=(q,true):=(aC hnode).trans (hgo.trans (by rw[List.drop_length];rfl))
 rw[hr]
 exact rq [] [] rfl qz
theorem qq (k:aX) (n:bA) (hb:k.held.length≤100000∧k.marks.length≤100000∧k.inbox.length≤100000) (hn:n.text.length≤140737488355328):Sp 252 2 [tV 0 k.V,tV 1 n.V] [tB 0 (gn k n)]:=by
 refine sb Tryz.func252 rfl (sq (rT [2,3] (s3 (sq (rT [4] (s1 (xp (wV n hn) (ai rfl ?_))))))))
 refine s1 (y4 (y1 (ai pk (s1 (y4 (y2 (xc (fun h=>(gG k.held _ _ (by omega))) (ai rfl (ai rk ?_)))))))))
 refine y1 (ai pk (s1 (y4 (y2 (xc (fun h=>(nA k.marks _ _ (by omega))) (ai rfl (ai rk ?_)))))))
 refine y1 (ai pk (s1 (y4 (y2 (xc (fun h=>(gG k.inbox _ _ (by omega))) (ai rfl (ai rk ?_)))))))
 refine y1 (ai pk (s1 (rt (aU rfl (aA D.b ?_)))))
 rfl
theorem cq (k:aX) (n:bA) (hb:k.held.length≤100000∧k.marks.length≤100000∧k.inbox.length≤100000) (hn:n.text.length≤140737488355328):Sp 231 2 [tV 0 k.V,tV 1 n.V] [tV 0 (.tup [.agg [.d (.i ((lV k n).1).id),.d (.i ((lV k n).1).time),.d (.i ((lV k n).1).next),.d (.sl (aH ((lV k n).1).held)),.d (.sl (aM ((lV k n).1).marks)),.d (.sl (aH ((lV k n).1).inbox))],.c (.d (.b (lV k n).2))])]:=by
 refine sb Tryz.func231 rfl (sq (rT [2,3,4] (s4 (sq (sq (rT [2,3,4,9] (s2 (xp (qq k n hb hn) (ai rfl ?_)))))))))
 refine s1 (cd rfl (fun c9=> ?_) fun c9=> ?_)
 · refine sq (rT [4,5] (s3 (rt ?_)))
   have hr:lV k n=_:=aMx c9
   refine bI rfl rfl ?_
   rw[hr]<;>rfl
 refine sk (sq (sq (rT [2,3,4,15] (s5 (cd rfl (fun c15=> ?_) fun c15=> ?_)))))
 · refine sq (rT [2,4] (s3 (xp (mP k.held n hb.1) (ai rfl ?_))))
   refine s2 (sq (rD [4,5] (s9 (s2 (ai (by kernel_rfl) (rt ?_))))))
   have hr:lV k n=_:=aMy hb c9 c15
   refine bI rfl rfl ?_
   rw[hr]<;>rfl
 refine sk (sq (rT [2,3,4] (s3 (xp (mP k.inbox n hb.2.2) (ai rfl ?_)))))
 refine s2 (sq (rT [2,4] (s9 (xp (qX k.marks ⟨n.frm,n.num,n.til⟩ hb.2.1) (ai rfl ?_)))))
 refine s2 (sq (rD [4,5] (s9 (s2 (ai (by kernel_rfl) (rt ?_))))))
 have hr:lV k n=_:=aMz hb c9 c15
 refine bI rfl rfl ?_
 rw[hr]<;>rfl
theorem zb (k:aX) (a b:Int) (hb:k.held.length≤100000∧k.marks.length≤100000∧k.inbox.length≤100000):Sp 234 3 [tV 0 k.V,tI 1 a,tI 2 b] [tV 0 (.tup [.agg [.d (.i ((jm k a b).1).id),.d (.i ((jm k a b).1).time),.d (.i ((jm k a b).1).next),.d (.sl (aH ((jm k a b).1).held)),.d (.sl (aM ((jm k a b).1).marks)),.d (.sl (aH ((jm k a b).1).inbox))],.c (.d (.b (jm k a b).2))])]:=by
 refine sb Tryz.func234 rfl (sq (rT [1,2,3,6] (s3 (sq (rT [1,2,3,6,8] (s4 (xp (gG k.held a b (by omega)) (ai rfl ?_))))))))
 refine s1 (sq (sq (rT [1,2,3,6,8,16] (s2 (cd rfl (fun c16=> ?_) fun c16=> ?_)))))
 · have hr:jm k a b=(k,false):=aB (by simpa using c16)
   refine sq (rT [6,7] (s3 (rt ?_)))
   rw[hr]
   exact rq [] [] rfl qz
 have hp:0≤aW k.held a b:=by simpa using c16
 have hr0:=eT k.held a b
 obtain⟨i,hi⟩:=Int.eq_ofNat_of_zero_le hp
 rw[hi] at hr0
 have hw:wrap64 ((i:Int)+1)=((i+1:Nat):Int):=by rw[aF (by omega)];omega
 have hr:jm k a b=_:=aC hp
 have hg:=aV (l:=k.held) (i:=i) (by omega)
 have et:xK (((aH k.held).getD (aW k.held a b).toNat []).getD 3 (.i 0))=(k.held.getD i .zero).til:=by rw[hi,aVr,hg];rfl
 refine sk (sq (rT [1,2,3,6,8,9] (s3 (ai (by rw[hi,aVr,hg];exact⟨⟨by omega,by rw[aG];omega⟩,rfl⟩) (ai (by rw[hi,aVr,hg];exact⟨aVs rfl,rfl⟩) (s2 (sq (rD [1,2,3,6,9] (ai (by simp) (s3 (ai (by rw[hi];(try rw[hw]);exact⟨by rw[aG];exact⟨by first|(simp;done)|(simp;omega),by first|(simp;done)|(simp;omega),by first|(simp;done)|(simp;omega)⟩,eY _⟩) (ai (by rw[hi];(try rw[hw]);exact⟨by first|trivial|rfl|(simp;done),by first|rfl|(simp[aG];done),by first|exact jD _ _ _|(simp;done),by(try simp only[aVt,aVw,aVx,aV0,aV4,aG,hG,hO,hP,hU]);show _*48≤_;omega⟩) (s4 (ai (by rw[hi];(try rw[hw]);exact⟨by rw[aG];exact⟨by first|(simp;done)|(simp;omega),by first|(simp;done)|(simp;omega),by first|(simp;done)|(simp;omega)⟩,eY _⟩) (ai (by rw[hi];(try rw[hw]);exact⟨by first|trivial|rfl|(simp;done),by first|rfl|(simp[aG];done),by first|exact jD _ _ _|(simp;done),by(try simp only[aVt,aVw,aVx,aV0,aV4,aG,hG,hO,hP,hU]);show _*48≤_;omega⟩) (s2 (ai (by kernel_rfl) (sq (rT [3,6] (s7 (xp (qX k.marks ⟨a,b,(k.held.getD i .zero).til⟩ hb.2.1) (ai (by exact aMw rfl rfl et) ?_))))))))))))))))))))))
 refine s2 (sq (rT [6,7] (s3 (rt ?_))))
 rw[hr]
 refine rq [] [23] rfl ?_
 repeat' apply ai
 all_goals try exact qx
 all_goals(first|with_reducible rfl|(rw[hi,hw,sQ,wR,aVr];simp[aH,eG,List.map_take,List.map_drop];done)|(rw[hi];rfl)|rfl)
theorem zc (k:aX) (a b:Int) (hb:k.held.length≤100000∧k.marks.length≤100000∧k.inbox.length≤100000):Sp 235 3 [tV 0 k.V,tI 1 a,tI 2 b] [tV 0 (.tup [.agg [.d (.i ((jn k a b).1).id),.d (.i ((jn k a b).1).time),.d (.i ((jn k a b).1).next),.d (.sl (aH ((jn k a b).1).held)),.d (.sl (aM ((jn k a b).1).marks)),.d (.sl (aH ((jn k a b).1).inbox))],.c (.d (.b (jn k a b).2))])]:=by
 refine sb Tryz.func235 rfl (sq (rT [1,2,3,6] (s3 (sq (rT [3,6,8] (s4 (xp (gG k.inbox a b (by omega)) (ai rfl ?_))))))))
 refine s1 (sq (sq (rT [3,6,8,15] (s2 (cd rfl (fun c15=> ?_) fun c15=> ?_)))))
 · have hr:jn k a b=(k,false):=aB (by simpa using c15)
   refine sq (rT [6,7] (s3 (rt ?_)))
   rw[hr]
   exact rq [] [] rfl qz
 have hp:0≤aW k.inbox a b:=by simpa using c15
 have hr0:=eT k.inbox a b
 obtain⟨i,hi⟩:=Int.eq_ofNat_of_zero_le hp
 rw[hi] at hr0
 have hw:wrap64 ((i:Int)+1)=((i+1:Nat):Int):=by rw[aF (by omega)];omega
 have hr:jn k a b=_:=aC hp
 refine sk (sq (rD [3,6] (ai (by simp) (s3 (ai (by rw[hi];(try rw[hw]);exact⟨by rw[aG];exact⟨by first|(simp;done)|(simp;omega),by first|(simp;done)|(simp;omega),by first|(simp;done)|(simp;omega)⟩,eY _⟩) (ai (by rw[hi];(try rw[hw]);exact⟨by first|trivial|rfl|(simp;done),by first|rfl|(simp[aG];done),by first|exact jD _ _ _|(simp;done),by(try simp only[aVt,aVw,aVx,aV0,aV4,aG,hG,hO,hP,hU]);show _*48≤_;omega⟩) (s4 (ai (by rw[hi];(try rw[hw]);exact⟨by rw[aG];exact⟨by first|(simp;done)|(simp;omega),by first|(simp;done)|(simp;omega),by first|(simp;done)|(simp;omega)⟩,eY _⟩) (ai (by rw[hi];(try rw[hw]);exact⟨by first|trivial|rfl|(simp;done),by first|rfl|(simp[aG];done),by first|exact jD _ _ _|(simp;done),by(try simp only[aVt,aVw,aVx,aV0,aV4,aG,hG,hO,hP,hU]);show _*48≤_;omega⟩) (s2 (ai (by kernel_rfl) (sq (rT [6,7] (s3 (rt ?_)))))))))))))))
 rw[hr]
 refine rq [] [17] rfl ?_
 repeat' apply ai
 all_goals try exact qx
 all_goals(first|with_reducible rfl|(rw[hi,hw,sQ,wR,aVr];simp[aH,eG,List.map_take,List.map_drop];done)|rfl)
theorem aHl (m:Nat) (hm:1≤m∧m≤1000000):Sp 89 1 [tI 0 (-(m:Int))] [tD 0 (.s (45::jA m))]:=by
 refine sb Tryz.func89 rfl (sq (rT [0] (s1 (sq (sq (rT [0,4] (s2 (cd rfl (fun c4=> ?_) fun c4=> ?_))))))))
 · simp at c4
   omega
 refine sk (sq (sq (rT [0,6] (s2 (cd rfl (fun c6=> ?_) fun c6=> ?_)))))
 · refine sq (rT [2] (s2 (xp (uF m (by omega)) (ai (by exact aIt (show wrap64 (0 - -(m:Int))=m by rw[aF (by omega)];omega)) ?_))))
   refine ai (by have:=aIo m;show _≤9223372036854775807;simp only[aVw,aVx];omega) (s1 (rt (aU rfl (aA D.s ?_))))
   rfl
 simp at c6
 omega
theorem wh (n:Int) (h: -1≤n∧n≤9999):Sp 89 1 [tI 0 n] [tD 0 (.s (aEi n))]:=by
 unfold aEi
 by_cases h0:n<0
 · obtain rfl:n= -1:=by omega
   exact aHl 1 (by omega)
 rw[aB h0]
 exact kU n (by omega)
theorem zd (k:aX) (rec:List UInt8) (hb:k.held.length≤100000∧k.marks.length≤100000∧k.inbox.length≤100000) (hr:rec.length≤900000):Sp 194 2 [tV 0 k.V,tD 1 (.s rec)] [tV 0 (.tup [.agg [.d (.i ((fQ k rec).1).id),.d (.i ((fQ k rec).1).time),.d (.i ((fQ k rec).1).next),.d (.sl (aH ((fQ k rec).1).held)),.d (.sl (aM ((fQ k rec).1).marks)),.d (.sl (aH ((fQ k rec).1).inbox))],.c (.d (.b (fQ k rec).2))])]:=by
 have hl1:=uL rec
 have hl2:=dm rec
 have hl3:=zG (aO rec)
 have e0:xK (((bW (eO 3 (aO rec))).getD 0 []).getD 0 (.i 0))=dB (aO rec) 0:=ua (by omega)
 have e1:xK (((bW (eO 3 (aO rec))).getD 1 []).getD 0 (.i 0))=dB (aO rec) 1:=ua (by omega)
 have e2:xK (((bW (eO 3 (aO rec))).getD 2 []).getD 0 (.i 0))=dB (aO rec) 2:=ua (by omega)
 refine sb Tryz.func194 rfl (sq (rT [1,2,4] (s3 (sq (rT [2,4,6,7] (s1 (xp (fe rec (by omega)) (ai rfl ?_))))))))
 refine s5 (sq (sq (rT [2,4,6,7,25] (s1 (bk (sq (rT [2,4,6,7,25,26] (s2 (cd rfl (fun c26=> ?_) fun c26=> ?_)))))))))
 · refine sq (rT [2,4,8] (s1 (xp (uG (aO rec) (by omega)) (ai rfl ?_))))
   refine s1 (sq (sq (rT [2,4,8,33] (s4 (cd rfl (fun c33=> ?_) fun c33=> ?_)))))
   · refine sq (rT [4,5] (s3 (rt ?_)))
     have hr:fQ k rec=(k,false):=(aC c26).trans (aC (by simpa using c33))
     refine bI rfl rfl ?_
     rw[hr]<;>rfl
   refine sk (sq (rT [4,5] (s2 (xp (wg k (fU (aO rec)) hb) (ai rfl ?_)))))
   refine s2 (rt ?_)
   have hr:fQ k rec=_:=(aC c26).trans (aB (by simpa using c33))
   refine bI rfl rfl ?_
   rw[hr]<;>rfl
 refine sq (rT [2,4,6,7,25,38] (s2 (cd rfl (fun c38=> ?_) fun c38=> ?_)))
 · refine sq (rT [2,4,9,10] (s1 (xp (tE (aO rec) (by omega)) (ai rfl ?_))))
   refine s6 (sq (sq (rT [2,4,9,60] (s3 (y4 (y1 (ai pk (s1 (y4 (y1 (ai pk (cd rfl (fun c60=> ?_) fun c60=> ?_))))))))))))
   · refine sq (rT [4,5] (s3 (rt ?_)))
     have hr:fQ k rec=(k,false):=(aB (bn c26)).trans ((aC c38).trans (aC c60))
     refine bI rfl rfl ?_
     rw[hr]<;>rfl
   refine sk (sq (rT [2,4,9] (s5 (sq (rT [4,5] (s2 (xp (cq {k with next:=wrap64 (k.next+1)} (dK (aO rec)).1 hb (by omega)) (ai rfl ?_))))))))
   refine s4 (rt ?_)
   have hr:fQ k rec=_:=(aB (bn c26)).trans ((aC c38).trans (aB (bn c60)))
   refine bI rfl rfl ?_
   rw[hr]<;>rfl
 refine sq (rT [2,4,6,7,25,71] (s2 (cd rfl (fun c71=> ?_) fun c71=> ?_)))
 · refine sq (rT [2,4,11,12] (s1 (xp (tE (aO rec) (by omega)) (ai rfl ?_))))
   refine s6 (sq (sq (rT [2,4,11,86] (s3 (y4 (y1 (ai pk (cd rfl (fun c86=> ?_) fun c86=> ?_))))))))
   · refine sq (rT [4,5] (s3 (rt ?_)))
     have hr:fQ k rec=(k,false):=(aB (bn c26)).trans ((aB (bn c38)).trans ((aC c71).trans (aC c86)))
     refine bI rfl rfl ?_
     rw[hr]<;>rfl
   refine sk (sq (rT [4,5] (s2 (xp (cq k (dK (aO rec)).1 hb (by omega)) (ai rfl ?_)))))
   refine s4 (rt ?_)
   have hr:fQ k rec=_:=(aB (bn c26)).trans ((aB (bn c38)).trans ((aC c71).trans (aB (bn c86))))
   refine bI rfl rfl ?_
   rw[hr]<;>rfl
 refine sq (rT [2,4,6,7,25,93] (s2 (cd rfl (fun c93=> ?_) fun c93=> ?_)))
 · refine sq (rT [2,4,13] (s1 (xp (uG (aO rec) (by omega)) (ai rfl ?_))))
   refine s1 (sq (sq (rT [2,4,13,100] (s4 (cd rfl (fun c100=> ?_) fun c100=> ?_)))))
   · refine sq (rT [4,5] (s3 (rt ?_)))
     have hr:fQ k rec=(k,false):=(aB (bn c26)).trans ((aB (bn c38)).trans ((aB (bn c71)).trans ((aC c93).trans (aC (by simpa using c100)))))
     refine bI rfl rfl ?_
     rw[hr]<;>rfl
   refine sk (sq (rT [2,4] (s3 (sq (rT [4,5] (s3 (rt ?_)))))))
   have hr:fQ k rec=_:=(aB (bn c26)).trans ((aB (bn c38)).trans ((aB (bn c71)).trans ((aC c93).trans (aB (by simpa using c100)))))
   refine bI rfl rfl ?_
   rw[hr]<;>rfl
 refine SW.midW (fun q=>q=[tP 2 2,tP 4 4,tD 6 (.s (bC rec)),tD 7 (.s (aO rec)),tB 105 (bC rec==fY||bC rec==eW),oB 2 44 [.d (.i k.id),.d (.i k.time),.d (.i k.next),.d (.sl (aH k.held)),.d (.sl (aM k.marks)),.d (.sl (aH k.inbox))],oB 4 44 [.d (.i 0),.d (.i 0),.d (.i 0),.nil,.nil,.nil]]) ?_ ?_
 · refine sq (rT [2,4,6,7,25,105] (s2 (cd rfl (fun c105=> ?_) fun c105=> ?_)))
   · refine sk (wq [] [] (rfl) ?_)
     repeat' apply ai
     all_goals first|exact qx|(refine aA D.b ?_;simp_all[fY,eW])|exact qz
   refine rT [2,4,6,7,105] (s2 (wq [] [] (rfl) ?_))
   repeat' apply ai
   all_goals first|exact qx|(refine aA D.b ?_;simp_all[fY,eW])|exact qz
 rintro s rfl
 refine cd rfl (fun c105=> ?_) fun c105=> ?_
 · refine sq (rT [2,4,6,14,15] (s1 (xp (tE (aO rec) (by omega)) (ai rfl ?_))))
   refine s6 (sq (sq (rT [2,4,6,14,134] (s3 (y4 (y2 (xc (fun h=>(gG k.held _ _ (by omega))) (ai rfl (ai rk ?_)))))))))
   refine y1 (ai pk (s1 (y4 (y2 (xc (fun h=>(gG k.inbox _ _ (by omega))) (ai rfl (ai rk ?_)))))))
   refine y1 (ai pk (cd rfl (fun c134=> ?_) fun c134=> ?_))
   · refine sq (rT [4,5] (s3 (rt ?_)))
     have hr:fQ k rec=(k,false):=(aB (bn c26)).trans ((aB (bn c38)).trans ((aB (bn c71)).trans ((aB (bn c93)).trans ((aC c105).trans (aC c134)))))
     refine bI rfl rfl ?_
     rw[hr]<;>rfl
   refine sk (sq (sq (rT [2,4,14,137] (s2 (cd rfl (fun c137=> ?_) fun c137=> ?_)))))
   · refine rT [2,4] (s3 (xp (mP k.held (dK (aO rec)).1 hb.1) (ai rfl ?_)))
     refine s2 (sq (rT [4,5] (s3 (rt ?_))))
     first|have hr:fQ k rec=_:=(aB (bn c26)).trans ((aB (bn c38)).trans ((aB (bn c71)).trans ((aB (bn c93)).trans ((aC c105).trans ((aB (bn c134)).trans (aC c137))))))|have hr:fQ k rec=_:=(aB (bn c26)).trans ((aB (bn c38)).trans ((aB (bn c71)).trans ((aB (bn c93)).trans ((aC c105).trans ((aB (bn c134)).trans (aB (bn c137)))))))
     refine bI rfl rfl ?_
     rw[hr]<;>rfl
   refine rT [2,4] (s3 (xp (mP k.inbox (dK (aO rec)).1 hb.2.2) (ai rfl ?_)))
   refine s2 (sq (rT [4,5] (s3 (rt ?_))))
   first|have hr:fQ k rec=_:=(aB (bn c26)).trans ((aB (bn c38)).trans ((aB (bn c71)).trans ((aB (bn c93)).trans ((aC c105).trans ((aB (bn c134)).trans (aC c137))))))|have hr:fQ k rec=_:=(aB (bn c26)).trans ((aB (bn c38)).trans ((aB (bn c71)).trans ((aB (bn c93)).trans ((aC c105).trans ((aB (bn c134)).trans (aB (bn c137)))))))
   refine bI rfl rfl ?_
   rw[hr]<;>rfl
 refine sk (sq (rT [2,4,6,7,16,17] (s1 (xp (ff (aO rec) 3 (by omega) (by omega)) (ai rfl ?_)))))
 refine s5 (sq (sq (rD [2,4,6,16,175] (s3 (y2 (ai (fun h=>(by exact jg (l:=eO 3 (aO rec)) (by omega) (by rw[bE];omega))) (ai rk (ai (fun h=>(by have:=gZ (l:=eO 3 (aO rec)) (i:=0) (by rw[bE];omega);rw[show((0:Int)).toNat=((0:Nat):Int).toNat from rfl,this];exact⟨aVs rfl,rfl⟩)) (ai rk (xc (fun h=>wh (dB (aO rec) 0) (fS _ _)) (ai (by exact aIt e0) (ai rk ?_))))))))))))
 refine ai (fun h=>(by have q0:=lW (fS (aO rec) 0);have q1:=lW (fS (aO rec) 1);have q2:=lW (fS (aO rec) 2);show _≤9223372036854775807;simp only[aVt,aVw,aVx];omega)) (ai rk (y1 (ai (fun h=>(by exact jg (l:=eO 3 (aO rec)) (by omega) (by rw[bE];omega))) (ai rk (ai (fun h=>(by have:=gZ (l:=eO 3 (aO rec)) (i:=1) (by rw[bE];omega);rw[show((1:Int)).toNat=((1:Nat):Int).toNat from rfl,this];exact⟨aVs rfl,rfl⟩)) (ai rk (xc (fun h=>wh (dB (aO rec) 1) (fS _ _)) (ai (by exact aIt e1) (ai rk ?_)))))))))
 refine ai (fun h=>(by have q0:=lW (fS (aO rec) 0);have q1:=lW (fS (aO rec) 1);have q2:=lW (fS (aO rec) 2);show _≤9223372036854775807;simp only[aVt,aVw,aVx];omega)) (ai rk (ai (fun h=>(by have q0:=lW (fS (aO rec) 0);have q1:=lW (fS (aO rec) 1);have q2:=lW (fS (aO rec) 2);show _≤9223372036854775807;simp only[aVt,aVw,aVx];omega)) (ai rk (y1 (ai (fun h=>(by exact jg (l:=eO 3 (aO rec)) (by omega) (by rw[bE];omega))) (ai rk (ai (fun h=>(by have:=gZ (l:=eO 3 (aO rec)) (i:=2) (by rw[bE];omega);rw[show((2:Int)).toNat=((2:Nat):Int).toNat from rfl,this];exact⟨aVs rfl,rfl⟩)) (ai rk (xc (fun h=>wh (dB (aO rec) 2) (fS _ _)) (ai (by exact aIt e2) (ai rk ?_)))))))))))
 refine ai (fun h=>(by have q0:=lW (fS (aO rec) 0);have q1:=lW (fS (aO rec) 1);have q2:=lW (fS (aO rec) 2);show _≤9223372036854775807;simp only[aVt,aVw,aVx];omega)) (ai rk (y1 (ai pk (ai (by kernel_rfl) (cd rfl (fun c175=> ?_) fun c175=> ?_)))))
 · refine sq (rT [4,5] (s3 (rt ?_)))
   have hr:fQ k rec=(k,false):=(aB (bn c26)).trans ((aB (bn c38)).trans ((aB (bn c71)).trans ((aB (bn c93)).trans ((aB (bn c105)).trans (aC c175)))))
   refine bI rfl rfl ?_
   rw[hr]<;>rfl
 refine sk (sq (sq (rT [2,4,16,177] (s1 (bk (sq (rT [2,4,16,177,178] (s2 (cd rfl (fun c178=> ?_) fun c178=> ?_)))))))))
 · refine sq (rD [2,4,16,18] (s3 (ai (by exact jg (l:=eO 3 (aO rec)) (by omega) (by rw[bE];omega)) (ai (by have:=gZ (l:=eO 3 (aO rec)) (i:=0) (by rw[bE];omega);rw[show((0:Int)).toNat=((0:Nat):Int).toNat from rfl,this];exact⟨aVs rfl,rfl⟩) (s1 (ai (by exact jg (l:=eO 3 (aO rec)) (by omega) (by rw[bE];omega)) (ai (by have:=gZ (l:=eO 3 (aO rec)) (i:=1) (by rw[bE];omega);rw[show((1:Int)).toNat=((1:Nat):Int).toNat from rfl,this];exact⟨aVs rfl,rfl⟩) (xp (gG k.held (dB (aO rec) 0) (dB (aO rec) 1) (by omega)) (ai (by exact tz e0 e1) ?_)))))))))
   refine s1 (ai (by kernel_rfl) (sq (sq (rD [2,4,16,202] (s3 (y3 (ai (fun h=>(by have hp:0≤aW k.held (dB (aO rec) 0) (dB (aO rec) 1):=(by have h8:=h;simp[gb] at h8;omega);have hr:=eT k.held (dB (aO rec) 0) (dB (aO rec) 1);rw[aV (by omega)];exact⟨⟨hp,by rw[aG];omega⟩,rfl⟩)) (ai rk (y1 (ai (fun h=>(by have hp:0≤aW k.held (dB (aO rec) 0) (dB (aO rec) 1):=(by have h8:=h;simp[gb] at h8;omega);have hr:=eT k.held (dB (aO rec) 0) (dB (aO rec) 1);rw[aV (by omega)];exact⟨aVs rfl,rfl⟩)) (ai rk (y1 (ai (fun h=>(by exact jg (l:=eO 3 (aO rec)) (by omega) (by rw[bE];omega))) (ai rk (ai (fun h=>(by have:=gZ (l:=eO 3 (aO rec)) (i:=2) (by rw[bE];omega);rw[show((2:Int)).toNat=((2:Nat):Int).toNat from rfl,this];exact⟨aVs rfl,rfl⟩)) (ai rk (y1 (ai pk (ai (by kernel_rfl) (cd rfl (fun c202=> ?_) fun c202=> ?_))))))))))))))))))))
   · have hq:=du (y:=(k.held.getD (aW k.held (dB (aO rec) 0) (dB (aO rec) 1)).toNat .zero).til != (dB (aO rec) 2)) c202 (fun hp=>by have hr:=eT k.held (dB (aO rec) 0) (dB (aO rec) 1);rw[aV (by omega)];exact aA (fun z=>((k.held.getD (aW k.held (dB (aO rec) 0) (dB (aO rec) 1)).toNat .zero).til != z)) e2)
     refine sq (rT [4,5] (s3 (rt ?_)))
     have hr:fQ k rec=(k,false):=(aB (bn c26)).trans ((aB (bn c38)).trans ((aB (bn c71)).trans ((aB (bn c93)).trans ((aB (bn c105)).trans ((aB (bn c175)).trans ((aC c178).trans (aC hq)))))))
     refine bI rfl rfl ?_
     rw[hr]<;>rfl
   have hq:=du (y:=(k.held.getD (aW k.held (dB (aO rec) 0) (dB (aO rec) 1)).toNat .zero).til != (dB (aO rec) 2)) c202 (fun hp=>by have hr:=eT k.held (dB (aO rec) 0) (dB (aO rec) 1);rw[aV (by omega)];exact aA (fun z=>((k.held.getD (aW k.held (dB (aO rec) 0) (dB (aO rec) 1)).toNat .zero).til != z)) e2)
   refine sk (sq (rD [4,5] (s2 (ai (by exact jg (l:=eO 3 (aO rec)) (by omega) (by rw[bE];omega)) (ai (by have:=gZ (l:=eO 3 (aO rec)) (i:=0) (by rw[bE];omega);rw[show((0:Int)).toNat=((0:Nat):Int).toNat from rfl,this];exact⟨aVs rfl,rfl⟩) (s1 (ai (by exact jg (l:=eO 3 (aO rec)) (by omega) (by rw[bE];omega)) (ai (by have:=gZ (l:=eO 3 (aO rec)) (i:=1) (by rw[bE];omega);rw[show((1:Int)).toNat=((1:Nat):Int).toNat from rfl,this];exact⟨aVs rfl,rfl⟩) (xp (zb k (dB (aO rec) 0) (dB (aO rec) 1) hb) (ai (by exact tz e0 e1) ?_))))))))))
   refine s4 (ai (by kernel_rfl) (rt ?_))
   have hr:fQ k rec=_:=(aB (bn c26)).trans ((aB (bn c38)).trans ((aB (bn c71)).trans ((aB (bn c93)).trans ((aB (bn c105)).trans ((aB (bn c175)).trans ((aC c178).trans (aB (bn hq))))))))
   refine bI rfl rfl ?_
   rw[hr]<;>rfl
 refine sq (rT [2,4,16,177,214] (s2 (cd rfl (fun c214=> ?_) fun c214=> ?_)))
 · refine sq (rD [2,4,16,19] (s3 (ai (by exact jg (l:=eO 3 (aO rec)) (by omega) (by rw[bE];omega)) (ai (by have:=gZ (l:=eO 3 (aO rec)) (i:=0) (by rw[bE];omega);rw[show((0:Int)).toNat=((0:Nat):Int).toNat from rfl,this];exact⟨aVs rfl,rfl⟩) (s1 (ai (by exact jg (l:=eO 3 (aO rec)) (by omega) (by rw[bE];omega)) (ai (by have:=gZ (l:=eO 3 (aO rec)) (i:=1) (by rw[bE];omega);rw[show((1:Int)).toNat=((1:Nat):Int).toNat from rfl,this];exact⟨aVs rfl,rfl⟩) (xp (gG k.inbox (dB (aO rec) 0) (dB (aO rec) 1) (by omega)) (ai (by exact tz e0 e1) ?_)))))))))
   refine s1 (ai (by kernel_rfl) (sq (sq (rD [2,4,16,238] (s3 (y3 (ai (fun h=>(by have hp:0≤aW k.inbox (dB (aO rec) 0) (dB (aO rec) 1):=(by have h8:=h;simp[gb] at h8;omega);have hr:=eT k.inbox (dB (aO rec) 0) (dB (aO rec) 1);rw[aV (by omega)];exact⟨⟨hp,by rw[aG];omega⟩,rfl⟩)) (ai rk (y1 (ai (fun h=>(by have hp:0≤aW k.inbox (dB (aO rec) 0) (dB (aO rec) 1):=(by have h8:=h;simp[gb] at h8;omega);have hr:=eT k.inbox (dB (aO rec) 0) (dB (aO rec) 1);rw[aV (by omega)];exact⟨aVs rfl,rfl⟩)) (ai rk (y1 (ai (fun h=>(by exact jg (l:=eO 3 (aO rec)) (by omega) (by rw[bE];omega))) (ai rk (ai (fun h=>(by have:=gZ (l:=eO 3 (aO rec)) (i:=2) (by rw[bE];omega);rw[show((2:Int)).toNat=((2:Nat):Int).toNat from rfl,this];exact⟨aVs rfl,rfl⟩)) (ai rk (y1 (ai pk (ai (by kernel_rfl) (cd rfl (fun c238=> ?_) fun c238=> ?_))))))))))))))))))))
   · have hq:=du (y:=(k.inbox.getD (aW k.inbox (dB (aO rec) 0) (dB (aO rec) 1)).toNat .zero).til != (dB (aO rec) 2)) c238 (fun hp=>by have hr:=eT k.inbox (dB (aO rec) 0) (dB (aO rec) 1);rw[aV (by omega)];exact aA (fun z=>((k.inbox.getD (aW k.inbox (dB (aO rec) 0) (dB (aO rec) 1)).toNat .zero).til != z)) e2)
     refine sq (rT [4,5] (s3 (rt ?_)))
     have hr:fQ k rec=(k,false):=(aB (bn c26)).trans ((aB (bn c38)).trans ((aB (bn c71)).trans ((aB (bn c93)).trans ((aB (bn c105)).trans ((aB (bn c175)).trans ((aB (bn c178)).trans ((aC c214).trans (aC hq))))))))
     refine bI rfl rfl ?_
     rw[hr]<;>rfl
   have hq:=du (y:=(k.inbox.getD (aW k.inbox (dB (aO rec) 0) (dB (aO rec) 1)).toNat .zero).til != (dB (aO rec) 2)) c238 (fun hp=>by have hr:=eT k.inbox (dB (aO rec) 0) (dB (aO rec) 1);rw[aV (by omega)];exact aA (fun z=>((k.inbox.getD (aW k.inbox (dB (aO rec) 0) (dB (aO rec) 1)).toNat .zero).til != z)) e2)
   refine sk (sq (rD [4,5] (s2 (ai (by exact jg (l:=eO 3 (aO rec)) (by omega) (by rw[bE];omega)) (ai (by have:=gZ (l:=eO 3 (aO rec)) (i:=0) (by rw[bE];omega);rw[show((0:Int)).toNat=((0:Nat):Int).toNat from rfl,this];exact⟨aVs rfl,rfl⟩) (s1 (ai (by exact jg (l:=eO 3 (aO rec)) (by omega) (by rw[bE];omega)) (ai (by have:=gZ (l:=eO 3 (aO rec)) (i:=1) (by rw[bE];omega);rw[show((1:Int)).toNat=((1:Nat):Int).toNat from rfl,this];exact⟨aVs rfl,rfl⟩) (xp (zc k (dB (aO rec) 0) (dB (aO rec) 1) hb) (ai (by exact tz e0 e1) ?_))))))))))
   refine s4 (ai (by kernel_rfl) (rt ?_))
   have hr:fQ k rec=_:=(aB (bn c26)).trans ((aB (bn c38)).trans ((aB (bn c71)).trans ((aB (bn c93)).trans ((aB (bn c105)).trans ((aB (bn c175)).trans ((aB (bn c178)).trans ((aC c214).trans (aB (bn hq)))))))))
   refine bI rfl rfl ?_
   rw[hr]<;>rfl
 refine sq (rT [2,4,16,250] (s2 (cd rfl (fun c250=> ?_) fun c250=> ?_)))
 · refine sq (sq (rD [2,4,16,261] (s3 (ai (by exact jg (l:=eO 3 (aO rec)) (by omega) (by rw[bE];omega)) (ai (by have:=gZ (l:=eO 3 (aO rec)) (i:=0) (by rw[bE];omega);rw[show((0:Int)).toNat=((0:Nat):Int).toNat from rfl,this];exact⟨aVs rfl,rfl⟩) (s1 (ai (by exact jg (l:=eO 3 (aO rec)) (by omega) (by rw[bE];omega)) (ai (by have:=gZ (l:=eO 3 (aO rec)) (i:=1) (by rw[bE];omega);rw[show((1:Int)).toNat=((1:Nat):Int).toNat from rfl,this];exact⟨aVs rfl,rfl⟩) (xp (nA k.marks (dB (aO rec) 0) (dB (aO rec) 1) (by omega)) (ai (by exact tz e0 e1) ?_))))))))))
   refine s1 (ai (by kernel_rfl) (cd rfl (fun c261=> ?_) fun c261=> ?_))
   · refine sq (rT [4,5] (s3 (rt ?_)))
     have hr:fQ k rec=(k,false):=(aB (bn c26)).trans ((aB (bn c38)).trans ((aB (bn c71)).trans ((aB (bn c93)).trans ((aB (bn c105)).trans ((aB (bn c175)).trans ((aB (bn c178)).trans ((aB (bn c214)).trans ((aC c250).trans (aC (of_decide_eq_true c261))))))))))
     refine bI rfl rfl ?_
     rw[hr]<;>rfl
   refine sk (sq (rD [2,4] (s3 (ai (by exact jg (l:=eO 3 (aO rec)) (by omega) (by rw[bE];omega)) (ai (by have:=gZ (l:=eO 3 (aO rec)) (i:=0) (by rw[bE];omega);rw[show((0:Int)).toNat=((0:Nat):Int).toNat from rfl,this];exact⟨aVs rfl,rfl⟩) (s1 (ai (by exact jg (l:=eO 3 (aO rec)) (by omega) (by rw[bE];omega)) (ai (by have:=gZ (l:=eO 3 (aO rec)) (i:=1) (by rw[bE];omega);rw[show((1:Int)).toNat=((1:Nat):Int).toNat from rfl,this];exact⟨aVs rfl,rfl⟩) (s1 (ai (by exact jg (l:=eO 3 (aO rec)) (by omega) (by rw[bE];omega)) (ai (by have:=gZ (l:=eO 3 (aO rec)) (i:=2) (by rw[bE];omega);rw[show((2:Int)).toNat=((2:Nat):Int).toNat from rfl,this];exact⟨aVs rfl,rfl⟩) (s1 (xp (qX k.marks ⟨(dB (aO rec) 0),(dB (aO rec) 1),(dB (aO rec) 2)⟩ hb.2.1) (ai (by exact aMw e0 e1 e2) ?_))))))))))))))
   refine s2 (ai (by kernel_rfl) (sq (rT [4,5] (s3 (rt ?_)))))
   have hr:fQ k rec=_:=(aB (bn c26)).trans ((aB (bn c38)).trans ((aB (bn c71)).trans ((aB (bn c93)).trans ((aB (bn c105)).trans ((aB (bn c175)).trans ((aB (bn c178)).trans ((aB (bn c214)).trans ((aC c250).trans (aB (of_decide_eq_false c261))))))))))
   refine bI rfl rfl ?_
   rw[hr]<;>rfl
 refine sk (sq (rT [4,5] (s3 (rt ?_))))
 have hr:fQ k rec=(k,false):=(aB (bn c26)).trans ((aB (bn c38)).trans ((aB (bn c71)).trans ((aB (bn c93)).trans ((aB (bn c105)).trans ((aB (bn c175)).trans ((aB (bn c178)).trans ((aB (bn c214)).trans (aB (bn c250)))))))))
 refine bI rfl rfl ?_
 rw[hr]<;>rfl
theorem nj (id:Int):Sp 184 1 [tI 0 id] [tV 0 ((bY id).V)]:=by
 refine sb Tryz.func184 rfl (sq (rT [0,2] (s1 (sq (sq (rT [0,2,5] (s1 (xp (dT _) (ai rfl ?_)))))))))
 refine s1 (cd rfl (fun c5=> ?_) fun c5=> ?_)
 · have hr:bY id= .zero:=aB (by simpa using c5)
   refine sq (rT [2] (s2 (rt ?_)))
   rw[hr]
   exact rq [] [] rfl qz
 have hr:bY id=⟨id,0,1,[],[],[]⟩:=aC (by simpa using c5)
 refine sk (sq (rT [2] (s3 (rt ?_))))
 rw[hr]
 exact rq [] [] rfl qz
theorem fh (k:aX) (rec:List UInt8) (hk:KB k) (hr:rec.length≤900000):Sp 149 2 [tV 0 k.V,tD 1 (.s rec)] [tV 0 (.tup [.agg [.d (.i ((oS k rec).1).id),.d (.i ((oS k rec).1).time),.d (.i ((oS k rec).1).next),.d (.sl (aH ((oS k rec).1).held)),.d (.sl (aM ((oS k rec).1).marks)),.d (.sl (aH ((oS k rec).1).inbox))],.c (.d (.b (oS k rec).2))])]:=by
 refine sb Tryz.func149 rfl (sq (rT [1,2,4] (s3 (sq (sq (rT [1,2,4,10] (s1 (xp (wW k hk.1 hk.2.1 hk.2.2) (ai rfl ?_)))))))))
 refine s1 (cd rfl (fun c10=> ?_) fun c10=> ?_)
 · refine sq (rT [4,5] (s3 (rt ?_)))
   have hr:oS k rec=(.zero,false):=aB (by simpa using c10)
   rw[hr]
   exact rq [] [] rfl qz
 have hok:cP k=true:=by simpa using c10
 refine sk (sq (rT [2,4,6,7] (s1 (xp (vM k (by have:=hk.1;omega)) (ai rfl ?_)))))
 refine s1 (xp (zd k rec hk.1 hr) (ai rfl ?_))
 refine s6 (sq (sq (rT [2,4,6,25] (s3 (y1 (xc (fun h=>wW (fQ k rec).1 (dw (eR hok) (by omega)).big.1 (dw (eR hok) (by omega)).2.1 (dw (eR hok) (by omega)).2.2) (ai rfl (ai rk ?_))))))))
 refine y1 (ai pk (cd rfl (fun c25=> ?_) fun c25=> ?_))
 · refine sq (rT [4,5] (s1 (xp (vM k (by have:=hk.1;omega)) (ai rfl ?_))))
   refine s2 (rt ?_)
   have hr:oS k rec=(k,false):=(aC hok).trans (aB (by intro h;rw[aVu] at h;rw[h.1,h.2] at c25;cases c25))
   rw[hr]
   exact rq [] [] rfl qz
 refine sk (sq (rT [4,5] (s1 (xp (vM (fQ k rec).1 (by have:=(dw (eR hok) (show rec.length≤1000000 by omega)).1;omega)) (ai rfl ?_)))))
 refine s2 (rt ?_)
 have hr:oS k rec=((fQ k rec).1,true):=(aC hok).trans (aC (by simpa using c25))
 rw[hr]
 exact rq [] [] rfl qz
theorem aNf (k:aX) (rec:List UInt8) (hk:KB k) (hr:rec.length≤900000):Ab.Spec Tryz.prog 149 2 [(.t 0,.v (k.V)),(.t 1,.v (Dv (.s rec)))] [(.t 0,.v (.tup [.agg [.d (.i ((bX k rec).1).id),.d (.i ((bX k rec).1).time),.d (.i ((bX k rec).1).next),.d (.sl (aH ((bX k rec).1).held)),.d (.sl (aM ((bX k rec).1).marks)),.d (.sl (aH ((bX k rec).1).inbox))],.c (.d (.b (bX k rec).2))]))]:=mw k rec▸fh k rec hk hr
theorem wZ (id:Int) (l:List (List UInt8)) (hl:l.length≤900000) (hx: ∀x∈l,x.length≤900000):Sp 133 2 [tI 0 id,tD 1 (.sl (aY l))] [tV 0 (.tup [.agg [.d (.i ((cQ id l).1).id),.d (.i ((cQ id l).1).time),.d (.i ((cQ id l).1).next),.d (.sl (aH ((cQ id l).1).held)),.d (.sl (aM ((cQ id l).1).marks)),.d (.sl (aH ((cQ id l).1).inbox))],.c (.d (.b (cQ id l).2))])]:=by
 refine sb Tryz.func133 rfl (sq (rT [0,1,4] (s2 (sq (rT [0,1,4,6] (s1 (xp (nj id) (ai rfl ?_))))))))
 refine s2 (sq (sq (rT [1,4,6,14] (s1 (xp (dT _) (ai rfl ?_))))))
 refine s1 (cd rfl (fun c14=> ?_) fun c14=> ?_)
 · refine sq (rT [4,5] (s3 (rt ?_)))
   have hr:cQ id l=(.zero,false):=aB (by simpa using c14)
   have hz:bY id= .zero:=aB (by simpa using c14)
   rw[hr,hz]
   exact rq [] [] rfl qz
 have hnode:dY id=true:=by simpa using c14
 refine sk (sq (sq (rT [1,4,6,7] (s1 (bk (SW.loopW (n:=l.length) (fun m s=> ∃(i:Nat) (q:aX),m=l.length - i∧i≤l.length∧K6 q∧fR (bY id) l=fR q (l.drop i)∧s=[tD 1 (.sl (aY l)),tP 4 4,tP 6 6,tI 7 (i:Nat),oB 4 44 [.d (.i 0),.d (.i 0),.d (.i 0),.nil,.nil,.nil],oB 6 44 [.d (.i (q).id),.d (.i (q).time),.d (.i (q).next),.d (.sl (aH (q).held)),.d (.sl (aM (q).marks)),.d (.sl (aH (q).inbox))]]) ?_ ?_))))))
 · refine wq (σ':=[tD 1 (.sl (aY l)),tP 4 4,tP 6 6,tI 7 (0:Nat),oB 4 44 [.d (.i 0),.d (.i 0),.d (.i 0),.nil,.nil,.nil],oB 6 44 [.d (.i (bY id).id),.d (.i (bY id).time),.d (.i (bY id).next),.d (.sl (aH (bY id).held)),.d (.sl (aM (bY id).marks)),.d (.sl (aH (bY id).inbox))]]) [] [] (⟨0,bY id,rfl,aVv _,zI id,rfl,rfl⟩) ?_
   repeat' apply ai
   all_goals first|exact qx|rfl|(rw[aJ];done)|exact qz
 rintro n s ⟨i,q,rfl,hi,hq,hgo,rfl⟩
 refine sq (sq (rT [1,4,6,7,19] (s4 (cd rfl (fun c19=> ?_) fun c19=> ?_))))
 · have hi2:i<l.length:=by simpa[aJ] using c19
   have hg:=eN (l:=l) hi2
   have hmem:l.getD i []∈l:=cM hi2
   have es:yk (((aY l).getD (i:Int).toNat []).getD 0 (.i 0))=l.getD i []:=by rw[aVr,hg];rfl
   refine sk (sq (bk (sq (rD [1,4,6,7,8,9] (s3 (ai (by rw[aVr,hg];exact⟨⟨by omega,by rw[aJ];omega⟩,rfl⟩) (ai (by rw[aVr,hg];exact⟨aVs rfl,rfl⟩) (xp (aNf q (l.getD i []) hq.seven.big (hx _ hmem)) (ai (by exact aVm es) ?_)))))))))
   refine s6 (ai (by kernel_rfl) (sq (sq (rT [1,4,6,7,8,32] (s2 (cd rfl (fun c32=> ?_) fun c32=> ?_))))))
   · have hno: (bX q (l.getD i [])).2=false:=by simpa using c32
     rw[List.drop_eq_getElem_cons hi2,fR,show l[i]=l.getD i [] by rw[aVy,aV1 hi2];rfl,hno] at hgo
     refine sq (rT [4,5] (s3 (rt ?_)))
     have hr:cQ id l=(.zero,false):=(aC hnode).trans (hgo.trans (aB (by simp)))
     rw[hr]
     exact rq [] [] rfl qz
   have hno: (bX q (l.getD i [])).2=true:=by simpa using c32
   rw[List.drop_eq_getElem_cons hi2,fR,show l[i]=l.getD i [] by rw[aVy,aV1 hi2];rfl,aC hno] at hgo
   refine sk (rT [1,4,6,7] (s2 (rT [1,4,6,7] (s3 (wq [] [] (⟨l.length - (i+1),by omega,i+1,(bX q (l.getD i [])).1,rfl,by omega,mv,hgo,rfl⟩) ?_)))))
   repeat' apply ai
   all_goals first|exact qx|exact aA D.i (aF (by omega))|exact qz
 have hi3:i=l.length:=by simp[aJ] at c19;omega
 subst hi3
 refine xt (sq (rT [4,5] (s3 (rt ?_))))
 have hr:cQ id l=(q,true):=(aC hnode).trans (hgo.trans (by rw[List.drop_length];rfl))
 rw[hr]
 exact rq [] [] rfl qz
theorem mQ (s:List UInt8) (hl:s.length≤1000000):Sp 49 1 [tD 0 (.s s)] [tV 0 (.tup [.c (.d (.sl (aY (bF s).1))),.c (.d (.i ((bF s).2:Nat)))])]:=by
 refine Spec.told (rl:=[]) (bor:=[0]) (ng s hl) ?_ rfl rfl
 refine qs ?_
 repeat' first|exact qx|apply ai
 all_goals first|rfl|exact aJ _
theorem kE (s:List UInt8) (hl:s.length≤1000000):Sp 132 1 [tD 0 (.s s)] [tV 0 (.tup [.c (.d (.sl (aY (bF s).1))),.c (.d (.i ((bF s).2:Nat)))])]:=by
 refine Spec.told (rl:=[]) (bor:=[0]) (nf s hl) ?_ rfl rfl
 refine qs ?_
 repeat' first|exact qx|apply ai
 all_goals first|rfl|exact aJ _
theorem qY (l:List UInt8) (f:Int) (hl:l.length≤140737488355328):Sp 118 1 [tV 0 (.e (.agg [.d (.s l),.d (.i f)]))] [tB 0 (dN l f)]:=by
 refine sb Tryz.func118 rfl (sq (rT [1] (s2 (sq (sq (rT [1,19] (s5 (y4 (y1 (xc (fun h=>(dM _ _ _)) (ai rfl (ai rk ?_))))))))))))
 refine y1 (ai pk (cd rfl (fun c19=> ?_) fun c19=> ?_))
 · refine sq (rT [2] (s1 (rt (aU rfl (aA D.b ?_)))))
   exact(uk c19).symm
 obtain⟨⟨h1,h2,h3⟩,hs⟩:=pg c19
 refine sk (sq (rT [1,4] (s2 (xp (mQ l (by omega)) (ai rfl ?_)))))
 refine s5 (sq (rT [1,4,6] (s4 (ai (by exact⟨by simp,by simpa using h2,by simpa using h3⟩) (xp (mQ (l.take f.toNat) (by rw[aV0];omega)) (ai rfl ?_))))))
 refine s5 (sq (rT [2] (s6 (y4 (ai pk (s1 (rt (aU rfl (aA D.b ?_)))))))))
 exact hs.symm
theorem qZ (l:List UInt8) (f:Int) (hl:l.length≤140737488355328):Sp 131 1 [tV 0 (.e (.agg [.d (.s l),.d (.i f)]))] [tB 0 (dN l f)]:=by
 refine sb Tryz.func131 rfl (sq (rT [1] (s2 (sq (sq (rT [1,19] (s5 (y4 (y1 (xc (fun h=>(dU _ _ _)) (ai rfl (ai rk ?_))))))))))))
 refine y1 (ai pk (cd rfl (fun c19=> ?_) fun c19=> ?_))
 · refine sq (rT [2] (s1 (rt (aU rfl (aA D.b ?_)))))
   exact(uk c19).symm
 obtain⟨⟨h1,h2,h3⟩,hs⟩:=pg c19
 refine sk (sq (rT [1,4] (s2 (xp (kE l (by omega)) (ai rfl ?_)))))
 refine s5 (sq (rT [1,4,6] (s4 (ai (by exact⟨by simp,by simpa using h2,by simpa using h3⟩) (xp (kE (l.take f.toNat) (by rw[aV0];omega)) (ai rfl ?_))))))
 refine s5 (sq (rT [2] (s6 (y4 (ai pk (s1 (rt (aU rfl (aA D.b ?_)))))))))
 exact hs.symm
theorem nB (id:Int) (s:List UInt8) (hl:s.length≤900000):Sp 77 2 [tI 0 id,tD 1 (.s s)] [tV 0 (.tup [.agg [.d (.i ((cQ id (bF s).1).1).id),.d (.i ((cQ id (bF s).1).1).time),.d (.i ((cQ id (bF s).1).1).next),.d (.sl (aH ((cQ id (bF s).1).1).held)),.d (.sl (aM ((cQ id (bF s).1).1).marks)),.d (.sl (aH ((cQ id (bF s).1).1).inbox))],.c (.d (.b (cQ id (bF s).1).2))])]:=by
 refine sb Tryz.func77 rfl (sq (rT [0,1,4] (s2 (sq (rT [0,4,6] (s1 (xp (mQ s (by omega)) (ai rfl ?_))))))))
 refine s5 (sq (rT [4,5] (s2 (xp (za id (bF s).1 (kI s hl).1 (kI s hl).2) (ai rfl ?_)))))
 exact s4 (rt (bI rfl rfl rfl))
theorem xA (k:aT) (hl:k.log.length≤900000):Sp 76 1 [tV 0 k.V] [tV 0 (.tup [.agg [.d (.i ((bM k).1).id),.d (.i ((bM k).1).time),.d (.i ((bM k).1).next),.d (.sl (aH ((bM k).1).held)),.d (.sl (aM ((bM k).1).marks)),.d (.sl (aH ((bM k).1).inbox))],.c (.d (.b (bM k).2))])]:=by
 refine sb Tryz.func76 rfl (sq (rT [1,2] (s3 (sq (rT [1,2,4] (s3 (xp (kE k.log (by omega)) (ai rfl ?_))))))))
 refine s5 (sq (rT [2,3] (s3 (xp (wZ k.id (bF k.log).1 (kI k.log hl).1 (kI k.log hl).2) (ai rfl ?_)))))
 exact s4 (rt (bI rfl rfl rfl))
theorem wF (b n:Int):Sp 156 2 [tI 0 b,tI 1 n] [tB 0 (oC b n)]:=by
 refine sb Tryz.func156 rfl (sq (rT [0,1] (s1 (sq (rT [4] (s1 (xp (dU _ _ _) (ai rfl ?_))))))))
 refine s1 (y1 (xc (fun h=>(dU _ _ _)) (ai rfl (ai rk ?_))))
 refine ai pk (s1 (rt (aU rfl ?_)))
 rfl
theorem tF (n:Int) (hn:0≤n∧n≤140737488355328):Sp 157 1 [tI 0 n] [tI 0 ((n+3) / 4)]:=by
 refine sb Tryz.func157 rfl (sq (rT [0] (s1 (sq (rT [2] (s3 (ai (by decide) (s1 (rt (aU rfl (aA D.i ?_)))))))))))
 rw[aF (n:=n+4) (by omega),aF (n:=n+4 - 1) (by omega),Int.tdiv_eq_ediv_of_nonneg (by omega),aF (by omega)]
 omega
theorem cr (b:Int) (m:cU):Sp 185 2 [tI 0 b,tV 1 m.V] [tB 0 (oC b m.num&&decide ((m.data.length:Int)=4))]:=by
 refine sb Tryz.func185 rfl (sq (rT [0,3] (s2 (sq (rT [4] (s3 (xp (wF _ _) (ai rfl ?_))))))))
 refine s1 (y4 (ai pk (s1 (rt (aU rfl (aA D.b ?_))))))
 show(_&&_)=_
 congr 1
theorem ze (h:bB):Sp 119 1 [tV 0 h.V] [tB 0 (lH h)]:=by
 refine sb Tryz.func119 rfl (sq (rT [1] (s2 (sq (sq (rT [1,40] (s2 (xp (eB _) (ai rfl ?_)))))))))
 refine s2 (y2 (xc (fun h=>(eB _)) (ai rfl (ai rk ?_))))
 refine y1 (ai pk (s1 (y2 (xc (fun h=>(dM _ _ _)) (ai rfl (ai rk ?_))))))
 refine y1 (ai pk (s1 (y2 (xc (fun h=>(dM _ _ _)) (ai rfl (ai rk ?_))))))
 refine y1 (ai pk (s1 (y2 (xc (fun h=>(dM _ _ _)) (ai rfl (ai rk ?_))))))
 refine y1 (ai pk (s1 (y4 (ai pk (cd rfl (fun c40=> ?_) fun c40=> ?_)))))
 · have hh:=jz c40
   refine sq (rT [2] (s1 (rt (aU rfl (aA D.b ?_)))))
   rw[lH,hh];rfl
 have hh:=jz c40
 obtain⟨p1,p2,p3,p4,p5,p6⟩:=kR hh
 refine sk (sq (sq (rT [1,42,43,44] (s4 (bk (SW.loopW (n:=h.got.length) (fun m q=> ∃i:Nat,m=h.got.length - i∧i≤h.got.length∧(∀k,k<i→nP h.got k=true)∧q=[tP 1 1,tD 42 (.sl (aR h.got)),tI 43 (h.got.length:Nat),tI 44 (i:Nat),oB 1 138 [.d (.i (h).frm),.d (.i (h).num),.d (.i (h).to),.d (.i (h).til),.d (.i (h).size),.d (.sl (aR (h).got))]]) ?_ ?_))))))
 · refine wq (σ':=[tP 1 1,tD 42 (.sl (aR h.got)),tI 43 (h.got.length:Nat),tI 44 (0:Nat),oB 1 138 [.d (.i (h).frm),.d (.i (h).num),.d (.i (h).to),.d (.i (h).til),.d (.i (h).size),.d (.sl (aR (h).got))]]) [] [] (⟨0,rfl,aVv _,fun k h=>absurd h (by omega),rfl⟩) ?_
   repeat' apply ai
   all_goals first|exact qx|rfl|(rw[aK];done)|exact qz
 rintro n s ⟨i,rfl,hi,hk,rfl⟩
 refine sq (rT [1,42,43,44,45] (s1 (sq (cd rfl (fun c45=> ?_) fun c45=> ?_))))
 · have hi2:i<h.got.length:=by simpa using c45
   have hg:=eP (l:=h.got) hi2
   refine sk (sq (bk (sq (rT [1,3,4,42,43,44] (s1 (ai (by rw[aVr,hg];exact⟨⟨by omega,by rw[aK];omega⟩,rfl⟩) (ai (by rw[aVr,hg];exact⟨aVs rfl,rfl⟩) (s3 (sq (sq (wa [tP 1 1,tI 3 (i:Nat),tP 4 4,tD 42 (.sl (aR h.got)),tI 43 (h.got.length:Nat),tI 44 (i:Nat),oB 1 138 [.d (.i (h).frm),.d (.i (h).num),.d (.i (h).to),.d (.i (h).til),.d (.i (h).size),.d (.sl (aR (h).got))],oB 4 86 [.d (.i (h.got.getD i .zero).num),.d (.s (h.got.getD i .zero).data)]] [] [] ?_ ?_)))))))))))
   · repeat' apply ai
     all_goals first|exact qx|(rw[aVr,hg];rfl)|exact qz
   refine rT [1,3,4,42,43,44,58] (s2 (xp (dM _ _ _) (ai rfl ?_)))
   refine s2 (y4 (ai pk (cd rfl (fun c58=> ?_) fun c58=> ?_)))
   · have hm:vZ (h.got.getD i .zero)=false:=by
      unfold vZ
      rw[← Bool.not_eq_true',Bool.not_and]
      exact mixC c58
     have hs:=pd hm
     refine sq (rT [2] (s1 (rt (aU rfl (aA D.b ?_)))))
     rw[lH,hh,Bool.not_false,Bool.true_and,fB hi2 hs]
   have hm:vZ (h.got.getD i .zero)=true:=aVn c58
   refine sk (sq (rT [1,4,42,43,44,62,63,64] (s3 (ai (by exact⟨by rw[aK];exact⟨by first|(simp;done)|(simp;omega),by first|(simp;done)|(simp;omega),by first|(simp;done)|(simp;omega)⟩,qO _⟩) (s2 (bk (SW.loopW (n:=i) (fun m q=> ∃j:Nat,m=i - j∧j≤i∧(∀k,k<j→((h.got.getD k .zero).num==(h.got.getD i .zero).num)=false)∧q=[tP 1 1,tP 4 4,tD 42 (.sl (aR h.got)),tI 43 (h.got.length:Nat),tI 44 (i:Nat),tD 62 (.sl ((aR h.got).take i)),tI 63 (i:Nat),tI 64 (j:Nat),oB 1 138 [.d (.i (h).frm),.d (.i (h).num),.d (.i (h).to),.d (.i (h).til),.d (.i (h).size),.d (.sl (aR (h).got))],oB 4 86 [.d (.i (h.got.getD i .zero).num),.d (.s (h.got.getD i .zero).data)]]) ?_ ?_)))))))
   · refine wq (σ':=[tP 1 1,tP 4 4,tD 42 (.sl (aR h.got)),tI 43 (h.got.length:Nat),tI 44 (i:Nat),tD 62 (.sl ((aR h.got).take i)),tI 63 (i:Nat),tI 64 (0:Nat),oB 1 138 [.d (.i (h).frm),.d (.i (h).num),.d (.i (h).to),.d (.i (h).til),.d (.i (h).size),.d (.sl (aR (h).got))],oB 4 86 [.d (.i (h.got.getD i .zero).num),.d (.s (h.got.getD i .zero).data)]]) [] [] (⟨0,rfl,aVv _,fun k h=>absurd h (by omega),rfl⟩) ?_
     repeat' apply ai
     all_goals first|exact qx|rfl|(rw[wR];done)|(rw[wR,aV0,aK];refine aA D.i ?_;omega)|exact qz
   rintro n s ⟨j,rfl,hj,hkj,rfl⟩
   refine sq (rT [1,4,42,43,44,62,63,64,65] (s1 (sq (cd rfl (fun c65=> ?_) fun c65=> ?_))))
   · have hj2:j<i:=by simpa using c65
     have hg2: ((aR h.got).take i).getD j []=(h.got.getD j .zero).row:=by rw[xQ hj2,eP (by omega)]
     refine sk (sq (bk (sq (rT [1,4,6,42,43,44,62,63,64] (ai (by rw[aVr,hg2];exact⟨⟨by omega,by rw[aV0,aK];omega⟩,rfl⟩) (ai (by rw[aVr,hg2];exact⟨aVs rfl,rfl⟩) (s2 (sq (rT [1,4,42,43,44,62,63,64,72] (s5 (cd rfl (fun c72=> ?_) fun c72=> ?_)))))))))))
     · have hq: ((h.got.getD j .zero).num==(h.got.getD i .zero).num)=true:=by
        have h9:=c72
        rw[aVr,hg2] at h9
        exact h9
       have hs:=uj hj2 hq
       refine sq (rT [2] (s1 (rt (aU rfl (aA D.b ?_)))))
       rw[lH,hh,Bool.not_false,Bool.true_and,fB hi2 hs]
     refine sk (rT [1,4,42,43,44,62,63,64] (s2 ?_))
     have hq: ((h.got.getD j .zero).num==(h.got.getD i .zero).num)=false:=by
      have h9:=c72
      rw[aVr,hg2] at h9
      exact h9
     refine wq [] [] (⟨i - (j+1),by omega,j+1,rfl,by omega,fun k h=>by by_cases e:k=j;exact e▸hq;exact hkj k (by omega),rfl⟩) ?_
     repeat' apply ai
     all_goals first|exact qx|exact aA D.i (aF (by omega))|exact qz
   have hj3:j=i:=by simp at c65;omega
   subst hj3
   have hs:=pc hm hkj
   refine xt (rT [1,42,43,44] (s2 (wq [] [] (⟨h.got.length - (j+1),by omega,j+1,rfl,by omega,fun k h=>by by_cases e:k=j;exact e▸hs;exact hk k (by omega),rfl⟩) ?_)))
   repeat' apply ai
   all_goals first|exact qx|exact aA D.i (aF (by omega))|exact qz
 have hi3:i=h.got.length:=by simp at c45;omega
 refine xt (sq (rT [2] (s1 (rt (aU rfl (aA D.b ?_))))))
 rw[lH,hh,Bool.not_false,Bool.true_and]
 subst hi3
 exact(gX hk).symm
theorem nk (h:bB):Sp 134 1 [tV 0 h.V] [tB 0 (lH h)]:=by
 refine sb Tryz.func134 rfl (sq (rT [1] (s2 (sq (sq (rT [1,38] (s2 (xp (dT _) (ai rfl ?_)))))))))
 refine s2 (y2 (xc (fun h=>(dT _)) (ai rfl (ai rk ?_))))
 refine y1 (ai pk (s1 (y2 (xc (fun h=>(dU _ _ _)) (ai rfl (ai rk ?_))))))
 refine y1 (ai pk (s1 (y2 (xc (fun h=>(dU _ _ _)) (ai rfl (ai rk ?_))))))
 refine y1 (ai pk (s1 (y2 (xc (fun h=>(dU _ _ _)) (ai rfl (ai rk ?_))))))
 refine y1 (ai pk (s1 (y4 (ai pk (cd rfl (fun c38=> ?_) fun c38=> ?_)))))
 · have hh:=jz c38
   refine sq (rT [2] (s1 (rt (aU rfl (aA D.b ?_)))))
   rw[lH,hh];rfl
 have hh:=jz c38
 obtain⟨p1,p2,p3,p4,p5,p6⟩:=kR hh
 have hb1:gT ((h.size+3) / 4) 1 6=true:=by simp only[gT,aVu,aD];omega
 refine sk (sq (sq (rT [1,3] (s1 (bk (SW.loopW (n:=h.got.length) (fun m q=> ∃i:Nat,m=h.got.length - i∧i≤h.got.length∧(∀k,k<i→nP h.got k=true)∧q=[tP 1 1,tI 3 (i:Nat),oB 1 138 [.d (.i (h).frm),.d (.i (h).num),.d (.i (h).to),.d (.i (h).til),.d (.i (h).size),.d (.sl (aR (h).got))]]) ?_ ?_))))))
 · exact wq (σ':=[tP 1 1,tI 3 (0:Nat),oB 1 138 [.d (.i (h).frm),.d (.i (h).num),.d (.i (h).to),.d (.i (h).til),.d (.i (h).size),.d (.sl (aR (h).got))]]) [] [] (⟨0,rfl,aVv _,fun k h=>absurd h (by omega),rfl⟩) qz
 rintro n s ⟨i,rfl,hi,hk,rfl⟩
 refine sq (sq (rT [1,3,43] (s5 (cd rfl (fun c43=> ?_) fun c43=> ?_))))
 · have hi2:i<h.got.length:=by simpa[aK] using c43
   have hg:=eP (l:=h.got) hi2
   refine sk (sq (bk (sq (sq (rD [1,3,55] (s2 (xp (tF h.size (by omega)) (ai rfl ?_))))))))
   refine s3 (ai (by rw[aVr,hg];exact⟨⟨by omega,by rw[aK];omega⟩,rfl⟩) (ai (by rw[aVr,hg];exact⟨aVs rfl,rfl⟩) (xp (cr ((h.size+3) / 4) (h.got.getD i .zero)) (ai (by rw[aVr,hg];rfl) ?_))))
   refine s1 (ai (by kernel_rfl) (cd rfl (fun c55=> ?_) fun c55=> ?_))
   · have hm:vZ (h.got.getD i .zero)=false:=by
      have h9:=c55
      rw[oC,hb1,Bool.true_and] at h9
      simpa only[vZ,Bool.not_eq_true'] using h9
     have hs:=pd hm
     refine sq (rT [2] (s1 (rt (aU rfl (aA D.b ?_)))))
     rw[lH,hh,Bool.not_false,Bool.true_and,fB hi2 hs]
   have hm:vZ (h.got.getD i .zero)=true:=by
    have h9:=c55
    rw[oC,hb1,Bool.true_and] at h9
    simpa only[vZ,Bool.not_eq_false'] using h9
   refine sk (sq (rT [1,3,4] (s1 (bk (SW.loopW (n:=i) (fun m q=> ∃j:Nat,m=i - j∧j≤i∧(∀k,k<j→((h.got.getD k .zero).num==(h.got.getD i .zero).num)=false)∧q=[tP 1 1,tI 3 (i:Nat),tI 4 (j:Nat),oB 1 138 [.d (.i (h).frm),.d (.i (h).num),.d (.i (h).to),.d (.i (h).til),.d (.i (h).size),.d (.sl (aR (h).got))]]) ?_ ?_)))))
   · exact wq (σ':=[tP 1 1,tI 3 (i:Nat),tI 4 (0:Nat),oB 1 138 [.d (.i (h).frm),.d (.i (h).num),.d (.i (h).to),.d (.i (h).til),.d (.i (h).size),.d (.sl (aR (h).got))]]) [] [] (⟨0,rfl,aVv _,fun k h=>absurd h (by omega),rfl⟩) qz
   rintro n s ⟨j,rfl,hj,hkj,rfl⟩
   refine sq (sq (rT [1,3,4,58] (s3 (cd rfl (fun c58=> ?_) fun c58=> ?_))))
   · have hj2:j<i:=by simpa using c58
     have hg2:=eP (l:=h.got) (i:=j) (by omega)
     refine sk (sq (bk (sq (rD [1,3,4,73] (s3 (ai (by rw[aVr,hg2];exact⟨⟨by omega,by rw[aK];omega⟩,rfl⟩) (s1 (ai (by rw[aVr,hg2];exact⟨aVs rfl,rfl⟩) (s3 (ai (by rw[aVr,hg];exact⟨⟨by omega,by rw[aK];omega⟩,rfl⟩) (s1 (ai (by rw[aVr,hg];exact⟨aVs rfl,rfl⟩) (s1 (ai (by kernel_rfl) (cd rfl (fun c73=> ?_) fun c73=> ?_)))))))))))))))
     · have hq: ((h.got.getD j .zero).num==(h.got.getD i .zero).num)=true:=by
        have h9:=c73
        rw[aVr,aVr,hg2,hg] at h9
        exact h9
       have hs:=uj hj2 hq
       refine sq (rT [2] (s1 (rt (aU rfl (aA D.b ?_)))))
       rw[lH,hh,Bool.not_false,Bool.true_and,fB hi2 hs]
     refine sk (rT [1,3,4] (s3 ?_))
     have hq: ((h.got.getD j .zero).num==(h.got.getD i .zero).num)=false:=by
      have h9:=c73
      rw[aVr,aVr,hg2,hg] at h9
      exact h9
     refine wq [] [] (⟨i - (j+1),by omega,j+1,rfl,by omega,fun k h=>by by_cases e:k=j;exact e▸hq;exact hkj k (by omega),rfl⟩) ?_
     repeat' apply ai
     all_goals first|exact qx|exact aA D.i (aF (by omega))|exact qz
   have hj3:j=i:=by simp at c58;omega
   subst hj3
   have hs:=pc hm hkj
   refine xt (rT [1,3] (s3 (wq [] [] (⟨h.got.length - (j+1),by omega,j+1,rfl,by omega,fun k h=>by by_cases e:k=j;exact e▸hs;exact hk k (by omega),rfl⟩) ?_)))
   repeat' apply ai
   all_goals first|exact qx|exact aA D.i (aF (by omega))|exact qz
 have hi3:i=h.got.length:=by simp[aK] at c43;omega
 refine xt (sq (rT [2] (s1 (rt (aU rfl (aA D.b ?_))))))
 rw[lH,hh,Bool.not_false,Bool.true_and]
 subst hi3
 exact(gX hk).symm
theorem fj (l:List bB) (f m:Int) (hl:l.length≤1000000):Sp 120 3 [tD 0 (.sl (aP l)),tI 1 f,tI 2 m] [tI 0 (fD l f m)]:=by
 refine sb Tryz.func120 rfl (sq (rT [0,1,2] (s1 (sq (sq (rT [1,2,9,10,11] (s3 (bk (SW.loopW (n:=l.length) (fun n q=> ∃i:Nat,n=l.length - i∧i≤l.length∧(∀k,k<i→gR l f m k=false)∧q=[tI 1 f,tI 2 m,tD 9 (.sl (aP l)),tI 10 (l.length:Nat),tI 11 (i:Nat)]) ?_ ?_)))))))))
 · refine wq (σ':=[tI 1 f,tI 2 m,tD 9 (.sl (aP l)),tI 10 (l.length:Nat),tI 11 (0:Nat)]) [] [] (⟨0,rfl,aVv _,fun k h=>absurd h (by omega),rfl⟩) ?_
   repeat' apply ai
   all_goals first|exact qx|(rw[aE];done)|rfl|exact qz
 rintro n s ⟨i,rfl,hi,hk,rfl⟩
 refine sq (rT [1,2,9,10,11,12] (s1 (sq (cd rfl (fun c12=> ?_) fun c12=> ?_))))
 · have hi2:i<l.length:=by simpa using c12
   have hg:=dG (l:=l) hi2
   refine sk (sq (bk (sq (rT [1,2,7,8,9,10,11] (s1 (ai (by rw[aVr,hg];exact⟨⟨by omega,by rw[aE];omega⟩,rfl⟩) (ai (by rw[aVr,hg];exact⟨aVs rfl,rfl⟩) (s3 (sq (rT [1,2,7,9,10,11,25] (s5 (y4 (ai pk (cd rfl (fun c25=> ?_) fun c25=> ?_))))))))))))))
   · refine sq (rT [6] (s2 (rt (aU rfl (aA D.i ?_)))))
     have hs:gR l f m i=true:=by
      have h9:=c25
      rw[aVr,hg] at h9
      exact h9
     exact(kY (aVv _) (by omega) (fun j _ h=>hk j h) hs).symm
   refine sk (rT [1,2,9,10,11] (s2 ?_))
   have hs:gR l f m i=false:=by
    have h9:=c25
    rw[aVr,hg] at h9
    exact h9
   refine wq [] [] (⟨l.length - (i+1),by omega,i+1,rfl,by omega,fun k h=>by by_cases e:k=i;exact e▸hs;exact hk k (by omega),rfl⟩) ?_
   repeat' apply ai
   all_goals first|exact qx|exact aA D.i (aF (by omega))|exact qz
 have hi3:i=l.length:=by simp at c12;omega
 refine xt (sq (rT [6] (s1 (rt (aU rfl (aA D.i ?_))))))
 exact(lF (fun j _ h=>hk j (by omega))).symm
theorem tG (k:aT) (hl:k.log.length≤140737488355328):Sp 54 1 [tV 0 k.V] [tB 0 (bL k)]:=by
 refine sb Tryz.func54 rfl (sq (rT [1] (s2 (sq (sq (rT [1,35] (s2 (xp (eB _) (ai rfl ?_)))))))))
 refine s2 (y2 (xc (fun h=>(qY k.log k.forced hl)) (ai rfl (ai rk ?_))))
 refine y1 (ai pk (s1 (y4 (ai pk (s1 (y4 (y4 (ai (fun h=>pk) (ai rk (ai pk (cd rfl (fun c35=> ?_) fun c35=> ?_)))))))))))
 · have hh:=zL c35
   refine sq (rT [2] (s1 (rt (aU rfl (aA D.b ?_)))))
   exact(wS hh).symm
 have hh:=zL c35
 obtain⟨p1,p2,p3,p4⟩:=fV hh
 obtain⟨q1,q2,q3,q4⟩:=kH p2
 refine sk (sq (rT [1,4] (s5 (xp (nB k.id k.log (by omega)) (ai rfl ?_)))))
 refine s6 (sq (rD [1,4,6] (s8 (ai (by exact⟨by simp,by simpa using q2.1,by simpa using q2.2⟩) (xp (nB k.id (k.log.take k.forced.toNat) (by rw[aV0];omega)) (ai rfl ?_))))))
 refine s6 (ai (by kernel_rfl) (sq (sq (rT [1,63] (s3 (y2 (ai pk (cd rfl (fun c63=> ?_) fun c63=> ?_))))))))
 · have hn:=pf (k:=k) c63 (.inl ⟨rfl,rfl⟩)
   refine sq (rT [2] (s1 (rt (aU rfl (aA D.b ?_)))))
   exact hn.symm
 have hy:=jy (k:=k) hh c63 (.inl ⟨rfl,rfl⟩)
 refine sk (sq (sq (rT [1,65,66,67] (s4 (bk (SW.loopW (n:=k.halves.length) (fun m q=> ∃i:Nat,m=k.halves.length - i∧i≤k.halves.length∧(∀j,j<i→gQ k.halves j=true)∧q=[tP 1 1,tD 65 (.sl (aP k.halves)),tI 66 (k.halves.length:Nat),tI 67 (i:Nat),oB 1 31 [.d (.i (k).id),.d (.b (k).up),.d (.s (k).log),.d (.i (k).forced),.d (.sl (aP (k).halves))]]) ?_ ?_))))))
 · refine wq (σ':=[tP 1 1,tD 65 (.sl (aP k.halves)),tI 66 (k.halves.length:Nat),tI 67 (0:Nat),oB 1 31 [.d (.i (k).id),.d (.b (k).up),.d (.s (k).log),.d (.i (k).forced),.d (.sl (aP (k).halves))]]) [] [] (⟨0,rfl,aVv _,fun j h=>absurd h (by omega),rfl⟩) ?_
   repeat' apply ai
   all_goals first|exact qx|rfl|(rw[aE];done)|exact qz
 rintro n s ⟨i,rfl,hi,hk,rfl⟩
 refine sq (rT [1,65,66,67,68] (s1 (sq (cd rfl (fun c68=> ?_) fun c68=> ?_))))
 · have hi2:i<k.halves.length:=by simpa using c68
   have hg:=dG (l:=k.halves) hi2
   refine sk (sq (bk (sq (rT [1,7,8,65,66,67] (s1 (ai (by rw[aVr,hg];exact⟨⟨by omega,by rw[aE];omega⟩,rfl⟩) (ai (by rw[aVr,hg];exact⟨aVs rfl,rfl⟩) (s3 (sq (wa [tP 1 1,tI 7 (i:Nat),tP 8 8,tD 65 (.sl (aP k.halves)),tI 66 (k.halves.length:Nat),tI 67 (i:Nat),oB 1 31 [.d (.i (k).id),.d (.b (k).up),.d (.s (k).log),.d (.i (k).forced),.d (.sl (aP (k).halves))],oB 8 138 [.d (.i (k.halves.getD i .zero).frm),.d (.i (k.halves.getD i .zero).num),.d (.i (k.halves.getD i .zero).to),.d (.i (k.halves.getD i .zero).til),.d (.i (k.halves.getD i .zero).size),.d (.sl (aR (k.halves.getD i .zero).got))]] [] [] ?_ ?_))))))))))
   · repeat' apply ai
     all_goals first|exact qx|(rw[aVr,hg];rfl)|exact qz
   refine rT [1,65,66,67,85] (s1 (xp (ze (k.halves.getD i .zero)) (ai rfl ?_)))
   refine s2 (y4 (y2 (xc (fun h=>(fj k.halves _ _ (by omega))) (ai rfl (ai rk ?_)))))
   refine y2 (ai pk (cd rfl (fun c85=> ?_) fun c85=> ?_))
   · refine sq (rT [2] (s1 (rt (aU rfl (aA D.b ?_)))))
     have hs:gQ k.halves i=false:=jx hi2 c85
     rw[hy,fB hi2 hs]
   refine sk (rT [1,65,66,67] (s2 ?_))
   have hs:gQ k.halves i=true:=jx hi2 c85
   refine wq [] [] (⟨k.halves.length - (i+1),by omega,i+1,rfl,by omega,fun j h=>by by_cases e:j=i;exact e▸hs;exact hk j (by omega),rfl⟩) ?_
   repeat' apply ai
   all_goals first|exact qx|exact aA D.i (aF (by omega))|exact qz
 have hi3:i=k.halves.length:=by simp at c68;omega
 refine xt (sq (rT [2] (s1 (rt (aU rfl (aA D.b ?_))))))
 subst hi3
 rw[hy,gX hk]
theorem qr (k:aT) (hl:k.log.length≤140737488355328):Sp 63 1 [tV 0 k.V] [tB 0 (bL k)]:=by
 refine sb Tryz.func63 rfl (sq (rT [1] (s2 (sq (sq (rT [1,37] (s2 (xp (dT _) (ai rfl ?_)))))))))
 refine s2 (y2 (xc (fun h=>(qZ k.log k.forced hl)) (ai rfl (ai rk ?_))))
 refine y1 (ai pk (s1 (y4 (ai pk (s1 (y4 (y4 (ai (fun h=>pk) (ai rk (ai pk (cd rfl (fun c37=> ?_) fun c37=> ?_)))))))))))
 · have hh:=zL c37
   refine sq (rT [2] (s1 (rt (aU rfl (aA D.b ?_)))))
   exact(wS hh).symm
 have hh:=zL c37
 obtain⟨p1,p2,p3,p4⟩:=fV hh
 obtain⟨q1,q2,q3,q4⟩:=kH p2
 refine sk (sq (rT [1,3] (s6 (ai (by exact⟨by simp,by simpa using q2.1,by simpa using q2.2⟩) (xp (kE (k.log.take k.forced.toNat) (by rw[aV0];omega)) (ai rfl ?_))))))
 refine s5 (sq (rT [1,6] (s3 (xp (wZ k.id (bF (k.log.take k.forced.toNat)).1 (kI _ (by rw[aV0];omega)).1 (kI _ (by rw[aV0];omega)).2) (ai rfl ?_)))))
 refine s6 (sq (rT [1,6,8] (s1 (xp (xA k (by omega)) (ai rfl ?_)))))
 refine s6 (sq (sq (rT [1,66] (s3 (y2 (ai pk (cd rfl (fun c66=> ?_) fun c66=> ?_)))))))
 · have hn:=pf (k:=k) c66 (.inl ⟨rfl,rfl⟩)
   refine sq (rT [2] (s1 (rt (aU rfl (aA D.b ?_)))))
   exact hn.symm
 have hy:=jy (k:=k) hh c66 (.inl ⟨rfl,rfl⟩)
 refine sk (sq (sq (rT [1,9] (s1 (bk (SW.loopW (n:=k.halves.length) (fun m q=> ∃i:Nat,m=k.halves.length - i∧i≤k.halves.length∧(∀j,j<i→gQ k.halves j=true)∧q=[tP 1 1,tI 9 (i:Nat),oB 1 31 [.d (.i (k).id),.d (.b (k).up),.d (.s (k).log),.d (.i (k).forced),.d (.sl (aP (k).halves))]]) ?_ ?_))))))
 · exact wq (σ':=[tP 1 1,tI 9 (0:Nat),oB 1 31 [.d (.i (k).id),.d (.b (k).up),.d (.s (k).log),.d (.i (k).forced),.d (.sl (aP (k).halves))]]) [] [] (⟨0,rfl,aVv _,fun j h=>absurd h (by omega),rfl⟩) qz
 rintro n s ⟨i,rfl,hi,hk,rfl⟩
 refine sq (sq (rT [1,9,71] (s5 (cd rfl (fun c71=> ?_) fun c71=> ?_))))
 · have hi2:i<k.halves.length:=by simpa[aE] using c71
   have hg:=dG (l:=k.halves) hi2
   refine sk (sq (bk (sq (sq (rT [1,9,80] (s3 (ai (by rw[aVr,hg];exact⟨⟨by omega,by rw[aE];omega⟩,rfl⟩) (ai (by rw[aVr,hg];exact⟨aVs rfl,rfl⟩) (xp (nk (k.halves.getD i .zero)) (ai (by rw[aVr,hg];rfl) ?_))))))))))
   refine s1 (cd rfl (fun c80=> ?_) fun c80=> ?_)
   · have hs:=aCw (by simpa using c80)
     refine sq (rT [2] (s1 (rt (aU rfl (aA D.b ?_)))))
     rw[hy,fB hi2 hs]
   refine sk (sq (rT [1,9,10] (s1 (bk (SW.loopW (n:=i) (fun m q=> ∃j:Nat,m=i - j∧j≤i∧(∀k1,k1<j→gR k.halves (k.halves.getD i .zero).frm (k.halves.getD i .zero).num k1=false)∧q=[tP 1 1,tI 9 (i:Nat),tI 10 (j:Nat),oB 1 31 [.d (.i (k).id),.d (.b (k).up),.d (.s (k).log),.d (.i (k).forced),.d (.sl (aP (k).halves))]]) ?_ ?_)))))
   · exact wq (σ':=[tP 1 1,tI 9 (i:Nat),tI 10 (0:Nat),oB 1 31 [.d (.i (k).id),.d (.b (k).up),.d (.s (k).log),.d (.i (k).forced),.d (.sl (aP (k).halves))]]) [] [] (⟨0,rfl,aVv _,fun j h=>absurd h (by omega),rfl⟩) qz
   rintro n s ⟨j,rfl,hj,hkj,rfl⟩
   refine sq (sq (rT [1,9,10,83] (s3 (cd rfl (fun c83=> ?_) fun c83=> ?_))))
   · have hj2:j<i:=by simpa using c83
     have hg2:=dG (l:=k.halves) (i:=j) (by omega)
     refine sk (sq (bk (sq (rD [1,9,10,113] (s3 (ai (by rw[aVr,hg2];exact⟨⟨by omega,by rw[aE];omega⟩,rfl⟩) (s1 (ai (by rw[aVr,hg2];exact⟨aVs rfl,rfl⟩) (s3 (ai (by rw[aVr,hg];exact⟨⟨by omega,by rw[aE];omega⟩,rfl⟩) (s1 (ai (by rw[aVr,hg];exact⟨aVs rfl,rfl⟩) (s2 (y3 (ai (fun h=>(by rw[aVr,hg2];exact⟨⟨by omega,by rw[aE];omega⟩,rfl⟩)) (ai rk (y1 (ai (fun h=>(by rw[aVr,hg2];exact⟨aVs rfl,rfl⟩)) (ai rk (y3 (ai (fun h=>(by rw[aVr,hg];exact⟨⟨by omega,by rw[aE];omega⟩,rfl⟩)) (ai rk (y1 (ai (fun h=>(by rw[aVr,hg];exact⟨aVs rfl,rfl⟩)) (ai rk (y1 (ai pk (ai (by kernel_rfl) (cd rfl (fun c113=> ?_) fun c113=> ?_)))))))))))))))))))))))))))))
     · have hq:gR k.halves (k.halves.getD i .zero).frm (k.halves.getD i .zero).num j=true:=by
        have h9:=c113
        rw[aVr,aVr,hg2,hg] at h9
        exact h9
       have hs:=aEv hj2 hq
       refine sq (rT [2] (s1 (rt (aU rfl (aA D.b ?_)))))
       rw[hy,fB hi2 hs]
     refine sk (rT [1,9,10] (s3 ?_))
     have hq:gR k.halves (k.halves.getD i .zero).frm (k.halves.getD i .zero).num j=false:=by
      have h9:=c113
      rw[aVr,aVr,hg2,hg] at h9
      exact h9
     refine wq [] [] (⟨i - (j+1),by omega,j+1,rfl,by omega,fun m h=>by by_cases e:m=j;exact e▸hq;exact hkj m (by omega),rfl⟩) ?_
     repeat' apply ai
     all_goals first|exact qx|exact aA D.i (aF (by omega))|exact qz
   have hj3:j=i:=by simp at c83;omega
   subst hj3
   have hs:=aCv (by simpa using c80) hkj
   refine xt (rT [1,9] (s3 (wq [] [] (⟨k.halves.length - (j+1),by omega,j+1,rfl,by omega,fun m h=>by by_cases e:m=j;exact e▸hs;exact hk m (by omega),rfl⟩) ?_)))
   repeat' apply ai
   all_goals first|exact qx|exact aA D.i (aF (by omega))|exact qz
 have hi3:i=k.halves.length:=by simp[aE] at c71;omega
 refine xt (sq (rT [2] (s1 (rt (aU rfl (aA D.b ?_))))))
 subst hi3
 rw[hy,gX hk]
theorem ct (m:cU):Sp 223 1 [tV 0 m.V] [tV 0 m.V]:=by
 refine sb Tryz.func223 rfl (sq (rT [1,2] (s2 (sq (rT [1,2,3] (s1 (sq (rT [1,2,3] (s4 (sq (rT [2,3] (s4 (sq (rT [2] (s2 (rt (bI rfl rfl ?_)))))))))))))))))
 rfl
theorem qt (l:List cU) (hg:l.length*24≤140737488355328):Sp 186 1 [tD 0 (.sl (aR l))] [tD 0 (.sl (aR l))]:=by
 refine sb Tryz.func186 rfl (sq (rT [0] (s1 (sq (rT [0,3] (s2 (ai (by refine⟨rfl,by omega,?_⟩;rw[aK];show((24:Nat):Int)*_≤_;omega) (s1 (sq (sq (rT [0,3,4] (s1 (bk (SW.loopW (n:=l.length) (fun m q=> ∃i:Nat,m=l.length - i∧i≤l.length∧q=[tD 0 (.sl (aR l)),tO 3 7 l.length,tI 4 (i:Nat),oR 7 86 2 (aR ((l.take i)++aWb (l.length - i) .zero))]) ?_ ?_))))))))))))))
 · refine wq (σ':=[tD 0 (.sl (aR l)),tO 3 7 l.length,tI 4 (0:Nat),oR 7 86 2 (aR ((l.take 0)++aWb (l.length - 0) .zero))]) [] [] (⟨0,rfl,aVv _,rfl⟩) ?_
   repeat' apply ai
   all_goals first|exact qx|rfl|(rw[aK];rfl)|(simp[aR,aK,cU.row,cU.zero];done)|(simp[aR,aP,bB.row,bB.zero];done)|exact qz
 rintro n s ⟨i,rfl,hi,rfl⟩
 refine sq (sq (rT [0,3,4,11] (s4 (cd rfl (fun c11=> ?_) fun c11=> ?_))))
 · have hi2:i<l.length:=by simpa[aK] using c11
   have hgg:=eP (l:=l) hi2
   have hmem:l.getD i .zero∈l:=cM hi2
   refine sk (sq (bk (rT [0,3,4] (s4 (ai (by rw[aVr,hgg];exact⟨⟨by omega,by rw[aK];omega⟩,rfl⟩) (ai (by rw[aVr,hgg];exact⟨aVs rfl,rfl⟩) (xp (ct (l.getD i .zero)) (ai (by rw[aVr,hgg];rfl) ?_))))))))
   refine ai (by refine⟨?_,by omega,by omega⟩;simp[aK];omega) (ai (by rw[aVr,gt hi2];exact⟨by simp[aK];omega,by omega,rfl,aVz _⟩) (rT [0,3,4] (s3 (wq [] [] (⟨l.length - (i+1),by omega,i+1,rfl,by omega,rfl⟩) ?_))))
   repeat' apply ai
   all_goals first|exact qx|exact aA D.i (by rw[aF (by omega)];omega)|(rw[aVr];exact ka hi2)|exact qz
 have hi3:i=l.length:=by simp[aK] at c11;omega
 subst hi3
 refine xt (sq (rT [2] (s2 (rt (dO _ [] [7] rfl (dD rfl rfl rfl ?_ (aA D.sl ?_) trivial) rfl rfl)))))
 · simp[aK]
 simp
theorem wi (a b:cU):Sp 224 2 [tV 0 a.V,tV 1 b.V] [tB 0 (decide (a=b))]:=by
 refine sb Tryz.func224 rfl (sq (rT [2,3] (s3 (sq (sq (rT [2,3,9] (s5 (cd rfl (fun c9=> ?_) fun c9=> ?_))))))))
 · refine sq (rT [4] (s1 (rt (aU rfl (aA D.b ?_)))))
   cases a;cases b;simp_all
 refine sk (sq (sq (rT [14] (s5 (cd rfl (fun c14=> ?_) fun c14=> ?_)))))
 · refine sq (rT [4] (s1 (rt (aU rfl (aA D.b ?_)))))
   cases a;cases b;simp_all
 refine sk (sq (rT [4] (s1 (rt (aU rfl (aA D.b ?_))))))
 cases a;cases b;simp_all
theorem qu (a b:List cU) (hg:a.length*24≤140737488355328):Sp 187 2 [tD 0 (.sl (aR a)),tD 1 (.sl (aR b))] [tB 0 (decide (a=b))]:=by
 refine sb Tryz.func187 rfl (sq (rT [0,1] (s1 (sq (sq (rT [0,1,10] (s5 (cd rfl (fun c10=> ?_) fun c10=> ?_))))))))
 · refine sq (rT [4] (s1 (rt (aU rfl (aA D.b ?_)))))
   symm
   apply decide_eq_false
   intro e
   rw[e] at c10
   simp at c10
 have hlen:a.length=b.length:=by simp[aK] at c10;omega
 refine sk (sq (sq (rT [0,1,5] (s1 (bk (SW.loopW (n:=a.length) (fun m q=> ∃i:Nat,m=a.length - i∧i≤a.length∧(∀j,j<i→a.getD j .zero=b.getD j .zero)∧q=[tD 0 (.sl (aR a)),tD 1 (.sl (aR b)),tI 5 (i:Nat)]) ?_ ?_))))))
 · exact wq (σ':=[tD 0 (.sl (aR a)),tD 1 (.sl (aR b)),tI 5 (0:Nat)]) [] [] (⟨0,rfl,aVv _,fun j h=>absurd h (by omega),rfl⟩) qz
 rintro n s ⟨i,rfl,hi,hk,rfl⟩
 refine sq (sq (rT [0,1,5,14] (s4 (cd rfl (fun c14=> ?_) fun c14=> ?_))))
 · have hi2:i<a.length:=by simpa[aK] using c14
   have hga:=eP (l:=a) hi2
   have hgb:=eP (l:=b) (i:=i) (by omega)
   have hmem:a.getD i .zero∈a:=cM hi2
   refine sk (sq (bk (sq (rD [0,1,5,26] (s2 (ai (by rw[aVr,hga];exact⟨⟨by omega,by rw[aK];omega⟩,rfl⟩) (ai (by rw[aVr,hga];exact⟨aVs rfl,rfl⟩) (s2 (ai (by rw[aVr,hgb];exact⟨⟨by omega,by rw[aK];omega⟩,rfl⟩) (ai (by rw[aVr,hgb];exact⟨aVs rfl,rfl⟩) (xp (wi (a.getD i .zero) (b.getD i .zero)) (ai (by rw[aVr,hga,hgb];rfl) ?_))))))))))))
   refine s1 (ai (by kernel_rfl) (cd rfl (fun c26=> ?_) fun c26=> ?_))
   · refine sq (rT [4] (s1 (rt (aU rfl (aA D.b ?_)))))
     exact(decide_eq_false (gr (z:=cU.zero) (j:=i) (by simpa using c26))).symm
   refine sk (rT [0,1,5] (s3 ?_))
   have hs:a.getD i .zero=b.getD i .zero:=by simpa using c26
   refine wq [] [] (⟨a.length - (i+1),by omega,i+1,rfl,by omega,fun j h=>by by_cases e:j=i;exact e▸hs;exact hk j (by omega),rfl⟩) ?_
   repeat' apply ai
   all_goals first|exact qx|exact aA D.i (aF (by omega))|exact qz
 have hi3:i=a.length:=by simp[aK] at c14;omega
 refine xt (sq (rT [4] (s1 (rt (aU rfl (aA D.b ?_))))))
 subst hi3
 exact(decide_eq_true (gq (z:=cU.zero) hlen hk)).symm
theorem zf (h:bB) (hg:h.got.length*24≤140737488355328):Sp 135 1 [tV 0 h.V] [tV 0 h.V]:=by
 refine sb Tryz.func135 rfl (sq (rT [1,2] (s2 (sq (rT [1,2,3] (s1 (sq (rT [1,2,3] (s4 (sq (rT [1,2,3] (s4 (sq (rT [1,2,3] (s4 (sq (rT [1,2,3] (s4 (sq (rT [1,2,3] (s4 (sq (rT [2,3] (s2 (xp (qt h.got hg) (ai rfl ?_))))))))))))))))))))))))))
 refine s2 (sq (rT [2] (s2 (rt (bI rfl rfl ?_)))))
 rfl
theorem wj (l:List bB) (hg:l.length*64≤140737488355328) (hx: ∀h∈l,h.got.length*24≤140737488355328):Sp 66 1 [tD 0 (.sl (aP l))] [tD 0 (.sl (aP l))]:=by
 refine sb Tryz.func66 rfl (sq (rT [0] (s1 (sq (rT [0,3] (s2 (ai (by refine⟨rfl,by omega,?_⟩;rw[aE];show((64:Nat):Int)*_≤_;omega) (s1 (sq (sq (rT [0,3,4] (s1 (bk (SW.loopW (n:=l.length) (fun m q=> ∃i:Nat,m=l.length - i∧i≤l.length∧q=[tD 0 (.sl (aP l)),tO 3 7 l.length,tI 4 (i:Nat),oR 7 138 6 (aP ((l.take i)++aWb (l.length - i) .zero))]) ?_ ?_))))))))))))))
 · refine wq (σ':=[tD 0 (.sl (aP l)),tO 3 7 l.length,tI 4 (0:Nat),oR 7 138 6 (aP ((l.take 0)++aWb (l.length - 0) .zero))]) [] [] (⟨0,rfl,aVv _,rfl⟩) ?_
   repeat' apply ai
   all_goals first|exact qx|rfl|(rw[aE];rfl)|(simp[aP,aE,bB.row,bB.zero];done)|(simp[aR,aP,bB.row,bB.zero];done)|exact qz
 rintro n s ⟨i,rfl,hi,rfl⟩
 refine sq (sq (rT [0,3,4,11] (s4 (cd rfl (fun c11=> ?_) fun c11=> ?_))))
 · have hi2:i<l.length:=by simpa[aE] using c11
   have hgg:=dG (l:=l) hi2
   have hmem:l.getD i .zero∈l:=cM hi2
   refine sk (sq (bk (rT [0,3,4] (s4 (ai (by rw[aVr,hgg];exact⟨⟨by omega,by rw[aE];omega⟩,rfl⟩) (ai (by rw[aVr,hgg];exact⟨aVs rfl,rfl⟩) (xp (zf (l.getD i .zero) (hx _ hmem)) (ai (by rw[aVr,hgg];rfl) ?_))))))))
   refine ai (by refine⟨?_,by omega,by omega⟩;simp[aE];omega) (ai (by rw[aVr,ph hi2];exact⟨by simp[aE];omega,by omega,rfl,aVz _⟩) (rT [0,3,4] (s3 (wq [] [] (⟨l.length - (i+1),by omega,i+1,rfl,by omega,rfl⟩) ?_))))
   repeat' apply ai
   all_goals first|exact qx|exact aA D.i (by rw[aF (by omega)];omega)|(rw[aVr];exact yq hi2)|exact qz
 have hi3:i=l.length:=by simp[aE] at c11;omega
 subst hi3
 refine xt (sq (rT [2] (s2 (rt (dO _ [] [7] rfl (dD rfl rfl rfl ?_ (aA D.sl ?_) trivial) rfl rfl)))))
 · simp[aE]
 simp
theorem zg (a b:bB) (ha:a.got.length*24≤140737488355328):Sp 136 2 [tV 0 a.V,tV 1 b.V] [tB 0 (decide (a=b))]:=by
 refine sb Tryz.func136 rfl (sq (rT [2,3] (s3 (sq (sq (rT [2,3,9] (s5 (cd rfl (fun c9=> ?_) fun c9=> ?_))))))))
 · refine sq (rT [4] (s1 (rt (aU rfl (aA D.b ?_)))))
   cases a;cases b;simp_all
 refine sk (sq (sq (rT [2,3,14] (s5 (cd rfl (fun c14=> ?_) fun c14=> ?_)))))
 · refine sq (rT [4] (s1 (rt (aU rfl (aA D.b ?_)))))
   cases a;cases b;simp_all
 refine sk (sq (sq (rT [2,3,19] (s5 (cd rfl (fun c19=> ?_) fun c19=> ?_)))))
 · refine sq (rT [4] (s1 (rt (aU rfl (aA D.b ?_)))))
   cases a;cases b;simp_all
 refine sk (sq (sq (rT [2,3,24] (s5 (cd rfl (fun c24=> ?_) fun c24=> ?_)))))
 · refine sq (rT [4] (s1 (rt (aU rfl (aA D.b ?_)))))
   cases a;cases b;simp_all
 refine sk (sq (sq (rT [2,3,29] (s5 (cd rfl (fun c29=> ?_) fun c29=> ?_)))))
 · refine sq (rT [4] (s1 (rt (aU rfl (aA D.b ?_)))))
   cases a;cases b;simp_all
 refine sk (sq (sq (rT [35] (s4 (xp (qu a.got b.got ha) (ai rfl ?_))))))
 refine s1 (cd rfl (fun c35=> ?_) fun c35=> ?_)
 · refine sq (rT [4] (s1 (rt (aU rfl (aA D.b ?_)))))
   cases a;cases b;simp_all
 refine sk (sq (rT [4] (s1 (rt (aU rfl (aA D.b ?_))))))
 cases a;cases b;simp_all
theorem wl (a b:List bB) (hg:a.length*64≤140737488355328) (hx: ∀h∈a,h.got.length*24≤140737488355328):Sp 69 2 [tD 0 (.sl (aP a)),tD 1 (.sl (aP b))] [tB 0 (decide (a=b))]:=by
 refine sb Tryz.func69 rfl (sq (rT [0,1] (s1 (sq (sq (rT [0,1,10] (s5 (cd rfl (fun c10=> ?_) fun c10=> ?_))))))))
 · refine sq (rT [4] (s1 (rt (aU rfl (aA D.b ?_)))))
   symm
   apply decide_eq_false
   intro e
   rw[e] at c10
   simp at c10
 have hlen:a.length=b.length:=by simp[aE] at c10;omega
 refine sk (sq (sq (rT [0,1,5] (s1 (bk (SW.loopW (n:=a.length) (fun m q=> ∃i:Nat,m=a.length - i∧i≤a.length∧(∀j,j<i→a.getD j .zero=b.getD j .zero)∧q=[tD 0 (.sl (aP a)),tD 1 (.sl (aP b)),tI 5 (i:Nat)]) ?_ ?_))))))
 · exact wq (σ':=[tD 0 (.sl (aP a)),tD 1 (.sl (aP b)),tI 5 (0:Nat)]) [] [] (⟨0,rfl,aVv _,fun j h=>absurd h (by omega),rfl⟩) qz
 rintro n s ⟨i,rfl,hi,hk,rfl⟩
 refine sq (sq (rT [0,1,5,14] (s4 (cd rfl (fun c14=> ?_) fun c14=> ?_))))
 · have hi2:i<a.length:=by simpa[aE] using c14
   have hga:=dG (l:=a) hi2
   have hgb:=dG (l:=b) (i:=i) (by omega)
   have hmem:a.getD i .zero∈a:=cM hi2
   refine sk (sq (bk (sq (rD [0,1,5,26] (s2 (ai (by rw[aVr,hga];exact⟨⟨by omega,by rw[aE];omega⟩,rfl⟩) (ai (by rw[aVr,hga];exact⟨aVs rfl,rfl⟩) (s2 (ai (by rw[aVr,hgb];exact⟨⟨by omega,by rw[aE];omega⟩,rfl⟩) (ai (by rw[aVr,hgb];exact⟨aVs rfl,rfl⟩) (xp (zg (a.getD i .zero) (b.getD i .zero) (hx _ hmem)) (ai (by rw[aVr,hga,hgb];rfl) ?_))))))))))))
   refine s1 (ai (by kernel_rfl) (cd rfl (fun c26=> ?_) fun c26=> ?_))
   · refine sq (rT [4] (s1 (rt (aU rfl (aA D.b ?_)))))
     exact(decide_eq_false (gr (z:=bB.zero) (j:=i) (by simpa using c26))).symm
   refine sk (rT [0,1,5] (s3 ?_))
   have hs:a.getD i .zero=b.getD i .zero:=by simpa using c26
   refine wq [] [] (⟨a.length - (i+1),by omega,i+1,rfl,by omega,fun j h=>by by_cases e:j=i;exact e▸hs;exact hk j (by omega),rfl⟩) ?_
   repeat' apply ai
   all_goals first|exact qx|exact aA D.i (aF (by omega))|exact qz
 have hi3:i=a.length:=by simp[aE] at c14;omega
 refine xt (sq (rT [4] (s1 (rt (aU rfl (aA D.b ?_))))))
 subst hi3
 exact(decide_eq_true (gq (z:=bB.zero) hlen hk)).symm
theorem cu (l:List UInt8) (f:Int):Sp 65 1 [tV 0 (.e (.agg [.d (.s l),.d (.i f)]))] [tV 0 (.e (.agg [.d (.s l),.d (.i f)]))]:=by
 refine sb Tryz.func65 rfl (sq (rT [1,2] (s2 (sq (rT [1,2,3] (s1 (sq (rT [1,2,3] (s4 (sq (rT [2,3] (s4 (sq (rT [2] (s2 (rt (bI rfl rfl ?_)))))))))))))))))
 rfl
theorem tH (k:aT) (hk:KRB k):Sp 17 1 [tV 0 k.V] [tV 0 k.V]:=by
 refine sb Tryz.func17 rfl (sq (rT [1,2] (s2 (sq (rT [1,2,3] (s1 (sq (rT [1,2,3] (s4 (sq (rT [1,2,3] (s4 (sq (rT [1,2,3] (s2 (xp (cu k.log k.forced) (ai rfl ?_)))))))))))))))))
 refine s2 (sq (rT [2,3] (s2 (xp (wj k.halves hk.2.1 hk.2.2) (ai rfl ?_)))))
 refine s2 (sq (rT [2] (s2 (rt (bI rfl rfl ?_)))))
 rfl
theorem wm (l m:List UInt8) (f g:Int):Sp 68 2 [tV 0 (.e (.agg [.d (.s l),.d (.i f)])),tV 1 (.e (.agg [.d (.s m),.d (.i g)]))] [tB 0 (decide (l=m∧f=g))]:=by
 refine sb Tryz.func68 rfl (sq (rT [2,3] (s3 (sq (sq (rT [2,3,9] (s5 (cd rfl (fun c9=> ?_) fun c9=> ?_))))))))
 · refine sq (rT [4] (s1 (rt (aU rfl (aA D.b ?_)))))
   simp_all
 refine sk (sq (sq (rT [14] (s5 (cd rfl (fun c14=> ?_) fun c14=> ?_)))))
 · refine sq (rT [4] (s1 (rt (aU rfl (aA D.b ?_)))))
   simp_all
 refine sk (sq (rT [4] (s1 (rt (aU rfl (aA D.b ?_))))))
 simp_all
theorem oX (a b:aT) (ha:KRB a):Sp 19 2 [tV 0 a.V,tV 1 b.V] [tB 0 (decide (a=b))]:=by
 refine sb Tryz.func19 rfl (sq (rT [2,3] (s3 (sq (sq (rT [2,3,9] (s5 (cd rfl (fun c9=> ?_) fun c9=> ?_))))))))
 · refine sq (rT [4] (s1 (rt (aU rfl (aA D.b ?_)))))
   cases a;cases b;first|(simp_all;done)|(simp_all;grind)
 refine sk (sq (sq (rT [2,3,14] (s5 (cd rfl (fun c14=> ?_) fun c14=> ?_)))))
 · refine sq (rT [4] (s1 (rt (aU rfl (aA D.b ?_)))))
   cases a;cases b;first|(simp_all;done)|(simp_all;grind)
 refine sk (sq (sq (rT [2,3,20] (s4 (xp (wm a.log b.log a.forced b.forced) (ai rfl ?_))))))
 refine s1 (cd rfl (fun c20=> ?_) fun c20=> ?_)
 · refine sq (rT [4] (s1 (rt (aU rfl (aA D.b ?_)))))
   cases a;cases b;first|(simp_all;done)|(simp_all;grind)
 refine sk (sq (sq (rT [26] (s4 (xp (wl a.halves b.halves ha.2.1 ha.2.2) (ai rfl ?_))))))
 refine s1 (cd rfl (fun c26=> ?_) fun c26=> ?_)
 · refine sq (rT [4] (s1 (rt (aU rfl (aA D.b ?_)))))
   cases a;cases b;first|(simp_all;done)|(simp_all;grind)
 refine sk (sq (rT [4] (s1 (rt (aU rfl (aA D.b ?_))))))
 cases a;cases b;first|(simp_all;done)|(simp_all;grind)
theorem ky (l:List UInt8) (f:Int) (hl:l.length≤140737488355328):Sp 141 1 [tV 0 (.e (.agg [.d (.s l),.d (.i f)]))] [tV 0 (.e (.agg [.d (.s (iI l f).1),.d (.i (iI l f).2)]))]:=by
 refine sb Tryz.func141 rfl (sq (rT [1,2] (s2 (sq (sq (rT [1,2,5] (s1 (xp (qY l f hl) (ai rfl ?_)))))))))
 refine s1 (cd rfl (fun c5=> ?_) fun c5=> ?_)
 · refine sq (rT [2] (s2 (rt ?_)))
   have hr:iI l f=([],0):=aB (by simpa using c5)
   refine bI rfl rfl ?_
   rw[hr]<;>rfl
 refine sk (sq (rT [2] (s7 (rt ?_))))
 have hr:iI l f=(l,(l.length:Int)):=aC (by simpa using c5)
 refine bI rfl rfl ?_
 rw[hr]<;>rfl
theorem kF (l:List UInt8) (f:Int) (hl:l.length≤140737488355328):Sp 74 1 [tV 0 (.e (.agg [.d (.s l),.d (.i f)]))] [tV 0 (.e (.agg [.d (.s (iI l f).1),.d (.i (iI l f).2)]))]:=by
 refine sb Tryz.func74 rfl (sq (rT [1,2] (s2 (sq (sq (rT [1,2,5] (s1 (xp (qZ l f hl) (ai rfl ?_)))))))))
 refine s1 (cd rfl (fun c5=> ?_) fun c5=> ?_)
 · refine sq (rT [2] (s2 (rt ?_)))
   have hr:iI l f=([],0):=aB (by simpa using c5)
   refine bI rfl rfl ?_
   rw[hr]<;>rfl
 refine sk (sq (rT [2] (s7 (rt ?_))))
 have hr:iI l f=(l,(l.length:Int)):=aC (by simpa using c5)
 refine bI rfl rfl ?_
 rw[hr]<;>rfl
theorem wn (l:List bB) (hl:l.length≤1000000):Sp 139 1 [tD 0 (.sl (aP l))] [tO 0 0 l.length,oR 0 138 6 (aP l)]:=by
 refine sb Tryz.func139 rfl (sq (rT [0] (s1 (sq (sq (rT [0,6] (s3 (cd rfl (fun c6=> ?_) fun c6=> ?_))))))))
 · refine sq (rT [2] (s1 (SW.nilOwn 2 0 138 6 rfl rfl (rt (rq [] [] rfl ?_)))))
   repeat' apply ai
   all_goals try exact qx
   all_goals(simp[aE] at c6;simp[c6,aP])
 refine sk (sq (rT [0,3] (s2 (ai (by refine⟨rfl,by omega,?_⟩;rw[aE];show((64:Nat):Int)*_≤_;omega) (s1 (sq (rT [3] (s2 (ai (by refine⟨trivial,by simp,mD l⟩) (sq (rT [2] (s2 (rt (rq [(0,9)] [] rfl ?_))))))))))))))
 repeat' apply ai
 all_goals try exact qx
 all_goals first|(simp[aE];done)|(simp;done)
end Go.Proofs.YtmabaopgkimfmaaGreatDoor
