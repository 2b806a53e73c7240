/- Plain functions, and contracts of the functions that the law reaches. -/
import Derived.Deep.Slices
import Derived.WideShapes
import GoSem.ClaimJoined
import Derived.Shelf.Utf8.RuneCount
import Derived.Shelf.Strconv.Itoa0
import Derived.Shelf.Strconv.Itoa1
import Derived.Shelf.LaysM
import Derived.Shelf.Strconv.Itoa2
import Derived.Shelf.Strconv.Itoa3
import Derived.Shelf.Strings.Search1
import Derived.Shelf.Strings.Search2
import Derived.Shelf.Strings.Search3
import Derived.Shelf.Strings.Cut
import Derived.Shelf.Strings.Count
import Derived.Shelf.Strings.Shaped
import Derived.Shelf.Strings.Split
import Derived.Shelf.Unicode.DecodeSlow
import Derived.Test.YtcbjphphppaoiaaGreatDoorProg
import Derived.Test.YtcbjphphppaoiaaGreatDoorB1
namespace Go.Ab
open Int renaming toNat_natCast→aU4,tmod→aVg
open List renaming length_append→aU5,length_nil→aU8,length_cons→aU9,getD_eq_getElem?_getD→aVb,length_take→aVc,getElem?_eq_getElem→aVd,getElem?_eq_some_iff→aVe,range→aVh,all_eq_true→aVi,mem_map→aVj,length_drop→aVk,take_length→aVl,mem_cons→aVm,mem_singleton→aVn,mem_iff_getElem?→aVp
open Nat renaming le_of_ble_eq_true→aU6,zero_le→aVa,le_refl→aVf,add_mul→aVo
open Bool renaming and_eq_true→aU7
open Go Go.RowKit
set_option linter.unusedVariables false
set_option linter.unusedSimpArgs false
def wQ (b:Int):Nat→Int
 |0=>0
 |d+1=>wQ b d+nG b ((d+1:Nat):Int)
def mv (b n:Int):Int:=aVg (wrap64 (Int.tdiv (eT (eT (wrap64 (wrap64 (n*31)+b)))) 16)) (wQ b b.toNat)
def aj (b:Int) (r:Int):Nat→Nat→Int
 |0,_=>b
 |f+1,d=>if(d:Int)<b then(if r<wQ b d then d else aj b r f (d+1)) else b
def kQ (b n:Int):Int:=if sY b n then(if n<b then 1 else aj b (mv b n) 6 1) else 0
theorem vC {b:Int} (hb:1≤b∧b≤6): ∀{d:Nat},(d:Int)≤6→0≤wQ b d∧wQ b d≤70*d∧(1≤d→10≤wQ b d)
 |0,_=>by simp[wQ]
 |d+1,h=>by
  have ih:=vC hb (d:=d) (by omega)
  have hw:=uS (b:=b) (d:=((d+1:Nat):Int)) hb (by omega)
  unfold wQ
  refine⟨by omega,by omega,fun _=> ?_⟩
  by_cases h0:d=0
  · subst h0
    have:=hw.2.2 rfl
    omega
  · have:=ih.2.2 (by omega);omega
theorem uh {b r:Int} (hb:1≤b): ∀(f d:Nat),1≤d→1≤aj b r f d∧aj b r f d≤b
 |0,d,h=>by unfold aj;omega
 |f+1,d,h=>by
  unfold aj
  split
  · split
    · omega
    · exact uh hb f (d+1) (by omega)
  · omega
theorem tC {b n:Int} (h:sY b n=true):1≤kQ b n∧kQ b n≤b:=by
 obtain⟨hb,_⟩:=xG h
 unfold kQ
 rw[if_pos h]
 split
 · omega
 · exact uh hb.1 6 1 (aVf _)
theorem aNt {b r:Int} {f d:Nat} (hd: (d:Int)<b) (h:r<wQ b d):aj b r (f+1) d=d:=by
 unfold aj;rw[if_pos hd,if_pos h]
theorem aK5 {b r:Int} {f d:Nat} (hd: (d:Int)<b) (h: ¬r<wQ b d):aj b r (f+1) d=aj b r f (d+1):=by
 conv=>lhs;unfold aj
 rw[if_pos hd,if_neg h]
theorem jv {b r:Int} {f d:Nat} (hd: ¬(d:Int)<b):aj b r f d=b:=by
 cases f with
 |zero=>rfl
 |succ f=>unfold aj;rw[if_neg hd]
def sR (u:List Bool) (b:Int):Nat→Int→Int
 |0,a=>a
 |f+1,a=>if u.getD a.toNat false then sR u b f (aVg (wrap64 (a+1)) b) else a
def yX (b x:Int) (u:List Bool):List Bool:=u.set (sR u b 6 (aVg (wrap64 (Int.tdiv (eT x) 16)) b)).toNat true
def aEr (b:Int):Nat→Int→List Bool→List Bool
 |0,_,u=>u
 |k+1,x,u=>aEr b k (eT x) (yX b x u)
def wR (b n:Int):List Bool:=aEr b (kQ b n).toNat (eT (wrap64 (wrap64 (n*7)+1))) (List.replicate 6 false)
def aS3 (u:List Bool):List Int:=((aVh u.length).filter fun i=>u.getD i false).map fun(i:Nat)=>((i:Nat):Int)
def cQ (b n:Int):List Int:=if sY b n then(if n<b then [n] else aS3 (wR b n)) else []
theorem dt {u:List Bool} {b a:Int} {f:Nat} (h:u.getD a.toNat false=false):sR u b f a=a:=by
 cases f with
 |zero=>rfl
 |succ f=>unfold sR;rw[h];rfl
theorem yY {u:List Bool} {b a:Int} {f:Nat} (h:u.getD a.toNat false=true):sR u b (f+1) a=sR u b f (aVg (wrap64 (a+1)) b):=by
 conv=>lhs;unfold sR
 rw[if_pos h]
theorem ui {u:List Bool} {b:Int} (hb:1≤b∧b≤6) {f:Int} (hf:0≤f∧f<b) (hfree:u.getD f.toNat false=false): ∀(g:Nat) (a:Int),0≤a∧a<b→((f+b - a) % b).toNat≤g→
 (0≤sR u b g a∧sR u b g a<b)∧u.getD (sR u b g a).toNat false=false
 |0,a,ha,hg=>by
  have e:a=f:=by
   by_cases h:a<f
   · have: (f+b - a) % b=f - a:=by
      rw[show f+b - a=(f - a)+b by omega,Int.add_emod_right,Int.emod_eq_of_lt (by omega) (by omega)]
     omega
   · by_cases h2:a=f
     · exact h2
     · have: (f+b - a) % b=f+b - a:=Int.emod_eq_of_lt (by omega) (by omega)
       omega
  subst e
  exact⟨ha,hfree⟩
 |g+1,a,ha,hg=>by
  cases hu:u.getD a.toNat false with
  |false=>rw[dt hu];exact⟨ha,hu⟩
  |true=>
   have hne:a≠f:=fun e=>by subst e;rw[hfree] at hu;cases hu
   obtain⟨q1,q2⟩:=aG5 hb hf ha hne
   rw[yY hu]
   exact ui hb hf hfree g _ q2 (by omega)
theorem aAp {b x:Int} (hb:1≤b∧b≤6):0≤aVg (wrap64 (Int.tdiv (eT x) 16)) b∧aVg (wrap64 (Int.tdiv (eT x) 16)) b<b:=by
 have hr:=be x
 exact nF (x:=wrap64 (Int.tdiv (eT x) 16)) (n:=b) (by rw[aE (by have:=oY hr.1 (n:=16) (by omega);omega)];exact(oY hr.1 (by omega)).1) hb.1
def UOk (b:Int) (u:List Bool):Prop:=u.length=6∧ ∀i:Nat,b≤i→u.getD i false=false
theorem aEs {b:Int} {u:List Bool} (hb:1≤b∧b≤6) (h:UOk b u) (hc: (u.count true:Int)<b): ∃f:Int,(0≤f∧f<b)∧u.getD f.toNat false=false:=by
 obtain⟨f,hf1,hf2⟩:=aD1 (u:=u.take b.toNat) (by
  have h1: (u.take b.toNat).count true≤u.count true:=(List.take_sublist _ _).count_le _
  rw[aVc,h.1];omega)
 rw[aVc,h.1] at hf1
 refine⟨f,by omega,?_⟩
 rw[dk (by omega)] at hf2
 rw[aU4];exact hf2
theorem aEt {b x:Int} {u:List Bool} (hb:1≤b∧b≤6) (h:UOk b u) (hc: (u.count true:Int)<b):UOk b (yX b x u)∧(yX b x u).count true=u.count true+1:=by
 obtain⟨f,hf,hfree⟩:=aEs hb h hc
 have ha:=aAp (x:=x) hb
 obtain⟨q1,q2⟩:=ui hb hf hfree 6 _ ha (by
  have:=Int.emod_lt_of_pos (f+b - aVg (wrap64 (Int.tdiv (eT x) 16)) b) (show 0<b by omega)
  have:=Int.emod_nonneg (f+b - aVg (wrap64 (Int.tdiv (eT x) 16)) b) (show b≠0 by omega)
  omega)
 refine⟨⟨by rw[yX,List.length_set];exact h.1,fun i hi=> ?_⟩,?_⟩
 · rw[yX,aVb,List.getElem?_set_ne (by omega),← aVb]
   exact h.2 i hi
 · exact aKg (by rw[h.1];omega) q2
theorem xN (b:Int):UOk b (List.replicate 6 false)∧(List.replicate 6 false).count true=0:=by
 refine⟨⟨rfl,fun i _=> ?_⟩,rfl⟩
 rw[aVb,List.getElem?_replicate]
 split<;>rfl
def dS (t:List UInt8):List (List UInt8):=if iB t.length 1 24 then(aVh ((t.length+3) / 4)).map fun i=>(aVh 4).map fun j=>t.getD (4*i+j) 0 else []
def xq (a b:List UInt8):List UInt8:=(aVh 4).map fun i=>u8 (lq (iT a i) (iT b i))
def xO (bl:List (List UInt8)):List UInt8→List Int→List UInt8
 |x,[]=>x
 |x,k::ks=>xO bl (xq x (bl.getD k.toNat [])) ks
def yZ (t:List UInt8) (n:Int):List UInt8:=
 if dS t=[]∨cQ (dS t).length n=[] then [] else xO (dS t) [0,0,0,0] (cQ (dS t).length n)
def jS (n:Nat):List UInt8:=hG++[32]++kC n
def jw (n:Nat):List UInt8:=iO++[32]++kC n
def iK (w:List UInt8) (m:bQ):List UInt8:=w++[32]++kC m.frm.toNat++[32]++kC m.num.toNat++[32]++kC m.til.toNat
def cI (w:List UInt8) (n:aR):List UInt8:=w++[32]++gD n
def aB4 (k:aL):List (List UInt8):=
 (if 0<k.time then [jS k.time.toNat] else [])++(if 1<k.next then [jw k.next.toNat] else [])++k.marks.map (iK gV)++k.held.map (cI gU)++k.inbox.map (cI fT)
def jK (k:aL):List (List UInt8):=if cO k then aB4 k else []
def lY (k:aS) (s:List UInt8×Int):aS:={k with log:=s.1,forced:=s.2}
def pL (k:aS) (rec:List UInt8):aS×Bool:=
 if(aO (bC k).1 rec).2 then
  if(cD k.log k.forced rec).2 then(lY k (cD k.log k.forced rec).1,true)
  else if(fC k.log k.forced (jK (bC k).1)).2 then
   if(cD (fC k.log k.forced (jK (bC k).1)).1.1 (fC k.log k.forced (jK (bC k).1)).1.2 rec).2 then
    (lY k (cD (fC k.log k.forced (jK (bC k).1)).1.1 (fC k.log k.forced (jK (bC k).1)).1.2 rec).1,true)
   else(k,false)
  else(k,false)
 else(k,false)
def jT (k:aS) (rec:List UInt8):aS×Bool:=if(pL k rec).2 then(vB (pL k rec).1,true) else(k,false)
def eM (k:aS):aS×Bool:=if bG k then(if k.up then jT k (jS ((bC k).1.time+1).toNat) else(k,false)) else(.zero,false)
def oQ (k:aS) (to til:Int) (text:List UInt8):aR:=⟨k.id,(bC k).1.next,to,til,text⟩
def eE (k:aS) (to til:Int) (text:List UInt8):aS×Int:=
 if bG k then(if k.up then(if(jT k (cI fS (oQ k to til text))).2 then((jT k (cI fS (oQ k to til text))).1,(bC k).1.next) else(k,0)) else(k,0)) else(.zero,0)
def zA (k:aS) (f n:Int):List UInt8:=iK lD ⟨f,n,((bC k).1.inbox.getD (aX (bC k).1.inbox f n).toNat .zero).til⟩
def cL (k:aS) (f n:Int):aS×aR×Bool:=
 if bG k then
  (if k.up&&decide (0≤aX (bC k).1.inbox f n) then(if(jT k (zA k f n)).2 then((jT k (zA k f n)).1,(bC k).1.inbox.getD (aX (bC k).1.inbox f n).toNat .zero,true) else(k,.zero,false)) else(k,.zero,false))
 else(.zero,.zero,false)
def cH.zero:cH:=⟨0,0,0,0,0,0,0,0,0,[]⟩
def aEu (k:aS) (n:aR) (mix:Int):cH:=⟨1,k.id,iN k.id n.to,n.frm,n.num,n.to,n.til,n.text.length,mix,yZ n.text mix⟩
def eK (k:aS) (f n mix:Int):cH×Bool:=
 if bG k&&k.up&&iB mix 0 999&&decide (0≤aX (bC k).1.held f n) then(aEu k ((bC k).1.held.getD (aX (bC k).1.held f n).toNat .zero) mix,true) else(.zero,false)
def eG (k:aS):aS×Bool:=
 if bG k then(if k.up&&(fC k.log k.forced (jK (bC k).1)).2 then(lY k (fC k.log k.forced (jK (bC k).1)).1,true) else(k,false)) else(.zero,false)
section
variable {τ σ':St} {rl:List (Nat×Nat)} {bor:List Nat} {r:St}
end
section
variable {P:Program} {T:gQ} {o:Oper} {σ:St} {x y:Operand} {d ob j:Nat} {t ty:TypeId} {ti:TI} {Rx Ry:List (dF×Option K)} {k:List (dF×Option K)→List (dF×K)→Prop}
end
theorem aB5 {d:Int} (h:2≤d∧d≤6):wrap64 (d*wrap64 (d - 1))≠0:=by
 rw[aE (n:=d - 1) (by omega)]
 have:d=2∨d=3∨d=4∨d=5∨d=6:=by omega
 rcases this with rfl|rfl|rfl|rfl|rfl<;>(rw[aE (by omega)];omega)
theorem qf {b n:Int} (h:sY b n=true) (hn:n<b):kQ b n=1:=by rw[kQ,if_pos h,if_pos hn]
theorem xr {b n:Int} (h:sY b n=true) (hn: ¬n<b):kQ b n=aj b (mv b n) 6 1:=by rw[kQ,if_pos h,if_neg hn]
theorem aK6 {b r:Int} {j:Nat} (hj:j+1≤6) (hle: ((j+1:Nat):Int)≤b) (h: ¬r<wQ b (j+1)):aj b r (6 - j) (j+1)=aj b r (6 - (j+1)) (j+1+1):=by
 by_cases hb: ((j+1:Nat):Int)<b
 · rw[show 6 - j=(6 - (j+1))+1 by omega,aK5 hb h]
 · rw[jv hb,jv (by omega)]
theorem aK7 {b r:Int} {j:Nat} (hj:j+1≤6) (hle: ((j+1:Nat):Int)≤b) (h:r<wQ b (j+1)):aj b r (6 - j) (j+1)=((j+1:Nat):Int):=by
 by_cases hb: ((j+1:Nat):Int)<b
 · rw[show 6 - j=(6 - (j+1))+1 by omega,aNt hb h]
 · rw[jv hb];omega
theorem aHm {b n:Int} (hb:1≤b∧b≤6):0≤mv b n∧mv b n<wQ b b.toNat:=by
 have h1:=(vC hb (d:=b.toNat) (by omega)).2.2 (by omega)
 have hr:=be (eT (wrap64 (wrap64 (n*31)+b)))
 exact nF (x:=wrap64 (Int.tdiv (eT (eT (wrap64 (wrap64 (n*31)+b)))) 16)) (by rw[aE (by have:=oY hr.1 (n:=16) (by omega);omega)];exact(oY hr.1 (by omega)).1) (by omega)
theorem uj {u:List Bool} {b:Int} (hb:1≤b∧b≤6) {f:Int} (hf:0≤f∧f<b) (hfree:u.getD f.toNat false=false): ∀(g h:Nat) (a:Int),0≤a∧a<b→((f+b - a) % b).toNat≤g→((f+b - a) % b).toNat≤h→sR u b g a=sR u b h a
 |g,h,a,ha,hg,hh=>by
  cases hu:u.getD a.toNat false with
  |false=>rw[dt hu,dt hu]
  |true=>
   have hne:a≠f:=fun e=>by subst e;rw[hfree] at hu;cases hu
   obtain⟨q1,q2⟩:=aG5 hb hf ha hne
   match g,h,hg,hh with
   |0,_,hg,_=>omega
   |_+1,0,_,hh=>omega
   |g+1,h+1,hg,hh=>
    rw[yY hu,yY hu]
    exact uj hb hf hfree g h _ q2 (by omega) (by omega)
theorem aNu {u:List Bool} {b:Int} (hb:1≤b∧b≤6) {f:Int} (hf:0≤f∧f<b) (hfree:u.getD f.toNat false=false) {a:Int} (ha:0≤a∧a<b) (hu:u.getD a.toNat false=true):sR u b 6 a=sR u b 6 (aVg (wrap64 (a+1)) b):=by
 have h1:=Int.emod_lt_of_pos (f+b - a) (show 0<b by omega)
 have h2:=Int.emod_nonneg (f+b - a) (show b≠0 by omega)
 rw[uj hb hf hfree 6 7 a ha (by omega) (by omega),yY hu]
def pB (u:List Bool) (i:Nat):List Int:=((aVh i).filter fun i=>u.getD i false).map fun(i:Nat)=>((i:Nat):Int)
theorem uk {u:List Bool} {i:Nat} (h:u.getD i false=true):pB u (i+1)=pB u i++[(i:Int)]:=by
 unfold pB
 rw[List.range_succ,List.filter_append,List.map_append,List.filter_cons_of_pos (by exact h)]
 rfl
theorem mw {u:List Bool} {i:Nat} (h:u.getD i false=false):pB u (i+1)=pB u i:=by
 unfold pB
 rw[List.range_succ,List.filter_append,List.map_append,List.filter_cons_of_neg (by rw[h];exact Bool.false_ne_true)]
 exact List.append_nil _
theorem ul {u:List Bool}:pB u u.length=aS3 u:=rfl
theorem pj {u:List Bool} {i:Nat} (h: ∀j,i≤j→u.getD j false=false): ∀{m:Nat},i≤m→pB u m=pB u i
 |0,hm=>by rw[Nat.le_zero.1 hm]
 |m+1,hm=>by
  by_cases e:i=m+1
  · rw[e]
  · rw[mw (h m (by omega)),pj h (by omega)]
theorem en (u:List Bool) (i:Nat): (pB u i).length≤i:=by
 unfold pB
 rw[List.length_map]
 exact Nat.le_trans (List.length_filter_le _ _) (by simp)
theorem aHn {u:List Bool} {i:Nat} {x:Int} (h:x∈pB u i):0≤x∧u.getD x.toNat false=true:=by
 unfold pB at h
 obtain⟨j,hj,rfl⟩:=aVj.1 h
 have:=(List.mem_filter.1 hj).2
 exact⟨by omega,by rw[aU4];exact this⟩
theorem zB {b n:Int} (h: ¬sY b n=true):cQ b n=[]:=if_neg h
theorem bp {b n:Int} (h:sY b n=true) (hn:n<b):cQ b n=[n]:=by rw[cQ,if_pos h,if_pos hn]
theorem my {b n:Int} (h:sY b n=true) (hn: ¬n<b):cQ b n=aS3 (wR b n):=by rw[cQ,if_pos h,if_neg hn]
theorem mz {b:Int} (hb:1≤b∧b≤6): ∀(k:Nat) (x:Int) (u:List Bool),UOk b u→((u.count true:Int)+k≤b)→UOk b (aEr b k x u)
 |0,x,u,h,_=>h
 |k+1,x,u,h,hc=>by
  obtain⟨h1,h2⟩:=aEt (x:=x) hb h (by omega)
  exact mz hb k (eT x) _ h1 (by rw[h2];omega)
theorem vV {b n:Int}: ∀x∈cQ b n,0≤x∧x<b:=by
 intro x hx
 by_cases h:sY b n=true
 · obtain⟨hb,hn⟩:=xG h
   by_cases hs:n<b
   · rw[bp h hs] at hx
     simp at hx;omega
   · rw[my h hs] at hx
     have hu:UOk b (wR b n):=mz hb _ _ _ (xN b).1 (by rw[(xN b).2];have:=tC h;omega)
     obtain⟨q1,q2⟩:=aHn (i:=(wR b n).length) hx
     refine⟨q1,?_⟩
     by_cases hlt:x<b
     · exact hlt
     · rw[hu.2 x.toNat (by omega)] at q2;cases q2
 · rw[zB h] at hx;cases hx
theorem jx (b n:Int): (cQ b n).length≤6:=by
 by_cases h:sY b n=true
 · obtain⟨hb,hn⟩:=xG h
   by_cases hs:n<b
   · rw[bp h hs];simp
   · rw[my h hs]
     have hu:UOk b (wR b n):=mz hb _ _ _ (xN b).1 (by rw[(xN b).2];have:=tC h;omega)
     rw[← ul]
     have:=en (wR b n) (wR b n).length
     have:=hu.1;omega
 · rw[zB h];simp
def bq (t:List UInt8) (i c:Nat):List UInt8:=(aVh c).map fun j=>t.getD (4*i+j) 0
def vW (t:List UInt8) (k:Nat):List (List UInt8):=(aVh k).map fun i=>bq t i 4
def um (a b:List UInt8) (k:Nat):List UInt8:=(aVh k).map fun i=>u8 (lq (iT a i) (iT b i))
theorem zC (t:List UInt8) (i c:Nat):bq t i (c+1)=bq t i c++[t.getD (4*i+c) 0]:=by
 unfold bq;rw[List.range_succ,List.map_append];rfl
theorem aHo (t:List UInt8) (k:Nat):vW t (k+1)=vW t k++[bq t k 4]:=by
 unfold vW;rw[List.range_succ,List.map_append];rfl
theorem aHp (a b:List UInt8) (k:Nat):um a b (k+1)=um a b k++[u8 (lq (iT a k) (iT b k))]:=by
 unfold um;rw[List.range_succ,List.map_append];rfl
theorem lZ (t:List UInt8) (i c:Nat): (bq t i c).length=c:=by simp[bq]
theorem zD (t:List UInt8) (k:Nat): (vW t k).length=k:=by simp[vW]
theorem jy (a b:List UInt8) (k:Nat): (um a b k).length=k:=by simp[um]
theorem un {t:List UInt8} (h:iB t.length 1 24=true):dS t=vW t ((t.length+3) / 4):=if_pos h
theorem aAq {t:List UInt8} (h: ¬iB t.length 1 24=true):dS t=[]:=if_neg h
theorem aHq {t:List UInt8}: (dS t).length≤6∧ ∀x∈dS t,x.length=4:=by
 by_cases h:iB t.length 1 24=true
 · rw[un h]
   refine⟨?_,fun x hx=> ?_⟩
   · rw[zD]
     have h1: (1:Int)≤t.length∧(t.length:Int)≤24:=by simpa[iB] using h
     omega
   · obtain⟨i,_,rfl⟩:=aVj.1 hx
     exact lZ t i 4
 · rw[aAq h];exact⟨by simp,fun x hx=>by cases hx⟩
theorem pn (a b:List UInt8): (xq a b).length=4:=by simp[xq]
theorem uo (bl:List (List UInt8)): ∀(x:List UInt8) (l:List Int) (k:Int),xO bl x (l++[k])=xq (xO bl x l) (bl.getD k.toNat [])
 |x,[],k=>rfl
 |x,j::l,k=>uo bl _ l k
def aNv (bl:List (List UInt8)) (ks:List Int) (i:Nat):List UInt8:=if i=0 then [] else xO bl [0,0,0,0] (ks.take i)
theorem aHr {bl:List (List UInt8)} {ks:List Int} {i:Nat} (h:i<ks.length) {x:List UInt8}:xO bl x (ks.take (i+1))=xq (xO bl x (ks.take i)) (bl.getD (ks.getD i 0).toNat []):=by
 rw[fQ (z:=0) h,uo]
theorem jz {bl:List (List UInt8)} {ks:List Int}: ∀{x:List UInt8},x.length=4→(xO bl x ks).length=4:=by
 induction ks with
 |nil=>intro x h;exact h
 |cons k ks ih=>intro x h;exact ih (pn _ _)
theorem ka {t:List UInt8} {n:Int} (h:dS t=[]∨cQ (dS t).length n=[]):yZ t n=[]:=if_pos h
theorem kc {t:List UInt8} {n:Int} (h: ¬(dS t=[]∨cQ (dS t).length n=[])):yZ t n=xO (dS t) [0,0,0,0] (cQ (dS t).length n):=if_neg h
theorem aHs (n:Int):cQ ((([]:List (List UInt8)).length:Nat):Int) n=[]:=zB (by simp[sY,iB])
theorem aHt {t:List UInt8} {n:Int}:yZ t n=aNv (dS t) (cQ (dS t).length n) (cQ (dS t).length n).length:=by
 by_cases h:cQ (dS t).length n=[]
 · rw[ka (.inr h),h];rfl
 · have h2: ¬dS t=[]:=fun e=>h (by rw[e];exact aHs n)
   rw[kc (by rintro(h3|h3);exact h2 h3;exact h h3),aNv,if_neg (by rw[List.length_eq_zero_iff];exact h),aVl]
theorem uq (t:List UInt8) (n:Int): (yZ t n).length≤4:=by
 rw[aHt,aNv]
 split
 · simp
 · rw[jz rfl];omega
theorem aS4 {t:List UInt8} {n:Int} {i:Nat} (h:i< (cQ (dS t).length n).length):0≤(cQ (dS t).length n).getD i 0∧(cQ (dS t).length n).getD i 0< (dS t).length∧((dS t).getD ((cQ (dS t).length n).getD i 0).toNat []).length=4:=by
 have h1:=vV (b:=(dS t).length) (n:=n) ((cQ (dS t).length n).getD i 0) (by rw[aVb,aVd h];exact List.getElem_mem _)
 refine⟨h1.1,h1.2,(aHq (t:=t)).2 _ ?_⟩
 rw[aVb,aVd (by omega)];exact List.getElem_mem _
theorem getD_none {α:Type} {l:List α} {i:Nat} {z:α} (h:l.length≤i):l.getD i z=z:=by
 rw[aVb,List.getElem?_eq_none h];rfl
deriving instance DecidableEq for cH
theorem aAr {k:aL} {r:List UInt8} (h: (aO k r).2=true):cO (aO k r).1=true:=by
 unfold aO at h ⊢
 split at h
 · rename_i hk
   rw[if_pos hk]
   unfold kD at h ⊢
   split at h
   · rename_i hx
     rw[if_pos hx]
     simp only[aU7] at hx
     exact hx.2
   · cases h
 · cases h
theorem aAs: ∀{rs:List (List UInt8)} {k:aL},cO k=true→(oH k rs).2=true→cO (oH k rs).1=true
 | [],k,hk,h=>hk
 |r::rs,k,hk,h=>by
  unfold oH at h ⊢
  split at h
  · rename_i hd
    rw[if_pos hd]
    exact aAs (aAr hd) h
  · cases h
theorem aB6 {id:Int} (h:eC id=true):cO (bB id)=true:=by
 simp[cO,bB,h,iB,jP,nV]
theorem aK8 {id:Int} {rs:List (List UInt8)} (h: (iE id rs).2=true):cO (iE id rs).1=true:=by
 unfold iE at h ⊢
 split at h
 · rename_i hn
   rw[if_pos hn]
   exact aAs (aB6 hn) h
 · cases h
theorem iA {k:aS} (h:bG k=true):cO (bC k).1=true:=by
 unfold bG at h
 simp only[aU7] at h
 exact aK8 h.1.1.2
theorem lE {k:aS} (h:bG k=true):dP k=(bC k).1:=if_pos h
theorem ke {k:aS} {f n mix:Int} (h: ¬(bG k&&k.up&&iB mix 0 999&&decide (0≤aX (bC k).1.held f n))=true):eK k f n mix=(.zero,false):=if_neg h
theorem xu {k:aS} {f n mix:Int} (h1:bG k=true) (h2:k.up=true) (h3:iB mix 0 999=true) (h4:0≤aX (bC k).1.held f n):eK k f n mix=(aEu k ((bC k).1.held.getD (aX (bC k).1.held f n).toNat .zero) mix,true):=by
 unfold eK
 rw[if_pos (by rw[h1,h2,h3,decide_eq_true h4];rfl)]
theorem rM {k:aS} (h:bG k=true) {f n:Int} (hp:0≤aX (bC k).1.held f n): ∃j:Nat,aX (bC k).1.held f n=j∧j< (bC k).1.held.length∧((bC k).1.held.getD j .zero).text.length≤140737488355328:=by
 obtain⟨j,hj⟩:=Int.eq_ofNat_of_zero_le hp
 have hlt:=(fR (bC k).1.held f n).2
 refine⟨j,hj,by omega,?_⟩
 have h6:=eL (iA h)
 exact h6.2.1 _ (cW (z:=aR.zero) (l:=(bC k).1.held) (i:=j) (by omega))
structure qB where
 frm:Int
 to:Int
 data:List UInt8
 done:Bool
 deriving DecidableEq
def qB.row (p:qB):List D:=[.i p.frm,.i p.to,.s p.data,.b p.done]
abbrev qB.V (p:qB):V:= .e (.agg [.d (.i p.frm),.d (.i p.to),.d (.s p.data),.d (.b p.done)])
def qB.zero:qB:=⟨0,0,[],false⟩
def ur (l:List qB):List (List D):=l.map qB.row
def aG (l:List aS):List (List D):=l.map aS.row
structure na where
 time:Int
 keepers:List aS
 links:List Bool
 radio:List qB
 sent:List aR
 got:List aR
 deriving DecidableEq
def na.row (r:na):List D:=[.i r.time,.sl (aG r.keepers),.sl (aM r.links),.sl (ur r.radio),.sl (aD r.sent),.sl (aD r.got)]
abbrev na.V (r:na):V:= .e (.agg [.d (.i r.time),.d (.sl (aG r.keepers)),.d (.sl (aM r.links)),.d (.sl (ur r.radio)),.d (.sl (aD r.sent)),.d (.sl (aD r.got))])
def na.zero:na:=⟨0,[],[],[],[],[]⟩
theorem bD (l:List aS): (aG l).length=l.length:=by simp[aG]
theorem cB {l:List aS} {i:Nat} (h:i<l.length): (aG l).getD i []=(l.getD i aS.zero).row:=by
 rw[aVb,aVb]
 simp[aG,h]
theorem aB7 {l:List UInt8} {f:Int} {rec:List UInt8} (h: ¬fL l f=true):cD l f rec=(([],0),false):=if_neg h
theorem aEv {l:List UInt8} {f:Int} {rec:List UInt8} (h:fL l f=true) (h2: ¬(vU rec=true∧l.length+(lX rec).length≤2400)):cD l f rec=((l,f),false):=by
 unfold cD
 rw[if_pos h,if_neg (by simpa using h2)]
theorem aB8 {l:List UInt8} {f:Int} {rec:List UInt8} (h:fL l f=true) (h2:vU rec=true∧l.length+(lX rec).length≤2400):cD l f rec=((l++lX rec,f),true):=by
 unfold cD
 rw[if_pos h,if_pos (by simpa using h2)]
theorem xv {l:List UInt8} {f:Int} {recs:List (List UInt8)} (h: ¬fL l f=true):fC l f recs=(([],0),false):=if_neg h
theorem kf {l:List UInt8} {f:Int} {recs:List (List UInt8)} (h:fL l f=true) (h2: ¬(recs.all vU=true∧(iF recs).length≤2400)):fC l f recs=((l,f),false):=by
 unfold fC
 rw[if_pos h,if_neg (by simpa using h2)]
theorem xw {l:List UInt8} {f:Int} {recs:List (List UInt8)} (h:fL l f=true) (h2:recs.all vU=true∧(iF recs).length≤2400):fC l f recs=((iF recs,((iF recs).length:Int)),true):=by
 unfold fC
 rw[if_pos h,if_pos (by simpa using h2)]
theorem aB9 {recs:List (List UInt8)} {i:Nat} (h:i<recs.length):iF (recs.take (i+1))=iF (recs.take i)++lX (recs.getD i []):=by
 rw[fQ (z:=[]) h,aB3]
theorem aHu (recs:List (List UInt8)) (i:Nat): (iF (recs.take i)).length≤(iF recs).length:=by
 conv=>rhs;rw[← List.take_append_drop i recs]
 unfold iF
 rw[List.map_append,List.flatten_append,aU5]
 omega
theorem ep: ∀{recs:List (List UInt8)},(∀r∈recs,r.length≤900000)→(iF recs).length≤recs.length*900008
 | [],_=>by simp[iF]
 |r::recs,h=>by
  have h1:=bo (h r (List.mem_cons_self ..))
  have h2:=ep (recs:=recs) fun x hx=>h x (List.mem_cons_of_mem _ hx)
  have h3:=h r (List.mem_cons_self ..)
  have e:iF (r::recs)=lX r++iF recs:=by simp[iF]
  rw[e,aU5,aU9]
  omega
theorem aNw {recs:List (List UInt8)} {i:Nat} (h:i<recs.length) (hb:vU (recs.getD i [])=false): ¬recs.all vU=true:=by
 intro h9
 rw[aVi.1 h9 _ (cW h)] at hb
 cases hb
theorem aK9 {recs:List (List UInt8)} (hk: ∀j,j<recs.length→vU (recs.getD j [])=true):recs.all vU=true:=by
 rw[aVi]
 intro x hx
 obtain⟨i,hi⟩:=aVp.1 hx
 have hlt:=(aVe.1 hi).1
 have:=hk i hlt
 rw[aVb,hi] at this
 exact this
theorem aEw {a:Bool} {n m:Nat} {c:Bool} (h: (!a||decide (wrap64 ((n:Int)+(m:Int))>2400))=c) (hn:n≤2400) (hm:m≤1000000): (a=true∧n+m≤2400)↔c=false:=by
 subst h
 rw[aE (by omega)]
 cases a
 · simp
 · simp;omega
def br (k:aL):List (List UInt8):=if 0<k.time then [jS k.time.toNat] else []
def bs (k:aL):List (List UInt8):=br k++(if 1<k.next then [jw k.next.toNat] else [])
def tJ (k:aL) (i:Nat):List (List UInt8):=bs k++(k.marks.take i).map (iK gV)
def vX (k:aL) (i:Nat):List (List UInt8):=tJ k k.marks.length++(k.held.take i).map (cI gU)
def vY (k:aL) (i:Nat):List (List UInt8):=vX k k.held.length++(k.inbox.take i).map (cI fT)
theorem aLa {k:aL} (h:k.time>0):br k=[jS k.time.toNat]:=if_pos h
theorem aNx {k:aL} (h: ¬k.time>0):br k=[]:=if_neg h
theorem aLb {k:aL} (h:k.next>1):bs k=br k++[jw k.next.toNat]:=by rw[bs,if_pos h]
theorem aNy {k:aL} (h: ¬k.next>1):bs k=br k:=by rw[bs,if_neg h,List.append_nil]
theorem aHv (k:aL):tJ k 0=bs k:=by simp[tJ]
theorem aHw (k:aL):vX k 0=tJ k k.marks.length:=by simp[vX]
theorem aHx (k:aL):vY k 0=vX k k.held.length:=by simp[vY]
theorem aHy {k:aL} {i:Nat} (h:i<k.marks.length):tJ k (i+1)=tJ k i++[iK gV (k.marks.getD i .zero)]:=by
 unfold tJ
 rw[fQ (z:=bQ.zero) h,List.map_append,← List.append_assoc];rfl
theorem aHz {k:aL} {i:Nat} (h:i<k.held.length):vX k (i+1)=vX k i++[cI gU (k.held.getD i .zero)]:=by
 unfold vX
 rw[fQ (z:=aR.zero) h,List.map_append,← List.append_assoc];rfl
theorem aH0 {k:aL} {i:Nat} (h:i<k.inbox.length):vY k (i+1)=vY k i++[cI fT (k.inbox.getD i .zero)]:=by
 unfold vY
 rw[fQ (z:=aR.zero) h,List.map_append,← List.append_assoc];rfl
theorem aAt (k:aL):vY k k.inbox.length=aB4 k:=by
 unfold vY vX tJ bs br aB4
 rw[aVl,aVl,aVl]
theorem aEx (k:aL): (bs k).length≤2:=by
 unfold bs br
 split<;>split<;>simp
theorem aEy (k:aL) (i:Nat): (tJ k i).length≤2+k.marks.length:=by
 have:=aEx k
 unfold tJ
 rw[aU5,List.length_map,aVc];omega
theorem aEz (k:aL) (i:Nat): (vX k i).length≤2+k.marks.length+k.held.length:=by
 have:=aEy k k.marks.length
 unfold vX
 rw[aU5,List.length_map,aVc];omega
theorem aE0 (k:aL) (i:Nat): (vY k i).length≤2+k.marks.length+k.held.length+k.inbox.length:=by
 have:=aEz k k.held.length
 unfold vY
 rw[aU5,List.length_map,aVc];omega
theorem kg {k:aL} (h:cO k=true):jK k=vY k k.inbox.length:=by rw[aAt];exact if_pos h
theorem po {k:aL} (h: ¬cO k=true):jK k=[]:=if_neg h
theorem aH1 {k:aL} (hk:cO k=true) {i:Nat} (h:i<k.marks.length): (0≤(k.marks.getD i .zero).frm∧(k.marks.getD i .zero).frm≤3)∧(1≤(k.marks.getD i .zero).num∧(k.marks.getD i .zero).num≤99)∧(1≤(k.marks.getD i .zero).til∧(k.marks.getD i .zero).til≤999):=by
 obtain⟨_,⟨_,h5,_⟩,_⟩:=(bX k).1 hk
 exact tS (sQ h5 (cW h))
theorem iS (n:aR): (gD n).length≤60:=by
 by_cases h:eD n=true
 · obtain⟨p1,p2,p3,p4,p5⟩:=lW h
   have q1:=bZ (k:=3) (n:=n.frm.toNat) (by simp;omega)
   have q2:=bZ (k:=3) (n:=n.num.toNat) (by simp;omega)
   have q3:=bZ (k:=3) (n:=n.to.toNat) (by simp;omega)
   have q4:=bZ (k:=3) (n:=n.til.toNat) (by simp;omega)
   rw[gD,if_pos h]
   simp only[kV,aU5,aU9,aU8];omega
 · rw[gD,if_neg h];simp
theorem bt {w:List UInt8} {m:bQ} (h: (0≤m.frm∧m.frm≤1000000)∧(0≤m.num∧m.num≤1000000)∧(0≤m.til∧m.til≤1000000)): (iK w m).length≤w.length+30:=by
 have q1:=bZ (k:=6) (n:=m.frm.toNat) (by simp;omega)
 have q2:=bZ (k:=6) (n:=m.num.toNat) (by simp;omega)
 have q3:=bZ (k:=6) (n:=m.til.toNat) (by simp;omega)
 unfold iK
 simp only[aU5,aU9,aU8];omega
theorem vZ (w:List UInt8) (n:aR): (cI w n).length≤w.length+61:=by
 have:=iS n
 unfold cI
 simp only[aU5,aU9,aU8];omega
theorem pq {n:Nat} (h:n≤1000000): (jS n).length≤12:=by
 have:=bZ (k:=6) (n:=n) (by simp;omega)
 unfold jS hG
 simp only[aU5,aU9,aU8];omega
theorem aE1 {n:Nat} (h:n≤1000000): (jw n).length≤12:=by
 have:=bZ (k:=6) (n:=n) (by simp;omega)
 unfold jw iO
 simp only[aU5,aU9,aU8];omega
theorem bu {k:aL}: (jK k).length≤26∧ ∀r∈jK k,r.length≤100:=by
 by_cases hk:cO k=true
 · obtain⟨⟨_,ht,hn,h1,h2,h3⟩,⟨h4,h5,h6⟩,_⟩:=(bX k).1 hk
   rw[kg hk]
   refine⟨by have:=aE0 k k.inbox.length;omega,fun r hr=> ?_⟩
   rw[aAt] at hr
   unfold aB4 at hr
   simp only[List.mem_append,aVj] at hr
   rcases hr with(((hr|hr)|⟨m,hm,rfl⟩)|⟨m,hm,rfl⟩)|⟨m,hm,rfl⟩
   · split at hr
     · rw[aVn.1 hr];have:=pq (n:=k.time.toNat) (by omega);omega
     · cases hr
   · split at hr
     · rw[aVn.1 hr];have:=aE1 (n:=k.next.toNat) (by omega);omega
     · cases hr
   · obtain⟨q1,q2,q3⟩:=tS (sQ h5 hm)
     have:=bt (w:=gV) (m:=m) (by omega)
     have e:gV.length=4:=rfl
     omega
   · have:=vZ gU m
     have e:gU.length=4:=rfl
     omega
   · have:=vZ fT m
     have e:fT.length=5:=rfl
     omega
 · rw[po hk];exact⟨by simp,fun r hr=>by cases hr⟩
def dO (k:aS): (List UInt8×Int)×Bool:=fC k.log k.forced (jK (bC k).1)
theorem aJd {k:aS} {rec:List UInt8} (h1: ¬(aO (bC k).1 rec).2=true):pL k rec=(k,false):=by
 unfold pL;rw[if_neg h1]
theorem sS {k:aS} {rec:List UInt8} (h1: (aO (bC k).1 rec).2=true) (h2: (cD k.log k.forced rec).2=true):pL k rec=(lY k (cD k.log k.forced rec).1,true):=by
 unfold pL;rw[if_pos h1,if_pos h2]
theorem aE2 {k:aS} {rec:List UInt8} (h1: (aO (bC k).1 rec).2=true) (h2: ¬(cD k.log k.forced rec).2=true) (h3: ¬(dO k).2=true):pL k rec=(k,false):=by
 unfold pL
 rw[if_pos h1,if_neg h2]
 show(if(dO k).2=true then(if(cD (dO k).1.1 (dO k).1.2 rec).2=true then(lY k (cD (dO k).1.1 (dO k).1.2 rec).1,true) else(k,false)) else(k,false))=_
 rw[if_neg h3]
theorem aLc {k:aS} {rec:List UInt8} (h1: (aO (bC k).1 rec).2=true) (h2: ¬(cD k.log k.forced rec).2=true) (h3: (dO k).2=true) (h4: ¬(cD (dO k).1.1 (dO k).1.2 rec).2=true):pL k rec=(k,false):=by
 unfold pL
 rw[if_pos h1,if_neg h2]
 show(if(dO k).2=true then(if(cD (dO k).1.1 (dO k).1.2 rec).2=true then(lY k (cD (dO k).1.1 (dO k).1.2 rec).1,true) else(k,false)) else(k,false))=_
 rw[if_pos h3,if_neg h4]
theorem aLd {k:aS} {rec:List UInt8} (h1: (aO (bC k).1 rec).2=true) (h2: ¬(cD k.log k.forced rec).2=true) (h3: (dO k).2=true) (h4: (cD (dO k).1.1 (dO k).1.2 rec).2=true):pL k rec=(lY k (cD (dO k).1.1 (dO k).1.2 rec).1,true):=by
 unfold pL
 rw[if_pos h1,if_neg h2]
 show(if(dO k).2=true then(if(cD (dO k).1.1 (dO k).1.2 rec).2=true then(lY k (cD (dO k).1.1 (dO k).1.2 rec).1,true) else(k,false)) else(k,false))=_
 rw[if_pos h3,if_pos h4]
theorem aLe {k:aS} (hs:fL k.log k.forced=true) (h: ¬(dO k).2=true): (dO k).1=(k.log,k.forced):=by
 unfold dO fC at h ⊢
 rw[if_pos hs] at h ⊢
 split at h
 · exact absurd rfl h
 · rename_i h9
   rw[if_neg h9]
theorem ut {k:aS} (hl:k.log.length≤140737488355328): (dO k).1.1.length≤140737488355328:=by
 unfold dO fC
 split
 · split
   · rename_i h9
     simp only[aU7,decide_eq_true_eq] at h9
     show(iF _).length≤_
     omega
   · exact hl
 · simp
theorem uu {k:aS} {rec:List UInt8} (hs:fL k.log k.forced=true) (h1: (aO (bC k).1 rec).2=true) (h2: ¬(cD k.log k.forced rec).2=true) (h4: ¬(cD (dO k).1.1 (dO k).1.2 rec).2=true):pL k rec=(k,false):=by
 by_cases h3: (dO k).2=true
 · exact aLc h1 h2 h3 h4
 · exact aE2 h1 h2 h3
theorem nM {k:aS} {rec:List UInt8} (hs:fL k.log k.forced=true) (h1: (aO (bC k).1 rec).2=true) (h2: ¬(cD k.log k.forced rec).2=true) (h4: (cD (dO k).1.1 (dO k).1.2 rec).2=true):pL k rec=(lY k (cD (dO k).1.1 (dO k).1.2 rec).1,true):=by
 by_cases h3: (dO k).2=true
 · exact aLd h1 h2 h3 h4
 · rw[aLe hs h3] at h4
   exact absurd h4 h2
def fU (k:aS) (rec:List UInt8) (fc:Bool):aS×Bool:=if(pL k rec).2 then(if fc then vB (pL k rec).1 else(pL k rec).1,true) else(k,false)
theorem nZ {l:List UInt8} {f:Int} {rec:List UInt8} (hl:l.length≤140737488355328): (cD l f rec).1.1.length≤140737488355328:=by
 unfold cD
 split
 · split
   · rename_i h9
     simp only[aU7,decide_eq_true_eq] at h9
     show(l++lX rec).length≤_
     rw[aU5];omega
   · exact hl
 · simp
theorem aNz {k:aS} {rec:List UInt8} (hl:k.log.length≤140737488355328): (pL k rec).1.log.length≤140737488355328∧(pL k rec).1.halves=k.halves:=by
 unfold pL
 split
 · split
   · exact⟨nZ hl,rfl⟩
   · split
     · split
       · exact⟨nZ (ut hl),rfl⟩
       · exact⟨hl,rfl⟩
     · exact⟨hl,rfl⟩
 · exact⟨hl,rfl⟩
theorem vD {k:aS} (h:bG k=true):KB (bC k).1:=(eL (iA h)).seven.big
theorem kG {a:Bool} (h: (!a)=false):a=true:=by simpa using h
theorem sT {a:Bool} (h: (!a)=true): ¬a=true:=by simpa using h
theorem uv (k:aL) {n:Nat} (hn:n<100000):eA k (jS n)=kM k hG n:=by
 have e:jS n=hG++32::kC n:=by simp[jS]
 obtain⟨h1,h2,h3⟩:=lL (w:=hG) (r:=kC n) (by decide)
 rw[e,aEb h3 (by rw[h1];rfl) (by rw[h2,pW hn];rfl),h1,h2,uJ (pW hn)]
theorem oA {k:aL} (hk:cO k=true) (rec:List UInt8):aO k rec=kD k (eA k rec):=if_pos hk
theorem aLf {k:aL} (hk:cO k=true) (h:k.time≥999): ¬(aO k (jS (k.time+1).toNat)).2=true:=by
 obtain⟨⟨_,ht,_⟩,_⟩:=(bX k).1 hk
 rw[oA hk,uv k (by omega)]
 have e: (((k.time+1).toNat:Nat):Int)=k.time+1:=by omega
 rw[e]
 have hd:kM k hG (k.time+1)=(iV k (k.time+1),true):=by
  unfold kM
  rw[if_pos (by rw[decide_eq_true (by omega)];rfl)]
 rw[hd]
 unfold kD
 rw[if_neg]
 · simp
 · intro h9
   simp only[Bool.true_and] at h9
   obtain⟨⟨_,ht2,_⟩,_⟩:=(bX _).1 h9
   have e2: (iV k (k.time+1)).time=k.time+1:=rfl
   omega
theorem aLg {k:aL} (hk:cO k=true) {n:aR} (h:gD n=[]): ¬(aO k (cI fS n)).2=true:=by
 have e:cI fS n=fS++32::[]:=by rw[cI,h];simp
 obtain⟨h1,h2,h3⟩:=lL (w:=fS) (r:=[]) (by decide)
 rw[oA hk,e,pA h3 (by rw[h1];rfl) (by rw[h1];rfl) (by rw[h2];rfl)]
 simp[kD]
theorem kh {k:aS} {rec:List UInt8} (h: ¬(aO (bC k).1 rec).2=true):jT k rec=(k,false):=by
 unfold jT;rw[aJd h];rfl
theorem uw {k:aS} (h: ¬bG k=true):eM k=(.zero,false):=if_neg h
theorem zU {k:aS} (h:bG k=true) (hu: ¬k.up=true):eM k=(k,false):=by rw[eM,if_pos h,if_neg hu]
theorem er {k:aS} (h:bG k=true) (hu:k.up=true):eM k=jT k (jS ((bC k).1.time+1).toNat):=by rw[eM,if_pos h,if_pos hu]
theorem qg {k:aS} (h:bG k=true) (ht: (bC k).1.time≥999):eM k=(k,false):=by
 by_cases hu:k.up=true
 · rw[er h hu,kh (aLf (iA h) ht)]
 · exact zU h hu
theorem xx {k:aS} {to til:Int} {text:List UInt8} (h: ¬bG k=true):eE k to til text=(.zero,0):=if_neg h
theorem ux {k:aS} {to til:Int} {text:List UInt8} (h:bG k=true) (hu: ¬k.up=true):eE k to til text=(k,0):=by rw[eE,if_pos h,if_neg hu]
theorem ki {k:aS} {to til:Int} {text:List UInt8} (h:bG k=true) (hl: ¬(jT k (cI fS (oQ k to til text))).2=true):eE k to til text=(k,0):=by
 rw[eE,if_pos h]
 split
 · first|rfl|rw[if_neg hl]
 · rfl
theorem aCa {k:aS} {to til:Int} {text:List UInt8} (h:bG k=true) (hu:k.up=true) (hl: (jT k (cI fS (oQ k to til text))).2=true):eE k to til text=((jT k (cI fS (oQ k to til text))).1,(bC k).1.next):=by
 rw[eE,if_pos h,if_pos hu,if_pos hl]
theorem uy {k:aS} {to til:Int} {text:List UInt8} (h:bG k=true) (hn:gD (oQ k to til text)=[]):eE k to til text=(k,0):=by
 refine ki h ?_
 rw[kh (aLg (iA h) hn)]
 simp
theorem xy {k:aS} {f n:Int} (h: ¬bG k=true):cL k f n=(.zero,.zero,false):=if_neg h
theorem aCb {k:aS} {f n:Int} (h:bG k=true) (hc: ¬(k.up=true∧0≤aX (bC k).1.inbox f n)):cL k f n=(k,.zero,false):=by
 rw[cL,if_pos h,if_neg (by simpa using hc)]
theorem uz {k:aS} {f n:Int} (h:bG k=true) (hc:k.up=true∧0≤aX (bC k).1.inbox f n) (hl: ¬(jT k (zA k f n)).2=true):cL k f n=(k,.zero,false):=by
 rw[cL,if_pos h,if_pos (by simpa using hc),if_neg hl]
theorem aCc {k:aS} {f n:Int} (h:bG k=true) (hc:k.up=true∧0≤aX (bC k).1.inbox f n) (hl: (jT k (zA k f n)).2=true):cL k f n=((jT k (zA k f n)).1,(bC k).1.inbox.getD (aX (bC k).1.inbox f n).toNat .zero,true):=by
 rw[cL,if_pos h,if_pos (by simpa using hc),if_pos hl]
theorem vd {k:aS} (h:bG k=true) {f n:Int} (hp:0≤aX (bC k).1.inbox f n): ∃j:Nat,aX (bC k).1.inbox f n=j∧j< (bC k).1.inbox.length∧((0≤f∧f≤1000000)∧(0≤n∧n≤1000000)∧(0≤((bC k).1.inbox.getD j .zero).til∧((bC k).1.inbox.getD j .zero).til≤1000000)):=by
 obtain⟨j,hj⟩:=Int.eq_ofNat_of_zero_le hp
 have hlt:=(fR (bC k).1.inbox f n).2
 obtain⟨_,⟨_,_,h6⟩,_⟩:=(bX _).1 (iA h)
 obtain⟨q1,q2,q3⟩:=gi h6 hp
 rw[hj,aU4] at q1 q2 q3
 obtain⟨p1,p2,p3,p4,p5⟩:=lW q1
 exact⟨j,hj,by omega,by omega,by omega,by omega⟩
theorem ve {k:aS} (h: ¬bG k=true):eG k=(.zero,false):=if_neg h
theorem qh {k:aS} (h:bG k=true) (hu: ¬k.up=true):eG k=(k,false):=by
 rw[eG,if_pos h,if_neg (by simp[hu])]
theorem xz {k:aS} (h:bG k=true) (hp: ¬(dO k).2=true):eG k=(k,false):=by
 rw[eG,if_pos h,if_neg]
 intro h9
 simp only[aU7] at h9
 exact hp h9.2
theorem ya {k:aS} (h:bG k=true) (hu:k.up=true) (hp: (dO k).2=true):eG k=(lY k (dO k).1,true):=by
 rw[eG,if_pos h,if_pos]
 · rfl
 · rw[hu];exact hp
def wA (b:Int) (m:hF):Bool:=sY b m.num&&decide (m.data.length=4)
def unk (kn:List (List UInt8)) (j:Int):Bool:=(kn.getD j.toNat []).isEmpty
def jA (kn:List (List UInt8)) (ks:List Int):List Int:=ks.filter (unk kn)
def qD (kn:List (List UInt8)):List UInt8→List Int→List UInt8
 |x,[]=>x
 |x,j::js=>qD kn (if unk kn j then x else xq x (kn.getD j.toNat [])) js
def iX (b:Int) (kn:List (List UInt8)) (m:hF):List (List UInt8)×Bool:=
 if wA b m&&(jA kn (cQ b m.num)).length==1 then(kn.set ((jA kn (cQ b m.num)).getD 0 0).toNat (qD kn m.data (cQ b m.num)),true) else(kn,false)
def cN (b:Int):List hF→List (List UInt8)×Bool→List (List UInt8)×Bool
 | [],s=>s
 |m::l,s=>cN b l ((iX b s.1 m).1,s.2||(iX b s.1 m).2)
def rN (b:Int) (l:List hF):Nat→List (List UInt8)→List (List UInt8)
 |0,kn=>kn
 |f+1,kn=>if(cN b l (kn,false)).2 then rN b l f (cN b l (kn,false)).1 else(cN b l (kn,false)).1
def eB (b:Int) (l:List hF):List (List UInt8):=if iB b 1 6 then rN b l 7 (List.replicate b.toNat []) else []
def ak (b:Int) (kn:List (List UInt8)):Prop:=(kn.length:Int)=b∧ ∀x∈kn,x.length=0∨x.length=4
def tU (kn:List (List UInt8)):Nat:=kn.countP (·.isEmpty)
theorem ak.at {b:Int} {kn:List (List UInt8)} (h:ak b kn) {j:Nat} (hj:j<kn.length): (kn.getD j []).length=0∨(kn.getD j []).length=4:=h.2 _ (cW hj)
theorem ak.start {b:Int} (hb:0≤b):ak b (List.replicate b.toNat []):=by
 refine⟨by rw[List.length_replicate];omega,fun x hx=> ?_⟩
 rw[(List.mem_replicate.1 hx).2];exact .inl rfl
theorem zE {kn:List (List UInt8)}: ∀{ks:List Int} {x:List UInt8},x.length=4→(qD kn x ks).length=4
 | [],x,h=>h
 |j::js,x,h=>by
  unfold qD
  refine zE ?_
  split
  · exact h
  · exact pn _ _
theorem aAu {kn:List (List UInt8)} {ks:List Int} {j:Int} (h:j∈jA kn ks):j∈ks∧unk kn j=true:=by
 unfold jA at h
 exact List.mem_filter.1 h
theorem aE3: ∀{kn:List (List UInt8)} {j:Nat} {x:List UInt8},j<kn.length→(kn.getD j []).isEmpty=true→x.isEmpty=false→tU (kn.set j x)+1=tU kn
 | [],j,x,h,_,_=>by simp at h
 |y::kn,0,x,h,h1,h2=>by
  have h1:y.isEmpty=true:=h1
  simp[tU,List.countP_cons,h1,h2]
 |y::kn,j+1,x,h,h1,h2=>by
  have ih:=aE3 (kn:=kn) (j:=j) (x:=x) (by simpa using h) (by simpa using h1) h2
  simp only[tU,List.set_cons_succ,List.countP_cons] at ih ⊢
  omega
theorem aH2 {b:Int} {kn:List (List UInt8)} {m:hF} (h:ak b kn):ak b (iX b kn m).1∧((iX b kn m).2=true→tU (iX b kn m).1+1=tU kn)∧((iX b kn m).2=false→(iX b kn m).1=kn):=by
 unfold iX
 split
 · rename_i hc
   simp only[aU7,beq_iff_eq,wA,decide_eq_true_eq] at hc
   obtain⟨⟨h1,h4⟩,hl⟩:=hc
   have hm: (jA kn (cQ b m.num)).getD 0 0∈jA kn (cQ b m.num):=cW (by omega)
   obtain⟨q1,q2⟩:=aAu hm
   have hr:=vV _ q1
   have hx:=zE (kn:=kn) (ks:=cQ b m.num) h4
   have hlt: ((jA kn (cQ b m.num)).getD 0 0).toNat<kn.length:=by have:=h.1;omega
   refine⟨⟨by rw[List.length_set];exact h.1,fun x hx'=> ?_⟩,fun _=> ?_,fun h9=>by cases h9⟩
   · rcases List.mem_or_eq_of_mem_set hx' with h9|h9
     · exact h.2 x h9
     · rw[h9];exact .inr hx
   · refine aE3 hlt q2 ?_
     cases hq:qD kn m.data (cQ b m.num) with
     |nil=>rw[hq] at hx;cases hx
     |cons _ _=>rfl
 · exact⟨h,fun h9=>(by cases h9),fun _=>rfl⟩
theorem rO {b:Int}: ∀{l:List hF} {s:List (List UInt8)×Bool},ak b s.1→ak b (cN b l s).1∧tU (cN b l s).1≤tU s.1∧(s.2=false→(cN b l s).2=true→tU (cN b l s).1<tU s.1)∧(s.2=true→(cN b l s).2=true)
 | [],s,h=>⟨h,aVf _,fun h1 h2=>(by
  have h2:s.2=true:=h2
  rw[h1] at h2;cases h2),fun h1=>h1⟩
 |m::l,s,h=>by
  obtain⟨p1,p2,p3⟩:=aH2 (m:=m) h
  obtain⟨r1,r2,r3,r4⟩:=rO (l:=l) (s:=((iX b s.1 m).1,s.2||(iX b s.1 m).2)) p1
  unfold cN
  cases hd: (iX b s.1 m).2 with
  |true=>
   have:=p2 hd
   rw[hd] at r1 r2 r3 r4
   have r2:tU (cN b l ((iX b s.1 m).1,s.2||true)).1≤tU (iX b s.1 m).1:=r2
   exact⟨r1,by omega,fun _ _=>by omega,fun h1=>r4 (by simp)⟩
  |false=>
   have e:=p3 hd
   rw[hd] at r1 r2 r3 r4
   refine⟨r1,by rw[e] at r2 ⊢; exact r2,fun h1 h2=> ?_,fun h1=>r4 (by simp[h1])⟩
   have:=r3 (by simp[h1]) h2
   simp only[e] at this ⊢
   exact this
theorem vf {kn:List (List UInt8)} {ks:List Int} {j:Int} (h:unk kn j=true):jA kn (ks++[j])=jA kn ks++[j]:=by
 unfold jA;rw[List.filter_append,List.filter_cons_of_pos h];rfl
theorem yb {kn:List (List UInt8)} {ks:List Int} {j:Int} (h:unk kn j=false):jA kn (ks++[j])=jA kn ks:=by
 unfold jA;rw[List.filter_append,List.filter_cons_of_neg (by rw[h];exact Bool.false_ne_true)];exact List.append_nil _
theorem gj {kn:List (List UInt8)}: ∀{ks:List Int} {x:List UInt8} {j:Int},qD kn x (ks++[j])=if unk kn j then qD kn x ks else xq (qD kn x ks) (kn.getD j.toNat [])
 | [],x,j=>by
  show(if unk kn j then x else xq x (kn.getD j.toNat []))=_
  rfl
 |k::ks,x,j=>gj (ks:=ks)
theorem aLi {kn:List (List UInt8)} {ks:List Int} {x:List UInt8} {j:Int} (h:unk kn j=true):qD kn x (ks++[j])=qD kn x ks:=by rw[gj,if_pos h]
theorem aN0 {kn:List (List UInt8)} {ks:List Int} {x:List UInt8} {j:Int} (h:unk kn j=false):qD kn x (ks++[j])=xq (qD kn x ks) (kn.getD j.toNat []):=by rw[gj,if_neg (by rw[h];exact Bool.false_ne_true)]
theorem kj {b:Int} {m:hF}: ∀{l:List hF} {s:List (List UInt8)×Bool},cN b (l++[m]) s=((iX b (cN b l s).1 m).1,(cN b l s).2||(iX b (cN b l s).1 m).2)
 | [],s=>rfl
 |k::l,s=>kj (l:=l)
theorem pr {b:Int} {l:List hF}: ∀(f g:Nat) {kn:List (List UInt8)},ak b kn→tU kn<f→tU kn<g→rN b l f kn=rN b l g kn
 |0,_,kn,_,h,_=>absurd h (by omega)
 |_+1,0,kn,_,_,h=>absurd h (by omega)
 |f+1,g+1,kn,hk,hf,hg=>by
  obtain⟨r1,r2,r3,_⟩:=rO (l:=l) (s:=(kn,false)) hk
  unfold rN
  split
  · rename_i hd
    have hlt:=r3 rfl hd
    have hlt:tU (cN b l (kn,false)).1<tU kn:=hlt
    exact pr f g r1 (by omega) (by omega)
  · rfl
theorem aPy (kn:List (List UInt8)):tU kn≤kn.length:=List.countP_le_length
theorem aPz {b:Int} (hb:b≤6) {l:List hF} {kn:List (List UInt8)} (hk:ak b kn) (hd: (cN b l (kn,false)).2=true):rN b l 7 kn=rN b l 7 (cN b l (kn,false)).1∧tU (cN b l (kn,false)).1<tU kn∧ak b (cN b l (kn,false)).1:=by
 obtain⟨r1,r2,r3,_⟩:=rO (l:=l) (s:=(kn,false)) hk
 have hlt:tU (cN b l (kn,false)).1<tU kn:=r3 rfl hd
 have h6:tU kn≤6:=by have:=aPy kn;have:=hk.1;omega
 refine⟨?_,hlt,r1⟩
 rw[pr 7 8 hk (by omega) (by omega)]
 show(if(cN b l (kn,false)).2 then rN b l 7 (cN b l (kn,false)).1 else(cN b l (kn,false)).1)=_
 rw[if_pos hd]
theorem aN1 {b:Int} {l:List hF} {kn:List (List UInt8)} (hd: (cN b l (kn,false)).2=false):rN b l 7 kn=(cN b l (kn,false)).1:=by
 show(if(cN b l (kn,false)).2 then rN b l 6 (cN b l (kn,false)).1 else(cN b l (kn,false)).1)=_
 rw[if_neg (by rw[hd];exact Bool.false_ne_true)]
theorem aCd {kn:List (List UInt8)} {j:Nat} {x:List UInt8} (h:j<kn.length): (bO kn).set j (dC ((bO kn).getD j []) 0 [D.s x])=bO (kn.set j x):=by
 rw[gZ h]
 show(bO kn).set j [D.s x]=_
 rw[bO,bO,← List.map_set (f:=fun y:List UInt8=>[D.s y])]
theorem aAv {b:Int} {m:hF} {c:Bool} (h: (!(sY b m.num&&decide ((m.data.length:Int)=4)))=c):wA b m= !c:=by
 subst h
 unfold wA
 rw[Bool.not_not]
 congr 1
 exact decide_eq_decide.2 (by omega)
theorem aE4 {b:Int} {m:hF} (h:wA b m=true):m.data.length=4:=by
 unfold wA at h
 rw[aU7] at h
 exact of_decide_eq_true h.2
theorem aS5 {n:Nat} (h: ((n:Int)==1)=true):n=1:=by
 have h9: (n:Int)=1:=by simpa using h
 omega
theorem aH3 {n:Nat} (h: ((n:Int)==1)=false): ¬n=1:=by
 have h9: ¬(n:Int)=1:=by simpa using h
 omega
def qF:List (List UInt8)→List UInt8:=List.flatten
def dV (size:Int) (l:List hF):List UInt8×Bool:=
 if iB size 1 24 then
  (if(eB ((size+3) / 4) l).any (·.isEmpty) then([],false)
   else if((qF (eB ((size+3) / 4) l)).drop size.toNat).any (· != 0) then([],false)
   else((qF (eB ((size+3) / 4) l)).take size.toNat,true))
 else([],false)
theorem aH4 {b:Int} {l:List hF} (hb:1≤b∧b≤6):ak b (eB b l):=by
 have key: ∀(f:Nat) {kn:List (List UInt8)},ak b kn→ak b (rN b l f kn):=by
  intro f
  induction f with
  |zero=>intro kn h;exact h
  |succ f ih=>
   intro kn h
   have r:=(rO (l:=l) (s:=(kn,false)) h).1
   unfold rN
   split
   · exact ih r
   · exact r
 unfold eB
 rw[if_pos (by simp[iB];omega)]
 exact key 7 (ak.start (by omega))
theorem aH5 {b:Int} {l:List hF} (h: ¬iB b 1 6=true):eB b l=[]:=if_neg h
def wB (kn:List (List UInt8)) (i:Nat):List UInt8:=(kn.take i).flatten
theorem gk {kn:List (List UInt8)} {i:Nat} (h:i<kn.length):wB kn (i+1)=wB kn i++kn.getD i []:=by
 unfold wB
 rw[fQ (z:=([]:List UInt8)) h,List.flatten_append]
 simp
theorem aE5 {kn:List (List UInt8)} (h: ∀x∈kn,x.length=0∨x.length=4): ∀{i:Nat},(wB kn i).length≤4*i
 |0=>by simp[wB]
 |i+1=>by
  have ih:=aE5 h (i:=i)
  by_cases hi:i<kn.length
  · rw[gk hi,aU5]
    have:=h _ (cW (z:=([]:List UInt8)) hi)
    omega
  · have e:wB kn (i+1)=wB kn i:=by unfold wB;rw[List.take_of_length_le (by omega),List.take_of_length_le (by omega)]
    rw[e];omega
theorem aE6 {kn:List (List UInt8)} (h: ∀x∈kn,x.length=0∨x.length=4): ∀{i:Nat},i≤kn.length→(∀j,j<i→(kn.getD j []).length≠0)→(wB kn i).length=4*i
 |0,_,_=>by simp[wB]
 |i+1,hi,hj=>by
  have ih:=aE6 h (i:=i) (by omega) (fun j hj2=>hj j (by omega))
  rw[gk (by omega),aU5,ih]
  have h1:=h _ (cW (z:=([]:List UInt8)) (i:=i) (show i<kn.length by omega))
  have h2:=hj i (by omega)
  omega
theorem aAw (kn:List (List UInt8)):wB kn kn.length=qF kn:=by unfold wB qF;rw[aVl]
theorem yc {kn:List (List UInt8)} {i:Nat} (h:i<kn.length) (he:kn.getD i []=[]):kn.any (·.isEmpty)=true:=by
 rw[List.any_eq_true]
 exact⟨_,cW (z:=([]:List UInt8)) h,by rw[he];rfl⟩
theorem aCe {kn:List (List UInt8)} (h: ∀j,j<kn.length→(kn.getD j []).length≠0):kn.any (·.isEmpty)=false:=by
 rw[← Bool.not_eq_true,List.any_eq_true]
 rintro⟨x,hx,he⟩
 obtain⟨i,hi⟩:=aVp.1 hx
 have hlt:=(aVe.1 hi).1
 have:=h i hlt
 rw[aVb,hi] at this
 have e:x=[]:=by simpa using he
 rw[e] at this;exact this rfl
theorem aCf {l:List UInt8} {n i:Nat} (h1:n≤i) (h2:i<l.length) (h:l.getD i 0≠0): (l.drop n).any (· != 0)=true:=by
 rw[List.any_eq_true]
 refine⟨l.getD i 0,?_,by simpa using h⟩
 rw[aVp]
 exact⟨i - n,by rw[List.getElem?_drop,show n+(i - n)=i by omega,aVb,aVd h2];rfl⟩
theorem aE7 {l:List UInt8} {n:Nat} (h: ∀i,n≤i→i<l.length→l.getD i 0=0): (l.drop n).any (· != 0)=false:=by
 rw[← Bool.not_eq_true,List.any_eq_true]
 rintro⟨x,hx,he⟩
 obtain⟨i,hi⟩:=aVp.1 hx
 rw[List.getElem?_drop] at hi
 have hlt:=(aVe.1 hi).1
 have:=h (n+i) (by omega) hlt
 rw[aVb,hi] at this
 have e:x=0:=this
 rw[e] at he;cases he
theorem aE8 {size:Int} {l:List hF} (h: ¬iB size 1 24=true):dV size l=([],false):=if_neg h
theorem aCg {size:Int} {l:List hF} (h:iB size 1 24=true) (h2: (eB ((size+3) / 4) l).any (·.isEmpty)=true):dV size l=([],false):=by
 unfold dV;rw[if_pos h,if_pos h2]
theorem aCh {size:Int} {l:List hF} (h:iB size 1 24=true) (h2: (eB ((size+3) / 4) l).any (·.isEmpty)=false) (h3: ((qF (eB ((size+3) / 4) l)).drop size.toNat).any (· != 0)=true):dV size l=([],false):=by
 unfold dV;rw[if_pos h,if_neg (by rw[h2];exact Bool.false_ne_true),if_pos h3]
theorem aE9 {size:Int} {l:List hF} (h:iB size 1 24=true) (h2: (eB ((size+3) / 4) l).any (·.isEmpty)=false) (h3: ((qF (eB ((size+3) / 4) l)).drop size.toNat).any (· != 0)=false):dV size l=((qF (eB ((size+3) / 4) l)).take size.toNat,true):=by
 unfold dV;rw[if_pos h,if_neg (by rw[h2];exact Bool.false_ne_true),if_neg (by rw[h3];exact Bool.false_ne_true)]
def mR (l:List cH):List (List D):=l.map cH.row
theorem lP (l:List cH): (mR l).length=l.length:=by simp[mR]
def vg (kind:Int) (f:cH):cH:=⟨kind,f.dst,f.src,f.frm,f.num,f.to,f.til,0,0,[]⟩
def sE (f:cH):eI:=⟨f.frm,f.num,f.to,f.til,f.size,[]⟩
def rP (l:List hF):List hF:=if 14≤l.length then l.drop 1 else l
def nb (l:List hF) (m:hF):List hF:=rP (l.filter fun x=> !(x.num==m.num))++[m]
def gM (l:List eI):List eI:=if 3≤l.length then l.drop 1 else l
def dK (l:List eI) (f:cH):List eI×Nat:=
 if iR l f.frm f.num<0 then(gM l++[sE f],(gM l).length) else(l,(iR l f.frm f.num).toNat)
def bN (l:List eI) (f:cH):eI:=(dK l f).1.getD (dK l f).2 .zero
def qG (h:eI) (f:cH):Bool:=h.to==f.to&&h.til==f.til&&h.size==f.size
def tW (h:eI) (f:cH):eI:={h with got:=nb h.got ⟨f.mix,f.data⟩}
def bV (l:List eI) (f:cH):List eI×Int:=
 if qG (bN l f) f then((dK l f).1.set (dK l f).2 (tW (bN l f) f),(dK l f).2) else((dK l f).1,-1)
def eF (k:aS) (l:List eI):aS:={k with halves:=l}
def eU (f:cH) (text:List UInt8):aR:=⟨f.frm,f.num,f.to,f.til,text⟩
def oC (k:aS) (f:cH) (l:List eI) (i:Nat):aS×List cH:=
 let x:=dV f.size (l.getD i .zero).got
 if x.2 then
  let k2:=eF k (dN l i)
  let r:=fU k2 (cI dE (eU f x.1)) true
  if gD (eU f x.1)=[] then(k2,[]) else(r.1,if r.2 then [vg 2 f] else [])
 else(eF k l,[])
def dT (k:aS) (f:cH):aS×List cH:=
 if f.til≤(bC k).1.time then(k,[vg 3 f]) else
 if 0≤aX (bC k).1.held f.frm f.num∨0≤fW (bC k).1.marks f.frm f.num then(vB k,[vg 2 f]) else
 if f.frm=k.id∨ ¬sY ((f.size+3) / 4) f.mix=true then(k,[]) else
 if(bV k.halves f).2<0 then(eF k (bV k.halves f).1,[]) else oC k f (bV k.halves f).1 (bV k.halves f).2.toNat
def nc (f:cH):List UInt8:=iK iZ ⟨f.frm,f.num,f.til⟩
def bv (k:aS) (f:cH):Bool:=
 f.kind==2&&decide (0≤aX (bC k).1.held f.frm f.num)&&((bC k).1.held.getD (aX (bC k).1.held f.frm f.num).toNat .zero).til==f.til&&((bC k).1.held.getD (aX (bC k).1.held f.frm f.num).toNat .zero).to==f.to
def dA (k:aS) (f:cH):aS×List cH:=
 if bG k then
  (if k.up&&eW f&&f.dst==k.id then
   (if f.kind=1 then dT k f else if bv k f then((fU k (nc f) false).1,[]) else(k,[]))
  else(k,[]))
 else(.zero,[])
theorem aCi {l:List eI} {i:Nat} {h:eI} (hi:i<l.length): (bR l).set i (dC ((bR l).getD i []) 0 h.row)=bR (l.set i h):=by
 rw[iW hi]
 have:dC ((l.getD i .zero).row) 0 h.row=h.row:=rfl
 rw[this]
 simp[bR,List.map_set]
theorem bw {l:List eI} {f:cH} (h:iR l f.frm f.num<0):dK l f=(gM l++[sE f],(gM l).length):=if_pos h
theorem gl {l:List eI} {f:cH} (h: ¬iR l f.frm f.num<0):dK l f=(l,(iR l f.frm f.num).toNat):=if_neg h
theorem kl (l:List eI) (h:l.length≤3): (gM l).length≤2:=by
 unfold gM
 split
 · rw[aVk];omega
 · omega
theorem vh {l:List eI} {f:cH} (hl:l.length≤3): (dK l f).2< (dK l f).1.length∧(dK l f).1.length≤3:=by
 unfold dK
 split
 · have:=kl l hl
   simp;omega
 · rename_i h
   have:=aK3 l f.frm f.num
   simp;omega
theorem gm {l:List eI} {f:cH} (h: ¬qG (bN l f) f=true):bV l f=((dK l f).1,-1):=if_neg h
theorem bx {l:List eI} {f:cH} (h:qG (bN l f) f=true):bV l f=((dK l f).1.set (dK l f).2 (tW (bN l f) f),(((dK l f).2:Nat):Int)):=if_pos h
theorem aCj {l:List eI} {f:cH} (h: ∀x∈l,x.got.length≤14): (bN l f).got.length≤14:=by
 unfold bN
 by_cases hm: (dK l f).2< (dK l f).1.length
 · have h1: (dK l f).1.getD (dK l f).2 .zero∈(dK l f).1:=cW hm
   generalize (dK l f).1.getD (dK l f).2 .zero=y at h1
   unfold dK at h1
   split at h1
   · rcases List.mem_append.1 h1 with h1|h1
     · unfold gM at h1
       split at h1
       · exact h y (List.mem_of_mem_drop h1)
       · exact h y h1
     · rw[aVn.1 h1];exact aVa _
   · exact h y h1
 · rw[aVb,List.getElem?_eq_none (by omega)];exact aVa _
def iG (l:List hF) (n:Int):List hF:=l.filter fun x=> !(x.num==n)
theorem aFa {l:List hF} {n:Int} {m:hF} (h: (m.num != n)=true):iG (l++[m]) n=iG l n++[m]:=by
 have h: (!(m.num==n))=true:=h
 simp[iG,List.filter_append,List.filter_cons,h]
theorem aH6 {l:List hF} {n:Int} {m:hF} (h: (m.num != n)=false):iG (l++[m]) n=iG l n:=by
 have h: (!(m.num==n))=false:=h
 simp[iG,List.filter_append,List.filter_cons,h]
theorem vi (l:List hF) (n:Int): (iG l n).length≤l.length:=List.length_filter_le _ _
def GOk (l:List hF):Prop:=(∀m∈l,bm m=true)∧l.Pairwise fun a b=>a.num≠b.num
def HOk (l:List eI):Prop:=(∀h∈l,rL h=true)∧l.Pairwise fun a b=> ¬(a.frm=b.frm∧a.num=b.num)
theorem pK {n:Nat} {p:Nat→Bool}: (aVh n).all p=true↔ ∀i,i<n→p i=true:=by
 rw[aVi]
 exact⟨fun h i hi=>h i (List.mem_range.2 hi),fun h i hi=>h i (List.mem_range.1 hi)⟩
theorem mM {α:Type} {l:List α} {i:Nat} {z:α} (h:i<l.length):l.getD i z=l[i]:=by
 rw[aVb,aVd h];rfl
theorem aP0 (l:List hF): (aVh l.length).all (oP l)=true↔GOk l:=by
 rw[pK]
 constructor
 · intro h
   refine⟨fun m hm=> ?_,List.pairwise_iff_getElem.2 fun i j hi hj hij=> ?_⟩
   · obtain⟨i,hi,rfl⟩:=List.mem_iff_getElem.1 hm
     have:=h i hi
     unfold oP at this
     rw[aU7,mM hi] at this
     exact this.1
   · have:=h j hj
     unfold oP at this
     rw[aU7,pK,mM hj] at this
     have:=this.2 i hij
     rw[mM hi] at this
     simpa using this
 · rintro⟨h1,h2⟩ i hi
   unfold oP
   rw[aU7,pK,mM hi]
   refine⟨h1 _ (List.getElem_mem hi),fun j hj=> ?_⟩
   rw[mM (by omega)]
   simpa using List.pairwise_iff_getElem.1 h2 j i (by omega) hi hj
theorem aFb (l:List eI): (aVh l.length).all (kW l)=true↔HOk l:=by
 rw[pK]
 constructor
 · intro h
   refine⟨fun m hm=> ?_,List.pairwise_iff_getElem.2 fun i j hi hj hij=> ?_⟩
   · obtain⟨i,hi,rfl⟩:=List.mem_iff_getElem.1 hm
     have:=h i hi
     unfold kW at this
     rw[aU7,mM hi] at this
     exact this.1
   · have:=h j hj
     unfold kW at this
     rw[aU7,pK,mM hj] at this
     have:=this.2 i hij
     unfold lO at this
     rw[mM hi] at this
     rintro⟨e1,e2⟩
     rw[e1,e2] at this
     simp at this
 · rintro⟨h1,h2⟩ i hi
   unfold kW
   rw[aU7,pK,mM hi]
   refine⟨h1 _ (List.getElem_mem hi),fun j hj=> ?_⟩
   unfold lO
   rw[mM (by omega)]
   have h3:=List.pairwise_iff_getElem.1 h2 j i (by omega) hi hj
   cases hq: (l[j].frm==l[i].frm&&l[j].num==l[i].num) with
   |false=>rfl
   |true=>rw[aU7,beq_iff_eq,beq_iff_eq] at hq;exact absurd hq h3
theorem vE (h:eI):rL h=true↔qA h=true∧GOk h.got:=by
 unfold rL
 rw[aU7,aP0]
theorem km {k:aS} (h:bG k=true):HOk k.halves:=by
 unfold bG at h
 rw[aU7] at h
 exact(aFb _).1 h.2
theorem aCk {k:aS} {l:List eI} (hok:bG k=true) (hu:k.up=true) (hl:l.length≤3) (h:HOk l):bG (eF k l)=true:=by
 have hl': ((l.length:Nat):Int)≤3:=by omega
 unfold bG kE at hok ⊢
 simp only[aU7] at hok ⊢
 obtain⟨⟨⟨⟨⟨⟨h1,h2⟩,h3⟩,h4⟩,h5⟩,h6⟩,h7⟩:=hok
 exact⟨⟨⟨⟨⟨⟨h1,h2⟩,decide_eq_true hl'⟩,by show(k.up||_)=true;rw[hu];rfl⟩,h5⟩,h6⟩,(aFb _).2 h⟩
theorem aJe {l l':List eI} (hs:l'.Sublist l) (h:HOk l):HOk l':=⟨fun x hx=>h.1 x (hs.subset hx),h.2.sublist hs⟩
theorem aLj {α:Type} (l:List α) (i:Nat): (dN l i).Sublist l:=by
 unfold dN
 have h1: (l.drop (i+1)).Sublist (l.drop i):=by
  rw[← List.drop_drop];exact List.drop_sublist _ _
 exact(List.Sublist.append (List.Sublist.refl _) h1).trans (by rw[List.take_append_drop];exact List.Sublist.refl _)
theorem aJf {l:List eI} (h:HOk l) (i:Nat):HOk (dN l i):=aJe (aLj l i) h
theorem aP1 {l:List hF} {m:hF} (h:GOk l) (hm:bm m=true) (hl:l.length≤14):GOk (nb l m)∧(nb l m).length≤14:=by
 have h1: (l.filter fun x=> !(x.num==m.num)).length≤l.length:=List.length_filter_le _ _
 have hsub: (rP (l.filter fun x=> !(x.num==m.num))).Sublist (l.filter fun x=> !(x.num==m.num)):=by
  unfold rP
  split
  · exact List.drop_sublist _ _
  · exact List.Sublist.refl _
 have hlen: (rP (l.filter fun x=> !(x.num==m.num))).length≤13:=by
  unfold rP
  split
  · rw[aVk];omega
  · omega
 refine⟨⟨fun x hx=> ?_,?_⟩,by unfold nb;simp;omega⟩
 · rcases List.mem_append.1 hx with hx|hx
   · exact h.1 x (List.mem_filter.1 (hsub.subset hx)).1
   · rw[aVn.1 hx];exact hm
 · unfold nb
   rw[List.pairwise_append]
   refine⟨(h.2.sublist List.filter_sublist).sublist hsub,by simp,fun a ha b hb=> ?_⟩
   rw[aVn.1 hb]
   have:=(List.mem_filter.1 (hsub.subset ha)).2
   simpa using this
theorem gn {f:cH} (hf:eW f=true) (hk:f.kind=1):qA (sE f)=true∧bm ⟨f.mix,f.data⟩=true∧(1≤f.size∧f.size≤24)∧(0≤f.mix∧f.mix≤999)∧f.data.length=4:=by
 have h:=hf
 unfold eW at h
 rw[if_pos hk] at h
 simp only[aU7,decide_eq_true_eq] at h
 obtain⟨⟨⟨⟨⟨⟨h1,h2⟩,h3⟩,h4⟩,h5⟩,h6⟩,⟨⟨h7,h8⟩,h9⟩,h10⟩:=h
 have q7:1≤f.size∧f.size≤24:=by simpa[iB] using h7
 have q8:0≤f.mix∧f.mix≤999:=by simpa[iB] using h8
 refine⟨?_,?_,q7,q8,h9⟩
 · unfold qA sE
   simp only[h3,h4,h5,h6,h7,aU8];rfl
 · unfold bm
   simp only[h8,h9];rfl
theorem aFc {l:List eI} {f n:Int} (h:iR l f n<0): ∀x∈l,¬(x.frm=f∧x.num=n):=by
 intro x hx ⟨e1,e2⟩
 obtain⟨i,hi,rfl⟩:=List.mem_iff_getElem.1 hx
 rcases gT (lO l f n) l.length 0 with h1|⟨k,h1,_⟩
 · have h2:lO l f n i=true:=by unfold lO;rw[mM hi,e1,e2];simp
   have: ∀(m j:Nat),kU (lO l f n) j m= -1→ ∀q,j≤q→q<j+m→lO l f n q=false:=by
    intro m
    induction m with
    |zero=>intro j _ q h3 h4;omega
    |succ m ih=>
     intro j hj q h3 h4
     unfold kU at hj
     split at hj
     · have: ((j:Nat):Int)= -1:=hj
       omega
     · rename_i hne
       by_cases e:q=j
       · subst e;simpa using hne
       · exact ih (j+1) hj q (by omega) (by omega)
   have:=this l.length 0 h1 i (aVa _) (by omega)
   rw[h2] at this;cases this
 · unfold iR at h;omega
theorem aH8 {l:List eI} {f n:Int} (h: ¬iR l f n<0): (iR l f n).toNat<l.length∧(l.getD (iR l f n).toNat .zero).frm=f∧(l.getD (iR l f n).toNat .zero).num=n:=by
 rcases gT (lO l f n) l.length 0 with h1|⟨k,h1,h2,h3,h4,_⟩
 · exact absurd (show iR l f n<0 by unfold iR;omega) h
 · have e: (iR l f n).toNat=k:=by unfold iR;omega
   rw[e]
   unfold lO at h4
   rw[aU7,beq_iff_eq,beq_iff_eq] at h4
   exact⟨by omega,h4⟩
theorem aP2 {l:List eI} {f:cH} (h:HOk l) (hl:l.length≤3) (hf:eW f=true) (hk:f.kind=1):HOk (dK l f).1:=by
 by_cases hn:iR l f.frm f.num<0
 · rw[bw hn]
   have hsub: (gM l).Sublist l:=by
    unfold gM
    split
    · exact List.drop_sublist _ _
    · exact List.Sublist.refl _
   have h2:=aJe hsub h
   refine⟨fun x hx=> ?_,?_⟩
   · rcases List.mem_append.1 hx with hx|hx
     · exact h2.1 x hx
     · rw[aVn.1 hx,vE]
       exact⟨(gn hf hk).1,by simp[sE],by simp[sE]⟩
   · rw[List.pairwise_append]
     refine⟨h2.2,by simp,fun a ha b hb=> ?_⟩
     rw[aVn.1 hb]
     exact aFc hn a (hsub.subset ha)
 · rw[gl hn];exact h
theorem aS6 {α:Type} {R:α→α→Prop} {l:List α} {i:Nat} {x:α} (h:l.Pairwise R) (hi:i<l.length) (h1: ∀y,R y l[i]→R y x) (h2: ∀y,R l[i] y→R x y): (l.set i x).Pairwise R:=by
 rw[List.pairwise_iff_getElem] at h ⊢
 intro a b ha hb hab
 simp only[List.length_set] at ha hb
 simp only[List.getElem_set]
 by_cases c1:i=a
 · by_cases c2:i=b
   · omega
   · rw[if_pos c1,if_neg c2]
     subst c1
     exact h2 _ (h i b ha hb hab)
 · by_cases c2:i=b
   · rw[if_neg c1,if_pos c2]
     subst c2
     exact h1 _ (h a i ha hb hab)
   · rw[if_neg c1,if_neg c2]
     exact h a b ha hb hab
theorem aJg {l:List eI} {f:cH} (h:HOk l) (hl:l.length≤3) (hf:eW f=true) (hk:f.kind=1):HOk (bV l f).1∧(bV l f).1.length≤3:=by
 have hp:=aP2 h hl hf hk
 have hlt:=vh (f:=f) hl
 by_cases hfit:qG (bN l f) f=true
 · rw[bx hfit]
   have hh:bN l f=(dK l f).1[(dK l f).2]:=mM hlt.1
   have hok:=hp.1 _ (List.getElem_mem hlt.1)
   rw[← hh,vE] at hok
   have hg:=aP1 hok.2 (gn hf hk).2.1 (nJ hok.1).2.2.2.2.2
   refine⟨⟨fun x hx=> ?_,?_⟩,by simpa using hlt.2⟩
   · rcases List.mem_or_eq_of_mem_set hx with hx|rfl
     · exact hp.1 x hx
     · rw[vE]
       refine⟨?_,hg.1⟩
       have h1:=hok.1
       unfold qA at h1 ⊢
       simp only[aU7] at h1 ⊢
       exact⟨h1.1,decide_eq_true (by have:=hg.2;show((nb (bN l f).got ⟨f.mix,f.data⟩).length:Int)≤14;omega)⟩
   · refine aS6 hp.2 hlt.1 (fun y hy=> ?_) (fun y hy=> ?_)
     · rw[← hh] at hy;exact hy
     · rw[← hh] at hy;exact hy
 · rw[gm hfit]
   exact⟨hp,hlt.2⟩
theorem aH9 {l:List eI} {f:cH} {i:Nat} (h: (bV l f).2=(i:Int)):i< (bV l f).1.length:=by
 by_cases hfit:qG (bN l f) f=true
 · rw[bx hfit] at h ⊢
   have h: (((dK l f).2:Nat):Int)=(i:Int):=h
   have h2: (dK l f).2< (dK l f).1.length:=by
    by_cases hn:iR l f.frm f.num<0
    · rw[bw hn];simp
    · rw[gl hn];exact(aH8 hn).1
   simp only[List.length_set];omega
 · rw[gm hfit] at h
   have h: (-1:Int)=(i:Int):=h
   omega
theorem aFd (size:Int) (l:List hF): (dV size l).1.length≤size.toNat:=by
 unfold dV
 split
 · split
   · exact aVa _
   · split
     · exact aVa _
     · rw[aVc];omega
 · exact aVa _
section
variable {k:aS} {f:cH} {l:List eI} {i:Nat}
theorem ko (h: ¬(dV f.size (l.getD i .zero).got).2=true):oC k f l i=(eF k l,[]):=if_neg h
theorem du (h: (dV f.size (l.getD i .zero).got).2=true) (he:gD (eU f (dV f.size (l.getD i .zero).got).1)=[]):oC k f l i=(eF k (dN l i),[]):=by
 rw[oC,if_pos h,if_pos he]
theorem zF (h: (dV f.size (l.getD i .zero).got).2=true) (he: ¬gD (eU f (dV f.size (l.getD i .zero).got).1)=[]) (hw: ¬(fU (eF k (dN l i)) (cI dE (eU f (dV f.size (l.getD i .zero).got).1)) true).2=true):
 oC k f l i=((fU (eF k (dN l i)) (cI dE (eU f (dV f.size (l.getD i .zero).got).1)) true).1,[]):=by
 rw[oC,if_pos h,if_neg he,if_neg hw]
theorem kq (h: (dV f.size (l.getD i .zero).got).2=true) (he: ¬gD (eU f (dV f.size (l.getD i .zero).got).1)=[]) (hw: (fU (eF k (dN l i)) (cI dE (eU f (dV f.size (l.getD i .zero).got).1)) true).2=true):
 oC k f l i=((fU (eF k (dN l i)) (cI dE (eU f (dV f.size (l.getD i .zero).got).1)) true).1,[vg 2 f]):=by
 rw[oC,if_pos h,if_neg he,if_pos hw]
end
theorem eu {k:aS} {rec:List UInt8} {fc:Bool} (hl:k.log.length≤140737488355328): (fU k rec fc).1.halves=k.halves:=by
 unfold fU
 split
 · have:=(aNz (k:=k) (rec:=rec) hl).2
   cases fc
   · exact this
   · exact this
 · rfl
theorem pw {k:aS} {f:cH} (hok:bG k=true) (hu:k.up=true) (hf:eW f=true) (hk:f.kind=1):HOk (dT k f).1.halves∧(dT k f).1.halves.length≤3:=by
 have h0:=km hok
 have hlg:=gL hok
 have h1:=aJg (f:=f) h0 hlg.2.2.2.1 hf hk
 have hcut: ∀i,HOk (dN (bV k.halves f).1 i)∧(dN (bV k.halves f).1 i).length≤3:=fun i=>⟨aJf h1.1 i,Nat.le_trans (xM _ i) h1.2⟩
 unfold dT
 split
 · exact⟨h0,hlg.2.2.2.1⟩
 · split
   · exact⟨h0,hlg.2.2.2.1⟩
   · split
     · exact⟨h0,hlg.2.2.2.1⟩
     · split
       · exact h1
       · by_cases h2: (dV f.size ((bV k.halves f).1.getD (bV k.halves f).2.toNat .zero).got).2=true
         · by_cases h3:gD (eU f (dV f.size ((bV k.halves f).1.getD (bV k.halves f).2.toNat .zero).got).1)=[]
           · rw[du h2 h3];exact hcut _
           · have hlog: (eF k (dN (bV k.halves f).1 (bV k.halves f).2.toNat)).log.length≤140737488355328:=by show k.log.length≤_;omega
             by_cases h4: (fU (eF k (dN (bV k.halves f).1 (bV k.halves f).2.toNat)) (cI dE (eU f (dV f.size ((bV k.halves f).1.getD (bV k.halves f).2.toNat .zero).got).1)) true).2=true
             · rw[kq h2 h3 h4];dsimp only;rw[eu hlog];exact hcut _
             · rw[zF h2 h3 h4];dsimp only;rw[eu hlog];exact hcut _
         · rw[ko h2];exact h1
theorem aJh {l:List eI} (h:HOk l): ∀x∈l,x.got.length≤14:=fun x hx=>(nJ ((vE x).1 (h.1 x hx)).1).2.2.2.2.2
section
variable {k:aS} {f:cH}
theorem vj (h: ¬bG k=true):dA k f=(.zero,[]):=if_neg h
theorem vk (h:bG k=true) (h2: ¬(k.up&&eW f&&f.dst==k.id)=true):dA k f=(k,[]):=by rw[dA,if_pos h,if_neg h2]
theorem go (h:bG k=true) (h2: (k.up&&eW f&&f.dst==k.id)=true) (h3:f.kind=1):dA k f=dT k f:=by rw[dA,if_pos h,if_pos h2,if_pos h3]
theorem vl (h:bG k=true) (h2: (k.up&&eW f&&f.dst==k.id)=true) (h3: ¬f.kind=1) (h4:bv k f=true):dA k f=((fU k (nc f) false).1,[]):=by rw[dA,if_pos h,if_pos h2,if_neg h3,if_pos h4]
theorem nd (h:bG k=true) (h2: (k.up&&eW f&&f.dst==k.id)=true) (h3: ¬f.kind=1) (h4: ¬bv k f=true):dA k f=(k,[]):=by rw[dA,if_pos h,if_pos h2,if_neg h3,if_neg h4]
end
theorem aAx {k:aS} {f:cH} {c:Bool} (hok:bG k=true) (h: (f.kind != 2||decide (aX (bC k).1.held f.frm f.num<0)||db ((List.drop 3 ((aD (bC k).1.held).getD (aX (bC k).1.held f.frm f.num).toNat [])).getD 0 (.i 0)) != f.til||
 db ((List.drop 2 ((aD (bC k).1.held).getD (aX (bC k).1.held f.frm f.num).toNat [])).getD 0 (.i 0)) != f.to)=c):bv k f= !c:=by
 subst h
 unfold bv
 by_cases hp:0≤aX (bC k).1.held f.frm f.num
 · obtain⟨j,hj,hjl,_⟩:=rM hok hp
   rw[hj,aU4,aQ hjl]
   show _= !(f.kind != 2||decide ((j:Int)<0)||((bC k).1.held.getD j .zero).til != f.til||((bC k).1.held.getD j .zero).to != f.to)
   have e1:decide ((j:Int)<0)=false:=by simp
   have e2:decide (0≤(j:Int))=true:=by simp
   rw[e1,e2]
   simp only[bne]
   cases f.kind==2<;>cases ((bC k).1.held.getD j .zero).til==f.til<;>cases ((bC k).1.held.getD j .zero).to==f.to<;>rfl
 · have e1:decide (aX (bC k).1.held f.frm f.num<0)=true:=by simp;omega
   have e2:decide (0≤aX (bC k).1.held f.frm f.num)=false:=by simp;omega
   rw[e1,e2]
   simp
theorem aN2 {k:aS} {f:cH} (hok:bG k=true) (h: (f.kind != 2||decide (aX (bC k).1.held f.frm f.num<0)||db ((List.drop 3 ((aD (bC k).1.held).getD (aX (bC k).1.held f.frm f.num).toNat [])).getD 0 (.i 0)) != f.til||
 db ((List.drop 2 ((aD (bC k).1.held).getD (aX (bC k).1.held f.frm f.num).toNat [])).getD 0 (.i 0)) != f.to)=true): ¬bv k f=true:=by rw[aAx hok h];simp
theorem aLk {k:aS} {f:cH} (hok:bG k=true) (h: (f.kind != 2||decide (aX (bC k).1.held f.frm f.num<0)||db ((List.drop 3 ((aD (bC k).1.held).getD (aX (bC k).1.held f.frm f.num).toNat [])).getD 0 (.i 0)) != f.til||
 db ((List.drop 2 ((aD (bC k).1.held).getD (aX (bC k).1.held f.frm f.num).toNat [])).getD 0 (.i 0)) != f.to)=false):bv k f=true:=by rw[aAx hok h];rfl
structure EvR where
 kind:Int
 at_:Int
 frm:Int
 num:Int
 word:Int
 mix:Int
 keep:Int
 dst:Int
 til:Int
 text:List UInt8
def EvR.row (e:EvR):List D:=[.i e.kind,.i e.at_,.i e.frm,.i e.num,.i e.word,.i e.mix,.i e.keep,.i e.dst,.i e.til,.s e.text]
abbrev EvR.V (e:EvR):V:= .e (.agg [.d (.i e.kind),.d (.i e.at_),.d (.i e.frm),.d (.i e.num),.d (.i e.word),.d (.i e.mix),.d (.i e.keep),.d (.i e.dst),.d (.i e.til),.d (.s e.text)])
def Adj (a b:Int):Prop:=(0≤a∧a≤3)∧(0≤b∧b≤3)∧ ¬(a=3∧b=3)
def FP (f:cH):Prop:=Adj f.src f.dst∧f.data.length≤1000
def PP (p:qB):Prop:=Adj p.frm p.to∧p.data.length≤1000
def fV (r:List D):Prop:= ∃p:qB,r=p.row∧PP p
def cP (r:List D):Prop:= ∃n:aR,r=n.row∧n.text.length≤1000000
def jL (r:List D):Prop:=True
theorem vm:fV [.i 0,.i 0,.s [],.b false]:=⟨⟨0,0,[],false⟩,rfl,by unfold PP Adj;simp⟩
theorem aFe:cP [.i 0,.i 0,.i 0,.i 0,.s []]:=⟨⟨0,0,0,0,[]⟩,rfl,aVa _⟩
def bz (a b:Int):Int:=if a<b then a else b
theorem aCl {a b:Int} (h:Adj a b):0≤bz a b∧bz a b≤2:=by
 obtain⟨h1,h2,h3⟩:=h
 unfold bz
 split<;>omega
theorem qH:qe .zero:=⟨aVa _,aVa _,fun x h=>(by cases h)⟩
def Sm (k' k:aS):Prop:=k'.log.length≤2400∧k'.halves=k.halves
theorem Sm.ks {k k':aS} (h:Sm k' k) (hk:qe k):qe k':=⟨h.1,by rw[h.2];exact hk.2.1,by rw[h.2];exact hk.2.2⟩
theorem Sm.refl {k:aS} (h:k.log.length≤2400):Sm k k:=⟨h,rfl⟩
theorem cc {l:List UInt8} {f:Int} {rec:List UInt8} (h:l.length≤2400): (cD l f rec).1.1.length≤2400:=by
 unfold cD
 split
 · split
   · rename_i h9
     simp only[aU7,decide_eq_true_eq] at h9
     show(l++lX rec).length≤_
     rw[aU5];exact h9.2
   · exact h
 · exact aVa _
theorem zV {l:List UInt8} {f:Int} {recs:List (List UInt8)} (h:l.length≤2400): (fC l f recs).1.1.length≤2400:=by
 unfold fC
 split
 · split
   · rename_i h9
     simp only[aU7,decide_eq_true_eq] at h9
     exact h9.2
   · exact h
 · exact aVa _
theorem aIa {k:aS} {rec:List UInt8} (h:k.log.length≤2400):Sm (pL k rec).1 k:=by
 unfold pL
 split
 · split
   · exact⟨cc h,rfl⟩
   · split
     · split
       · exact⟨cc (zV h),rfl⟩
       · exact Sm.refl h
     · exact Sm.refl h
 · exact Sm.refl h
theorem nf {l:List UInt8} {f:Int} (h:l.length≤2400): (nK l f).1.length≤2400:=by
 unfold nK
 split
 · exact h
 · exact aVa _
theorem zG {k:aS} (h:k.log.length≤2400):Sm (vB k) k:=⟨nf h,rfl⟩
theorem tX {k:aS} {rec:List UInt8} {fc:Bool} (h:k.log.length≤2400):Sm (fU k rec fc).1 k:=by
 have hl:=aIa (rec:=rec) h
 unfold fU
 split
 · cases fc
   · exact hl
   · exact⟨(zG hl.1).1,hl.2⟩
 · exact Sm.refl h
theorem ng {k:aS} {rec:List UInt8} (h:k.log.length≤2400):Sm (jT k rec).1 k:=tX (fc:=true) h
theorem zH {k:aS} (h:qe k):qe (eM k).1:=by
 unfold eM
 split
 · split
   · exact(ng h.1).ks h
   · exact h
 · exact qH
theorem aLl {k:aS} {a b:Int} {t:List UInt8} (h:qe k):qe (eE k a b t).1:=by
 unfold eE
 split
 · split
   · split
     · exact(ng h.1).ks h
     · exact h
   · exact h
 · exact qH
theorem aLm {k:aS} {a b:Int} (h:qe k):qe (cL k a b).1:=by
 unfold cL
 split
 · split
   · split
     · exact(ng h.1).ks h
     · exact h
   · exact h
 · exact qH
theorem zI {k:aS} (h:qe k):qe (eG k).1:=by
 unfold eG
 split
 · split
   · exact(show Sm (lY k (fC k.log k.forced (jK (bC k).1)).1) k from⟨zV h.1,rfl⟩).ks h
   · exact h
 · exact qH
theorem wC {k:aS} (h:qe k):qe (eO k).1:=by
 unfold eO
 split
 · split
   · exact h
   · exact(zG h.1).ks h
 · exact qH
theorem aIb {k:aS} {keep:Int} (h:qe k):qe (nL k keep):=by
 unfold nL
 split
 · refine⟨?_,aVa _,fun x hx=>(by cases hx)⟩
   show(jY k.log k.forced keep).1.length≤_
   have:=h.1
   unfold jY
   split
   · show(k.log.take _).length≤_
     rw[aVc];omega
   · exact aVa _
 · exact qH
theorem aIc {k:aS} (h:qe k):qe (kF k):=by
 unfold kF
 split
 · exact h
 · exact qH
theorem aLn {k:aS} (hl:k.log.length≤2400) (h:HOk k.halves∧k.halves.length≤3):qe k:=⟨hl,by have:=h.2;omega,fun x hx=>by have:=aJh h.1 x hx;omega⟩
theorem yd {k:aS} {f:cH} (h:k.log.length≤2400): (dT k f).1.log.length≤2400:=by
 unfold dT
 split
 · exact h
 · split
   · exact(zG h).1
   · split
     · exact h
     · split
       · exact h
       · by_cases h2: (dV f.size ((bV k.halves f).1.getD (bV k.halves f).2.toNat .zero).got).2=true
         · by_cases h3:gD (eU f (dV f.size ((bV k.halves f).1.getD (bV k.halves f).2.toNat .zero).got).1)=[]
           · rw[du h2 h3];exact h
           · have hlog: (eF k (dN (bV k.halves f).1 (bV k.halves f).2.toNat)).log.length≤2400:=h
             by_cases h4: (fU (eF k (dN (bV k.halves f).1 (bV k.halves f).2.toNat)) (cI dE (eU f (dV f.size ((bV k.halves f).1.getD (bV k.halves f).2.toNat .zero).got).1)) true).2=true
             · rw[kq h2 h3 h4];exact(tX hlog).1
             · rw[zF h2 h3 h4];exact(tX hlog).1
         · rw[ko h2];exact h
theorem aId {k:aS} {f:cH} (h:qe k):qe (dA k f).1:=by
 by_cases hok:bG k=true
 · by_cases hgo: (k.up&&eW f&&f.dst==k.id)=true
   · have h1:k.up=true:=by simp at hgo;exact hgo.1.1
     have h2:eW f=true:=by simp at hgo;exact hgo.1.2
     by_cases hk:f.kind=1
     · rw[go hok hgo hk]
       exact aLn (yd h.1) (pw hok h1 h2 hk)
     · by_cases hl:bv k f=true
       · rw[vl hok hgo hk hl];exact(tX h.1).ks h
       · rw[nd hok hgo hk hl];exact h
   · rw[vk hok hgo];exact h
 · rw[vj hok];exact qH
theorem aP4 {kind:Int} {f:cH} (h:eW f=true):FP (vg kind f):=by
 have hs:=lV h
 refine⟨⟨hs.2.1,hs.1,?_⟩,aVa _⟩
 intro ⟨e1,e2⟩
 have e1:f.dst=3:=e1
 have e2:f.src=3:=e2
 by_cases hk:f.kind=1
 · have:=(aKi h hk).2;omega
 · have:=(aKj h hk).2;omega
theorem aCm {k:aS} {f:cH} (h:eW f=true): (∀g∈(dT k f).2,FP g)∧(dT k f).2.length≤1:=by
 have one: ∀c,(∀g∈[vg c f],FP g)∧[vg c f].length≤1:=fun c=>⟨fun g hg=>by rw[aVn.1 hg];exact aP4 h,aVf _⟩
 have none: (∀g∈([]:List cH),FP g)∧([]:List cH).length≤1:=⟨fun g hg=>(by cases hg),aVa _⟩
 unfold dT
 split
 · exact one 3
 · split
   · exact one 2
   · split
     · exact none
     · split
       · exact none
       · by_cases h2: (dV f.size ((bV k.halves f).1.getD (bV k.halves f).2.toNat .zero).got).2=true
         · by_cases h3:gD (eU f (dV f.size ((bV k.halves f).1.getD (bV k.halves f).2.toNat .zero).got).1)=[]
           · rw[du h2 h3];exact none
           · by_cases h4: (fU (eF k (dN (bV k.halves f).1 (bV k.halves f).2.toNat)) (cI dE (eU f (dV f.size ((bV k.halves f).1.getD (bV k.halves f).2.toNat .zero).got).1)) true).2=true
             · rw[kq h2 h3 h4];exact one 2
             · rw[zF h2 h3 h4];exact none
         · rw[ko h2];exact none
theorem aJi {k:aS} {f:cH}: (∀g∈(dA k f).2,FP g)∧(dA k f).2.length≤1:=by
 have none: (∀g∈([]:List cH),FP g)∧([]:List cH).length≤1:=⟨fun g hg=>(by cases hg),aVa _⟩
 by_cases hok:bG k=true
 · by_cases hgo: (k.up&&eW f&&f.dst==k.id)=true
   · have h2:eW f=true:=by simp at hgo;exact hgo.1.2
     by_cases hk:f.kind=1
     · rw[go hok hgo hk];exact aCm h2
     · by_cases hl:bv k f=true
       · rw[vl hok hgo hk hl];exact none
       · rw[nd hok hgo hk hl];exact none
   · rw[vk hok hgo];exact none
 · rw[vj hok];exact none
theorem aLo (k:aL) (n:aR): (dW k n).1.id=k.id:=by
 unfold dW
 repeat' split
 all_goals rfl
theorem aN3 (k:aL) (w:List UInt8) (n:Int): (kM k w n).1.id=k.id:=by
 unfold kM
 repeat' split
 all_goals rfl
theorem aLp (k:aL) (w:List UInt8) (n:aR): (dX k w n).1.id=k.id:=by
 unfold dX
 repeat' split
 all_goals first|rfl|exact aLo _ _
theorem aLq (k:aL) (w:List UInt8) (m:bQ): (fY k w m).1.id=k.id:=by
 unfold fY
 repeat' split
 all_goals rfl
theorem aLr (k:aL) (rec:List UInt8): (eA k rec).1.id=k.id:=by
 unfold eA
 repeat' split
 all_goals first|rfl|exact aN3 _ _ _|exact aLp _ _ _|exact aLq _ _ _
theorem aLs {k:aL} {rec:List UInt8} (h: (aO k rec).2=true): (aO k rec).1.id=k.id:=by
 unfold aO at h ⊢
 split at h
 · rename_i hk
   rw[if_pos hk]
   unfold kD
   split
   · exact aLr k rec
   · rfl
 · cases h
theorem aAy: ∀{rs:List (List UInt8)} {k:aL},(oH k rs).2=true→(oH k rs).1.id=k.id
 | [],k,_=>rfl
 |r::rs,k,h=>by
  unfold oH at h ⊢
  split at h
  · rename_i hd
    rw[if_pos hd,aAy h,aLs hd]
  · cases h
theorem aN4 {k:aS} (h:bG k=true): (bC k).1.id=k.id:=by
 unfold bG at h
 simp only[aU7] at h
 have h2:=h.1.1.2
 unfold bC iE at h2 ⊢
 split at h2
 · rename_i hn
   rw[if_pos hn,aAy h2]
   unfold bB
   rw[if_pos hn]
 · cases h2
theorem aCn {a b:Int} (ha:eC a=true) (hb:eC b=true) (h:a≠b):Adj a (iN a b)∧(a - iN a b=1∨iN a b - a=1):=by
 have h1:0≤a∧a≤3:=by simpa[eC,iB] using ha
 have h2:0≤b∧b≤3:=by simpa[eC,iB] using hb
 have e:iN a b=if a<b then a+1 else a - 1:=by
  unfold iN
  rw[ha,hb,beq_eq_false_iff_ne.2 h];rfl
 rw[e]
 unfold Adj
 split<;>omega
theorem aS7 {k:aS} {a b c:Int} (h: (eK k a b c).2=true):FP (eK k a b c).1:=by
 unfold eK at h ⊢
 split at h
 · rename_i hc
   rw[if_pos hc]
   simp only[aU7,decide_eq_true_eq] at hc
   obtain⟨⟨⟨hok,hu⟩,hm⟩,hat⟩:=hc
   obtain⟨j,hj,hjl,_⟩:=rM hok hat
   rw[hj,aU4]
   have hp:=(bX _).1 (iA hok)
   have hh:=pK.1 hp.2.2.1 j hjl
   have hn:=pK.1 hp.2.1.1 j hjl
   unfold rI at hh
   unfold lI eD at hn
   simp only[aU7] at hh hn
   have hw:=hh.1.2
   unfold bf at hw
   simp only[aU7] at hw
   have hid:=aN4 hok
   have h1:eC k.id=true:=by rw[← hid];exact hp.1.1
   have h2:=hn.1.1.1.1.2
   have h3:k.id≠((bC k).1.held.getD j .zero).to:=by rw[← hid];simpa using hw.1
   exact⟨(aCn h1 h2 h3).1,by have:=uq ((bC k).1.held.getD j .zero).text c;show(yZ _ c).length≤_;omega⟩
 · cases h
section
variable {P:Program} {T:gQ} {o:Oper} {σ σ1:St} {x:Operand} {t e:TypeId} {s1 s2 d j es n:Nat} {s3:List C} {Z:ia} {R:List (dF×Option K)} {g:Bool} {k:List (dF×Option K)→V→Prop}
theorem aCo (hT:dR P T) (ho:o.op= .call {callee:= .builtin .len,args:= #[x],argTypes:= #[t]}) (hd:o.dst=some d) (ht:T t=some ⟨.sl e,s1,s2,s3⟩) (hx:ev σ1 x=some (.e (.c (ps j es n)),R)) (hl:aU σ1 (.o j)=some (.zone Z))
 (hr:g=true→oF σ (R++[(.o j,some (.zone Z))])) (h:k (R++[(.o j,some (.zone Z))]) (I n)): ∃R X,(g=true→wY P o R [(.t d,.v X)]∧bL R σ1)∧(g=true→oF σ R)∧k R X:=by
 obtain⟨R',W',h1,h2,e1,e2⟩:=fw (k:=fun R' W'=>R'=R++[(.o j,some (.zone Z))]∧W'=[(.t d,.v (I n))]) hT ho hd ht hx hl ⟨rfl,rfl⟩
 subst e1;subst e2
 exact⟨_,_,fun _=>⟨h1,h2⟩,hr,h⟩
end
theorem vn {l:List cH} {i:Nat} (h:i<l.length): (mR l).getD i []=(l.getD i cH.zero).row:=by
 rw[aVb,aVb]
 simp[mR,h]
def ew (a n:Nat):Nat:=a+min n (30 - a)
theorem vo {a n:Nat} (h:a≤30):ew a n≤30:=by unfold ew;omega
structure xf (ks:List aS) (ls:List Bool) (a b c:Nat):Prop where
 four:ks.length=4
 small: ∀k∈ks,qe k
 three:ls.length=3
 ra:a≤30
 rb:b≤6
 rc:c≤6
theorem xf.at {ks:List aS} {ls:List Bool} {a b c i:Nat} (h:xf ks ls a b c) (hi:i<4):qe (ks.getD i .zero):=h.small _ (cW (by rw[h.four];exact hi))
theorem xf.set {ks:List aS} {ls:List Bool} {a b c:Nat} (h:xf ks ls a b c) {k:aS} (hk:qe k) (i:Nat):xf (ks.set i k) ls a b c:=
 ⟨by rw[List.length_set];exact h.four,fun x hx=>by rcases List.mem_or_eq_of_mem_set hx with hx|rfl;exact h.small x hx;exact hk,h.three,h.ra,h.rb,h.rc⟩
theorem xf.to {ks:List aS} {ls:List Bool} {a b c a' b' c':Nat} (h:xf ks ls a b c) (h1:a'≤30) (h2:b'≤6) (h3:c'≤6):xf ks ls a' b' c':=⟨h.four,h.small,h.three,h1,h2,h3⟩
theorem xf.links {ks:List aS} {ls ls':List Bool} {a b c:Nat} (h:xf ks ls a b c) (h1:ls'.length=3):xf ks ls' a b c:=⟨h.four,h.small,h1,h.ra,h.rb,h.rc⟩
theorem bF {l:List aS} {i:Nat} {k:aS} (hi:i<l.length): (aG l).set i (dC ((aG l).getD i []) 0 k.row)=aG (l.set i k):=by
 rw[cB hi]
 have:dC ((l.getD i .zero).row) 0 k.row=k.row:=rfl
 rw[this]
 simp[aG,List.map_set]
theorem aCp {l:List Bool} {i:Nat} {x:Bool} (hi:i<l.length): (aM l).set i (dC ((aM l).getD i []) 0 [D.b x])=aM (l.set i x):=by
 rw[lB hi]
 have:dC [D.b (l.getD i false)] 0 [D.b x]=[D.b x]:=rfl
 rw[this]
 simp[aM,List.map_set]
theorem zJ {a:Int} (h:0≤a∧a≤3): ∃i:Nat,a=(i:Int)∧i<4:=⟨a.toNat,by omega,by omega⟩
theorem aN5 {k:aS} {a b:Int} (h:qe k): (cL k a b).2.1.text.length≤1000000:=by
 unfold cL
 split
 · rename_i hok
   split
   · split
     · rename_i hc _
       simp only[aU7,decide_eq_true_eq] at hc
       obtain⟨j,hj,hjl,_⟩:=vd hok hc.2
       rw[hj,aU4]
       have h6:=(bX _).1 (iA hok)
       have hn:=lT h6.2.1.2.2 (cW (z:=aR.zero) hjl)
       unfold eD wO at hn
       simp only[aU7] at hn
       have h24:1≤(((bC k).1.inbox.getD j .zero).text.length:Int)∧(((bC k).1.inbox.getD j .zero).text.length:Int)≤24:=by simpa[iB] using hn.2.2
       show((bC k).1.inbox.getD j .zero).text.length≤_
       omega
     · exact aVa _
   · exact aVa _
 · exact aVa _
def mgC (j j2:Nat):C→C
 | .z o Q=> .z (if o=j2 then j else o) Q
 |c=>c
def mgE (j j2:Nat):E→E
 | .c x=> .c (mgC j j2 x)
 | .agg cs=> .agg (cs.map (mgC j j2))
def mgV (j j2:Nat):V→V
 | .e x=> .e (mgE j j2 x)
 | .tup xs=> .tup (xs.map (mgE j j2))
def mgK (j j2:Nat):K→K
 | .v x=> .v (mgV j j2 x)
 | .cv s w b x=> .cv s w b (mgV j j2 x)
 | .box ty cs=> .box ty (cs.map (mgC j j2))
 |k=>k
def mgS (j j2:Nat) (σ:St):St:=σ.map fun p=>(p.1,if p.1= .o j2 then .dead else mgK j j2 p.2)
theorem oD (j j2:Nat) (σ:St) (l:dF):aU (mgS j j2 σ) l=(aU σ l).map fun k=>if l= .o j2 then .dead else mgK j j2 k:=by
 induction σ with
 |nil=>rfl
 |cons p r ih=>
  unfold mgS at ih ⊢
  rw[List.map_cons]
  unfold aU
  by_cases h:p.1=l
  · simp[h]
  · simp only[h,if_false];exact ih
def cf:Value→Value→Value
 | .tuple a,.tuple b=> .tuple (a++b)
 |p,_=>p
theorem kr {p q v:Value} (hp: ∃vs,p= .tuple vs) (hq: ∃vs,q= .tuple vs):sv (cf p q) v↔sv p v∨sv q v:=by
 obtain⟨a,rfl⟩:=hp
 obtain⟨b,rfl⟩:=hq
 simp[sv,cf]
theorem aCq {p:Value} (hp: ∃vs,p= .tuple vs) {b:Nat}:xT p b↔ ∃v,sv p v∧blk v=some b:=by
 obtain⟨a,rfl⟩:=hp
 simp[sv,xT]
section
variable {σ:St} {ι ν:Nat→Value} {S:Nat→Prop} {w:World} {j j2 es:Nat} {e:TypeId} {Pr:List D→Prop}
theorem CR.mg (h1:aU σ (.o j)=some (aI e es Pr)) (h2:aU σ (.o j2)=some (aI e es Pr)) (hne:j≠j2) (hp: ∃vs,ι j= .tuple vs) (hq: ∃vs,ι j2= .tuple vs) {c:C} {v:Value} (h:CR σ ι w S c v):
 CR (mgS j j2 σ) (fun o=>if o=j then cf (ι j) (ι j2) else ι o) w S (mgC j j2 c) v:=by
 cases c with
 |d x=>exact h
 |nil=>exact h
 |own o n=>
  refine⟨h.1,?_⟩
  rcases h.2 with⟨e',es',rows,hl,hn,hv⟩|hl
  · have ho:o≠j:=fun e=>by rw[e,h1] at hl;cases hl
    have ho2:o≠j2:=fun e=>by rw[e,h2] at hl;cases hl
    refine .inl ⟨e',es',rows,by rw[oD,hl];simp[ho2,mgK],hn,fun hh=> ?_⟩
    dsimp only;rw[if_neg ho];exact hv hh
  · right;rw[oD,hl];simp[mgK]
 |pt o k=>
  refine⟨h.1,?_⟩
  rcases h.2 with⟨ty,cs,hl,b,hi,hv⟩|hl
  · have ho:o≠j:=fun e=>by rw[e,h1] at hl;cases hl
    have ho2:o≠j2:=fun e=>by rw[e,h2] at hl;cases hl
    refine .inl ⟨ty,cs.map (mgC j j2),by rw[oD,hl];simp[ho2,mgK],b,?_,hv⟩
    dsimp only;rw[if_neg ho];exact hi
  · right;rw[oD,hl];simp[mgK]
 |pe o n i k=>
  refine⟨h.1,?_⟩
  rcases h.2 with⟨e',es',rows,hl,hn,hv⟩|hl
  · have ho:o≠j:=fun e=>by rw[e,h1] at hl;cases hl
    have ho2:o≠j2:=fun e=>by rw[e,h2] at hl;cases hl
    refine .inl ⟨e',es',rows,by rw[oD,hl];simp[ho2,mgK],hn,fun hh=> ?_⟩
    dsimp only;rw[if_neg ho];exact hv hh
  · right;rw[oD,hl];simp[mgK]
 |rp cs=>exact h
 |z o Q=>
  refine⟨h.1,?_⟩
  have hj:aU (mgS j j2 σ) (.o j)=some (aI e es Pr):=by rw[oD,h1];simp[hne,mgK]
  rcases h.2 with⟨Z,hl,hv⟩|hl
  · by_cases ho2:o=j2
    · subst ho2
      rw[h2] at hl;cases hl
      refine .inl ⟨aMx e es Pr,by rw[if_pos rfl];exact hj,fun p hpp=>hv p fun v hv'=> ?_⟩
      rw[if_pos rfl] at hpp
      dsimp only at hpp
      rw[if_pos rfl] at hpp
      exact hpp v ((kr hp hq).2 (.inr hv'))
    · rw[if_neg ho2]
      by_cases ho:o=j
      · subst ho
        rw[h1] at hl;cases hl
        refine .inl ⟨aMx e es Pr,hj,fun p hpp=>hv p fun v hv'=> ?_⟩
        dsimp only at hpp
        rw[if_pos rfl] at hpp
        exact hpp v ((kr hp hq).2 (.inl hv'))
      · refine .inl ⟨Z,by rw[oD,hl];simp[ho2,mgK],fun p hpp=>hv p ?_⟩
        dsimp only at hpp
        rw[if_neg ho] at hpp
        exact hpp
  · have ho2:o≠j2:=fun e=>by rw[e,h2] at hl;cases hl
    right;rw[if_neg ho2,oD,hl];simp[ho2,mgK]
theorem ER.mg (h1:aU σ (.o j)=some (aI e es Pr)) (h2:aU σ (.o j2)=some (aI e es Pr)) (hne:j≠j2) (hp: ∃vs,ι j= .tuple vs) (hq: ∃vs,ι j2= .tuple vs) {c:E} {v:Value} (h:ER σ ι w S c v):
 ER (mgS j j2 σ) (fun o=>if o=j then cf (ι j) (ι j2) else ι o) w S (mgE j j2 c) v:=by
 cases c with
 |c x=>exact CR.mg h1 h2 hne hp hq h
 |agg cs=>
  obtain⟨vs,hv,hl,hk⟩:=h
  refine⟨vs,hv,by simp[hl],fun k c u hc hu=> ?_⟩
  rw[List.getElem?_map] at hc
  cases hx:cs[k]? with
  |none=>rw[hx] at hc;cases hc
  |some c0=>rw[hx] at hc;cases hc;exact CR.mg h1 h2 hne hp hq (hk k c0 u hx hu)
theorem lR.mg (h1:aU σ (.o j)=some (aI e es Pr)) (h2:aU σ (.o j2)=some (aI e es Pr)) (hne:j≠j2) (hp: ∃vs,ι j= .tuple vs) (hq: ∃vs,ι j2= .tuple vs) {c:V} {v:Value} (h:lR σ ι w S c v):
 lR (mgS j j2 σ) (fun o=>if o=j then cf (ι j) (ι j2) else ι o) w S (mgV j j2 c) v:=by
 cases c with
 |e x=>exact ER.mg h1 h2 hne hp hq h
 |tup cs=>
  obtain⟨vs,hv,hl,hk⟩:=h
  refine⟨vs,hv,by simp[hl],fun k c u hc hu=> ?_⟩
  rw[List.getElem?_map] at hc
  cases hx:cs[k]? with
  |none=>rw[hx] at hc;cases hc
  |some c0=>rw[hx] at hc;cases hc;exact ER.mg h1 h2 hne hp hq (hk k c0 u hx hu)
theorem kR.mg (h1:aU σ (.o j)=some (aI e es Pr)) (h2:aU σ (.o j2)=some (aI e es Pr)) (hne:j≠j2) (hp: ∃vs,ι j= .tuple vs) (hq: ∃vs,ι j2= .tuple vs) {o b:Nat} (h:kR (mgS j j2 σ) (fun o=>if o=j then cf (ι j) (ι j2) else ι o) o b):
 o≠j2∧(kR σ ι o b∨(o=j∧kR σ ι j2 b)):=by
 obtain⟨⟨k,hk,hl⟩,hb⟩:=h
 rw[oD] at hk
 by_cases ho2:o=j2
 · subst ho2
   rw[h2] at hk
   simp at hk
   subst hk
   exact hl.elim
 · refine⟨ho2,?_⟩
   by_cases ho:o=j
   · subst ho
     dsimp only at hb
     rw[if_pos rfl,aCq (by obtain⟨a,ha⟩:=hp;obtain⟨b,hb⟩:=hq;rw[ha,hb];exact⟨_,rfl⟩)] at hb
     obtain⟨v,hv,hbv⟩:=hb
     rcases(kr hp hq).1 hv with hv|hv
     · exact .inl ⟨⟨_,h1,trivial⟩,(aCq hp).2 ⟨v,hv,hbv⟩⟩
     · exact .inr ⟨rfl,⟨_,h2,trivial⟩,(aCq hq).2 ⟨v,hv,hbv⟩⟩
   · left
     dsimp only at hb
     rw[if_neg ho] at hb
     cases hx:aU σ (.o o) with
     |none=>rw[hx] at hk;cases hk
     |some k0=>
      rw[hx] at hk
      simp[ho2] at hk
      subst hk
      refine⟨⟨k0,hx,?_⟩,hb⟩
      cases k0<;>first|trivial|exact hl
theorem VR.mg (h:VR σ ι ν S w) (h1:aU σ (.o j)=some (aI e es Pr)) (h2:aU σ (.o j2)=some (aI e es Pr)) (hne:j≠j2):VR (mgS j j2 σ) (fun o=>if o=j then cf (ι j) (ι j2) else ι o) ν S w:=by
 have hp: ∃vs,ι j= .tuple vs:=(h.objs j _ h1).1
 have hq: ∃vs,ι j2= .tuple vs:=(h.objs j2 _ h2).1
 refine⟨fun s k hk=> ?_,fun o k hk=> ?_,fun o b hm=> ?_,fun o o' b hm hm'=> ?_,h.sz⟩
 · rw[oD] at hk
   cases hx:aU σ (.t s) with
   |none=>rw[hx] at hk;cases hk
   |some k0=>
    rw[hx] at hk
    simp at hk
    subst hk
    have:=h.slots s k0 hx
    cases k0 with
    |v x=>exact lR.mg h1 h2 hne hp hq this
    |cv s w b x=>exact⟨fun hb=>lR.mg h1 h2 hne hp hq (this.1 hb),this.2⟩
    |_=>trivial
 · rw[oD] at hk
   by_cases ho2:o=j2
   · subst ho2;rw[h2] at hk;simp at hk;subst hk;trivial
   · cases hx:aU σ (.o o) with
     |none=>rw[hx] at hk;cases hk
     |some k0=>
      rw[hx] at hk
      simp[ho2] at hk
      subst hk
      have ho':=h.objs o k0 hx
      by_cases ho:o=j
      · subst ho
        rw[h1] at hx;cases hx
        rw[if_pos rfl]
        refine⟨by obtain⟨a,ha⟩:=hp;obtain⟨b,hb⟩:=hq;rw[ha,hb];exact⟨_,rfl⟩,fun v hv=> ?_⟩
        rcases(kr hp hq).1 hv with hv|hv
        · exact(h.objs o _ h1).2 v hv
        · exact(h.objs j2 _ h2).2 v hv
      · rw[if_neg ho]
        cases k0 with
        |box ty cs=>
         obtain⟨b,vs,q1,q2,q3,q4⟩:=ho'
         refine⟨b,vs,q1,q2,by simp[q3],fun k c u hc hu=> ?_⟩
         rw[List.getElem?_map] at hc
         cases hy:cs[k]? with
         |none=>rw[hy] at hc;cases hc
         |some c0=>rw[hy] at hc;cases hc;exact CR.mg h1 h2 hne hp hq (q4 k c0 u hy hu)
        |row e es rows=>exact ho'
        |zone Z=>exact ho'
        |_=>trivial
 · rcases(kR.mg h1 h2 hne hp hq hm).2 with h'|⟨_,h'⟩
   · exact h.mutS _ b h'
   · exact h.mutS _ b h'
 · obtain⟨n1,c1⟩:=kR.mg h1 h2 hne hp hq hm
   obtain⟨n2,c2⟩:=kR.mg h1 h2 hne hp hq hm'
   rcases c1 with c1|⟨rfl,c1⟩<;>rcases c2 with c2|⟨rfl,c2⟩
   · exact h.inj o o' b c1 c2
   · exact(n1 (h.inj o j2 b c1 c2)).elim
   · exact(n2 (h.inj o' j2 b c2 c1)).elim
   · rfl
end
theorem RW.mg {P:Program} {cx:Cx P} {σ:St} {ι:Nat→Value} {S:Nat→Prop} {a:Act} {w:World} {j j2 es:Nat} {e:TypeId} {Pr:List D→Prop} (h:RW cx σ ι S a w) (h1:aU σ (.o j)=some (aI e es Pr)) (h2:aU σ (.o j2)=some (aI e es Pr)) (hne:j≠j2) (hk:cx.kio j2=none):
 RW cx (mgS j j2 σ) (fun o=>if o=j then cf (ι j) (ι j2) else ι o) S a w:=by
 have hp: ∃vs,ι j= .tuple vs:=(h.vr.objs j _ h1).1
 have hq: ∃vs,ι j2= .tuple vs:=(h.vr.objs j2 _ h2).1
 refine⟨h.vr.mg h1 h2 hne,h.size,h.defers,h.fr,fun o b hm=> ?_,h.rd,fun o k ho=> ?_⟩
 · rcases(kR.mg h1 h2 hne hp hq hm).2 with h'|⟨_,h'⟩
   · exact h.own _ b h'
   · exact h.own _ b h'
 · obtain⟨k',hk',hev⟩:=h.io o k ho
   have ho2:o≠j2:=fun e=>by rw[e,hk] at ho;cases ho
   refine⟨mgK j j2 k',by rw[oD,hk'];simp[ho2],?_⟩
   refine nA.trans hev ?_
   by_cases hj:o=j
   · subst hj
     rw[h1] at hk';cases hk'
     rw[if_pos rfl]
     exact⟨rfl,fun v hv=>(kr hp hq).2 (.inl hv)⟩
   · rw[if_neg hj]
     cases k'<;>simp[nA,mgK,ia.refl]
theorem SW.merge {P:Program} {io:List Nat} {Q:Ex→St→Prop} {σ:St} {c:Code} (j j2:Nat) {e:TypeId} {es:Nat} {Pr:List D→Prop} (h1:aU σ (.o j)=some (aI e es Pr)) (h2:aU σ (.o j2)=some (aI e es Pr)) (hne:j≠j2) (hk:iU j2 io=false) (h:SW P io c Q (mgS j j2 σ)):SW P io c Q σ:=fun cx ι S a w hio hw hf=>
 h cx _ S a w hio (hw.mg h1 h2 hne (by
  cases hx:cx.kio j2 with
  |none=>rfl
  |some k=>exact absurd (gS.2 (hio j2 k hx)) (by rw[hk];simp))) hf
def aJj (P:Program) (io:List Nat) (s q:St):Prop:= ∀c Q,SW P io c Q q→SW P io c Q s
section
variable {P:Program} {io:List Nat} {σ q:St} {Q:Ex→St→Prop}
theorem kt (h:WK io (fun x=>x=q) σ):aJj P io σ q:=fun c Q hq=>SW.wk h (fun s hs=>by subst hs;exact hq)
theorem aFf (j j2:Nat) {e:TypeId} {es:Nat} {Pr:List D→Prop} (h1:aU σ (.o j)=some (aI e es Pr)) (h2:aU σ (.o j2)=some (aI e es Pr)) (hne:j≠j2) (hk:iU j2 io=false) (h:aJj P io (mgS j j2 σ) q):aJj P io σ q:=
 fun c Q hq=>SW.merge j j2 h1 h2 hne hk (h c Q hq)
theorem SW.midL {A:Type} (ok:A→Prop) (st:A→St) {x y:Code} (h:SW P io x (il (fun s=> ∃a,ok a∧aJj P io s (st a)) Q) σ) (hy: ∀a,ok a→SW P io y Q (st a)):SW P io (.seq x y) Q σ:=
 SW.mid _ h fun s ⟨a,h1,h2⟩=>h2 y Q (hy a h1)
end
theorem vq {p:Prop} (h:p:=by first|exact True.intro|rfl|exact aU6 rfl|exact⟨rfl,aU6 rfl⟩|exact⟨by kernel_rfl,aU6 (by kernel_rfl)⟩|omega|((repeat' apply And.intro)<;>first|trivial|rfl|exact aU6 rfl|omega)|(simp;done)|(simp;omega)):p:=h
theorem s1 {p1 k:Prop} (x:k) (h1:p1:=by exact vq):p1∧k:=⟨h1,x⟩
theorem s2 {p1 p2 k:Prop} (x:k) (h1:p1:=by exact vq) (h2:p2:=by exact vq):p1∧p2∧k:=⟨h1,h2,x⟩
theorem s3 {p1 p2 p3 k:Prop} (x:k) (h1:p1:=by exact vq) (h2:p2:=by exact vq) (h3:p3:=by exact vq):p1∧p2∧p3∧k:=⟨h1,h2,h3,x⟩
theorem s4 {p1 p2 p3 p4 k:Prop} (x:k) (h1:p1:=by exact vq) (h2:p2:=by exact vq) (h3:p3:=by exact vq) (h4:p4:=by exact vq):p1∧p2∧p3∧p4∧k:=⟨h1,h2,h3,h4,x⟩
theorem s5 {p1 p2 p3 p4 p5 k:Prop} (x:k) (h1:p1:=by exact vq) (h2:p2:=by exact vq) (h3:p3:=by exact vq) (h4:p4:=by exact vq) (h5:p5:=by exact vq):p1∧p2∧p3∧p4∧p5∧k:=⟨h1,h2,h3,h4,h5,x⟩
theorem s6 {p1 p2 p3 p4 p5 p6 k:Prop} (x:k) (h1:p1:=by exact vq) (h2:p2:=by exact vq) (h3:p3:=by exact vq) (h4:p4:=by exact vq) (h5:p5:=by exact vq) (h6:p6:=by exact vq):p1∧p2∧p3∧p4∧p5∧p6∧k:=⟨h1,h2,h3,h4,h5,h6,x⟩
theorem s7 {p1 p2 p3 p4 p5 p6 p7 k:Prop} (x:k) (h1:p1:=by exact vq) (h2:p2:=by exact vq) (h3:p3:=by exact vq) (h4:p4:=by exact vq) (h5:p5:=by exact vq) (h6:p6:=by exact vq) (h7:p7:=by exact vq):p1∧p2∧p3∧p4∧p5∧p6∧p7∧k:=⟨h1,h2,h3,h4,h5,h6,h7,x⟩
theorem s8 {p1 p2 p3 p4 p5 p6 p7 p8 k:Prop} (x:k) (h1:p1:=by exact vq) (h2:p2:=by exact vq) (h3:p3:=by exact vq) (h4:p4:=by exact vq) (h5:p5:=by exact vq) (h6:p6:=by exact vq) (h7:p7:=by exact vq) (h8:p8:=by exact vq):p1∧p2∧p3∧p4∧p5∧p6∧p7∧p8∧k:=⟨h1,h2,h3,h4,h5,h6,h7,h8,x⟩
theorem s9 {p1 p2 p3 p4 p5 p6 p7 p8 p9 k:Prop} (x:k) (h1:p1:=by exact vq) (h2:p2:=by exact vq) (h3:p3:=by exact vq) (h4:p4:=by exact vq) (h5:p5:=by exact vq) (h6:p6:=by exact vq) (h7:p7:=by exact vq) (h8:p8:=by exact vq) (h9:p9:=by exact vq):p1∧p2∧p3∧p4∧p5∧p6∧p7∧p8∧p9∧k:=⟨h1,h2,h3,h4,h5,h6,h7,h8,h9,x⟩
theorem y1 {w1 p1 q1 k:Prop} (x:k) (h1:w1→p1:=by intro _;exact vq) (j1:q1:=by exact rk): (w1→p1)∧q1∧k:=⟨h1,j1,x⟩
theorem y2 {w1 p1 q1 w2 p2 q2 k:Prop} (x:k) (h1:w1→p1:=by intro _;exact vq) (j1:q1:=by exact rk) (h2:w2→p2:=by intro _;exact vq) (j2:q2:=by exact rk): (w1→p1)∧q1∧(w2→p2)∧q2∧k:=⟨h1,j1,h2,j2,x⟩
theorem y3 {w1 p1 q1 w2 p2 q2 w3 p3 q3 k:Prop} (x:k) (h1:w1→p1:=by intro _;exact vq) (j1:q1:=by exact rk) (h2:w2→p2:=by intro _;exact vq) (j2:q2:=by exact rk) (h3:w3→p3:=by intro _;exact vq) (j3:q3:=by exact rk): (w1→p1)∧q1∧(w2→p2)∧q2∧(w3→p3)∧q3∧k:=⟨h1,j1,h2,j2,h3,j3,x⟩
theorem y4 {w1 p1 q1 w2 p2 q2 w3 p3 q3 w4 p4 q4 k:Prop} (x:k) (h1:w1→p1:=by intro _;exact vq) (j1:q1:=by exact rk) (h2:w2→p2:=by intro _;exact vq) (j2:q2:=by exact rk) (h3:w3→p3:=by intro _;exact vq) (j3:q3:=by exact rk) (h4:w4→p4:=by intro _;exact vq) (j4:q4:=by exact rk): (w1→p1)∧q1∧(w2→p2)∧q2∧(w3→p3)∧q3∧(w4→p4)∧q4∧k:=⟨h1,j1,h2,j2,h3,j3,h4,j4,x⟩
section
variable {P:Program} {σ σ1 σin:St} {o:Oper} {f n:Nat} {X:V}
def aJk (σ:St) (o:Oper) (f n:Nat) (σin:St) (X:V) (k:List (dF×Option K)→Tmp→Prop):Prop:=match o.op,o.dst with
 | .call c,some d=>match c.callee,evA σ c.args.toList with
  | .value (.func f'),some (Xs,Ra)=>match Nat.beq f' f&&(Nat.beq Xs.length n&&(Xs.all oG&&oG X)) with
   |true=>σin=eS 0 Xs∧k Ra d
   |false=>False
  |_,_=>False
 |_,_=>False
theorem vp {k:List (dF×Option K)→Tmp→Prop} (h:aJk σ o f n σin X k): ∃c d Xs Ra,o.op= .call c∧c.callee= .value (.func f)∧o.dst=some d∧evA σ c.args.toList=some (Xs,Ra)∧Xs.length=n∧σin=eS 0 Xs∧Xs.all oG=true∧oG X=true∧k Ra d:=by
 unfold aJk at h
 split at h<;>try exact h.elim
 rename_i c d ho hd
 split at h<;>try exact h.elim
 rename_i f' Xs Ra hc hx
 split at h<;>try exact h.elim
 rename_i hb
 simp only[aU7] at hb
 obtain⟨h1,h2,h3,h4⟩:=hb
 have h1:=Nat.eq_of_beq_eq_true h1
 subst h1
 exact⟨c,d,Xs,Ra,ho,hc,hd,hx,Nat.eq_of_beq_eq_true h2,h.1,h3,h4,h.2⟩
theorem xp {k:List (dF×Option K)→List (dF×K)→Prop} (hs:Spec P f n σin [(.t 0,.v X)]) (h:aJk σ o f n σin X fun Ra d=>k Ra [(.t d,.v X)]): ∃R W,wY P o R W∧bL R σ∧k R W:=by
 obtain⟨c,d,Xs,Ra,h1,h2,h3,h4,h5,h6,h7,h8,h9⟩:=vp h
 exact iu hs h1 h2 h3 h4 h5 h6 h7 h8 h9
theorem xc {g:Bool} {d:Tmp} {k:List (dF×Option K)→V→Prop} (hs:g=true→Spec P f n σin [(.t 0,.v X)]) (h:aJk σ1 o f n σin X fun Ra d'=>match Nat.beq d' d with|true=>(g=true→oF σ Ra)∧k Ra X|false=>False): ∃R X,(g=true→wY P o R [(.t d,.v X)]∧bL R σ1)∧(g=true→oF σ R)∧k R X:=by
 obtain⟨c,d',Xs,Ra,h1,h2,h3,h4,h5,h6,h7,h8,h9⟩:=vp h
 split at h9
 · rename_i hb
   have hb:=Nat.eq_of_beq_eq_true hb
   subst hb
   exact aMu hs h1 h2 h3 h4 h5 h6 h7 h8 h9.1 h9.2
 · exact h9.elim
end
section
variable {P:Program} {io:List Nat} {Q:Ex→St→Prop} {s σ':St} {rl:List (Nat×Nat)} {bor:List Nat}
theorem wq {J:St→Prop} (rl:List (Nat×Nat)) (bor:List Nat) (h:J σ') (h1:qL s σ' rl bor σ') (h2:zQ σ' rl bor=true:=by rfl) (h3:yE io σ' rl bor=true:=by rfl):WK io J s:=Ab.wk σ' rl bor h (qs h1) h2 h3
theorem wa {c:Code} (σ':St) (rl:List (Nat×Nat)) (bor:List Nat) (h1:qL s σ' rl bor σ') (h:SW P io c Q σ') (h2:zQ σ' rl bor=true:=by rfl) (h3:yE io σ' rl bor=true:=by rfl):SW P io c Q s:=SW.weaken σ' rl bor ⟨qs h1,h2⟩ h3 h
theorem rq {T:gQ} {rs:List ResultVar} {X:V} (rl:List (Nat×Nat)) (bor:List Nat) (h1:aGc T s rs=some X) (h2:qL ((.t 0,.v X)::dY s) σ' rl bor σ') (h3:zQ σ' rl bor=true:=by rfl) (h4:sa io σ' rl bor=true:=by rfl):zR T io rs σ' s:=eN X rl bor h1 (qs h2) h3 h4
theorem sq {x y:Code} (h:SW P io x (il (SW P io y Q) Q) s):SW P io (.seq x y) Q s:=SW.seq h
theorem sk (h:Q .norm s):SW P io .skip Q s:=SW.skip h
theorem bk {id:Nat} {c:Code} (h:SW P io c (aGb id Q) s):SW P io (.block id c) Q s:=SW.block h
theorem xt {id:Nat} (h:Q (.exit id) s):SW P io (.exit id) Q s:=SW.exit h
theorem rt (h:Q .ret s):SW P io .ret Q s:=SW.ret h
theorem cd {c:Operand} {x y:Code} {t:Bool} {R:List (dF×Option K)} (hc:ev s c=some (B t,R)) (h1:t=true→SW P io x Q s) (h2:t=false→SW P io y Q s):SW P io (.cond c x y) Q s:=SW.cond hc h1 h2
end
theorem qx {p:Prop} (h:p:=by first|exact True.intro|with_reducible rfl|exact aUq):p:=h
theorem qz {p:Prop} (h:p:=by(repeat' apply ai)<;>first|exact True.intro|with_reducible rfl|exact aUq|rfl|(simp;done)|omega):p:=h
abbrev tI (s:Nat) (x:Int):dF×K:=(.t s,.v (I x))
abbrev tB (s:Nat) (x:Bool):dF×K:=(.t s,.v (B x))
abbrev tD (s:Nat) (x:D):dF×K:=(.t s,.v (Dv x))
abbrev tP (s o:Nat):dF×K:=(.t s,.v (.e (.c (.pt o 0))))
abbrev tO (s o n:Nat):dF×K:=(.t s,.v (.e (.c (.own o n))))
abbrev tV (s:Nat) (x:V):dF×K:=(.t s,.v x)
abbrev oB (o:Nat) (t:TypeId) (cs:List C):dF×K:=(.o o,.box t cs)
abbrev oR (o:Nat) (t:TypeId) (n:Nat) (r:List (List D)):dF×K:=(.o o,.row t n r)
end Go.Ab
namespace Go.Proofs.YtcbjphphppaoiaaGreatDoor
open Int renaming toNat_natCast→aU4,tmod→aVg
open List renaming length_append→aU5,length_nil→aU8,length_cons→aU9,getD_eq_getElem?_getD→aVb,length_take→aVc,getElem?_eq_getElem→aVd,getElem?_eq_some_iff→aVe,range→aVh,all_eq_true→aVi,mem_map→aVj,length_drop→aVk,take_length→aVl,mem_cons→aVm,mem_singleton→aVn,mem_iff_getElem?→aVp
open Nat renaming le_of_ble_eq_true→aU6,zero_le→aVa,le_refl→aVf,add_mul→aVo
open Bool renaming and_eq_true→aU7
open Go Go.Ab Go.RowKit
set_option linter.unusedVariables false
abbrev Sp:=Ab.Spec Tryz.prog
abbrev qu:=Ab.SpecE Tryz.prog
theorem mo:Tryz.prog.follows .mixedOrders=true:=by kernel_rfl
theorem rT {io:List Nat} {Q:Ex→St→Prop} {σ:St} (ks:List Nat) {id:Nat} {ops:Array Oper} (h:goC Tryz.prog tab ops.toList false ops.toList σ [] fun σ' _=>qY ks σ' (Q .norm)):SW Tryz.prog io (.region id ops false) Q σ:=SW.regT dH ks h
theorem rD {io:List Nat} {Q:Ex→St→Prop} {σ:St} (ks:List Nat) {id:Nat} {ops:Array Oper} (h:goC Tryz.prog tab ops.toList true ops.toList σ [] fun σ' ns=>ay ops.toList ns=true∧qY ks σ' (Q .norm)):SW Tryz.prog io (.region id ops true) Q σ:=SW.regD dH mo ks h
theorem rE {io:List Nat} {Q:Ex→St→Prop} {σ:St} (ks:List Nat) {id:Nat} {ops:Array Oper} (h:goE Tryz.prog tab io ops.toList ops.toList σ fun σ'=>qY ks σ' (Q .norm)):SW Tryz.prog io (.region id ops false) Q σ:=SW.regE dH ks h
theorem rF {io:List Nat} {Q:Ex→St→Prop} {σ:St} (ks:List Nat) {id:Nat} {ops:Array Oper} (h:goF Tryz.prog tab io ops.toList ops.toList σ fun σ'=>qY ks σ' (Q .norm)):SW Tryz.prog io (.region id ops false) Q σ:=SW.regF dH ks h
theorem rX {io:List Nat} {Q:Ex→St→Prop} {σ:St} (ks:List Nat) {id:Nat} {ops:Array Oper} (h:goX Tryz.prog ops.toList σ [] fun σ' ns=>ay ops.toList ns=true∧qY ks σ' (Q .norm)):SW Tryz.prog io (.region id ops true) Q σ:=SW.regX mo ks h
theorem sb {f:FuncId} {fn:Func} {c:Code} {n:Nat} {σin:St} {σout:St} (hf:Tryz.prog.funcs[f]? =some fn) (hb:fn.body=some c) (h:SW Tryz.prog ((cA σin).filter fun o=>iU o (cA σout)) c (aQf tab ((cA σin).filter fun o=>iU o (cA σout)) fn.results.toList σout) σin) (hname: (fn.name== "runtime.NumGoroutine")=false:=by kernel_rfl) (hn:n≤fn.ntmps:=by decide) (hfit:sX fn.ntmps c=true:=by kernel_rfl) (hsl:rZ n σin=true:=by rfl):Sp f n σin σout:=aBb dH hf hb hname hn hfit hsl h
theorem vt {f:FuncId} {fn:Func} {c:Code} {n:Nat} {σin:St} {Qo:St→Prop} (hf:Tryz.prog.funcs[f]? =some fn) (hb:fn.body=some c) (h:SW Tryz.prog (cA σin) c (aMv tab (cA σin) fn.results.toList Qo) σin) (hname: (fn.name== "runtime.NumGoroutine")=false:=by kernel_rfl) (hn:n≤fn.ntmps:=by decide) (hfit:sX fn.ntmps c=true:=by kernel_rfl) (hsl:rZ n σin=true:=by rfl):qu f n σin Qo:=xk dH hf hb hname hn hfit hsl h
end Go.Proofs.YtcbjphphppaoiaaGreatDoor
namespace Go.Ab
open Int renaming toNat_natCast→aU4,tmod→aVg
open List renaming length_append→aU5,length_nil→aU8,length_cons→aU9,getD_eq_getElem?_getD→aVb,length_take→aVc,getElem?_eq_getElem→aVd,getElem?_eq_some_iff→aVe,range→aVh,all_eq_true→aVi,mem_map→aVj,length_drop→aVk,take_length→aVl,mem_cons→aVm,mem_singleton→aVn,mem_iff_getElem?→aVp
open Nat renaming le_of_ble_eq_true→aU6,zero_le→aVa,le_refl→aVf,add_mul→aVo
open Bool renaming and_eq_true→aU7
open Go Go.RowKit
set_option linter.unusedVariables false
set_option linter.unusedSimpArgs false
def nh (T:gQ) (sz:Nat):Nat→List (Nat×TypeId)→Bool
 |off,[]=>Nat.beq off sz
 |off,p::r=>Nat.beq p.1 off&&(match T p.2 with|some fi=>nh T sz (off+fi.size) r|none=>false)
def gp (T:gQ):Nat→TypeId→Bool
 |0,_=>false
 |n+1,t=>match T t with
  |none=>false
  |some ti=>match ti.kind with
   | .int .i64=>true
   | .int .u8=>true
   | .bool=>true
   | .str=>true
   | .sl e=>gp T n e
   | .st fs=>nh T ti.size 0 fs&&fs.all fun p=>gp T n p.2
   |_=>false
def vF (T:gQ) (B:Nat):Nat→TypeId→List D→Prop
 |0,_,_=>False
 |n+1,t,ds=>match T t with
  |none=>False
  |some ti=>match ti.kind with
   | .int .i64=> ∃x,ds=[.i x]∧(Lit.int .i64 x).wf=true
   | .int .u8=> ∃x,ds=[.u x]∧(Lit.int .u8 x).wf=true
   | .bool=> ∃b,ds=[.b b]
   | .str=> ∃l,ds=[.s l]∧l.length≤B
   | .sl e=> ∃rows,ds=[.sl rows]∧(match T e with|some ei=>rows.length*ei.bytes≤B|none=>False)∧ ∀r∈rows,vF T B n e r
   | .st fs=>ds.length=ti.size∧ ∀p∈fs,match T p.2 with|some fi=>vF T B n p.2 ((ds.drop p.1).take fi.size)|none=>False
   |_=>False
section
variable {H:Type} {enc:TypeId×Value→H} {P:Program} {W:World} {sp:Nat→Bool} {held:Bool} {T:gQ} {B:Nat}
theorem gq (hT:dR P T) {t:TypeId} {ti:TI} (h:T t=some ti):P.cellsOf t=ti.size∧P.bytesOf t=ti.bytes:=by
 obtain⟨i,z,hi,h1,h2,_⟩:=(hT t ti h).info
 exact⟨by simp[Program.cellsOf,hi,h1],by simp[Program.bytesOf,hi,h2]⟩
theorem aP5 {a:Addr} {v:Value} (h:W.cell? a=some v):a.block<W.heap.size:=by
 unfold World.cell? at h
 cases hq:W.heap[a.block]? with
 |none=>rw[hq] at h;simp at h
 |some o=>exact(Array.getElem?_eq_some_iff.1 hq).1
theorem aFg {base:Nat} {a:Addr} {n:Nat} {cs:List Value} (h:W.cells? base a n=some cs):cs.length=n∧ ∀(k:Nat) v,cs[k]? =some v→W.cell? (a.add k)=some v:=by
 unfold World.cells? at h
 split at h
 · have key: ∀(l:List Nat) (cs:List Value),l.mapM (fun i=>W.cell? (a.add i))=some cs→cs.length=l.length∧ ∀(k:Nat) v,cs[k]? =some v→ ∃i,l[k]? =some i∧W.cell? (a.add i)=some v:=by
    intro l
    induction l with
    |nil=>intro cs h;simp at h;subst h;exact⟨rfl,by simp⟩
    |cons x r ih=>
     intro cs h
     rw[List.mapM_cons] at h
     obtain⟨v,h1,h⟩:=Option.bind_eq_some_iff.1 h
     obtain⟨vs,h2,h⟩:=Option.bind_eq_some_iff.1 h
     cases h
     obtain⟨q1,q2⟩:=ih vs h2
     refine⟨by simp[q1],fun k u hu=> ?_⟩
     cases k with
     |zero=>simp at hu;subst hu;exact⟨x,rfl,h1⟩
     |succ k=>simpa using q2 k u (by simpa using hu)
   obtain⟨q1,q2⟩:=key _ _ h
   refine⟨by simpa using q1,fun k v hv=> ?_⟩
   obtain⟨i,h1,h2⟩:=q2 k v hv
   have:=(aVe.1 h1)
   obtain⟨h3,h4⟩:=this
   simp at h4
   rw[h4];exact h2
 · cases h
def SW0 (W:World):Nat→Prop:=fun b=>b<W.heap.size
def Rd (W:World) (ds:List D) (cs:List Value):Prop:=ds.length=cs.length∧ ∀(k:Nat) x v,ds[k]? =some x→cs[k]? =some v→DR W (SW0 W) x v
theorem Rd.one {x:D} {v:Value} (h:DR W (SW0 W) x v):Rd W [x] [v]:=⟨rfl,fun k y u h1 h2=>by
 cases k with
 |zero=>simp at h1 h2;subst h1;subst h2;exact h
 |succ k=>simp at h1⟩
theorem Rd.append {ds es:List D} {cs vs:List Value} (h:Rd W ds cs) (k:Rd W es vs):Rd W (ds++es) (cs++vs):=by
 refine⟨by simp[h.1,k.1],fun i x v h1 h2=> ?_⟩
 by_cases hi:i<ds.length
 · rw[List.getElem?_append_left hi] at h1
   rw[List.getElem?_append_left (by rw[← h.1];exact hi)] at h2
   exact h.2 i x v h1 h2
 · rw[List.getElem?_append_right (by omega)] at h1
   rw[List.getElem?_append_right (by rw[← h.1];omega),← h.1] at h2
   exact k.2 _ x v h1 h2
def aN7 (enc:TypeId×Value→H) (P:Program) (W:World) (sp:Nat→Bool) (held:Bool) (T:gQ) (B N:Nat) (t:TypeId):Prop:=
 ∀fuel cs d ps,DataW.trod enc P W 0 sp held fuel t cs=some (d,ps)→(d.weights P t).all (· ≤B)=true→ ∃ds,Rd W ds cs∧vF T B N t ds
theorem ku (hT:dR P T) {N sz fuel:Nat}: ∀(fs:List Field) (off:Nat) (cs:List Value) (xs:List (DataW H×List MemPlace)),nh T sz off (fs.map fun f=>(f.offset,f.type))=true→cs.length=sz→off≤sz→
 (∀f∈fs,aN7 enc P W sp held T B N f.type)→fs.mapM (fun f=>DataW.trod enc P W 0 sp held fuel f.type ((cs.drop f.offset).take (P.cellsOf f.type)))=some xs→(DataW.weightsEach P (fs.map (·.type)) (xs.map (·.1))).all (· ≤B)=true→
 ∃ds,Rd W ds (cs.drop off)∧ ∀p∈fs.map (fun f=>(f.offset,f.type)),off≤p.1∧match T p.2 with|some fi=>vF T B N p.2 ((ds.drop (p.1 - off)).take fi.size)|none=>False
 | [],off,cs,xs,ht,hl,ho,_,_,_=>by
  have:off=sz:=Nat.eq_of_beq_eq_true ht
  exact⟨[],by rw[List.drop_eq_nil_of_le (by omega)];exact⟨rfl,by simp⟩,by simp⟩
 |f::fs,off,cs,xs,ht,hl,ho,hop,hm,hw=>by
  simp only[List.map_cons,nh,aU7] at ht
  obtain⟨h1,h2⟩:=ht
  have h1:=Nat.eq_of_beq_eq_true h1
  cases hf:T f.type with
  |none=>rw[hf] at h2;cases h2
  |some fi=>
   rw[hf] at h2
   simp only at h2
   rw[List.mapM_cons] at hm
   obtain⟨x,hx,hm⟩:=Option.bind_eq_some_iff.1 hm
   obtain⟨ys,hy,hm⟩:=Option.bind_eq_some_iff.1 hm
   cases hm
   obtain⟨hc1,hc2⟩:=gq hT hf
   simp only[List.map_cons,DataW.weightsEach,List.all_append,aU7] at hw
   obtain⟨ds,hr,hty⟩:=hop f (List.mem_cons_self ..) _ _ _ _ hx hw.1
   have hoff:off+fi.size≤sz:=by
    have key: ∀(l:List (Nat×TypeId)) (o:Nat),nh T sz o l=true→o≤sz:=by
     intro l
     induction l with
     |nil=>intro o h;exact Nat.le_of_eq (Nat.eq_of_beq_eq_true h)
     |cons p r ih=>
      intro o h
      simp only[nh,aU7] at h
      cases hq:T p.2 with
      |none=>rw[hq] at h;cases h.2
      |some qi=>rw[hq] at h;have:=ih _ h.2;omega
    exact key _ _ h2
   obtain⟨es,hr2,hty2⟩:=ku hT fs (off+fi.size) cs ys h2 hl hoff (fun g hg=>hop g (List.mem_cons_of_mem _ hg)) hy hw.2
   rw[hc1,h1] at hr
   have hdl:ds.length=fi.size:=by rw[hr.1,aVc,aVk];omega
   refine⟨ds++es,?_,fun p hp=> ?_⟩
   · have e:cs.drop off=(cs.drop off).take fi.size++cs.drop (off+fi.size):=by
      rw[← List.drop_drop,List.take_append_drop]
     rw[e];exact hr.append hr2
   · rcases aVm.1 hp with rfl|hp
     · refine⟨Nat.le_of_eq h1.symm,?_⟩
       simp only[hf,h1,Nat.sub_self,List.drop_zero]
       rw[List.take_append_of_le_length (by omega),← hdl,aVl];exact hty
     · obtain⟨q1,q2⟩:=hty2 p hp
       refine⟨by omega,?_⟩
       cases hq:T p.2 with
       |none=>rw[hq] at q2;exact q2
       |some qi=>
        rw[hq] at q2
        simp only at q2 ⊢
        rw[List.drop_append,List.drop_eq_nil_of_le (by omega),List.nil_append,hdl,show p.1 - off - fi.size=p.1 - (off+fi.size) by omega]
        exact q2
theorem cg {e:TypeId}: ∀{l:List (DataW H)},(DataW.weightsAll P e l).all (· ≤B)=true→ ∀d∈l,(d.weights P e).all (· ≤B)=true
 | [],_,d,hd=>by cases hd
 |x::r,h,d,hd=>by
  simp only[DataW.weightsAll,List.all_append,aU7] at h
  rcases aVm.1 hd with rfl|hd
  · exact h.1
  · exact cg h.2 d hd
theorem gr (hT:dR P T): ∀(N:Nat) (t:TypeId),gp T N t=true→aN7 enc P W sp held T B N t
 |0,t,h=>by cases h
 |N+1,t,h=>by
  intro fuel cs d ps htr hw
  unfold gp at h
  cases ht:T t with
  |none=>rw[ht] at h;cases h
  |some ti=>
   rw[ht] at h
   simp only at h
   have hok:=hT t ti ht
   have hk:=hok.kind
   cases fuel with
   |zero=>cases htr
   |succ fuel=>
    cases hkk:ti.kind with
    |int k=>
     rw[hkk] at h hk
     simp only[lU] at hk
     unfold DataW.trod at htr
     rw[hk] at htr
     split at htr<;>rename_i he<;>try(cases he;done)
     · rename_i _ _ kk mm
       cases he
       split at htr
       · rename_i hc
         cases htr
         obtain⟨rfl,hwf⟩:=hc
         cases kk<;>try(cases h;done)
         · exact⟨[.i mm],.one (.i _),by unfold vF;simp only[ht,hkk];exact⟨_,rfl,hwf⟩⟩
         · exact⟨[.u mm],.one (.u _),by unfold vF;simp only[ht,hkk];exact⟨_,rfl,hwf⟩⟩
       · cases htr
     all_goals cases htr
    |bool=>
     rw[hkk] at hk
     simp only[lU] at hk
     unfold DataW.trod at htr
     rw[hk] at htr
     split at htr<;>rename_i he<;>try(cases he;done)
     · cases htr
       exact⟨[.b _],.one (.b _),by unfold vF;simp only[ht,hkk];exact⟨_,rfl⟩⟩
     all_goals cases htr
    |str=>
     rw[hkk] at hk
     simp only[lU] at hk
     unfold DataW.trod at htr
     rw[hk] at htr
     split at htr<;>rename_i he<;>try(cases he;done)
     · rename_i _ s
       split at htr
       · cases htr
         refine⟨[.s s.data.toList],.one (.s _),?_⟩
         unfold vF;simp only[ht,hkk]
         exact⟨_,rfl,by simpa[DataW.weights] using hw⟩
       · cases htr
     all_goals cases htr
    |sl e=>
     rw[hkk] at h hk
     simp only[lU] at hk
     simp only at h
     have hih:=gr hT N e h
     cases he:T e with
     |none=>cases N with
      |zero=>cases h
      |succ N=>unfold gp at h;rw[he] at h;cases h
     |some ei=>
      obtain⟨hc1,hc2⟩:=gq hT he
      have hep:=(hT e ei he).pos
      rcases Deep.open_slice hk htr with⟨rfl,hx⟩|⟨a,len,cap,m,n,Df,Pl,rfl,hb,hl,hm,hmm,hx,hel⟩
      · refine⟨[.sl []],.one (.sl [] none 0 0 ⟨0,0,none⟩ (fun _ _=>undef) (by simp) (by simp[maxLen]) (by simp) (by simp) (by simp) (by simp)),?_⟩
        unfold vF;simp only[ht,hkk]
        exact⟨[],rfl,by simp[he],by simp⟩
      · cases hx
        simp only[DataW.weights,hk,List.all_cons,List.all_append,aU7,decide_eq_true_eq,List.length_map,List.length_range] at hw
        have hlm:len≤m:=by rw[hmm];split<;>omega
        have hrow: ∀i,i<len→ ∃r,(∃cs',W.cells? 0 (a.add (i*ei.size)) ei.size=some cs'∧Rd W r cs')∧vF T B N e r:=by
         intro i hi
         obtain⟨cs',h1,h2⟩:=hel i (by omega)
         rw[hc1] at h1
         obtain⟨r,q1,q2⟩:=hih _ _ _ _ h2 (cg hw.2.1 _ (aVj.2 ⟨i,List.mem_range.2 hi,rfl⟩))
         exact⟨r,⟨cs',h1,q1⟩,q2⟩
        obtain⟨rf,hrf⟩: ∃rf:Nat→List D,∀i,i<len→(∃cs',W.cells? 0 (a.add (i*ei.size)) ei.size=some cs'∧Rd W (rf i) cs')∧vF T B N e (rf i):=
         ⟨fun i=>if hi:i<len then Classical.choose (hrow i hi) else [],fun i hi=>by dsimp only;rw[dif_pos hi];exact Classical.choose_spec (hrow i hi)⟩
        have hget: ∀(i:Nat) r,((aVh len).map rf)[i]? =some r→i<len∧r=rf i:=by
         intro i r hr
         rw[List.getElem?_map] at hr
         by_cases hi:i<len
         · rw[List.getElem?_range hi] at hr;simp at hr;exact⟨hi,hr.symm⟩
         · rw[List.getElem?_eq_none (by simpa using hi)] at hr;cases hr
        have hlen: ∀i,i<len→(rf i).length=ei.size:=by
         intro i hi
         obtain⟨⟨cs',h1,h2⟩,_⟩:=hrf i hi
         rw[h2.1,(aFg h1).1]
        have hcell: ∀i,i<len→ ∀(k:Nat) x,(rf i)[k]? =some x→ ∃v,W.cell? (a.add (i*ei.size+k))=some v∧DR W (SW0 W) x v:=by
         intro i hi k x hx
         obtain⟨⟨cs',h1,h2⟩,_⟩:=hrf i hi
         have hk':k<cs'.length:=by rw[← h2.1];exact(aVe.1 hx).1
         refine⟨cs'[k],?_,h2.2 k x _ hx (aVd hk')⟩
         have:=(aFg h1).2 k _ (aVd hk')
         rwa [Deep.add_add] at this
        refine⟨[.sl ((aVh len).map rf)],.one ?_,?_⟩
        · have e1: ((aVh len).map rf).length=len:=by simp
          have:=DR.sl (w:=W) (S:=SW0 W) ((aVh len).map rf) (some a) cap ei.size a (fun i k=>(W.cell? (a.add (i*ei.size+k))).getD undef) (by rw[e1];exact hl) hm
           (fun r hr=>by obtain⟨i,hi,rfl⟩:=aVj.1 hr;exact hlen i (List.mem_range.1 hi)) (fun _=>rfl)
           (fun i r k d hi hk=>by
            obtain⟨h1,rfl⟩:=hget i r hi
            obtain⟨v,h2,h3⟩:=hcell i h1 k d hk
            have hb: (a.add (i*ei.size+k)).block=a.block:=by unfold Addr.add;split<;>rfl
            exact⟨by have:=aP5 h2;rw[hb] at this;exact this,by rw[h2];rfl⟩)
           (fun i r k d hi hk=>by
            obtain⟨h1,rfl⟩:=hget i r hi
            obtain⟨v,h2,h3⟩:=hcell i h1 k d hk
            rw[h2];exact h3)
          rw[e1] at this;exact this
        · unfold vF;simp only[ht,hkk]
          refine⟨_,rfl,?_,fun r hr=> ?_⟩
          · simp only[he]
            rw[List.length_map,List.length_range,← hc2]
            have:=hw.1
            rw[aVo] at this
            omega
          · obtain⟨i,hi,rfl⟩:=aVj.1 hr
            exact(hrf i (List.mem_range.1 hi)).2
    |st fs=>
     rw[hkk] at h hk
     simp only[lU] at hk
     obtain⟨fields,hu,hfs⟩:=hk
     simp only[aU7] at h
     unfold DataW.trod at htr
     rw[hu] at htr
     have htr: (if cs.length=P.cellsOf t then(fields.toList.mapM fun f=>DataW.trod enc P W 0 sp held fuel f.type ((cs.drop f.offset).take (P.cellsOf f.type))).map fun xs=>(DataW.agg (xs.map (·.1)),xs.flatMap (·.2)) else none)=some (d,ps):=htr
     split at htr
     · rename_i hcl
       obtain⟨xs,hxs,hmk⟩:=Option.map_eq_some_iff.1 htr
       cases hmk
       have hsz:=(gq hT ht).1
       simp only[DataW.weights,hu] at hw
       obtain⟨ds,h1,h2⟩:=ku hT fields.toList 0 cs xs (by rw[hfs];exact h.1) (by rw[hcl,hsz]) (aVa _)
        (fun f hf=>gr hT N f.type (by
         have:=aVi.1 h.2 (f.offset,f.type) (by rw[← hfs];exact aVj.2 ⟨f,hf,rfl⟩)
         exact this)) hxs hw
       refine⟨ds,by simpa using h1,?_⟩
       unfold vF;simp only[ht,hkk]
       refine⟨by have:=h1.1;simp at this;rw[this,hcl,hsz],fun p hp=> ?_⟩
       rw[← hfs] at hp
       have:=(h2 p hp).2
       simpa using this
     · cases htr
    |arr n e=>rw[hkk] at h;cases h
    |ptr e=>rw[hkk] at h;cases h
end
section
variable {H:Type} {enc:TypeId×Value→H} {P:Program} {W:World} {sp:Nat→Bool} {held:Bool} {T:gQ} {B:Nat}
theorem oE (hT:dR P T) (N:Nat) {t:TypeId} {ti:TI} (ht:T t=some ti) (hd:gp T N t=true) {v:Value} {d:DataW H} {ps:List MemPlace} {r:Reach} {base:Nat} (h:DataW.Trod enc P W 0 sp held t v d ps) (hv:Value.okWide P W r base t v) (hw: (d.weights P t).all (· ≤B)=true):
 ∃ds,vF T B N t ds∧(ti.kind.agg=true→ ∀σ ι,lR σ ι W (SW0 W) (.e (.agg (ds.map C.d))) v)∧(ti.kind.agg=false→ ∃x,ds=[x]∧ ∀σ ι,lR σ ι W (SW0 W) (Dv x) v):=by
 obtain⟨fuel,hf⟩:=h
 obtain⟨ds,h1,h2⟩:=gr hT N t hd _ _ _ _ hf hw
 refine⟨ds,h2,fun ha=> ?_,fun ha=> ?_⟩
 · have hk:=(hT t ti ht).kind
   have hcs: ∃cs,v= .agg cs:=by
    cases hkk:ti.kind<;>rw[hkk] at ha hk<;>simp only[TK.agg] at ha<;>try(cases ha;done)
    · simp only[lU] at hk
      obtain⟨fields,hu,_⟩:=hk
      obtain⟨cs,hcs,_⟩:=WideShapes.okWide_struct hu hv
      exact⟨cs,hcs⟩
    · cases N with
      |zero=>cases hd
      |succ N=>unfold gp at hd;rw[ht] at hd;simp only[hkk] at hd;cases hd
   obtain⟨cs,rfl⟩:=hcs
   intro σ ι
   have h1:Rd W ds cs.toList:=h1
   refine⟨cs.toList,by simp,by rw[List.length_map,h1.1],fun k c u hc hu=> ?_⟩
   rw[List.getElem?_map] at hc
   cases hq:ds[k]? with
   |none=>rw[hq] at hc;cases hc
   |some x=>rw[hq] at hc;cases hc;exact h1.2 k x u hq hu
 · have hk:=(hT t ti ht).kind
   have hone:v.cells.toList=[v]:=by
    cases hkk:ti.kind<;>rw[hkk] at ha hk<;>simp only[TK.agg] at ha<;>try(cases ha;done)
    all_goals simp only[lU] at hk
    · obtain⟨n,rfl⟩:=WideShapes.okWide_int hk hv;rfl
    · obtain⟨n,rfl⟩:=WideShapes.okWide_bool hk hv;rfl
    · obtain⟨n,rfl⟩:=WideShapes.okWide_string hk hv;rfl
    · obtain⟨a,l,c,rfl⟩:=WideShapes.okWide_slice hk hv;rfl
    · obtain⟨a,rfl⟩:=WideShapes.okWide_pointer hk hv;rfl
   rw[hone] at h1
   match ds,h1.1 with
   | [x],_=>exact⟨x,rfl,fun σ ι=>h1.2 0 x v rfl rfl⟩
theorem nN (hgb:GB P W fun _=>False) {f:FuncId} {n:Nat} {Xs:List V} (hs:Spec P f n (eS 0 Xs) [(.t 0,.v (Ab.B true))]) {args:Array Value} (hn:Xs.length=n) (hsz:args.size=n) (hX: ∀(i:Nat) X v,Xs[i]? =some X→args[i]? =some v→ ∀σ ι,lR σ ι W (SW0 W) X v):
 Calls P f args W fun e W'=>e= .returned (.bool true)∧Below W.heap.size W W':=by
 have hlo: ∀o,aU (eS 0 Xs) (.o o)=none:=fun o=>by have:=kS 0 Xs [] o;simpa[aU] using this
 have hvr:VR (eS 0 Xs) (fun _=>undef) (fun i=>(args[i]?).getD undef) (SW0 W) W:=by
  refine⟨fun s k hk=> ?_,(fun o k hk=>by rw[hlo] at hk;cases hk),fun o b hm=> ?_,fun o o' b hm=> ?_,fun b hb=>hb⟩
  · rcases tN 0 Xs [] s k (by simpa using hk) with⟨X,h1,rfl,_,h2⟩|h
    · have h3:s<args.size:=by omega
      have:args[s]? =some args[s]:=Array.getElem?_eq_getElem h3
      show lR _ _ _ _ X ((args[s]?).getD undef)
      rw[this]
      exact hX s X _ (by simpa using h1) this _ _
    · cases h
  · obtain⟨⟨k,hk,_⟩,_⟩:=hm;rw[hlo] at hk;cases hk
  · obtain⟨⟨k,hk,_⟩,_⟩:=hm;rw[hlo] at hk;cases hk
 refine(hs.2 _ _ _ W args (hgb.weak fun b ⟨o,⟨k,hk,_⟩,_⟩=>by rw[hlo] at hk;cases hk) hvr hsz fun i hi=> ?_).mono fun e W' ⟨v,ι',S',he,hp⟩=> ?_
 · rw[Array.getElem?_eq_getElem (by omega)];rfl
 · have hv:=hp.vr.slots 0 (.v (Ab.B true)) rfl
   simp only[qU,lR,ER,CR] at hv
   refine⟨?_,hp.fr.os,hp.fr.tape,hp.fr.output,hp.fr.size,fun k hk=>hp.fr.block k hk fun⟨o,⟨q,hq,_⟩,_⟩=>by rw[hlo] at hq;cases hq⟩
   rw[he];cases hv;rfl
end
end Go.Ab
namespace Go.Proofs.YtcbjphphppaoiaaGreatDoor
open Int renaming toNat_natCast→aU4,tmod→aVg
open List renaming length_append→aU5,length_nil→aU8,length_cons→aU9,getD_eq_getElem?_getD→aVb,length_take→aVc,getElem?_eq_getElem→aVd,getElem?_eq_some_iff→aVe,range→aVh,all_eq_true→aVi,mem_map→aVj,length_drop→aVk,take_length→aVl,mem_cons→aVm,mem_singleton→aVn,mem_iff_getElem?→aVp
open Nat renaming le_of_ble_eq_true→aU6,zero_le→aVa,le_refl→aVf,add_mul→aVo
open Bool renaming and_eq_true→aU7
open Go Go.Ab Go.RowKit
set_option linter.unusedVariables false
set_option linter.unusedSimpArgs false
set_option maxRecDepth 9000
theorem jZ (n lo hi:Int):Sp 49 3 [tI 0 n,tI 1 lo,tI 2 hi] [tB 0 (iB n lo hi)]:=by
 refine sb Tryz.func49 rfl (sq (rT [0,1,2,11,12,13] (s1 (sq (rT [6] (s4 (y3 (ai pk (s1 (rt (bH rfl ?_)))))))))))
 simp[iB,gb]
theorem dJ (n lo hi:Int):Sp 43 3 [tI 0 n,tI 1 lo,tI 2 hi] [tB 0 (iB n lo hi)]:=by
 refine sb Tryz.func43 rfl (sq (rT [0,1,2,11,12,13] (s1 (sq (rT [6] (s4 (y3 (ai pk (s1 (rt (bH rfl ?_)))))))))))
 simp[iB,gb]
theorem sF (n:Int):Sp 48 1 [tI 0 n] [tB 0 (eC n)]:=by
 refine sb Tryz.func48 rfl (sq (rT [0] (s1 (sq (rT [2] (s1 (xp (jZ _ _ _) (ai rfl ?_))))))))
 refine s1 (rt (bH rfl ?_))
 first|rfl|(simp;done)|(simp_all;done)
theorem dB (n:Int):Sp 42 1 [tI 0 n] [tB 0 (eC n)]:=by
 refine sb Tryz.func42 rfl (sq (rT [0] (s1 (sq (rT [2] (s1 (xp (dJ _ _ _) (ai rfl ?_))))))))
 refine s1 (rt (bH rfl ?_))
 first|rfl|(simp;done)|(simp_all;done)
theorem sG (a b c d:Int):Sp 87 4 [tI 0 a,tI 1 b,tI 2 c,tI 3 d] [tB 0 (bY a b c d)]:=by
 refine sb Tryz.func87 rfl (sq (rT [0,1,2,3,13,14,15,16,17,18,19,20] (s1 (sq (rT [8] (s4 (y4 (y3 (ai (fun h=>pk) (ai rk (ai pk (s1 (rt (bH rfl (congrArg D.b ?_)))))))))))))))
 simp[bY,gb]
theorem qI (a b c d:Int):Sp 86 4 [tI 0 a,tI 1 b,tI 2 c,tI 3 d] [tB 0 (bY a b c d)]:=by
 refine sb Tryz.func86 rfl (sq (rT [0,1,2,3,13,14,15,16,17,18,19,20] (s1 (sq (rT [8] (s4 (y4 (y3 (ai (fun h=>pk) (ai rk (ai pk (s1 (rt (bH rfl (congrArg D.b ?_)))))))))))))))
 simp[bY,gb]
theorem ye (m:bQ):Sp 88 1 [tV 0 m.V] [tB 0 (jO m)]:=by
 refine sb Tryz.func88 rfl (sq (rT [1,7,8,9,12,13,14] (s2 (sq (rT [2] (s2 (xp (sF _) (ai rfl ?_))))))))
 refine s1 (y2 (xc (fun h=>(jZ _ _ _)) (ai rfl (ai rk ?_))))
 refine ai pk (s1 (y2 (xc (fun h=>(jZ _ _ _)) (ai rfl (ai rk ?_)))))
 refine ai pk (s1 (rt (bH rfl (congrArg D.b ?_))))
 simp[jO,gb]
theorem yf (s:List UInt8) (hl:s.length≤140737488355328):Sp 92 1 [tD 0 (.s s)] [tB 0 (wO s)]:=by
 refine sb Tryz.func92 rfl (sq (rT [0] (s1 (sq (sq (rT [0,3] (s1 (bk (SW.loopW (n:=s.length) (fun n q=> ∃i:Nat,n=s.length - i∧i≤s.length∧(∀k,k<i→uT s k=true)∧q=[tD 0 (.s s),tI 3 (i:Nat)]) ?_ ?_)))))))))
 · exact wq (σ':=[tD 0 (.s s),tI 3 (0:Nat)]) [] [] (⟨0,rfl,aVa _,fun k h=>absurd h (by omega),rfl⟩) qz
 rintro n s ⟨i,rfl,hi,hk,rfl⟩
 refine sq (sq (rT [0,3,7] (s4 (cd rfl (fun c7=> ?_) fun c7=> ?_))))
 · have hi2:i<s.length:=by simpa using c7
   have hb8:=jW s i
   have hw:wrap64 ((s.getD ((i:Nat):Int).toNat 0).toNat:Int)=iT s i:=aE (by unfold iT at hb8;rw[aU4];omega)
   refine sk (sq (bk (sq (rT [0,3,15] (s2 (ai (by exact⟨by omega,by omega⟩) (s1 (xp (jZ _ _ _) (ai rfl ?_)))))))))
   refine s1 (cd rfl (fun c15=> ?_) fun c15=> ?_)
   · refine sq (rT [2] (s1 (rt (bH rfl (congrArg D.b ?_)))))
     have hs:uT s i=false:=by
      have h9:=c15
      rw[hw] at h9
      simpa[uT] using h9
     rw[wO,gR hi2 hs];rfl
   refine sk (rT [0,3] (s3 ?_))
   have hs:uT s i=true:=by
    have h9:=c15
    rw[hw] at h9
    simpa[uT] using h9
   refine wq [] [] (⟨s.length - (i+1),by omega,i+1,rfl,by omega,fun k h=>by by_cases e:k=i;exact e▸hs;exact hk k (by omega),rfl⟩) ?_
   repeat' apply ai
   all_goals first|exact qx|exact congrArg D.i (aE (by omega))|exact qz
 have hi3:i=s.length:=by simp at c7;omega
 refine xt (sq (rT [2] (s2 (xp (jZ _ _ _) (ai rfl ?_)))))
 refine s1 (rt (bH rfl (congrArg D.b ?_)))
 subst hi3
 rw[wO,jJ hk];rfl
theorem sH (n:aR) (hl:n.text.length≤140737488355328):Sp 57 1 [tV 0 n.V] [tB 0 (eD n)]:=by
 refine sb Tryz.func57 rfl (sq (rT [1,7,8,9,12,13,14,17,18,19,22,23,24] (s2 (sq (rT [2] (s2 (xp (sF _) (ai rfl ?_))))))))
 refine s1 (y2 (xc (fun h=>(sF _)) (ai rfl (ai rk ?_))))
 refine ai pk (s1 (y2 (xc (fun h=>(jZ _ _ _)) (ai rfl (ai rk ?_)))))
 refine ai pk (s1 (y2 (xc (fun h=>(jZ _ _ _)) (ai rfl (ai rk ?_)))))
 refine ai pk (s1 (y2 (xc (fun h=>(yf n.text hl)) (ai rfl (ai rk ?_)))))
 refine ai pk (s1 (rt (bH rfl (congrArg D.b ?_))))
 simp[eD,gb,Bool.and_assoc]
set_option maxHeartbeats 800000 in
theorem wS (n:aR) (hl:n.text.length≤140737488355328):Sp 34 1 [tV 0 n.V] [tB 0 (eD n)]:=by
 refine sb Tryz.func34 rfl (sq (rT [1,9,10,11,12,15,16,17,18,21,22,23,24,27,28,29,30,33,34,35,36,51,52,53,54,55] (s2 (sq (sq (rT [1,37,51,52,53,54,55] (s2 (xp (dB _) (ai rfl ?_)))))))))
 refine s2 (y2 (xc (fun h=>(dB _)) (ai rfl (ai rk ?_))))
 refine y1 (ai pk (s1 (y2 (xc (fun h=>(dJ _ _ _)) (ai rfl (ai rk ?_))))))
 refine y1 (ai pk (s1 (y2 (xc (fun h=>(dJ _ _ _)) (ai rfl (ai rk ?_))))))
 refine y1 (ai pk (s1 (y4 (ai pk (s1 (y4 (ai pk (cd rfl (fun c37=> ?_) fun c37=> ?_))))))))
 · refine sq (rT [2] (s1 (rt (bH rfl (congrArg D.b ?_)))))
   cases h:eD n with
   |false=>rfl
   |true=>
    exfalso
    simp only[eD,wO,aU7] at h
    obtain⟨⟨⟨⟨h1,h2⟩,h3⟩,h4⟩,h5,h6⟩:=h
    simp only[iB,aU7,decide_eq_true_eq] at h6
    simp only[h1,h2,h3,h4,Bool.not_true,Bool.false_or,Bool.or_eq_true,decide_eq_true_eq] at c37
    omega
 have hf:eC n.frm=true∧eC n.to=true∧iB n.num 1 99=true∧iB n.til 1 999=true∧1≤n.text.length∧n.text.length≤24:=by
  simp only[gb,Bool.or_eq_false_iff,Bool.not_eq_false,decide_eq_false_iff_not,Bool.not_eq_eq_eq_not,Bool.not_false] at c37
  grind
 refine sk (sq (sq (rT [1,3,51,52,53,54,55] (s1 (bk (SW.loopW (n:=n.text.length) (fun m q=> ∃i:Nat,m=n.text.length - i∧i≤n.text.length∧(∀k,k<i→uT n.text k=true)∧q=[tP 1 1,tI 3 (i:Nat),oB 1 29 [.d (.i n.frm),.d (.i n.num),.d (.i n.to),.d (.i n.til),.d (.s n.text)]]) ?_ ?_))))))
 · exact wq (σ':=[tP 1 1,tI 3 (0:Nat),oB 1 29 [.d (.i n.frm),.d (.i n.num),.d (.i n.to),.d (.i n.til),.d (.s n.text)]]) [] [] (⟨0,rfl,aVa _,fun k h=>absurd h (by omega),rfl⟩) qz
 rintro n s ⟨i,rfl,hi,hk,rfl⟩
 refine sq (sq (rT [1,3,42,51,52,53,54,55] (s5 (cd rfl (fun c42=> ?_) fun c42=> ?_))))
 · have hi2:i<n.text.length:=by simpa using c42
   refine sk (sq (bk (sq (rT [1,3,51,52,53,54,55,56] (s3 (ai (by exact⟨by omega,by omega⟩) (s2 (y3 (ai (fun h=>(by exact⟨by omega,by omega⟩)) (ai rk (y1 (ai pk (cd rfl (fun c56=> ?_) fun c56=> ?_)))))))))))))
   · refine sq (rT [2] (s1 (rt (bH rfl (congrArg D.b ?_)))))
     have hs:uT n.text i=false:=by
      have h9:=c56
      rw[aU4] at h9
      simp[gb] at h9
      simp[uT,iB,iT];omega
     rw[eD,wO,gR hi2 hs];simp
   refine sk (rT [1,3,51,52,53,54,55] (s3 ?_))
   have hs:uT n.text i=true:=by
    have h9:=c56
    rw[aU4] at h9
    simp[gb] at h9
    simp[uT,iB,iT];omega
   refine wq [] [] (⟨n.text.length - (i+1),by omega,i+1,rfl,by omega,fun k h=>by by_cases e:k=i;exact e▸hs;exact hk k (by omega),rfl⟩) ?_
   repeat' apply ai
   all_goals first|exact qx|exact congrArg D.i (aE (by omega))|exact qz
 have hi3:i=n.text.length:=by simp at c42;omega
 refine xt (sq (rT [2] (s1 (rt (bH rfl (congrArg D.b ?_))))))
 subst hi3
 obtain⟨h1,h2,h3,h4,h5,h6⟩:=hf
 rw[eD,wO,jJ hk,h1,h2,h3,h4]
 simp[iB];omega
theorem mS (l:List aR) (f m:Int) (hl:l.length≤1000000):Sp 105 3 [tD 0 (.sl (aD l)),tI 1 f,tI 2 m] [tI 0 (aX l f m)]:=by
 refine sb Tryz.func105 rfl (sq (rT [0,1,2,21,22,23,24] (s1 (sq (sq (rT [1,2,9,10,11,21,22,23,24] (s3 (bk (SW.loopW (n:=l.length) (fun n q=> ∃i:Nat,n=l.length - i∧i≤l.length∧(∀k,k<i→mU l f m k=false)∧q=[tI 1 f,tI 2 m,tD 9 (.sl (aD l)),tI 10 (l.length:Nat),tI 11 (i:Nat)]) ?_ ?_)))))))))
 · refine wq (σ':=[tI 1 f,tI 2 m,tD 9 (.sl (aD l)),tI 10 (l.length:Nat),tI 11 (0:Nat)]) [] [] (⟨0,rfl,aVa _,fun k h=>absurd h (by omega),rfl⟩) ?_
   repeat' apply ai
   all_goals first|exact qx|(rw[aA];done)|rfl|exact qz
 rintro n s ⟨i,rfl,hi,hk,rfl⟩
 refine sq (rT [1,2,9,10,11,12,21,22,23,24] (s1 (sq (cd rfl (fun c12=> ?_) fun c12=> ?_))))
 · have hi2:i<l.length:=by simpa using c12
   have hg:=aQ (l:=l) hi2
   refine sk (sq (bk (sq (rT [1,2,7,8,9,10,11,21,22,23,24] (s1 (ai (by rw[aU4,hg];exact⟨⟨by omega,by rw[aA];omega⟩,rfl⟩) (ai (by rw[aU4,hg];exact⟨aU6 rfl,rfl⟩) (s3 (sq (rT [1,2,7,9,10,11,21,22,23,24,25] (s5 (y4 (ai pk (cd rfl (fun c25=> ?_) fun c25=> ?_))))))))))))))
   · refine sq (rT [6] (s2 (rt (bH rfl (congrArg D.i ?_)))))
     have hs:mU l f m i=true:=by
      have h9:=c25
      rw[aU4,hg] at h9
      exact h9
     exact(pI (aVa _) (by omega) (fun j _ h=>hk j h) hs).symm
   refine sk (rT [1,2,9,10,11,21,22,23,24] (s2 ?_))
   have hs:mU l f m i=false:=by
    have h9:=c25
    rw[aU4,hg] at h9
    exact h9
   refine wq [] [] (⟨l.length - (i+1),by omega,i+1,rfl,by omega,fun k h=>by by_cases e:k=i;exact e▸hs;exact hk k (by omega),rfl⟩) ?_
   repeat' apply ai
   all_goals first|exact qx|exact congrArg D.i (aE (by omega))|exact qz
 have hi3:i=l.length:=by simp at c12;omega
 refine xt (sq (rT [6] (s1 (rt (bH rfl (congrArg D.i ?_))))))
 exact(nW (fun j _ h=>hk j (by omega))).symm
theorem gA (l:List aR) (f m:Int) (hl:l.length≤1000000):Sp 72 3 [tD 0 (.sl (aD l)),tI 1 f,tI 2 m] [tI 0 (aX l f m)]:=by
 refine sb Tryz.func72 rfl (sq (rT [0,1,2,22,23,24,25,26,27,28] (s1 (sq (sq (rT [0,1,2,7,22,23,24,25,26,27,28] (s1 (bk (SW.loopW (n:=l.length) (fun n q=> ∃i:Nat,n=l.length - i∧i≤l.length∧(∀k,k<i→mU l f m k=false)∧q=[tD 0 (.sl (aD l)),tI 1 f,tI 2 m,tI 7 (i:Nat)]) ?_ ?_)))))))))
 · exact wq (σ':=[tD 0 (.sl (aD l)),tI 1 f,tI 2 m,tI 7 (0:Nat)]) [] [] (⟨0,rfl,aVa _,fun k h=>absurd h (by omega),rfl⟩) qz
 rintro n s ⟨i,rfl,hi,hk,rfl⟩
 refine sq (sq (rT [0,1,2,7,11,22,23,24,25,26,27,28] (s4 (cd rfl (fun c11=> ?_) fun c11=> ?_))))
 · have hi2:i<l.length:=by simpa[aA] using c11
   have hg:=aQ (l:=l) hi2
   refine sk (sq (bk (sq (rT [0,1,2,7,22,23,24,25,26,27,28,29] (s2 (ai (by rw[aU4,hg];exact⟨⟨by omega,by rw[aA];omega⟩,rfl⟩) (s1 (ai (by rw[aU4,hg];exact⟨aU6 rfl,rfl⟩) (s3 (y2 (ai (fun h=>(by rw[aU4,hg];exact⟨⟨by omega,by rw[aA];omega⟩,rfl⟩)) (ai rk (y1 (ai (fun h=>(by rw[aU4,hg];exact⟨aU6 rfl,rfl⟩)) (ai rk (y2 (ai pk (cd rfl (fun c29=> ?_) fun c29=> ?_))))))))))))))))))
   · refine sq (rT [6] (s2 (rt (bH rfl (congrArg D.i ?_)))))
     have hs:mU l f m i=true:=by
      have h9:=c29
      rw[aU4,hg] at h9
      exact h9
     exact(pI (aVa _) (by omega) (fun j _ h=>hk j h) hs).symm
   refine sk (rT [0,1,2,7,22,23,24,25,26,27,28] (s3 ?_))
   have hs:mU l f m i=false:=by
    have h9:=c29
    rw[aU4,hg] at h9
    exact h9
   refine wq [] [] (⟨l.length - (i+1),by omega,i+1,rfl,by omega,fun k h=>by by_cases e:k=i;exact e▸hs;exact hk k (by omega),rfl⟩) ?_
   repeat' apply ai
   all_goals first|exact qx|exact congrArg D.i (aE (by omega))|exact qz
 have hi3:i=l.length:=by simp[aA] at c11;omega
 refine xt (sq (rT [6] (s1 (rt (bH rfl (congrArg D.i ?_))))))
 exact(nW (fun j _ h=>hk j (by omega))).symm
theorem sI (l:List bQ) (f m:Int) (hl:l.length≤1000000):Sp 53 3 [tD 0 (.sl (aJ l)),tI 1 f,tI 2 m] [tI 0 (fW l f m)]:=by
 refine sb Tryz.func53 rfl (sq (rT [0,1,2,21,22,23,24] (s1 (sq (sq (rT [1,2,9,10,11,21,22,23,24] (s3 (bk (SW.loopW (n:=l.length) (fun n q=> ∃i:Nat,n=l.length - i∧i≤l.length∧(∀k,k<i→rH l f m k=false)∧q=[tI 1 f,tI 2 m,tD 9 (.sl (aJ l)),tI 10 (l.length:Nat),tI 11 (i:Nat)]) ?_ ?_)))))))))
 · refine wq (σ':=[tI 1 f,tI 2 m,tD 9 (.sl (aJ l)),tI 10 (l.length:Nat),tI 11 (0:Nat)]) [] [] (⟨0,rfl,aVa _,fun k h=>absurd h (by omega),rfl⟩) ?_
   repeat' apply ai
   all_goals first|exact qx|(rw[aB];done)|rfl|exact qz
 rintro n s ⟨i,rfl,hi,hk,rfl⟩
 refine sq (rT [1,2,9,10,11,12,21,22,23,24] (s1 (sq (cd rfl (fun c12=> ?_) fun c12=> ?_))))
 · have hi2:i<l.length:=by simpa using c12
   have hg:=bM (l:=l) hi2
   refine sk (sq (bk (sq (rT [1,2,7,8,9,10,11,21,22,23,24] (s1 (ai (by rw[aU4,hg];exact⟨⟨by omega,by rw[aB];omega⟩,rfl⟩) (ai (by rw[aU4,hg];exact⟨aU6 rfl,rfl⟩) (s3 (sq (rT [1,2,7,9,10,11,21,22,23,24,25] (s5 (y4 (ai pk (cd rfl (fun c25=> ?_) fun c25=> ?_))))))))))))))
   · refine sq (rT [6] (s2 (rt (bH rfl (congrArg D.i ?_)))))
     have hs:rH l f m i=true:=by
      have h9:=c25
      rw[aU4,hg] at h9
      exact h9
     exact(pI (aVa _) (by omega) (fun j _ h=>hk j h) hs).symm
   refine sk (rT [1,2,9,10,11,21,22,23,24] (s2 ?_))
   have hs:rH l f m i=false:=by
    have h9:=c25
    rw[aU4,hg] at h9
    exact h9
   refine wq [] [] (⟨l.length - (i+1),by omega,i+1,rfl,by omega,fun k h=>by by_cases e:k=i;exact e▸hs;exact hk k (by omega),rfl⟩) ?_
   repeat' apply ai
   all_goals first|exact qx|exact congrArg D.i (aE (by omega))|exact qz
 have hi3:i=l.length:=by simp at c12;omega
 refine xt (sq (rT [6] (s1 (rt (bH rfl (congrArg D.i ?_))))))
 exact(nW (fun j _ h=>hk j (by omega))).symm
theorem nO (l:List bQ) (f m:Int) (hl:l.length≤1000000):Sp 47 3 [tD 0 (.sl (aJ l)),tI 1 f,tI 2 m] [tI 0 (fW l f m)]:=by
 refine sb Tryz.func47 rfl (sq (rT [0,1,2,22,23,24,25,26,27,28] (s1 (sq (sq (rT [0,1,2,7,22,23,24,25,26,27,28] (s1 (bk (SW.loopW (n:=l.length) (fun n q=> ∃i:Nat,n=l.length - i∧i≤l.length∧(∀k,k<i→rH l f m k=false)∧q=[tD 0 (.sl (aJ l)),tI 1 f,tI 2 m,tI 7 (i:Nat)]) ?_ ?_)))))))))
 · exact wq (σ':=[tD 0 (.sl (aJ l)),tI 1 f,tI 2 m,tI 7 (0:Nat)]) [] [] (⟨0,rfl,aVa _,fun k h=>absurd h (by omega),rfl⟩) qz
 rintro n s ⟨i,rfl,hi,hk,rfl⟩
 refine sq (sq (rT [0,1,2,7,11,22,23,24,25,26,27,28] (s4 (cd rfl (fun c11=> ?_) fun c11=> ?_))))
 · have hi2:i<l.length:=by simpa[aB] using c11
   have hg:=bM (l:=l) hi2
   refine sk (sq (bk (sq (rT [0,1,2,7,22,23,24,25,26,27,28,29] (s2 (ai (by rw[aU4,hg];exact⟨⟨by omega,by rw[aB];omega⟩,rfl⟩) (s1 (ai (by rw[aU4,hg];exact⟨aU6 rfl,rfl⟩) (s3 (y2 (ai (fun h=>(by rw[aU4,hg];exact⟨⟨by omega,by rw[aB];omega⟩,rfl⟩)) (ai rk (y1 (ai (fun h=>(by rw[aU4,hg];exact⟨aU6 rfl,rfl⟩)) (ai rk (y2 (ai pk (cd rfl (fun c29=> ?_) fun c29=> ?_))))))))))))))))))
   · refine sq (rT [6] (s2 (rt (bH rfl (congrArg D.i ?_)))))
     have hs:rH l f m i=true:=by
      have h9:=c29
      rw[aU4,hg] at h9
      exact h9
     exact(pI (aVa _) (by omega) (fun j _ h=>hk j h) hs).symm
   refine sk (rT [0,1,2,7,22,23,24,25,26,27,28] (s3 ?_))
   have hs:rH l f m i=false:=by
    have h9:=c29
    rw[aU4,hg] at h9
    exact h9
   refine wq [] [] (⟨l.length - (i+1),by omega,i+1,rfl,by omega,fun k h=>by by_cases e:k=i;exact e▸hs;exact hk k (by omega),rfl⟩) ?_
   repeat' apply ai
   all_goals first|exact qx|exact congrArg D.i (aE (by omega))|exact qz
 have hi3:i=l.length:=by simp[aB] at c11;omega
 refine xt (sq (rT [6] (s1 (rt (bH rfl (congrArg D.i ?_))))))
 exact(nW (fun j _ h=>hk j (by omega))).symm
theorem aCr (id:Int) (n:aR):Sp 52 2 [tI 0 id,tV 1 n.V] [tB 0 (bf id n)]:=by
 refine sb Tryz.func52 rfl (sq (rT [0,3,10,11,12,13,14,15,16,17,18,19,20,21,22,23] (s2 (sq (rT [4] (s5 (y4 (y1 (xc (fun h=>(jZ _ _ _)) (ai rfl (ai rk ?_)))))))))))
 refine y4 (y2 (xc (fun h=>(jZ _ _ _)) (ai rfl (ai rk ?_))))
 refine ai (fun h=>pk) (ai rk (ai pk (s1 (rt (bH rfl (congrArg D.b ?_))))))
 first|(simp only[bf,iB,gb];done)|(simp only[bf,iB,gb];grind)
theorem yg (n:aR) (id:Int):Sp 46 2 [tV 0 n.V,tI 1 id] [tB 0 (bf id n)]:=by
 refine sb Tryz.func46 rfl (sq (rT [1,2,10,11,12,13,16,17,18,19,20,21,22,23,24,25] (s2 (sq (rT [4] (s5 (y4 (ai pk (s1 (y4 (y4 (y1 (ai (fun h=>pk) (ai rk (ai pk (s1 (rt (bH rfl (congrArg D.b ?_)))))))))))))))))))
 first|(simp only[bf,iB,gb];done)|(simp only[bf,iB,gb];grind)
set_option maxHeartbeats 800000 in
theorem ci (l:List aR) (hx: ∀x∈l,x.text.length≤140737488355328) (hl:l.length≤100000):Sp 50 1 [tD 0 (.sl (aD l))] [tB 0 (jP l)]:=by
 refine sb Tryz.func50 rfl (sq (rT [0,16,17,18,19,20,21,22,23,24,25,26,27,28,29,30,31,32,33,34,35,36,37] (s1 (sq (sq (rT [0,5,6,7,16,17,18,19,20,21,22,23,24,25,26,27,28,29,30,31,32,33,34,35,36,37] (s3 (bk (SW.loopW (n:=l.length) (fun n q=> ∃i:Nat,n=l.length - i∧i≤l.length∧(∀k,k<i→lI l k=true)∧q=[tD 0 (.sl (aD l)),tD 5 (.sl (aD l)),tI 6 (l.length:Nat),tI 7 (i:Nat)]) ?_ ?_)))))))))
 · refine wq (σ':=[tD 0 (.sl (aD l)),tD 5 (.sl (aD l)),tI 6 (l.length:Nat),tI 7 (0:Nat)]) [] [] (⟨0,rfl,aVa _,fun k h=>absurd h (by omega),rfl⟩) ?_
   repeat' apply ai
   all_goals first|exact qx|(rw[aA];done)|rfl|exact qz
 rintro n s ⟨i,rfl,hi,hk,rfl⟩
 refine sq (rT [0,5,6,7,8,16,17,18,19,20,21,22,23,24,25,26,27,28,29,30,31,32,33,34,35,36,37] (s1 (sq (cd rfl (fun c8=> ?_) fun c8=> ?_))))
 · have hi2:i<l.length:=by simpa using c8
   have hg:=aQ (l:=l) hi2
   have hmem:l.getD i .zero∈l:=by rw[aVb,aVd hi2];exact List.getElem_mem _
   refine sk (sq (bk (sq (rT [0,3,4,5,6,7,16,17,18,19,20,21,22,23,24,25,26,27,28,29,30,31,32,33,34,35,36,37] (s1 (ai (by rw[aU4,hg];exact⟨⟨by omega,by rw[aA];omega⟩,rfl⟩) (ai (by rw[aU4,hg];exact⟨aU6 rfl,rfl⟩) (s3 (sq (rD [0,5,6,7,16,17,18,19,20,21,22,23,24,25,26,27,28,29,30,31,32,33,34,35,36,37,38] (s1 (xp (sH (l.getD i .zero) (hx _ hmem)) (ai (by rw[aU4,hg];rfl) ?_)))))))))))))
   refine s2 (y4 (y2 (ai (fun h=>(by have h0:0<i:=(by have h9:=h;simp[gb] at h9;omega);rw[fB h0 (by omega),aU4,aQ (by omega),aA];exact⟨⟨by omega,by omega⟩,rfl⟩)) (ai rk (y1 (ai (fun h=>(by have h0:0<i:=(by have h9:=h;simp[gb] at h9;omega);rw[fB h0 (by omega),aU4,aQ (by omega)];exact⟨aU6 rfl,rfl⟩)) (ai rk (y3 (ai (fun h=>(by have h0:0<i:=(by have h9:=h;simp[gb] at h9;omega);rw[fB h0 (by omega),aU4,aQ (by omega),aA];exact⟨⟨by omega,by omega⟩,rfl⟩)) (ai rk (y1 (ai (fun h=>(by have h0:0<i:=(by have h9:=h;simp[gb] at h9;omega);rw[fB h0 (by omega),aU4,aQ (by omega)];exact⟨aU6 rfl,rfl⟩)) (ai rk (y4 (xc (fun h=>(sG _ _ _ _)) (ai rfl (ai rk ?_)))))))))))))))))
   refine y1 (ai (fun h=>pk) (ai rk (ai pk (ai (by kernel_rfl) (cd rfl (fun c38=> ?_) fun c38=> ?_)))))
   · refine sq (rT [2] (s1 (rt (bH rfl (congrArg D.b ?_)))))
     have hs:lI l i=false:=tQ c38 (fun h0=>by simp only[fB h0 (show i≤1000000 by omega),aU4,hg,aQ (show i - 1<l.length by omega)];rfl)
     rw[jP,gR hi2 hs]
   refine sk (rT [0,5,6,7,16,17,18,19,20,21,22,23,24,25,26,27,28,29,30,31,32,33,34,35,36,37] (s2 ?_))
   have hs:lI l i=true:=tQ c38 (fun h0=>by simp only[fB h0 (show i≤1000000 by omega),aU4,hg,aQ (show i - 1<l.length by omega)];rfl)
   refine wq [] [] (⟨l.length - (i+1),by omega,i+1,rfl,by omega,fun k h=>by by_cases e:k=i;exact e▸hs;exact hk k (by omega),rfl⟩) ?_
   repeat' apply ai
   all_goals first|exact qx|exact congrArg D.i (aE (by omega))|exact qz
 have hi3:i=l.length:=by simp at c8;omega
 refine xt (sq (rT [2] (s1 (rt (bH rfl (congrArg D.b ?_))))))
 subst hi3
 rw[jP,jJ hk]
set_option maxHeartbeats 800000 in
theorem zW (l:List aR) (most:Int) (hx: ∀x∈l,x.text.length≤140737488355328) (hl:l.length≤100000):Sp 44 2 [tD 0 (.sl (aD l)),tI 1 most] [tB 0 (decide ((l.length:Int)≤most)&&jP l)]:=by
 refine sb Tryz.func44 rfl (sq (rT [0,1,23,24,25,26,27,28,29,30,31,32,33,34,35,36,37,38,39,40,41,42,43,44,45,46,47,48,49,50] (s1 (sq (sq (rT [0,9,23,24,25,26,27,28,29,30,31,32,33,34,35,36,37,38,39,40,41,42,43,44,45,46,47,48,49,50] (s4 (cd rfl (fun c9=> ?_) fun c9=> ?_))))))))
 · refine sq (rT [4] (s1 (rt (bH rfl (congrArg D.b ?_)))))
   simp[aA] at c9
   simp[Int.not_le.2 c9]
 have hm: (l.length:Int)≤most:=by simp[aA] at c9;omega
 refine sk (sq (sq (rT [0,5,23,24,25,26,27,28,29,30,31,32,33,34,35,36,37,38,39,40,41,42,43,44,45,46,47,48,49,50] (s1 (bk (SW.loopW (n:=l.length) (fun n q=> ∃i:Nat,n=l.length - i∧i≤l.length∧(∀k,k<i→lI l k=true)∧q=[tD 0 (.sl (aD l)),tI 5 (i:Nat)]) ?_ ?_))))))
 · exact wq (σ':=[tD 0 (.sl (aD l)),tI 5 (0:Nat)]) [] [] (⟨0,rfl,aVa _,fun k h=>absurd h (by omega),rfl⟩) qz
 rintro n s ⟨i,rfl,hi,hk,rfl⟩
 refine sq (sq (rT [0,5,13,23,24,25,26,27,28,29,30,31,32,33,34,35,36,37,38,39,40,41,42,43,44,45,46,47,48,49,50] (s4 (cd rfl (fun c13=> ?_) fun c13=> ?_))))
 · have hi2:i<l.length:=by simpa[aA] using c13
   have hg:=aQ (l:=l) hi2
   have hmem:l.getD i .zero∈l:=by rw[aVb,aVd hi2];exact List.getElem_mem _
   refine sk (sq (bk (sq (rD [0,5,23,24,25,26,27,28,29,30,31,32,33,34,35,36,37,38,39,40,41,42,43,44,45,46,47,48,49,50,51] (s2 (ai (by rw[aU4,hg];exact⟨⟨by omega,by rw[aA];omega⟩,rfl⟩) (ai (by rw[aU4,hg];exact⟨aU6 rfl,rfl⟩) (xp (wS (l.getD i .zero) (hx _ hmem)) (ai (by rw[aU4,hg];rfl) ?_)))))))))
   refine s2 (y4 (y2 (ai (fun h=>(by have h0:0<i:=(by have h9:=h;simp[gb] at h9;omega);rw[fB h0 (by omega),aU4,aQ (by omega),aA];exact⟨⟨by omega,by omega⟩,rfl⟩)) (ai rk (y1 (ai (fun h=>(by have h0:0<i:=(by have h9:=h;simp[gb] at h9;omega);rw[fB h0 (by omega),aU4,aQ (by omega)];exact⟨aU6 rfl,rfl⟩)) (ai rk (y3 (ai (fun h=>(by have h0:0<i:=(by have h9:=h;simp[gb] at h9;omega);rw[fB h0 (by omega),aU4,aQ (by omega),aA];exact⟨⟨by omega,by omega⟩,rfl⟩)) (ai rk (y1 (ai (fun h=>(by have h0:0<i:=(by have h9:=h;simp[gb] at h9;omega);rw[fB h0 (by omega),aU4,aQ (by omega)];exact⟨aU6 rfl,rfl⟩)) (ai rk (y2 (ai (fun h=>(by rw[aU4,hg];exact⟨⟨by omega,by rw[aA];omega⟩,rfl⟩)) (ai rk (y1 (ai (fun h=>(by rw[aU4,hg];exact⟨aU6 rfl,rfl⟩)) (ai rk (y2 (ai (fun h=>(by rw[aU4,hg];exact⟨⟨by omega,by rw[aA];omega⟩,rfl⟩)) (ai rk (y1 (ai (fun h=>(by rw[aU4,hg];exact⟨aU6 rfl,rfl⟩)) (ai rk (xc (fun h=>(qI _ _ _ _)) (ai rfl (ai rk ?_))))))))))))))))))))))))))))
   refine y1 (ai (fun h=>pk) (ai rk (ai pk (ai (by kernel_rfl) (cd rfl (fun c51=> ?_) fun c51=> ?_)))))
   · refine sq (rT [4] (s1 (rt (bH rfl (congrArg D.b ?_)))))
     have hs:lI l i=false:=tQ c51 (fun h0=>by simp only[fB h0 (show i≤1000000 by omega),aU4,hg,aQ (show i - 1<l.length by omega)];rfl)
     rw[jP,gR hi2 hs];simp
   refine sk (rT [0,5,23,24,25,26,27,28,29,30,31,32,33,34,35,36,37,38,39,40,41,42,43,44,45,46,47,48,49,50] (s3 ?_))
   have hs:lI l i=true:=tQ c51 (fun h0=>by simp only[fB h0 (show i≤1000000 by omega),aU4,hg,aQ (show i - 1<l.length by omega)];rfl)
   refine wq [] [] (⟨l.length - (i+1),by omega,i+1,rfl,by omega,fun k h=>by by_cases e:k=i;exact e▸hs;exact hk k (by omega),rfl⟩) ?_
   repeat' apply ai
   all_goals first|exact qx|exact congrArg D.i (aE (by omega))|exact qz
 have hi3:i=l.length:=by simp[aA] at c13;omega
 refine xt (sq (rT [4] (s1 (rt (bH rfl (congrArg D.b ?_))))))
 subst hi3
 rw[jP,jJ hk];simp[hm]
set_option maxHeartbeats 800000 in
theorem vu (l:List bQ) (hl:l.length≤100000):Sp 51 1 [tD 0 (.sl (aJ l))] [tB 0 (nV l)]:=by
 refine sb Tryz.func51 rfl (sq (rT [0,16,17,18,19,20,21,22,23,24,25,26,27,28,29,30,31,32,33,34,35,36,37] (s1 (sq (sq (rT [0,5,6,7,16,17,18,19,20,21,22,23,24,25,26,27,28,29,30,31,32,33,34,35,36,37] (s3 (bk (SW.loopW (n:=l.length) (fun n q=> ∃i:Nat,n=l.length - i∧i≤l.length∧(∀k,k<i→mH l k=true)∧q=[tD 0 (.sl (aJ l)),tD 5 (.sl (aJ l)),tI 6 (l.length:Nat),tI 7 (i:Nat)]) ?_ ?_)))))))))
 · refine wq (σ':=[tD 0 (.sl (aJ l)),tD 5 (.sl (aJ l)),tI 6 (l.length:Nat),tI 7 (0:Nat)]) [] [] (⟨0,rfl,aVa _,fun k h=>absurd h (by omega),rfl⟩) ?_
   repeat' apply ai
   all_goals first|exact qx|(rw[aB];done)|rfl|exact qz
 rintro n s ⟨i,rfl,hi,hk,rfl⟩
 refine sq (rT [0,5,6,7,8,16,17,18,19,20,21,22,23,24,25,26,27,28,29,30,31,32,33,34,35,36,37] (s1 (sq (cd rfl (fun c8=> ?_) fun c8=> ?_))))
 · have hi2:i<l.length:=by simpa using c8
   have hg:=bM (l:=l) hi2
   have hmem:l.getD i .zero∈l:=by rw[aVb,aVd hi2];exact List.getElem_mem _
   refine sk (sq (bk (sq (rT [0,3,4,5,6,7,16,17,18,19,20,21,22,23,24,25,26,27,28,29,30,31,32,33,34,35,36,37] (s1 (ai (by rw[aU4,hg];exact⟨⟨by omega,by rw[aB];omega⟩,rfl⟩) (ai (by rw[aU4,hg];exact⟨aU6 rfl,rfl⟩) (s3 (sq (rD [0,5,6,7,16,17,18,19,20,21,22,23,24,25,26,27,28,29,30,31,32,33,34,35,36,37,38] (s1 (xp (ye (l.getD i .zero)) (ai (by rw[aU4,hg];rfl) ?_)))))))))))))
   refine s2 (y4 (y2 (ai (fun h=>(by have h0:0<i:=(by have h9:=h;simp[gb] at h9;omega);rw[fB h0 (by omega),aU4,bM (by omega),aB];exact⟨⟨by omega,by omega⟩,rfl⟩)) (ai rk (y1 (ai (fun h=>(by have h0:0<i:=(by have h9:=h;simp[gb] at h9;omega);rw[fB h0 (by omega),aU4,bM (by omega)];exact⟨aU6 rfl,rfl⟩)) (ai rk (y3 (ai (fun h=>(by have h0:0<i:=(by have h9:=h;simp[gb] at h9;omega);rw[fB h0 (by omega),aU4,bM (by omega),aB];exact⟨⟨by omega,by omega⟩,rfl⟩)) (ai rk (y1 (ai (fun h=>(by have h0:0<i:=(by have h9:=h;simp[gb] at h9;omega);rw[fB h0 (by omega),aU4,bM (by omega)];exact⟨aU6 rfl,rfl⟩)) (ai rk (y4 (xc (fun h=>(sG _ _ _ _)) (ai rfl (ai rk ?_)))))))))))))))))
   refine y1 (ai (fun h=>pk) (ai rk (ai pk (ai (by kernel_rfl) (cd rfl (fun c38=> ?_) fun c38=> ?_)))))
   · refine sq (rT [2] (s1 (rt (bH rfl (congrArg D.b ?_)))))
     have hs:mH l i=false:=tR c38 (fun h0=>by simp only[fB h0 (show i≤1000000 by omega),aU4,hg,bM (show i - 1<l.length by omega)];rfl)
     rw[nV,gR hi2 hs]
   refine sk (rT [0,5,6,7,16,17,18,19,20,21,22,23,24,25,26,27,28,29,30,31,32,33,34,35,36,37] (s2 ?_))
   have hs:mH l i=true:=tR c38 (fun h0=>by simp only[fB h0 (show i≤1000000 by omega),aU4,hg,bM (show i - 1<l.length by omega)];rfl)
   refine wq [] [] (⟨l.length - (i+1),by omega,i+1,rfl,by omega,fun k h=>by by_cases e:k=i;exact e▸hs;exact hk k (by omega),rfl⟩) ?_
   repeat' apply ai
   all_goals first|exact qx|exact congrArg D.i (aE (by omega))|exact qz
 have hi3:i=l.length:=by simp at c8;omega
 refine xt (sq (rT [2] (s1 (rt (bH rfl (congrArg D.b ?_))))))
 subst hi3
 rw[nV,jJ hk]
set_option maxHeartbeats 3200000 in
theorem wT (k:aL) (hx: ∀x∈k.held,x.text.length≤140737488355328) (hy: ∀x∈k.inbox,x.text.length≤140737488355328):Sp 20 1 [tV 0 k.V] [tB 0 (cO k)]:=by
 refine sb Tryz.func20 rfl (sq (rT [1,14,15,16,17,20,21,22,23,26,27,28,29,32,33,34,35,38,39,40,41,48,49,50,51,54,55,56,57,72,73,74,75,76,79,80,81,82,83,86,87,88,89,90,93,94,95,96,97,98,99,100,116,117,118,119,120,123,124,125,126,127,143,144,145,146,147,150,151,152,153,154,157,158,159,160,161,162,163,164,165,166,167,168,169,170,171] (s2 (sq (sq (rT [1,42,48,49,50,51,54,55,56,57,72,73,74,75,76,79,80,81,82,83,86,87,88,89,90,93,94,95,96,97,98,99,100,116,117,118,119,120,123,124,125,126,127,143,144,145,146,147,150,151,152,153,154,157,158,159,160,161,162,163,164,165,166,167,168,169,170,171] (s2 (xp (sF _) (ai rfl ?_)))))))))
 refine s2 (y2 (xc (fun h=>(jZ _ _ _)) (ai rfl (ai rk ?_))))
 refine y1 (ai pk (s1 (y2 (xc (fun h=>(jZ _ _ _)) (ai rfl (ai rk ?_))))))
 refine y1 (ai pk (s1 (y4 (ai pk (s1 (y4 (ai pk (s1 (y4 (ai pk (cd rfl (fun c42=> ?_) fun c42=> ?_)))))))))))
 · refine sq (rT [2] (s1 (rt (bH rfl (congrArg D.b ?_)))))
   refine(nX fun h=> ?_).symm
   obtain⟨⟨h1,h2,h3,h4,h5,h6⟩,⟨h7,h8,h9⟩,h10,h11,h12⟩:=(bX k).1 h
   simp only[gb,iB,aA,aB,h1,Bool.not_true,Bool.false_or,Bool.or_eq_true,Bool.not_eq_eq_eq_not,Bool.and_eq_false_iff,decide_eq_true_eq,decide_eq_false_iff_not,Bool.not_eq_true'] at c42
   omega
 have hf:eC k.id=true∧(0≤k.time∧k.time≤999)∧(1≤k.next∧k.next≤100)∧k.held.length≤6∧k.marks.length≤12∧k.inbox.length≤6:=by
  simp only[gb,iB,aA,aB,Bool.or_eq_false_iff,Bool.not_eq_false,decide_eq_false_iff_not,Bool.not_eq_eq_eq_not,Bool.not_false,aU7,decide_eq_true_eq] at c42
  obtain⟨⟨⟨⟨⟨q1,q2⟩,q3⟩,q4⟩,q5⟩,q6⟩:=c42
  exact⟨q1,q2,q3,by omega,by omega,by omega⟩
 obtain⟨f1,f2,f3,f4,f5,f6⟩:=hf
 refine sk (sq (sq (rT [1,58,72,73,74,75,76,79,80,81,82,83,86,87,88,89,90,93,94,95,96,97,98,99,100,116,117,118,119,120,123,124,125,126,127,143,144,145,146,147,150,151,152,153,154,157,158,159,160,161,162,163,164,165,166,167,168,169,170,171] (s2 (xp (ci k.held hx (by omega)) (ai rfl ?_))))))
 refine s2 (y2 (xc (fun h=>(vu k.marks (by omega))) (ai rfl (ai rk ?_))))
 refine y1 (ai pk (s1 (y2 (xc (fun h=>(ci k.inbox hy (by omega))) (ai rfl (ai rk ?_))))))
 refine y1 (ai pk (cd rfl (fun c58=> ?_) fun c58=> ?_))
 · refine sq (rT [2] (s1 (rt (bH rfl (congrArg D.b ?_)))))
   refine(nX fun h=> ?_).symm
   obtain⟨⟨h1,h2,h3,h4,h5,h6⟩,⟨h7,h8,h9⟩,h10,h11,h12⟩:=(bX k).1 h
   rw[h7,h8,h9] at c58
   cases c58
 have hg3:jP k.held=true∧nV k.marks=true∧jP k.inbox=true:=by
  simp only[gb,Bool.or_eq_false_iff,Bool.not_eq_false,Bool.not_eq_eq_eq_not,Bool.not_false] at c58
  exact⟨c58.1.1,c58.1.2,c58.2⟩
 refine sk (sq (sq (rT [1,60,61,62,72,73,74,75,76,79,80,81,82,83,86,87,88,89,90,93,94,95,96,97,98,99,100,116,117,118,119,120,123,124,125,126,127,143,144,145,146,147,150,151,152,153,154,157,158,159,160,161,162,163,164,165,166,167,168,169,170,171] (s4 (bk (SW.loopW (n:=k.held.length) (fun n q=> ∃i:Nat,n=k.held.length - i∧i≤k.held.length∧(∀j,j<i→rI k j=true)∧q=[tP 1 1,tD 60 (.sl (aD k.held)),tI 61 (k.held.length:Nat),tI 62 (i:Nat),oB 1 26 [.d (.i k.id),.d (.i k.time),.d (.i k.next),.d (.sl (aD k.held)),.d (.sl (aJ k.marks)),.d (.sl (aD k.inbox))]]) ?_ ?_))))))
 · refine wq (σ':=[tP 1 1,tD 60 (.sl (aD k.held)),tI 61 (k.held.length:Nat),tI 62 (0:Nat),oB 1 26 [.d (.i k.id),.d (.i k.time),.d (.i k.next),.d (.sl (aD k.held)),.d (.sl (aJ k.marks)),.d (.sl (aD k.inbox))]]) [] [] (⟨0,rfl,aVa _,fun j h=>absurd h (by omega),rfl⟩) ?_
   repeat' apply ai
   all_goals first|exact qx|(rw[aA];done)|rfl|exact qz
 rintro n s ⟨i,rfl,hi,hk,rfl⟩
 refine sq (rT [1,60,61,62,63,72,73,74,75,76,79,80,81,82,83,86,87,88,89,90,93,94,95,96,97,98,99,100,116,117,118,119,120,123,124,125,126,127,143,144,145,146,147,150,151,152,153,154,157,158,159,160,161,162,163,164,165,166,167,168,169,170,171] (s1 (sq (cd rfl (fun c63=> ?_) fun c63=> ?_))))
 · have hi2:i<k.held.length:=by simpa using c63
   have hg:=aQ (l:=k.held) hi2
   refine sk (sq (bk (sq (rT [1,4,60,61,62,72,73,74,75,76,79,80,81,82,83,86,87,88,89,90,93,94,95,96,97,98,99,100,116,117,118,119,120,123,124,125,126,127,143,144,145,146,147,150,151,152,153,154,157,158,159,160,161,162,163,164,165,166,167,168,169,170,171] (ai (by rw[aU4,hg];exact⟨⟨by omega,by rw[aA];omega⟩,rfl⟩) (ai (by rw[aU4,hg];exact⟨aU6 rfl,rfl⟩) (s2 (sq (wa [tP 1 1,tD 60 (.sl (aD k.held)),tI 61 (k.held.length:Nat),tI 62 (i:Nat),oB 1 26 [.d (.i k.id),.d (.i k.time),.d (.i k.next),.d (.sl (aD k.held)),.d (.sl (aJ k.marks)),.d (.sl (aD k.inbox))],tP 4 4,oB 4 29 [.d (.i (k.held.getD i .zero).frm),.d (.i (k.held.getD i .zero).num),.d (.i (k.held.getD i .zero).to),.d (.i (k.held.getD i .zero).til),.d (.s (k.held.getD i .zero).text)]] [] [] ?_ ?_)))))))))
   · repeat' apply ai
     all_goals first|exact qx|(rw[aU4,hg];rfl)|exact qz
   refine rT [1,60,61,62,72,73,74,75,76,79,80,81,82,83,86,87,88,89,90,93,94,95,96,97,98,99,100,101,116,117,118,119,120,123,124,125,126,127,143,144,145,146,147,150,151,152,153,154,157,158,159,160,161,162,163,164,165,166,167,168,169,170,171] (s6 (y4 (y1 (ai pk (s1 (y4 (y1 (ai pk (s1 (y3 (xc (fun h=>(aCr k.id (k.held.getD i .zero))) (ai rfl (ai rk ?_)))))))))))))
   refine y1 (ai pk (s1 (y4 (y2 (xc (fun h=>(sI k.marks _ _ (by omega))) (ai rfl (ai rk ?_)))))))
   refine y1 (ai pk (cd rfl (fun c101=> ?_) fun c101=> ?_))
   · refine sq (rT [2] (s1 (rt (bH rfl (congrArg D.b ?_)))))
     refine(nX fun h=> ?_).symm
     obtain⟨⟨h1,h2,h3,h4,h5,h6⟩,⟨h7,h8,h9⟩,h10,h11,h12⟩:=(bX k).1 h
     rw[gR hi2 (yM c101)] at h10
     cases h10
   refine sk (rT [1,60,61,62,72,73,74,75,76,79,80,81,82,83,86,87,88,89,90,93,94,95,96,97,98,99,100,116,117,118,119,120,123,124,125,126,127,143,144,145,146,147,150,151,152,153,154,157,158,159,160,161,162,163,164,165,166,167,168,169,170,171] (s2 ?_))
   have hs:rI k i=true:=yM c101
   refine wq [] [] (⟨k.held.length - (i+1),by omega,i+1,rfl,by omega,fun j h=>by by_cases e:j=i;exact e▸hs;exact hk j (by omega),rfl⟩) ?_
   repeat' apply ai
   all_goals first|exact qx|exact congrArg D.i (aE (by omega))|exact qz
 have hiA:i=k.held.length:=by simp at c63;omega
 have hkA:=hk
 clear hk hi
 refine xt (sq (sq (rT [1,104,105,106,116,117,118,119,120,123,124,125,126,127,143,144,145,146,147,150,151,152,153,154,157,158,159,160,161,162,163,164,165,166,167,168,169,170,171] (s4 (bk (SW.loopW (n:=k.marks.length) (fun n q=> ∃i:Nat,n=k.marks.length - i∧i≤k.marks.length∧(∀j,j<i→uU k j=true)∧q=[tP 1 1,tD 104 (.sl (aJ k.marks)),tI 105 (k.marks.length:Nat),tI 106 (i:Nat),oB 1 26 [.d (.i k.id),.d (.i k.time),.d (.i k.next),.d (.sl (aD k.held)),.d (.sl (aJ k.marks)),.d (.sl (aD k.inbox))]]) ?_ ?_))))))
 · refine wq (σ':=[tP 1 1,tD 104 (.sl (aJ k.marks)),tI 105 (k.marks.length:Nat),tI 106 (0:Nat),oB 1 26 [.d (.i k.id),.d (.i k.time),.d (.i k.next),.d (.sl (aD k.held)),.d (.sl (aJ k.marks)),.d (.sl (aD k.inbox))]]) [] [] (⟨0,rfl,aVa _,fun j h=>absurd h (by omega),rfl⟩) ?_
   repeat' apply ai
   all_goals first|exact qx|(rw[aB];done)|rfl|exact qz
 rintro n s ⟨i,rfl,hi,hk,rfl⟩
 refine sq (rT [1,104,105,106,107,116,117,118,119,120,123,124,125,126,127,143,144,145,146,147,150,151,152,153,154,157,158,159,160,161,162,163,164,165,166,167,168,169,170,171] (s1 (sq (cd rfl (fun c107=> ?_) fun c107=> ?_))))
 · have hi2:i<k.marks.length:=by simpa using c107
   have hg:=bM (l:=k.marks) hi2
   refine sk (sq (bk (sq (rT [1,6,104,105,106,116,117,118,119,120,123,124,125,126,127,143,144,145,146,147,150,151,152,153,154,157,158,159,160,161,162,163,164,165,166,167,168,169,170,171] (ai (by rw[aU4,hg];exact⟨⟨by omega,by rw[aB];omega⟩,rfl⟩) (ai (by rw[aU4,hg];exact⟨aU6 rfl,rfl⟩) (s2 (sq (wa [tP 1 1,tD 104 (.sl (aJ k.marks)),tI 105 (k.marks.length:Nat),tI 106 (i:Nat),oB 1 26 [.d (.i k.id),.d (.i k.time),.d (.i k.next),.d (.sl (aD k.held)),.d (.sl (aJ k.marks)),.d (.sl (aD k.inbox))],tP 6 6,oB 6 39 [.d (.i (k.marks.getD i .zero).frm),.d (.i (k.marks.getD i .zero).num),.d (.i (k.marks.getD i .zero).til)]] [] [] ?_ ?_)))))))))
   · repeat' apply ai
     all_goals first|exact qx|(rw[aU4,hg];rfl)|exact qz
   refine rT [1,104,105,106,116,117,118,119,120,123,124,125,126,127,128,143,144,145,146,147,150,151,152,153,154,157,158,159,160,161,162,163,164,165,166,167,168,169,170,171] (s6 (y4 (y1 (ai pk (s1 (y4 (y1 (ai pk (cd rfl (fun c128=> ?_) fun c128=> ?_)))))))))
   · refine sq (rT [2] (s1 (rt (bH rfl (congrArg D.b ?_)))))
     refine(nX fun h=> ?_).symm
     obtain⟨⟨h1,h2,h3,h4,h5,h6⟩,⟨h7,h8,h9⟩,h10,h11,h12⟩:=(bX k).1 h
     rw[gR hi2 (yN c128)] at h11
     cases h11
   refine sk (rT [1,104,105,106,116,117,118,119,120,123,124,125,126,127,143,144,145,146,147,150,151,152,153,154,157,158,159,160,161,162,163,164,165,166,167,168,169,170,171] (s2 ?_))
   have hs:uU k i=true:=yN c128
   refine wq [] [] (⟨k.marks.length - (i+1),by omega,i+1,rfl,by omega,fun j h=>by by_cases e:j=i;exact e▸hs;exact hk j (by omega),rfl⟩) ?_
   repeat' apply ai
   all_goals first|exact qx|exact congrArg D.i (aE (by omega))|exact qz
 have hiB:i=k.marks.length:=by simp at c107;omega
 have hkB:=hk
 clear hk hi
 refine xt (sq (sq (rT [1,131,132,133,143,144,145,146,147,150,151,152,153,154,157,158,159,160,161,162,163,164,165,166,167,168,169,170,171] (s4 (bk (SW.loopW (n:=k.inbox.length) (fun n q=> ∃i:Nat,n=k.inbox.length - i∧i≤k.inbox.length∧(∀j,j<i→sA k j=true)∧q=[tP 1 1,tD 131 (.sl (aD k.inbox)),tI 132 (k.inbox.length:Nat),tI 133 (i:Nat),oB 1 26 [.d (.i k.id),.d (.i k.time),.d (.i k.next),.d (.sl (aD k.held)),.d (.sl (aJ k.marks)),.d (.sl (aD k.inbox))]]) ?_ ?_))))))
 · refine wq (σ':=[tP 1 1,tD 131 (.sl (aD k.inbox)),tI 132 (k.inbox.length:Nat),tI 133 (0:Nat),oB 1 26 [.d (.i k.id),.d (.i k.time),.d (.i k.next),.d (.sl (aD k.held)),.d (.sl (aJ k.marks)),.d (.sl (aD k.inbox))]]) [] [] (⟨0,rfl,aVa _,fun j h=>absurd h (by omega),rfl⟩) ?_
   repeat' apply ai
   all_goals first|exact qx|(rw[aA];done)|rfl|exact qz
 rintro n s ⟨i,rfl,hi,hk,rfl⟩
 refine sq (rT [1,131,132,133,134,143,144,145,146,147,150,151,152,153,154,157,158,159,160,161,162,163,164,165,166,167,168,169,170,171] (s1 (sq (cd rfl (fun c134=> ?_) fun c134=> ?_))))
 · have hi2:i<k.inbox.length:=by simpa using c134
   have hg:=aQ (l:=k.inbox) hi2
   refine sk (sq (bk (sq (rT [1,8,131,132,133,143,144,145,146,147,150,151,152,153,154,157,158,159,160,161,162,163,164,165,166,167,168,169,170,171] (ai (by rw[aU4,hg];exact⟨⟨by omega,by rw[aA];omega⟩,rfl⟩) (ai (by rw[aU4,hg];exact⟨aU6 rfl,rfl⟩) (s2 (sq (wa [tP 1 1,tD 131 (.sl (aD k.inbox)),tI 132 (k.inbox.length:Nat),tI 133 (i:Nat),oB 1 26 [.d (.i k.id),.d (.i k.time),.d (.i k.next),.d (.sl (aD k.held)),.d (.sl (aJ k.marks)),.d (.sl (aD k.inbox))],tP 8 8,oB 8 29 [.d (.i (k.inbox.getD i .zero).frm),.d (.i (k.inbox.getD i .zero).num),.d (.i (k.inbox.getD i .zero).to),.d (.i (k.inbox.getD i .zero).til),.d (.s (k.inbox.getD i .zero).text)]] [] [] ?_ ?_)))))))))
   · repeat' apply ai
     all_goals first|exact qx|(rw[aU4,hg];rfl)|exact qz
   refine rT [1,131,132,133,143,144,145,146,147,150,151,152,153,154,157,158,159,160,161,162,163,164,165,166,167,168,169,170,171,172] (s6 (y4 (y1 (ai pk (s1 (y4 (y1 (ai pk (s1 (y4 (y4 (y4 (xc (fun h=>(sI k.marks _ _ (by omega))) (ai rfl (ai rk ?_)))))))))))))))
   refine y1 (ai (fun h=>pk) (ai rk (ai pk (cd rfl (fun c172=> ?_) fun c172=> ?_))))
   · refine sq (rT [2] (s1 (rt (bH rfl (congrArg D.b ?_)))))
     refine(nX fun h=> ?_).symm
     obtain⟨⟨h1,h2,h3,h4,h5,h6⟩,⟨h7,h8,h9⟩,h10,h11,h12⟩:=(bX k).1 h
     rw[gR hi2 (vS c172)] at h12
     cases h12
   refine sk (rT [1,131,132,133,143,144,145,146,147,150,151,152,153,154,157,158,159,160,161,162,163,164,165,166,167,168,169,170,171] (s2 ?_))
   have hs:sA k i=true:=vS c172
   refine wq [] [] (⟨k.inbox.length - (i+1),by omega,i+1,rfl,by omega,fun j h=>by by_cases e:j=i;exact e▸hs;exact hk j (by omega),rfl⟩) ?_
   repeat' apply ai
   all_goals first|exact qx|exact congrArg D.i (aE (by omega))|exact qz
 have hiC:i=k.inbox.length:=by simp at c134;omega
 refine xt (sq (rT [2] (s1 (rt (bH rfl (congrArg D.b ?_))))))
 refine((bX k).2 ⟨⟨f1,f2,f3,f4,f5,f6⟩,hg3,jJ ?_,jJ ?_,jJ ?_⟩).symm
 · rw[← hiA];exact hkA
 · rw[← hiB];exact hkB
 rw[← hiC];exact hk
theorem or4 (a b c d:Bool): (c||a||b||d)=(a||b||c||d):=by cases a<;>cases b<;>cases c<;>cases d<;>rfl
theorem or3 (a b c:Bool): (b||a||c)=(a||b||c):=by cases a<;>cases b<;>cases c<;>rfl
theorem or2 (a b:Bool): (b||a)=(a||b):=by cases a<;>cases b<;>rfl
theorem aRg (a b c d:Bool): (!(a&&b&&c)||d)=(!a|| !b|| !c||d):=by cases a<;>cases b<;>cases c<;>cases d<;>rfl
set_option maxHeartbeats 800000 in
theorem qj (l:List bQ) (hl:l.length≤100000):Sp 45 1 [tD 0 (.sl (aJ l))] [tB 0 (decide (l.length≤12)&&nV l)]:=by
 refine sb Tryz.func45 rfl (sq (rT [0,23,24,25,26,29,30,31,32,35,36,37,38,39,40,41,42,43,44,45,46,47,48,49,50,51,52,53,54,55,56] (s1 (sq (sq (rT [0,7,23,24,25,26,29,30,31,32,35,36,37,38,39,40,41,42,43,44,45,46,47,48,49,50,51,52,53,54,55,56] (s3 (cd rfl (fun c7=> ?_) fun c7=> ?_))))))))
 · have hm: ¬l.length≤12:=by simp[aB] at c7;omega
   refine sq (rT [2] (s1 (rt (bH rfl (congrArg D.b ?_)))))
   simp[hm]
 have hm:l.length≤12:=by simp[aB] at c7;omega
 refine sk (sq (sq (rT [0,3,23,24,25,26,29,30,31,32,35,36,37,38,39,40,41,42,43,44,45,46,47,48,49,50,51,52,53,54,55,56] (s1 (bk (SW.loopW (n:=l.length) (fun n q=> ∃i:Nat,n=l.length - i∧i≤l.length∧(∀k,k<i→mH l k=true)∧q=[tD 0 (.sl (aJ l)),tI 3 (i:Nat)]) ?_ ?_))))))
 · exact wq (σ':=[tD 0 (.sl (aJ l)),tI 3 (0:Nat)]) [] [] (⟨0,rfl,aVa _,fun k h=>absurd h (by omega),rfl⟩) qz
 rintro n s ⟨i,rfl,hi,hk,rfl⟩
 refine sq (sq (rT [0,3,11,23,24,25,26,29,30,31,32,35,36,37,38,39,40,41,42,43,44,45,46,47,48,49,50,51,52,53,54,55,56] (s4 (cd rfl (fun c11=> ?_) fun c11=> ?_))))
 · have hi2:i<l.length:=by simpa[aB] using c11
   have hg:=bM (l:=l) hi2
   refine sk (sq (bk (sq (rT [0,3,4,23,24,25,26,29,30,31,32,35,36,37,38,39,40,41,42,43,44,45,46,47,48,49,50,51,52,53,54,55,56] (s2 (ai (by rw[aU4,hg];exact⟨⟨by omega,by rw[aB];omega⟩,rfl⟩) (ai (by rw[aU4,hg];exact⟨aU6 rfl,rfl⟩) (s2 (sq (wa [tD 0 (.sl (aJ l)),tI 3 (i:Nat),tP 4 4,oB 4 39 [.d (.i (l.getD i .zero).frm),.d (.i (l.getD i .zero).num),.d (.i (l.getD i .zero).til)]] [] [] ?_ ?_))))))))))
   · repeat' apply ai
     all_goals first|exact qx|(rw[aU4,hg];rfl)|exact qz
   refine rD [0,3,23,24,25,26,29,30,31,32,35,36,37,38,39,40,41,42,43,44,45,46,47,48,49,50,51,52,53,54,55,56,57] (s2 (xp (dB _) (ai rfl ?_)))
   refine s2 (y2 (xc (fun h=>(dJ _ _ _)) (ai rfl (ai rk ?_))))
   refine y1 (ai pk (s1 (y2 (xc (fun h=>(dJ _ _ _)) (ai rfl (ai rk ?_))))))
   refine y1 (ai pk (s1 (y4 (y2 (ai (fun h=>(by have h0:0<i:=(by have h9:=h;simp[gb] at h9;omega);rw[fB h0 (by omega),aU4,bM (by omega),aB];exact⟨⟨by omega,by omega⟩,rfl⟩)) (ai rk (y1 (ai (fun h=>(by have h0:0<i:=(by have h9:=h;simp[gb] at h9;omega);rw[fB h0 (by omega),aU4,bM (by omega)];exact⟨aU6 rfl,rfl⟩)) (ai rk (y3 (ai (fun h=>(by have h0:0<i:=(by have h9:=h;simp[gb] at h9;omega);rw[fB h0 (by omega),aU4,bM (by omega),aB];exact⟨⟨by omega,by omega⟩,rfl⟩)) (ai rk (y1 (ai (fun h=>(by have h0:0<i:=(by have h9:=h;simp[gb] at h9;omega);rw[fB h0 (by omega),aU4,bM (by omega)];exact⟨aU6 rfl,rfl⟩)) (ai rk (y4 (xc (fun h=>(qI _ _ _ _)) (ai rfl (ai rk ?_)))))))))))))))))))
   refine y1 (ai (fun h=>pk) (ai rk (ai pk (ai (by kernel_rfl) (cd rfl (fun c57=> ?_) fun c57=> ?_)))))
   · refine sq (rT [2] (s1 (rt (bH rfl (congrArg D.b ?_)))))
     have hs:mH l i=false:=tR ((aRg _ _ _ _).trans c57) (fun h0=>by simp only[fB h0 (show i≤1000000 by omega),aU4,bM (show i - 1<l.length by omega)];rfl)
     rw[nV,gR hi2 hs];simp
   refine sk (rT [0,3,23,24,25,26,29,30,31,32,35,36,37,38,39,40,41,42,43,44,45,46,47,48,49,50,51,52,53,54,55,56] (s3 ?_))
   have hs:mH l i=true:=tR ((aRg _ _ _ _).trans c57) (fun h0=>by simp only[fB h0 (show i≤1000000 by omega),aU4,bM (show i - 1<l.length by omega)];rfl)
   refine wq [] [] (⟨l.length - (i+1),by omega,i+1,rfl,by omega,fun k h=>by by_cases e:k=i;exact e▸hs;exact hk k (by omega),rfl⟩) ?_
   repeat' apply ai
   all_goals first|exact qx|exact congrArg D.i (aE (by omega))|exact qz
 have hi3:i=l.length:=by simp[aB] at c11;omega
 refine xt (sq (rT [2] (s1 (rt (bH rfl (congrArg D.b ?_))))))
 subst hi3
 rw[nV,jJ hk];simp[hm]
set_option maxHeartbeats 3200000 in
theorem jX (k:aL) (hb1:k.held.length≤100000∧k.marks.length≤100000∧k.inbox.length≤100000) (hx: ∀x∈k.held,x.text.length≤140737488355328) (hy: ∀x∈k.inbox,x.text.length≤140737488355328):Sp 19 1 [tV 0 k.V] [tB 0 (cO k)]:=by
 refine sb Tryz.func19 rfl (sq (rT [1,14,15,16,17,20,21,22,23,26,27,28,29,32,33,34,35,38,39,40,41,61,62,63,64,65,68,69,70,71,72,73,74,75,76,77,78,79,82,83,84,85,86,87,88,89,109,110,111,112,113,114,115,116,117,118,119,120,140,141,142,143,144,145,146,147,148,149,150,151,154,155,156,157,158,159,160,161,162,163,164,165,166,167,168] (s2 (sq (sq (rT [1,42,61,62,63,64,65,68,69,70,71,72,73,74,75,76,77,78,79,82,83,84,85,86,87,88,89,109,110,111,112,113,114,115,116,117,118,119,120,140,141,142,143,144,145,146,147,148,149,150,151,154,155,156,157,158,159,160,161,162,163,164,165,166,167,168] (s2 (xp (dB _) (ai rfl ?_)))))))))
 refine s2 (y2 (xc (fun h=>(dJ _ _ _)) (ai rfl (ai rk ?_))))
 refine y1 (ai pk (s1 (y2 (xc (fun h=>(dJ _ _ _)) (ai rfl (ai rk ?_))))))
 refine y1 (ai pk (s1 (y2 (xc (fun h=>(zW k.held 6 hx hb1.1)) (ai rfl (ai rk ?_))))))
 refine y1 (ai pk (s1 (y2 (xc (fun h=>(qj k.marks hb1.2.1)) (ai rfl (ai rk ?_))))))
 refine y1 (ai pk (s1 (y2 (xc (fun h=>(zW k.inbox 6 hy hb1.2.2)) (ai rfl (ai rk ?_))))))
 refine y1 (ai pk (cd rfl (fun c42=> ?_) fun c42=> ?_))
 · refine sq (rT [2] (s1 (rt (bH rfl (congrArg D.b ?_)))))
   refine(nX fun h=> ?_).symm
   obtain⟨⟨h1,h2,h3,h4,h5,h6⟩,⟨h7,h8,h9⟩,h10,h11,h12⟩:=(bX k).1 h
   have h4b: ((k.held.length:Int)≤6):=by omega
   have h6b: ((k.inbox.length:Int)≤6):=by omega
   simp only[gb,iB,h1,h7,h8,h9,h5,h4b,h6b,h2.1,h2.2,h3.1,h3.2,decide_true,Bool.and_true,Bool.not_true,Bool.or_false] at c42
   cases c42
 have hf: (eC k.id=true∧(0≤k.time∧k.time≤999)∧(1≤k.next∧k.next≤100)∧k.held.length≤6∧k.marks.length≤12∧k.inbox.length≤6)∧jP k.held=true∧nV k.marks=true∧jP k.inbox=true:=by
  simp only[gb,iB,Bool.or_eq_false_iff,Bool.not_eq_false,decide_eq_false_iff_not,Bool.not_eq_eq_eq_not,Bool.not_false,aU7,decide_eq_true_eq] at c42
  obtain⟨⟨⟨⟨⟨q1,q2⟩,q3⟩,q4,q4b⟩,q5,q5b⟩,q6,q6b⟩:=c42
  exact⟨⟨q1,q2,q3,by omega,by omega,by omega⟩,q4b,q5b,q6b⟩
 obtain⟨⟨f1,f2,f3,f4,f5,f6⟩,hg3⟩:=hf
 refine sk (sq (sq (rT [1,3,61,62,63,64,65,68,69,70,71,72,73,74,75,76,77,78,79,82,83,84,85,86,87,88,89,109,110,111,112,113,114,115,116,117,118,119,120,140,141,142,143,144,145,146,147,148,149,150,151,154,155,156,157,158,159,160,161,162,163,164,165,166,167,168] (s1 (bk (SW.loopW (n:=k.held.length) (fun n q=> ∃i:Nat,n=k.held.length - i∧i≤k.held.length∧(∀j,j<i→rI k j=true)∧q=[tP 1 1,tI 3 (i:Nat),oB 1 26 [.d (.i k.id),.d (.i k.time),.d (.i k.next),.d (.sl (aD k.held)),.d (.sl (aJ k.marks)),.d (.sl (aD k.inbox))]]) ?_ ?_))))))
 · refine wq (σ':=[tP 1 1,tI 3 (0:Nat),oB 1 26 [.d (.i k.id),.d (.i k.time),.d (.i k.next),.d (.sl (aD k.held)),.d (.sl (aJ k.marks)),.d (.sl (aD k.inbox))]]) [] [] (⟨0,rfl,aVa _,fun j h=>absurd h (by omega),rfl⟩) ?_
   repeat' apply ai
   all_goals first|exact qx|(rw[aA];done)|rfl|exact qz
 rintro n s ⟨i,rfl,hi,hk,rfl⟩
 refine sq (sq (rT [1,3,47,61,62,63,64,65,68,69,70,71,72,73,74,75,76,77,78,79,82,83,84,85,86,87,88,89,109,110,111,112,113,114,115,116,117,118,119,120,140,141,142,143,144,145,146,147,148,149,150,151,154,155,156,157,158,159,160,161,162,163,164,165,166,167,168] (s5 (cd rfl (fun c47=> ?_) fun c47=> ?_))))
 · have hi2:i<k.held.length:=by simpa[aA] using c47
   have hg:=aQ (l:=k.held) hi2
   refine sk (sq (bk (sq (rT [1,3,4,61,62,63,64,65,68,69,70,71,72,73,74,75,76,77,78,79,82,83,84,85,86,87,88,89,109,110,111,112,113,114,115,116,117,118,119,120,140,141,142,143,144,145,146,147,148,149,150,151,154,155,156,157,158,159,160,161,162,163,164,165,166,167,168] (s3 (ai (by rw[aU4,hg];exact⟨⟨by omega,by rw[aA];omega⟩,rfl⟩) (ai (by rw[aU4,hg];exact⟨aU6 rfl,rfl⟩) (s2 (sq (wa [tP 1 1,tI 3 (i:Nat),oB 1 26 [.d (.i k.id),.d (.i k.time),.d (.i k.next),.d (.sl (aD k.held)),.d (.sl (aJ k.marks)),.d (.sl (aD k.inbox))],tP 4 4,oB 4 29 [.d (.i (k.held.getD i .zero).frm),.d (.i (k.held.getD i .zero).num),.d (.i (k.held.getD i .zero).to),.d (.i (k.held.getD i .zero).til),.d (.s (k.held.getD i .zero).text)]] [] [] ?_ ?_))))))))))
   · repeat' apply ai
     all_goals first|exact qx|(rw[aU4,hg];rfl)|exact qz
   refine rT [1,3,61,62,63,64,65,68,69,70,71,72,73,74,75,76,77,78,79,82,83,84,85,86,87,88,89,90,109,110,111,112,113,114,115,116,117,118,119,120,140,141,142,143,144,145,146,147,148,149,150,151,154,155,156,157,158,159,160,161,162,163,164,165,166,167,168] (s6 (y3 (xc (fun h=>(yg (k.held.getD i .zero) k.id)) (ai rfl (ai rk ?_)))))
   refine y1 (ai pk (s1 (y4 (y4 (y3 (ai (fun h=>pk) (ai rk (ai pk (s1 (y4 (y2 (xc (fun h=>(nO k.marks _ _ (by omega))) (ai rfl (ai rk ?_))))))))))))))
   refine y1 (ai pk (cd rfl (fun c90=> ?_) fun c90=> ?_))
   · refine sq (rT [2] (s1 (rt (bH rfl (congrArg D.b ?_)))))
     refine(nX fun h=> ?_).symm
     obtain⟨⟨h1,h2,h3,h4,h5,h6⟩,⟨h7,h8,h9⟩,h10,h11,h12⟩:=(bX k).1 h
     rw[gR hi2 (yM ((or4 _ _ _ _).trans c90))] at h10
     cases h10
   refine sk (rT [1,3,61,62,63,64,65,68,69,70,71,72,73,74,75,76,77,78,79,82,83,84,85,86,87,88,89,109,110,111,112,113,114,115,116,117,118,119,120,140,141,142,143,144,145,146,147,148,149,150,151,154,155,156,157,158,159,160,161,162,163,164,165,166,167,168] (s3 ?_))
   have hs:rI k i=true:=yM ((or4 _ _ _ _).trans c90)
   refine wq [] [] (⟨k.held.length - (i+1),by omega,i+1,rfl,by omega,fun j h=>by by_cases e:j=i;exact e▸hs;exact hk j (by omega),rfl⟩) ?_
   repeat' apply ai
   all_goals first|exact qx|exact congrArg D.i (aE (by omega))|exact qz
 have hiA:i=k.held.length:=by simp[aA] at c47;omega
 have hkA:=hk
 clear hk hi
 refine xt (sq (sq (rT [1,5,109,110,111,112,113,114,115,116,117,118,119,120,140,141,142,143,144,145,146,147,148,149,150,151,154,155,156,157,158,159,160,161,162,163,164,165,166,167,168] (s1 (bk (SW.loopW (n:=k.marks.length) (fun n q=> ∃i:Nat,n=k.marks.length - i∧i≤k.marks.length∧(∀j,j<i→uU k j=true)∧q=[tP 1 1,tI 5 (i:Nat),oB 1 26 [.d (.i k.id),.d (.i k.time),.d (.i k.next),.d (.sl (aD k.held)),.d (.sl (aJ k.marks)),.d (.sl (aD k.inbox))]]) ?_ ?_))))))
 · refine wq (σ':=[tP 1 1,tI 5 (0:Nat),oB 1 26 [.d (.i k.id),.d (.i k.time),.d (.i k.next),.d (.sl (aD k.held)),.d (.sl (aJ k.marks)),.d (.sl (aD k.inbox))]]) [] [] (⟨0,rfl,aVa _,fun j h=>absurd h (by omega),rfl⟩) ?_
   repeat' apply ai
   all_goals first|exact qx|(rw[aB];done)|rfl|exact qz
 rintro n s ⟨i,rfl,hi,hk,rfl⟩
 refine sq (sq (rT [1,5,95,109,110,111,112,113,114,115,116,117,118,119,120,140,141,142,143,144,145,146,147,148,149,150,151,154,155,156,157,158,159,160,161,162,163,164,165,166,167,168] (s5 (cd rfl (fun c95=> ?_) fun c95=> ?_))))
 · have hi2:i<k.marks.length:=by simpa[aB] using c95
   have hg:=bM (l:=k.marks) hi2
   refine sk (sq (bk (sq (rT [1,5,6,109,110,111,112,113,114,115,116,117,118,119,120,140,141,142,143,144,145,146,147,148,149,150,151,154,155,156,157,158,159,160,161,162,163,164,165,166,167,168] (s3 (ai (by rw[aU4,hg];exact⟨⟨by omega,by rw[aB];omega⟩,rfl⟩) (ai (by rw[aU4,hg];exact⟨aU6 rfl,rfl⟩) (s2 (sq (wa [tP 1 1,tI 5 (i:Nat),oB 1 26 [.d (.i k.id),.d (.i k.time),.d (.i k.next),.d (.sl (aD k.held)),.d (.sl (aJ k.marks)),.d (.sl (aD k.inbox))],tP 6 6,oB 6 39 [.d (.i (k.marks.getD i .zero).frm),.d (.i (k.marks.getD i .zero).num),.d (.i (k.marks.getD i .zero).til)]] [] [] ?_ ?_))))))))))
   · repeat' apply ai
     all_goals first|exact qx|(rw[aU4,hg];rfl)|exact qz
   refine rT [1,5,109,110,111,112,113,114,115,116,117,118,119,120,121,140,141,142,143,144,145,146,147,148,149,150,151,154,155,156,157,158,159,160,161,162,163,164,165,166,167,168] (s6 (y4 (y4 (y3 (ai (fun h=>pk) (ai rk (ai pk (cd rfl (fun c121=> ?_) fun c121=> ?_))))))))
   · refine sq (rT [2] (s1 (rt (bH rfl (congrArg D.b ?_)))))
     refine(nX fun h=> ?_).symm
     obtain⟨⟨h1,h2,h3,h4,h5,h6⟩,⟨h7,h8,h9⟩,h10,h11,h12⟩:=(bX k).1 h
     rw[gR hi2 (yN ((or2 _ _).trans c121))] at h11
     cases h11
   refine sk (rT [1,5,109,110,111,112,113,114,115,116,117,118,119,120,140,141,142,143,144,145,146,147,148,149,150,151,154,155,156,157,158,159,160,161,162,163,164,165,166,167,168] (s3 ?_))
   have hs:uU k i=true:=yN ((or2 _ _).trans c121)
   refine wq [] [] (⟨k.marks.length - (i+1),by omega,i+1,rfl,by omega,fun j h=>by by_cases e:j=i;exact e▸hs;exact hk j (by omega),rfl⟩) ?_
   repeat' apply ai
   all_goals first|exact qx|exact congrArg D.i (aE (by omega))|exact qz
 have hiB:i=k.marks.length:=by simp[aB] at c95;omega
 have hkB:=hk
 clear hk hi
 refine xt (sq (sq (rT [1,7,140,141,142,143,144,145,146,147,148,149,150,151,154,155,156,157,158,159,160,161,162,163,164,165,166,167,168] (s1 (bk (SW.loopW (n:=k.inbox.length) (fun n q=> ∃i:Nat,n=k.inbox.length - i∧i≤k.inbox.length∧(∀j,j<i→sA k j=true)∧q=[tP 1 1,tI 7 (i:Nat),oB 1 26 [.d (.i k.id),.d (.i k.time),.d (.i k.next),.d (.sl (aD k.held)),.d (.sl (aJ k.marks)),.d (.sl (aD k.inbox))]]) ?_ ?_))))))
 · refine wq (σ':=[tP 1 1,tI 7 (0:Nat),oB 1 26 [.d (.i k.id),.d (.i k.time),.d (.i k.next),.d (.sl (aD k.held)),.d (.sl (aJ k.marks)),.d (.sl (aD k.inbox))]]) [] [] (⟨0,rfl,aVa _,fun j h=>absurd h (by omega),rfl⟩) ?_
   repeat' apply ai
   all_goals first|exact qx|(rw[aA];done)|rfl|exact qz
 rintro n s ⟨i,rfl,hi,hk,rfl⟩
 refine sq (sq (rT [1,7,126,140,141,142,143,144,145,146,147,148,149,150,151,154,155,156,157,158,159,160,161,162,163,164,165,166,167,168] (s5 (cd rfl (fun c126=> ?_) fun c126=> ?_))))
 · have hi2:i<k.inbox.length:=by simpa[aA] using c126
   have hg:=aQ (l:=k.inbox) hi2
   refine sk (sq (bk (sq (rT [1,7,8,140,141,142,143,144,145,146,147,148,149,150,151,154,155,156,157,158,159,160,161,162,163,164,165,166,167,168] (s3 (ai (by rw[aU4,hg];exact⟨⟨by omega,by rw[aA];omega⟩,rfl⟩) (ai (by rw[aU4,hg];exact⟨aU6 rfl,rfl⟩) (s2 (sq (wa [tP 1 1,tI 7 (i:Nat),oB 1 26 [.d (.i k.id),.d (.i k.time),.d (.i k.next),.d (.sl (aD k.held)),.d (.sl (aJ k.marks)),.d (.sl (aD k.inbox))],tP 8 8,oB 8 29 [.d (.i (k.inbox.getD i .zero).frm),.d (.i (k.inbox.getD i .zero).num),.d (.i (k.inbox.getD i .zero).to),.d (.i (k.inbox.getD i .zero).til),.d (.s (k.inbox.getD i .zero).text)]] [] [] ?_ ?_))))))))))
   · repeat' apply ai
     all_goals first|exact qx|(rw[aU4,hg];rfl)|exact qz
   refine rT [1,7,140,141,142,143,144,145,146,147,148,149,150,151,154,155,156,157,158,159,160,161,162,163,164,165,166,167,168,169] (s6 (y4 (y4 (y3 (ai (fun h=>pk) (ai rk (ai pk (s1 (y4 (y4 (y4 (xc (fun h=>(nO k.marks _ _ (by omega))) (ai rfl (ai rk ?_))))))))))))))
   refine y1 (ai (fun h=>pk) (ai rk (ai pk (cd rfl (fun c169=> ?_) fun c169=> ?_))))
   · refine sq (rT [2] (s1 (rt (bH rfl (congrArg D.b ?_)))))
     refine(nX fun h=> ?_).symm
     obtain⟨⟨h1,h2,h3,h4,h5,h6⟩,⟨h7,h8,h9⟩,h10,h11,h12⟩:=(bX k).1 h
     rw[gR hi2 (vS ((or3 _ _ _).trans c169))] at h12
     cases h12
   refine sk (rT [1,7,140,141,142,143,144,145,146,147,148,149,150,151,154,155,156,157,158,159,160,161,162,163,164,165,166,167,168] (s3 ?_))
   have hs:sA k i=true:=vS ((or3 _ _ _).trans c169)
   refine wq [] [] (⟨k.inbox.length - (i+1),by omega,i+1,rfl,by omega,fun j h=>by by_cases e:j=i;exact e▸hs;exact hk j (by omega),rfl⟩) ?_
   repeat' apply ai
   all_goals first|exact qx|exact congrArg D.i (aE (by omega))|exact qz
 have hiC:i=k.inbox.length:=by simp[aA] at c126;omega
 refine xt (sq (rT [2] (s1 (rt (bH rfl (congrArg D.b ?_))))))
 refine((bX k).2 ⟨⟨f1,f2,f3,f4,f5,f6⟩,hg3,jJ ?_,jJ ?_,jJ ?_⟩).symm
 · rw[← hiA];exact hkA
 · rw[← hiB];exact hkB
 rw[← hiC];exact hk
theorem tY (n:Nat) (hn:n≤1000000000):Sp 35 1 [tI 0 (n:Nat)] [tD 0 (.s (kC n))]:=by
 induction n using Nat.strongRecOn
 rename_i n ih
 refine sb Tryz.func35 rfl (sq (rT [0] (s1 (sq (sq (rT [0,4] (s2 (cd rfl (fun c4=> ?_) fun c4=> ?_))))))))
 · simp at c4
   omega
 refine sk (sq (sq (rT [0,6] (s2 (cd rfl (fun c6=> ?_) fun c6=> ?_)))))
 · simp at c6
   omega
 refine sk (sq (sq (rT [0,12] (s2 (cd rfl (fun c12=> ?_) fun c12=> ?_)))))
 · have h10:n<10:=by simp at c12;omega
   refine sq (rT [2] (s3 (ai (by exact⟨by simp,aU6 rfl⟩) (ai (by exact⟨rfl,congrArg (fun r=>[r]) (ml _)⟩) (s1 (rt (bH rfl (congrArg D.s ?_))))))))
   rw[lJ h10,← jf h10]
   rfl
 have h10: ¬n<10:=by simp at c12;omega
 have hq:wrap64 (Int.tdiv (n:Int) 10)=((n / 10:Nat):Int):=by rw[Int.tdiv_eq_ediv_of_nonneg (by omega),aE (by omega)];omega
 have hr:aVg (n:Int) 10=((n % 10:Nat):Int):=by rw[Int.tmod_eq_emod_of_nonneg (by omega)];omega
 have hdl:=aBq (n / 10)
 refine sk (sq (rD [2] (s1 (ai (by omega) (xp (ih (n / 10) (by omega) (by omega)) (ai (by rw[hq];rfl) ?_))))))
 refine s1 (ai (by omega) (s2 (ai (by exact⟨by simp,aU6 rfl⟩) (ai (by exact⟨rfl,congrArg (fun r=>[r]) (ml _)⟩) (ai (by show _≤9223372036854775807;simp only[iQ,List.length_map,aU9,aU8];omega) (s1 (ai (by kernel_rfl) (rt (bH rfl (congrArg D.s ?_))))))))))
 refine Eq.trans ?_ (sB (by omega)).symm
 rw[hr,← jf (Nat.mod_lt n (by decide))]
 rfl
theorem vv (s:List UInt8) (hl:s.length≤140737488355328):Sp 79 1 [tD 0 (.s s)] [tV 0 (.tup [.c (.d (.i (match kN s with|some n=>(n:Int)|none=>0))),.c (.d (.b (kN s).isSome))])]:=by
 refine sb Tryz.func79 rfl (sq (rT [0,11,12,13,14,15,16,17,18] (s2 (sq (sq (rT [0,19] (s2 (xp (jZ _ _ _) (ai rfl ?_)))))))))
 refine s2 (y1 (ai (fun h=>(by have h9:=h;simp[gb,iB] at h9;exact⟨by omega,by omega⟩)) (ai rk (y4 (y1 (ai (fun h=>pk) (ai rk (ai pk (cd rfl (fun c19=> ?_) fun c19=> ?_)))))))))
 · refine sq (rT [2,3] (s2 (rt ?_)))
   have hno:kN s=none:=by
    unfold kN
    rw[if_neg]
    rintro⟨h1,h2,h3⟩
    have h4:iB (s.length:Int) 1 5=true:=by simp only[iB,aU7,decide_eq_true_eq];omega
    rw[h4] at c19
    simp only[Bool.not_true,Bool.false_or,aU7,beq_iff_eq,decide_eq_true_eq] at c19
    refine h2 ⟨UInt8.toNat_inj.1 ?_,by omega⟩
    have h5: ((s.getD 0 0).toNat:Int)=48:=c19.1
    have h6: (48:UInt8).toNat=48:=rfl
    omega
   refine bP rfl rfl ?_
   rw[hno]
   rfl
 have hL: (1≤s.length∧s.length≤5)∧ ¬(s.getD 0 0=48∧1<s.length):=by
  by_cases h1:1≤s.length∧s.length≤5
  · refine⟨h1,fun h2=> ?_⟩
    have h3: (((s.getD (Int.toNat 0) 0).toNat:Int)==48)=true:=by rw[show Int.toNat 0=0 from rfl,h2.1];rfl
    have h4:decide ((s.length:Int)>1)=true:=decide_eq_true (by omega)
    rw[h3,h4] at c19
    simp at c19
  · have h3:iB (s.length:Int) 1 5=false:=by
     cases h:iB (s.length:Int) 1 5 with
     |false=>rfl
     |true=>simp only[iB,aU7,decide_eq_true_eq] at h;omega
    rw[h3] at c19
    simp at c19
 refine sk (sq (rT [0,4] (s1 (sq (sq (rT [0,4,5] (s1 (bk (SW.loopW (n:=s.length) (fun m q=> ∃i:Nat,m=s.length - i∧i≤s.length∧(∀k,k<i→gO (s.getD k 0)=true)∧q=[tD 0 (.s s),tI 4 (oZ (s.take (i)):Nat),tI 5 (i:Nat)]) ?_ ?_)))))))))
 · refine wq (σ':=[tD 0 (.s s),tI 4 (oZ (s.take (0)):Nat),tI 5 (0:Nat)]) [] [] (⟨0,rfl,aVa _,fun k h=>absurd h (by omega),rfl⟩) ?_
   repeat' apply ai
   all_goals first|exact qx|(simp[oZ];done)|exact qz
 rintro n s ⟨i,rfl,hi,hk,rfl⟩
 refine sq (sq (rT [0,4,5,23] (s4 (cd rfl (fun c23=> ?_) fun c23=> ?_))))
 · have hi2:i<s.length:=by simpa using c23
   have hb8:=jW s i
   have hw:wrap64 ((s.getD ((i:Nat):Int).toNat 0).toNat:Int)=iT s i:=aE (by unfold iT at hb8;rw[aU4];omega)
   have hvb:=mr hk hi (by omega)
   refine sk (sq (bk (sq (sq (rT [0,4,5,31] (s2 (ai (by exact⟨by omega,by omega⟩) (s1 (xp (jZ _ _ _) (ai rfl ?_))))))))))
   refine s1 (cd rfl (fun c31=> ?_) fun c31=> ?_)
   · refine sq (rT [2,3] (s2 (rt ?_)))
     have hno:kN s=none:=by
      unfold kN
      rw[if_neg]
      rintro⟨h1,h2,h3⟩
      have h9:=c31
      rw[hw,← tj] at h9
      have hs:gO (s.getD i 0)=false:=by simpa using h9
      rw[th hi2 hs] at h3
      cases h3
     refine bP rfl rfl ?_
     rw[hno]
     rfl
   refine sk (rT [0,4,5] (s4 (ai (by exact⟨by omega,by omega⟩) (s4 (rT [0,4,5] (s3 ?_))))))
   have hs:gO (s.getD i 0)=true:=by
    have h9:=c31
    rw[hw,← tj] at h9
    simpa using h9
   refine wq [] [] (⟨s.length - (i+1),by omega,i+1,rfl,by omega,fun k h=>by by_cases e:k=i;exact e▸hs;exact hk k (by omega),rfl⟩) ?_
   repeat' apply ai
   all_goals first|exact qx|(rw[aU4];exact congrArg D.i (aD4 hi2 hs rfl (by omega)).1)|exact congrArg D.i (aE (by omega))|exact qz
 have hi3:i=s.length:=by simp at c23;omega
 refine xt (sq (rT [2,3] (s3 (rt ?_))))
 have hyes:kN s=some (oZ s):=by
  unfold kN
  rw[if_pos ⟨hL.1,hL.2,aAb (hi3▸hk)⟩]
 refine bP rfl rfl ?_
 rw[hyes,hi3,aVl]
 rfl
theorem tZ (s:List UInt8) (hl:s.length≤140737488355328):Sp 68 1 [tD 0 (.s s)] [tI 0 (gK s)]:=by
 refine sb Tryz.func68 rfl (sq (rT [0,9,10,11,24,25,26,27] (s1 (sq (sq (rT [0,12,24,25,26,27] (s4 (y3 (ai pk (cd rfl (fun c12=> ?_) fun c12=> ?_))))))))))
 · have hL: ¬(1≤s.length∧s.length≤4):=by simp[gb] at c12;omega
   refine sq (rT [2] (s1 (rt (bH rfl (congrArg D.i ?_)))))
   unfold gK
   rw[if_neg]
   rintro⟨h1,h2,h3⟩
   exact hL h1
 have hL:1≤s.length∧s.length≤4:=by
  simp only[Bool.or_eq_false_iff,decide_eq_false_iff_not] at c12
  omega
 refine sk (sq (rT [0,3,24,25,26,27] (s1 (sq (sq (rT [0,3,4,24,25,26,27] (s1 (bk (SW.loopW (n:=s.length) (fun m q=> ∃i:Nat,m=s.length - i∧i≤s.length∧(∀k,k<i→gO (s.getD k 0)=true)∧q=[tD 0 (.s s),tI 3 (oZ (s.take (i)):Nat),tI 4 (i:Nat)]) ?_ ?_)))))))))
 · refine wq (σ':=[tD 0 (.s s),tI 3 (oZ (s.take (0)):Nat),tI 4 (0:Nat)]) [] [] (⟨0,rfl,aVa _,fun k h=>absurd h (by omega),rfl⟩) ?_
   repeat' apply ai
   all_goals first|exact qx|(simp[oZ];done)|exact qz
 rintro n s ⟨i,rfl,hi,hk,rfl⟩
 refine sq (sq (rT [0,3,4,16,24,25,26,27] (s4 (cd rfl (fun c16=> ?_) fun c16=> ?_))))
 · have hi2:i<s.length:=by simpa using c16
   have hvb:=mr hk hi (by omega)
   refine sk (sq (bk (sq (sq (rT [0,3,4,24,25,26,27,28] (s2 (ai (by exact⟨by omega,by omega⟩) (s2 (y2 (ai (fun h=>(by exact⟨by omega,by omega⟩)) (ai rk (y1 (ai pk (cd rfl (fun c28=> ?_) fun c28=> ?_))))))))))))))
   · refine sq (rT [2] (s1 (rt (bH rfl (congrArg D.i ?_)))))
     unfold gK
     rw[if_neg]
     rintro⟨h1,h2,h3⟩
     have hs:gO (s.getD i 0)=false:=by
      have h9:=c28
      rw[aU4] at h9
      simp[gb] at h9
      simp[gO];omega
     rw[th hi2 hs] at h2
     cases h2
   refine sk (rT [0,3,4,24,25,26,27] (s4 (ai (by exact⟨by omega,by omega⟩) (s4 (rT [0,3,4,24,25,26,27] (s3 ?_))))))
   have hs:gO (s.getD i 0)=true:=by
    have h9:=c28
    rw[aU4] at h9
    simp[gb] at h9
    simp[gO];omega
   refine wq [] [] (⟨s.length - (i+1),by omega,i+1,rfl,by omega,fun k h=>by by_cases e:k=i;exact e▸hs;exact hk k (by omega),rfl⟩) ?_
   repeat' apply ai
   all_goals first|exact qx|(rw[aU4];exact congrArg D.i (aD4 hi2 hs rfl (by omega)).2)|exact congrArg D.i (aE (by omega))|exact qz
 have hi3:i=s.length:=by simp at c16;omega
 have hvb:=mr hk hi (by omega)
 refine xt (sq (sq (rT [3,40] (s1 (xp (tY (oZ (s.take i)) (by omega)) (ai rfl ?_))))))
 refine s2 (cd rfl (fun c40=> ?_) fun c40=> ?_)
 · refine sq (rT [2] (s1 (rt (bH rfl (congrArg D.i ?_)))))
   unfold gK
   rw[if_neg]
   rintro⟨h1,h2,h3⟩
   rw[hi3,aVl,h3] at c40
   simp at c40
 refine sk (sq (rT [2] (s2 (rt (bH rfl (congrArg D.i ?_))))))
 rw[hi3,aVl] at c40
 unfold gK
 rw[if_pos ⟨hL,aAb (hi3▸hk),by simpa using c40⟩,hi3,aVl]
set_option maxHeartbeats 800000 in
theorem yh (s:List UInt8) (hl:s.length≤1000000):Sp 131 1 [tD 0 (.s s)] [tV 0 (.tup [.c (.d (.s (aKl s))),.c (.d (.i (aBr s:Nat)))])]:=by
 refine sb Tryz.func131 rfl (sq (rT [0,11,12,27,28,31,32,33,34,35,36,37,40,41,42,43,44,45,46] (s2 (sq (sq (rT [0,4,11,12,27,28,31,32,33,34,35,36,37,40,41,42,43,44,45,46] (s1 (bk (SW.loopW (n:=3) (fun m q=> ∃i:Nat,m=3 - i∧(i≤s.length∧i≤3)∧(∀j,j<i→s.getD j 0≠58)∧q=[tD 0 (.s s),tI 4 (i:Nat)]) ?_ ?_)))))))))
 · exact wq (σ':=[tD 0 (.s s),tI 4 (0:Nat)]) [] [] (⟨0,rfl,⟨aVa _,by omega⟩,fun j h=>absurd h (by omega),rfl⟩) qz
 rintro n s ⟨i,rfl,hi,hk,rfl⟩
 refine sq (sq (rT [0,4,11,12,13,27,28,31,32,33,34,35,36,37,40,41,42,43,44,45,46] (s5 (y2 (ai pk (cd rfl (fun c13=> ?_) fun c13=> ?_))))))
 · have hi2:i<s.length∧i<3:=by simp only[aU7,decide_eq_true_eq] at c13;omega
   refine sk (sq (bk (sq (sq (rT [0,4,11,12,19,27,28,31,32,33,34,35,36,37,40,41,42,43,44,45,46] (s2 (ai (by exact⟨by omega,by omega⟩) (s1 (cd rfl (fun c19=> ?_) fun c19=> ?_)))))))))
   · refine xt (rT [0,4,11,12,27,28,31,32,33,34,35,36,37,40,41,42,43,44,45,46] (s3 ?_))
     have hs:s.getD i 0≠58:=by
      have h9:=c19
      rw[aU4] at h9
      intro e
      rw[e] at h9
      exact absurd h9 (by decide)
     refine wq [] [] (⟨3 - (i+1),by omega,i+1,rfl,⟨by omega,by omega⟩,fun j h=>by by_cases e:j=i;exact e▸hs;exact hk j (by omega),rfl⟩) ?_
     repeat' apply ai
     all_goals first|exact qx|exact congrArg D.i (aE (by omega))|exact qz
   have hcol:dh s=some i:=by
    refine aG9 hi2.2 hi2.1 ?_ hk
    have h9:=c19
    rw[aU4] at h9
    have h10: ((s.getD i 0).toNat:Int)=58:=by simpa only[bne_eq_false_iff_eq] using h9
    apply UInt8.toNat_inj.1
    have h6: (58:UInt8).toNat=58:=rfl
    omega
   have hv:=yO (s.take i)
   have hra:=aNf hcol
   refine sk (sq (rT [0,4,5,27,28,31,32,33,34,35,36,37,40,41,42,43,44,45,46] (s2 (ai (by simp[yz,fD,gF];omega) (xp (tZ (s.take i) (by rw[aVc];omega)) (ai rfl ?_))))))
   refine s1 (sq (sq (rT [0,4,5,47] (s3 (y2 (ai pk (s1 (y4 (y3 (ai pk (s1 (y4 (y1 (ai (fun h=>(by have h9:=h;simp only[gb,aU7,Bool.not_eq_true',Bool.or_eq_false_iff,decide_eq_false_iff_not] at h9;rw[aE (n:=(i:Int)+2) (by omega),aE (n:=(i:Int)+2+gK (s.take i)) (by omega)] at h9;rw[aE (n:=(i:Int)+1) (by omega),aE (n:=(i:Int)+1+gK (s.take i)) (by omega)];omega)) (ai rk (y1 (ai pk (cd rfl (fun c47=> ?_) fun c47=> ?_))))))))))))))))))
   · refine sq (rT [2,3] (s2 (rt ?_)))
     have hno:mY s=none:=by
      rw[hra,if_neg]
      rintro⟨p1,p2,p3,p4⟩
      have h9:=c47
      rw[aE (n:=(i:Int)+2) (by omega),aE (n:=(i:Int)+2+gK (s.take i)) (by omega),aE (n:=(i:Int)+1) (by omega),aE (n:=(i:Int)+1+gK (s.take i)) (by omega),show((i:Int)+1+gK (s.take i)).toNat=i+1+(gK (s.take i)).toNat by omega,p4] at h9
      simp at h9
      omega
     refine bP rfl rfl ?_
     rw[aKl,aBr,hno]
     rfl
   have hok:1≤gK (s.take i)∧gK (s.take i)≤60∧i+2+(gK (s.take i)).toNat≤s.length∧s.getD (i+1+(gK (s.take i)).toNat) 0=59:=by
    have h9:=c47
    rw[aE (n:=(i:Int)+2) (by omega),aE (n:=(i:Int)+2+gK (s.take i)) (by omega),aE (n:=(i:Int)+1) (by omega),aE (n:=(i:Int)+1+gK (s.take i)) (by omega)] at h9
    simp only[Bool.or_eq_false_iff,decide_eq_false_iff_not,bne_eq_false_iff_eq] at h9
    obtain⟨⟨⟨p1,p2⟩,p3⟩,p4⟩:=h9
    rw[show((i:Int)+1+gK (s.take i)).toNat=i+1+(gK (s.take i)).toNat by omega] at p4
    refine⟨by omega,by omega,by omega,UInt8.toNat_inj.1 ?_⟩
    have h6: (59:UInt8).toNat=59:=rfl
    omega
   refine sk (sq (rT [2,3] (s7 (ai (by rw[aE (n:=(i:Int)+1) (by omega),aE (n:=(i:Int)+1+gK (s.take i)) (by omega)];simp[yz,fD,gF];omega) (s6 (rt ?_))))))
   have hyes:=hra.trans (if_pos hok)
   refine bP rfl rfl ?_
   rw[aKl,aBr,hyes]
   rw[aE (n:=(i:Int)+1) (by omega),aE (n:=(i:Int)+1+gK (s.take i)) (by omega),aE (n:=(i:Int)+2) (by omega),aE (n:=(i:Int)+2+gK (s.take i)) (by omega)]
   have e1: ((i:Int)+1).toNat=i+1:=by omega
   have e2: ((i:Int)+1+gK (s.take i)).toNat=i+1+(gK (s.take i)).toNat:=by omega
   have e3: (i:Int)+2+gK (s.take i)=((i+2+(gK (s.take i)).toNat:Nat):Int):=by omega
   rw[e3]
   show V.tup [.c (.d (.s (List.drop ((i:Int)+1).toNat (List.take ((i:Int)+1+gK (s.take i)).toNat s)))),_]=_
   rw[e1,e2]
 have hi3:i=3∨i=s.length:=by
  by_cases h3:i<3
  · right;have h4:decide ((i:Int)<3)=true:=decide_eq_true (by omega)
    rw[h4,Bool.and_true,decide_eq_false_iff_not] at c13;omega
  · left;omega
 refine xt (sq (rT [2,3] (s2 (rt ?_))))
 have hno:mY s=none:=by
  exact xm (aBs fun j h3 hjl=>hk j (by omega))
 refine bP rfl rfl ?_
 rw[aKl,aBr,hno]
 rfl
set_option maxHeartbeats 800000 in
theorem ni (s:List UInt8) (hl:s.length≤1000000):Sp 115 1 [tD 0 (.s s)] [tV 0 (.tup [.c (.own 0 (dI s).1.length),.c (.d (.i ((dI s).2:Nat)))]),oR 0 9 1 (bO (dI s).1)]:=by
 refine sb Tryz.func115 rfl (sq (rT [0] (s2 (sq (rT [0,4] (s2 (sq (rT [0,4,5] (s1 (sq (bk (SW.loopW (n:=s.length) (fun m q=> ∃(a:Nat) (o:List (List UInt8)),m=s.length - a∧(a≤s.length∧o.length≤a)∧(o++(dI (s.drop a)).1=(dI s).1∧a+(dI (s.drop a)).2=(dI s).2)∧q=[tD 0 (.s s),tO 4 8 (o).length,tI 5 (a:Nat),oR 8 9 1 (bO (o))]) ?_ ?_))))))))))))
 · refine wq (σ':=[tD 0 (.s s),tO 4 8 ([]).length,tI 5 (0:Nat),oR 8 9 1 (bO ([]))]) [] [] (⟨0,[],rfl,⟨aVa _,by simp⟩,⟨rfl,by rw[List.drop_zero,Nat.zero_add]⟩,rfl⟩) ?_
   repeat' apply ai
   all_goals first|exact qx|rfl|exact qz
 rintro n s ⟨a,o,rfl,ha,hr,rfl⟩
 refine sq (sq (rT [0,4,5,12] (s4 (cd rfl (fun c12=> ?_) fun c12=> ?_))))
 · have ha2:a<s.length:=by simpa using c12
   refine sk (bk (sq (rT [0,4,5,6,7] (s2 (ai (by simp[yz,fD,gF];omega) (xp (yh (s.drop a) (by rw[aVk];omega)) (ai (by show _=eS 0 [Dv (.s (List.drop ((a:Int)).toNat (List.take s.length s)))];rw[aU4,aVl];rfl) ?_)))))))
   refine s5 (sq (sq (rT [0,4,5,6,7,21] (s2 (cd rfl (fun c21=> ?_) fun c21=> ?_)))))
   · have hz:mY (s.drop a)=none:=by
      refine aAc.1 ?_
      have h9: ((aBr (s.drop a):Nat):Int)=0:=by simpa using c21
      omega
     rw[lK hz,List.append_nil,Nat.add_zero] at hr
     refine sq (rT [2,3] (s4 (rt ?_)))
     rw[← hr.1,← hr.2]
     exact eN _ [(0,8)] [] rfl ⟨⟨_,rfl,⟨rfl,rfl,_,_,_,rfl⟩,rfl,trivial⟩,bW rfl rfl trivial⟩ rfl rfl
   obtain⟨r,n,hra⟩: ∃r n,mY (s.drop a)=some (r,n):=by
    cases h:mY (s.drop a) with
    |none=>
     rw[aAc.2 h] at c21
     exact absurd c21 (by decide)
    |some p=>exact⟨p.1,p.2,rfl⟩
   have hS:aKl (s.drop a)=r:=by rw[aKl,hra]
   have hN:aBr (s.drop a)=n:=by rw[aBr,hra]
   have hrs:=rJ hra
   rw[aVk] at hrs
   refine sk (sq (rT [0,4,5,7] (s3 (ai (by refine⟨rfl,aW _,by simp,?_⟩;show(_+1)*16≤_;omega) (s1 (rT [0,4,5] (s4 ?_)))))))
   have hstep:=uV hra
   rw[List.drop_drop] at hstep
   rw[hstep] at hr
   refine wq [] [] (⟨s.length - (a+n),by omega,a+n,o++[r],rfl,⟨by omega,by rw[aU5];simp;omega⟩,⟨by rw[← hr.1,List.append_assoc];rfl,by rw[← hr.2];simp only;omega⟩,rfl⟩) ?_
   repeat' apply ai
   all_goals first|exact qx|(rw[aU5];done)|(refine congrArg D.i ?_;rw[hN,aE (by omega)];omega)|(rw[hS];exact jN _ _)|(simp[aW];done)|exact qz
 have ha3:a=s.length:=by simp at c12;omega
 have hd0:s.drop a=[]:=by rw[ha3];exact List.drop_length
 rw[hd0,lK xI,List.append_nil,Nat.add_zero] at hr
 refine xt (sq (rT [2,3] (s4 (rt ?_))))
 rw[← hr.1,← hr.2]
 exact eN _ [(0,8)] [] rfl ⟨⟨_,rfl,⟨rfl,rfl,_,_,_,rfl⟩,rfl,trivial⟩,bW rfl rfl trivial⟩ rfl rfl
end Go.Proofs.YtcbjphphppaoiaaGreatDoor
namespace Go.Proofs
open Int renaming toNat_natCast→aU4,tmod→aVg
open List renaming length_append→aU5,length_nil→aU8,length_cons→aU9,getD_eq_getElem?_getD→aVb,length_take→aVc,getElem?_eq_getElem→aVd,getElem?_eq_some_iff→aVe,range→aVh,all_eq_true→aVi,mem_map→aVj,length_drop→aVk,take_length→aVl,mem_cons→aVm,mem_singleton→aVn,mem_iff_getElem?→aVp
open Nat renaming le_of_ble_eq_true→aU6,zero_le→aVa,le_refl→aVf,add_mul→aVo
open Bool renaming and_eq_true→aU7
open Go.Shelf
def Tryz.laysM171_ren:Go.Shelf.Ren:=⟨fun|171=>59|243=>93|246=>113|283=>127|284=>128|285=>129|286=>130|129=>142|317=>141|318=>143|319=>144|320=>145|337=>151|338=>152|n=>n,fun|3=>3|9=>9|2=>2|4=>4|171=>145|0=>0|53=>146|37=>22|5=>5|173=>149|212=>162|51=>163|20=>20|213=>164|46=>160|232=>192|233=>193|n=>n,fun|17=>1|18=>4|19=>5|n=>n⟩
theorem Tryz.laysM171:Go.Proofs.LaysM.n171 Tryz.prog Tryz.laysM171_ren:={
 mixed:=by kernel_rfl
 f129:=Tryz.func142.trans (congrArg some (by kernel_rfl))
 f171:=Tryz.func59.trans (congrArg some (by kernel_rfl))
 f243:=Tryz.func93.trans (congrArg some (by kernel_rfl))
 f246:=Tryz.func113.trans (congrArg some (by kernel_rfl))
 f283:=Tryz.func127.trans (congrArg some (by kernel_rfl))
 f284:=Tryz.func128.trans (congrArg some (by kernel_rfl))
 f285:=Tryz.func129.trans (congrArg some (by kernel_rfl))
 f286:=Tryz.func130.trans (congrArg some (by kernel_rfl))
 f317:=Tryz.func141.trans (congrArg some (by kernel_rfl))
 f318:=Tryz.func143.trans (congrArg some (by kernel_rfl))
 f319:=Tryz.func144.trans (congrArg some (by kernel_rfl))
 f320:=Tryz.func145.trans (congrArg some (by kernel_rfl))
 f337:=Tryz.func151.trans (congrArg some (by kernel_rfl))
 f338:=Tryz.func152.trans (congrArg some (by kernel_rfl))
 t0:=Tryz.underlying0
 a0:=Tryz.isAgg0
 z0:=Tryz.sizeOf0
 v0:=Tryz.zeroValue0
 t2:=Tryz.underlying2
 a2:=Tryz.isAgg2
 z2:=Tryz.sizeOf2
 v2:=Tryz.zeroValue2
 t3:=Tryz.underlying3
 a3:=Tryz.isAgg3
 z3:=Tryz.sizeOf3
 v3:=Tryz.zeroValue3
 t4:=Tryz.underlying4
 a4:=Tryz.isAgg4
 z4:=Tryz.sizeOf4
 v4:=Tryz.zeroValue4
 t5:=Tryz.underlying5
 a5:=Tryz.isAgg5
 z5:=Tryz.sizeOf5
 v5:=Tryz.zeroValue5
 t9:=Tryz.underlying9
 a9:=Tryz.isAgg9
 z9:=Tryz.sizeOf9
 v9:=Tryz.zeroValue9
 t20:=Tryz.underlying20
 a20:=Tryz.isAgg20
 z20:=Tryz.sizeOf20
 v20:=Tryz.zeroValue20
 t37:=Tryz.underlying22
 a37:=Tryz.isAgg22
 z37:=Tryz.sizeOf22
 v37:=Tryz.zeroValue22
 t46:=Tryz.underlying160
 a46:=Tryz.isAgg160
 z46:=Tryz.sizeOf160
 v46:=Tryz.zeroValue160
 t51:=Tryz.underlying163
 a51:=Tryz.isAgg163
 z51:=Tryz.sizeOf163
 v51:=Tryz.zeroValue163
 t53:=Tryz.underlying146
 a53:=Tryz.isAgg146
 z53:=Tryz.sizeOf146
 v53:=Tryz.zeroValue146
 t171:=Tryz.underlying145
 a171:=Tryz.isAgg145
 z171:=Tryz.sizeOf145
 v171:=Tryz.zeroValue145
 t173:=Tryz.underlying149
 a173:=Tryz.isAgg149
 z173:=Tryz.sizeOf149
 v173:=Tryz.zeroValue149
 t212:=Tryz.underlying162
 a212:=Tryz.isAgg162
 z212:=Tryz.sizeOf162
 v212:=Tryz.zeroValue162
 t213:=Tryz.underlying164
 a213:=Tryz.isAgg164
 z213:=Tryz.sizeOf164
 t232:=Tryz.underlying192
 a232:=Tryz.isAgg192
 z232:=Tryz.sizeOf192
 v232:=Tryz.zeroValue192
 t233:=Tryz.underlying193
 a233:=Tryz.isAgg193
 z233:=Tryz.sizeOf193
 v233:=Tryz.zeroValue193
 g17:=by kernel_rfl
 g18:=by kernel_rfl
 g19:=by kernel_rfl
 i0:=by kernel_rfl
 i2:=by kernel_rfl
 i3:=by kernel_rfl
 i4:=by kernel_rfl
 i5:=by kernel_rfl
 i9:=by kernel_rfl
 i20:=by kernel_rfl
 i37:=by kernel_rfl
 i46:=by kernel_rfl
 i51:=by kernel_rfl
 i53:=by kernel_rfl
 i171:=by kernel_rfl
 i173:=by kernel_rfl
 i212:=by kernel_rfl
 i232:=by kernel_rfl
 i233:=by kernel_rfl
 m17:=by kernel_rfl
 m18:=by kernel_rfl
 m19:=by kernel_rfl}
open Go.RowKit Go.Sort Go.Lib in
theorem Tryz.strconv_Itoa (n:Int) (h0: -9223372036854775808≤n) (h1:n≤9223372036854775807) (w:World) (htab:Lib.TabIs Tryz.prog w "internal/strconv.uint64pow10" .u64 Lib.pow10Tab):
 Calls Tryz.prog 59 #[.int .i64 n] w fun e w'=>e= .returned (.string ⟨(Lib.itoa n).toArray⟩)∧ ∃k os,w'=grow (w.drewN k) os:=Any.strconv_Itoa Tryz.laysM171 n h0 h1 w htab
def Tryz.lays145_ren:Go.Shelf.Ren:=⟨fun|145=>78|220=>102|219=>123|217=>136|225=>137|224=>138|267=>139|266=>149|314=>150|n=>n,fun|9=>9|4=>4|59=>103|3=>3|5=>5|46=>160|146=>167|51=>163|n=>n,fun|1=>0|n=>n⟩
theorem Tryz.lays145:Go.Proofs.Lays.n145 Tryz.prog Tryz.lays145_ren:={
 mixed:=by kernel_rfl
 f145:=Tryz.func78.trans (congrArg some (by kernel_rfl))
 f217:=Tryz.func136.trans (congrArg some (by kernel_rfl))
 f219:=Tryz.func123.trans (congrArg some (by kernel_rfl))
 f220:=Tryz.func102.trans (congrArg some (by kernel_rfl))
 f224:=Tryz.func138.trans (congrArg some (by kernel_rfl))
 f225:=Tryz.func137.trans (congrArg some (by kernel_rfl))
 f266:=Tryz.func149.trans (congrArg some (by kernel_rfl))
 f267:=Tryz.func139.trans (congrArg some (by kernel_rfl))
 f314:=Tryz.func150.trans (congrArg some (by kernel_rfl))
 t3:=Tryz.underlying3
 a3:=Tryz.isAgg3
 z3:=Tryz.sizeOf3
 v3:=Tryz.zeroValue3
 t4:=Tryz.underlying4
 a4:=Tryz.isAgg4
 z4:=Tryz.sizeOf4
 v4:=Tryz.zeroValue4
 t5:=Tryz.underlying5
 a5:=Tryz.isAgg5
 z5:=Tryz.sizeOf5
 v5:=Tryz.zeroValue5
 t9:=Tryz.underlying9
 a9:=Tryz.isAgg9
 z9:=Tryz.sizeOf9
 v9:=Tryz.zeroValue9
 t46:=Tryz.underlying160
 a46:=Tryz.isAgg160
 z46:=Tryz.sizeOf160
 v46:=Tryz.zeroValue160
 t51:=Tryz.underlying163
 a51:=Tryz.isAgg163
 z51:=Tryz.sizeOf163
 v51:=Tryz.zeroValue163
 t59:=Tryz.underlying103
 a59:=Tryz.isAgg103
 z59:=Tryz.sizeOf103
 v59:=Tryz.zeroValue103
 t146:=Tryz.underlying167
 a146:=Tryz.isAgg167
 z146:=Tryz.sizeOf167
 v146:=Tryz.zeroValue167
 g1:=by kernel_rfl}
open Go.RowKit Go.Lib in
theorem Tryz.strings_Cut (s sep:ByteArray) (m:Int) (w:World) (hs:s.size<4294967281) (hm:w.cell? ⟨0,0,none⟩=some (.int .i64 m)):
 Calls Tryz.prog 78 #[.string s,.string sep] w fun e w'=>e= .returned (.tuple #[.string ⟨(Lib.cut s.data.toList sep.data.toList).1.toArray⟩,.string ⟨(Lib.cut s.data.toList sep.data.toList).2.1.toArray⟩,.bool (Lib.cut s.data.toList sep.data.toList).2.2])∧ ∃n,w'=w.drewN n:=Any.strings_Cut Tryz.lays145 s sep m w hs hm
def Tryz.lays146_ren:Go.Shelf.Ren:=⟨fun|146=>82|221=>91|268=>110|138=>111|143=>112|195=>124|197=>125|218=>126|219=>123|260=>140|217=>136|225=>137|224=>138|267=>139|266=>149|314=>150|n=>n,fun|9=>9|31=>47|3=>3|4=>4|0=>0|105=>142|21=>21|5=>5|46=>160|119=>169|139=>172|138=>171|146=>167|51=>163|n=>n,fun|1=>0|3=>2|4=>3|n=>n⟩
theorem Tryz.lays146:Go.Proofs.Lays.n146 Tryz.prog Tryz.lays146_ren:={
 mixed:=by kernel_rfl
 f138:=Tryz.func111.trans (congrArg some (by kernel_rfl))
 f143:=Tryz.func112.trans (congrArg some (by kernel_rfl))
 f146:=Tryz.func82.trans (congrArg some (by kernel_rfl))
 f195:=Tryz.func124.trans (congrArg some (by kernel_rfl))
 f197:=Tryz.func125.trans (congrArg some (by kernel_rfl))
 f217:=Tryz.func136.trans (congrArg some (by kernel_rfl))
 f218:=Tryz.func126.trans (congrArg some (by kernel_rfl))
 f219:=Tryz.func123.trans (congrArg some (by kernel_rfl))
 f221:=Tryz.func91.trans (congrArg some (by kernel_rfl))
 f224:=Tryz.func138.trans (congrArg some (by kernel_rfl))
 f225:=Tryz.func137.trans (congrArg some (by kernel_rfl))
 f260:=Tryz.func140.trans (congrArg some (by kernel_rfl))
 f266:=Tryz.func149.trans (congrArg some (by kernel_rfl))
 f267:=Tryz.func139.trans (congrArg some (by kernel_rfl))
 f268:=Tryz.func110.trans (congrArg some (by kernel_rfl))
 f314:=Tryz.func150.trans (congrArg some (by kernel_rfl))
 t0:=Tryz.underlying0
 a0:=Tryz.isAgg0
 z0:=Tryz.sizeOf0
 v0:=Tryz.zeroValue0
 t3:=Tryz.underlying3
 a3:=Tryz.isAgg3
 z3:=Tryz.sizeOf3
 v3:=Tryz.zeroValue3
 t4:=Tryz.underlying4
 a4:=Tryz.isAgg4
 z4:=Tryz.sizeOf4
 v4:=Tryz.zeroValue4
 t5:=Tryz.underlying5
 a5:=Tryz.isAgg5
 z5:=Tryz.sizeOf5
 v5:=Tryz.zeroValue5
 t9:=Tryz.underlying9
 a9:=Tryz.isAgg9
 z9:=Tryz.sizeOf9
 v9:=Tryz.zeroValue9
 t21:=Tryz.underlying21
 a21:=Tryz.isAgg21
 z21:=Tryz.sizeOf21
 v21:=Tryz.zeroValue21
 t31:=Tryz.underlying47
 a31:=Tryz.isAgg47
 z31:=Tryz.sizeOf47
 v31:=Tryz.zeroValue47
 t46:=Tryz.underlying160
 a46:=Tryz.isAgg160
 z46:=Tryz.sizeOf160
 v46:=Tryz.zeroValue160
 t51:=Tryz.underlying163
 a51:=Tryz.isAgg163
 z51:=Tryz.sizeOf163
 v51:=Tryz.zeroValue163
 t105:=Tryz.underlying142
 a105:=Tryz.isAgg142
 z105:=Tryz.sizeOf142
 v105:=Tryz.zeroValue142
 t119:=Tryz.underlying169
 a119:=Tryz.isAgg169
 z119:=Tryz.sizeOf169
 t138:=Tryz.underlying171
 a138:=Tryz.isAgg171
 z138:=Tryz.sizeOf171
 v138:=Tryz.zeroValue171
 t139:=Tryz.underlying172
 a139:=Tryz.isAgg172
 z139:=Tryz.sizeOf172
 v139:=Tryz.zeroValue172
 t146:=Tryz.underlying167
 a146:=Tryz.isAgg167
 z146:=Tryz.sizeOf167
 v146:=Tryz.zeroValue167
 g1:=by kernel_rfl
 g3:=by kernel_rfl
 g4:=by kernel_rfl}
open Go.RowKit Go.Lib in
theorem Tryz.strings_Split (s sep:ByteArray) (m:Int) (w:World) (hs:s.size<4294967281) (hm:w.cell? ⟨0,0,none⟩=some (.int .i64 m)) (h1:1≤sep.size):
 Calls Tryz.prog 82 #[.string s,.string sep] w fun e w'=>
  e= .returned (.slice (some ⟨w.heap.size,0,none⟩) (Lib.countB s sep+1) (Lib.countB s sep+1))∧w'=w.alloc (.cells ((Lib.splitB sep 0 (Lib.countB s sep) s).map Value.string).toArray 9):=Any.strings_Split Tryz.lays146 (by kernel_rfl) s sep m w hs hm h1
def Tryz.lays147_ren:Go.Shelf.Ren:=⟨fun|147=>55|221=>91|268=>110|138=>111|143=>112|195=>124|197=>125|218=>126|219=>123|260=>140|217=>136|225=>137|224=>138|267=>139|266=>149|314=>150|n=>n,fun|9=>9|3=>3|31=>47|4=>4|0=>0|105=>142|21=>21|5=>5|46=>160|119=>169|139=>172|138=>171|146=>167|51=>163|n=>n,fun|1=>0|3=>2|4=>3|n=>n⟩
theorem Tryz.lays147:Go.Proofs.Lays.n147 Tryz.prog Tryz.lays147_ren:={
 mixed:=by kernel_rfl
 f138:=Tryz.func111.trans (congrArg some (by kernel_rfl))
 f143:=Tryz.func112.trans (congrArg some (by kernel_rfl))
 f147:=Tryz.func55.trans (congrArg some (by kernel_rfl))
 f195:=Tryz.func124.trans (congrArg some (by kernel_rfl))
 f197:=Tryz.func125.trans (congrArg some (by kernel_rfl))
 f217:=Tryz.func136.trans (congrArg some (by kernel_rfl))
 f218:=Tryz.func126.trans (congrArg some (by kernel_rfl))
 f219:=Tryz.func123.trans (congrArg some (by kernel_rfl))
 f221:=Tryz.func91.trans (congrArg some (by kernel_rfl))
 f224:=Tryz.func138.trans (congrArg some (by kernel_rfl))
 f225:=Tryz.func137.trans (congrArg some (by kernel_rfl))
 f260:=Tryz.func140.trans (congrArg some (by kernel_rfl))
 f266:=Tryz.func149.trans (congrArg some (by kernel_rfl))
 f267:=Tryz.func139.trans (congrArg some (by kernel_rfl))
 f268:=Tryz.func110.trans (congrArg some (by kernel_rfl))
 f314:=Tryz.func150.trans (congrArg some (by kernel_rfl))
 t0:=Tryz.underlying0
 a0:=Tryz.isAgg0
 z0:=Tryz.sizeOf0
 v0:=Tryz.zeroValue0
 t3:=Tryz.underlying3
 a3:=Tryz.isAgg3
 z3:=Tryz.sizeOf3
 v3:=Tryz.zeroValue3
 t4:=Tryz.underlying4
 a4:=Tryz.isAgg4
 z4:=Tryz.sizeOf4
 v4:=Tryz.zeroValue4
 t5:=Tryz.underlying5
 a5:=Tryz.isAgg5
 z5:=Tryz.sizeOf5
 v5:=Tryz.zeroValue5
 t9:=Tryz.underlying9
 a9:=Tryz.isAgg9
 z9:=Tryz.sizeOf9
 v9:=Tryz.zeroValue9
 t21:=Tryz.underlying21
 a21:=Tryz.isAgg21
 z21:=Tryz.sizeOf21
 v21:=Tryz.zeroValue21
 t31:=Tryz.underlying47
 a31:=Tryz.isAgg47
 z31:=Tryz.sizeOf47
 v31:=Tryz.zeroValue47
 t46:=Tryz.underlying160
 a46:=Tryz.isAgg160
 z46:=Tryz.sizeOf160
 v46:=Tryz.zeroValue160
 t51:=Tryz.underlying163
 a51:=Tryz.isAgg163
 z51:=Tryz.sizeOf163
 v51:=Tryz.zeroValue163
 t105:=Tryz.underlying142
 a105:=Tryz.isAgg142
 z105:=Tryz.sizeOf142
 v105:=Tryz.zeroValue142
 t119:=Tryz.underlying169
 a119:=Tryz.isAgg169
 z119:=Tryz.sizeOf169
 t138:=Tryz.underlying171
 a138:=Tryz.isAgg171
 z138:=Tryz.sizeOf171
 v138:=Tryz.zeroValue171
 t139:=Tryz.underlying172
 a139:=Tryz.isAgg172
 z139:=Tryz.sizeOf172
 v139:=Tryz.zeroValue172
 t146:=Tryz.underlying167
 a146:=Tryz.isAgg167
 z146:=Tryz.sizeOf167
 v146:=Tryz.zeroValue167
 g1:=by kernel_rfl
 g3:=by kernel_rfl
 g4:=by kernel_rfl}
open Go.RowKit Go.Lib in
theorem Tryz.strings_SplitN (s sep:ByteArray) (n:Nat) (m:Int) (w:World) (hs:s.size<4294967281) (hm:w.cell? ⟨0,0,none⟩=some (.int .i64 m)) (h1:1≤sep.size) (hn:1≤n) (hn63:n≤9223372036854775807):
 Calls Tryz.prog 55 #[.string s,.string sep,.int .i64 n] w fun e w'=>
  e= .returned (.slice (some ⟨w.heap.size,0,none⟩) (Lib.splitB sep 0 (min n (s.size+1) - 1) s).length (min n (s.size+1)))∧w'=w.alloc (.cells (Lib.cellsOf (Lib.splitB sep 0 (min n (s.size+1) - 1) s) (min n (s.size+1))) 9):=Any.strings_SplitN Tryz.lays147 (by kernel_rfl) s sep n m w hs hm h1 hn hn63
end Go.Proofs
namespace Go.Proofs.YtcbjphphppaoiaaGreatDoor
open Int renaming toNat_natCast→aU4,tmod→aVg
open List renaming length_append→aU5,length_nil→aU8,length_cons→aU9,getD_eq_getElem?_getD→aVb,length_take→aVc,getElem?_eq_getElem→aVd,getElem?_eq_some_iff→aVe,range→aVh,all_eq_true→aVi,mem_map→aVj,length_drop→aVk,take_length→aVl,mem_cons→aVm,mem_singleton→aVn,mem_iff_getElem?→aVp
open Nat renaming le_of_ble_eq_true→aU6,zero_le→aVa,le_refl→aVf,add_mul→aVo
open Bool renaming and_eq_true→aU7
open Go Go.Ab Go.RowKit
set_option linter.unusedVariables false
set_option linter.unusedSimpArgs false
set_option maxRecDepth 9000
theorem vw (n:Nat) (hn:n≤1000000):Ab.Spec Tryz.prog 59 1 [(.t 0,.v (I n))] [(.t 0,.v (Dv (.s (kC n))))]:=aKm ⟨Tryz.f59,Tryz.func59,by kernel_rfl,by kernel_rfl⟩ n hn fun w ht=>Tryz.strconv_Itoa n (by omega) (by omega) w ht
theorem yi (s:List UInt8) (hs:s.length≤1000000):Sp 78 2 [tD 0 (.s s),tD 1 (.s [32])] [tV 0 (.tup [.c (.d (.s (bA s))),.c (.d (.s (aN s))),.c (.d (.b (fP s)))])]:=by
 refine aNg ⟨Tryz.f78,Tryz.func78,by kernel_rfl,by kernel_rfl⟩ s hs fun w hg=> ?_
 obtain⟨m,hm⟩:=ms hg (g:=0) (by kernel_rfl)
 exact Tryz.strings_Cut ⟨s.toArray⟩ ⟨#[32]⟩ m w (show s.toArray.size<4294967281 by simp;omega) hm
theorem qk (s:List UInt8) (hs:s.length≤1000000):Sp 82 2 [tD 0 (.s s),tD 1 (.s [32])] [tD 0 (.sl (bO (cT s)))]:=by
 refine aHb (e:=9) ⟨Tryz.f82,Tryz.func82,by kernel_rfl,by kernel_rfl⟩ s hs fun w hg=> ?_
 obtain⟨m,hm⟩:=ms hg (g:=0) (by kernel_rfl)
 exact Tryz.strings_Split ⟨s.toArray⟩ ⟨#[32]⟩ m w (show s.toArray.size<4294967281 by simp;omega) hm (show 1≤1 by omega)
theorem nj (s:List UInt8) (hs:s.length≤1000000):Sp 55 3 [tD 0 (.s s),tD 1 (.s [32]),tI 2 5] [tD 0 (.sl (bO (iI 4 s)))]:=by
 refine aD6 (e:=9) ⟨Tryz.f55,Tryz.func55,by kernel_rfl,by kernel_rfl⟩ 4 s hs (by omega) fun w hg=> ?_
 obtain⟨m,hm⟩:=ms hg (g:=0) (by kernel_rfl)
 exact Tryz.strings_SplitN ⟨s.toArray⟩ ⟨#[32]⟩ 5 m w (show s.toArray.size<4294967281 by simp;omega) hm (show 1≤1 by omega) (by omega) (by omega)
theorem aAz (s:List UInt8) (hl:s.length≤140737488355328):Ab.Spec Tryz.prog 79 1 [(.t 0,.v (Dv (.s s)))] [(.t 0,.v (.tup [.c (.d (.i (lC s))),.c (.d (.b (kN s).isSome))]))]:=vv s hl
theorem qv (n:Int) (h:0≤n∧n≤1000000):Sp 59 1 [tI 0 n] [tD 0 (.s (kC n.toNat))]:=by
 obtain⟨m,rfl⟩:=Int.eq_ofNat_of_zero_le h.1
 exact vw m (by omega)
theorem kH (n:Int) (h:0≤n∧n≤1000000):Sp 35 1 [tI 0 n] [tD 0 (.s (kC n.toNat))]:=by
 obtain⟨m,rfl⟩:=Int.eq_ofNat_of_zero_le h.1
 exact tY m (by omega)
theorem zX (l:List (List UInt8)) (hl:l.length≤1000000) (hx: ∀x∈l,x.length≤1000000):Sp 56 1 [tD 0 (.sl (bO l))] [tV 0 (.tup [.c (.d (.sl (cY (kL l)))),.c (.d (.b (hO l)))])]:=by
 refine sb Tryz.func56 rfl (sq (rT [0] (s2 (sq (rT [0,4] (s1 (sq (sq (rT [4,9,10,11] (s3 (bk (SW.nilOwn 4 8 3 1 rfl rfl (SW.loopW (n:=l.length) (fun m q=> ∃i:Nat,m=l.length - i∧i≤l.length∧(∀j,j<i→(kN (l.getD j [])).isSome=true)∧q=[tO 4 8 (i),tD 9 (.sl (bO l)),tI 10 (l.length:Nat),tI 11 (i:Nat),oR 8 3 1 (cY ((l.take (i)).map lC))]) ?_ ?_)))))))))))))
 · refine wq (σ':=[tO 4 8 (0),tD 9 (.sl (bO l)),tI 10 (l.length:Nat),tI 11 (0:Nat),oR 8 3 1 (cY ((l.take (0)).map lC))]) [] [] (⟨0,rfl,aVa _,fun j h=>absurd h (by omega),rfl⟩) ?_
   repeat' apply ai
   all_goals first|exact qx|rfl|(rw[aW];done)|(simp[aW];done)|exact qz
 rintro n s ⟨i,rfl,hi,hk,rfl⟩
 refine sq (rT [4,9,10,11,12] (s1 (sq (cd rfl (fun c12=> ?_) fun c12=> ?_))))
 · have hi2:i<l.length:=by simpa using c12
   have hg:=gZ (l:=l) hi2
   refine sk (sq (bk (sq (rT [4,6,9,10,11] (ai (by rw[aU4,hg];exact⟨⟨by omega,by rw[aW];omega⟩,rfl⟩) (ai (by rw[aU4,hg];exact⟨aU6 rfl,rfl⟩) (s1 (sq (wa [tO 4 8 (i),tD 6 (.s (l.getD i [])),tD 9 (.sl (bO l)),tI 10 (l.length:Nat),tI 11 (i:Nat),oR 8 3 1 (cY ((l.take (i)).map lC))] [] [] ?_ ?_)))))))))
   · repeat' apply ai
     all_goals first|exact qx|(rw[aU4,hg];rfl)|exact qz
   refine rT [4,7,8,9,10,11] (s1 (xp (aAz (l.getD i []) (by have:=hx _ (cW (z:=[]) hi2);omega)) (ai rfl ?_)))
   refine s5 (sq (sq (rT [4,7,9,10,11,21] (s2 (cd rfl (fun c21=> ?_) fun c21=> ?_)))))
   · refine sq (rT [2,3] (s2 (rt ?_)))
     have hno:=aKp hi2 (by simpa using c21)
     exact eN _ [] [] rfl ⟨⟨_,rfl,congrArg D.sl (show cY (kL l)=[] by rw[kL,hno];rfl),congrArg D.b hno.symm,trivial⟩,trivial⟩ rfl rfl
   refine sk (rT [4,9,10,11] (s2 (ai (by exact⟨by simp,aU6 rfl⟩) (ai (by refine⟨rfl,by rw[cF,List.length_map,aVc];omega,by simp,?_⟩;show(_+1)*8≤_;omega) (s1 (rT [4,9,10,11] (s2 ?_)))))))
   have hs: (kN (l.getD i [])).isSome=true:=by simpa using c21
   refine wq [] [] (⟨l.length - (i+1),by omega,i+1,rfl,by omega,fun j h=>by by_cases e:j=i;exact e▸hs;exact hk j (by omega),rfl⟩) ?_
   repeat' apply ai
   all_goals first|exact qx|rfl|(rw[xn hi2];exact nU _ _)|(exact congrArg D.i (by rw[aE (by omega)];omega))|(simp[cF,aVc];omega)|exact qz
 have hi3:i=l.length:=by simp at c12;omega
 refine xt (sq (rT [2,3] (s3 (rt ?_))))
 have hyes:=aHd (hi3▸hk)
 exact eN _ [] [8] rfl ⟨⟨_,rfl,⟨by simp,_,_,_,rfl,by rw[cF,List.length_map,aVc];omega,congrArg D.sl (by rw[kL,if_pos hyes,hi3,aVl])⟩,congrArg D.b hyes.symm,trivial⟩,trivial⟩ rfl rfl
theorem ez (s:List UInt8) (hl:s.length≤1000000):Sp 67 1 [tD 0 (.s s)] [tV 0 (.tup [.c (.d (.s (bA s))),.c (.d (.s (aN s)))])]:=by
 refine sb Tryz.func67 rfl (sq (rT [0] (s2 (sq (sq (rT [0,4] (s1 (bk (SW.loopW (n:=s.length) (fun m q=> ∃i:Nat,m=s.length - i∧i≤s.length∧(∀j,j<i→s.getD j 0≠32)∧q=[tD 0 (.s s),tI 4 (i:Nat)]) ?_ ?_)))))))))
 · exact wq (σ':=[tD 0 (.s s),tI 4 (0:Nat)]) [] [] (⟨0,rfl,aVa _,fun j h=>absurd h (by omega),rfl⟩) qz
 rintro n s ⟨i,rfl,hi,hk,rfl⟩
 refine sq (sq (rT [0,4,8] (s4 (cd rfl (fun c8=> ?_) fun c8=> ?_))))
 · have hi2:i<s.length:=by simpa using c8
   refine sk (sq (bk (sq (rT [0,4,14] (s2 (ai (by exact⟨by omega,by omega⟩) (s1 (cd rfl (fun c14=> ?_) fun c14=> ?_))))))))
   · have h32:s.getD i 0=32:=by
      have h9:=c14
      rw[aU4] at h9
      have h10: ((s.getD i 0).toNat:Int)=32:=by simpa only[beq_iff_eq] using h9
      apply UInt8.toNat_inj.1
      have h6: (32:UInt8).toNat=32:=rfl
      omega
     obtain⟨e1,e2,e3⟩:=aNi hk hi2 h32
     refine sq (rD [2,3] (s2 (ai (by simp[yz,fD,gF];omega) (s3 (ai (by rw[aE (by omega)];simp[yz,fD,gF];omega) (s2 (ai (by kernel_rfl) (rt (bP rfl rfl ?_)))))))))
     rw[e1,e2,aE (by omega)]
     simp[fD,gF]
   refine sk (rT [0,4] (s3 ?_))
   have hs:s.getD i 0≠32:=by
    have h9:=c14
    rw[aU4] at h9
    intro e
    rw[e] at h9
    exact absurd h9 (by decide)
   refine wq [] [] (⟨s.length - (i+1),by omega,i+1,rfl,by omega,fun j h=>by by_cases e:j=i;exact e▸hs;exact hk j (by omega),rfl⟩) ?_
   repeat' apply ai
   all_goals first|exact qx|exact congrArg D.i (aE (by omega))|exact qz
 have hi3:i=s.length:=by simp at c8;omega
 refine xt (sq (rT [2,3] (s3 (rt ?_))))
 obtain⟨e1,e2,e3⟩:=aKo (hi3▸hk)
 refine bP rfl rfl ?_
 rw[e1,e2]
 rfl
theorem fd (s:List UInt8) (n:Nat) (hl:s.length≤1000000) (hn:n≤100):Sp 74 2 [tD 0 (.s s),tI 1 (n:Nat)] [tV 0 (.tup [.c (.d (.sl (cY (eX n s)))),.c (.d (.s (mI n s)))])]:=by
 refine sb Tryz.func74 rfl (sq (rT [0,1] (s2 (sq (rT [0,1,6] (ai (by exact⟨by simp,aU6 rfl⟩) (s1 (sq (sq (rT [0,1,6,7] (s1 (bk (SW.loopW (n:=n) (fun m q=> ∃i:Nat,m=n - i∧i≤n∧q=[tD 0 (.s (mI (i) s)),tI 1 (n:Nat),tO 6 10 (i),tI 7 (i:Nat),oR 10 3 1 (cY (eX (i) s))]) ?_ ?_)))))))))))))
 · refine wq (σ':=[tD 0 (.s (mI (0) s)),tI 1 (n:Nat),tO 6 10 (0),tI 7 (0:Nat),oR 10 3 1 (cY (eX (0) s))]) [] [] (⟨0,rfl,aVa _,rfl⟩) ?_
   repeat' apply ai
   all_goals first|exact qx|rfl|exact qz
 rintro n s ⟨i,rfl,hi,rfl⟩
 refine sq (sq (rT [0,1,6,7,13] (s3 (cd rfl (fun c13=> ?_) fun c13=> ?_))))
 · have hi2:i<n:=by simpa using c13
   have hr:=tp i s
   have hr2:=dj (mI i s)
   refine sk (sq (bk (sq (rT [1,6,7,8,9] (s1 (xp (ez (mI i s) (by omega)) (ai rfl ?_)))))))
   refine s5 (sq (rT [1,6,7,9] (s2 (xp (tZ (bA (mI i s)) (by omega)) (ai rfl ?_)))))
   refine ai (by exact⟨by simp,aU6 rfl⟩) (ai (by refine⟨rfl,by rw[cF,bI],by simp,?_⟩;show(_+1)*8≤_;omega) (s1 (rT [0,1,6,7] (s2 (rT [0,1,6,7] (s3 (wq [] [] (⟨n - (i+1),by omega,i+1,rfl,by omega,rfl⟩) ?_)))))))
   repeat' apply ai
   all_goals first|exact qx|rfl|(rw[aHc];exact nU _ _)|(exact congrArg D.i (by rw[aE (by omega)];omega))|(simp[cF,bI];done)|exact qz
 have hi3:i=n:=by simp at c13;omega
 refine xt (sq (rT [4,5] (s4 (rt ?_))))
 subst hi3
 exact eN _ [] [10] rfl ⟨⟨_,rfl,⟨by simp,_,_,_,rfl,by rw[cF,bI],rfl⟩,rfl,trivial⟩,trivial⟩ rfl rfl
theorem nk (n:aR) (hl:n.text.length≤140737488355328):Sp 58 1 [tV 0 n.V] [tD 0 (.s (gD n))]:=by
 refine sb Tryz.func58 rfl (sq (rT [1] (s2 (sq (sq (rT [1,5] (s1 (xp (sH _ vc) (ai rfl ?_)))))))))
 refine s1 (cd rfl (fun c5=> ?_) fun c5=> ?_)
 · refine sq (rT [2] (s1 (rt (bH rfl (congrArg D.s ?_)))))
   have hno:eD n=false:=by simpa using c5
   rw[gD,hno];rfl
 have hok:eD n=true:=by simpa using c5
 obtain⟨p1,p2,p3,p4,p5⟩:=lW hok
 have q1:=bZ (k:=3) (n:=n.frm.toNat) (by simp;omega)
 have q2:=bZ (k:=3) (n:=n.num.toNat) (by simp;omega)
 have q3:=bZ (k:=3) (n:=n.to.toNat) (by simp;omega)
 have q4:=bZ (k:=3) (n:=n.til.toNat) (by simp;omega)
 refine sk (sq (rD [2] (s2 (xp (qv n.frm (by omega)) (ai rfl ?_)))))
 refine ai (by show _≤9223372036854775807;simp only[aU5,aU9,aU8];omega) (s2 (xp (qv n.num (by omega)) (ai rfl ?_)))
 refine ai (by show _≤9223372036854775807;simp only[aU5,aU9,aU8];omega) (ai (by show _≤9223372036854775807;simp only[aU5,aU9,aU8];omega) (s2 (xp (qv n.to (by omega)) (ai rfl ?_))))
 refine ai (by show _≤9223372036854775807;simp only[aU5,aU9,aU8];omega) (ai (by show _≤9223372036854775807;simp only[aU5,aU9,aU8];omega) (s2 (xp (qv n.til (by omega)) (ai rfl ?_))))
 refine ai (by show _≤9223372036854775807;simp only[aU5,aU9,aU8];omega) (ai (by show _≤9223372036854775807;simp only[aU5,aU9,aU8];omega) (s2 (ai (by show _≤9223372036854775807;simp only[aU5,aU9,aU8];omega) (s1 (ai (by kernel_rfl) (rt (bH rfl (congrArg D.s ?_))))))))
 rw[gD,if_pos hok];rfl
theorem fH (n:aR) (hl:n.text.length≤140737488355328):Sp 14 1 [tV 0 n.V] [tD 0 (.s (gD n))]:=by
 refine sb Tryz.func14 rfl (sq (rT [1] (s2 (sq (sq (rT [1,5] (s1 (xp (wS _ vc) (ai rfl ?_)))))))))
 refine s1 (cd rfl (fun c5=> ?_) fun c5=> ?_)
 · refine sq (rT [2] (s1 (rt (bH rfl (congrArg D.s ?_)))))
   have hno:eD n=false:=by simpa using c5
   rw[gD,hno];rfl
 have hok:eD n=true:=by simpa using c5
 obtain⟨p1,p2,p3,p4,p5⟩:=lW hok
 have q1:=bZ (k:=3) (n:=n.frm.toNat) (by simp;omega)
 have q2:=bZ (k:=3) (n:=n.num.toNat) (by simp;omega)
 have q3:=bZ (k:=3) (n:=n.to.toNat) (by simp;omega)
 have q4:=bZ (k:=3) (n:=n.til.toNat) (by simp;omega)
 refine sk (sq (rD [2] (s2 (xp (kH n.frm (by omega)) (ai rfl ?_)))))
 refine ai (by show _≤9223372036854775807;simp only[aU5,aU9,aU8];omega) (s2 (xp (kH n.num (by omega)) (ai rfl ?_)))
 refine ai (by show _≤9223372036854775807;simp only[aU5,aU9,aU8];omega) (ai (by show _≤9223372036854775807;simp only[aU5,aU9,aU8];omega) (s2 (xp (kH n.to (by omega)) (ai rfl ?_))))
 refine ai (by show _≤9223372036854775807;simp only[aU5,aU9,aU8];omega) (ai (by show _≤9223372036854775807;simp only[aU5,aU9,aU8];omega) (s2 (xp (kH n.til (by omega)) (ai rfl ?_))))
 refine ai (by show _≤9223372036854775807;simp only[aU5,aU9,aU8];omega) (ai (by show _≤9223372036854775807;simp only[aU5,aU9,aU8];omega) (s2 (ai (by show _≤9223372036854775807;simp only[aU5,aU9,aU8];omega) (s1 (ai (by kernel_rfl) (rt (bH rfl (congrArg D.s ?_))))))))
 rw[gD,if_pos hok];rfl
set_option maxHeartbeats 1600000 in
theorem zY (s:List UInt8) (hl:s.length≤1000000):Sp 26 1 [tD 0 (.s s)] [tV 0 (.tup [.agg [.d (.i ((cC s).1).frm),.d (.i ((cC s).1).num),.d (.i ((cC s).1).to),.d (.i ((cC s).1).til),.d (.s ((cC s).1).text)],.c (.d (.b (cC s).2))])]:=by
 refine sb Tryz.func26 rfl (sq (rT [0,2,43,44,45,46] (s2 (sq (rT [0,2,4,43,44,45,46] (s1 (xp (nj s hl) (ai rfl ?_))))))))
 refine s1 (sq (sq (rT [0,2,4,12,43,44,45,46] (s3 (cd rfl (fun c12=> ?_) fun c12=> ?_)))))
 · refine sq (rT [2,3] (s3 (rt (bP rfl rfl ?_))))
   rw[tq (.inl (by simp[aW] at c12;omega))]
   rfl
 have h5: (iI 4 s).length=5:=by simp[aW] at c12;omega
 refine sk (sq (rT [0,2,4,5,6,43,44,45,46] (s1 (ai (by refine⟨?_,jb _⟩;rw[aW,h5];simp[yz,fD,gF]) (xp (zX ((iI 4 s).take 4) (by rw[aVc];omega) (fun x hx=>by have:=ji 4 s x (List.mem_of_mem_take hx);omega)) (ai (by show _=eS 0 [Dv (.sl (List.drop 0 (List.take 4 (bO (iI 4 s)))))];rw[List.drop_zero,aBu];rfl) ?_))))))
 refine s5 (sq (sq (rT [0,2,4,5,21,43,44,45,46] (s2 (cd rfl (fun c21=> ?_) fun c21=> ?_)))))
 · refine sq (rT [2,3] (s3 (rt (bP rfl rfl ?_))))
   rw[tq (.inr (.inl (by simpa using c21)))]
   rfl
 have hok:hO ((iI 4 s).take 4)=true:=by simpa using c21
 refine sk (sq (rD [0,2,7,43,44,45,46] (s1 (ai (by exact jc (l:=kL ((iI 4 s).take 4)) (by omega) (by rw[hP hok,aVc];omega)) (ai (by have:=iD (l:=kL ((iI 4 s).take 4)) (i:=0) (by rw[hP hok,aVc];omega);first|(rw[show((0:Int)).toNat=((0:Nat):Int).toNat from rfl,this];exact⟨aU6 rfl,rfl⟩)) (s1 (ai (by exact jc (l:=kL ((iI 4 s).take 4)) (by omega) (by rw[hP hok,aVc];omega)) (ai (by have:=iD (l:=kL ((iI 4 s).take 4)) (i:=1) (by rw[hP hok,aVc];omega);first|(rw[show((1:Int)).toNat=((1:Nat):Int).toNat from rfl,this];exact⟨aU6 rfl,rfl⟩)) (s1 (ai (by exact jc (l:=kL ((iI 4 s).take 4)) (by omega) (by rw[hP hok,aVc];omega)) (ai (by have:=iD (l:=kL ((iI 4 s).take 4)) (i:=2) (by rw[hP hok,aVc];omega);first|(rw[show((2:Int)).toNat=((2:Nat):Int).toNat from rfl,this];exact⟨aU6 rfl,rfl⟩)) (s1 (ai (by exact jc (l:=kL ((iI 4 s).take 4)) (by omega) (by rw[hP hok,aVc];omega)) (ai (by have:=iD (l:=kL ((iI 4 s).take 4)) (i:=3) (by rw[hP hok,aVc];omega);first|(rw[show((3:Int)).toNat=((3:Nat):Int).toNat from rfl,this];exact⟨aU6 rfl,rfl⟩)) (s1 (ai (by exact ixS (l:=iI 4 s) (by omega) (by omega)) (ai (by exact ldS (l:=iI 4 s) (by omega) (by omega)) (s3 (ai (by kernel_rfl) (sq (sq (SW.wk (J:=fun q=>q=[tD 0 (.s s),tP 2 2,tP 7 7,oB 2 29 [.d (.i 0),.d (.i 0),.d (.i 0),.d (.i 0),.d (.s [])],oB 7 29 [.d (.i (oM s).frm),.d (.i (oM s).num),.d (.i (oM s).to),.d (.i (oM s).til),.d (.s (oM s).text)]]) ?_ ?_))))))))))))))))))))))
 · refine wq [] [] (rfl) ?_
   repeat' apply ai
   all_goals first|exact qx|exact congrArg D.i (aBv hok h5 (i:=0) (by omega))|exact congrArg D.i (aBv hok h5 (i:=1) (by omega))|exact congrArg D.i (aBv hok h5 (i:=2) (by omega))|exact congrArg D.i (aBv hok h5 (i:=3) (by omega))|exact congrArg D.s (aPo (l:=iI 4 s) (j:=4) (by omega) (by omega))|exact qz
 rintro q rfl
 refine rT [2,7,47] (s1 (xp (sH (oM s) (by have:=ji 4 s _ (cW (z:=[]) (show 4< (iI 4 s).length by omega));show((iI 4 s).getD 4 []).length≤_;omega)) (ai rfl ?_)))
 refine s2 (y1 (xc (fun h=>(nk (oM s) (by have:=ji 4 s _ (cW (z:=[]) (show 4< (iI 4 s).length by omega));show((iI 4 s).getD 4 []).length≤_;omega))) (ai rfl (ai rk ?_))))
 refine y2 (ai pk (cd rfl (fun c47=> ?_) fun c47=> ?_))
 · refine sq (rT [2,3] (s3 (rt (bP rfl rfl ?_))))
   rw[tq (.inr (.inr (by cases h:eD (oM s) with|false=>exact .inl rfl|true=>rw[h] at c47;exact .inr (by simpa using c47))))]
   rfl
 refine sk (sq (rT [2,3] (s3 (rt ?_))))
 have h6:eD (oM s)=true∧gD (oM s)=s:=by simpa using c47
 refine bP rfl rfl ?_
 rw[aKq h5 hok h6.1 h6.2]
 rfl
set_option maxHeartbeats 1600000 in
theorem tE (s:List UInt8) (hl:s.length≤1000000):Sp 70 1 [tD 0 (.s s)] [tV 0 (.tup [.agg [.d (.i ((cC s).1).frm),.d (.i ((cC s).1).num),.d (.i ((cC s).1).to),.d (.i ((cC s).1).til),.d (.s ((cC s).1).text)],.c (.d (.b (cC s).2))])]:=by
 refine sb Tryz.func70 rfl (sq (rT [0,2,29,30,31,32] (s2 (sq (rT [0,2,4,5,29,30,31,32] (s1 (xp (fd s 4 hl (by omega)) (ai rfl ?_))))))))
 refine s5 (sq (rD [0,2,6,29,30,31,32] (s1 (ai (by exact jc (l:=eX 4 s) (by omega) (by rw[bI];omega)) (ai (by have:=iD (l:=eX 4 s) (i:=0) (by rw[bI];omega);first|(rw[show((0:Int)).toNat=((0:Nat):Int).toNat from rfl,this];exact⟨aU6 rfl,rfl⟩)) (s1 (ai (by exact jc (l:=eX 4 s) (by omega) (by rw[bI];omega)) (ai (by have:=iD (l:=eX 4 s) (i:=1) (by rw[bI];omega);first|(rw[show((1:Int)).toNat=((1:Nat):Int).toNat from rfl,this];exact⟨aU6 rfl,rfl⟩)) (s1 (ai (by exact jc (l:=eX 4 s) (by omega) (by rw[bI];omega)) (ai (by have:=iD (l:=eX 4 s) (i:=2) (by rw[bI];omega);first|(rw[show((2:Int)).toNat=((2:Nat):Int).toNat from rfl,this];exact⟨aU6 rfl,rfl⟩)) (s1 (ai (by exact jc (l:=eX 4 s) (by omega) (by rw[bI];omega)) (ai (by have:=iD (l:=eX 4 s) (i:=3) (by rw[bI];omega);first|(rw[show((3:Int)).toNat=((3:Nat):Int).toNat from rfl,this];exact⟨aU6 rfl,rfl⟩)) (s4 (ai (by kernel_rfl) (sq (sq (SW.wk (J:=fun q=>q=[tD 0 (.s s),tP 2 2,tP 6 6,oB 2 29 [.d (.i 0),.d (.i 0),.d (.i 0),.d (.i 0),.d (.s [])],oB 6 29 [.d (.i (bj s).frm),.d (.i (bj s).num),.d (.i (bj s).to),.d (.i (bj s).til),.d (.s (bj s).text)]]) ?_ ?_)))))))))))))))))))
 · refine wq [] [] (rfl) ?_
   repeat' apply ai
   all_goals first|exact qx|exact congrArg D.i (qr (i:=0) (by omega))|exact congrArg D.i (qr (i:=1) (by omega))|exact congrArg D.i (qr (i:=2) (by omega))|exact congrArg D.i (qr (i:=3) (by omega))|rfl|exact qz
 rintro q rfl
 refine rT [2,6,33] (s3 (y1 (xc (fun h=>(fH (bj s) (by have:=tp 4 s;show(mI 4 s).length≤_;omega))) (ai rfl (ai rk ?_)))))
 refine y2 (ai pk (cd rfl (fun c33=> ?_) fun c33=> ?_))
 · refine sq (rT [2,3] (s3 (rt (bP rfl rfl ?_))))
   have hno:cC s=(.zero,false):=by
    rw[cC,if_pos]
    by_cases h:s=[]
    · exact .inl h
    · rw[show(s==[])=false by simpa using h] at c33;exact .inr (by simpa using c33)
   rw[hno]
   rfl
 refine sk (sq (rT [2,3] (s3 (rt (bP rfl rfl ?_)))))
 have hyes:cC s=(bj s,true):=by
  rw[cC,if_neg]
  rintro(h|h)
  · subst h;simp at c33
  · by_cases h2:s=[]
    · subst h2;simp at c33
    · rw[show(s==[])=false by simpa using h2] at c33;exact h (by simpa using c33)
 rw[hyes]
 rfl
theorem cj (l:List aR) (hl:l.length≤1000000):Sp 84 1 [tD 0 (.sl (aD l))] [tD 0 (.sl (aD l))]:=by
 refine sb Tryz.func84 rfl (sq (rT [0] (s1 (sq (sq (rT [0,6] (s3 (cd rfl (fun c6=> ?_) fun c6=> ?_))))))))
 · refine sq (rT [2] (s1 (rt (eN _ [] [] rfl (aDp rfl (congrArg D.sl ?_) trivial) rfl rfl))))
   simp[aA] at c6;simp[c6,aD]
 refine sk (sq (rT [0,3] (s2 (ai (by refine⟨rfl,by omega,?_⟩;rw[aA];show((48:Nat):Int)*_≤_;omega) (s1 (sq (rT [3] (s2 (ai (by refine⟨trivial,by simp,eR l⟩) (sq (rT [2] (s2 (rt (eN _ [] [9] rfl (gE rfl rfl rfl ?_ (congrArg D.sl ?_) trivial) rfl rfl))))))))))))))
 · simp
 simp
theorem vz (l:List bQ) (hl:l.length≤1000000):Sp 85 1 [tD 0 (.sl (aJ l))] [tD 0 (.sl (aJ l))]:=by
 refine sb Tryz.func85 rfl (sq (rT [0] (s1 (sq (sq (rT [0,6] (s3 (cd rfl (fun c6=> ?_) fun c6=> ?_))))))))
 · refine sq (rT [2] (s1 (rt (eN _ [] [] rfl (aDp rfl (congrArg D.sl ?_) trivial) rfl rfl))))
   simp[aB] at c6;simp[c6,aJ]
 refine sk (sq (rT [0,3] (s2 (ai (by refine⟨rfl,by omega,?_⟩;rw[aB];show((24:Nat):Int)*_≤_;omega) (s1 (sq (rT [3] (s2 (ai (by refine⟨trivial,by simp,iC l⟩) (sq (rT [2] (s2 (rt (eN _ [] [9] rfl (gE rfl rfl rfl ?_ (congrArg D.sl ?_) trivial) rfl rfl))))))))))))))
 · simp
 simp
theorem tF (k:aL) (hb:k.held.length≤1000000∧k.marks.length≤1000000∧k.inbox.length≤1000000):Sp 39 1 [tV 0 k.V] [tV 0 k.V]:=by
 refine sb Tryz.func39 rfl (sq (rT [1,2] (s2 (sq (rT [1,2,3] (s3 (sq (rT [1,2,3] (s2 (xp (cj k.held hb.1) (ai rfl ?_)))))))))))
 refine s2 (sq (rT [1,2,3] (s2 (xp (vz k.marks hb.2.1) (ai rfl ?_)))))
 refine s2 (sq (rT [2,3] (s2 (xp (cj k.inbox hb.2.2) (ai rfl ?_)))))
 exact s2 (sq (rT [2] (s2 (rt (bP rfl rfl rfl)))))
theorem qJ (k:aL) (hb:k.held.length≤1000000∧k.marks.length≤1000000∧k.inbox.length≤1000000):Sp 37 1 [tV 0 k.V] [tV 0 k.V]:=by
 refine sb Tryz.func37 rfl (sq (rT [1,2] (s2 (sq (rT [1,2] (ai (by simp) (s2 (ai (by refine⟨trivial,rfl,?_,?_⟩<;>first|exact eR _|exact iC _|(simp only[aA,aB,aU8,Nat.zero_add];show _*48≤_;omega)) (s2 (sq (rT [1,2] (ai (by simp) (s2 (ai (by refine⟨trivial,rfl,?_,?_⟩<;>first|exact eR _|exact iC _|(simp only[aA,aB,aU8,Nat.zero_add];show _*24≤_;omega)) (s2 (sq (rT [1,2] (ai (by simp) (s2 (ai (by refine⟨trivial,rfl,?_,?_⟩<;>first|exact eR _|exact iC _|(simp only[aA,aB,aU8,Nat.zero_add];show _*48≤_;omega)) (s2 (sq (rT [2] (s2 (rt (rq [] [3,8,13] rfl ?_))))))))))))))))))))))))))
 repeat' apply ai
 all_goals try exact qx
 all_goals(first|with_reducible rfl|(simp;done))
set_option maxHeartbeats 800000 in
theorem sJ (l:List aR) (n:aR) (hl:l.length≤100000):Sp 106 2 [tD 0 (.sl (aD l)),tV 1 n.V] [tD 0 (.sl (aD (eY l n)))]:=by
 refine sb Tryz.func106 rfl (sq (rT [0,3,11,12,13,14,15,16,17,18,19,20,21,22,23,24,25] (s2 (sq (rT [0,3,5,11,12,13,14,15,16,17,18,19,20,21,22,23,24,25] (s1 (sq (bk (SW.loopW (n:=l.length) (fun m q=> ∃i:Nat,m=l.length - i∧i≤l.length∧(∀j,j<i→bY (l.getD j .zero).frm (l.getD j .zero).num n.frm n.num=true)∧q=[tD 0 (.sl (aD l)),tP 3 3,tI 5 (i:Nat),oB 3 29 [.d (.i (n).frm),.d (.i (n).num),.d (.i (n).to),.d (.i (n).til),.d (.s (n).text)]]) ?_ ?_)))))))))
 · exact wq (σ':=[tD 0 (.sl (aD l)),tP 3 3,tI 5 (0:Nat),oB 3 29 [.d (.i (n).frm),.d (.i (n).num),.d (.i (n).to),.d (.i (n).til),.d (.s (n).text)]]) [] [] (⟨0,rfl,aVa _,fun j h=>absurd h (by omega),rfl⟩) qz
 rintro n s ⟨i,rfl,hi,hk,rfl⟩
 refine sq (sq (rD [0,3,5,11,12,13,14,15,16,17,18,19,20,21,22,23,24,25,26] (s5 (y2 (ai (fun h=>(by have h8:=h;simp[gb,aA] at h8;have h9:i<l.length:=(by omega);rw[aU4,aQ h9];exact⟨⟨by omega,by rw[aA];omega⟩,rfl⟩)) (ai rk (y1 (ai (fun h=>(by have h8:=h;simp[gb,aA] at h8;have h9:i<l.length:=(by omega);rw[aU4,aQ h9];exact⟨aU6 rfl,rfl⟩)) (ai rk (y2 (ai (fun h=>(by have h8:=h;simp[gb,aA] at h8;have h9:i<l.length:=(by omega);rw[aU4,aQ h9];exact⟨⟨by omega,by rw[aA];omega⟩,rfl⟩)) (ai rk (y1 (ai (fun h=>(by have h8:=h;simp[gb,aA] at h8;have h9:i<l.length:=(by omega);rw[aU4,aQ h9];exact⟨aU6 rfl,rfl⟩)) (ai rk (y4 (xc (fun h=>(sG _ _ _ _)) (ai rfl (ai rk ?_)))))))))))))))))))
 refine ai pk (ai (by kernel_rfl) (cd rfl (fun c26=> ?_) fun c26=> ?_))
 · have h9:=c26
   simp only[aU7,decide_eq_true_eq,aA] at h9
   have hi2:i<l.length:=by omega
   have hb:bY (l.getD i .zero).frm (l.getD i .zero).num n.frm n.num=true:=by
    have h10:=h9.2
    rw[aU4,aQ hi2] at h10
    exact h10
   refine sk (bk (rT [0,3,5,11,12,13,14,15,16,17,18,19,20,21,22,23,24,25] (s3 (wq [] [] (⟨l.length - (i+1),by omega,i+1,rfl,by omega,fun j h=>by by_cases e:j=i;exact e▸hb;exact hk j (by omega),rfl⟩) ?_))))
   repeat' apply ai
   all_goals first|exact qx|exact congrArg D.i (aE (by omega))|exact qz
 have hend:i=l.length∨bY (l.getD i .zero).frm (l.getD i .zero).num n.frm n.num=false:=by
  by_cases h:i<l.length
  · right
    have h9:=c26
    rw[decide_eq_true (show((i:Nat):Int)< ((aD l).length:Int) by rw[aA];omega),Bool.true_and,aU4,aQ h] at h9
    exact h9
  · left;omega
 have hins:eY l n=_:=aJa (z:=aR.zero) (p:=fun x=>bY x.frm x.num n.frm n.num) (n:=n) hi hk hend
 refine xt (sq (rD [4] (ai (by simp) (s2 (ai (by exact⟨by rw[aA];exact⟨by first|(simp;done)|(simp;omega),by first|(simp;done)|(simp;omega),by first|(simp;done)|(simp;omega)⟩,eR _⟩) (ai (by exact⟨by first|trivial|rfl|(simp;done),by first|rfl|(simp[aA];done),by first|exact jR l _ _|(simp;done),by(try simp only[aU5,aU9,aU8,aVc,aVk,aA,jD,jE,jF,jG]);show _*48≤_;omega⟩) (s1 (ai (by exact⟨by simp,aU6 rfl⟩) (ai (by exact⟨by first|trivial|rfl|(simp;done),by first|rfl|(simp[aA];done),by first|exact jR l _ _|(simp;done),by(try simp only[aU5,aU9,aU8,aVc,aVk,aA,jD,jE,jF,jG]);show _*48≤_;omega⟩) (s2 (ai (by exact⟨by rw[aA];exact⟨by first|(simp;done)|(simp;omega),by first|(simp;done)|(simp;omega),by first|(simp;done)|(simp;omega)⟩,eR _⟩) (ai (by exact⟨by first|trivial|rfl|(simp;done),by first|rfl|(simp[aA];done),by first|exact jR l _ _|(simp;done),by(try simp only[aU5,aU9,aU8,aVc,aVk,aA,jD,jE,jF,jG]);show _*48≤_;omega⟩) (s1 (ai (by kernel_rfl) (rt (eN _ [] [29] rfl (gE rfl rfl rfl ?_ (congrArg D.sl ?_) trivial) rfl rfl))))))))))))))))
 · rfl
 rw[hins,uZ,gg];simp[aD,List.map_take,List.map_drop,aR.row]
theorem ck (l:List aR) (a:Int) (ha:0≤a∧a<l.length) (hl:l.length≤100000):Sp 107 2 [tD 0 (.sl (aD l)),tI 1 a] [tD 0 (.sl (aD (dN l a.toNat)))]:=by
 obtain⟨i,rfl⟩:=Int.eq_ofNat_of_zero_le ha.1
 have hw:wrap64 ((i:Int)+1)=((i+1:Nat):Int):=by rw[aE (by omega)];omega
 refine sb Tryz.func107 rfl (sq (rT [0,1] (s1 (sq (rD [4] (ai (by simp) (s2 (ai (by exact⟨by rw[aA];exact⟨by first|(simp;done)|(simp;omega),by first|(simp;done)|(simp;omega),by first|(simp;done)|(simp;omega)⟩,eR _⟩) (ai (by exact⟨by first|trivial|rfl|(simp;done),by first|rfl|(simp[aA];done),by first|exact jR l _ _|(simp;done),by(try simp only[aU5,aU9,aU8,aVc,aVk,aA,jD,jE,jF,jG]);show _*48≤_;omega⟩) (s3 (ai (by rw[hw];exact⟨by rw[aA];exact⟨by first|(simp;done)|(simp;omega),by first|(simp;done)|(simp;omega),by first|(simp;done)|(simp;omega)⟩,eR _⟩) (ai (by exact⟨by first|trivial|rfl|(simp;done),by first|rfl|(simp[aA];done),by first|exact jR l _ _|(simp;done),by(try simp only[hw]);(try simp only[aU5,aU9,aU8,aVc,aVk,aA,jD,jE,jF,jG]);show _*48≤_;omega⟩) (s1 (ai (by kernel_rfl) (rt (eN _ [] [5] rfl (gE rfl rfl rfl ?_ (congrArg D.sl ?_) trivial) rfl rfl))))))))))))))))
 · rfl
 rw[hw,uZ,gg];simp[aD,dN,List.map_take,List.map_drop]
theorem zK {l:List aR} {i:Nat} {n:aR}: (aD (midW (fun x:aR=>bY n.frm n.num x.frm x.num) n (l.take i))).length≤l.length+1:=by
 rw[aA,midW]
 split
 · rw[eQ,aVc];omega
 rw[aVc];omega
set_option maxHeartbeats 800000 in
theorem mZ (l:List aR) (n:aR) (hl:l.length≤100000):Sp 73 2 [tD 0 (.sl (aD l)),tV 1 n.V] [tD 0 (.sl (aD (jQ l n)))]:=by
 refine sb Tryz.func73 rfl (sq (rT [0,3,18,19,20,21,22,23,24,25,26,27,28,29,30,31,32] (s2 (sq (rT [0,3,5,18,19,20,21,22,23,24,25,26,27,28,29,30,31,32] (ai (by simp) (s1 (sq (rT [0,3,5,6,18,19,20,21,22,23,24,25,26,27,28,29,30,31,32] (s1 (sq (sq (rT [0,3,5,6,7,18,19,20,21,22,23,24,25,26,27,28,29,30,31,32] (s1 (bk (SW.loopW (n:=l.length) (fun m q=> ∃i:Nat,m=l.length - i∧i≤l.length∧q=[tD 0 (.sl (aD l)),tP 3 3,tO 5 8 (aD (midW (fun x:aR=>bY n.frm n.num x.frm x.num) n (l.take i))).length,tB 6 ((l.take i).any (fun x:aR=>bY n.frm n.num x.frm x.num)),tI 7 (i:Nat),oB 3 29 [.d (.i (n).frm),.d (.i (n).num),.d (.i (n).to),.d (.i (n).til),.d (.s (n).text)],oR 8 29 5 (aD (midW (fun x:aR=>bY n.frm n.num x.frm x.num) n (l.take i)))]) ?_ ?_))))))))))))))))
 · refine wq (σ':=[tD 0 (.sl (aD l)),tP 3 3,tO 5 8 (aD (midW (fun x:aR=>bY n.frm n.num x.frm x.num) n (l.take 0))).length,tB 6 ((l.take 0).any (fun x:aR=>bY n.frm n.num x.frm x.num)),tI 7 (0:Nat),oB 3 29 [.d (.i (n).frm),.d (.i (n).num),.d (.i (n).to),.d (.i (n).til),.d (.s (n).text)],oR 8 29 5 (aD (midW (fun x:aR=>bY n.frm n.num x.frm x.num) n (l.take 0)))]) [] [] (⟨0,rfl,aVa _,rfl⟩) ?_
   repeat' apply ai
   all_goals first|exact qx|rfl|(simp[midW];done)|exact qz
 rintro n s ⟨i,rfl,hi,rfl⟩
 refine sq (sq (rT [0,3,5,6,7,12,18,19,20,21,22,23,24,25,26,27,28,29,30,31,32] (s4 (cd rfl (fun c12=> ?_) fun c12=> ?_))))
 · have hi2:i<l.length:=by simpa[aA] using c12
   have hg:=aQ (l:=l) hi2
   refine sk (sq (bk (sq (sq (rD [0,3,5,6,7,18,19,20,21,22,23,24,25,26,27,28,29,30,31,32,33] (s3 (y4 (y2 (ai (fun h=>(by have h9:=hi2;rw[aU4,aQ h9];exact⟨⟨by omega,by rw[aA];omega⟩,rfl⟩)) (ai rk (y1 (ai (fun h=>(by have h9:=hi2;rw[aU4,aQ h9];exact⟨aU6 rfl,rfl⟩)) (ai rk (y2 (ai (fun h=>(by have h9:=hi2;rw[aU4,aQ h9];exact⟨⟨by omega,by rw[aA];omega⟩,rfl⟩)) (ai rk (y1 (ai (fun h=>(by have h9:=hi2;rw[aU4,aQ h9];exact⟨aU6 rfl,rfl⟩)) (ai rk (xc (fun h=>(qI _ _ _ _)) (ai rfl (ai rk ?_))))))))))))))))))))))
   refine ai pk (ai (by kernel_rfl) (cd rfl (fun c33=> ?_) fun c33=> ?_))
   · have h9:=c33
     rw[aU4,hg] at h9
     rw[aU7] at h9
     have hq: (l.take i).any (fun x:aR=>bY n.frm n.num x.frm x.num)=false∧bY n.frm n.num (l.getD i .zero).frm (l.getD i .zero).num=true:=⟨by simpa only[Bool.not_eq_true'] using h9.1,h9.2⟩
     have hm:=aEa (q:=(fun x:aR=>bY n.frm n.num x.frm x.num)) (n:=n) (x:=l.getD i .zero) hq.1 hq.2
     rw[← fQ hi2] at hm
     have ha: (l.take (i+1)).any (fun x:aR=>bY n.frm n.num x.frm x.num)=true:=by rw[fQ (z:=aR.zero) hi2,jl,hq.1];exact hq.2
     refine sq (rT [0,3,5,7,18,19,20,21,22,23,24,25,26,27,28,29,30,31,32] (s2 (ai (by exact⟨by simp,aU6 rfl⟩) (ai (by exact⟨by first|trivial|rfl|(simp;done),by first|rfl|(simp;done),by first|(simp;done)|(intro r hr;rw[aVn.1 hr];rfl),by(try simp only[aU5,aU9,aU8]);have hm:=zK (l:=l) (i:=i) (n:=n);show _*48≤_;omega⟩) (s1 (rT [0,3,5,6,7,18,19,20,21,22,23,24,25,26,27,28,29,30,31,32] (s1 (rT [0,3,5,6,7,18,19,20,21,22,23,24,25,26,27,28,29,30,31,32] (s3 (ai (by have h9:=hi2;rw[aU4,aQ h9];exact⟨⟨by omega,by rw[aA];omega⟩,rfl⟩) (ai (by have h9:=hi2;rw[aU4,aQ h9];exact⟨aU6 rfl,rfl⟩) (ai (by exact⟨by simp,aU6 rfl⟩) (ai (by exact⟨by first|trivial|rfl|(simp;done),by first|rfl|(simp;done),by first|(simp;done)|(intro r hr;rw[aVn.1 hr];rfl),by(try simp only[aU5,aU9,aU8]);have hm:=zK (l:=l) (i:=i) (n:=n);show _*48≤_;omega⟩) (s1 (rT [0,3,5,6,7,18,19,20,21,22,23,24,25,26,27,28,29,30,31,32] (s3 (wq [] [] (⟨l.length - (i+1),by omega,i+1,rfl,by omega,rfl⟩) ?_)))))))))))))))))
     repeat' apply ai
     all_goals first|exact qx|exact congrArg D.i (by rw[aE (by omega)];omega)|(rw[ha];done)|exact congrArg D.b ha.symm|(rw[hm];simp[aD,aU4];done)|(rw[hm,aU4,hg];simp only[aD,List.map_append,List.map_cons,List.map_nil];rfl)|exact qz
   have h9:=c33
   rw[aU4,hg] at h9
   have hq: (l.take i).any (fun x:aR=>bY n.frm n.num x.frm x.num)=true∨bY n.frm n.num (l.getD i .zero).frm (l.getD i .zero).num=false:=by
    cases h: (l.take i).any (fun x:aR=>bY n.frm n.num x.frm x.num) with
    |true=>exact .inl rfl
    |false=>rw[h] at h9;exact .inr h9
   have hm:=aJb (q:=(fun x:aR=>bY n.frm n.num x.frm x.num)) (n:=n) (x:=l.getD i .zero) hq
   rw[← fQ hi2] at hm
   have ha: (l.take (i+1)).any (fun x:aR=>bY n.frm n.num x.frm x.num)=(l.take i).any (fun x:aR=>bY n.frm n.num x.frm x.num):=by
    rw[fQ (z:=aR.zero) hi2,jl]
    rcases hq with h|h
    · rw[h];rfl
    · show((l.take i).any (fun x:aR=>bY n.frm n.num x.frm x.num)||(bY n.frm n.num (l.getD i .zero).frm (l.getD i .zero).num))=_
      rw[h,Bool.or_false]
   refine sk (rT [0,3,5,6,7,18,19,20,21,22,23,24,25,26,27,28,29,30,31,32] (s3 (ai (by have h9:=hi2;rw[aU4,aQ h9];exact⟨⟨by omega,by rw[aA];omega⟩,rfl⟩) (ai (by have h9:=hi2;rw[aU4,aQ h9];exact⟨aU6 rfl,rfl⟩) (ai (by exact⟨by simp,aU6 rfl⟩) (ai (by exact⟨by first|trivial|rfl|(simp;done),by first|rfl|(simp;done),by first|(simp;done)|(intro r hr;rw[aVn.1 hr];rfl),by(try simp only[aU5,aU9,aU8]);have hm:=zK (l:=l) (i:=i) (n:=n);show _*48≤_;omega⟩) (s1 (rT [0,3,5,6,7,18,19,20,21,22,23,24,25,26,27,28,29,30,31,32] (s3 (wq [] [] (⟨l.length - (i+1),by omega,i+1,rfl,by omega,rfl⟩) ?_))))))))))
   repeat' apply ai
   all_goals first|exact qx|exact congrArg D.i (by rw[aE (by omega)];omega)|(rw[ha];done)|exact congrArg D.b ha.symm|(rw[hm];simp[aD,aU4];done)|(rw[hm,aU4,hg];simp only[aD,List.map_append,List.map_cons,List.map_nil];rfl)|exact qz
 have hi3:i=l.length:=by simp[aA] at c12;omega
 subst hi3
 refine xt (sq (sq (rT [3,5,46] (s2 (cd rfl (fun c46=> ?_) fun c46=> ?_)))))
 · have he: (l.take l.length).any (fun x:aR=>bY n.frm n.num x.frm x.num)=false:=by simpa using c46
   refine rT [5] (s2 (ai (by exact⟨by simp,aU6 rfl⟩) (ai (by exact⟨by first|trivial|rfl|(simp;done),by first|rfl|(simp;done),by first|(simp;done)|(intro r hr;rw[aVn.1 hr];rfl),by(try simp only[aU5,aU9,aU8]);have hm:=zK (l:=l) (i:=l.length) (n:=n);show _*48≤_;omega⟩) (s1 (sq (rT [4] (s2 (rt (eN _ [] [8] rfl (gE rfl rfl rfl ?_ (congrArg D.sl ?_) trivial) rfl rfl)))))))))
   · rfl
   rw[aVl] at he ⊢; rw[yP,jm,he];simp[aD,aR.row]
 have he: (l.take l.length).any (fun x:aR=>bY n.frm n.num x.frm x.num)=true:=by simpa using c46
 refine sk (sq (rT [4] (s2 (rt (eN _ [] [8] rfl (gE rfl rfl rfl ?_ (congrArg D.sl ?_) trivial) rfl rfl)))))
 · rfl
 rw[aVl] at he ⊢; rw[yP,jm,he];simp[aD,aR.row]
set_option maxHeartbeats 800000 in
theorem wU (l:List bQ) (n:bQ) (hl:l.length≤100000):Sp 108 2 [tD 0 (.sl (aJ l)),tV 1 n.V] [tD 0 (.sl (aJ (dQ l n)))]:=by
 refine sb Tryz.func108 rfl (sq (rT [0,3,11,12,13,14,15,16,17,18,19,20,21,22,23,24,25] (s2 (sq (rT [0,3,5,11,12,13,14,15,16,17,18,19,20,21,22,23,24,25] (s1 (sq (bk (SW.loopW (n:=l.length) (fun m q=> ∃i:Nat,m=l.length - i∧i≤l.length∧(∀j,j<i→bY (l.getD j .zero).frm (l.getD j .zero).num n.frm n.num=true)∧q=[tD 0 (.sl (aJ l)),tP 3 3,tI 5 (i:Nat),oB 3 39 [.d (.i (n).frm),.d (.i (n).num),.d (.i (n).til)]]) ?_ ?_)))))))))
 · exact wq (σ':=[tD 0 (.sl (aJ l)),tP 3 3,tI 5 (0:Nat),oB 3 39 [.d (.i (n).frm),.d (.i (n).num),.d (.i (n).til)]]) [] [] (⟨0,rfl,aVa _,fun j h=>absurd h (by omega),rfl⟩) qz
 rintro n s ⟨i,rfl,hi,hk,rfl⟩
 refine sq (sq (rD [0,3,5,11,12,13,14,15,16,17,18,19,20,21,22,23,24,25,26] (s5 (y2 (ai (fun h=>(by have h8:=h;simp[gb,aB] at h8;have h9:i<l.length:=(by omega);rw[aU4,bM h9];exact⟨⟨by omega,by rw[aB];omega⟩,rfl⟩)) (ai rk (y1 (ai (fun h=>(by have h8:=h;simp[gb,aB] at h8;have h9:i<l.length:=(by omega);rw[aU4,bM h9];exact⟨aU6 rfl,rfl⟩)) (ai rk (y2 (ai (fun h=>(by have h8:=h;simp[gb,aB] at h8;have h9:i<l.length:=(by omega);rw[aU4,bM h9];exact⟨⟨by omega,by rw[aB];omega⟩,rfl⟩)) (ai rk (y1 (ai (fun h=>(by have h8:=h;simp[gb,aB] at h8;have h9:i<l.length:=(by omega);rw[aU4,bM h9];exact⟨aU6 rfl,rfl⟩)) (ai rk (y4 (xc (fun h=>(sG _ _ _ _)) (ai rfl (ai rk ?_)))))))))))))))))))
 refine ai pk (ai (by kernel_rfl) (cd rfl (fun c26=> ?_) fun c26=> ?_))
 · have h9:=c26
   simp only[aU7,decide_eq_true_eq,aB] at h9
   have hi2:i<l.length:=by omega
   have hb:bY (l.getD i .zero).frm (l.getD i .zero).num n.frm n.num=true:=by
    have h10:=h9.2
    rw[aU4,bM hi2] at h10
    exact h10
   refine sk (bk (rT [0,3,5,11,12,13,14,15,16,17,18,19,20,21,22,23,24,25] (s3 (wq [] [] (⟨l.length - (i+1),by omega,i+1,rfl,by omega,fun j h=>by by_cases e:j=i;exact e▸hb;exact hk j (by omega),rfl⟩) ?_))))
   repeat' apply ai
   all_goals first|exact qx|exact congrArg D.i (aE (by omega))|exact qz
 have hend:i=l.length∨bY (l.getD i .zero).frm (l.getD i .zero).num n.frm n.num=false:=by
  by_cases h:i<l.length
  · right
    have h9:=c26
    rw[decide_eq_true (show((i:Nat):Int)< ((aJ l).length:Int) by rw[aB];omega),Bool.true_and,aU4,bM h] at h9
    exact h9
  · left;omega
 have hins:dQ l n=_:=aJa (z:=bQ.zero) (p:=fun x=>bY x.frm x.num n.frm n.num) (n:=n) hi hk hend
 refine xt (sq (rD [4] (ai (by simp) (s2 (ai (by exact⟨by rw[aB];exact⟨by first|(simp;done)|(simp;omega),by first|(simp;done)|(simp;omega),by first|(simp;done)|(simp;omega)⟩,iC _⟩) (ai (by exact⟨by first|trivial|rfl|(simp;done),by first|rfl|(simp[aB];done),by first|exact yQ l _ _|(simp;done),by(try simp only[aU5,aU9,aU8,aVc,aVk,aB,jD,jE,jF,jG]);show _*24≤_;omega⟩) (s1 (ai (by exact⟨by simp,aU6 rfl⟩) (ai (by exact⟨by first|trivial|rfl|(simp;done),by first|rfl|(simp[aB];done),by first|exact yQ l _ _|(simp;done),by(try simp only[aU5,aU9,aU8,aVc,aVk,aB,jD,jE,jF,jG]);show _*24≤_;omega⟩) (s2 (ai (by exact⟨by rw[aB];exact⟨by first|(simp;done)|(simp;omega),by first|(simp;done)|(simp;omega),by first|(simp;done)|(simp;omega)⟩,iC _⟩) (ai (by exact⟨by first|trivial|rfl|(simp;done),by first|rfl|(simp[aB];done),by first|exact yQ l _ _|(simp;done),by(try simp only[aU5,aU9,aU8,aVc,aVk,aB,jD,jE,jF,jG]);show _*24≤_;omega⟩) (s1 (ai (by kernel_rfl) (rt (eN _ [] [29] rfl (gE rfl rfl rfl ?_ (congrArg D.sl ?_) trivial) rfl rfl))))))))))))))))
 · rfl
 rw[hins,uZ,gg];simp[aJ,List.map_take,List.map_drop,bQ.row]
theorem zL {l:List bQ} {i:Nat} {n:bQ}: (aJ (midW (fun x:bQ=>bY n.frm n.num x.frm x.num) n (l.take i))).length≤l.length+1:=by
 rw[aB,midW]
 split
 · rw[eQ,aVc];omega
 rw[aVc];omega
set_option maxHeartbeats 800000 in
theorem qM (l:List bQ) (n:bQ) (hl:l.length≤100000):Sp 77 2 [tD 0 (.sl (aJ l)),tV 1 n.V] [tD 0 (.sl (aJ (nY l n)))]:=by
 refine sb Tryz.func77 rfl (sq (rT [0,3,18,19,20,21,22,23,24,25,26,27,28,29,30,31,32] (s2 (sq (rT [0,3,5,18,19,20,21,22,23,24,25,26,27,28,29,30,31,32] (ai (by simp) (s1 (sq (rT [0,3,5,6,18,19,20,21,22,23,24,25,26,27,28,29,30,31,32] (s1 (sq (sq (rT [0,3,5,6,7,18,19,20,21,22,23,24,25,26,27,28,29,30,31,32] (s1 (bk (SW.loopW (n:=l.length) (fun m q=> ∃i:Nat,m=l.length - i∧i≤l.length∧q=[tD 0 (.sl (aJ l)),tP 3 3,tO 5 8 (aJ (midW (fun x:bQ=>bY n.frm n.num x.frm x.num) n (l.take i))).length,tB 6 ((l.take i).any (fun x:bQ=>bY n.frm n.num x.frm x.num)),tI 7 (i:Nat),oB 3 39 [.d (.i (n).frm),.d (.i (n).num),.d (.i (n).til)],oR 8 39 3 (aJ (midW (fun x:bQ=>bY n.frm n.num x.frm x.num) n (l.take i)))]) ?_ ?_))))))))))))))))
 · refine wq (σ':=[tD 0 (.sl (aJ l)),tP 3 3,tO 5 8 (aJ (midW (fun x:bQ=>bY n.frm n.num x.frm x.num) n (l.take 0))).length,tB 6 ((l.take 0).any (fun x:bQ=>bY n.frm n.num x.frm x.num)),tI 7 (0:Nat),oB 3 39 [.d (.i (n).frm),.d (.i (n).num),.d (.i (n).til)],oR 8 39 3 (aJ (midW (fun x:bQ=>bY n.frm n.num x.frm x.num) n (l.take 0)))]) [] [] (⟨0,rfl,aVa _,rfl⟩) ?_
   repeat' apply ai
   all_goals first|exact qx|rfl|(simp[midW];done)|exact qz
 rintro n s ⟨i,rfl,hi,rfl⟩
 refine sq (sq (rT [0,3,5,6,7,12,18,19,20,21,22,23,24,25,26,27,28,29,30,31,32] (s4 (cd rfl (fun c12=> ?_) fun c12=> ?_))))
 · have hi2:i<l.length:=by simpa[aB] using c12
   have hg:=bM (l:=l) hi2
   refine sk (sq (bk (sq (sq (rD [0,3,5,6,7,18,19,20,21,22,23,24,25,26,27,28,29,30,31,32,33] (s3 (y4 (y2 (ai (fun h=>(by have h9:=hi2;rw[aU4,bM h9];exact⟨⟨by omega,by rw[aB];omega⟩,rfl⟩)) (ai rk (y1 (ai (fun h=>(by have h9:=hi2;rw[aU4,bM h9];exact⟨aU6 rfl,rfl⟩)) (ai rk (y2 (ai (fun h=>(by have h9:=hi2;rw[aU4,bM h9];exact⟨⟨by omega,by rw[aB];omega⟩,rfl⟩)) (ai rk (y1 (ai (fun h=>(by have h9:=hi2;rw[aU4,bM h9];exact⟨aU6 rfl,rfl⟩)) (ai rk (xc (fun h=>(qI _ _ _ _)) (ai rfl (ai rk ?_))))))))))))))))))))))
   refine ai pk (ai (by kernel_rfl) (cd rfl (fun c33=> ?_) fun c33=> ?_))
   · have h9:=c33
     rw[aU4,hg] at h9
     rw[aU7] at h9
     have hq: (l.take i).any (fun x:bQ=>bY n.frm n.num x.frm x.num)=false∧bY n.frm n.num (l.getD i .zero).frm (l.getD i .zero).num=true:=⟨by simpa only[Bool.not_eq_true'] using h9.1,h9.2⟩
     have hm:=aEa (q:=(fun x:bQ=>bY n.frm n.num x.frm x.num)) (n:=n) (x:=l.getD i .zero) hq.1 hq.2
     rw[← fQ hi2] at hm
     have ha: (l.take (i+1)).any (fun x:bQ=>bY n.frm n.num x.frm x.num)=true:=by rw[fQ (z:=bQ.zero) hi2,jl,hq.1];exact hq.2
     refine sq (rT [0,3,5,7,18,19,20,21,22,23,24,25,26,27,28,29,30,31,32] (s2 (ai (by exact⟨by simp,aU6 rfl⟩) (ai (by exact⟨by first|trivial|rfl|(simp;done),by first|rfl|(simp;done),by first|(simp;done)|(intro r hr;rw[aVn.1 hr];rfl),by(try simp only[aU5,aU9,aU8]);have hm:=zL (l:=l) (i:=i) (n:=n);show _*24≤_;omega⟩) (s1 (rT [0,3,5,6,7,18,19,20,21,22,23,24,25,26,27,28,29,30,31,32] (s1 (rT [0,3,5,6,7,18,19,20,21,22,23,24,25,26,27,28,29,30,31,32] (s3 (ai (by have h9:=hi2;rw[aU4,bM h9];exact⟨⟨by omega,by rw[aB];omega⟩,rfl⟩) (ai (by have h9:=hi2;rw[aU4,bM h9];exact⟨aU6 rfl,rfl⟩) (ai (by exact⟨by simp,aU6 rfl⟩) (ai (by exact⟨by first|trivial|rfl|(simp;done),by first|rfl|(simp;done),by first|(simp;done)|(intro r hr;rw[aVn.1 hr];rfl),by(try simp only[aU5,aU9,aU8]);have hm:=zL (l:=l) (i:=i) (n:=n);show _*24≤_;omega⟩) (s1 (rT [0,3,5,6,7,18,19,20,21,22,23,24,25,26,27,28,29,30,31,32] (s3 (wq [] [] (⟨l.length - (i+1),by omega,i+1,rfl,by omega,rfl⟩) ?_)))))))))))))))))
     repeat' apply ai
     all_goals first|exact qx|exact congrArg D.i (by rw[aE (by omega)];omega)|(rw[ha];done)|exact congrArg D.b ha.symm|(rw[hm];simp[aJ,aU4];done)|(rw[hm,aU4,hg];simp only[aJ,List.map_append,List.map_cons,List.map_nil];rfl)|exact qz
   have h9:=c33
   rw[aU4,hg] at h9
   have hq: (l.take i).any (fun x:bQ=>bY n.frm n.num x.frm x.num)=true∨bY n.frm n.num (l.getD i .zero).frm (l.getD i .zero).num=false:=by
    cases h: (l.take i).any (fun x:bQ=>bY n.frm n.num x.frm x.num) with
    |true=>exact .inl rfl
    |false=>rw[h] at h9;exact .inr h9
   have hm:=aJb (q:=(fun x:bQ=>bY n.frm n.num x.frm x.num)) (n:=n) (x:=l.getD i .zero) hq
   rw[← fQ hi2] at hm
   have ha: (l.take (i+1)).any (fun x:bQ=>bY n.frm n.num x.frm x.num)=(l.take i).any (fun x:bQ=>bY n.frm n.num x.frm x.num):=by
    rw[fQ (z:=bQ.zero) hi2,jl]
    rcases hq with h|h
    · rw[h];rfl
    · show((l.take i).any (fun x:bQ=>bY n.frm n.num x.frm x.num)||(bY n.frm n.num (l.getD i .zero).frm (l.getD i .zero).num))=_
      rw[h,Bool.or_false]
   refine sk (rT [0,3,5,6,7,18,19,20,21,22,23,24,25,26,27,28,29,30,31,32] (s3 (ai (by have h9:=hi2;rw[aU4,bM h9];exact⟨⟨by omega,by rw[aB];omega⟩,rfl⟩) (ai (by have h9:=hi2;rw[aU4,bM h9];exact⟨aU6 rfl,rfl⟩) (ai (by exact⟨by simp,aU6 rfl⟩) (ai (by exact⟨by first|trivial|rfl|(simp;done),by first|rfl|(simp;done),by first|(simp;done)|(intro r hr;rw[aVn.1 hr];rfl),by(try simp only[aU5,aU9,aU8]);have hm:=zL (l:=l) (i:=i) (n:=n);show _*24≤_;omega⟩) (s1 (rT [0,3,5,6,7,18,19,20,21,22,23,24,25,26,27,28,29,30,31,32] (s3 (wq [] [] (⟨l.length - (i+1),by omega,i+1,rfl,by omega,rfl⟩) ?_))))))))))
   repeat' apply ai
   all_goals first|exact qx|exact congrArg D.i (by rw[aE (by omega)];omega)|(rw[ha];done)|exact congrArg D.b ha.symm|(rw[hm];simp[aJ,aU4];done)|(rw[hm,aU4,hg];simp only[aJ,List.map_append,List.map_cons,List.map_nil];rfl)|exact qz
 have hi3:i=l.length:=by simp[aB] at c12;omega
 subst hi3
 refine xt (sq (sq (rT [3,5,46] (s2 (cd rfl (fun c46=> ?_) fun c46=> ?_)))))
 · have he: (l.take l.length).any (fun x:bQ=>bY n.frm n.num x.frm x.num)=false:=by simpa using c46
   refine rT [5] (s2 (ai (by exact⟨by simp,aU6 rfl⟩) (ai (by exact⟨by first|trivial|rfl|(simp;done),by first|rfl|(simp;done),by first|(simp;done)|(intro r hr;rw[aVn.1 hr];rfl),by(try simp only[aU5,aU9,aU8]);have hm:=zL (l:=l) (i:=l.length) (n:=n);show _*24≤_;omega⟩) (s1 (sq (rT [4] (s2 (rt (eN _ [] [8] rfl (gE rfl rfl rfl ?_ (congrArg D.sl ?_) trivial) rfl rfl)))))))))
   · rfl
   rw[aVl] at he ⊢; rw[uY,jm,he];simp[aJ,bQ.row]
 have he: (l.take l.length).any (fun x:bQ=>bY n.frm n.num x.frm x.num)=true:=by simpa using c46
 refine sk (sq (rT [4] (s2 (rt (eN _ [] [8] rfl (gE rfl rfl rfl ?_ (congrArg D.sl ?_) trivial) rfl rfl)))))
 · rfl
 rw[aVl] at he ⊢; rw[uY,jm,he];simp[aJ,bQ.row]
set_option maxHeartbeats 1600000 in
theorem wb (k:aL) (t:Int) (hb:k.held.length≤100000∧k.marks.length≤100000∧k.inbox.length≤100000):Sp 103 2 [tV 0 k.V,tI 1 t] [tV 0 ((iV k t).V)]:=by
 refine sb Tryz.func103 rfl (sq (rT [1,2,4] (s2 (sq (rT [1,2,4,5] (s9 (s1 (sq (sq (rT [1,2,4,5,19,20,21] (s4 (bk (SW.nilBox 5 100 3 29 5 rfl rfl rfl (SW.nilBox 5 101 4 39 3 rfl rfl rfl (SW.loopW (n:=k.held.length) (fun m q=> ∃i:Nat,m=k.held.length - i∧i≤k.held.length∧q=[tI 1 t,tP 2 2,tP 4 4,tP 5 5,tD 19 (.sl (aD k.held)),tI 20 (k.held.length:Nat),tI 21 (i:Nat),oB 2 26 [.d (.i k.id),.d (.i k.time),.d (.i k.next),.d (.sl (aD k.held)),.d (.sl (aJ k.marks)),.d (.sl (aD k.inbox))],oB 4 26 [.d (.i 0),.d (.i 0),.d (.i 0),.nil,.nil,.nil],oB 5 26 [.d (.i k.id),.d (.i t),.d (.i k.next),.own 100 (aD ((k.held.take i).filter (fun n=>decide (t<n.til)))).length,.own 101 (aJ []).length,.d (.sl (aD k.inbox))],oR 100 29 5 (aD ((k.held.take i).filter (fun n=>decide (t<n.til)))),oR 101 39 3 (aJ [])]) ?_ ?_)))))))))))))))
 · refine wq (σ':=[tI 1 t,tP 2 2,tP 4 4,tP 5 5,tD 19 (.sl (aD k.held)),tI 20 (k.held.length:Nat),tI 21 (0:Nat),oB 2 26 [.d (.i k.id),.d (.i k.time),.d (.i k.next),.d (.sl (aD k.held)),.d (.sl (aJ k.marks)),.d (.sl (aD k.inbox))],oB 4 26 [.d (.i 0),.d (.i 0),.d (.i 0),.nil,.nil,.nil],oB 5 26 [.d (.i k.id),.d (.i t),.d (.i k.next),.own 100 (aD ((k.held.take 0).filter (fun n=>decide (t<n.til)))).length,.own 101 (aJ []).length,.d (.sl (aD k.inbox))],oR 100 29 5 (aD ((k.held.take 0).filter (fun n=>decide (t<n.til)))),oR 101 39 3 (aJ [])]) [] [] (⟨0,rfl,aVa _,rfl⟩) ?_
   repeat' apply ai
   all_goals first|exact qx|rfl|(rw[aA];done)|(rw[aB];done)|exact qz
 rintro n s ⟨i,rfl,hi,rfl⟩
 refine sq (rT [1,2,4,5,19,20,21,22] (s1 (sq (cd rfl (fun c22=> ?_) fun c22=> ?_))))
 · have hi2:i<k.held.length:=by simpa using c22
   have hg:=aQ (l:=k.held) hi2
   refine sk (sq (bk (sq (rT [1,2,4,5,7,19,20,21] (ai (by rw[aU4,hg];exact⟨⟨by omega,by rw[aA];omega⟩,rfl⟩) (ai (by rw[aU4,hg];exact⟨aU6 rfl,rfl⟩) (s2 (sq (wa [tI 1 t,tP 2 2,tP 4 4,tP 5 5,tD 19 (.sl (aD k.held)),tI 20 (k.held.length:Nat),tI 21 (i:Nat),oB 2 26 [.d (.i k.id),.d (.i k.time),.d (.i k.next),.d (.sl (aD k.held)),.d (.sl (aJ k.marks)),.d (.sl (aD k.inbox))],oB 4 26 [.d (.i 0),.d (.i 0),.d (.i 0),.nil,.nil,.nil],oB 5 26 [.d (.i k.id),.d (.i t),.d (.i k.next),.own 100 (aD ((k.held.take i).filter (fun n=>decide (t<n.til)))).length,.own 101 (aJ []).length,.d (.sl (aD k.inbox))],oR 100 29 5 (aD ((k.held.take i).filter (fun n=>decide (t<n.til)))),oR 101 39 3 (aJ []),tP 7 7,oB 7 29 [.d (.i (k.held.getD i .zero).frm),.d (.i (k.held.getD i .zero).num),.d (.i (k.held.getD i .zero).to),.d (.i (k.held.getD i .zero).til),.d (.s (k.held.getD i .zero).text)]] [] [] ?_ ?_)))))))))
   · repeat' apply ai
     all_goals first|exact qx|(rw[aU4,hg];rfl)|exact qz
   refine rT [1,2,4,5,7,19,20,21,28] (s4 (cd rfl (fun c28=> ?_) fun c28=> ?_))
   · have hp: (fun n:aR=>decide (t<n.til)) (k.held.getD i .zero)=true:=c28
     have hf:=rK (z:=aR.zero) (p:=fun n=>decide (t<n.til)) hi2 hp
     refine rT [1,2,4,5,19,20,21] (s3 (ai (by exact⟨by simp,aU6 rfl⟩) (ai (by exact⟨by first|trivial|rfl|(simp;done),by first|rfl|(simp;done),by first|(simp;done)|(intro r hr;rw[aVn.1 hr];rfl),by(have hm:=(List.length_filter_le (fun n=>decide (t<n.til)) (k.held.take i)));rw[aVc] at hm;simp only[aA,aU9,aU8];show _*48≤_;omega⟩) (s2 (rT [1,2,4,5,19,20,21] (s2 (wq [] [] (⟨k.held.length - (i+1),by omega,i+1,rfl,by omega,rfl⟩) ?_)))))))
     repeat' apply ai
     all_goals first|exact qx|exact congrArg D.i (by rw[aE (by omega)];omega)|(rw[hf];simp[aD,aJ,aR.row,bQ.row];done)|(rw[hf];done)|exact qz
   have hp: (fun n:aR=>decide (t<n.til)) (k.held.getD i .zero)=false:=c28
   have hf:=uH (z:=aR.zero) (p:=fun n=>decide (t<n.til)) hi2 hp
   refine sk (rT [1,2,4,5,19,20,21] (s2 (wq [] [] (⟨k.held.length - (i+1),by omega,i+1,rfl,by omega,rfl⟩) ?_)))
   repeat' apply ai
   all_goals first|exact qx|exact congrArg D.i (by rw[aE (by omega)];omega)|(rw[hf];simp[aD,aJ,aR.row,bQ.row];done)|(rw[hf];done)|exact qz
 have hi3:i=k.held.length:=by simp at c22;omega
 subst hi3
 clear hi
 refine xt (sq (sq (rT [1,4,5,37,38,39] (s4 (bk (SW.loopW (n:=k.marks.length) (fun m q=> ∃i:Nat,m=k.marks.length - i∧i≤k.marks.length∧q=[tI 1 t,tP 4 4,tP 5 5,tD 37 (.sl (aJ k.marks)),tI 38 (k.marks.length:Nat),tI 39 (i:Nat),oB 4 26 [.d (.i 0),.d (.i 0),.d (.i 0),.nil,.nil,.nil],oB 5 26 [.d (.i k.id),.d (.i t),.d (.i k.next),.own 100 (aD ((k.held.take k.held.length).filter (fun n=>decide (t<n.til)))).length,.own 101 (aJ ((k.marks.take i).filter (fun n=>decide (t<n.til)))).length,.d (.sl (aD k.inbox))],oR 100 29 5 (aD ((k.held.take k.held.length).filter (fun n=>decide (t<n.til)))),oR 101 39 3 (aJ ((k.marks.take i).filter (fun n=>decide (t<n.til))))]) ?_ ?_))))))
 · refine wq (σ':=[tI 1 t,tP 4 4,tP 5 5,tD 37 (.sl (aJ k.marks)),tI 38 (k.marks.length:Nat),tI 39 (0:Nat),oB 4 26 [.d (.i 0),.d (.i 0),.d (.i 0),.nil,.nil,.nil],oB 5 26 [.d (.i k.id),.d (.i t),.d (.i k.next),.own 100 (aD ((k.held.take k.held.length).filter (fun n=>decide (t<n.til)))).length,.own 101 (aJ ((k.marks.take 0).filter (fun n=>decide (t<n.til)))).length,.d (.sl (aD k.inbox))],oR 100 29 5 (aD ((k.held.take k.held.length).filter (fun n=>decide (t<n.til)))),oR 101 39 3 (aJ ((k.marks.take 0).filter (fun n=>decide (t<n.til))))]) [] [] (⟨0,rfl,aVa _,rfl⟩) ?_
   repeat' apply ai
   all_goals first|exact qx|rfl|(rw[aA];done)|(rw[aB];done)|exact qz
 rintro n s ⟨i,rfl,hi,rfl⟩
 refine sq (rT [1,4,5,37,38,39,40] (s1 (sq (cd rfl (fun c40=> ?_) fun c40=> ?_))))
 · have hi2:i<k.marks.length:=by simpa using c40
   have hg:=bM (l:=k.marks) hi2
   refine sk (sq (bk (sq (rT [1,4,5,9,37,38,39] (ai (by rw[aU4,hg];exact⟨⟨by omega,by rw[aB];omega⟩,rfl⟩) (ai (by rw[aU4,hg];exact⟨aU6 rfl,rfl⟩) (s2 (sq (wa [tI 1 t,tP 4 4,tP 5 5,tD 37 (.sl (aJ k.marks)),tI 38 (k.marks.length:Nat),tI 39 (i:Nat),oB 4 26 [.d (.i 0),.d (.i 0),.d (.i 0),.nil,.nil,.nil],oB 5 26 [.d (.i k.id),.d (.i t),.d (.i k.next),.own 100 (aD ((k.held.take k.held.length).filter (fun n=>decide (t<n.til)))).length,.own 101 (aJ ((k.marks.take i).filter (fun n=>decide (t<n.til)))).length,.d (.sl (aD k.inbox))],oR 100 29 5 (aD ((k.held.take k.held.length).filter (fun n=>decide (t<n.til)))),oR 101 39 3 (aJ ((k.marks.take i).filter (fun n=>decide (t<n.til)))),tP 9 9,oB 9 39 [.d (.i (k.marks.getD i .zero).frm),.d (.i (k.marks.getD i .zero).num),.d (.i (k.marks.getD i .zero).til)]] [] [] ?_ ?_)))))))))
   · repeat' apply ai
     all_goals first|exact qx|(rw[aU4,hg];rfl)|exact qz
   refine rT [1,4,5,9,37,38,39,46] (s4 (cd rfl (fun c46=> ?_) fun c46=> ?_))
   · have hp: (fun n:bQ=>decide (t<n.til)) (k.marks.getD i .zero)=true:=c46
     have hf:=rK (z:=bQ.zero) (p:=fun n=>decide (t<n.til)) hi2 hp
     refine rT [1,4,5,37,38,39] (s3 (ai (by exact⟨by simp,aU6 rfl⟩) (ai (by exact⟨by first|trivial|rfl|(simp;done),by first|rfl|(simp;done),by first|(simp;done)|(intro r hr;rw[aVn.1 hr];rfl),by(have hm:=(List.length_filter_le (fun n=>decide (t<n.til)) (k.marks.take i)));rw[aVc] at hm;simp only[aB,aU9,aU8];show _*24≤_;omega⟩) (s2 (rT [1,4,5,37,38,39] (s2 (wq [] [] (⟨k.marks.length - (i+1),by omega,i+1,rfl,by omega,rfl⟩) ?_)))))))
     repeat' apply ai
     all_goals first|exact qx|exact congrArg D.i (by rw[aE (by omega)];omega)|(rw[hf];simp[aD,aJ,aR.row,bQ.row];done)|(rw[hf];done)|exact qz
   have hp: (fun n:bQ=>decide (t<n.til)) (k.marks.getD i .zero)=false:=c46
   have hf:=uH (z:=bQ.zero) (p:=fun n=>decide (t<n.til)) hi2 hp
   refine sk (rT [1,4,5,37,38,39] (s2 (wq [] [] (⟨k.marks.length - (i+1),by omega,i+1,rfl,by omega,rfl⟩) ?_)))
   repeat' apply ai
   all_goals first|exact qx|exact congrArg D.i (by rw[aE (by omega)];omega)|(rw[hf];simp[aD,aJ,aR.row,bQ.row];done)|(rw[hf];done)|exact qz
 have hi3:i=k.marks.length:=by simp at c40;omega
 subst hi3
 refine xt (sq (rT [4] (s2 (rt (rq [] [100,101] rfl ?_)))))
 repeat' apply ai
 all_goals try exact qx
 all_goals(first|with_reducible rfl|(simp[iV];done))
set_option maxHeartbeats 1600000 in
theorem wc (k:aL) (t:Int) (hb:k.held.length≤100000∧k.marks.length≤100000∧k.inbox.length≤100000):Sp 69 2 [tV 0 k.V,tI 1 t] [tV 0 ((iV k t).V)]:=by
 refine sb Tryz.func69 rfl (sq (rT [1,2,4] (s2 (sq (rT [1,2,4,5] (ai (by simp) (s1 (sq (sq (rT [1,2,4,5,6] (s1 (bk (SW.loopW (n:=k.held.length) (fun m q=> ∃i:Nat,m=k.held.length - i∧i≤k.held.length∧q=[tI 1 t,tP 2 2,tP 4 4,tO 5 9 (aD ((k.held.take i).filter (fun n=>decide (t<n.til)))).length,tI 6 (i:Nat),oB 2 26 [.d (.i k.id),.d (.i k.time),.d (.i k.next),.d (.sl (aD k.held)),.d (.sl (aJ k.marks)),.d (.sl (aD k.inbox))],oB 4 26 [.d (.i 0),.d (.i 0),.d (.i 0),.nil,.nil,.nil],oR 9 29 5 (aD ((k.held.take i).filter (fun n=>decide (t<n.til))))]) ?_ ?_)))))))))))))
 · refine wq (σ':=[tI 1 t,tP 2 2,tP 4 4,tO 5 9 (aD ((k.held.take 0).filter (fun n=>decide (t<n.til)))).length,tI 6 (0:Nat),oB 2 26 [.d (.i k.id),.d (.i k.time),.d (.i k.next),.d (.sl (aD k.held)),.d (.sl (aJ k.marks)),.d (.sl (aD k.inbox))],oB 4 26 [.d (.i 0),.d (.i 0),.d (.i 0),.nil,.nil,.nil],oR 9 29 5 (aD ((k.held.take 0).filter (fun n=>decide (t<n.til))))]) [] [] (⟨0,rfl,aVa _,rfl⟩) ?_
   repeat' apply ai
   all_goals first|exact qx|rfl|(rw[aA];done)|(rw[aB];done)|exact qz
 rintro n s ⟨i,rfl,hi,rfl⟩
 refine sq (sq (rT [1,2,4,5,6,14] (s5 (cd rfl (fun c14=> ?_) fun c14=> ?_))))
 · have hi2:i<k.held.length:=by simpa[aA] using c14
   have hg:=aQ (l:=k.held) hi2
   refine sk (sq (bk (sq (rT [1,2,4,5,6,24] (s3 (ai (by rw[aU4,hg];exact⟨⟨by omega,by rw[aA];omega⟩,rfl⟩) (s1 (ai (by rw[aU4,hg];exact⟨aU6 rfl,rfl⟩) (s2 (cd rfl (fun c24=> ?_) fun c24=> ?_))))))))))
   · rw[aU4,hg] at c24
     have hp: (fun n:aR=>decide (t<n.til)) (k.held.getD i .zero)=true:=c24
     have hf:=rK (z:=aR.zero) (p:=fun n=>decide (t<n.til)) hi2 hp
     refine rT [1,2,4,5,6] (s4 (ai (by rw[aU4,hg];exact⟨⟨by omega,by rw[aA];omega⟩,rfl⟩) (ai (by rw[aU4,hg];exact⟨aU6 rfl,rfl⟩) (ai (by exact⟨by simp,aU6 rfl⟩) (ai (by exact⟨by first|trivial|rfl|(simp;done),by first|rfl|(simp;done),by first|(simp;done)|(intro r hr;rw[aVn.1 hr];rfl),by(have hm:=(List.length_filter_le (fun n=>decide (t<n.til)) (k.held.take i)));rw[aVc] at hm;simp only[aA,aU9,aU8];show _*48≤_;omega⟩) (s1 (rT [1,2,4,5,6] (s3 (wq [] [] (⟨k.held.length - (i+1),by omega,i+1,rfl,by omega,rfl⟩) ?_)))))))))
     repeat' apply ai
     all_goals first|exact qx|exact congrArg D.i (by rw[aE (by omega)];omega)|(rw[hf,aU4,hg];exact bT _ _)|(rw[hf];simp[aD,aJ];done)|(rw[hf];done)|exact qz
   rw[aU4,hg] at c24
   have hp: (fun n:aR=>decide (t<n.til)) (k.held.getD i .zero)=false:=c24
   have hf:=uH (z:=aR.zero) (p:=fun n=>decide (t<n.til)) hi2 hp
   refine sk (rT [1,2,4,5,6] (s3 (wq [] [] (⟨k.held.length - (i+1),by omega,i+1,rfl,by omega,rfl⟩) ?_)))
   repeat' apply ai
   all_goals first|exact qx|exact congrArg D.i (by rw[aE (by omega)];omega)|(rw[hf,aU4,hg];exact bT _ _)|(rw[hf];simp[aD,aJ];done)|(rw[hf];done)|exact qz
 have hi3:i=k.held.length:=by simp[aA] at c14;omega
 subst hi3
 clear hi
 refine xt (sq (rT [1,2,4,5,7] (ai (by simp) (s1 (sq (sq (rT [1,2,4,5,7,8] (s1 (bk (SW.loopW (n:=k.marks.length) (fun m q=> ∃i:Nat,m=k.marks.length - i∧i≤k.marks.length∧q=[tI 1 t,tP 2 2,tP 4 4,tO 5 9 (aD ((k.held.take k.held.length).filter (fun n=>decide (t<n.til)))).length,tO 7 33 (aJ ((k.marks.take i).filter (fun n=>decide (t<n.til)))).length,tI 8 (i:Nat),oB 2 26 [.d (.i k.id),.d (.i k.time),.d (.i k.next),.d (.sl (aD k.held)),.d (.sl (aJ k.marks)),.d (.sl (aD k.inbox))],oB 4 26 [.d (.i 0),.d (.i 0),.d (.i 0),.nil,.nil,.nil],oR 9 29 5 (aD ((k.held.take k.held.length).filter (fun n=>decide (t<n.til)))),oR 33 39 3 (aJ ((k.marks.take i).filter (fun n=>decide (t<n.til))))]) ?_ ?_))))))))))
 · refine wq (σ':=[tI 1 t,tP 2 2,tP 4 4,tO 5 9 (aD ((k.held.take k.held.length).filter (fun n=>decide (t<n.til)))).length,tO 7 33 (aJ ((k.marks.take 0).filter (fun n=>decide (t<n.til)))).length,tI 8 (0:Nat),oB 2 26 [.d (.i k.id),.d (.i k.time),.d (.i k.next),.d (.sl (aD k.held)),.d (.sl (aJ k.marks)),.d (.sl (aD k.inbox))],oB 4 26 [.d (.i 0),.d (.i 0),.d (.i 0),.nil,.nil,.nil],oR 9 29 5 (aD ((k.held.take k.held.length).filter (fun n=>decide (t<n.til)))),oR 33 39 3 (aJ ((k.marks.take 0).filter (fun n=>decide (t<n.til))))]) [] [] (⟨0,rfl,aVa _,rfl⟩) ?_
   repeat' apply ai
   all_goals first|exact qx|rfl|(rw[aA];done)|(rw[aB];done)|exact qz
 rintro n s ⟨i,rfl,hi,rfl⟩
 refine sq (sq (rT [1,2,4,5,7,8,38] (s5 (cd rfl (fun c38=> ?_) fun c38=> ?_))))
 · have hi2:i<k.marks.length:=by simpa[aB] using c38
   have hg:=bM (l:=k.marks) hi2
   refine sk (sq (bk (sq (rT [1,2,4,5,7,8,48] (s3 (ai (by rw[aU4,hg];exact⟨⟨by omega,by rw[aB];omega⟩,rfl⟩) (s1 (ai (by rw[aU4,hg];exact⟨aU6 rfl,rfl⟩) (s2 (cd rfl (fun c48=> ?_) fun c48=> ?_))))))))))
   · rw[aU4,hg] at c48
     have hp: (fun n:bQ=>decide (t<n.til)) (k.marks.getD i .zero)=true:=c48
     have hf:=rK (z:=bQ.zero) (p:=fun n=>decide (t<n.til)) hi2 hp
     refine rT [1,2,4,5,7,8] (s4 (ai (by rw[aU4,hg];exact⟨⟨by omega,by rw[aB];omega⟩,rfl⟩) (ai (by rw[aU4,hg];exact⟨aU6 rfl,rfl⟩) (ai (by exact⟨by simp,aU6 rfl⟩) (ai (by exact⟨by first|trivial|rfl|(simp;done),by first|rfl|(simp;done),by first|(simp;done)|(intro r hr;rw[aVn.1 hr];rfl),by(have hm:=(List.length_filter_le (fun n=>decide (t<n.til)) (k.marks.take i)));rw[aVc] at hm;simp only[aB,aU9,aU8];show _*24≤_;omega⟩) (s1 (rT [1,2,4,5,7,8] (s3 (wq [] [] (⟨k.marks.length - (i+1),by omega,i+1,rfl,by omega,rfl⟩) ?_)))))))))
     repeat' apply ai
     all_goals first|exact qx|exact congrArg D.i (by rw[aE (by omega)];omega)|(rw[hf,aU4,hg];exact fM _ _)|(rw[hf];simp[aD,aJ];done)|(rw[hf];done)|exact qz
   rw[aU4,hg] at c48
   have hp: (fun n:bQ=>decide (t<n.til)) (k.marks.getD i .zero)=false:=c48
   have hf:=uH (z:=bQ.zero) (p:=fun n=>decide (t<n.til)) hi2 hp
   refine sk (rT [1,2,4,5,7,8] (s3 (wq [] [] (⟨k.marks.length - (i+1),by omega,i+1,rfl,by omega,rfl⟩) ?_)))
   repeat' apply ai
   all_goals first|exact qx|exact congrArg D.i (by rw[aE (by omega)];omega)|(rw[hf,aU4,hg];exact fM _ _)|(rw[hf];simp[aD,aJ];done)|(rw[hf];done)|exact qz
 have hi3:i=k.marks.length:=by simp[aB] at c38;omega
 subst hi3
 refine xt (sq (rT [2,4,5,7] (s3 (sq (rT [2,4,7] (s3 (sq (rT [2,4] (s3 (sq (rT [4] (s2 (rt (rq [] [9,33] rfl ?_))))))))))))))
 repeat' apply ai
 all_goals try exact qx
 all_goals(first|with_reducible rfl|(simp[iV];done))
set_option maxHeartbeats 1600000 in
theorem fe (k:aL) (n:aR) (hb:k.held.length≤100000∧k.marks.length≤100000∧k.inbox.length≤100000) (hn:n.text.length≤140737488355328):Sp 104 2 [tV 0 k.V,tV 1 n.V] [tV 0 (.tup [.agg [.d (.i ((dW k n).1).id),.d (.i ((dW k n).1).time),.d (.i ((dW k n).1).next),.d (.sl (aD ((dW k n).1).held)),.d (.sl (aJ ((dW k n).1).marks)),.d (.sl (aD ((dW k n).1).inbox))],.c (.d (.b (dW k n).2))])]:=by
 refine sb Tryz.func104 rfl (sq (rT [2,3,4,10,11,12,13,14,17,18,19,20,21,22,23,24,27,28,29,30,31,32,33,34,37,38,39,40,41,42,43,44,47,48,49,50,51,52,53,54,55] (s4 (sq (sq (rT [2,3,4,56] (s1 (xp (sH n hn) (ai rfl ?_)))))))))
 refine s2 (y4 (y1 (ai pk (s1 (y4 (y2 (xc (fun h=>(mS k.held _ _ (by omega))) (ai rfl (ai rk ?_)))))))))
 refine y1 (ai pk (s1 (y4 (y2 (xc (fun h=>(mS k.inbox _ _ (by omega))) (ai rfl (ai rk ?_)))))))
 refine y1 (ai pk (s1 (y4 (y2 (xc (fun h=>(sI k.marks _ _ (by omega))) (ai rfl (ai rk ?_)))))))
 refine y1 (ai pk (s1 (y4 (y4 (y1 (ai pk (cd rfl (fun c56=> ?_) fun c56=> ?_)))))))
 · have ha:=tt hb c56
   refine sq (rT [4,5] (s3 (rt ?_)))
   have hr:dW k n=(k,false):=if_neg (bn ha)
   refine bP rfl rfl ?_
   rw[hr]<;>rfl
 have ha:=tt hb c56
 refine sk (sq (sq (rT [2,3,4,62] (s5 (cd rfl (fun c62=> ?_) fun c62=> ?_)))))
 · refine sq (rT [2,3,4] (s3 (xp (sJ k.inbox n hb.2.2) (ai rfl ?_))))
   refine s2 (rT [2,4] (s9 (xp (wU k.marks ⟨n.frm,n.num,n.til⟩ hb.2.1) (ai rfl ?_))))
   refine s2 (sq (rT [4,5] (s3 (rt ?_))))
   first|have hr:=aAh ha c62|have hr:=aAi ha c62
   refine bP rfl rfl ?_
   rw[hr]<;>rfl
 refine rT [2,4] (s3 (xp (sJ k.held n hb.1) (ai rfl ?_)))
 refine s2 (sq (rT [4,5] (s3 (rt ?_))))
 first|have hr:=aAh ha c62|have hr:=aAi ha c62
 refine bP rfl rfl ?_
 rw[hr]<;>rfl
theorem aCs (k:aL) (w:List UInt8) (n:Int) (hb:k.held.length≤100000∧k.marks.length≤100000∧k.inbox.length≤100000):Sp 80 3 [tV 0 k.V,tD 1 (.s w),tI 2 n] [tV 0 (.tup [.agg [.d (.i ((kM k w n).1).id),.d (.i ((kM k w n).1).time),.d (.i ((kM k w n).1).next),.d (.sl (aD ((kM k w n).1).held)),.d (.sl (aJ ((kM k w n).1).marks)),.d (.sl (aD ((kM k w n).1).inbox))],.c (.d (.b (kM k w n).2))])]:=by
 refine sb Tryz.func80 rfl (sq (rT [1,2,3,6,12,13,14,15,24,25,26,27] (s3 (sq (bk (sq (rT [1,2,3,6,8,24,25,26,27] (s3 (y4 (ai pk (s1 (cd rfl (fun c8=> ?_) fun c8=> ?_))))))))))))
 · refine sq (rT [6,7] (s2 (xp (wb k n hb) (ai rfl ?_))))
   refine s2 (rt ?_)
   have hr:kM k w n=(iV k n,true):=if_pos c8
   refine bP rfl rfl ?_
   rw[hr]<;>rfl
 refine sq (rT [2,3,6,20] (s3 (y4 (ai pk (s1 (cd rfl (fun c20=> ?_) fun c20=> ?_))))))
 · refine sq (rT [3,6] (s3 (sq (rT [6,7] (s3 (rt ?_))))))
   have hr:kM k w n=({k with next:=n},true):=(if_neg (bn c8)).trans (if_pos c20)
   refine bP rfl rfl ?_
   rw[hr]<;>rfl
 refine sk (sq (rT [6,7] (s3 (rt ?_))))
 have hr:kM k w n=(k,false):=(if_neg (bn c8)).trans (if_neg (bn c20))
 refine bP rfl rfl ?_
 rw[hr]<;>rfl
set_option maxHeartbeats 1600000 in
theorem yj (k:aL) (w:List UInt8) (n:aR) (hb:k.held.length≤100000∧k.marks.length≤100000∧k.inbox.length≤100000) (hn:n.text.length≤140737488355328):Sp 81 3 [tV 0 k.V,tD 1 (.s w),tV 2 n.V] [tV 0 (.tup [.agg [.d (.i ((dX k w n).1).id),.d (.i ((dX k w n).1).time),.d (.i ((dX k w n).1).next),.d (.sl (aD ((dX k w n).1).held)),.d (.sl (aJ ((dX k w n).1).marks)),.d (.sl (aD ((dX k w n).1).inbox))],.c (.d (.b (dX k w n).2))])]:=by
 refine sb Tryz.func81 rfl (sq (rT [1,3,5,6,12,13,14,15,16,19,20,21,22,23,38,39,40,41,42,59,60,61,62,63,64,65,66] (s4 (sq (bk (sq (rT [1,3,5,6,8,38,39,40,41,42,59,60,61,62,63,64,65,66] (s3 (y4 (y1 (ai pk (s1 (y4 (y1 (ai pk (s1 (cd rfl (fun c8=> ?_) fun c8=> ?_)))))))))))))))))
 · refine sq (rT [3,5,6] (s5 (sq (rT [6,7] (s2 (xp (fe {k with next:=wrap64 (k.next+1)} n hb hn) (ai rfl ?_)))))))
   refine s4 (rt ?_)
   have hr:dX k w n=dW {k with next:=wrap64 (k.next+1)} n:=if_pos c8
   refine bP rfl rfl ?_
   rw[hr]<;>rfl
 refine sq (rT [1,3,5,6,34,59,60,61,62,63,64,65,66] (s3 (y4 (y1 (ai pk (s1 (cd rfl (fun c34=> ?_) fun c34=> ?_)))))))
 · refine sq (rT [6,7] (s2 (xp (fe k n hb hn) (ai rfl ?_))))
   refine s4 (rt ?_)
   have hr:dX k w n=dW k n:=(if_neg (bn c8)).trans (if_pos c34)
   refine bP rfl rfl ?_
   rw[hr]<;>rfl
 refine sq (rT [1,3,5,6,49] (s6 (xp (mS k.held _ _ (by omega)) (ai rfl ?_))))
 refine s2 (y4 (y2 (xc (fun h=>(mS k.inbox _ _ (by omega))) (ai rfl (ai rk ?_)))))
 refine y1 (ai pk (s1 (cd rfl (fun c49=> ?_) fun c49=> ?_)))
 · refine sk (sq (rT [6,7] (s3 (rt ?_))))
   have hr:dX k w n=(k,false):=by
    first|exact(if_neg (bn c8)).trans ((if_neg (bn c34)).trans (if_pos c49))|exact(if_neg (bn c8)).trans ((if_neg (bn c34)).trans ((if_neg (bn c49)).trans ((if_neg (bn c68)).trans (if_neg (bn c77)))))
   refine bP rfl rfl ?_
   rw[hr]<;>rfl
 refine sq (rT [1,3,5,6,68] (s3 (cd rfl (fun c68=> ?_) fun c68=> ?_)))
 · refine sq (rT [3,6] (s3 (xp (sJ k.held n hb.1) (ai rfl ?_))))
   refine s2 (sq (rT [6,7] (s3 (rt ?_))))
   have hr:dX k w n=({k with held:=eY k.held n},true):=(if_neg (bn c8)).trans ((if_neg (bn c34)).trans ((if_neg (bn c49)).trans (if_pos c68)))
   refine bP rfl rfl ?_
   rw[hr]<;>rfl
 refine sq (rT [3,5,6,77] (s3 (cd rfl (fun c77=> ?_) fun c77=> ?_)))
 · refine sq (rT [3,6] (s3 (xp (sJ k.inbox n hb.2.2) (ai rfl ?_))))
   refine s2 (sq (rT [6,7] (s3 (rt ?_))))
   have hr:dX k w n=({k with inbox:=eY k.inbox n},true):=(if_neg (bn c8)).trans ((if_neg (bn c34)).trans ((if_neg (bn c49)).trans ((if_neg (bn c68)).trans (if_pos c77))))
   refine bP rfl rfl ?_
   rw[hr]<;>rfl
 refine sk (sq (rT [6,7] (s3 (rt ?_))))
 have hr:dX k w n=(k,false):=by
  first|exact(if_neg (bn c8)).trans ((if_neg (bn c34)).trans (if_pos c49))|exact(if_neg (bn c8)).trans ((if_neg (bn c34)).trans ((if_neg (bn c49)).trans ((if_neg (bn c68)).trans (if_neg (bn c77)))))
 refine bP rfl rfl ?_
 rw[hr]<;>rfl
set_option maxHeartbeats 1600000 in
theorem yk (k:aL) (w:List UInt8) (m:bQ) (hb:k.held.length≤100000∧k.marks.length≤100000∧k.inbox.length≤100000):Sp 83 3 [tV 0 k.V,tD 1 (.s w),tV 2 m.V] [tV 0 (.tup [.agg [.d (.i ((fY k w m).1).id),.d (.i ((fY k w m).1).time),.d (.i ((fY k w m).1).next),.d (.sl (aD ((fY k w m).1).held)),.d (.sl (aJ ((fY k w m).1).marks)),.d (.sl (aD ((fY k w m).1).inbox))],.c (.d (.b (fY k w m).2))])]:=by
 refine sb Tryz.func83 rfl (sq (rT [1,3,5,6,37,38,41,42,43,44,45,46,47,48,49,66,67,70,71,72,73,74,75,76,77,78,90,91] (s4 (sq (rD [1,3,5,6,8,9,37,38,41,42,43,44,45,46,47,48,49,66,67,70,71,72,73,74,75,76,77,78,90,91] (s6 (xp (mS k.held _ _ (by omega)) (ai rfl ?_))))))))
 refine s6 (xp (mS k.inbox _ _ (by omega)) (ai rfl ?_))
 refine s2 (ai (by kernel_rfl) (sq (rT [1,3,5,6,8,9,10,37,38,41,42,43,44,45,46,47,48,49,66,67,70,71,72,73,74,75,76,77,78,90,91] (s6 (xp (sI k.marks _ _ (by omega)) (ai rfl ?_))))))
 refine s2 (sq (bk (sq (rD [1,3,5,6,8,9,10,33,66,67,70,71,72,73,74,75,76,77,78,90,91] (s3 (y2 (ai pk (s1 (y3 (ai (fun h=>(by skip;have hp:0≤aX k.held m.frm m.num:=(by have h8:=h;simp only[gb,aU7,decide_eq_true_eq] at h8;exact h8.2);have hr:=fR k.held m.frm m.num;rw[aQ (by omega)];exact⟨⟨hp,by rw[aA];omega⟩,rfl⟩)) (ai rk (y1 (ai (fun h=>(by have hp:0≤aX k.held m.frm m.num:=(by have h8:=h;simp only[gb,aU7,decide_eq_true_eq] at h8;exact h8.2);have hr:=fR k.held m.frm m.num;rw[aQ (by omega)];exact⟨aU6 rfl,rfl⟩)) (ai rk (y3 (ai pk (s1 (ai (by kernel_rfl) (cd rfl (fun c33=> ?_) fun c33=> ?_)))))))))))))))))))
 · have hc: (w==iZ&&decide (0≤aX k.held m.frm m.num)&&(k.held.getD (aX k.held m.frm m.num).toNat .zero).til==m.til)=true:=by
    have h9:=c33
    by_cases hp:0≤aX k.held m.frm m.num
    · have hr:=fR k.held m.frm m.num
      rw[aQ (by omega)] at h9
      exact h9
    · rw[show decide (aX k.held m.frm m.num≥0)=false from decide_eq_false hp,Bool.and_false,Bool.false_and] at h9
      rw[show decide (0≤aX k.held m.frm m.num)=false from decide_eq_false hp,Bool.and_false,Bool.false_and]<;>exact h9
   have hp:0≤aX k.held m.frm m.num:=by
    simp only[aU7,decide_eq_true_eq] at hc
    exact hc.1.2
   have hr:=fR k.held m.frm m.num
   refine sq (rT [3,5,6] (s3 (xp (ck k.held (aX k.held m.frm m.num) ⟨hp,by omega⟩ hb.1) (ai rfl ?_))))
   refine s2 (sq (rT [3,6] (s3 (xp (wU k.marks m hb.2.1) (ai rfl ?_)))))
   refine s2 (sq (rT [6,7] (s3 (rt ?_))))
   have hr:fY k w m=({k with held:=dN k.held (aX k.held m.frm m.num).toNat,marks:=dQ k.marks m},true):=if_pos hc
   refine bP rfl rfl ?_
   rw[hr]<;>rfl
 have hc: (w==iZ&&decide (0≤aX k.held m.frm m.num)&&(k.held.getD (aX k.held m.frm m.num).toNat .zero).til==m.til)=false:=by
  have h9:=c33
  by_cases hp:0≤aX k.held m.frm m.num
  · have hr:=fR k.held m.frm m.num
    rw[aQ (by omega)] at h9
    exact h9
  · rw[show decide (aX k.held m.frm m.num≥0)=false from decide_eq_false hp,Bool.and_false,Bool.false_and] at h9
    rw[show decide (0≤aX k.held m.frm m.num)=false from decide_eq_false hp,Bool.and_false,Bool.false_and]<;>exact h9
 have hc1:=hc
 clear hc
 refine sq (rD [1,3,5,6,9,10,62,90,91] (s3 (y2 (ai pk (s1 (y3 (ai (fun h=>(by skip;have hp:0≤aX k.inbox m.frm m.num:=(by have h8:=h;simp only[gb,aU7,decide_eq_true_eq] at h8;exact h8.2);have hr:=fR k.inbox m.frm m.num;rw[aQ (by omega)];exact⟨⟨hp,by rw[aA];omega⟩,rfl⟩)) (ai rk (y1 (ai (fun h=>(by have hp:0≤aX k.inbox m.frm m.num:=(by have h8:=h;simp only[gb,aU7,decide_eq_true_eq] at h8;exact h8.2);have hr:=fR k.inbox m.frm m.num;rw[aQ (by omega)];exact⟨aU6 rfl,rfl⟩)) (ai rk (y3 (ai pk (s1 (ai (by kernel_rfl) (cd rfl (fun c62=> ?_) fun c62=> ?_))))))))))))))))
 · have hc: (w==lD&&decide (0≤aX k.inbox m.frm m.num)&&(k.inbox.getD (aX k.inbox m.frm m.num).toNat .zero).til==m.til)=true:=by
    have h9:=c62
    by_cases hp:0≤aX k.inbox m.frm m.num
    · have hr:=fR k.inbox m.frm m.num
      rw[aQ (by omega)] at h9
      exact h9
    · rw[show decide (aX k.inbox m.frm m.num≥0)=false from decide_eq_false hp,Bool.and_false,Bool.false_and] at h9
      rw[show decide (0≤aX k.inbox m.frm m.num)=false from decide_eq_false hp,Bool.and_false,Bool.false_and]<;>exact h9
   have hp:0≤aX k.inbox m.frm m.num:=by
    simp only[aU7,decide_eq_true_eq] at hc
    exact hc.1.2
   have hr:=fR k.inbox m.frm m.num
   refine sq (rT [3,6] (s3 (xp (ck k.inbox (aX k.inbox m.frm m.num) ⟨hp,by omega⟩ hb.2.2) (ai rfl ?_))))
   refine s2 (sq (rT [6,7] (s3 (rt ?_))))
   have hr:fY k w m=({k with inbox:=dN k.inbox (aX k.inbox m.frm m.num).toNat},true):=(if_neg (bn hc1)).trans (if_pos hc)
   refine bP rfl rfl ?_
   rw[hr]<;>rfl
 have hc: (w==lD&&decide (0≤aX k.inbox m.frm m.num)&&(k.inbox.getD (aX k.inbox m.frm m.num).toNat .zero).til==m.til)=false:=by
  have h9:=c62
  by_cases hp:0≤aX k.inbox m.frm m.num
  · have hr:=fR k.inbox m.frm m.num
    rw[aQ (by omega)] at h9
    exact h9
  · rw[show decide (aX k.inbox m.frm m.num≥0)=false from decide_eq_false hp,Bool.and_false,Bool.false_and] at h9
    rw[show decide (0≤aX k.inbox m.frm m.num)=false from decide_eq_false hp,Bool.and_false,Bool.false_and]<;>exact h9
 refine sq (rT [3,5,6,86] (s3 (y2 (ai pk (s1 (cd rfl (fun c86=> ?_) fun c86=> ?_))))))
 · have hm: (w==gV&&decide (fW k.marks m.frm m.num<0))=true:=by
    have h9:=c86
    rw[aAa,Bool.not_not] at h9
    exact h9
   refine sq (rT [3,6] (s3 (xp (wU k.marks m hb.2.1) (ai rfl ?_))))
   refine s2 (sq (rT [6,7] (s3 (rt ?_))))
   have hr:fY k w m=({k with marks:=dQ k.marks m},true):=(if_neg (bn hc1)).trans ((if_neg (bn hc)).trans (if_pos hm))
   refine bP rfl rfl ?_
   rw[hr]<;>rfl
 have hm: (w==gV&&decide (fW k.marks m.frm m.num<0))=false:=by
  have h9:=c86
  rw[aAa,Bool.not_not] at h9
  exact h9
 refine sk (sq (rT [6,7] (s3 (rt ?_))))
 have hr:fY k w m=(k,false):=(if_neg (bn hc1)).trans ((if_neg (bn hc)).trans (if_neg (bn hm)))
 refine bP rfl rfl ?_
 rw[hr]<;>rfl
set_option maxHeartbeats 3200000 in
theorem aCt (k:aL) (rec:List UInt8) (hb:k.held.length≤100000∧k.marks.length≤100000∧k.inbox.length≤100000) (hr:rec.length≤900000):Sp 38 2 [tV 0 k.V,tD 1 (.s rec)] [tV 0 (.tup [.agg [.d (.i ((eA k rec).1).id),.d (.i ((eA k rec).1).time),.d (.i ((eA k rec).1).next),.d (.sl (aD ((eA k rec).1).held)),.d (.sl (aJ ((eA k rec).1).marks)),.d (.sl (aD ((eA k rec).1).inbox))],.c (.d (.b (eA k rec).2))])]:=by
 have hl1:=uG rec
 have hl2:=dj rec
 have hl3:=yR (aN rec)
 refine sb Tryz.func38 rfl (sq (rT [1,2,4,69,70,71] (s3 (sq (rT [2,4,6,7,8,69,70,71] (s1 (xp (yi rec (by omega)) (ai rfl ?_))))))))
 refine s7 (sq (sq (rT [2,4,6,7,22,69,70,71] (s2 (cd rfl (fun c22=> ?_) fun c22=> ?_)))))
 · have hs:fP rec=false:=by simpa using c22
   refine sq (rT [4,5] (s3 (rt ?_)))
   have hr:eA k rec=(k,false):=aKu hs
   refine bP rfl rfl ?_
   rw[hr]<;>rfl
 have hs:fP rec=true:=by simpa using c22
 refine sk (sq (sq (rT [2,4,6,7,24,69,70,71] (s1 (bk (SW.midW (fun q=>q=[tP 2 2,tP 4 4,tD 6 (.s (bA rec)),tD 7 (.s (aN rec)),tD 24 (.s (bA rec)),tB 25 (bA rec==hG||bA rec==iO),oB 2 26 [.d (.i k.id),.d (.i k.time),.d (.i k.next),.d (.sl (aD k.held)),.d (.sl (aJ k.marks)),.d (.sl (aD k.inbox))],oB 4 26 [.d (.i 0),.d (.i 0),.d (.i 0),.nil,.nil,.nil]]) ?_ ?_))))))
 · refine sq (rT [2,4,6,7,24,25,69,70,71] (s2 (cd rfl (fun c25=> ?_) fun c25=> ?_)))
   · refine sk (wq [] [] (rfl) ?_)
     repeat' apply ai
     all_goals first|exact qx|(refine congrArg D.b ?_;simp_all[hG,iO,fS,dE,gU,fT,iZ,lD,gV])|exact qz
   refine rT [2,4,6,7,24,25,69,70,71] (s2 (wq [] [] (rfl) ?_))
   repeat' apply ai
   all_goals first|exact qx|(refine congrArg D.b ?_;simp_all[hG,iO,fS,dE,gU,fT,iZ,lD,gV])|exact qz
 rintro s rfl
 refine cd rfl (fun c25=> ?_) fun c25=> ?_
 · refine sq (rT [2,4,6,9,10] (s1 (xp (aAz (aN rec) (by omega)) (ai rfl ?_))))
   refine s5 (sq (rT [2,4,6,9,33] (s1 (cd rfl (fun c33=> ?_) fun c33=> ?_))))
   · refine sq (rT [4,5] (s3 (xp (aCs k (bA rec) (lC (aN rec)) hb) (ai rfl ?_))))
     refine s4 (rt ?_)
     have hr:eA k rec=_:=aEb hs c25 c33
     refine bP rfl rfl ?_
     rw[hr]<;>rfl
   refine sk (sq (rT [4,5] (s3 (rt ?_))))
   have hr2:eA k rec=(k,false):=by
    first|exact dm hs c25 c33|exact pA hs c25 c40 c50|exact yS hs c25 c40 c57 hm3|exact jn hs c25 c40 c57
   refine bP rfl rfl ?_
   rw[hr2]<;>rfl
 refine SW.midW (fun q=>q=[tP 2 2,tP 4 4,tD 6 (.s (bA rec)),tD 7 (.s (aN rec)),tD 24 (.s (bA rec)),tB 40 (bA rec==fS||bA rec==dE||bA rec==gU||bA rec==fT),oB 2 26 [.d (.i k.id),.d (.i k.time),.d (.i k.next),.d (.sl (aD k.held)),.d (.sl (aJ k.marks)),.d (.sl (aD k.inbox))],oB 4 26 [.d (.i 0),.d (.i 0),.d (.i 0),.nil,.nil,.nil]]) ?_ ?_
 · refine sq (rT [2,4,6,7,24,40,69,70,71] (s2 (cd rfl (fun c40=> ?_) fun c40=> ?_)))
   · refine sk (wq [] [] (rfl) ?_)
     repeat' apply ai
     all_goals first|exact qx|(refine congrArg D.b ?_;simp_all[hG,iO,fS,dE,gU,fT,iZ,lD,gV])|exact qz
   refine sq (rT [2,4,6,7,24,40,69,70,71] (s2 (cd rfl (fun c40_2=> ?_) fun c40_2=> ?_)))
   · refine sk (wq [] [] (rfl) ?_)
     repeat' apply ai
     all_goals first|exact qx|(refine congrArg D.b ?_;simp_all[hG,iO,fS,dE,gU,fT,iZ,lD,gV])|exact qz
   refine sq (rT [2,4,6,7,24,40,69,70,71] (s2 (cd rfl (fun c40_3=> ?_) fun c40_3=> ?_)))
   · refine sk (wq [] [] (rfl) ?_)
     repeat' apply ai
     all_goals first|exact qx|(refine congrArg D.b ?_;simp_all[hG,iO,fS,dE,gU,fT,iZ,lD,gV])|exact qz
   refine rT [2,4,6,7,24,40,69,70,71] (s2 (wq [] [] (rfl) ?_))
   repeat' apply ai
   all_goals first|exact qx|(refine congrArg D.b ?_;simp_all[hG,iO,fS,dE,gU,fT,iZ,lD,gV])|exact qz
 rintro s rfl
 refine cd rfl (fun c40=> ?_) fun c40=> ?_
 · refine sq (rT [2,4,6,11,12] (s1 (xp (zY (aN rec) (by omega)) (ai rfl ?_))))
   refine s6 (sq (rT [2,4,6,11,50] (s1 (cd rfl (fun c50=> ?_) fun c50=> ?_))))
   · refine sq (rT [4,5] (s3 (xp (yj k (bA rec) (cC (aN rec)).1 hb (by omega)) (ai rfl ?_))))
     refine s4 (rt ?_)
     have hr:eA k rec=_:=dn hs c25 c40 c50
     refine bP rfl rfl ?_
     rw[hr]<;>rfl
   refine sk (sq (rT [4,5] (s3 (rt ?_))))
   have hr2:eA k rec=(k,false):=by
    first|exact dm hs c25 c33|exact pA hs c25 c40 c50|exact yS hs c25 c40 c57 hm3|exact jn hs c25 c40 c57
   refine bP rfl rfl ?_
   rw[hr2]<;>rfl
 refine SW.midW (fun q=>q=[tP 2 2,tP 4 4,tD 6 (.s (bA rec)),tD 7 (.s (aN rec)),tB 57 (bA rec==iZ||bA rec==lD||bA rec==gV),oB 2 26 [.d (.i k.id),.d (.i k.time),.d (.i k.next),.d (.sl (aD k.held)),.d (.sl (aJ k.marks)),.d (.sl (aD k.inbox))],oB 4 26 [.d (.i 0),.d (.i 0),.d (.i 0),.nil,.nil,.nil]]) ?_ ?_
 · refine sq (rT [2,4,6,7,24,57,69,70,71] (s2 (cd rfl (fun c57=> ?_) fun c57=> ?_)))
   · refine sk (wq [] [] (rfl) ?_)
     repeat' apply ai
     all_goals first|exact qx|(refine congrArg D.b ?_;simp_all[hG,iO,fS,dE,gU,fT,iZ,lD,gV])|exact qz
   refine sq (rT [2,4,6,7,24,57,69,70,71] (s2 (cd rfl (fun c57_2=> ?_) fun c57_2=> ?_)))
   · refine sk (wq [] [] (rfl) ?_)
     repeat' apply ai
     all_goals first|exact qx|(refine congrArg D.b ?_;simp_all[hG,iO,fS,dE,gU,fT,iZ,lD,gV])|exact qz
   refine rT [2,4,6,7,57,69,70,71] (s2 (wq [] [] (rfl) ?_))
   repeat' apply ai
   all_goals first|exact qx|(refine congrArg D.b ?_;simp_all[hG,iO,fS,dE,gU,fT,iZ,lD,gV])|exact qz
 rintro s rfl
 refine cd rfl (fun c57=> ?_) fun c57=> ?_
 · refine sq (rT [2,4,6,13,14,69,70,71] (s1 (xp (qk (aN rec) (by omega)) (ai rfl ?_))))
   refine xp (zX (cT (aN rec)) (by have:=aKt (aN rec);omega) (fun x hx=>by have:=aNk (aN rec) x hx;omega)) (ai rfl ?_)
   refine s5 (sq (rT [2,4,6,13,72] (s2 (y3 (ai pk (cd rfl (fun c72=> ?_) fun c72=> ?_))))))
   · have hm3:=aAk c72
     have hm4:=hm3
     rw[aU7,beq_iff_eq] at hm4
     obtain⟨hno,hl4⟩:=hm4
     have e0:db (((cY (kL (cT (aN rec)))).getD 0 []).getD 0 (.i 0))=lC ((cT (aN rec)).getD 0 []):=aBx hno (by omega)
     have e1:db (((cY (kL (cT (aN rec)))).getD 1 []).getD 0 (.i 0))=lC ((cT (aN rec)).getD 1 []):=aBx hno (by omega)
     have e2:db (((cY (kL (cT (aN rec)))).getD 2 []).getD 0 (.i 0))=lC ((cT (aN rec)).getD 2 []):=aBx hno (by omega)
     refine sq (rD [4,5] (s3 (ai (by exact jc (l:=kL (cT (aN rec))) (by omega) (by rw[hP hno];omega)) (ai (by have:=iD (l:=kL (cT (aN rec))) (i:=0) (by rw[hP hno];omega);first|(rw[show((0:Int)).toNat=((0:Nat):Int).toNat from rfl,this];exact⟨aU6 rfl,rfl⟩)) (s1 (ai (by exact jc (l:=kL (cT (aN rec))) (by omega) (by rw[hP hno];omega)) (ai (by have:=iD (l:=kL (cT (aN rec))) (i:=1) (by rw[hP hno];omega);first|(rw[show((1:Int)).toNat=((1:Nat):Int).toNat from rfl,this];exact⟨aU6 rfl,rfl⟩)) (s1 (ai (by exact jc (l:=kL (cT (aN rec))) (by omega) (by rw[hP hno];omega)) (ai (by have:=iD (l:=kL (cT (aN rec))) (i:=2) (by rw[hP hno];omega);first|(rw[show((2:Int)).toNat=((2:Nat):Int).toNat from rfl,this];exact⟨aU6 rfl,rfl⟩)) (s1 (xp (yk k (bA rec) (three (cT (aN rec))) hb) (ai (by exact aUw e0 e1 e2) ?_)))))))))))))
     refine s4 (ai (by kernel_rfl) (rt ?_))
     have hr:eA k rec=_:=aAj hs c25 c40 c57 hm3
     refine bP rfl rfl ?_
     rw[hr]<;>rfl
   have hm3:=aAk c72
   refine sk (sq (rT [4,5] (s3 (rt ?_))))
   have hr2:eA k rec=(k,false):=by
    first|exact dm hs c25 c33|exact pA hs c25 c40 c50|exact yS hs c25 c40 c57 hm3|exact jn hs c25 c40 c57
   refine bP rfl rfl ?_
   rw[hr2]<;>rfl
 refine sk (sq (rT [4,5] (s3 (rt ?_))))
 have hr2:eA k rec=(k,false):=by
  first|exact dm hs c25 c33|exact pA hs c25 c40 c50|exact yS hs c25 c40 c57 hm3|exact jn hs c25 c40 c57
 refine bP rfl rfl ?_
 rw[hr2]<;>rfl
set_option maxHeartbeats 1600000 in
theorem gC (k:aL) (rec:List UInt8) (hk:KB k) (hr:rec.length≤900000):Sp 16 2 [tV 0 k.V,tD 1 (.s rec)] [tV 0 (.tup [.agg [.d (.i ((aO k rec).1).id),.d (.i ((aO k rec).1).time),.d (.i ((aO k rec).1).next),.d (.sl (aD ((aO k rec).1).held)),.d (.sl (aJ ((aO k rec).1).marks)),.d (.sl (aD ((aO k rec).1).inbox))],.c (.d (.b (aO k rec).2))])]:=by
 refine sb Tryz.func16 rfl (sq (rT [1,2,4,22,23,24] (s3 (sq (sq (rT [1,2,4,10,22,23,24] (s1 (xp (wT k hk.2.1 hk.2.2) (ai rfl ?_)))))))))
 refine s1 (cd rfl (fun c10=> ?_) fun c10=> ?_)
 · refine sq (rT [4,5] (s3 (rt ?_)))
   have hr:aO k rec=(.zero,false):=if_neg (by simpa using c10)
   rw[hr]
   exact rq [] [] rfl qz
 have hok:cO k=true:=by simpa using c10
 refine sk (sq (rT [2,4,6,7,22,23,24] (s1 (xp (tF k (by have:=hk.1;omega)) (ai rfl ?_)))))
 refine s1 (xp (aCt k rec hk.1 hr) (ai rfl ?_))
 refine s6 (sq (sq (rT [2,4,6,25] (s3 (y1 (xc (fun h=>wT (eA k rec).1 (mu (eL hok) (by omega)).2.1 (mu (eL hok) (by omega)).2.2) (ai rfl (ai rk ?_))))))))
 refine y1 (ai pk (cd rfl (fun c25=> ?_) fun c25=> ?_))
 · refine sq (rT [4,5] (s1 (xp (tF k (by have:=hk.1;omega)) (ai rfl ?_))))
   refine s2 (rt ?_)
   have hr:aO k rec=(k,false):=(if_pos hok).trans (if_neg (by intro h;rw[aU7] at h;rw[h.1,h.2] at c25;cases c25))
   rw[hr]
   exact rq [] [] rfl qz
 refine sk (sq (rT [4,5] (s1 (xp (tF (eA k rec).1 (by have:=(mu (eL hok) (show rec.length≤1000000 by omega)).1;omega)) (ai rfl ?_)))))
 refine s2 (rt ?_)
 have hr:aO k rec=((eA k rec).1,true):=(if_pos hok).trans (if_pos (by simpa using c25))
 rw[hr]
 exact rq [] [] rfl qz
set_option maxHeartbeats 800000 in
theorem ql (k:aL) (n:aR) (hb:k.held.length≤100000∧k.marks.length≤100000∧k.inbox.length≤100000) (hn:n.text.length≤140737488355328):Sp 101 2 [tV 0 k.V,tV 1 n.V] [tB 0 (gf k n)]:=by
 refine sb Tryz.func101 rfl (sq (rT [2,3,8,9,10,11,12,15,16,17,18,19,20,21,22,25,26,27,28,29,30,31,32,35,36,37,38,39,40,41,42] (s3 (sq (rT [4] (s1 (xp (wS n hn) (ai rfl ?_))))))))
 refine s1 (y4 (y1 (ai pk (s1 (y4 (y2 (xc (fun h=>(gA k.held _ _ (by omega))) (ai rfl (ai rk ?_)))))))))
 refine y1 (ai pk (s1 (y4 (y2 (xc (fun h=>(nO k.marks _ _ (by omega))) (ai rfl (ai rk ?_)))))))
 refine y1 (ai pk (s1 (y4 (y2 (xc (fun h=>(gA k.inbox _ _ (by omega))) (ai rfl (ai rk ?_)))))))
 refine y1 (ai pk (s1 (rt (bH rfl (congrArg D.b ?_)))))
 rfl
set_option maxHeartbeats 1600000 in
theorem cl (k:aL) (n:aR) (hb:k.held.length≤100000∧k.marks.length≤100000∧k.inbox.length≤100000) (hn:n.text.length≤140737488355328):Sp 71 2 [tV 0 k.V,tV 1 n.V] [tV 0 (.tup [.agg [.d (.i ((mJ k n).1).id),.d (.i ((mJ k n).1).time),.d (.i ((mJ k n).1).next),.d (.sl (aD ((mJ k n).1).held)),.d (.sl (aJ ((mJ k n).1).marks)),.d (.sl (aD ((mJ k n).1).inbox))],.c (.d (.b (mJ k n).2))])]:=by
 refine sb Tryz.func71 rfl (sq (rT [2,3,4] (s4 (sq (sq (rT [2,3,4,9] (s2 (xp (ql k n hb hn) (ai rfl ?_)))))))))
 refine s1 (cd rfl (fun c9=> ?_) fun c9=> ?_)
 · refine sq (rT [4,5] (s3 (rt ?_)))
   have hr:mJ k n=_:=aNn c9
   refine bP rfl rfl ?_
   rw[hr]<;>rfl
 refine sk (sq (sq (rT [2,3,4,15] (s5 (cd rfl (fun c15=> ?_) fun c15=> ?_)))))
 · refine sq (rT [2,4] (s3 (xp (mZ k.held n hb.1) (ai rfl ?_))))
   refine s2 (sq (rD [4,5] (s9 (s2 (ai (by kernel_rfl) (rt ?_))))))
   have hr:mJ k n=_:=aNo hb c9 c15
   refine bP rfl rfl ?_
   rw[hr]<;>rfl
 refine sk (sq (rT [2,3,4] (s3 (xp (mZ k.inbox n hb.2.2) (ai rfl ?_)))))
 refine s2 (sq (rT [2,4] (s9 (xp (qM k.marks ⟨n.frm,n.num,n.til⟩ hb.2.1) (ai rfl ?_)))))
 refine s2 (sq (rD [4,5] (s9 (s2 (ai (by kernel_rfl) (rt ?_))))))
 have hr:mJ k n=_:=aNp hb c9 c15
 refine bP rfl rfl ?_
 rw[hr]<;>rfl
set_option maxHeartbeats 1600000 in
theorem yl (k:aL) (a b:Int) (hb:k.held.length≤100000∧k.marks.length≤100000∧k.inbox.length≤100000):Sp 75 3 [tV 0 k.V,tI 1 a,tI 2 b] [tV 0 (.tup [.agg [.d (.i ((jj k a b).1).id),.d (.i ((jj k a b).1).time),.d (.i ((jj k a b).1).next),.d (.sl (aD ((jj k a b).1).held)),.d (.sl (aJ ((jj k a b).1).marks)),.d (.sl (aD ((jj k a b).1).inbox))],.c (.d (.b (jj k a b).2))])]:=by
 refine sb Tryz.func75 rfl (sq (rT [1,2,3,6] (s3 (sq (rT [1,2,3,6,8] (s4 (xp (gA k.held a b (by omega)) (ai rfl ?_))))))))
 refine s1 (sq (sq (rT [1,2,3,6,8,16] (s2 (cd rfl (fun c16=> ?_) fun c16=> ?_)))))
 · have hr:jj k a b=(k,false):=if_neg (by simpa using c16)
   refine sq (rT [6,7] (s3 (rt ?_)))
   rw[hr]
   exact rq [] [] rfl qz
 have hp:0≤aX k.held a b:=by simpa using c16
 have hr0:=fR k.held a b
 obtain⟨i,hi⟩:=Int.eq_ofNat_of_zero_le hp
 rw[hi] at hr0
 have hw:wrap64 ((i:Int)+1)=((i+1:Nat):Int):=by rw[aE (by omega)];omega
 have hr:jj k a b=_:=if_pos hp
 have hg:=aQ (l:=k.held) (i:=i) (by omega)
 have et:db (((aD k.held).getD (aX k.held a b).toNat []).getD 3 (.i 0))=(k.held.getD i .zero).til:=by rw[hi,aU4,hg];rfl
 refine sk (sq (rT [1,2,3,6,8,9] (s3 (ai (by rw[hi,aU4,hg];exact⟨⟨by omega,by rw[aA];omega⟩,rfl⟩) (ai (by rw[hi,aU4,hg];exact⟨aU6 rfl,rfl⟩) (s2 (sq (rD [1,2,3,6,9] (ai (by simp) (s3 (ai (by rw[hi];(try rw[hw]);exact⟨by rw[aA];exact⟨by first|(simp;done)|(simp;omega),by first|(simp;done)|(simp;omega),by first|(simp;done)|(simp;omega)⟩,eR _⟩) (ai (by rw[hi];(try rw[hw]);exact⟨by first|trivial|rfl|(simp;done),by first|rfl|(simp[aA];done),by first|exact jR _ _ _|(simp;done),by(try simp only[aU5,aU9,aU8,aVc,aVk,aA,jD,jE,jF,jG]);show _*48≤_;omega⟩) (s4 (ai (by rw[hi];(try rw[hw]);exact⟨by rw[aA];exact⟨by first|(simp;done)|(simp;omega),by first|(simp;done)|(simp;omega),by first|(simp;done)|(simp;omega)⟩,eR _⟩) (ai (by rw[hi];(try rw[hw]);exact⟨by first|trivial|rfl|(simp;done),by first|rfl|(simp[aA];done),by first|exact jR _ _ _|(simp;done),by(try simp only[aU5,aU9,aU8,aVc,aVk,aA,jD,jE,jF,jG]);show _*48≤_;omega⟩) (s2 (ai (by kernel_rfl) (sq (rT [3,6] (s7 (xp (qM k.marks ⟨a,b,(k.held.getD i .zero).til⟩ hb.2.1) (ai (by exact aNm rfl rfl et) ?_))))))))))))))))))))))
 refine s2 (sq (rT [6,7] (s3 (rt ?_))))
 rw[hr]
 refine rq [] [23] rfl ?_
 repeat' apply ai
 all_goals try exact qx
 all_goals(first|with_reducible rfl|(rw[hi,hw,uZ,gg,aU4];simp[aD,dN,List.map_take,List.map_drop];done)|(rw[hi];rfl)|rfl)
set_option maxHeartbeats 1600000 in
theorem ym (k:aL) (a b:Int) (hb:k.held.length≤100000∧k.marks.length≤100000∧k.inbox.length≤100000):Sp 76 3 [tV 0 k.V,tI 1 a,tI 2 b] [tV 0 (.tup [.agg [.d (.i ((jk k a b).1).id),.d (.i ((jk k a b).1).time),.d (.i ((jk k a b).1).next),.d (.sl (aD ((jk k a b).1).held)),.d (.sl (aJ ((jk k a b).1).marks)),.d (.sl (aD ((jk k a b).1).inbox))],.c (.d (.b (jk k a b).2))])]:=by
 refine sb Tryz.func76 rfl (sq (rT [1,2,3,6] (s3 (sq (rT [3,6,8] (s4 (xp (gA k.inbox a b (by omega)) (ai rfl ?_))))))))
 refine s1 (sq (sq (rT [3,6,8,15] (s2 (cd rfl (fun c15=> ?_) fun c15=> ?_)))))
 · have hr:jk k a b=(k,false):=if_neg (by simpa using c15)
   refine sq (rT [6,7] (s3 (rt ?_)))
   rw[hr]
   exact rq [] [] rfl qz
 have hp:0≤aX k.inbox a b:=by simpa using c15
 have hr0:=fR k.inbox a b
 obtain⟨i,hi⟩:=Int.eq_ofNat_of_zero_le hp
 rw[hi] at hr0
 have hw:wrap64 ((i:Int)+1)=((i+1:Nat):Int):=by rw[aE (by omega)];omega
 have hr:jk k a b=_:=if_pos hp
 refine sk (sq (rD [3,6] (ai (by simp) (s3 (ai (by rw[hi];(try rw[hw]);exact⟨by rw[aA];exact⟨by first|(simp;done)|(simp;omega),by first|(simp;done)|(simp;omega),by first|(simp;done)|(simp;omega)⟩,eR _⟩) (ai (by rw[hi];(try rw[hw]);exact⟨by first|trivial|rfl|(simp;done),by first|rfl|(simp[aA];done),by first|exact jR _ _ _|(simp;done),by(try simp only[aU5,aU9,aU8,aVc,aVk,aA,jD,jE,jF,jG]);show _*48≤_;omega⟩) (s4 (ai (by rw[hi];(try rw[hw]);exact⟨by rw[aA];exact⟨by first|(simp;done)|(simp;omega),by first|(simp;done)|(simp;omega),by first|(simp;done)|(simp;omega)⟩,eR _⟩) (ai (by rw[hi];(try rw[hw]);exact⟨by first|trivial|rfl|(simp;done),by first|rfl|(simp[aA];done),by first|exact jR _ _ _|(simp;done),by(try simp only[aU5,aU9,aU8,aVc,aVk,aA,jD,jE,jF,jG]);show _*48≤_;omega⟩) (s2 (ai (by kernel_rfl) (sq (rT [6,7] (s3 (rt ?_)))))))))))))))
 rw[hr]
 refine rq [] [17] rfl ?_
 repeat' apply ai
 all_goals try exact qx
 all_goals(first|with_reducible rfl|(rw[hi,hw,uZ,gg,aU4];simp[aD,dN,List.map_take,List.map_drop];done)|rfl)
theorem aIe (m:Nat) (hm:1≤m∧m≤1000000):Sp 35 1 [tI 0 (-(m:Int))] [tD 0 (.s (45::kC m))]:=by
 refine sb Tryz.func35 rfl (sq (rT [0] (s1 (sq (sq (rT [0,4] (s2 (cd rfl (fun c4=> ?_) fun c4=> ?_))))))))
 · simp at c4
   omega
 refine sk (sq (sq (rT [0,6] (s2 (cd rfl (fun c6=> ?_) fun c6=> ?_)))))
 · refine sq (rT [2] (s2 (xp (tY m (by omega)) (ai (by exact aJc (show wrap64 (0 - -(m:Int))=m by rw[aE (by omega)];omega)) ?_))))
   refine ai (by have:=aBq m;show _≤9223372036854775807;simp only[aU9,aU8];omega) (s1 (rt (bH rfl (congrArg D.s ?_))))
   rfl
 simp at c6
 omega
theorem vG (n:Int) (h: -1≤n∧n≤9999):Sp 35 1 [tI 0 n] [tD 0 (.s (jh n))]:=by
 unfold jh
 by_cases h0:n<0
 · obtain rfl:n= -1:=by omega
   exact aIe 1 (by omega)
 rw[if_neg h0]
 exact kH n (by omega)
end Go.Proofs.YtcbjphphppaoiaaGreatDoor
