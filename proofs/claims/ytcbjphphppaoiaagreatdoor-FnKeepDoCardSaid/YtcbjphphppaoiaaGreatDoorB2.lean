/- Plain functions, and contracts of the functions that the law reaches. -/
import Derived.Deep.Slices
import Derived.WideShapes
import GoSem.ClaimJoined
import Derived.Shelf.Utf8.RuneCount
import Derived.Shelf.Strconv.Itoa0
import Derived.Shelf.Strconv.Itoa1
import Derived.Shelf.LaysM
import Derived.Shelf.Strconv.Itoa2
import Derived.Shelf.Strconv.Itoa3
import Derived.Shelf.Strings.Search1
import Derived.Shelf.Strings.Search2
import Derived.Shelf.Strings.Search3
import Derived.Shelf.Strings.Cut
import Derived.Shelf.Strings.Count
import Derived.Shelf.Strings.Shaped
import Derived.Shelf.Strings.Split
import Derived.Shelf.Unicode.DecodeSlow
import Derived.Test.YtcbjphphppaoiaaGreatDoorProg
import Derived.Test.YtcbjphphppaoiaaGreatDoorB1
namespace Go.Ab
open Int renaming toNat_natCast→aSd
open List renaming length_append→aSe,length_nil→aSh,length_cons→aSi,length_take→aSk,getD_eq_getElem?_getD→aSl,getElem?_eq_some_iff→aSm,getElem?_eq_getElem→aSn,range→aSp,mem_map→aSq,length_drop→aSr,mem_singleton→aSs,all_eq_true→aSu,take_length→aSv,mem_cons→aSw
open Nat renaming le_of_ble_eq_true→aSf,zero_le→aSj,le_refl→aSo,add_mul→aSt
open Bool renaming and_eq_true→aSg
open Go Go.RowKit
set_option linter.unusedVariables false
set_option linter.unusedSimpArgs false
def vI (b:Int):Nat→Int
 |0=>0
 |d+1=>vI b d+mH b ((d+1:Nat):Int)
def ke (b n:Int):Int:=Int.tmod (wrap64 (Int.tdiv (eI (eI (wrap64 (wrap64 (n*31)+b)))) 16)) (vI b b.toNat)
def yQ (b:Int) (r:Int):Nat→Nat→Int
 |0,_=>b
 |f+1,d=>if(d:Int)<b then(if r<vI b d then d else yQ b r f (d+1)) else b
def jX (b n:Int):Int:=if rS b n then(if n<b then 1 else yQ b (ke b n) 6 1) else 0
theorem tX {b:Int} (hb:1≤b∧b≤6): ∀{d:Nat},(d:Int)≤6→0≤vI b d∧vI b d≤70*d∧(1≤d→10≤vI b d)
 |0,_=>by simp[vI]
 |d+1,h=>by
  have ih:=tX hb (d:=d) (by omega)
  have hw:=tK (b:=b) (d:=((d+1:Nat):Int)) hb (by omega)
  unfold vI
  refine⟨by omega,by omega,fun _=> ?_⟩
  by_cases h0:d=0
  · subst h0
    have:=hw.2.2 rfl
    omega
  · have:=ih.2.2 (by omega);omega
theorem qp {b r:Int} (hb:1≤b): ∀(f d:Nat),1≤d→1≤yQ b r f d∧yQ b r f d≤b
 |0,d,h=>by unfold yQ;omega
 |f+1,d,h=>by
  unfold yQ
  split
  · split
    · omega
    · exact qp hb f (d+1) (by omega)
  · omega
theorem rY {b n:Int} (h:rS b n=true):1≤jX b n∧jX b n≤b:=by
 obtain⟨hb,_⟩:=vV h
 unfold jX
 rw[if_pos h]
 split
 · omega
 · exact qp hb.1 6 1 (aSo _)
theorem aK9 {b r:Int} {f d:Nat} (hd: (d:Int)<b) (h:r<vI b d):yQ b r (f+1) d=d:=by
 unfold yQ;rw[if_pos hd,if_pos h]
theorem aIn {b r:Int} {f d:Nat} (hd: (d:Int)<b) (h: ¬r<vI b d):yQ b r (f+1) d=yQ b r f (d+1):=by
 conv=>lhs;unfold yQ
 rw[if_pos hd,if_neg h]
theorem gn {b r:Int} {f d:Nat} (hd: ¬(d:Int)<b):yQ b r f d=b:=by
 cases f with
 |zero=>rfl
 |succ f=>unfold yQ;rw[if_neg hd]
def rM (u:List Bool) (b:Int):Nat→Int→Int
 |0,a=>a
 |f+1,a=>if u.getD a.toNat false then rM u b f (Int.tmod (wrap64 (a+1)) b) else a
def xJ (b x:Int) (u:List Bool):List Bool:=u.set (rM u b 6 (Int.tmod (wrap64 (Int.tdiv (eI x) 16)) b)).toNat true
def aCn (b:Int):Nat→Int→List Bool→List Bool
 |0,_,u=>u
 |k+1,x,u=>aCn b k (eI x) (xJ b x u)
def vJ (b n:Int):List Bool:=aCn b (jX b n).toNat (eI (wrap64 (wrap64 (n*7)+1))) (List.replicate 6 false)
def aQd (u:List Bool):List Int:=((aSp u.length).filter fun i=>u.getD i false).map fun(i:Nat)=>((i:Nat):Int)
def cM (b n:Int):List Int:=if rS b n then(if n<b then [n] else aQd (vJ b n)) else []
theorem bm {u:List Bool} {b a:Int} {f:Nat} (h:u.getD a.toNat false=false):rM u b f a=a:=by
 cases f with
 |zero=>rfl
 |succ f=>unfold rM;rw[h];rfl
theorem xK {u:List Bool} {b a:Int} {f:Nat} (h:u.getD a.toNat false=true):rM u b (f+1) a=rM u b f (Int.tmod (wrap64 (a+1)) b):=by
 conv=>lhs;unfold rM
 rw[if_pos h]
theorem qq {u:List Bool} {b:Int} (hb:1≤b∧b≤6) {f:Int} (hf:0≤f∧f<b) (hfree:u.getD f.toNat false=false): ∀(g:Nat) (a:Int),0≤a∧a<b→((f+b - a) % b).toNat≤g→
 (0≤rM u b g a∧rM u b g a<b)∧u.getD (rM u b g a).toNat false=false
 |0,a,ha,hg=>by
  have e:a=f:=by
   by_cases h:a<f
   · have: (f+b - a) % b=f - a:=by
      rw[show f+b - a=(f - a)+b by omega,Int.add_emod_right,Int.emod_eq_of_lt (by omega) (by omega)]
     omega
   · by_cases h2:a=f
     · exact h2
     · have: (f+b - a) % b=f+b - a:=Int.emod_eq_of_lt (by omega) (by omega)
       omega
  subst e
  exact⟨ha,hfree⟩
 |g+1,a,ha,hg=>by
  cases hu:u.getD a.toNat false with
  |false=>rw[bm hu];exact⟨ha,hu⟩
  |true=>
   have hne:a≠f:=fun e=>by subst e;rw[hfree] at hu;cases hu
   obtain⟨q1,q2⟩:=aEt hb hf ha hne
   rw[xK hu]
   exact qq hb hf hfree g _ q2 (by omega)
theorem xn {b x:Int} (hb:1≤b∧b≤6):0≤Int.tmod (wrap64 (Int.tdiv (eI x) 16)) b∧Int.tmod (wrap64 (Int.tdiv (eI x) 16)) b<b:=by
 have hr:=zG x
 exact mG (x:=wrap64 (Int.tdiv (eI x) 16)) (n:=b) (by rw[aF (by have:=oA hr.1 (n:=16) (by omega);omega)];exact(oA hr.1 (by omega)).1) hb.1
def UOk (b:Int) (u:List Bool):Prop:=u.length=6∧ ∀i:Nat,b≤i→u.getD i false=false
theorem aCo {b:Int} {u:List Bool} (hb:1≤b∧b≤6) (h:UOk b u) (hc: (u.count true:Int)<b): ∃f:Int,(0≤f∧f<b)∧u.getD f.toNat false=false:=by
 obtain⟨f,hf1,hf2⟩:=aBw (u:=u.take b.toNat) (by
  have h1: (u.take b.toNat).count true≤u.count true:=(List.take_sublist _ _).count_le _
  rw[aSk,h.1];omega)
 rw[aSk,h.1] at hf1
 refine⟨f,by omega,?_⟩
 rw[bd (by omega)] at hf2
 rw[aSd];exact hf2
theorem aCp {b x:Int} {u:List Bool} (hb:1≤b∧b≤6) (h:UOk b u) (hc: (u.count true:Int)<b):UOk b (xJ b x u)∧(xJ b x u).count true=u.count true+1:=by
 obtain⟨f,hf,hfree⟩:=aCo hb h hc
 have ha:=xn (x:=x) hb
 obtain⟨q1,q2⟩:=qq hb hf hfree 6 _ ha (by
  have:=Int.emod_lt_of_pos (f+b - Int.tmod (wrap64 (Int.tdiv (eI x) 16)) b) (show 0<b by omega)
  have:=Int.emod_nonneg (f+b - Int.tmod (wrap64 (Int.tdiv (eI x) 16)) b) (show b≠0 by omega)
  omega)
 refine⟨⟨by rw[xJ,List.length_set];exact h.1,fun i hi=> ?_⟩,?_⟩
 · rw[xJ,aSl,List.getElem?_set_ne (by omega),← aSl]
   exact h.2 i hi
 · exact aHu (by rw[h.1];omega) q2
theorem wA (b:Int):UOk b (List.replicate 6 false)∧(List.replicate 6 false).count true=0:=by
 refine⟨⟨rfl,fun i _=> ?_⟩,rfl⟩
 rw[aSl,List.getElem?_replicate]
 split<;>rfl
def dJ (t:List UInt8):List (List UInt8):=if gX t.length 1 24 then(aSp ((t.length+3) / 4)).map fun i=>(aSp 4).map fun j=>t.getD (4*i+j) 0 else []
def uc (a b:List UInt8):List UInt8:=(aSp 4).map fun i=>u8 (jb (iB a i) (iB b i))
def wB (bl:List (List UInt8)):List UInt8→List Int→List UInt8
 |x,[]=>x
 |x,k::ks=>wB bl (uc x (bl.getD k.toNat [])) ks
def xL (t:List UInt8) (n:Int):List UInt8:=
 if dJ t=[]∨cM (dJ t).length n=[] then [] else wB (dJ t) [0,0,0,0] (cM (dJ t).length n)
def nT (n:Nat):List UInt8:=iS++[32]++jQ n
def go (n:Nat):List UInt8:=kD++[32]++jQ n
def qU (w:List UInt8) (m:bZ):List UInt8:=w++[32]++jQ m.frm.toNat++[32]++jQ m.num.toNat++[32]++jQ m.til.toNat
def eX (w:List UInt8) (n:bB):List UInt8:=w++[32]++gJ n
def zp (k:aR):List (List UInt8):=
 (if 0<k.time then [nT k.time.toNat] else [])++(if 1<k.next then [go k.next.toNat] else [])++k.marks.map (qU iC)++k.held.map (eX gY)++k.inbox.map (eX fT)
def iT (k:aR):List (List UInt8):=if dS k then zp k else []
def lA (k:aO) (s:List UInt8×Int):aO:={k with log:=s.1,forced:=s.2}
def oN (k:aO) (rec:List UInt8):aO×Bool:=
 if(bY (aZ k).1 rec).2 then
  if(cB k.log k.forced rec).2 then(lA k (cB k.log k.forced rec).1,true)
  else if(eO k.log k.forced (iT (aZ k).1)).2 then
   if(cB (eO k.log k.forced (iT (aZ k).1)).1.1 (eO k.log k.forced (iT (aZ k).1)).1.2 rec).2 then
    (lA k (cB (eO k.log k.forced (iT (aZ k).1)).1.1 (eO k.log k.forced (iT (aZ k).1)).1.2 rec).1,true)
   else(k,false)
  else(k,false)
 else(k,false)
def iZ (k:aO) (rec:List UInt8):aO×Bool:=if(oN k rec).2 then(tW (oN k rec).1,true) else(k,false)
def eD (k:aO):aO×Bool:=if bF k then(if k.up then iZ k (nT ((aZ k).1.time+1).toNat) else(k,false)) else(.zero,false)
def nU (k:aO) (to til:Int) (text:List UInt8):bB:=⟨k.id,(aZ k).1.next,to,til,text⟩
def dV (k:aO) (to til:Int) (text:List UInt8):aO×Int:=
 if bF k then(if k.up then(if(iZ k (eX jU (nU k to til text))).2 then((iZ k (eX jU (nU k to til text))).1,(aZ k).1.next) else(k,0)) else(k,0)) else(.zero,0)
def xM (k:aO) (f n:Int):List UInt8:=qU lY ⟨f,n,((aZ k).1.inbox.getD (aX (aZ k).1.inbox f n).toNat .zero).til⟩
def cH (k:aO) (f n:Int):aO×bB×Bool:=
 if bF k then
  (if k.up&&decide (0≤aX (aZ k).1.inbox f n) then(if(iZ k (xM k f n)).2 then((iZ k (xM k f n)).1,(aZ k).1.inbox.getD (aX (aZ k).1.inbox f n).toNat .zero,true) else(k,.zero,false)) else(k,.zero,false))
 else(.zero,.zero,false)
def cF.zero:cF:=⟨0,0,0,0,0,0,0,0,0,[]⟩
def aCq (k:aO) (n:bB) (mix:Int):cF:=⟨1,k.id,hG k.id n.to,n.frm,n.num,n.to,n.til,n.text.length,mix,xL n.text mix⟩
def eA (k:aO) (f n mix:Int):cF×Bool:=
 if bF k&&k.up&&gX mix 0 999&&decide (0≤aX (aZ k).1.held f n) then(aCq k ((aZ k).1.held.getD (aX (aZ k).1.held f n).toNat .zero) mix,true) else(.zero,false)
def dX (k:aO):aO×Bool:=
 if bF k then(if k.up&&(eO k.log k.forced (iT (aZ k).1)).2 then(lA k (eO k.log k.forced (iT (aZ k).1)).1,true) else(k,false)) else(.zero,false)
section
variable {τ σ':St} {rl:List (Nat×Nat)} {bor:List Nat} {r:St}
end
section
variable {P:Program} {T:gB} {o:Oper} {σ:St} {x y:Operand} {d ob j:Nat} {t ty:TypeId} {ti:TI} {Rx Ry:List (dD×Option K)} {k:List (dD×Option K)→List (dD×K)→Prop}
end
theorem zq {d:Int} (h:2≤d∧d≤6):wrap64 (d*wrap64 (d - 1))≠0:=by
 rw[aF (n:=d - 1) (by omega)]
 have:d=2∨d=3∨d=4∨d=5∨d=6:=by omega
 rcases this with rfl|rfl|rfl|rfl|rfl<;>(rw[aF (by omega)];omega)
theorem na {b n:Int} (h:rS b n=true) (hn:n<b):jX b n=1:=by rw[jX,if_pos h,if_pos hn]
theorem ud {b n:Int} (h:rS b n=true) (hn: ¬n<b):jX b n=yQ b (ke b n) 6 1:=by rw[jX,if_pos h,if_neg hn]
theorem aIo {b r:Int} {j:Nat} (hj:j+1≤6) (hle: ((j+1:Nat):Int)≤b) (h: ¬r<vI b (j+1)):yQ b r (6 - j) (j+1)=yQ b r (6 - (j+1)) (j+1+1):=by
 by_cases hb: ((j+1:Nat):Int)<b
 · rw[show 6 - j=(6 - (j+1))+1 by omega,aIn hb h]
 · rw[gn hb,gn (by omega)]
theorem aIp {b r:Int} {j:Nat} (hj:j+1≤6) (hle: ((j+1:Nat):Int)≤b) (h:r<vI b (j+1)):yQ b r (6 - j) (j+1)=((j+1:Nat):Int):=by
 by_cases hb: ((j+1:Nat):Int)<b
 · rw[show 6 - j=(6 - (j+1))+1 by omega,aK9 hb h]
 · rw[gn hb];omega
theorem aFb {b n:Int} (hb:1≤b∧b≤6):0≤ke b n∧ke b n<vI b b.toNat:=by
 have h1:=(tX hb (d:=b.toNat) (by omega)).2.2 (by omega)
 have hr:=zG (eI (wrap64 (wrap64 (n*31)+b)))
 exact mG (x:=wrap64 (Int.tdiv (eI (eI (wrap64 (wrap64 (n*31)+b)))) 16)) (by rw[aF (by have:=oA hr.1 (n:=16) (by omega);omega)];exact(oA hr.1 (by omega)).1) (by omega)
theorem qr {u:List Bool} {b:Int} (hb:1≤b∧b≤6) {f:Int} (hf:0≤f∧f<b) (hfree:u.getD f.toNat false=false): ∀(g h:Nat) (a:Int),0≤a∧a<b→((f+b - a) % b).toNat≤g→((f+b - a) % b).toNat≤h→rM u b g a=rM u b h a
 |g,h,a,ha,hg,hh=>by
  cases hu:u.getD a.toNat false with
  |false=>rw[bm hu,bm hu]
  |true=>
   have hne:a≠f:=fun e=>by subst e;rw[hfree] at hu;cases hu
   obtain⟨q1,q2⟩:=aEt hb hf ha hne
   match g,h,hg,hh with
   |0,_,hg,_=>omega
   |_+1,0,_,hh=>omega
   |g+1,h+1,hg,hh=>
    rw[xK hu,xK hu]
    exact qr hb hf hfree g h _ q2 (by omega) (by omega)
theorem aLa {u:List Bool} {b:Int} (hb:1≤b∧b≤6) {f:Int} (hf:0≤f∧f<b) (hfree:u.getD f.toNat false=false) {a:Int} (ha:0≤a∧a<b) (hu:u.getD a.toNat false=true):rM u b 6 a=rM u b 6 (Int.tmod (wrap64 (a+1)) b):=by
 have h1:=Int.emod_lt_of_pos (f+b - a) (show 0<b by omega)
 have h2:=Int.emod_nonneg (f+b - a) (show b≠0 by omega)
 rw[qr hb hf hfree 6 7 a ha (by omega) (by omega),xK hu]
def oD (u:List Bool) (i:Nat):List Int:=((aSp i).filter fun i=>u.getD i false).map fun(i:Nat)=>((i:Nat):Int)
theorem qt {u:List Bool} {i:Nat} (h:u.getD i false=true):oD u (i+1)=oD u i++[(i:Int)]:=by
 unfold oD
 rw[List.range_succ,List.filter_append,List.map_append,List.filter_cons_of_pos (by exact h)]
 rfl
theorem kf {u:List Bool} {i:Nat} (h:u.getD i false=false):oD u (i+1)=oD u i:=by
 unfold oD
 rw[List.range_succ,List.filter_append,List.map_append,List.filter_cons_of_neg (by rw[h];exact Bool.false_ne_true)]
 exact List.append_nil _
theorem qu {u:List Bool}:oD u u.length=aQd u:=rfl
theorem mj {u:List Bool} {i:Nat} (h: ∀j,i≤j→u.getD j false=false): ∀{m:Nat},i≤m→oD u m=oD u i
 |0,hm=>by rw[Nat.le_zero.1 hm]
 |m+1,hm=>by
  by_cases e:i=m+1
  · rw[e]
  · rw[kf (h m (by omega)),mj h (by omega)]
theorem cf (u:List Bool) (i:Nat): (oD u i).length≤i:=by
 unfold oD
 rw[List.length_map]
 exact Nat.le_trans (List.length_filter_le _ _) (by simp)
theorem aFc {u:List Bool} {i:Nat} {x:Int} (h:x∈oD u i):0≤x∧u.getD x.toNat false=true:=by
 unfold oD at h
 obtain⟨j,hj,rfl⟩:=aSq.1 h
 have:=(List.mem_filter.1 hj).2
 exact⟨by omega,by rw[aSd];exact this⟩
theorem xN {b n:Int} (h: ¬rS b n=true):cM b n=[]:=if_neg h
theorem zQ {b n:Int} (h:rS b n=true) (hn:n<b):cM b n=[n]:=by rw[cM,if_pos h,if_pos hn]
theorem kg {b n:Int} (h:rS b n=true) (hn: ¬n<b):cM b n=aQd (vJ b n):=by rw[cM,if_pos h,if_neg hn]
theorem kh {b:Int} (hb:1≤b∧b≤6): ∀(k:Nat) (x:Int) (u:List Bool),UOk b u→((u.count true:Int)+k≤b)→UOk b (aCn b k x u)
 |0,x,u,h,_=>h
 |k+1,x,u,h,hc=>by
  obtain⟨h1,h2⟩:=aCp (x:=x) hb h (by omega)
  exact kh hb k (eI x) _ h1 (by rw[h2];omega)
theorem uO {b n:Int}: ∀x∈cM b n,0≤x∧x<b:=by
 intro x hx
 by_cases h:rS b n=true
 · obtain⟨hb,hn⟩:=vV h
   by_cases hs:n<b
   · rw[zQ h hs] at hx
     simp at hx;omega
   · rw[kg h hs] at hx
     have hu:UOk b (vJ b n):=kh hb _ _ _ (wA b).1 (by rw[(wA b).2];have:=rY h;omega)
     obtain⟨q1,q2⟩:=aFc (i:=(vJ b n).length) hx
     refine⟨q1,?_⟩
     by_cases hlt:x<b
     · exact hlt
     · rw[hu.2 x.toNat (by omega)] at q2;cases q2
 · rw[xN h] at hx;cases hx
theorem gp (b n:Int): (cM b n).length≤6:=by
 by_cases h:rS b n=true
 · obtain⟨hb,hn⟩:=vV h
   by_cases hs:n<b
   · rw[zQ h hs];simp
   · rw[kg h hs]
     have hu:UOk b (vJ b n):=kh hb _ _ _ (wA b).1 (by rw[(wA b).2];have:=rY h;omega)
     rw[← qu]
     have:=cf (vJ b n) (vJ b n).length
     have:=hu.1;omega
 · rw[xN h];simp
def zR (t:List UInt8) (i c:Nat):List UInt8:=(aSp c).map fun j=>t.getD (4*i+j) 0
def uP (t:List UInt8) (k:Nat):List (List UInt8):=(aSp k).map fun i=>zR t i 4
def qv (a b:List UInt8) (k:Nat):List UInt8:=(aSp k).map fun i=>u8 (jb (iB a i) (iB b i))
theorem xO (t:List UInt8) (i c:Nat):zR t i (c+1)=zR t i c++[t.getD (4*i+c) 0]:=by
 unfold zR;rw[List.range_succ,List.map_append];rfl
theorem aFd (t:List UInt8) (k:Nat):uP t (k+1)=uP t k++[zR t k 4]:=by
 unfold uP;rw[List.range_succ,List.map_append];rfl
theorem aFe (a b:List UInt8) (k:Nat):qv a b (k+1)=qv a b k++[u8 (jb (iB a k) (iB b k))]:=by
 unfold qv;rw[List.range_succ,List.map_append];rfl
theorem lB (t:List UInt8) (i c:Nat): (zR t i c).length=c:=by simp[zR]
theorem xP (t:List UInt8) (k:Nat): (uP t k).length=k:=by simp[uP]
theorem gq (a b:List UInt8) (k:Nat): (qv a b k).length=k:=by simp[qv]
theorem qw {t:List UInt8} (h:gX t.length 1 24=true):dJ t=uP t ((t.length+3) / 4):=if_pos h
theorem xo {t:List UInt8} (h: ¬gX t.length 1 24=true):dJ t=[]:=if_neg h
theorem aFf {t:List UInt8}: (dJ t).length≤6∧ ∀x∈dJ t,x.length=4:=by
 by_cases h:gX t.length 1 24=true
 · rw[qw h]
   refine⟨?_,fun x hx=> ?_⟩
   · rw[xP]
     have h1: (1:Int)≤t.length∧(t.length:Int)≤24:=by simpa[gX] using h
     omega
   · obtain⟨i,_,rfl⟩:=aSq.1 hx
     exact lB t i 4
 · rw[xo h];exact⟨by simp,fun x hx=>by cases hx⟩
theorem ml (a b:List UInt8): (uc a b).length=4:=by simp[uc]
theorem qy (bl:List (List UInt8)): ∀(x:List UInt8) (l:List Int) (k:Int),wB bl x (l++[k])=uc (wB bl x l) (bl.getD k.toNat [])
 |x,[],k=>rfl
 |x,j::l,k=>qy bl _ l k
def aLb (bl:List (List UInt8)) (ks:List Int) (i:Nat):List UInt8:=if i=0 then [] else wB bl [0,0,0,0] (ks.take i)
theorem aFg {bl:List (List UInt8)} {ks:List Int} {i:Nat} (h:i<ks.length) {x:List UInt8}:wB bl x (ks.take (i+1))=uc (wB bl x (ks.take i)) (bl.getD (ks.getD i 0).toNat []):=by
 rw[fU (z:=0) h,qy]
theorem gr {bl:List (List UInt8)} {ks:List Int}: ∀{x:List UInt8},x.length=4→(wB bl x ks).length=4:=by
 induction ks with
 |nil=>intro x h;exact h
 |cons k ks ih=>intro x h;exact ih (ml _ _)
theorem gt {t:List UInt8} {n:Int} (h:dJ t=[]∨cM (dJ t).length n=[]):xL t n=[]:=if_pos h
theorem gu {t:List UInt8} {n:Int} (h: ¬(dJ t=[]∨cM (dJ t).length n=[])):xL t n=wB (dJ t) [0,0,0,0] (cM (dJ t).length n):=if_neg h
theorem aFh (n:Int):cM ((([]:List (List UInt8)).length:Nat):Int) n=[]:=xN (by simp[rS,gX])
theorem aFi {t:List UInt8} {n:Int}:xL t n=aLb (dJ t) (cM (dJ t).length n) (cM (dJ t).length n).length:=by
 by_cases h:cM (dJ t).length n=[]
 · rw[gt (.inr h),h];rfl
 · have h2: ¬dJ t=[]:=fun e=>h (by rw[e];exact aFh n)
   rw[gu (by rintro(h3|h3);exact h2 h3;exact h h3),aLb,if_neg (by rw[List.length_eq_zero_iff];exact h),aSv]
theorem re (t:List UInt8) (n:Int): (xL t n).length≤4:=by
 rw[aFi,aLb]
 split
 · simp
 · rw[gr rfl];omega
theorem aQe {t:List UInt8} {n:Int} {i:Nat} (h:i< (cM (dJ t).length n).length):0≤(cM (dJ t).length n).getD i 0∧(cM (dJ t).length n).getD i 0< (dJ t).length∧((dJ t).getD ((cM (dJ t).length n).getD i 0).toNat []).length=4:=by
 have h1:=uO (b:=(dJ t).length) (n:=n) ((cM (dJ t).length n).getD i 0) (by rw[aSl,aSn h];exact List.getElem_mem _)
 refine⟨h1.1,h1.2,(aFf (t:=t)).2 _ ?_⟩
 rw[aSl,aSn (by omega)];exact List.getElem_mem _
theorem getD_none {α:Type} {l:List α} {i:Nat} {z:α} (h:l.length≤i):l.getD i z=z:=by
 rw[aSl,List.getElem?_eq_none h];rfl
deriving instance DecidableEq for cF
theorem ki {k:aR} {r:List UInt8} (h: (bY k r).2=true):dS (bY k r).1=true:=by
 unfold bY at h ⊢
 split at h
 · rename_i hk
   rw[if_pos hk]
   unfold kY at h ⊢
   split at h
   · rename_i hx
     rw[if_pos hx]
     simp only[aSg] at hx
     exact hx.2
   · cases h
 · cases h
theorem xq: ∀{rs:List (List UInt8)} {k:aR},dS k=true→(nI k rs).2=true→dS (nI k rs).1=true
 | [],k,hk,h=>hk
 |r::rs,k,hk,h=>by
  unfold nI at h ⊢
  split at h
  · rename_i hd
    rw[if_pos hd]
    exact xq (ki hd) h
  · cases h
theorem zr {id:Int} (h:eB id=true):dS (aY id)=true:=by
 simp[dS,aY,h,gX,jO,nR]
theorem aIq {id:Int} {rs:List (List UInt8)} (h: (gT id rs).2=true):dS (gT id rs).1=true:=by
 unfold gT at h ⊢
 split at h
 · rename_i hn
   rw[if_pos hn]
   exact xq (zr hn) h
 · cases h
theorem gN {k:aO} (h:bF k=true):dS (aZ k).1=true:=by
 unfold bF at h
 simp only[aSg] at h
 exact aIq h.1.1.2
theorem kK {k:aO} (h:bF k=true):dI k=(aZ k).1:=if_pos h
theorem gv {k:aO} {f n mix:Int} (h: ¬(bF k&&k.up&&gX mix 0 999&&decide (0≤aX (aZ k).1.held f n))=true):eA k f n mix=(.zero,false):=if_neg h
theorem ue {k:aO} {f n mix:Int} (h1:bF k=true) (h2:k.up=true) (h3:gX mix 0 999=true) (h4:0≤aX (aZ k).1.held f n):eA k f n mix=(aCq k ((aZ k).1.held.getD (aX (aZ k).1.held f n).toNat .zero) mix,true):=by
 unfold eA
 rw[if_pos (by rw[h1,h2,h3,decide_eq_true h4];rfl)]
theorem qF {k:aO} (h:bF k=true) {f n:Int} (hp:0≤aX (aZ k).1.held f n): ∃j:Nat,aX (aZ k).1.held f n=j∧j< (aZ k).1.held.length∧((aZ k).1.held.getD j .zero).text.length≤140737488355328:=by
 obtain⟨j,hj⟩:=Int.eq_ofNat_of_zero_le hp
 have hlt:=(fD (aZ k).1.held f n).2
 refine⟨j,hj,by omega,?_⟩
 have h6:=eC (gN h)
 exact h6.2.1 _ (dU (z:=bB.zero) (l:=(aZ k).1.held) (i:=j) (by omega))
structure pG where
 frm:Int
 to:Int
 data:List UInt8
 done:Bool
 deriving DecidableEq
def pG.row (p:pG):List D:=[.i p.frm,.i p.to,.s p.data,.b p.done]
abbrev pG.V (p:pG):V:= .e (.agg [.d (.i p.frm),.d (.i p.to),.d (.s p.data),.d (.b p.done)])
def pG.zero:pG:=⟨0,0,[],false⟩
def rg (l:List pG):List (List D):=l.map pG.row
def aG (l:List aO):List (List D):=l.map aO.row
structure kj where
 time:Int
 keepers:List aO
 links:List Bool
 radio:List pG
 sent:List bB
 got:List bB
 deriving DecidableEq
def kj.row (r:kj):List D:=[.i r.time,.sl (aG r.keepers),.sl (aK r.links),.sl (rg r.radio),.sl (aE r.sent),.sl (aE r.got)]
abbrev kj.V (r:kj):V:= .e (.agg [.d (.i r.time),.d (.sl (aG r.keepers)),.d (.sl (aK r.links)),.d (.sl (rg r.radio)),.d (.sl (aE r.sent)),.d (.sl (aE r.got))])
def kj.zero:kj:=⟨0,[],[],[],[],[]⟩
theorem bC (l:List aO): (aG l).length=l.length:=by simp[aG]
theorem bW {l:List aO} {i:Nat} (h:i<l.length): (aG l).getD i []=(l.getD i aO.zero).row:=by
 rw[aSl,aSl]
 simp[aG,h]
theorem zt {l:List UInt8} {f:Int} {rec:List UInt8} (h: ¬eV l f=true):cB l f rec=(([],0),false):=if_neg h
theorem aCr {l:List UInt8} {f:Int} {rec:List UInt8} (h:eV l f=true) (h2: ¬(uN rec=true∧l.length+(kZ rec).length≤2400)):cB l f rec=((l,f),false):=by
 unfold cB
 rw[if_pos h,if_neg (by simpa using h2)]
theorem zu {l:List UInt8} {f:Int} {rec:List UInt8} (h:eV l f=true) (h2:uN rec=true∧l.length+(kZ rec).length≤2400):cB l f rec=((l++kZ rec,f),true):=by
 unfold cB
 rw[if_pos h,if_pos (by simpa using h2)]
theorem uf {l:List UInt8} {f:Int} {recs:List (List UInt8)} (h: ¬eV l f=true):eO l f recs=(([],0),false):=if_neg h
theorem gw {l:List UInt8} {f:Int} {recs:List (List UInt8)} (h:eV l f=true) (h2: ¬(recs.all uN=true∧(gU recs).length≤2400)):eO l f recs=((l,f),false):=by
 unfold eO
 rw[if_pos h,if_neg (by simpa using h2)]
theorem ug {l:List UInt8} {f:Int} {recs:List (List UInt8)} (h:eV l f=true) (h2:recs.all uN=true∧(gU recs).length≤2400):eO l f recs=((gU recs,((gU recs).length:Int)),true):=by
 unfold eO
 rw[if_pos h,if_pos (by simpa using h2)]
theorem zw {recs:List (List UInt8)} {i:Nat} (h:i<recs.length):gU (recs.take (i+1))=gU (recs.take i)++kZ (recs.getD i []):=by
 rw[fU (z:=[]) h,zo]
theorem aFj (recs:List (List UInt8)) (i:Nat): (gU (recs.take i)).length≤(gU recs).length:=by
 conv=>rhs;rw[← List.take_append_drop i recs]
 unfold gU
 rw[List.map_append,List.flatten_append,aSe]
 omega
theorem cg: ∀{recs:List (List UInt8)},(∀r∈recs,r.length≤900000)→(gU recs).length≤recs.length*900008
 | [],_=>by simp[gU]
 |r::recs,h=>by
  have h1:=zP (h r (List.mem_cons_self ..))
  have h2:=cg (recs:=recs) fun x hx=>h x (List.mem_cons_of_mem _ hx)
  have h3:=h r (List.mem_cons_self ..)
  have e:gU (r::recs)=kZ r++gU recs:=by simp[gU]
  rw[e,aSe,aSi]
  omega
theorem aLc {recs:List (List UInt8)} {i:Nat} (h:i<recs.length) (hb:uN (recs.getD i [])=false): ¬recs.all uN=true:=by
 intro h9
 rw[aSu.1 h9 _ (dU h)] at hb
 cases hb
theorem aIr {recs:List (List UInt8)} (hk: ∀j,j<recs.length→uN (recs.getD j [])=true):recs.all uN=true:=by
 rw[aSu]
 intro x hx
 obtain⟨i,hi⟩:=List.mem_iff_getElem?.1 hx
 have hlt:=(aSm.1 hi).1
 have:=hk i hlt
 rw[aSl,hi] at this
 exact this
theorem aCs {a:Bool} {n m:Nat} {c:Bool} (h: (!a||decide (wrap64 ((n:Int)+(m:Int))>2400))=c) (hn:n≤2400) (hm:m≤1000000): (a=true∧n+m≤2400)↔c=false:=by
 subst h
 rw[aF (by omega)]
 cases a
 · simp
 · simp;omega
def zS (k:aR):List (List UInt8):=if 0<k.time then [nT k.time.toNat] else []
def zT (k:aR):List (List UInt8):=zS k++(if 1<k.next then [go k.next.toNat] else [])
def sD (k:aR) (i:Nat):List (List UInt8):=zT k++(k.marks.take i).map (qU iC)
def uQ (k:aR) (i:Nat):List (List UInt8):=sD k k.marks.length++(k.held.take i).map (eX gY)
def uR (k:aR) (i:Nat):List (List UInt8):=uQ k k.held.length++(k.inbox.take i).map (eX fT)
theorem aIs {k:aR} (h:k.time>0):zS k=[nT k.time.toNat]:=if_pos h
theorem aLd {k:aR} (h: ¬k.time>0):zS k=[]:=if_neg h
theorem aIt {k:aR} (h:k.next>1):zT k=zS k++[go k.next.toNat]:=by rw[zT,if_pos h]
theorem aLe {k:aR} (h: ¬k.next>1):zT k=zS k:=by rw[zT,if_neg h,List.append_nil]
theorem aFk (k:aR):sD k 0=zT k:=by simp[sD]
theorem aFl (k:aR):uQ k 0=sD k k.marks.length:=by simp[uQ]
theorem aFm (k:aR):uR k 0=uQ k k.held.length:=by simp[uR]
theorem aFn {k:aR} {i:Nat} (h:i<k.marks.length):sD k (i+1)=sD k i++[qU iC (k.marks.getD i .zero)]:=by
 unfold sD
 rw[fU (z:=bZ.zero) h,List.map_append,← List.append_assoc];rfl
theorem aFo {k:aR} {i:Nat} (h:i<k.held.length):uQ k (i+1)=uQ k i++[eX gY (k.held.getD i .zero)]:=by
 unfold uQ
 rw[fU (z:=bB.zero) h,List.map_append,← List.append_assoc];rfl
theorem aFp {k:aR} {i:Nat} (h:i<k.inbox.length):uR k (i+1)=uR k i++[eX fT (k.inbox.getD i .zero)]:=by
 unfold uR
 rw[fU (z:=bB.zero) h,List.map_append,← List.append_assoc];rfl
theorem xr (k:aR):uR k k.inbox.length=zp k:=by
 unfold uR uQ sD zT zS zp
 rw[aSv,aSv,aSv]
theorem aCt (k:aR): (zT k).length≤2:=by
 unfold zT zS
 split<;>split<;>simp
theorem aCu (k:aR) (i:Nat): (sD k i).length≤2+k.marks.length:=by
 have:=aCt k
 unfold sD
 rw[aSe,List.length_map,aSk];omega
theorem aCv (k:aR) (i:Nat): (uQ k i).length≤2+k.marks.length+k.held.length:=by
 have:=aCu k k.marks.length
 unfold uQ
 rw[aSe,List.length_map,aSk];omega
theorem aCw (k:aR) (i:Nat): (uR k i).length≤2+k.marks.length+k.held.length+k.inbox.length:=by
 have:=aCv k k.held.length
 unfold uR
 rw[aSe,List.length_map,aSk];omega
theorem gx {k:aR} (h:dS k=true):iT k=uR k k.inbox.length:=by rw[xr];exact if_pos h
theorem mn {k:aR} (h: ¬dS k=true):iT k=[]:=if_neg h
theorem aFq {k:aR} (hk:dS k=true) {i:Nat} (h:i<k.marks.length): (0≤(k.marks.getD i .zero).frm∧(k.marks.getD i .zero).frm≤3)∧(1≤(k.marks.getD i .zero).num∧(k.marks.getD i .zero).num≤99)∧(1≤(k.marks.getD i .zero).til∧(k.marks.getD i .zero).til≤999):=by
 obtain⟨_,⟨_,h5,_⟩,_⟩:=(bV k).1 hk
 exact sL (zN h5 (dU h))
theorem mP (n:bB): (gJ n).length≤60:=by
 by_cases h:eZ n=true
 · obtain⟨p1,p2,p3,p4,p5⟩:=mZ h
   have q1:=cA (k:=3) (n:=n.frm.toNat) (by simp;omega)
   have q2:=cA (k:=3) (n:=n.num.toNat) (by simp;omega)
   have q3:=cA (k:=3) (n:=n.to.toNat) (by simp;omega)
   have q4:=cA (k:=3) (n:=n.til.toNat) (by simp;omega)
   rw[gJ,if_pos h]
   simp only[kC,aSe,aSi,aSh];omega
 · rw[gJ,if_neg h];simp
theorem mq {w:List UInt8} {m:bZ} (h: (0≤m.frm∧m.frm≤1000000)∧(0≤m.num∧m.num≤1000000)∧(0≤m.til∧m.til≤1000000)): (qU w m).length≤w.length+30:=by
 have q1:=cA (k:=6) (n:=m.frm.toNat) (by simp;omega)
 have q2:=cA (k:=6) (n:=m.num.toNat) (by simp;omega)
 have q3:=cA (k:=6) (n:=m.til.toNat) (by simp;omega)
 unfold qU
 simp only[aSe,aSi,aSh];omega
theorem uS (w:List UInt8) (n:bB): (eX w n).length≤w.length+61:=by
 have:=mP n
 unfold eX
 simp only[aSe,aSi,aSh];omega
theorem mr {n:Nat} (h:n≤1000000): (nT n).length≤12:=by
 have:=cA (k:=6) (n:=n) (by simp;omega)
 unfold nT iS
 simp only[aSe,aSi,aSh];omega
theorem aCx {n:Nat} (h:n≤1000000): (go n).length≤12:=by
 have:=cA (k:=6) (n:=n) (by simp;omega)
 unfold go kD
 simp only[aSe,aSi,aSh];omega
theorem zU {k:aR}: (iT k).length≤26∧ ∀r∈iT k,r.length≤100:=by
 by_cases hk:dS k=true
 · obtain⟨⟨_,ht,hn,h1,h2,h3⟩,⟨h4,h5,h6⟩,_⟩:=(bV k).1 hk
   rw[gx hk]
   refine⟨by have:=aCw k k.inbox.length;omega,fun r hr=> ?_⟩
   rw[xr] at hr
   unfold zp at hr
   simp only[List.mem_append,aSq] at hr
   rcases hr with(((hr|hr)|⟨m,hm,rfl⟩)|⟨m,hm,rfl⟩)|⟨m,hm,rfl⟩
   · split at hr
     · rw[aSs.1 hr];have:=mr (n:=k.time.toNat) (by omega);omega
     · cases hr
   · split at hr
     · rw[aSs.1 hr];have:=aCx (n:=k.next.toNat) (by omega);omega
     · cases hr
   · obtain⟨q1,q2,q3⟩:=sL (zN h5 hm)
     have:=mq (w:=iC) (m:=m) (by omega)
     have e:iC.length=4:=rfl
     omega
   · have:=uS gY m
     have e:gY.length=4:=rfl
     omega
   · have:=uS fT m
     have e:fT.length=5:=rfl
     omega
 · rw[mn hk];exact⟨by simp,fun r hr=>by cases hr⟩
def dH (k:aO): (List UInt8×Int)×Bool:=eO k.log k.forced (iT (aZ k).1)
theorem aGw {k:aO} {rec:List UInt8} (h1: ¬(bY (aZ k).1 rec).2=true):oN k rec=(k,false):=by
 unfold oN;rw[if_neg h1]
theorem rN {k:aO} {rec:List UInt8} (h1: (bY (aZ k).1 rec).2=true) (h2: (cB k.log k.forced rec).2=true):oN k rec=(lA k (cB k.log k.forced rec).1,true):=by
 unfold oN;rw[if_pos h1,if_pos h2]
theorem aCy {k:aO} {rec:List UInt8} (h1: (bY (aZ k).1 rec).2=true) (h2: ¬(cB k.log k.forced rec).2=true) (h3: ¬(dH k).2=true):oN k rec=(k,false):=by
 unfold oN
 rw[if_pos h1,if_neg h2]
 show(if(dH k).2=true then(if(cB (dH k).1.1 (dH k).1.2 rec).2=true then(lA k (cB (dH k).1.1 (dH k).1.2 rec).1,true) else(k,false)) else(k,false))=_
 rw[if_neg h3]
theorem aIu {k:aO} {rec:List UInt8} (h1: (bY (aZ k).1 rec).2=true) (h2: ¬(cB k.log k.forced rec).2=true) (h3: (dH k).2=true) (h4: ¬(cB (dH k).1.1 (dH k).1.2 rec).2=true):oN k rec=(k,false):=by
 unfold oN
 rw[if_pos h1,if_neg h2]
 show(if(dH k).2=true then(if(cB (dH k).1.1 (dH k).1.2 rec).2=true then(lA k (cB (dH k).1.1 (dH k).1.2 rec).1,true) else(k,false)) else(k,false))=_
 rw[if_pos h3,if_neg h4]
theorem aIv {k:aO} {rec:List UInt8} (h1: (bY (aZ k).1 rec).2=true) (h2: ¬(cB k.log k.forced rec).2=true) (h3: (dH k).2=true) (h4: (cB (dH k).1.1 (dH k).1.2 rec).2=true):oN k rec=(lA k (cB (dH k).1.1 (dH k).1.2 rec).1,true):=by
 unfold oN
 rw[if_pos h1,if_neg h2]
 show(if(dH k).2=true then(if(cB (dH k).1.1 (dH k).1.2 rec).2=true then(lA k (cB (dH k).1.1 (dH k).1.2 rec).1,true) else(k,false)) else(k,false))=_
 rw[if_pos h3,if_pos h4]
theorem aIw {k:aO} (hs:eV k.log k.forced=true) (h: ¬(dH k).2=true): (dH k).1=(k.log,k.forced):=by
 unfold dH eO at h ⊢
 rw[if_pos hs] at h ⊢
 split at h
 · exact absurd rfl h
 · rename_i h9
   rw[if_neg h9]
theorem rh {k:aO} (hl:k.log.length≤140737488355328): (dH k).1.1.length≤140737488355328:=by
 unfold dH eO
 split
 · split
   · rename_i h9
     simp only[aSg,decide_eq_true_eq] at h9
     show(gU _).length≤_
     omega
   · exact hl
 · simp
theorem ri {k:aO} {rec:List UInt8} (hs:eV k.log k.forced=true) (h1: (bY (aZ k).1 rec).2=true) (h2: ¬(cB k.log k.forced rec).2=true) (h4: ¬(cB (dH k).1.1 (dH k).1.2 rec).2=true):oN k rec=(k,false):=by
 by_cases h3: (dH k).2=true
 · exact aIu h1 h2 h3 h4
 · exact aCy h1 h2 h3
theorem mQ {k:aO} {rec:List UInt8} (hs:eV k.log k.forced=true) (h1: (bY (aZ k).1 rec).2=true) (h2: ¬(cB k.log k.forced rec).2=true) (h4: (cB (dH k).1.1 (dH k).1.2 rec).2=true):oN k rec=(lA k (cB (dH k).1.1 (dH k).1.2 rec).1,true):=by
 by_cases h3: (dH k).2=true
 · exact aIv h1 h2 h3 h4
 · rw[aIw hs h3] at h4
   exact absurd h4 h2
def fF (k:aO) (rec:List UInt8) (fc:Bool):aO×Bool:=if(oN k rec).2 then(if fc then tW (oN k rec).1 else(oN k rec).1,true) else(k,false)
theorem nB {l:List UInt8} {f:Int} {rec:List UInt8} (hl:l.length≤140737488355328): (cB l f rec).1.1.length≤140737488355328:=by
 unfold cB
 split
 · split
   · rename_i h9
     simp only[aSg,decide_eq_true_eq] at h9
     show(l++kZ rec).length≤_
     rw[aSe];omega
   · exact hl
 · simp
theorem aLf {k:aO} {rec:List UInt8} (hl:k.log.length≤140737488355328): (oN k rec).1.log.length≤140737488355328∧(oN k rec).1.halves=k.halves:=by
 unfold oN
 split
 · split
   · exact⟨nB hl,rfl⟩
   · split
     · split
       · exact⟨nB (rh hl),rfl⟩
       · exact⟨hl,rfl⟩
     · exact⟨hl,rfl⟩
 · exact⟨hl,rfl⟩
theorem tY {k:aO} (h:bF k=true):KB (aZ k).1:=(eC (gN h)).seven.big
theorem jL {a:Bool} (h: (!a)=false):a=true:=by simpa using h
theorem rO {a:Bool} (h: (!a)=true): ¬a=true:=by simpa using h
theorem aFr (k:aR) {n:Nat} (hn:n<100000):fA k (nT n)=kP k iS n:=by
 have e:nT n=iS++32::jQ n:=by simp[nT]
 obtain⟨h1,h2,h3⟩:=pB (w:=iS) (r:=jQ n) (by decide)
 rw[e,aB7 h3 (by rw[h1];rfl) (by rw[h2,pC hn];rfl),h1,h2,sY (pC hn)]
theorem xQ {k:aR} (hk:dS k=true) (rec:List UInt8):bY k rec=kY k (fA k rec):=if_pos hk
theorem aIx {k:aR} (hk:dS k=true) (h:k.time≥999): ¬(bY k (nT (k.time+1).toNat)).2=true:=by
 obtain⟨⟨_,ht,_⟩,_⟩:=(bV k).1 hk
 rw[xQ hk,aFr k (by omega)]
 have e: (((k.time+1).toNat:Nat):Int)=k.time+1:=by omega
 rw[e]
 have hd:kP k iS (k.time+1)=(jP k (k.time+1),true):=by
  unfold kP
  rw[if_pos (by rw[decide_eq_true (by omega)];rfl)]
 rw[hd]
 unfold kY
 rw[if_neg]
 · simp
 · intro h9
   simp only[Bool.true_and] at h9
   obtain⟨⟨_,ht2,_⟩,_⟩:=(bV _).1 h9
   have e2: (jP k (k.time+1)).time=k.time+1:=rfl
   omega
theorem aIy {k:aR} (hk:dS k=true) {n:bB} (h:gJ n=[]): ¬(bY k (eX jU n)).2=true:=by
 have e:eX jU n=jU++32::[]:=by rw[eX,h];simp
 obtain⟨h1,h2,h3⟩:=pB (w:=jU) (r:=[]) (by decide)
 rw[xQ hk,e,tU h3 (by rw[h1];rfl) (by rw[h1];rfl) (by rw[h2];rfl)]
 simp[kY]
theorem gy {k:aO} {rec:List UInt8} (h: ¬(bY (aZ k).1 rec).2=true):iZ k rec=(k,false):=by
 unfold iZ;rw[aGw h];rfl
theorem rj {k:aO} (h: ¬bF k=true):eD k=(.zero,false):=if_neg h
theorem yG {k:aO} (h:bF k=true) (hu: ¬k.up=true):eD k=(k,false):=by rw[eD,if_pos h,if_neg hu]
theorem ci {k:aO} (h:bF k=true) (hu:k.up=true):eD k=iZ k (nT ((aZ k).1.time+1).toNat):=by rw[eD,if_pos h,if_pos hu]
theorem nb {k:aO} (h:bF k=true) (ht: (aZ k).1.time≥999):eD k=(k,false):=by
 by_cases hu:k.up=true
 · rw[ci h hu,gy (aIx (gN h) ht)]
 · exact yG h hu
theorem uh {k:aO} {to til:Int} {text:List UInt8} (h: ¬bF k=true):dV k to til text=(.zero,0):=if_neg h
theorem rm {k:aO} {to til:Int} {text:List UInt8} (h:bF k=true) (hu: ¬k.up=true):dV k to til text=(k,0):=by rw[dV,if_pos h,if_neg hu]
theorem gz {k:aO} {to til:Int} {text:List UInt8} (h:bF k=true) (hl: ¬(iZ k (eX jU (nU k to til text))).2=true):dV k to til text=(k,0):=by
 rw[dV,if_pos h]
 split
 · first|rfl|rw[if_neg hl]
 · rfl
theorem zx {k:aO} {to til:Int} {text:List UInt8} (h:bF k=true) (hu:k.up=true) (hl: (iZ k (eX jU (nU k to til text))).2=true):dV k to til text=((iZ k (eX jU (nU k to til text))).1,(aZ k).1.next):=by
 rw[dV,if_pos h,if_pos hu,if_pos hl]
theorem rn {k:aO} {to til:Int} {text:List UInt8} (h:bF k=true) (hn:gJ (nU k to til text)=[]):dV k to til text=(k,0):=by
 refine gz h ?_
 rw[gy (aIy (gN h) hn)]
 simp
theorem ui {k:aO} {f n:Int} (h: ¬bF k=true):cH k f n=(.zero,.zero,false):=if_neg h
theorem zy {k:aO} {f n:Int} (h:bF k=true) (hc: ¬(k.up=true∧0≤aX (aZ k).1.inbox f n)):cH k f n=(k,.zero,false):=by
 rw[cH,if_pos h,if_neg (by simpa using hc)]
theorem ro {k:aO} {f n:Int} (h:bF k=true) (hc:k.up=true∧0≤aX (aZ k).1.inbox f n) (hl: ¬(iZ k (xM k f n)).2=true):cH k f n=(k,.zero,false):=by
 rw[cH,if_pos h,if_pos (by simpa using hc),if_neg hl]
theorem aAa {k:aO} {f n:Int} (h:bF k=true) (hc:k.up=true∧0≤aX (aZ k).1.inbox f n) (hl: (iZ k (xM k f n)).2=true):cH k f n=((iZ k (xM k f n)).1,(aZ k).1.inbox.getD (aX (aZ k).1.inbox f n).toNat .zero,true):=by
 rw[cH,if_pos h,if_pos (by simpa using hc),if_pos hl]
theorem rr {k:aO} (h:bF k=true) {f n:Int} (hp:0≤aX (aZ k).1.inbox f n): ∃j:Nat,aX (aZ k).1.inbox f n=j∧j< (aZ k).1.inbox.length∧((0≤f∧f≤1000000)∧(0≤n∧n≤1000000)∧(0≤((aZ k).1.inbox.getD j .zero).til∧((aZ k).1.inbox.getD j .zero).til≤1000000)):=by
 obtain⟨j,hj⟩:=Int.eq_ofNat_of_zero_le hp
 have hlt:=(fD (aZ k).1.inbox f n).2
 obtain⟨_,⟨_,_,h6⟩,_⟩:=(bV _).1 (gN h)
 obtain⟨q1,q2,q3⟩:=dq h6 hp
 rw[hj,aSd] at q1 q2 q3
 obtain⟨p1,p2,p3,p4,p5⟩:=mZ q1
 exact⟨j,hj,by omega,by omega,by omega,by omega⟩
theorem ru {k:aO} (h: ¬bF k=true):dX k=(.zero,false):=if_neg h
theorem nc {k:aO} (h:bF k=true) (hu: ¬k.up=true):dX k=(k,false):=by
 rw[dX,if_pos h,if_neg (by simp[hu])]
theorem uj {k:aO} (h:bF k=true) (hp: ¬(dH k).2=true):dX k=(k,false):=by
 rw[dX,if_pos h,if_neg]
 intro h9
 simp only[aSg] at h9
 exact hp h9.2
theorem uk {k:aO} (h:bF k=true) (hu:k.up=true) (hp: (dH k).2=true):dX k=(lA k (dH k).1,true):=by
 rw[dX,if_pos h,if_pos]
 · rfl
 · rw[hu];exact hp
def uT (b:Int) (m:gI):Bool:=rS b m.num&&decide (m.data.length=4)
def unk (kn:List (List UInt8)) (j:Int):Bool:=(kn.getD j.toNat []).isEmpty
def iG (kn:List (List UInt8)) (ks:List Int):List Int:=ks.filter (unk kn)
def pH (kn:List (List UInt8)):List UInt8→List Int→List UInt8
 |x,[]=>x
 |x,j::js=>pH kn (if unk kn j then x else uc x (kn.getD j.toNat [])) js
def iE (b:Int) (kn:List (List UInt8)) (m:gI):List (List UInt8)×Bool:=
 if uT b m&&(iG kn (cM b m.num)).length==1 then(kn.set ((iG kn (cM b m.num)).getD 0 0).toNat (pH kn m.data (cM b m.num)),true) else(kn,false)
def cJ (b:Int):List gI→List (List UInt8)×Bool→List (List UInt8)×Bool
 | [],s=>s
 |m::l,s=>cJ b l ((iE b s.1 m).1,s.2||(iE b s.1 m).2)
def qG (b:Int) (l:List gI):Nat→List (List UInt8)→List (List UInt8)
 |0,kn=>kn
 |f+1,kn=>if(cJ b l (kn,false)).2 then qG b l f (cJ b l (kn,false)).1 else(cJ b l (kn,false)).1
def dT (b:Int) (l:List gI):List (List UInt8):=if gX b 1 6 then qG b l 7 (List.replicate b.toNat []) else []
def yR (b:Int) (kn:List (List UInt8)):Prop:=(kn.length:Int)=b∧ ∀x∈kn,x.length=0∨x.length=4
def sN (kn:List (List UInt8)):Nat:=kn.countP (·.isEmpty)
theorem yR.at {b:Int} {kn:List (List UInt8)} (h:yR b kn) {j:Nat} (hj:j<kn.length): (kn.getD j []).length=0∨(kn.getD j []).length=4:=h.2 _ (dU hj)
theorem yR.start {b:Int} (hb:0≤b):yR b (List.replicate b.toNat []):=by
 refine⟨by rw[List.length_replicate];omega,fun x hx=> ?_⟩
 rw[(List.mem_replicate.1 hx).2];exact .inl rfl
theorem xR {kn:List (List UInt8)}: ∀{ks:List Int} {x:List UInt8},x.length=4→(pH kn x ks).length=4
 | [],x,h=>h
 |j::js,x,h=>by
  unfold pH
  refine xR ?_
  split
  · exact h
  · exact ml _ _
theorem xu {kn:List (List UInt8)} {ks:List Int} {j:Int} (h:j∈iG kn ks):j∈ks∧unk kn j=true:=by
 unfold iG at h
 exact List.mem_filter.1 h
theorem aCz: ∀{kn:List (List UInt8)} {j:Nat} {x:List UInt8},j<kn.length→(kn.getD j []).isEmpty=true→x.isEmpty=false→sN (kn.set j x)+1=sN kn
 | [],j,x,h,_,_=>by simp at h
 |y::kn,0,x,h,h1,h2=>by
  have h1:y.isEmpty=true:=h1
  simp[sN,List.countP_cons,h1,h2]
 |y::kn,j+1,x,h,h1,h2=>by
  have ih:=aCz (kn:=kn) (j:=j) (x:=x) (by simpa using h) (by simpa using h1) h2
  simp only[sN,List.set_cons_succ,List.countP_cons] at ih ⊢
  omega
theorem aFs {b:Int} {kn:List (List UInt8)} {m:gI} (h:yR b kn):yR b (iE b kn m).1∧((iE b kn m).2=true→sN (iE b kn m).1+1=sN kn)∧((iE b kn m).2=false→(iE b kn m).1=kn):=by
 unfold iE
 split
 · rename_i hc
   simp only[aSg,beq_iff_eq,uT,decide_eq_true_eq] at hc
   obtain⟨⟨h1,h4⟩,hl⟩:=hc
   have hm: (iG kn (cM b m.num)).getD 0 0∈iG kn (cM b m.num):=dU (by omega)
   obtain⟨q1,q2⟩:=xu hm
   have hr:=uO _ q1
   have hx:=xR (kn:=kn) (ks:=cM b m.num) h4
   have hlt: ((iG kn (cM b m.num)).getD 0 0).toNat<kn.length:=by have:=h.1;omega
   refine⟨⟨by rw[List.length_set];exact h.1,fun x hx'=> ?_⟩,fun _=> ?_,fun h9=>by cases h9⟩
   · rcases List.mem_or_eq_of_mem_set hx' with h9|h9
     · exact h.2 x h9
     · rw[h9];exact .inr hx
   · refine aCz hlt q2 ?_
     cases hq:pH kn m.data (cM b m.num) with
     |nil=>rw[hq] at hx;cases hx
     |cons _ _=>rfl
 · exact⟨h,fun h9=>(by cases h9),fun _=>rfl⟩
theorem qH {b:Int}: ∀{l:List gI} {s:List (List UInt8)×Bool},yR b s.1→yR b (cJ b l s).1∧sN (cJ b l s).1≤sN s.1∧(s.2=false→(cJ b l s).2=true→sN (cJ b l s).1<sN s.1)∧(s.2=true→(cJ b l s).2=true)
 | [],s,h=>⟨h,aSo _,fun h1 h2=>(by
  have h2:s.2=true:=h2
  rw[h1] at h2;cases h2),fun h1=>h1⟩
 |m::l,s,h=>by
  obtain⟨p1,p2,p3⟩:=aFs (m:=m) h
  obtain⟨r1,r2,r3,r4⟩:=qH (l:=l) (s:=((iE b s.1 m).1,s.2||(iE b s.1 m).2)) p1
  unfold cJ
  cases hd: (iE b s.1 m).2 with
  |true=>
   have:=p2 hd
   rw[hd] at r1 r2 r3 r4
   have r2:sN (cJ b l ((iE b s.1 m).1,s.2||true)).1≤sN (iE b s.1 m).1:=r2
   exact⟨r1,by omega,fun _ _=>by omega,fun h1=>r4 (by simp)⟩
  |false=>
   have e:=p3 hd
   rw[hd] at r1 r2 r3 r4
   refine⟨r1,by rw[e] at r2 ⊢; exact r2,fun h1 h2=> ?_,fun h1=>r4 (by simp[h1])⟩
   have:=r3 (by simp[h1]) h2
   simp only[e] at this ⊢
   exact this
theorem rv {kn:List (List UInt8)} {ks:List Int} {j:Int} (h:unk kn j=true):iG kn (ks++[j])=iG kn ks++[j]:=by
 unfold iG;rw[List.filter_append,List.filter_cons_of_pos h];rfl
theorem ul {kn:List (List UInt8)} {ks:List Int} {j:Int} (h:unk kn j=false):iG kn (ks++[j])=iG kn ks:=by
 unfold iG;rw[List.filter_append,List.filter_cons_of_neg (by rw[h];exact Bool.false_ne_true)];exact List.append_nil _
theorem dt {kn:List (List UInt8)}: ∀{ks:List Int} {x:List UInt8} {j:Int},pH kn x (ks++[j])=if unk kn j then pH kn x ks else uc (pH kn x ks) (kn.getD j.toNat [])
 | [],x,j=>by
  show(if unk kn j then x else uc x (kn.getD j.toNat []))=_
  rfl
 |k::ks,x,j=>dt (ks:=ks)
theorem aI0 {kn:List (List UInt8)} {ks:List Int} {x:List UInt8} {j:Int} (h:unk kn j=true):pH kn x (ks++[j])=pH kn x ks:=by rw[dt,if_pos h]
theorem aLg {kn:List (List UInt8)} {ks:List Int} {x:List UInt8} {j:Int} (h:unk kn j=false):pH kn x (ks++[j])=uc (pH kn x ks) (kn.getD j.toNat []):=by rw[dt,if_neg (by rw[h];exact Bool.false_ne_true)]
theorem ia {b:Int} {m:gI}: ∀{l:List gI} {s:List (List UInt8)×Bool},cJ b (l++[m]) s=((iE b (cJ b l s).1 m).1,(cJ b l s).2||(iE b (cJ b l s).1 m).2)
 | [],s=>rfl
 |k::l,s=>ia (l:=l)
theorem ms {b:Int} {l:List gI}: ∀(f g:Nat) {kn:List (List UInt8)},yR b kn→sN kn<f→sN kn<g→qG b l f kn=qG b l g kn
 |0,_,kn,_,h,_=>absurd h (by omega)
 |_+1,0,kn,_,_,h=>absurd h (by omega)
 |f+1,g+1,kn,hk,hf,hg=>by
  obtain⟨r1,r2,r3,_⟩:=qH (l:=l) (s:=(kn,false)) hk
  unfold qG
  split
  · rename_i hd
    have hlt:=r3 rfl hd
    have hlt:sN (cJ b l (kn,false)).1<sN kn:=hlt
    exact ms f g r1 (by omega) (by omega)
  · rfl
theorem aNc (kn:List (List UInt8)):sN kn≤kn.length:=List.countP_le_length
theorem aNd {b:Int} (hb:b≤6) {l:List gI} {kn:List (List UInt8)} (hk:yR b kn) (hd: (cJ b l (kn,false)).2=true):qG b l 7 kn=qG b l 7 (cJ b l (kn,false)).1∧sN (cJ b l (kn,false)).1<sN kn∧yR b (cJ b l (kn,false)).1:=by
 obtain⟨r1,r2,r3,_⟩:=qH (l:=l) (s:=(kn,false)) hk
 have hlt:sN (cJ b l (kn,false)).1<sN kn:=r3 rfl hd
 have h6:sN kn≤6:=by have:=aNc kn;have:=hk.1;omega
 refine⟨?_,hlt,r1⟩
 rw[ms 7 8 hk (by omega) (by omega)]
 show(if(cJ b l (kn,false)).2 then qG b l 7 (cJ b l (kn,false)).1 else(cJ b l (kn,false)).1)=_
 rw[if_pos hd]
theorem aLh {b:Int} {l:List gI} {kn:List (List UInt8)} (hd: (cJ b l (kn,false)).2=false):qG b l 7 kn=(cJ b l (kn,false)).1:=by
 show(if(cJ b l (kn,false)).2 then qG b l 6 (cJ b l (kn,false)).1 else(cJ b l (kn,false)).1)=_
 rw[if_neg (by rw[hd];exact Bool.false_ne_true)]
theorem aAb {kn:List (List UInt8)} {j:Nat} {x:List UInt8} (h:j<kn.length): (bL kn).set j (cX ((bL kn).getD j []) 0 [D.s x])=bL (kn.set j x):=by
 rw[gG h]
 show(bL kn).set j [D.s x]=_
 rw[bL,bL,← List.map_set (f:=fun y:List UInt8=>[D.s y])]
theorem xv {b:Int} {m:gI} {c:Bool} (h: (!(rS b m.num&&decide ((m.data.length:Int)=4)))=c):uT b m= !c:=by
 subst h
 unfold uT
 rw[Bool.not_not]
 congr 1
 exact decide_eq_decide.2 (by omega)
theorem aC0 {b:Int} {m:gI} (h:uT b m=true):m.data.length=4:=by
 unfold uT at h
 rw[aSg] at h
 exact of_decide_eq_true h.2
theorem aQf {n:Nat} (h: ((n:Int)==1)=true):n=1:=by
 have h9: (n:Int)=1:=by simpa using h
 omega
theorem aFt {n:Nat} (h: ((n:Int)==1)=false): ¬n=1:=by
 have h9: ¬(n:Int)=1:=by simpa using h
 omega
def pI:List (List UInt8)→List UInt8:=List.flatten
def dN (size:Int) (l:List gI):List UInt8×Bool:=
 if gX size 1 24 then
  (if(dT ((size+3) / 4) l).any (·.isEmpty) then([],false)
   else if((pI (dT ((size+3) / 4) l)).drop size.toNat).any (· != 0) then([],false)
   else((pI (dT ((size+3) / 4) l)).take size.toNat,true))
 else([],false)
theorem aFu {b:Int} {l:List gI} (hb:1≤b∧b≤6):yR b (dT b l):=by
 have key: ∀(f:Nat) {kn:List (List UInt8)},yR b kn→yR b (qG b l f kn):=by
  intro f
  induction f with
  |zero=>intro kn h;exact h
  |succ f ih=>
   intro kn h
   have r:=(qH (l:=l) (s:=(kn,false)) h).1
   unfold qG
   split
   · exact ih r
   · exact r
 unfold dT
 rw[if_pos (by simp[gX];omega)]
 exact key 7 (yR.start (by omega))
theorem aFv {b:Int} {l:List gI} (h: ¬gX b 1 6=true):dT b l=[]:=if_neg h
def uU (kn:List (List UInt8)) (i:Nat):List UInt8:=(kn.take i).flatten
theorem du {kn:List (List UInt8)} {i:Nat} (h:i<kn.length):uU kn (i+1)=uU kn i++kn.getD i []:=by
 unfold uU
 rw[fU (z:=([]:List UInt8)) h,List.flatten_append]
 simp
theorem aC1 {kn:List (List UInt8)} (h: ∀x∈kn,x.length=0∨x.length=4): ∀{i:Nat},(uU kn i).length≤4*i
 |0=>by simp[uU]
 |i+1=>by
  have ih:=aC1 h (i:=i)
  by_cases hi:i<kn.length
  · rw[du hi,aSe]
    have:=h _ (dU (z:=([]:List UInt8)) hi)
    omega
  · have e:uU kn (i+1)=uU kn i:=by unfold uU;rw[List.take_of_length_le (by omega),List.take_of_length_le (by omega)]
    rw[e];omega
theorem aC2 {kn:List (List UInt8)} (h: ∀x∈kn,x.length=0∨x.length=4): ∀{i:Nat},i≤kn.length→(∀j,j<i→(kn.getD j []).length≠0)→(uU kn i).length=4*i
 |0,_,_=>by simp[uU]
 |i+1,hi,hj=>by
  have ih:=aC2 h (i:=i) (by omega) (fun j hj2=>hj j (by omega))
  rw[du (by omega),aSe,ih]
  have h1:=h _ (dU (z:=([]:List UInt8)) (i:=i) (show i<kn.length by omega))
  have h2:=hj i (by omega)
  omega
theorem xw (kn:List (List UInt8)):uU kn kn.length=pI kn:=by unfold uU pI;rw[aSv]
theorem um {kn:List (List UInt8)} {i:Nat} (h:i<kn.length) (he:kn.getD i []=[]):kn.any (·.isEmpty)=true:=by
 rw[List.any_eq_true]
 exact⟨_,dU (z:=([]:List UInt8)) h,by rw[he];rfl⟩
theorem aAc {kn:List (List UInt8)} (h: ∀j,j<kn.length→(kn.getD j []).length≠0):kn.any (·.isEmpty)=false:=by
 rw[← Bool.not_eq_true,List.any_eq_true]
 rintro⟨x,hx,he⟩
 obtain⟨i,hi⟩:=List.mem_iff_getElem?.1 hx
 have hlt:=(aSm.1 hi).1
 have:=h i hlt
 rw[aSl,hi] at this
 have e:x=[]:=by simpa using he
 rw[e] at this;exact this rfl
theorem aAd {l:List UInt8} {n i:Nat} (h1:n≤i) (h2:i<l.length) (h:l.getD i 0≠0): (l.drop n).any (· != 0)=true:=by
 rw[List.any_eq_true]
 refine⟨l.getD i 0,?_,by simpa using h⟩
 rw[List.mem_iff_getElem?]
 exact⟨i - n,by rw[List.getElem?_drop,show n+(i - n)=i by omega,aSl,aSn h2];rfl⟩
theorem aC3 {l:List UInt8} {n:Nat} (h: ∀i,n≤i→i<l.length→l.getD i 0=0): (l.drop n).any (· != 0)=false:=by
 rw[← Bool.not_eq_true,List.any_eq_true]
 rintro⟨x,hx,he⟩
 obtain⟨i,hi⟩:=List.mem_iff_getElem?.1 hx
 rw[List.getElem?_drop] at hi
 have hlt:=(aSm.1 hi).1
 have:=h (n+i) (by omega) hlt
 rw[aSl,hi] at this
 have e:x=0:=this
 rw[e] at he;cases he
theorem aC4 {size:Int} {l:List gI} (h: ¬gX size 1 24=true):dN size l=([],false):=if_neg h
theorem aAe {size:Int} {l:List gI} (h:gX size 1 24=true) (h2: (dT ((size+3) / 4) l).any (·.isEmpty)=true):dN size l=([],false):=by
 unfold dN;rw[if_pos h,if_pos h2]
theorem aAf {size:Int} {l:List gI} (h:gX size 1 24=true) (h2: (dT ((size+3) / 4) l).any (·.isEmpty)=false) (h3: ((pI (dT ((size+3) / 4) l)).drop size.toNat).any (· != 0)=true):dN size l=([],false):=by
 unfold dN;rw[if_pos h,if_neg (by rw[h2];exact Bool.false_ne_true),if_pos h3]
theorem aC5 {size:Int} {l:List gI} (h:gX size 1 24=true) (h2: (dT ((size+3) / 4) l).any (·.isEmpty)=false) (h3: ((pI (dT ((size+3) / 4) l)).drop size.toNat).any (· != 0)=false):dN size l=((pI (dT ((size+3) / 4) l)).take size.toNat,true):=by
 unfold dN;rw[if_pos h,if_neg (by rw[h2];exact Bool.false_ne_true),if_neg (by rw[h3];exact Bool.false_ne_true)]
def lP (l:List cF):List (List D):=l.map cF.row
theorem kS (l:List cF): (lP l).length=l.length:=by simp[lP]
def rx (kind:Int) (f:cF):cF:=⟨kind,f.dst,f.src,f.frm,f.num,f.to,f.til,0,0,[]⟩
def qW (f:cF):dY:=⟨f.frm,f.num,f.to,f.til,f.size,[]⟩
def qI (l:List gI):List gI:=if 14≤l.length then l.drop 1 else l
def kl (l:List gI) (m:gI):List gI:=qI (l.filter fun x=> !(x.num==m.num))++[m]
def fW (l:List dY):List dY:=if 3≤l.length then l.drop 1 else l
def dE (l:List dY) (f:cF):List dY×Nat:=
 if iA l f.frm f.num<0 then(fW l++[qW f],(fW l).length) else(l,(iA l f.frm f.num).toNat)
def bK (l:List dY) (f:cF):dY:=(dE l f).1.getD (dE l f).2 .zero
def pJ (h:dY) (f:cF):Bool:=h.to==f.to&&h.til==f.til&&h.size==f.size
def sO (h:dY) (f:cF):dY:={h with got:=kl h.got ⟨f.mix,f.data⟩}
def bS (l:List dY) (f:cF):List dY×Int:=
 if pJ (bK l f) f then((dE l f).1.set (dE l f).2 (sO (bK l f) f),(dE l f).2) else((dE l f).1,-1)
def dW (k:aO) (l:List dY):aO:={k with halves:=l}
def eJ (f:cF) (text:List UInt8):bB:=⟨f.frm,f.num,f.to,f.til,text⟩
def nC (k:aO) (f:cF) (l:List dY) (i:Nat):aO×List cF:=
 let x:=dN f.size (l.getD i .zero).got
 if x.2 then
  let k2:=dW k (gL l i)
  let r:=fF k2 (eX fQ (eJ f x.1)) true
  if gJ (eJ f x.1)=[] then(k2,[]) else(r.1,if r.2 then [rx 2 f] else [])
 else(dW k l,[])
def dL (k:aO) (f:cF):aO×List cF:=
 if f.til≤(aZ k).1.time then(k,[rx 3 f]) else
 if 0≤aX (aZ k).1.held f.frm f.num∨0≤jI (aZ k).1.marks f.frm f.num then(tW k,[rx 2 f]) else
 if f.frm=k.id∨ ¬rS ((f.size+3) / 4) f.mix=true then(k,[]) else
 if(bS k.halves f).2<0 then(dW k (bS k.halves f).1,[]) else nC k f (bS k.halves f).1 (bS k.halves f).2.toNat
def km (f:cF):List UInt8:=qU nH ⟨f.frm,f.num,f.til⟩
def zV (k:aO) (f:cF):Bool:=
 f.kind==2&&decide (0≤aX (aZ k).1.held f.frm f.num)&&((aZ k).1.held.getD (aX (aZ k).1.held f.frm f.num).toNat .zero).til==f.til&&((aZ k).1.held.getD (aX (aZ k).1.held f.frm f.num).toNat .zero).to==f.to
def cT (k:aO) (f:cF):aO×List cF:=
 if bF k then
  (if k.up&&eL f&&f.dst==k.id then
   (if f.kind=1 then dL k f else if zV k f then((fF k (km f) false).1,[]) else(k,[]))
  else(k,[]))
 else(.zero,[])
theorem aAg {l:List dY} {i:Nat} {h:dY} (hi:i<l.length): (bM l).set i (cX ((bM l).getD i []) 0 h.row)=bM (l.set i h):=by
 rw[iD hi]
 have:cX ((l.getD i .zero).row) 0 h.row=h.row:=rfl
 rw[this]
 simp[bM,List.map_set]
theorem zW {l:List dY} {f:cF} (h:iA l f.frm f.num<0):dE l f=(fW l++[qW f],(fW l).length):=if_pos h
theorem dw {l:List dY} {f:cF} (h: ¬iA l f.frm f.num<0):dE l f=(l,(iA l f.frm f.num).toNat):=if_neg h
theorem ib (l:List dY) (h:l.length≤3): (fW l).length≤2:=by
 unfold fW
 split
 · rw[aSr];omega
 · omega
theorem ry {l:List dY} {f:cF} (hl:l.length≤3): (dE l f).2< (dE l f).1.length∧(dE l f).1.length≤3:=by
 unfold dE
 split
 · have:=ib l hl
   simp;omega
 · rename_i h
   have:=aIl l f.frm f.num
   simp;omega
theorem dx {l:List dY} {f:cF} (h: ¬pJ (bK l f) f=true):bS l f=((dE l f).1,-1):=if_neg h
theorem zX {l:List dY} {f:cF} (h:pJ (bK l f) f=true):bS l f=((dE l f).1.set (dE l f).2 (sO (bK l f) f),(((dE l f).2:Nat):Int)):=if_pos h
theorem aAh {l:List dY} {f:cF} (h: ∀x∈l,x.got.length≤14): (bK l f).got.length≤14:=by
 unfold bK
 by_cases hm: (dE l f).2< (dE l f).1.length
 · have h1: (dE l f).1.getD (dE l f).2 .zero∈(dE l f).1:=dU hm
   generalize (dE l f).1.getD (dE l f).2 .zero=y at h1
   unfold dE at h1
   split at h1
   · rcases List.mem_append.1 h1 with h1|h1
     · unfold fW at h1
       split at h1
       · exact h y (List.mem_of_mem_drop h1)
       · exact h y h1
     · rw[aSs.1 h1];exact aSj _
   · exact h y h1
 · rw[aSl,List.getElem?_eq_none (by omega)];exact aSj _
def gV (l:List gI) (n:Int):List gI:=l.filter fun x=> !(x.num==n)
theorem aC6 {l:List gI} {n:Int} {m:gI} (h: (m.num != n)=true):gV (l++[m]) n=gV l n++[m]:=by
 have h: (!(m.num==n))=true:=h
 simp[gV,List.filter_append,List.filter_cons,h]
theorem aFw {l:List gI} {n:Int} {m:gI} (h: (m.num != n)=false):gV (l++[m]) n=gV l n:=by
 have h: (!(m.num==n))=false:=h
 simp[gV,List.filter_append,List.filter_cons,h]
theorem rz (l:List gI) (n:Int): (gV l n).length≤l.length:=List.length_filter_le _ _
def GOk (l:List gI):Prop:=(∀m∈l,zO m=true)∧l.Pairwise fun a b=>a.num≠b.num
def HOk (l:List dY):Prop:=(∀h∈l,qD h=true)∧l.Pairwise fun a b=> ¬(a.frm=b.frm∧a.num=b.num)
theorem oM {n:Nat} {p:Nat→Bool}: (aSp n).all p=true↔ ∀i,i<n→p i=true:=by
 rw[aSu]
 exact⟨fun h i hi=>h i (List.mem_range.2 hi),fun h i hi=>h i (List.mem_range.1 hi)⟩
theorem lJ {α:Type} {l:List α} {i:Nat} {z:α} (h:i<l.length):l.getD i z=l[i]:=by
 rw[aSl,aSn h];rfl
theorem aNe (l:List gI): (aSp l.length).all (nS l)=true↔GOk l:=by
 rw[oM]
 constructor
 · intro h
   refine⟨fun m hm=> ?_,List.pairwise_iff_getElem.2 fun i j hi hj hij=> ?_⟩
   · obtain⟨i,hi,rfl⟩:=List.mem_iff_getElem.1 hm
     have:=h i hi
     unfold nS at this
     rw[aSg,lJ hi] at this
     exact this.1
   · have:=h j hj
     unfold nS at this
     rw[aSg,oM,lJ hj] at this
     have:=this.2 i hij
     rw[lJ hi] at this
     simpa using this
 · rintro⟨h1,h2⟩ i hi
   unfold nS
   rw[aSg,oM,lJ hi]
   refine⟨h1 _ (List.getElem_mem hi),fun j hj=> ?_⟩
   rw[lJ (by omega)]
   simpa using List.pairwise_iff_getElem.1 h2 j i (by omega) hi hj
theorem aC7 (l:List dY): (aSp l.length).all (kE l)=true↔HOk l:=by
 rw[oM]
 constructor
 · intro h
   refine⟨fun m hm=> ?_,List.pairwise_iff_getElem.2 fun i j hi hj hij=> ?_⟩
   · obtain⟨i,hi,rfl⟩:=List.mem_iff_getElem.1 hm
     have:=h i hi
     unfold kE at this
     rw[aSg,lJ hi] at this
     exact this.1
   · have:=h j hj
     unfold kE at this
     rw[aSg,oM,lJ hj] at this
     have:=this.2 i hij
     unfold kR at this
     rw[lJ hi] at this
     rintro⟨e1,e2⟩
     rw[e1,e2] at this
     simp at this
 · rintro⟨h1,h2⟩ i hi
   unfold kE
   rw[aSg,oM,lJ hi]
   refine⟨h1 _ (List.getElem_mem hi),fun j hj=> ?_⟩
   unfold kR
   rw[lJ (by omega)]
   have h3:=List.pairwise_iff_getElem.1 h2 j i (by omega) hi hj
   cases hq: (l[j].frm==l[i].frm&&l[j].num==l[i].num) with
   |false=>rfl
   |true=>rw[aSg,beq_iff_eq,beq_iff_eq] at hq;exact absurd hq h3
theorem tZ (h:dY):qD h=true↔pF h=true∧GOk h.got:=by
 unfold qD
 rw[aSg,aNe]
theorem ic {k:aO} (h:bF k=true):HOk k.halves:=by
 unfold bF at h
 rw[aSg] at h
 exact(aC7 _).1 h.2
theorem aAi {k:aO} {l:List dY} (hok:bF k=true) (hu:k.up=true) (hl:l.length≤3) (h:HOk l):bF (dW k l)=true:=by
 have hl': ((l.length:Nat):Int)≤3:=by omega
 unfold bF jJ at hok ⊢
 simp only[aSg] at hok ⊢
 obtain⟨⟨⟨⟨⟨⟨h1,h2⟩,h3⟩,h4⟩,h5⟩,h6⟩,h7⟩:=hok
 exact⟨⟨⟨⟨⟨⟨h1,h2⟩,decide_eq_true hl'⟩,by show(k.up||_)=true;rw[hu];rfl⟩,h5⟩,h6⟩,(aC7 _).2 h⟩
theorem aGx {l l':List dY} (hs:l'.Sublist l) (h:HOk l):HOk l':=⟨fun x hx=>h.1 x (hs.subset hx),h.2.sublist hs⟩
theorem aI1 {α:Type} (l:List α) (i:Nat): (gL l i).Sublist l:=by
 unfold gL
 have h1: (l.drop (i+1)).Sublist (l.drop i):=by
  rw[← List.drop_drop];exact List.drop_sublist _ _
 exact(List.Sublist.append (List.Sublist.refl _) h1).trans (by rw[List.take_append_drop];exact List.Sublist.refl _)
theorem aGy {l:List dY} (h:HOk l) (i:Nat):HOk (gL l i):=aGx (aI1 l i) h
theorem aNf {l:List gI} {m:gI} (h:GOk l) (hm:zO m=true) (hl:l.length≤14):GOk (kl l m)∧(kl l m).length≤14:=by
 have h1: (l.filter fun x=> !(x.num==m.num)).length≤l.length:=List.length_filter_le _ _
 have hsub: (qI (l.filter fun x=> !(x.num==m.num))).Sublist (l.filter fun x=> !(x.num==m.num)):=by
  unfold qI
  split
  · exact List.drop_sublist _ _
  · exact List.Sublist.refl _
 have hlen: (qI (l.filter fun x=> !(x.num==m.num))).length≤13:=by
  unfold qI
  split
  · rw[aSr];omega
  · omega
 refine⟨⟨fun x hx=> ?_,?_⟩,by unfold kl;simp;omega⟩
 · rcases List.mem_append.1 hx with hx|hx
   · exact h.1 x (List.mem_filter.1 (hsub.subset hx)).1
   · rw[aSs.1 hx];exact hm
 · unfold kl
   rw[List.pairwise_append]
   refine⟨(h.2.sublist List.filter_sublist).sublist hsub,by simp,fun a ha b hb=> ?_⟩
   rw[aSs.1 hb]
   have:=(List.mem_filter.1 (hsub.subset ha)).2
   simpa using this
theorem dy {f:cF} (hf:eL f=true) (hk:f.kind=1):pF (qW f)=true∧zO ⟨f.mix,f.data⟩=true∧(1≤f.size∧f.size≤24)∧(0≤f.mix∧f.mix≤999)∧f.data.length=4:=by
 have h:=hf
 unfold eL at h
 rw[if_pos hk] at h
 simp only[aSg,decide_eq_true_eq] at h
 obtain⟨⟨⟨⟨⟨⟨h1,h2⟩,h3⟩,h4⟩,h5⟩,h6⟩,⟨⟨h7,h8⟩,h9⟩,h10⟩:=h
 have q7:1≤f.size∧f.size≤24:=by simpa[gX] using h7
 have q8:0≤f.mix∧f.mix≤999:=by simpa[gX] using h8
 refine⟨?_,?_,q7,q8,h9⟩
 · unfold pF qW
   simp only[h3,h4,h5,h6,h7,aSh];rfl
 · unfold zO
   simp only[h8,h9];rfl
theorem aC8 {l:List dY} {f n:Int} (h:iA l f n<0): ∀x∈l,¬(x.frm=f∧x.num=n):=by
 intro x hx ⟨e1,e2⟩
 obtain⟨i,hi,rfl⟩:=List.mem_iff_getElem.1 hx
 rcases jD (kR l f n) l.length 0 with h1|⟨k,h1,_⟩
 · have h2:kR l f n i=true:=by unfold kR;rw[lJ hi,e1,e2];simp
   have: ∀(m j:Nat),kB (kR l f n) j m= -1→ ∀q,j≤q→q<j+m→kR l f n q=false:=by
    intro m
    induction m with
    |zero=>intro j _ q h3 h4;omega
    |succ m ih=>
     intro j hj q h3 h4
     unfold kB at hj
     split at hj
     · have: ((j:Nat):Int)= -1:=hj
       omega
     · rename_i hne
       by_cases e:q=j
       · subst e;simpa using hne
       · exact ih (j+1) hj q (by omega) (by omega)
   have:=this l.length 0 h1 i (aSj _) (by omega)
   rw[h2] at this;cases this
 · unfold iA at h;omega
theorem aFy {l:List dY} {f n:Int} (h: ¬iA l f n<0): (iA l f n).toNat<l.length∧(l.getD (iA l f n).toNat .zero).frm=f∧(l.getD (iA l f n).toNat .zero).num=n:=by
 rcases jD (kR l f n) l.length 0 with h1|⟨k,h1,h2,h3,h4,_⟩
 · exact absurd (show iA l f n<0 by unfold iA;omega) h
 · have e: (iA l f n).toNat=k:=by unfold iA;omega
   rw[e]
   unfold kR at h4
   rw[aSg,beq_iff_eq,beq_iff_eq] at h4
   exact⟨by omega,h4⟩
theorem aNg {l:List dY} {f:cF} (h:HOk l) (hl:l.length≤3) (hf:eL f=true) (hk:f.kind=1):HOk (dE l f).1:=by
 by_cases hn:iA l f.frm f.num<0
 · rw[zW hn]
   have hsub: (fW l).Sublist l:=by
    unfold fW
    split
    · exact List.drop_sublist _ _
    · exact List.Sublist.refl _
   have h2:=aGx hsub h
   refine⟨fun x hx=> ?_,?_⟩
   · rcases List.mem_append.1 hx with hx|hx
     · exact h2.1 x hx
     · rw[aSs.1 hx,tZ]
       exact⟨(dy hf hk).1,by simp[qW],by simp[qW]⟩
   · rw[List.pairwise_append]
     refine⟨h2.2,by simp,fun a ha b hb=> ?_⟩
     rw[aSs.1 hb]
     exact aC8 hn a (hsub.subset ha)
 · rw[dw hn];exact h
theorem aQg {α:Type} {R:α→α→Prop} {l:List α} {i:Nat} {x:α} (h:l.Pairwise R) (hi:i<l.length) (h1: ∀y,R y l[i]→R y x) (h2: ∀y,R l[i] y→R x y): (l.set i x).Pairwise R:=by
 rw[List.pairwise_iff_getElem] at h ⊢
 intro a b ha hb hab
 simp only[List.length_set] at ha hb
 simp only[List.getElem_set]
 by_cases c1:i=a
 · by_cases c2:i=b
   · omega
   · rw[if_pos c1,if_neg c2]
     subst c1
     exact h2 _ (h i b ha hb hab)
 · by_cases c2:i=b
   · rw[if_neg c1,if_pos c2]
     subst c2
     exact h1 _ (h a i ha hb hab)
   · rw[if_neg c1,if_neg c2]
     exact h a b ha hb hab
theorem aGz {l:List dY} {f:cF} (h:HOk l) (hl:l.length≤3) (hf:eL f=true) (hk:f.kind=1):HOk (bS l f).1∧(bS l f).1.length≤3:=by
 have hp:=aNg h hl hf hk
 have hlt:=ry (f:=f) hl
 by_cases hfit:pJ (bK l f) f=true
 · rw[zX hfit]
   have hh:bK l f=(dE l f).1[(dE l f).2]:=lJ hlt.1
   have hok:=hp.1 _ (List.getElem_mem hlt.1)
   rw[← hh,tZ] at hok
   have hg:=aNf hok.2 (dy hf hk).2.1 (mM hok.1).2.2.2.2.2
   refine⟨⟨fun x hx=> ?_,?_⟩,by simpa using hlt.2⟩
   · rcases List.mem_or_eq_of_mem_set hx with hx|rfl
     · exact hp.1 x hx
     · rw[tZ]
       refine⟨?_,hg.1⟩
       have h1:=hok.1
       unfold pF at h1 ⊢
       simp only[aSg] at h1 ⊢
       exact⟨h1.1,decide_eq_true (by have:=hg.2;show((kl (bK l f).got ⟨f.mix,f.data⟩).length:Int)≤14;omega)⟩
   · refine aQg hp.2 hlt.1 (fun y hy=> ?_) (fun y hy=> ?_)
     · rw[← hh] at hy;exact hy
     · rw[← hh] at hy;exact hy
 · rw[dx hfit]
   exact⟨hp,hlt.2⟩
theorem aFz {l:List dY} {f:cF} {i:Nat} (h: (bS l f).2=(i:Int)):i< (bS l f).1.length:=by
 by_cases hfit:pJ (bK l f) f=true
 · rw[zX hfit] at h ⊢
   have h: (((dE l f).2:Nat):Int)=(i:Int):=h
   have h2: (dE l f).2< (dE l f).1.length:=by
    by_cases hn:iA l f.frm f.num<0
    · rw[zW hn];simp
    · rw[dw hn];exact(aFy hn).1
   simp only[List.length_set];omega
 · rw[dx hfit] at h
   have h: (-1:Int)=(i:Int):=h
   omega
theorem aC9 (size:Int) (l:List gI): (dN size l).1.length≤size.toNat:=by
 unfold dN
 split
 · split
   · exact aSj _
   · split
     · exact aSj _
     · rw[aSk];omega
 · exact aSj _
section
variable {k:aO} {f:cF} {l:List dY} {i:Nat}
theorem ie (h: ¬(dN f.size (l.getD i .zero).got).2=true):nC k f l i=(dW k l,[]):=if_neg h
theorem bo (h: (dN f.size (l.getD i .zero).got).2=true) (he:gJ (eJ f (dN f.size (l.getD i .zero).got).1)=[]):nC k f l i=(dW k (gL l i),[]):=by
 rw[nC,if_pos h,if_pos he]
theorem xS (h: (dN f.size (l.getD i .zero).got).2=true) (he: ¬gJ (eJ f (dN f.size (l.getD i .zero).got).1)=[]) (hw: ¬(fF (dW k (gL l i)) (eX fQ (eJ f (dN f.size (l.getD i .zero).got).1)) true).2=true):
 nC k f l i=((fF (dW k (gL l i)) (eX fQ (eJ f (dN f.size (l.getD i .zero).got).1)) true).1,[]):=by
 rw[nC,if_pos h,if_neg he,if_neg hw]
theorem ig (h: (dN f.size (l.getD i .zero).got).2=true) (he: ¬gJ (eJ f (dN f.size (l.getD i .zero).got).1)=[]) (hw: (fF (dW k (gL l i)) (eX fQ (eJ f (dN f.size (l.getD i .zero).got).1)) true).2=true):
 nC k f l i=((fF (dW k (gL l i)) (eX fQ (eJ f (dN f.size (l.getD i .zero).got).1)) true).1,[rx 2 f]):=by
 rw[nC,if_pos h,if_neg he,if_pos hw]
end
theorem cj {k:aO} {rec:List UInt8} {fc:Bool} (hl:k.log.length≤140737488355328): (fF k rec fc).1.halves=k.halves:=by
 unfold fF
 split
 · have:=(aLf (k:=k) (rec:=rec) hl).2
   cases fc
   · exact this
   · exact this
 · rfl
theorem mt {k:aO} {f:cF} (hok:bF k=true) (hu:k.up=true) (hf:eL f=true) (hk:f.kind=1):HOk (dL k f).1.halves∧(dL k f).1.halves.length≤3:=by
 have h0:=ic hok
 have hlg:=fV hok
 have h1:=aGz (f:=f) h0 hlg.2.2.2.1 hf hk
 have hcut: ∀i,HOk (gL (bS k.halves f).1 i)∧(gL (bS k.halves f).1 i).length≤3:=fun i=>⟨aGy h1.1 i,Nat.le_trans (vZ _ i) h1.2⟩
 unfold dL
 split
 · exact⟨h0,hlg.2.2.2.1⟩
 · split
   · exact⟨h0,hlg.2.2.2.1⟩
   · split
     · exact⟨h0,hlg.2.2.2.1⟩
     · split
       · exact h1
       · by_cases h2: (dN f.size ((bS k.halves f).1.getD (bS k.halves f).2.toNat .zero).got).2=true
         · by_cases h3:gJ (eJ f (dN f.size ((bS k.halves f).1.getD (bS k.halves f).2.toNat .zero).got).1)=[]
           · rw[bo h2 h3];exact hcut _
           · have hlog: (dW k (gL (bS k.halves f).1 (bS k.halves f).2.toNat)).log.length≤140737488355328:=by show k.log.length≤_;omega
             by_cases h4: (fF (dW k (gL (bS k.halves f).1 (bS k.halves f).2.toNat)) (eX fQ (eJ f (dN f.size ((bS k.halves f).1.getD (bS k.halves f).2.toNat .zero).got).1)) true).2=true
             · rw[ig h2 h3 h4];dsimp only;rw[cj hlog];exact hcut _
             · rw[xS h2 h3 h4];dsimp only;rw[cj hlog];exact hcut _
         · rw[ie h2];exact h1
theorem aG0 {l:List dY} (h:HOk l): ∀x∈l,x.got.length≤14:=fun x hx=>(mM ((tZ x).1 (h.1 x hx)).1).2.2.2.2.2
section
variable {k:aO} {f:cF}
theorem sa (h: ¬bF k=true):cT k f=(.zero,[]):=if_neg h
theorem sc (h:bF k=true) (h2: ¬(k.up&&eL f&&f.dst==k.id)=true):cT k f=(k,[]):=by rw[cT,if_pos h,if_neg h2]
theorem dz (h:bF k=true) (h2: (k.up&&eL f&&f.dst==k.id)=true) (h3:f.kind=1):cT k f=dL k f:=by rw[cT,if_pos h,if_pos h2,if_pos h3]
theorem sd (h:bF k=true) (h2: (k.up&&eL f&&f.dst==k.id)=true) (h3: ¬f.kind=1) (h4:zV k f=true):cT k f=((fF k (km f) false).1,[]):=by rw[cT,if_pos h,if_pos h2,if_neg h3,if_pos h4]
theorem ko (h:bF k=true) (h2: (k.up&&eL f&&f.dst==k.id)=true) (h3: ¬f.kind=1) (h4: ¬zV k f=true):cT k f=(k,[]):=by rw[cT,if_pos h,if_pos h2,if_neg h3,if_neg h4]
end
theorem xx {k:aO} {f:cF} {c:Bool} (hok:bF k=true) (h: (f.kind != 2||decide (aX (aZ k).1.held f.frm f.num<0)||dc ((List.drop 3 ((aE (aZ k).1.held).getD (aX (aZ k).1.held f.frm f.num).toNat [])).getD 0 (.i 0)) != f.til||
 dc ((List.drop 2 ((aE (aZ k).1.held).getD (aX (aZ k).1.held f.frm f.num).toNat [])).getD 0 (.i 0)) != f.to)=c):zV k f= !c:=by
 subst h
 unfold zV
 by_cases hp:0≤aX (aZ k).1.held f.frm f.num
 · obtain⟨j,hj,hjl,_⟩:=qF hok hp
   rw[hj,aSd,aQ hjl]
   show _= !(f.kind != 2||decide ((j:Int)<0)||((aZ k).1.held.getD j .zero).til != f.til||((aZ k).1.held.getD j .zero).to != f.to)
   have e1:decide ((j:Int)<0)=false:=by simp
   have e2:decide (0≤(j:Int))=true:=by simp
   rw[e1,e2]
   simp only[bne]
   cases f.kind==2<;>cases ((aZ k).1.held.getD j .zero).til==f.til<;>cases ((aZ k).1.held.getD j .zero).to==f.to<;>rfl
 · have e1:decide (aX (aZ k).1.held f.frm f.num<0)=true:=by simp;omega
   have e2:decide (0≤aX (aZ k).1.held f.frm f.num)=false:=by simp;omega
   rw[e1,e2]
   simp
theorem aLi {k:aO} {f:cF} (hok:bF k=true) (h: (f.kind != 2||decide (aX (aZ k).1.held f.frm f.num<0)||dc ((List.drop 3 ((aE (aZ k).1.held).getD (aX (aZ k).1.held f.frm f.num).toNat [])).getD 0 (.i 0)) != f.til||
 dc ((List.drop 2 ((aE (aZ k).1.held).getD (aX (aZ k).1.held f.frm f.num).toNat [])).getD 0 (.i 0)) != f.to)=true): ¬zV k f=true:=by rw[xx hok h];simp
theorem aI2 {k:aO} {f:cF} (hok:bF k=true) (h: (f.kind != 2||decide (aX (aZ k).1.held f.frm f.num<0)||dc ((List.drop 3 ((aE (aZ k).1.held).getD (aX (aZ k).1.held f.frm f.num).toNat [])).getD 0 (.i 0)) != f.til||
 dc ((List.drop 2 ((aE (aZ k).1.held).getD (aX (aZ k).1.held f.frm f.num).toNat [])).getD 0 (.i 0)) != f.to)=false):zV k f=true:=by rw[xx hok h];rfl
structure EvR where
 kind:Int
 at_:Int
 frm:Int
 num:Int
 word:Int
 mix:Int
 keep:Int
 dst:Int
 til:Int
 text:List UInt8
def EvR.row (e:EvR):List D:=[.i e.kind,.i e.at_,.i e.frm,.i e.num,.i e.word,.i e.mix,.i e.keep,.i e.dst,.i e.til,.s e.text]
abbrev EvR.V (e:EvR):V:= .e (.agg [.d (.i e.kind),.d (.i e.at_),.d (.i e.frm),.d (.i e.num),.d (.i e.word),.d (.i e.mix),.d (.i e.keep),.d (.i e.dst),.d (.i e.til),.d (.s e.text)])
def Adj (a b:Int):Prop:=(0≤a∧a≤3)∧(0≤b∧b≤3)∧ ¬(a=3∧b=3)
def FP (f:cF):Prop:=Adj f.src f.dst∧f.data.length≤1000
def PP (p:pG):Prop:=Adj p.frm p.to∧p.data.length≤1000
def fG (r:List D):Prop:= ∃p:pG,r=p.row∧PP p
def cL (r:List D):Prop:= ∃n:bB,r=n.row∧n.text.length≤1000000
def iU (r:List D):Prop:=True
theorem se:fG [.i 0,.i 0,.s [],.b false]:=⟨⟨0,0,[],false⟩,rfl,by unfold PP Adj;simp⟩
theorem aDa:cL [.i 0,.i 0,.i 0,.i 0,.s []]:=⟨⟨0,0,0,0,[]⟩,rfl,aSj _⟩
def zY (a b:Int):Int:=if a<b then a else b
theorem aAj {a b:Int} (h:Adj a b):0≤zY a b∧zY a b≤2:=by
 obtain⟨h1,h2,h3⟩:=h
 unfold zY
 split<;>omega
theorem pK:mz .zero:=⟨aSj _,aSj _,fun x h=>(by cases h)⟩
def Sm (k' k:aO):Prop:=k'.log.length≤2400∧k'.halves=k.halves
theorem Sm.ks {k k':aO} (h:Sm k' k) (hk:mz k):mz k':=⟨h.1,by rw[h.2];exact hk.2.1,by rw[h.2];exact hk.2.2⟩
theorem Sm.refl {k:aO} (h:k.log.length≤2400):Sm k k:=⟨h,rfl⟩
theorem zZ {l:List UInt8} {f:Int} {rec:List UInt8} (h:l.length≤2400): (cB l f rec).1.1.length≤2400:=by
 unfold cB
 split
 · split
   · rename_i h9
     simp only[aSg,decide_eq_true_eq] at h9
     show(l++kZ rec).length≤_
     rw[aSe];exact h9.2
   · exact h
 · exact aSj _
theorem yH {l:List UInt8} {f:Int} {recs:List (List UInt8)} (h:l.length≤2400): (eO l f recs).1.1.length≤2400:=by
 unfold eO
 split
 · split
   · rename_i h9
     simp only[aSg,decide_eq_true_eq] at h9
     exact h9.2
   · exact h
 · exact aSj _
theorem aF0 {k:aO} {rec:List UInt8} (h:k.log.length≤2400):Sm (oN k rec).1 k:=by
 unfold oN
 split
 · split
   · exact⟨zZ h,rfl⟩
   · split
     · split
       · exact⟨zZ (yH h),rfl⟩
       · exact Sm.refl h
     · exact Sm.refl h
 · exact Sm.refl h
theorem kq {l:List UInt8} {f:Int} (h:l.length≤2400): (mN l f).1.length≤2400:=by
 unfold mN
 split
 · exact h
 · exact aSj _
theorem xT {k:aO} (h:k.log.length≤2400):Sm (tW k) k:=⟨kq h,rfl⟩
theorem sP {k:aO} {rec:List UInt8} {fc:Bool} (h:k.log.length≤2400):Sm (fF k rec fc).1 k:=by
 have hl:=aF0 (rec:=rec) h
 unfold fF
 split
 · cases fc
   · exact hl
   · exact⟨(xT hl.1).1,hl.2⟩
 · exact Sm.refl h
theorem kr {k:aO} {rec:List UInt8} (h:k.log.length≤2400):Sm (iZ k rec).1 k:=sP (fc:=true) h
theorem xU {k:aO} (h:mz k):mz (eD k).1:=by
 unfold eD
 split
 · split
   · exact(kr h.1).ks h
   · exact h
 · exact pK
theorem aI3 {k:aO} {a b:Int} {t:List UInt8} (h:mz k):mz (dV k a b t).1:=by
 unfold dV
 split
 · split
   · split
     · exact(kr h.1).ks h
     · exact h
   · exact h
 · exact pK
theorem aI4 {k:aO} {a b:Int} (h:mz k):mz (cH k a b).1:=by
 unfold cH
 split
 · split
   · split
     · exact(kr h.1).ks h
     · exact h
   · exact h
 · exact pK
theorem xV {k:aO} (h:mz k):mz (dX k).1:=by
 unfold dX
 split
 · split
   · exact(show Sm (lA k (eO k.log k.forced (iT (aZ k).1)).1) k from⟨yH h.1,rfl⟩).ks h
   · exact h
 · exact pK
theorem uV {k:aO} (h:mz k):mz (eF k).1:=by
 unfold eF
 split
 · split
   · exact h
   · exact(xT h.1).ks h
 · exact pK
theorem aF1 {k:aO} {keep:Int} (h:mz k):mz (mO k keep):=by
 unfold mO
 split
 · refine⟨?_,aSj _,fun x hx=>(by cases hx)⟩
   show(jE k.log k.forced keep).1.length≤_
   have:=h.1
   unfold jE
   split
   · show(k.log.take _).length≤_
     rw[aSk];omega
   · exact aSj _
 · exact pK
theorem aF2 {k:aO} (h:mz k):mz (jK k):=by
 unfold jK
 split
 · exact h
 · exact pK
theorem aI5 {k:aO} (hl:k.log.length≤2400) (h:HOk k.halves∧k.halves.length≤3):mz k:=⟨hl,by have:=h.2;omega,fun x hx=>by have:=aG0 h.1 x hx;omega⟩
theorem un {k:aO} {f:cF} (h:k.log.length≤2400): (dL k f).1.log.length≤2400:=by
 unfold dL
 split
 · exact h
 · split
   · exact(xT h).1
   · split
     · exact h
     · split
       · exact h
       · by_cases h2: (dN f.size ((bS k.halves f).1.getD (bS k.halves f).2.toNat .zero).got).2=true
         · by_cases h3:gJ (eJ f (dN f.size ((bS k.halves f).1.getD (bS k.halves f).2.toNat .zero).got).1)=[]
           · rw[bo h2 h3];exact h
           · have hlog: (dW k (gL (bS k.halves f).1 (bS k.halves f).2.toNat)).log.length≤2400:=h
             by_cases h4: (fF (dW k (gL (bS k.halves f).1 (bS k.halves f).2.toNat)) (eX fQ (eJ f (dN f.size ((bS k.halves f).1.getD (bS k.halves f).2.toNat .zero).got).1)) true).2=true
             · rw[ig h2 h3 h4];exact(sP hlog).1
             · rw[xS h2 h3 h4];exact(sP hlog).1
         · rw[ie h2];exact h
theorem aF3 {k:aO} {f:cF} (h:mz k):mz (cT k f).1:=by
 by_cases hok:bF k=true
 · by_cases hgo: (k.up&&eL f&&f.dst==k.id)=true
   · have h1:k.up=true:=by simp at hgo;exact hgo.1.1
     have h2:eL f=true:=by simp at hgo;exact hgo.1.2
     by_cases hk:f.kind=1
     · rw[dz hok hgo hk]
       exact aI5 (un h.1) (mt hok h1 h2 hk)
     · by_cases hl:zV k f=true
       · rw[sd hok hgo hk hl];exact(sP h.1).ks h
       · rw[ko hok hgo hk hl];exact h
   · rw[sc hok hgo];exact h
 · rw[sa hok];exact pK
theorem aNi {kind:Int} {f:cF} (h:eL f=true):FP (rx kind f):=by
 have hs:=kX h
 refine⟨⟨hs.2.1,hs.1,?_⟩,aSj _⟩
 intro ⟨e1,e2⟩
 have e1:f.dst=3:=e1
 have e2:f.src=3:=e2
 by_cases hk:f.kind=1
 · have:=(aHw h hk).2;omega
 · have:=(aHx h hk).2;omega
theorem aAk {k:aO} {f:cF} (h:eL f=true): (∀g∈(dL k f).2,FP g)∧(dL k f).2.length≤1:=by
 have one: ∀c,(∀g∈[rx c f],FP g)∧[rx c f].length≤1:=fun c=>⟨fun g hg=>by rw[aSs.1 hg];exact aNi h,aSo _⟩
 have none: (∀g∈([]:List cF),FP g)∧([]:List cF).length≤1:=⟨fun g hg=>(by cases hg),aSj _⟩
 unfold dL
 split
 · exact one 3
 · split
   · exact one 2
   · split
     · exact none
     · split
       · exact none
       · by_cases h2: (dN f.size ((bS k.halves f).1.getD (bS k.halves f).2.toNat .zero).got).2=true
         · by_cases h3:gJ (eJ f (dN f.size ((bS k.halves f).1.getD (bS k.halves f).2.toNat .zero).got).1)=[]
           · rw[bo h2 h3];exact none
           · by_cases h4: (fF (dW k (gL (bS k.halves f).1 (bS k.halves f).2.toNat)) (eX fQ (eJ f (dN f.size ((bS k.halves f).1.getD (bS k.halves f).2.toNat .zero).got).1)) true).2=true
             · rw[ig h2 h3 h4];exact one 2
             · rw[xS h2 h3 h4];exact none
         · rw[ie h2];exact none
theorem aG1 {k:aO} {f:cF}: (∀g∈(cT k f).2,FP g)∧(cT k f).2.length≤1:=by
 have none: (∀g∈([]:List cF),FP g)∧([]:List cF).length≤1:=⟨fun g hg=>(by cases hg),aSj _⟩
 by_cases hok:bF k=true
 · by_cases hgo: (k.up&&eL f&&f.dst==k.id)=true
   · have h2:eL f=true:=by simp at hgo;exact hgo.1.2
     by_cases hk:f.kind=1
     · rw[dz hok hgo hk];exact aAk h2
     · by_cases hl:zV k f=true
       · rw[sd hok hgo hk hl];exact none
       · rw[ko hok hgo hk hl];exact none
   · rw[sc hok hgo];exact none
 · rw[sa hok];exact none
theorem aI6 (k:aR) (n:bB): (hP k n).1.id=k.id:=by
 unfold hP
 repeat' split
 all_goals rfl
theorem aLj (k:aR) (w:List UInt8) (n:Int): (kP k w n).1.id=k.id:=by
 unfold kP
 repeat' split
 all_goals rfl
theorem aI7 (k:aR) (w:List UInt8) (n:bB): (fN k w n).1.id=k.id:=by
 unfold fN
 repeat' split
 all_goals first|rfl|exact aI6 _ _
theorem aI8 (k:aR) (w:List UInt8) (m:bZ): (hZ k w m).1.id=k.id:=by
 unfold hZ
 repeat' split
 all_goals rfl
theorem aI9 (k:aR) (rec:List UInt8): (fA k rec).1.id=k.id:=by
 unfold fA
 repeat' split
 all_goals first|rfl|exact aLj _ _ _|exact aI7 _ _ _|exact aI8 _ _ _
theorem xy {k:aR} {rec:List UInt8} (h: (bY k rec).2=true): (bY k rec).1.id=k.id:=by
 unfold bY at h ⊢
 split at h
 · rename_i hk
   rw[if_pos hk]
   unfold kY
   split
   · exact aI9 k rec
   · rfl
 · cases h
theorem xz: ∀{rs:List (List UInt8)} {k:aR},(nI k rs).2=true→(nI k rs).1.id=k.id
 | [],k,_=>rfl
 |r::rs,k,h=>by
  unfold nI at h ⊢
  split at h
  · rename_i hd
    rw[if_pos hd,xz h,xy hd]
  · cases h
theorem aLk {k:aO} (h:bF k=true): (aZ k).1.id=k.id:=by
 unfold bF at h
 simp only[aSg] at h
 have h2:=h.1.1.2
 unfold aZ gT at h2 ⊢
 split at h2
 · rename_i hn
   rw[if_pos hn,xz h2]
   unfold aY
   rw[if_pos hn]
 · cases h2
theorem aAl {a b:Int} (ha:eB a=true) (hb:eB b=true) (h:a≠b):Adj a (hG a b)∧(a - hG a b=1∨hG a b - a=1):=by
 have h1:0≤a∧a≤3:=by simpa[eB,gX] using ha
 have h2:0≤b∧b≤3:=by simpa[eB,gX] using hb
 have e:hG a b=if a<b then a+1 else a - 1:=by
  unfold hG
  rw[ha,hb,beq_eq_false_iff_ne.2 h];rfl
 rw[e]
 unfold Adj
 split<;>omega
theorem aQh {k:aO} {a b c:Int} (h: (eA k a b c).2=true):FP (eA k a b c).1:=by
 unfold eA at h ⊢
 split at h
 · rename_i hc
   rw[if_pos hc]
   simp only[aSg,decide_eq_true_eq] at hc
   obtain⟨⟨⟨hok,hu⟩,hm⟩,hat⟩:=hc
   obtain⟨j,hj,hjl,_⟩:=qF hok hat
   rw[hj,aSd]
   have hp:=(bV _).1 (gN hok)
   have hh:=oM.1 hp.2.2.1 j hjl
   have hn:=oM.1 hp.2.1.1 j hjl
   unfold vG at hh
   unfold mI eZ at hn
   simp only[aSg] at hh hn
   have hw:=hh.1.2
   unfold fp at hw
   simp only[aSg] at hw
   have hid:=aLk hok
   have h1:eB k.id=true:=by rw[← hid];exact hp.1.1
   have h2:=hn.1.1.1.1.2
   have h3:k.id≠((aZ k).1.held.getD j .zero).to:=by rw[← hid];simpa using hw.1
   exact⟨(aAl h1 h2 h3).1,by have:=re ((aZ k).1.held.getD j .zero).text c;show(xL _ c).length≤_;omega⟩
 · cases h
section
variable {P:Program} {T:gB} {o:Oper} {σ σ1:St} {x:Operand} {t e:TypeId} {s1 s2 d j es n:Nat} {s3:List C} {Z:ej} {R:List (dD×Option K)} {g:Bool} {k:List (dD×Option K)→V→Prop}
theorem aAm (hT:dK P T) (ho:o.op= .call {callee:= .builtin .len,args:= #[x],argTypes:= #[t]}) (hd:o.dst=some d) (ht:T t=some ⟨.sl e,s1,s2,s3⟩) (hx:ev σ1 x=some (.e (.c (ps j es n)),R)) (hl:aS σ1 (.o j)=some (.zone Z))
 (hr:g=true→oX σ (R++[(.o j,some (.zone Z))])) (h:k (R++[(.o j,some (.zone Z))]) (I n)): ∃R X,(g=true→wG P o R [(.t d,.v X)]∧bJ R σ1)∧(g=true→oX σ R)∧k R X:=by
 obtain⟨R',W',h1,h2,e1,e2⟩:=dg (k:=fun R' W'=>R'=R++[(.o j,some (.zone Z))]∧W'=[(.t d,.v (I n))]) hT ho hd ht hx hl ⟨rfl,rfl⟩
 subst e1;subst e2
 exact⟨_,_,fun _=>⟨h1,h2⟩,hr,h⟩
end
theorem sf {l:List cF} {i:Nat} (h:i<l.length): (lP l).getD i []=(l.getD i cF.zero).row:=by
 rw[aSl,aSl]
 simp[lP,h]
def ck (a n:Nat):Nat:=a+min n (30 - a)
theorem sg {a n:Nat} (h:a≤30):ck a n≤30:=by unfold ck;omega
structure tl (ks:List aO) (ls:List Bool) (a b c:Nat):Prop where
 four:ks.length=4
 small: ∀k∈ks,mz k
 three:ls.length=3
 ra:a≤30
 rb:b≤6
 rc:c≤6
theorem tl.at {ks:List aO} {ls:List Bool} {a b c i:Nat} (h:tl ks ls a b c) (hi:i<4):mz (ks.getD i .zero):=h.small _ (dU (by rw[h.four];exact hi))
theorem tl.set {ks:List aO} {ls:List Bool} {a b c:Nat} (h:tl ks ls a b c) {k:aO} (hk:mz k) (i:Nat):tl (ks.set i k) ls a b c:=
 ⟨by rw[List.length_set];exact h.four,fun x hx=>by rcases List.mem_or_eq_of_mem_set hx with hx|rfl;exact h.small x hx;exact hk,h.three,h.ra,h.rb,h.rc⟩
theorem tl.to {ks:List aO} {ls:List Bool} {a b c a' b' c':Nat} (h:tl ks ls a b c) (h1:a'≤30) (h2:b'≤6) (h3:c'≤6):tl ks ls a' b' c':=⟨h.four,h.small,h.three,h1,h2,h3⟩
theorem tl.links {ks:List aO} {ls ls':List Bool} {a b c:Nat} (h:tl ks ls a b c) (h1:ls'.length=3):tl ks ls' a b c:=⟨h.four,h.small,h1,h.ra,h.rb,h.rc⟩
theorem bE {l:List aO} {i:Nat} {k:aO} (hi:i<l.length): (aG l).set i (cX ((aG l).getD i []) 0 k.row)=aG (l.set i k):=by
 rw[bW hi]
 have:cX ((l.getD i .zero).row) 0 k.row=k.row:=rfl
 rw[this]
 simp[aG,List.map_set]
theorem aAn {l:List Bool} {i:Nat} {x:Bool} (hi:i<l.length): (aK l).set i (cX ((aK l).getD i []) 0 [D.b x])=aK (l.set i x):=by
 rw[kH hi]
 have:cX [D.b (l.getD i false)] 0 [D.b x]=[D.b x]:=rfl
 rw[this]
 simp[aK,List.map_set]
theorem xW {a:Int} (h:0≤a∧a≤3): ∃i:Nat,a=(i:Int)∧i<4:=⟨a.toNat,by omega,by omega⟩
theorem aLl {k:aO} {a b:Int} (h:mz k): (cH k a b).2.1.text.length≤1000000:=by
 unfold cH
 split
 · rename_i hok
   split
   · split
     · rename_i hc _
       simp only[aSg,decide_eq_true_eq] at hc
       obtain⟨j,hj,hjl,_⟩:=rr hok hc.2
       rw[hj,aSd]
       have h6:=(bV _).1 (gN hok)
       have hn:=oK h6.2.1.2.2 (dU (z:=bB.zero) hjl)
       unfold eZ vF at hn
       simp only[aSg] at hn
       have h24:1≤(((aZ k).1.inbox.getD j .zero).text.length:Int)∧(((aZ k).1.inbox.getD j .zero).text.length:Int)≤24:=by simpa[gX] using hn.2.2
       show((aZ k).1.inbox.getD j .zero).text.length≤_
       omega
     · exact aSj _
   · exact aSj _
 · exact aSj _
def mgC (j j2:Nat):C→C
 | .z o Q=> .z (if o=j2 then j else o) Q
 |c=>c
def mgE (j j2:Nat):E→E
 | .c x=> .c (mgC j j2 x)
 | .agg cs=> .agg (cs.map (mgC j j2))
def mgV (j j2:Nat):V→V
 | .e x=> .e (mgE j j2 x)
 | .tup xs=> .tup (xs.map (mgE j j2))
def mgK (j j2:Nat):K→K
 | .v x=> .v (mgV j j2 x)
 | .cv s w b x=> .cv s w b (mgV j j2 x)
 | .box ty cs=> .box ty (cs.map (mgC j j2))
 |k=>k
def mgS (j j2:Nat) (σ:St):St:=σ.map fun p=>(p.1,if p.1= .o j2 then .dead else mgK j j2 p.2)
theorem nD (j j2:Nat) (σ:St) (l:dD):aS (mgS j j2 σ) l=(aS σ l).map fun k=>if l= .o j2 then .dead else mgK j j2 k:=by
 induction σ with
 |nil=>rfl
 |cons p r ih=>
  unfold mgS at ih ⊢
  rw[List.map_cons]
  unfold aS
  by_cases h:p.1=l
  · simp[h]
  · simp only[h,if_false];exact ih
def aa:Value→Value→Value
 | .tuple a,.tuple b=> .tuple (a++b)
 |p,_=>p
theorem ii {p q v:Value} (hp: ∃vs,p= .tuple vs) (hq: ∃vs,q= .tuple vs):pb (aa p q) v↔pb p v∨pb q v:=by
 obtain⟨a,rfl⟩:=hp
 obtain⟨b,rfl⟩:=hq
 simp[pb,aa]
theorem aAo {p:Value} (hp: ∃vs,p= .tuple vs) {b:Nat}:wF p b↔ ∃v,pb p v∧blk v=some b:=by
 obtain⟨a,rfl⟩:=hp
 simp[pb,wF]
section
variable {σ:St} {ι ν:Nat→Value} {S:Nat→Prop} {w:World} {j j2 es:Nat} {e:TypeId} {Pr:List D→Prop}
theorem CR.mg (h1:aS σ (.o j)=some (aI e es Pr)) (h2:aS σ (.o j2)=some (aI e es Pr)) (hne:j≠j2) (hp: ∃vs,ι j= .tuple vs) (hq: ∃vs,ι j2= .tuple vs) {c:C} {v:Value} (h:CR σ ι w S c v):
 CR (mgS j j2 σ) (fun o=>if o=j then aa (ι j) (ι j2) else ι o) w S (mgC j j2 c) v:=by
 cases c with
 |d x=>exact h
 |nil=>exact h
 |own o n=>
  refine⟨h.1,?_⟩
  rcases h.2 with⟨e',es',rows,hl,hn,hv⟩|hl
  · have ho:o≠j:=fun e=>by rw[e,h1] at hl;cases hl
    have ho2:o≠j2:=fun e=>by rw[e,h2] at hl;cases hl
    refine .inl ⟨e',es',rows,by rw[nD,hl];simp[ho2,mgK],hn,fun hh=> ?_⟩
    dsimp only;rw[if_neg ho];exact hv hh
  · right;rw[nD,hl];simp[mgK]
 |pt o k=>
  refine⟨h.1,?_⟩
  rcases h.2 with⟨ty,cs,hl,b,hi,hv⟩|hl
  · have ho:o≠j:=fun e=>by rw[e,h1] at hl;cases hl
    have ho2:o≠j2:=fun e=>by rw[e,h2] at hl;cases hl
    refine .inl ⟨ty,cs.map (mgC j j2),by rw[nD,hl];simp[ho2,mgK],b,?_,hv⟩
    dsimp only;rw[if_neg ho];exact hi
  · right;rw[nD,hl];simp[mgK]
 |pe o n i k=>
  refine⟨h.1,?_⟩
  rcases h.2 with⟨e',es',rows,hl,hn,hv⟩|hl
  · have ho:o≠j:=fun e=>by rw[e,h1] at hl;cases hl
    have ho2:o≠j2:=fun e=>by rw[e,h2] at hl;cases hl
    refine .inl ⟨e',es',rows,by rw[nD,hl];simp[ho2,mgK],hn,fun hh=> ?_⟩
    dsimp only;rw[if_neg ho];exact hv hh
  · right;rw[nD,hl];simp[mgK]
 |rp cs=>exact h
 |z o Q=>
  refine⟨h.1,?_⟩
  have hj:aS (mgS j j2 σ) (.o j)=some (aI e es Pr):=by rw[nD,h1];simp[hne,mgK]
  rcases h.2 with⟨Z,hl,hv⟩|hl
  · by_cases ho2:o=j2
    · subst ho2
      rw[h2] at hl;cases hl
      refine .inl ⟨aKc e es Pr,by rw[if_pos rfl];exact hj,fun p hpp=>hv p fun v hv'=> ?_⟩
      rw[if_pos rfl] at hpp
      dsimp only at hpp
      rw[if_pos rfl] at hpp
      exact hpp v ((ii hp hq).2 (.inr hv'))
    · rw[if_neg ho2]
      by_cases ho:o=j
      · subst ho
        rw[h1] at hl;cases hl
        refine .inl ⟨aKc e es Pr,hj,fun p hpp=>hv p fun v hv'=> ?_⟩
        dsimp only at hpp
        rw[if_pos rfl] at hpp
        exact hpp v ((ii hp hq).2 (.inl hv'))
      · refine .inl ⟨Z,by rw[nD,hl];simp[ho2,mgK],fun p hpp=>hv p ?_⟩
        dsimp only at hpp
        rw[if_neg ho] at hpp
        exact hpp
  · have ho2:o≠j2:=fun e=>by rw[e,h2] at hl;cases hl
    right;rw[if_neg ho2,nD,hl];simp[ho2,mgK]
theorem ER.mg (h1:aS σ (.o j)=some (aI e es Pr)) (h2:aS σ (.o j2)=some (aI e es Pr)) (hne:j≠j2) (hp: ∃vs,ι j= .tuple vs) (hq: ∃vs,ι j2= .tuple vs) {c:E} {v:Value} (h:ER σ ι w S c v):
 ER (mgS j j2 σ) (fun o=>if o=j then aa (ι j) (ι j2) else ι o) w S (mgE j j2 c) v:=by
 cases c with
 |c x=>exact CR.mg h1 h2 hne hp hq h
 |agg cs=>
  obtain⟨vs,hv,hl,hk⟩:=h
  refine⟨vs,hv,by simp[hl],fun k c u hc hu=> ?_⟩
  rw[List.getElem?_map] at hc
  cases hx:cs[k]? with
  |none=>rw[hx] at hc;cases hc
  |some c0=>rw[hx] at hc;cases hc;exact CR.mg h1 h2 hne hp hq (hk k c0 u hx hu)
theorem kU.mg (h1:aS σ (.o j)=some (aI e es Pr)) (h2:aS σ (.o j2)=some (aI e es Pr)) (hne:j≠j2) (hp: ∃vs,ι j= .tuple vs) (hq: ∃vs,ι j2= .tuple vs) {c:V} {v:Value} (h:kU σ ι w S c v):
 kU (mgS j j2 σ) (fun o=>if o=j then aa (ι j) (ι j2) else ι o) w S (mgV j j2 c) v:=by
 cases c with
 |e x=>exact ER.mg h1 h2 hne hp hq h
 |tup cs=>
  obtain⟨vs,hv,hl,hk⟩:=h
  refine⟨vs,hv,by simp[hl],fun k c u hc hu=> ?_⟩
  rw[List.getElem?_map] at hc
  cases hx:cs[k]? with
  |none=>rw[hx] at hc;cases hc
  |some c0=>rw[hx] at hc;cases hc;exact ER.mg h1 h2 hne hp hq (hk k c0 u hx hu)
theorem jY.mg (h1:aS σ (.o j)=some (aI e es Pr)) (h2:aS σ (.o j2)=some (aI e es Pr)) (hne:j≠j2) (hp: ∃vs,ι j= .tuple vs) (hq: ∃vs,ι j2= .tuple vs) {o b:Nat} (h:jY (mgS j j2 σ) (fun o=>if o=j then aa (ι j) (ι j2) else ι o) o b):
 o≠j2∧(jY σ ι o b∨(o=j∧jY σ ι j2 b)):=by
 obtain⟨⟨k,hk,hl⟩,hb⟩:=h
 rw[nD] at hk
 by_cases ho2:o=j2
 · subst ho2
   rw[h2] at hk
   simp at hk
   subst hk
   exact hl.elim
 · refine⟨ho2,?_⟩
   by_cases ho:o=j
   · subst ho
     dsimp only at hb
     rw[if_pos rfl,aAo (by obtain⟨a,ha⟩:=hp;obtain⟨b,hb⟩:=hq;rw[ha,hb];exact⟨_,rfl⟩)] at hb
     obtain⟨v,hv,hbv⟩:=hb
     rcases(ii hp hq).1 hv with hv|hv
     · exact .inl ⟨⟨_,h1,trivial⟩,(aAo hp).2 ⟨v,hv,hbv⟩⟩
     · exact .inr ⟨rfl,⟨_,h2,trivial⟩,(aAo hq).2 ⟨v,hv,hbv⟩⟩
   · left
     dsimp only at hb
     rw[if_neg ho] at hb
     cases hx:aS σ (.o o) with
     |none=>rw[hx] at hk;cases hk
     |some k0=>
      rw[hx] at hk
      simp[ho2] at hk
      subst hk
      refine⟨⟨k0,hx,?_⟩,hb⟩
      cases k0<;>first|trivial|exact hl
theorem VR.mg (h:VR σ ι ν S w) (h1:aS σ (.o j)=some (aI e es Pr)) (h2:aS σ (.o j2)=some (aI e es Pr)) (hne:j≠j2):VR (mgS j j2 σ) (fun o=>if o=j then aa (ι j) (ι j2) else ι o) ν S w:=by
 have hp: ∃vs,ι j= .tuple vs:=(h.objs j _ h1).1
 have hq: ∃vs,ι j2= .tuple vs:=(h.objs j2 _ h2).1
 refine⟨fun s k hk=> ?_,fun o k hk=> ?_,fun o b hm=> ?_,fun o o' b hm hm'=> ?_,h.sz⟩
 · rw[nD] at hk
   cases hx:aS σ (.t s) with
   |none=>rw[hx] at hk;cases hk
   |some k0=>
    rw[hx] at hk
    simp at hk
    subst hk
    have:=h.slots s k0 hx
    cases k0 with
    |v x=>exact kU.mg h1 h2 hne hp hq this
    |cv s w b x=>exact⟨fun hb=>kU.mg h1 h2 hne hp hq (this.1 hb),this.2⟩
    |_=>trivial
 · rw[nD] at hk
   by_cases ho2:o=j2
   · subst ho2;rw[h2] at hk;simp at hk;subst hk;trivial
   · cases hx:aS σ (.o o) with
     |none=>rw[hx] at hk;cases hk
     |some k0=>
      rw[hx] at hk
      simp[ho2] at hk
      subst hk
      have ho':=h.objs o k0 hx
      by_cases ho:o=j
      · subst ho
        rw[h1] at hx;cases hx
        rw[if_pos rfl]
        refine⟨by obtain⟨a,ha⟩:=hp;obtain⟨b,hb⟩:=hq;rw[ha,hb];exact⟨_,rfl⟩,fun v hv=> ?_⟩
        rcases(ii hp hq).1 hv with hv|hv
        · exact(h.objs o _ h1).2 v hv
        · exact(h.objs j2 _ h2).2 v hv
      · rw[if_neg ho]
        cases k0 with
        |box ty cs=>
         obtain⟨b,vs,q1,q2,q3,q4⟩:=ho'
         refine⟨b,vs,q1,q2,by simp[q3],fun k c u hc hu=> ?_⟩
         rw[List.getElem?_map] at hc
         cases hy:cs[k]? with
         |none=>rw[hy] at hc;cases hc
         |some c0=>rw[hy] at hc;cases hc;exact CR.mg h1 h2 hne hp hq (q4 k c0 u hy hu)
        |row e es rows=>exact ho'
        |zone Z=>exact ho'
        |_=>trivial
 · rcases(jY.mg h1 h2 hne hp hq hm).2 with h'|⟨_,h'⟩
   · exact h.mutS _ b h'
   · exact h.mutS _ b h'
 · obtain⟨n1,c1⟩:=jY.mg h1 h2 hne hp hq hm
   obtain⟨n2,c2⟩:=jY.mg h1 h2 hne hp hq hm'
   rcases c1 with c1|⟨rfl,c1⟩<;>rcases c2 with c2|⟨rfl,c2⟩
   · exact h.inj o o' b c1 c2
   · exact(n1 (h.inj o j2 b c1 c2)).elim
   · exact(n2 (h.inj o' j2 b c2 c1)).elim
   · rfl
end
theorem RW.mg {P:Program} {cx:Cx P} {σ:St} {ι:Nat→Value} {S:Nat→Prop} {a:Act} {w:World} {j j2 es:Nat} {e:TypeId} {Pr:List D→Prop} (h:RW cx σ ι S a w) (h1:aS σ (.o j)=some (aI e es Pr)) (h2:aS σ (.o j2)=some (aI e es Pr)) (hne:j≠j2) (hk:cx.kio j2=none):
 RW cx (mgS j j2 σ) (fun o=>if o=j then aa (ι j) (ι j2) else ι o) S a w:=by
 have hp: ∃vs,ι j= .tuple vs:=(h.vr.objs j _ h1).1
 have hq: ∃vs,ι j2= .tuple vs:=(h.vr.objs j2 _ h2).1
 refine⟨h.vr.mg h1 h2 hne,h.size,h.defers,h.fr,fun o b hm=> ?_,h.rd,fun o k ho=> ?_⟩
 · rcases(jY.mg h1 h2 hne hp hq hm).2 with h'|⟨_,h'⟩
   · exact h.own _ b h'
   · exact h.own _ b h'
 · obtain⟨k',hk',hev⟩:=h.io o k ho
   have ho2:o≠j2:=fun e=>by rw[e,hk] at ho;cases ho
   refine⟨mgK j j2 k',by rw[nD,hk'];simp[ho2],?_⟩
   refine lZ.trans hev ?_
   by_cases hj:o=j
   · subst hj
     rw[h1] at hk';cases hk'
     rw[if_pos rfl]
     exact⟨rfl,fun v hv=>(ii hp hq).2 (.inl hv)⟩
   · rw[if_neg hj]
     cases k'<;>simp[lZ,mgK,ej.refl]
theorem SW.merge {P:Program} {io:List Nat} {Q:Ex→St→Prop} {σ:St} {c:Code} (j j2:Nat) {e:TypeId} {es:Nat} {Pr:List D→Prop} (h1:aS σ (.o j)=some (aI e es Pr)) (h2:aS σ (.o j2)=some (aI e es Pr)) (hne:j≠j2) (hk:iH j2 io=false) (h:SW P io c Q (mgS j j2 σ)):SW P io c Q σ:=fun cx ι S a w hio hw hf=>
 h cx _ S a w hio (hw.mg h1 h2 hne (by
  cases hx:cx.kio j2 with
  |none=>rfl
  |some k=>exact absurd (gC.2 (hio j2 k hx)) (by rw[hk];simp))) hf
def aG2 (P:Program) (io:List Nat) (s q:St):Prop:= ∀c Q,SW P io c Q q→SW P io c Q s
section
variable {P:Program} {io:List Nat} {σ q:St} {Q:Ex→St→Prop}
theorem ij (h:WK io (fun x=>x=q) σ):aG2 P io σ q:=fun c Q hq=>SW.wk h (fun s hs=>by subst hs;exact hq)
theorem aDb (j j2:Nat) {e:TypeId} {es:Nat} {Pr:List D→Prop} (h1:aS σ (.o j)=some (aI e es Pr)) (h2:aS σ (.o j2)=some (aI e es Pr)) (hne:j≠j2) (hk:iH j2 io=false) (h:aG2 P io (mgS j j2 σ) q):aG2 P io σ q:=
 fun c Q hq=>SW.merge j j2 h1 h2 hne hk (h c Q hq)
theorem SW.midL {A:Type} (ok:A→Prop) (st:A→St) {x y:Code} (h:SW P io x (ew (fun s=> ∃a,ok a∧aG2 P io s (st a)) Q) σ) (hy: ∀a,ok a→SW P io y Q (st a)):SW P io (.seq x y) Q σ:=
 SW.mid _ h fun s ⟨a,h1,h2⟩=>h2 y Q (hy a h1)
end
theorem vq {p:Prop} (h:p:=by first|exact True.intro|rfl|exact aSf rfl|exact⟨rfl,aSf rfl⟩|exact⟨by kernel_rfl,aSf (by kernel_rfl)⟩|omega|((repeat' apply And.intro)<;>first|trivial|rfl|exact aSf rfl|omega)|(simp;done)|(simp;omega)):p:=h
theorem s1 {p1 k:Prop} (x:k) (h1:p1:=by exact vq):p1∧k:=⟨h1,x⟩
theorem s2 {p1 p2 k:Prop} (x:k) (h1:p1:=by exact vq) (h2:p2:=by exact vq):p1∧p2∧k:=⟨h1,h2,x⟩
theorem s3 {p1 p2 p3 k:Prop} (x:k) (h1:p1:=by exact vq) (h2:p2:=by exact vq) (h3:p3:=by exact vq):p1∧p2∧p3∧k:=⟨h1,h2,h3,x⟩
theorem s4 {p1 p2 p3 p4 k:Prop} (x:k) (h1:p1:=by exact vq) (h2:p2:=by exact vq) (h3:p3:=by exact vq) (h4:p4:=by exact vq):p1∧p2∧p3∧p4∧k:=⟨h1,h2,h3,h4,x⟩
theorem s5 {p1 p2 p3 p4 p5 k:Prop} (x:k) (h1:p1:=by exact vq) (h2:p2:=by exact vq) (h3:p3:=by exact vq) (h4:p4:=by exact vq) (h5:p5:=by exact vq):p1∧p2∧p3∧p4∧p5∧k:=⟨h1,h2,h3,h4,h5,x⟩
theorem s6 {p1 p2 p3 p4 p5 p6 k:Prop} (x:k) (h1:p1:=by exact vq) (h2:p2:=by exact vq) (h3:p3:=by exact vq) (h4:p4:=by exact vq) (h5:p5:=by exact vq) (h6:p6:=by exact vq):p1∧p2∧p3∧p4∧p5∧p6∧k:=⟨h1,h2,h3,h4,h5,h6,x⟩
theorem s7 {p1 p2 p3 p4 p5 p6 p7 k:Prop} (x:k) (h1:p1:=by exact vq) (h2:p2:=by exact vq) (h3:p3:=by exact vq) (h4:p4:=by exact vq) (h5:p5:=by exact vq) (h6:p6:=by exact vq) (h7:p7:=by exact vq):p1∧p2∧p3∧p4∧p5∧p6∧p7∧k:=⟨h1,h2,h3,h4,h5,h6,h7,x⟩
theorem s8 {p1 p2 p3 p4 p5 p6 p7 p8 k:Prop} (x:k) (h1:p1:=by exact vq) (h2:p2:=by exact vq) (h3:p3:=by exact vq) (h4:p4:=by exact vq) (h5:p5:=by exact vq) (h6:p6:=by exact vq) (h7:p7:=by exact vq) (h8:p8:=by exact vq):p1∧p2∧p3∧p4∧p5∧p6∧p7∧p8∧k:=⟨h1,h2,h3,h4,h5,h6,h7,h8,x⟩
theorem s9 {p1 p2 p3 p4 p5 p6 p7 p8 p9 k:Prop} (x:k) (h1:p1:=by exact vq) (h2:p2:=by exact vq) (h3:p3:=by exact vq) (h4:p4:=by exact vq) (h5:p5:=by exact vq) (h6:p6:=by exact vq) (h7:p7:=by exact vq) (h8:p8:=by exact vq) (h9:p9:=by exact vq):p1∧p2∧p3∧p4∧p5∧p6∧p7∧p8∧p9∧k:=⟨h1,h2,h3,h4,h5,h6,h7,h8,h9,x⟩
theorem y1 {w1 p1 q1 k:Prop} (x:k) (h1:w1→p1:=by intro _;exact vq) (j1:q1:=by exact rk): (w1→p1)∧q1∧k:=⟨h1,j1,x⟩
theorem y2 {w1 p1 q1 w2 p2 q2 k:Prop} (x:k) (h1:w1→p1:=by intro _;exact vq) (j1:q1:=by exact rk) (h2:w2→p2:=by intro _;exact vq) (j2:q2:=by exact rk): (w1→p1)∧q1∧(w2→p2)∧q2∧k:=⟨h1,j1,h2,j2,x⟩
theorem y3 {w1 p1 q1 w2 p2 q2 w3 p3 q3 k:Prop} (x:k) (h1:w1→p1:=by intro _;exact vq) (j1:q1:=by exact rk) (h2:w2→p2:=by intro _;exact vq) (j2:q2:=by exact rk) (h3:w3→p3:=by intro _;exact vq) (j3:q3:=by exact rk): (w1→p1)∧q1∧(w2→p2)∧q2∧(w3→p3)∧q3∧k:=⟨h1,j1,h2,j2,h3,j3,x⟩
theorem y4 {w1 p1 q1 w2 p2 q2 w3 p3 q3 w4 p4 q4 k:Prop} (x:k) (h1:w1→p1:=by intro _;exact vq) (j1:q1:=by exact rk) (h2:w2→p2:=by intro _;exact vq) (j2:q2:=by exact rk) (h3:w3→p3:=by intro _;exact vq) (j3:q3:=by exact rk) (h4:w4→p4:=by intro _;exact vq) (j4:q4:=by exact rk): (w1→p1)∧q1∧(w2→p2)∧q2∧(w3→p3)∧q3∧(w4→p4)∧q4∧k:=⟨h1,j1,h2,j2,h3,j3,h4,j4,x⟩
section
variable {P:Program} {σ σ1 σin:St} {o:Oper} {f n:Nat} {X:V}
def aG3 (σ:St) (o:Oper) (f n:Nat) (σin:St) (X:V) (k:List (dD×Option K)→Tmp→Prop):Prop:=match o.op,o.dst with
 | .call c,some d=>match c.callee,evA σ c.args.toList with
  | .value (.func f'),some (Xs,Ra)=>match Nat.beq f' f&&(Nat.beq Xs.length n&&(Xs.all nF&&nF X)) with
   |true=>σin=eH 0 Xs∧k Ra d
   |false=>False
  |_,_=>False
 |_,_=>False
theorem sh {k:List (dD×Option K)→Tmp→Prop} (h:aG3 σ o f n σin X k): ∃c d Xs Ra,o.op= .call c∧c.callee= .value (.func f)∧o.dst=some d∧evA σ c.args.toList=some (Xs,Ra)∧Xs.length=n∧σin=eH 0 Xs∧Xs.all nF=true∧nF X=true∧k Ra d:=by
 unfold aG3 at h
 split at h<;>try exact h.elim
 rename_i c d ho hd
 split at h<;>try exact h.elim
 rename_i f' Xs Ra hc hx
 split at h<;>try exact h.elim
 rename_i hb
 simp only[aSg] at hb
 obtain⟨h1,h2,h3,h4⟩:=hb
 have h1:=Nat.eq_of_beq_eq_true h1
 subst h1
 exact⟨c,d,Xs,Ra,ho,hc,hd,hx,Nat.eq_of_beq_eq_true h2,h.1,h3,h4,h.2⟩
theorem xp {k:List (dD×Option K)→List (dD×K)→Prop} (hs:Spec P f n σin [(.t 0,.v X)]) (h:aG3 σ o f n σin X fun Ra d=>k Ra [(.t d,.v X)]): ∃R W,wG P o R W∧bJ R σ∧k R W:=by
 obtain⟨c,d,Xs,Ra,h1,h2,h3,h4,h5,h6,h7,h8,h9⟩:=sh h
 exact fd hs h1 h2 h3 h4 h5 h6 h7 h8 h9
theorem xc {g:Bool} {d:Tmp} {k:List (dD×Option K)→V→Prop} (hs:g=true→Spec P f n σin [(.t 0,.v X)]) (h:aG3 σ1 o f n σin X fun Ra d'=>match Nat.beq d' d with|true=>(g=true→oX σ Ra)∧k Ra X|false=>False): ∃R X,(g=true→wG P o R [(.t d,.v X)]∧bJ R σ1)∧(g=true→oX σ R)∧k R X:=by
 obtain⟨c,d',Xs,Ra,h1,h2,h3,h4,h5,h6,h7,h8,h9⟩:=sh h
 split at h9
 · rename_i hb
   have hb:=Nat.eq_of_beq_eq_true hb
   subst hb
   exact aJ9 hs h1 h2 h3 h4 h5 h6 h7 h8 h9.1 h9.2
 · exact h9.elim
end
section
variable {P:Program} {io:List Nat} {Q:Ex→St→Prop} {s σ':St} {rl:List (Nat×Nat)} {bor:List Nat}
theorem wq {J:St→Prop} (rl:List (Nat×Nat)) (bor:List Nat) (h:J σ') (h1:qL s σ' rl bor σ') (h2:yC σ' rl bor=true:=by rfl) (h3:wR io σ' rl bor=true:=by rfl):WK io J s:=Ab.wk σ' rl bor h (qs h1) h2 h3
theorem wa {c:Code} (σ':St) (rl:List (Nat×Nat)) (bor:List Nat) (h1:qL s σ' rl bor σ') (h:SW P io c Q σ') (h2:yC σ' rl bor=true:=by rfl) (h3:wR io σ' rl bor=true:=by rfl):SW P io c Q s:=SW.weaken σ' rl bor ⟨qs h1,h2⟩ h3 h
theorem rq {T:gB} {rs:List ResultVar} {X:V} (rl:List (Nat×Nat)) (bor:List Nat) (h1:aDz T s rs=some X) (h2:qL ((.t 0,.v X)::dO s) σ' rl bor σ') (h3:yC σ' rl bor=true:=by rfl) (h4:oh io σ' rl bor=true:=by rfl):yD T io rs σ' s:=eE X rl bor h1 (qs h2) h3 h4
theorem sq {x y:Code} (h:SW P io x (ew (SW P io y Q) Q) s):SW P io (.seq x y) Q s:=SW.seq h
theorem sk (h:Q .norm s):SW P io .skip Q s:=SW.skip h
theorem bk {id:Nat} {c:Code} (h:SW P io c (aDy id Q) s):SW P io (.block id c) Q s:=SW.block h
theorem xt {id:Nat} (h:Q (.exit id) s):SW P io (.exit id) Q s:=SW.exit h
theorem rt (h:Q .ret s):SW P io .ret Q s:=SW.ret h
theorem cd {c:Operand} {x y:Code} {t:Bool} {R:List (dD×Option K)} (hc:ev s c=some (B t,R)) (h1:t=true→SW P io x Q s) (h2:t=false→SW P io y Q s):SW P io (.cond c x y) Q s:=SW.cond hc h1 h2
end
theorem qx {p:Prop} (h:p:=by first|exact True.intro|with_reducible rfl|exact aR1):p:=h
theorem qz {p:Prop} (h:p:=by(repeat' apply ai)<;>first|exact True.intro|with_reducible rfl|exact aR1|rfl|(simp;done)|omega):p:=h
abbrev tI (s:Nat) (x:Int):dD×K:=(.t s,.v (I x))
abbrev tB (s:Nat) (x:Bool):dD×K:=(.t s,.v (B x))
abbrev tD (s:Nat) (x:D):dD×K:=(.t s,.v (Dv x))
abbrev tP (s o:Nat):dD×K:=(.t s,.v (.e (.c (.pt o 0))))
abbrev tO (s o n:Nat):dD×K:=(.t s,.v (.e (.c (.own o n))))
abbrev tV (s:Nat) (x:V):dD×K:=(.t s,.v x)
abbrev oB (o:Nat) (t:TypeId) (cs:List C):dD×K:=(.o o,.box t cs)
abbrev oR (o:Nat) (t:TypeId) (n:Nat) (r:List (List D)):dD×K:=(.o o,.row t n r)
end Go.Ab
namespace Go.Proofs.YtcbjphphppaoiaaGreatDoor
open Int renaming toNat_natCast→aSd
open List renaming length_append→aSe,length_nil→aSh,length_cons→aSi,length_take→aSk,getD_eq_getElem?_getD→aSl,getElem?_eq_some_iff→aSm,getElem?_eq_getElem→aSn,range→aSp,mem_map→aSq,length_drop→aSr,mem_singleton→aSs,all_eq_true→aSu,take_length→aSv,mem_cons→aSw
open Nat renaming le_of_ble_eq_true→aSf,zero_le→aSj,le_refl→aSo,add_mul→aSt
open Bool renaming and_eq_true→aSg
open Go Go.Ab Go.RowKit
set_option linter.unusedVariables false
abbrev Sp:=Ab.Spec Tryz.prog
abbrev tn:=Ab.SpecE Tryz.prog
theorem mo:Tryz.prog.follows .mixedOrders=true:=by kernel_rfl
theorem rT {io:List Nat} {Q:Ex→St→Prop} {σ:St} (ks:List Nat) {id:Nat} {ops:Array Oper} (h:goC Tryz.prog tab ops.toList false ops.toList σ [] fun σ' _=>pV ks σ' (Q .norm)):SW Tryz.prog io (.region id ops false) Q σ:=SW.regT dQ ks h
theorem rD {io:List Nat} {Q:Ex→St→Prop} {σ:St} (ks:List Nat) {id:Nat} {ops:Array Oper} (h:goC Tryz.prog tab ops.toList true ops.toList σ [] fun σ' ns=>zB ops.toList ns=true∧pV ks σ' (Q .norm)):SW Tryz.prog io (.region id ops true) Q σ:=SW.regD dQ mo ks h
theorem rE {io:List Nat} {Q:Ex→St→Prop} {σ:St} (ks:List Nat) {id:Nat} {ops:Array Oper} (h:goE Tryz.prog tab io ops.toList ops.toList σ fun σ'=>pV ks σ' (Q .norm)):SW Tryz.prog io (.region id ops false) Q σ:=SW.regE dQ ks h
theorem rF {io:List Nat} {Q:Ex→St→Prop} {σ:St} (ks:List Nat) {id:Nat} {ops:Array Oper} (h:goF Tryz.prog tab io ops.toList ops.toList σ fun σ'=>pV ks σ' (Q .norm)):SW Tryz.prog io (.region id ops false) Q σ:=SW.regF dQ ks h
theorem rX {io:List Nat} {Q:Ex→St→Prop} {σ:St} (ks:List Nat) {id:Nat} {ops:Array Oper} (h:goX Tryz.prog ops.toList σ [] fun σ' ns=>zB ops.toList ns=true∧pV ks σ' (Q .norm)):SW Tryz.prog io (.region id ops true) Q σ:=SW.regX mo ks h
theorem sb {f:FuncId} {fn:Func} {c:Code} {n:Nat} {σin:St} {σout:St} (hf:Tryz.prog.funcs[f]? =some fn) (hb:fn.body=some c) (h:SW Tryz.prog ((bX σin).filter fun o=>iH o (bX σout)) c (aNp tab ((bX σin).filter fun o=>iH o (bX σout)) fn.results.toList σout) σin) (hname: (fn.name== "runtime.NumGoroutine")=false:=by kernel_rfl) (hn:n≤fn.ntmps:=by decide) (hfit:rR fn.ntmps c=true:=by kernel_rfl) (hsl:qR n σin=true:=by rfl):Sp f n σin σout:=yl dQ hf hb hname hn hfit hsl h
theorem uo {f:FuncId} {fn:Func} {c:Code} {n:Nat} {σin:St} {Qo:St→Prop} (hf:Tryz.prog.funcs[f]? =some fn) (hb:fn.body=some c) (h:SW Tryz.prog (bX σin) c (aKa tab (bX σin) fn.results.toList Qo) σin) (hname: (fn.name== "runtime.NumGoroutine")=false:=by kernel_rfl) (hn:n≤fn.ntmps:=by decide) (hfit:rR fn.ntmps c=true:=by kernel_rfl) (hsl:qR n σin=true:=by rfl):tn f n σin Qo:=tv dQ hf hb hname hn hfit hsl h
end Go.Proofs.YtcbjphphppaoiaaGreatDoor
namespace Go.Ab
open Int renaming toNat_natCast→aSd
open List renaming length_append→aSe,length_nil→aSh,length_cons→aSi,length_take→aSk,getD_eq_getElem?_getD→aSl,getElem?_eq_some_iff→aSm,getElem?_eq_getElem→aSn,range→aSp,mem_map→aSq,length_drop→aSr,mem_singleton→aSs,all_eq_true→aSu,take_length→aSv,mem_cons→aSw
open Nat renaming le_of_ble_eq_true→aSf,zero_le→aSj,le_refl→aSo,add_mul→aSt
open Bool renaming and_eq_true→aSg
open Go Go.RowKit
set_option linter.unusedVariables false
set_option linter.unusedSimpArgs false
def kt (T:gB) (sz:Nat):Nat→List (Nat×TypeId)→Bool
 |off,[]=>Nat.beq off sz
 |off,p::r=>Nat.beq p.1 off&&(match T p.2 with|some fi=>kt T sz (off+fi.size) r|none=>false)
def ec (T:gB):Nat→TypeId→Bool
 |0,_=>false
 |n+1,t=>match T t with
  |none=>false
  |some ti=>match ti.kind with
   | .int .i64=>true
   | .int .u8=>true
   | .bool=>true
   | .str=>true
   | .sl e=>ec T n e
   | .st fs=>kt T ti.size 0 fs&&fs.all fun p=>ec T n p.2
   |_=>false
def uA (T:gB) (B:Nat):Nat→TypeId→List D→Prop
 |0,_,_=>False
 |n+1,t,ds=>match T t with
  |none=>False
  |some ti=>match ti.kind with
   | .int .i64=> ∃x,ds=[.i x]∧(Lit.int .i64 x).wf=true
   | .int .u8=> ∃x,ds=[.u x]∧(Lit.int .u8 x).wf=true
   | .bool=> ∃b,ds=[.b b]
   | .str=> ∃l,ds=[.s l]∧l.length≤B
   | .sl e=> ∃rows,ds=[.sl rows]∧(match T e with|some ei=>rows.length*ei.bytes≤B|none=>False)∧ ∀r∈rows,uA T B n e r
   | .st fs=>ds.length=ti.size∧ ∀p∈fs,match T p.2 with|some fi=>uA T B n p.2 ((ds.drop p.1).take fi.size)|none=>False
   |_=>False
section
variable {H:Type} {enc:TypeId×Value→H} {P:Program} {W:World} {sp:Nat→Bool} {held:Bool} {T:gB} {B:Nat}
theorem ed (hT:dK P T) {t:TypeId} {ti:TI} (h:T t=some ti):P.cellsOf t=ti.size∧P.bytesOf t=ti.bytes:=by
 obtain⟨i,z,hi,h1,h2,_⟩:=(hT t ti h).info
 exact⟨by simp[Program.cellsOf,hi,h1],by simp[Program.bytesOf,hi,h2]⟩
theorem aNj {a:Addr} {v:Value} (h:W.cell? a=some v):a.block<W.heap.size:=by
 unfold World.cell? at h
 cases hq:W.heap[a.block]? with
 |none=>rw[hq] at h;simp at h
 |some o=>exact(Array.getElem?_eq_some_iff.1 hq).1
theorem aDc {base:Nat} {a:Addr} {n:Nat} {cs:List Value} (h:W.cells? base a n=some cs):cs.length=n∧ ∀(k:Nat) v,cs[k]? =some v→W.cell? (a.add k)=some v:=by
 unfold World.cells? at h
 split at h
 · have key: ∀(l:List Nat) (cs:List Value),l.mapM (fun i=>W.cell? (a.add i))=some cs→cs.length=l.length∧ ∀(k:Nat) v,cs[k]? =some v→ ∃i,l[k]? =some i∧W.cell? (a.add i)=some v:=by
    intro l
    induction l with
    |nil=>intro cs h;simp at h;subst h;exact⟨rfl,by simp⟩
    |cons x r ih=>
     intro cs h
     rw[List.mapM_cons] at h
     obtain⟨v,h1,h⟩:=Option.bind_eq_some_iff.1 h
     obtain⟨vs,h2,h⟩:=Option.bind_eq_some_iff.1 h
     cases h
     obtain⟨q1,q2⟩:=ih vs h2
     refine⟨by simp[q1],fun k u hu=> ?_⟩
     cases k with
     |zero=>simp at hu;subst hu;exact⟨x,rfl,h1⟩
     |succ k=>simpa using q2 k u (by simpa using hu)
   obtain⟨q1,q2⟩:=key _ _ h
   refine⟨by simpa using q1,fun k v hv=> ?_⟩
   obtain⟨i,h1,h2⟩:=q2 k v hv
   have:=(aSm.1 h1)
   obtain⟨h3,h4⟩:=this
   simp at h4
   rw[h4];exact h2
 · cases h
def SW0 (W:World):Nat→Prop:=fun b=>b<W.heap.size
def Rd (W:World) (ds:List D) (cs:List Value):Prop:=ds.length=cs.length∧ ∀(k:Nat) x v,ds[k]? =some x→cs[k]? =some v→DR W (SW0 W) x v
theorem Rd.one {x:D} {v:Value} (h:DR W (SW0 W) x v):Rd W [x] [v]:=⟨rfl,fun k y u h1 h2=>by
 cases k with
 |zero=>simp at h1 h2;subst h1;subst h2;exact h
 |succ k=>simp at h1⟩
theorem Rd.append {ds es:List D} {cs vs:List Value} (h:Rd W ds cs) (k:Rd W es vs):Rd W (ds++es) (cs++vs):=by
 refine⟨by simp[h.1,k.1],fun i x v h1 h2=> ?_⟩
 by_cases hi:i<ds.length
 · rw[List.getElem?_append_left hi] at h1
   rw[List.getElem?_append_left (by rw[← h.1];exact hi)] at h2
   exact h.2 i x v h1 h2
 · rw[List.getElem?_append_right (by omega)] at h1
   rw[List.getElem?_append_right (by rw[← h.1];omega),← h.1] at h2
   exact k.2 _ x v h1 h2
def aLn (enc:TypeId×Value→H) (P:Program) (W:World) (sp:Nat→Bool) (held:Bool) (T:gB) (B N:Nat) (t:TypeId):Prop:=
 ∀fuel cs d ps,DataW.trod enc P W 0 sp held fuel t cs=some (d,ps)→(d.weights P t).all (· ≤B)=true→ ∃ds,Rd W ds cs∧uA T B N t ds
theorem ik (hT:dK P T) {N sz fuel:Nat}: ∀(fs:List Field) (off:Nat) (cs:List Value) (xs:List (DataW H×List MemPlace)),kt T sz off (fs.map fun f=>(f.offset,f.type))=true→cs.length=sz→off≤sz→
 (∀f∈fs,aLn enc P W sp held T B N f.type)→fs.mapM (fun f=>DataW.trod enc P W 0 sp held fuel f.type ((cs.drop f.offset).take (P.cellsOf f.type)))=some xs→(DataW.weightsEach P (fs.map (·.type)) (xs.map (·.1))).all (· ≤B)=true→
 ∃ds,Rd W ds (cs.drop off)∧ ∀p∈fs.map (fun f=>(f.offset,f.type)),off≤p.1∧match T p.2 with|some fi=>uA T B N p.2 ((ds.drop (p.1 - off)).take fi.size)|none=>False
 | [],off,cs,xs,ht,hl,ho,_,_,_=>by
  have:off=sz:=Nat.eq_of_beq_eq_true ht
  exact⟨[],by rw[List.drop_eq_nil_of_le (by omega)];exact⟨rfl,by simp⟩,by simp⟩
 |f::fs,off,cs,xs,ht,hl,ho,hop,hm,hw=>by
  simp only[List.map_cons,kt,aSg] at ht
  obtain⟨h1,h2⟩:=ht
  have h1:=Nat.eq_of_beq_eq_true h1
  cases hf:T f.type with
  |none=>rw[hf] at h2;cases h2
  |some fi=>
   rw[hf] at h2
   simp only at h2
   rw[List.mapM_cons] at hm
   obtain⟨x,hx,hm⟩:=Option.bind_eq_some_iff.1 hm
   obtain⟨ys,hy,hm⟩:=Option.bind_eq_some_iff.1 hm
   cases hm
   obtain⟨hc1,hc2⟩:=ed hT hf
   simp only[List.map_cons,DataW.weightsEach,List.all_append,aSg] at hw
   obtain⟨ds,hr,hty⟩:=hop f (List.mem_cons_self ..) _ _ _ _ hx hw.1
   have hoff:off+fi.size≤sz:=by
    have key: ∀(l:List (Nat×TypeId)) (o:Nat),kt T sz o l=true→o≤sz:=by
     intro l
     induction l with
     |nil=>intro o h;exact Nat.le_of_eq (Nat.eq_of_beq_eq_true h)
     |cons p r ih=>
      intro o h
      simp only[kt,aSg] at h
      cases hq:T p.2 with
      |none=>rw[hq] at h;cases h.2
      |some qi=>rw[hq] at h;have:=ih _ h.2;omega
    exact key _ _ h2
   obtain⟨es,hr2,hty2⟩:=ik hT fs (off+fi.size) cs ys h2 hl hoff (fun g hg=>hop g (List.mem_cons_of_mem _ hg)) hy hw.2
   rw[hc1,h1] at hr
   have hdl:ds.length=fi.size:=by rw[hr.1,aSk,aSr];omega
   refine⟨ds++es,?_,fun p hp=> ?_⟩
   · have e:cs.drop off=(cs.drop off).take fi.size++cs.drop (off+fi.size):=by
      rw[← List.drop_drop,List.take_append_drop]
     rw[e];exact hr.append hr2
   · rcases aSw.1 hp with rfl|hp
     · refine⟨Nat.le_of_eq h1.symm,?_⟩
       simp only[hf,h1,Nat.sub_self,List.drop_zero]
       rw[List.take_append_of_le_length (by omega),← hdl,aSv];exact hty
     · obtain⟨q1,q2⟩:=hty2 p hp
       refine⟨by omega,?_⟩
       cases hq:T p.2 with
       |none=>rw[hq] at q2;exact q2
       |some qi=>
        rw[hq] at q2
        simp only at q2 ⊢
        rw[List.drop_append,List.drop_eq_nil_of_le (by omega),List.nil_append,hdl,show p.1 - off - fi.size=p.1 - (off+fi.size) by omega]
        exact q2
theorem ab {e:TypeId}: ∀{l:List (DataW H)},(DataW.weightsAll P e l).all (· ≤B)=true→ ∀d∈l,(d.weights P e).all (· ≤B)=true
 | [],_,d,hd=>by cases hd
 |x::r,h,d,hd=>by
  simp only[DataW.weightsAll,List.all_append,aSg] at h
  rcases aSw.1 hd with rfl|hd
  · exact h.1
  · exact ab h.2 d hd
theorem ee (hT:dK P T): ∀(N:Nat) (t:TypeId),ec T N t=true→aLn enc P W sp held T B N t
 |0,t,h=>by cases h
 |N+1,t,h=>by
  intro fuel cs d ps htr hw
  unfold ec at h
  cases ht:T t with
  |none=>rw[ht] at h;cases h
  |some ti=>
   rw[ht] at h
   simp only at h
   have hok:=hT t ti ht
   have hk:=hok.kind
   cases fuel with
   |zero=>cases htr
   |succ fuel=>
    cases hkk:ti.kind with
    |int k=>
     rw[hkk] at h hk
     simp only[kW] at hk
     unfold DataW.trod at htr
     rw[hk] at htr
     split at htr<;>rename_i he<;>try(cases he;done)
     · rename_i _ _ kk mm
       cases he
       split at htr
       · rename_i hc
         cases htr
         obtain⟨rfl,hwf⟩:=hc
         cases kk<;>try(cases h;done)
         · exact⟨[.i mm],.one (.i _),by unfold uA;simp only[ht,hkk];exact⟨_,rfl,hwf⟩⟩
         · exact⟨[.u mm],.one (.u _),by unfold uA;simp only[ht,hkk];exact⟨_,rfl,hwf⟩⟩
       · cases htr
     all_goals cases htr
    |bool=>
     rw[hkk] at hk
     simp only[kW] at hk
     unfold DataW.trod at htr
     rw[hk] at htr
     split at htr<;>rename_i he<;>try(cases he;done)
     · cases htr
       exact⟨[.b _],.one (.b _),by unfold uA;simp only[ht,hkk];exact⟨_,rfl⟩⟩
     all_goals cases htr
    |str=>
     rw[hkk] at hk
     simp only[kW] at hk
     unfold DataW.trod at htr
     rw[hk] at htr
     split at htr<;>rename_i he<;>try(cases he;done)
     · rename_i _ s
       split at htr
       · cases htr
         refine⟨[.s s.data.toList],.one (.s _),?_⟩
         unfold uA;simp only[ht,hkk]
         exact⟨_,rfl,by simpa[DataW.weights] using hw⟩
       · cases htr
     all_goals cases htr
    |sl e=>
     rw[hkk] at h hk
     simp only[kW] at hk
     simp only at h
     have hih:=ee hT N e h
     cases he:T e with
     |none=>cases N with
      |zero=>cases h
      |succ N=>unfold ec at h;rw[he] at h;cases h
     |some ei=>
      obtain⟨hc1,hc2⟩:=ed hT he
      have hep:=(hT e ei he).pos
      rcases Deep.open_slice hk htr with⟨rfl,hx⟩|⟨a,len,cap,m,n,Df,Pl,rfl,hb,hl,hm,hmm,hx,hel⟩
      · refine⟨[.sl []],.one (.sl [] none 0 0 ⟨0,0,none⟩ (fun _ _=>undef) (by simp) (by simp[maxLen]) (by simp) (by simp) (by simp) (by simp)),?_⟩
        unfold uA;simp only[ht,hkk]
        exact⟨[],rfl,by simp[he],by simp⟩
      · cases hx
        simp only[DataW.weights,hk,List.all_cons,List.all_append,aSg,decide_eq_true_eq,List.length_map,List.length_range] at hw
        have hlm:len≤m:=by rw[hmm];split<;>omega
        have hrow: ∀i,i<len→ ∃r,(∃cs',W.cells? 0 (a.add (i*ei.size)) ei.size=some cs'∧Rd W r cs')∧uA T B N e r:=by
         intro i hi
         obtain⟨cs',h1,h2⟩:=hel i (by omega)
         rw[hc1] at h1
         obtain⟨r,q1,q2⟩:=hih _ _ _ _ h2 (ab hw.2.1 _ (aSq.2 ⟨i,List.mem_range.2 hi,rfl⟩))
         exact⟨r,⟨cs',h1,q1⟩,q2⟩
        obtain⟨rf,hrf⟩: ∃rf:Nat→List D,∀i,i<len→(∃cs',W.cells? 0 (a.add (i*ei.size)) ei.size=some cs'∧Rd W (rf i) cs')∧uA T B N e (rf i):=
         ⟨fun i=>if hi:i<len then Classical.choose (hrow i hi) else [],fun i hi=>by dsimp only;rw[dif_pos hi];exact Classical.choose_spec (hrow i hi)⟩
        have hget: ∀(i:Nat) r,((aSp len).map rf)[i]? =some r→i<len∧r=rf i:=by
         intro i r hr
         rw[List.getElem?_map] at hr
         by_cases hi:i<len
         · rw[List.getElem?_range hi] at hr;simp at hr;exact⟨hi,hr.symm⟩
         · rw[List.getElem?_eq_none (by simpa using hi)] at hr;cases hr
        have hlen: ∀i,i<len→(rf i).length=ei.size:=by
         intro i hi
         obtain⟨⟨cs',h1,h2⟩,_⟩:=hrf i hi
         rw[h2.1,(aDc h1).1]
        have hcell: ∀i,i<len→ ∀(k:Nat) x,(rf i)[k]? =some x→ ∃v,W.cell? (a.add (i*ei.size+k))=some v∧DR W (SW0 W) x v:=by
         intro i hi k x hx
         obtain⟨⟨cs',h1,h2⟩,_⟩:=hrf i hi
         have hk':k<cs'.length:=by rw[← h2.1];exact(aSm.1 hx).1
         refine⟨cs'[k],?_,h2.2 k x _ hx (aSn hk')⟩
         have:=(aDc h1).2 k _ (aSn hk')
         rwa [Deep.add_add] at this
        refine⟨[.sl ((aSp len).map rf)],.one ?_,?_⟩
        · have e1: ((aSp len).map rf).length=len:=by simp
          have:=DR.sl (w:=W) (S:=SW0 W) ((aSp len).map rf) (some a) cap ei.size a (fun i k=>(W.cell? (a.add (i*ei.size+k))).getD undef) (by rw[e1];exact hl) hm
           (fun r hr=>by obtain⟨i,hi,rfl⟩:=aSq.1 hr;exact hlen i (List.mem_range.1 hi)) (fun _=>rfl)
           (fun i r k d hi hk=>by
            obtain⟨h1,rfl⟩:=hget i r hi
            obtain⟨v,h2,h3⟩:=hcell i h1 k d hk
            have hb: (a.add (i*ei.size+k)).block=a.block:=by unfold Addr.add;split<;>rfl
            exact⟨by have:=aNj h2;rw[hb] at this;exact this,by rw[h2];rfl⟩)
           (fun i r k d hi hk=>by
            obtain⟨h1,rfl⟩:=hget i r hi
            obtain⟨v,h2,h3⟩:=hcell i h1 k d hk
            rw[h2];exact h3)
          rw[e1] at this;exact this
        · unfold uA;simp only[ht,hkk]
          refine⟨_,rfl,?_,fun r hr=> ?_⟩
          · simp only[he]
            rw[List.length_map,List.length_range,← hc2]
            have:=hw.1
            rw[aSt] at this
            omega
          · obtain⟨i,hi,rfl⟩:=aSq.1 hr
            exact(hrf i (List.mem_range.1 hi)).2
    |st fs=>
     rw[hkk] at h hk
     simp only[kW] at hk
     obtain⟨fields,hu,hfs⟩:=hk
     simp only[aSg] at h
     unfold DataW.trod at htr
     rw[hu] at htr
     have htr: (if cs.length=P.cellsOf t then(fields.toList.mapM fun f=>DataW.trod enc P W 0 sp held fuel f.type ((cs.drop f.offset).take (P.cellsOf f.type))).map fun xs=>(DataW.agg (xs.map (·.1)),xs.flatMap (·.2)) else none)=some (d,ps):=htr
     split at htr
     · rename_i hcl
       obtain⟨xs,hxs,hmk⟩:=Option.map_eq_some_iff.1 htr
       cases hmk
       have hsz:=(ed hT ht).1
       simp only[DataW.weights,hu] at hw
       obtain⟨ds,h1,h2⟩:=ik hT fields.toList 0 cs xs (by rw[hfs];exact h.1) (by rw[hcl,hsz]) (aSj _)
        (fun f hf=>ee hT N f.type (by
         have:=aSu.1 h.2 (f.offset,f.type) (by rw[← hfs];exact aSq.2 ⟨f,hf,rfl⟩)
         exact this)) hxs hw
       refine⟨ds,by simpa using h1,?_⟩
       unfold uA;simp only[ht,hkk]
       refine⟨by have:=h1.1;simp at this;rw[this,hcl,hsz],fun p hp=> ?_⟩
       rw[← hfs] at hp
       have:=(h2 p hp).2
       simpa using this
     · cases htr
    |arr n e=>rw[hkk] at h;cases h
    |ptr e=>rw[hkk] at h;cases h
end
section
variable {H:Type} {enc:TypeId×Value→H} {P:Program} {W:World} {sp:Nat→Bool} {held:Bool} {T:gB} {B:Nat}
theorem aJb (hT:dK P T) (N:Nat) {t:TypeId} {ti:TI} (ht:T t=some ti) (hd:ec T N t=true) {v:Value} {d:DataW H} {ps:List MemPlace} {r:Reach} {base:Nat} (h:DataW.Trod enc P W 0 sp held t v d ps) (hv:Value.okWide P W r base t v) (hw: (d.weights P t).all (· ≤B)=true):
 ∃ds,uA T B N t ds∧(ti.kind.agg=true→ ∀σ ι,kU σ ι W (SW0 W) (.e (.agg (ds.map C.d))) v)∧(ti.kind.agg=false→ ∃x,ds=[x]∧ ∀σ ι,kU σ ι W (SW0 W) (Dv x) v):=by
 obtain⟨fuel,hf⟩:=h
 obtain⟨ds,h1,h2⟩:=ee hT N t hd _ _ _ _ hf hw
 refine⟨ds,h2,fun ha=> ?_,fun ha=> ?_⟩
 · have hk:=(hT t ti ht).kind
   have hcs: ∃cs,v= .agg cs:=by
    cases hkk:ti.kind<;>rw[hkk] at ha hk<;>simp only[TK.agg] at ha<;>try(cases ha;done)
    · simp only[kW] at hk
      obtain⟨fields,hu,_⟩:=hk
      obtain⟨cs,hcs,_⟩:=WideShapes.okWide_struct hu hv
      exact⟨cs,hcs⟩
    · cases N with
      |zero=>cases hd
      |succ N=>unfold ec at hd;rw[ht] at hd;simp only[hkk] at hd;cases hd
   obtain⟨cs,rfl⟩:=hcs
   intro σ ι
   have h1:Rd W ds cs.toList:=h1
   refine⟨cs.toList,by simp,by rw[List.length_map,h1.1],fun k c u hc hu=> ?_⟩
   rw[List.getElem?_map] at hc
   cases hq:ds[k]? with
   |none=>rw[hq] at hc;cases hc
   |some x=>rw[hq] at hc;cases hc;exact h1.2 k x u hq hu
 · have hk:=(hT t ti ht).kind
   have hone:v.cells.toList=[v]:=by
    cases hkk:ti.kind<;>rw[hkk] at ha hk<;>simp only[TK.agg] at ha<;>try(cases ha;done)
    all_goals simp only[kW] at hk
    · obtain⟨n,rfl⟩:=WideShapes.okWide_int hk hv;rfl
    · obtain⟨n,rfl⟩:=WideShapes.okWide_bool hk hv;rfl
    · obtain⟨n,rfl⟩:=WideShapes.okWide_string hk hv;rfl
    · obtain⟨a,l,c,rfl⟩:=WideShapes.okWide_slice hk hv;rfl
    · obtain⟨a,rfl⟩:=WideShapes.okWide_pointer hk hv;rfl
   rw[hone] at h1
   match ds,h1.1 with
   | [x],_=>exact⟨x,rfl,fun σ ι=>h1.2 0 x v rfl rfl⟩
theorem aF4 (hgb:GB P W fun _=>False) {f:FuncId} {n:Nat} {Xs:List V} (hs:Spec P f n (eH 0 Xs) [(.t 0,.v (Ab.B true))]) {args:Array Value} (hn:Xs.length=n) (hsz:args.size=n) (hX: ∀(i:Nat) X v,Xs[i]? =some X→args[i]? =some v→ ∀σ ι,kU σ ι W (SW0 W) X v):
 Calls P f args W fun e W'=>e= .returned (.bool true)∧Below W.heap.size W W':=by
 have hlo: ∀o,aS (eH 0 Xs) (.o o)=none:=fun o=>by have:=jZ 0 Xs [] o;simpa[aS] using this
 have hvr:VR (eH 0 Xs) (fun _=>undef) (fun i=>(args[i]?).getD undef) (SW0 W) W:=by
  refine⟨fun s k hk=> ?_,(fun o k hk=>by rw[hlo] at hk;cases hk),fun o b hm=> ?_,fun o o' b hm=> ?_,fun b hb=>hb⟩
  · rcases sH 0 Xs [] s k (by simpa using hk) with⟨X,h1,rfl,_,h2⟩|h
    · have h3:s<args.size:=by omega
      have:args[s]? =some args[s]:=Array.getElem?_eq_getElem h3
      show kU _ _ _ _ X ((args[s]?).getD undef)
      rw[this]
      exact hX s X _ (by simpa using h1) this _ _
    · cases h
  · obtain⟨⟨k,hk,_⟩,_⟩:=hm;rw[hlo] at hk;cases hk
  · obtain⟨⟨k,hk,_⟩,_⟩:=hm;rw[hlo] at hk;cases hk
 refine(hs.2 _ _ _ W args (hgb.weak fun b ⟨o,⟨k,hk,_⟩,_⟩=>by rw[hlo] at hk;cases hk) hvr hsz fun i hi=> ?_).mono fun e W' ⟨v,ι',S',he,hp⟩=> ?_
 · rw[Array.getElem?_eq_getElem (by omega)];rfl
 · have hv:=hp.vr.slots 0 (.v (Ab.B true)) rfl
   simp only[pS,kU,ER,CR] at hv
   refine⟨?_,hp.fr.os,hp.fr.tape,hp.fr.output,hp.fr.size,fun k hk=>hp.fr.block k hk fun⟨o,⟨q,hq,_⟩,_⟩=>by rw[hlo] at hq;cases hq⟩
   rw[he];cases hv;rfl
end
end Go.Ab
namespace Go.Proofs.YtcbjphphppaoiaaGreatDoor
open Int renaming toNat_natCast→aSd
open List renaming length_append→aSe,length_nil→aSh,length_cons→aSi,length_take→aSk,getD_eq_getElem?_getD→aSl,getElem?_eq_some_iff→aSm,getElem?_eq_getElem→aSn,range→aSp,mem_map→aSq,length_drop→aSr,mem_singleton→aSs,all_eq_true→aSu,take_length→aSv,mem_cons→aSw
open Nat renaming le_of_ble_eq_true→aSf,zero_le→aSj,le_refl→aSo,add_mul→aSt
open Bool renaming and_eq_true→aSg
open Go Go.Ab Go.RowKit
set_option linter.unusedVariables false
set_option linter.unusedSimpArgs false
set_option maxRecDepth 9000
theorem jF (n lo hi:Int):Sp 49 3 [tI 0 n,tI 1 lo,tI 2 hi] [tB 0 (gX n lo hi)]:=by
 refine sb Tryz.func49 rfl (sq (rT [0,1,2,11,12,13] (s1 (sq (rT [6] (s4 (y3 (ai pk (s1 (rt (bQ rfl ?_)))))))))))
 simp[gX,gb]
theorem dC (n lo hi:Int):Sp 43 3 [tI 0 n,tI 1 lo,tI 2 hi] [tB 0 (gX n lo hi)]:=by
 refine sb Tryz.func43 rfl (sq (rT [0,1,2,11,12,13] (s1 (sq (rT [6] (s4 (y3 (ai pk (s1 (rt (bQ rfl ?_)))))))))))
 simp[gX,gb]
theorem qX (n:Int):Sp 48 1 [tI 0 n] [tB 0 (eB n)]:=by
 refine sb Tryz.func48 rfl (sq (rT [0] (s1 (sq (rT [2] (s1 (xp (jF _ _ _) (ai rfl ?_))))))))
 refine s1 (rt (bQ rfl ?_))
 first|rfl|(simp;done)|(simp_all;done)
theorem cW (n:Int):Sp 42 1 [tI 0 n] [tB 0 (eB n)]:=by
 refine sb Tryz.func42 rfl (sq (rT [0] (s1 (sq (rT [2] (s1 (xp (dC _ _ _) (ai rfl ?_))))))))
 refine s1 (rt (bQ rfl ?_))
 first|rfl|(simp;done)|(simp_all;done)
theorem qY (a b c d:Int):Sp 87 4 [tI 0 a,tI 1 b,tI 2 c,tI 3 d] [tB 0 (cG a b c d)]:=by
 refine sb Tryz.func87 rfl (sq (rT [0,1,2,3,13,14,15,16,17,18,19,20] (s1 (sq (rT [8] (s4 (y4 (y3 (ai (fun h=>pk) (ai rk (ai pk (s1 (rt (bQ rfl (congrArg D.b ?_)))))))))))))))
 simp[cG,gb]
theorem pL (a b c d:Int):Sp 86 4 [tI 0 a,tI 1 b,tI 2 c,tI 3 d] [tB 0 (cG a b c d)]:=by
 refine sb Tryz.func86 rfl (sq (rT [0,1,2,3,13,14,15,16,17,18,19,20] (s1 (sq (rT [8] (s4 (y4 (y3 (ai (fun h=>pk) (ai rk (ai pk (s1 (rt (bQ rfl (congrArg D.b ?_)))))))))))))))
 simp[cG,gb]
theorem uq (m:bZ):Sp 88 1 [tV 0 m.V] [tB 0 (lS m)]:=by
 refine sb Tryz.func88 rfl (sq (rT [1,7,8,9,12,13,14] (s2 (sq (rT [2] (s2 (xp (qX _) (ai rfl ?_))))))))
 refine s1 (y2 (xc (fun h=>(jF _ _ _)) (ai rfl (ai rk ?_))))
 refine ai pk (s1 (y2 (xc (fun h=>(jF _ _ _)) (ai rfl (ai rk ?_)))))
 refine ai pk (s1 (rt (bQ rfl (congrArg D.b ?_))))
 simp[lS,gb]
theorem ur (s:List UInt8) (hl:s.length≤140737488355328):Sp 92 1 [tD 0 (.s s)] [tB 0 (vF s)]:=by
 refine sb Tryz.func92 rfl (sq (rT [0] (s1 (sq (sq (rT [0,3] (s1 (bk (SW.loopW (n:=s.length) (fun n q=> ∃i:Nat,n=s.length - i∧i≤s.length∧(∀k,k<i→tL s k=true)∧q=[tD 0 (.s s),tI 3 (i:Nat)]) ?_ ?_)))))))))
 · exact wq (σ':=[tD 0 (.s s),tI 3 (0:Nat)]) [] [] (⟨0,rfl,aSj _,fun k h=>absurd h (by omega),rfl⟩) qz
 rintro n s ⟨i,rfl,hi,hk,rfl⟩
 refine sq (sq (rT [0,3,7] (s4 (cd rfl (fun c7=> ?_) fun c7=> ?_))))
 · have hi2:i<s.length:=by simpa using c7
   have hb8:=jC s i
   have hw:wrap64 ((s.getD ((i:Nat):Int).toNat 0).toNat:Int)=iB s i:=aF (by unfold iB at hb8;rw[aSd];omega)
   refine sk (sq (bk (sq (rT [0,3,15] (s2 (ai (by exact⟨by omega,by omega⟩) (s1 (xp (jF _ _ _) (ai rfl ?_)))))))))
   refine s1 (cd rfl (fun c15=> ?_) fun c15=> ?_)
   · refine sq (rT [2] (s1 (rt (bQ rfl (congrArg D.b ?_)))))
     have hs:tL s i=false:=by
      have h9:=c15
      rw[hw] at h9
      simpa[tL] using h9
     rw[vF,gA hi2 hs];rfl
   refine sk (rT [0,3] (s3 ?_))
   have hs:tL s i=true:=by
    have h9:=c15
    rw[hw] at h9
    simpa[tL] using h9
   refine wq [] [] (⟨s.length - (i+1),by omega,i+1,rfl,by omega,fun k h=>by by_cases e:k=i;exact e▸hs;exact hk k (by omega),rfl⟩) ?_
   repeat' apply ai
   all_goals first|exact qx|exact congrArg D.i (aF (by omega))|exact qz
 have hi3:i=s.length:=by simp at c7;omega
 refine xt (sq (rT [2] (s2 (xp (jF _ _ _) (ai rfl ?_)))))
 refine s1 (rt (bQ rfl (congrArg D.b ?_)))
 subst hi3
 rw[vF,iR hk];rfl
theorem qZ (n:bB) (hl:n.text.length≤140737488355328):Sp 57 1 [tV 0 n.V] [tB 0 (eZ n)]:=by
 refine sb Tryz.func57 rfl (sq (rT [1,7,8,9,12,13,14,17,18,19,22,23,24] (s2 (sq (rT [2] (s2 (xp (qX _) (ai rfl ?_))))))))
 refine s1 (y2 (xc (fun h=>(qX _)) (ai rfl (ai rk ?_))))
 refine ai pk (s1 (y2 (xc (fun h=>(jF _ _ _)) (ai rfl (ai rk ?_)))))
 refine ai pk (s1 (y2 (xc (fun h=>(jF _ _ _)) (ai rfl (ai rk ?_)))))
 refine ai pk (s1 (y2 (xc (fun h=>(ur n.text hl)) (ai rfl (ai rk ?_)))))
 refine ai pk (s1 (rt (bQ rfl (congrArg D.b ?_))))
 simp[eZ,gb,Bool.and_assoc]
set_option maxHeartbeats 800000 in
theorem vK (n:bB) (hl:n.text.length≤140737488355328):Sp 34 1 [tV 0 n.V] [tB 0 (eZ n)]:=by
 refine sb Tryz.func34 rfl (sq (rT [1,9,10,11,12,15,16,17,18,21,22,23,24,27,28,29,30,33,34,35,36,51,52,53,54,55] (s2 (sq (sq (rT [1,37,51,52,53,54,55] (s2 (xp (cW _) (ai rfl ?_)))))))))
 refine s2 (y2 (xc (fun h=>(cW _)) (ai rfl (ai rk ?_))))
 refine y1 (ai pk (s1 (y2 (xc (fun h=>(dC _ _ _)) (ai rfl (ai rk ?_))))))
 refine y1 (ai pk (s1 (y2 (xc (fun h=>(dC _ _ _)) (ai rfl (ai rk ?_))))))
 refine y1 (ai pk (s1 (y4 (ai pk (s1 (y4 (ai pk (cd rfl (fun c37=> ?_) fun c37=> ?_))))))))
 · refine sq (rT [2] (s1 (rt (bQ rfl (congrArg D.b ?_)))))
   cases h:eZ n with
   |false=>rfl
   |true=>
    exfalso
    simp only[eZ,vF,aSg] at h
    obtain⟨⟨⟨⟨h1,h2⟩,h3⟩,h4⟩,h5,h6⟩:=h
    simp only[gX,aSg,decide_eq_true_eq] at h6
    simp only[h1,h2,h3,h4,Bool.not_true,Bool.false_or,Bool.or_eq_true,decide_eq_true_eq] at c37
    omega
 have hf:eB n.frm=true∧eB n.to=true∧gX n.num 1 99=true∧gX n.til 1 999=true∧1≤n.text.length∧n.text.length≤24:=by
  simp only[gb,Bool.or_eq_false_iff,Bool.not_eq_false,decide_eq_false_iff_not,Bool.not_eq_eq_eq_not,Bool.not_false] at c37
  grind
 refine sk (sq (sq (rT [1,3,51,52,53,54,55] (s1 (bk (SW.loopW (n:=n.text.length) (fun m q=> ∃i:Nat,m=n.text.length - i∧i≤n.text.length∧(∀k,k<i→tL n.text k=true)∧q=[tP 1 1,tI 3 (i:Nat),oB 1 29 [.d (.i n.frm),.d (.i n.num),.d (.i n.to),.d (.i n.til),.d (.s n.text)]]) ?_ ?_))))))
 · exact wq (σ':=[tP 1 1,tI 3 (0:Nat),oB 1 29 [.d (.i n.frm),.d (.i n.num),.d (.i n.to),.d (.i n.til),.d (.s n.text)]]) [] [] (⟨0,rfl,aSj _,fun k h=>absurd h (by omega),rfl⟩) qz
 rintro n s ⟨i,rfl,hi,hk,rfl⟩
 refine sq (sq (rT [1,3,42,51,52,53,54,55] (s5 (cd rfl (fun c42=> ?_) fun c42=> ?_))))
 · have hi2:i<n.text.length:=by simpa using c42
   refine sk (sq (bk (sq (rT [1,3,51,52,53,54,55,56] (s3 (ai (by exact⟨by omega,by omega⟩) (s2 (y3 (ai (fun h=>(by exact⟨by omega,by omega⟩)) (ai rk (y1 (ai pk (cd rfl (fun c56=> ?_) fun c56=> ?_)))))))))))))
   · refine sq (rT [2] (s1 (rt (bQ rfl (congrArg D.b ?_)))))
     have hs:tL n.text i=false:=by
      have h9:=c56
      rw[aSd] at h9
      simp[gb] at h9
      simp[tL,gX,iB];omega
     rw[eZ,vF,gA hi2 hs];simp
   refine sk (rT [1,3,51,52,53,54,55] (s3 ?_))
   have hs:tL n.text i=true:=by
    have h9:=c56
    rw[aSd] at h9
    simp[gb] at h9
    simp[tL,gX,iB];omega
   refine wq [] [] (⟨n.text.length - (i+1),by omega,i+1,rfl,by omega,fun k h=>by by_cases e:k=i;exact e▸hs;exact hk k (by omega),rfl⟩) ?_
   repeat' apply ai
   all_goals first|exact qx|exact congrArg D.i (aF (by omega))|exact qz
 have hi3:i=n.text.length:=by simp at c42;omega
 refine xt (sq (rT [2] (s1 (rt (bQ rfl (congrArg D.b ?_))))))
 subst hi3
 obtain⟨h1,h2,h3,h4,h5,h6⟩:=hf
 rw[eZ,vF,iR hk,h1,h2,h3,h4]
 simp[gX];omega
theorem lQ (l:List bB) (f m:Int) (hl:l.length≤1000000):Sp 105 3 [tD 0 (.sl (aE l)),tI 1 f,tI 2 m] [tI 0 (aX l f m)]:=by
 refine sb Tryz.func105 rfl (sq (rT [0,1,2,21,22,23,24] (s1 (sq (sq (rT [1,2,9,10,11,21,22,23,24] (s3 (bk (SW.loopW (n:=l.length) (fun n q=> ∃i:Nat,n=l.length - i∧i≤l.length∧(∀k,k<i→pA l f m k=false)∧q=[tI 1 f,tI 2 m,tD 9 (.sl (aE l)),tI 10 (l.length:Nat),tI 11 (i:Nat)]) ?_ ?_)))))))))
 · refine wq (σ':=[tI 1 f,tI 2 m,tD 9 (.sl (aE l)),tI 10 (l.length:Nat),tI 11 (0:Nat)]) [] [] (⟨0,rfl,aSj _,fun k h=>absurd h (by omega),rfl⟩) ?_
   repeat' apply ai
   all_goals first|exact qx|(rw[aA];done)|rfl|exact qz
 rintro n s ⟨i,rfl,hi,hk,rfl⟩
 refine sq (rT [1,2,9,10,11,12,21,22,23,24] (s1 (sq (cd rfl (fun c12=> ?_) fun c12=> ?_))))
 · have hi2:i<l.length:=by simpa using c12
   have hg:=aQ (l:=l) hi2
   refine sk (sq (bk (sq (rT [1,2,7,8,9,10,11,21,22,23,24] (s1 (ai (by rw[aSd,hg];exact⟨⟨by omega,by rw[aA];omega⟩,rfl⟩) (ai (by rw[aSd,hg];exact⟨aSf rfl,rfl⟩) (s3 (sq (rT [1,2,7,9,10,11,21,22,23,24,25] (s5 (y4 (ai pk (cd rfl (fun c25=> ?_) fun c25=> ?_))))))))))))))
   · refine sq (rT [6] (s2 (rt (bQ rfl (congrArg D.i ?_)))))
     have hs:pA l f m i=true:=by
      have h9:=c25
      rw[aSd,hg] at h9
      exact h9
     exact(oJ (aSj _) (by omega) (fun j _ h=>hk j h) hs).symm
   refine sk (rT [1,2,9,10,11,21,22,23,24] (s2 ?_))
   have hs:pA l f m i=false:=by
    have h9:=c25
    rw[aSd,hg] at h9
    exact h9
   refine wq [] [] (⟨l.length - (i+1),by omega,i+1,rfl,by omega,fun k h=>by by_cases e:k=i;exact e▸hs;exact hk k (by omega),rfl⟩) ?_
   repeat' apply ai
   all_goals first|exact qx|exact congrArg D.i (aF (by omega))|exact qz
 have hi3:i=l.length:=by simp at c12;omega
 refine xt (sq (rT [6] (s1 (rt (bQ rfl (congrArg D.i ?_))))))
 exact(mX (fun j _ h=>hk j (by omega))).symm
theorem fK (l:List bB) (f m:Int) (hl:l.length≤1000000):Sp 72 3 [tD 0 (.sl (aE l)),tI 1 f,tI 2 m] [tI 0 (aX l f m)]:=by
 refine sb Tryz.func72 rfl (sq (rT [0,1,2,22,23,24,25,26,27,28] (s1 (sq (sq (rT [0,1,2,7,22,23,24,25,26,27,28] (s1 (bk (SW.loopW (n:=l.length) (fun n q=> ∃i:Nat,n=l.length - i∧i≤l.length∧(∀k,k<i→pA l f m k=false)∧q=[tD 0 (.sl (aE l)),tI 1 f,tI 2 m,tI 7 (i:Nat)]) ?_ ?_)))))))))
 · exact wq (σ':=[tD 0 (.sl (aE l)),tI 1 f,tI 2 m,tI 7 (0:Nat)]) [] [] (⟨0,rfl,aSj _,fun k h=>absurd h (by omega),rfl⟩) qz
 rintro n s ⟨i,rfl,hi,hk,rfl⟩
 refine sq (sq (rT [0,1,2,7,11,22,23,24,25,26,27,28] (s4 (cd rfl (fun c11=> ?_) fun c11=> ?_))))
 · have hi2:i<l.length:=by simpa[aA] using c11
   have hg:=aQ (l:=l) hi2
   refine sk (sq (bk (sq (rT [0,1,2,7,22,23,24,25,26,27,28,29] (s2 (ai (by rw[aSd,hg];exact⟨⟨by omega,by rw[aA];omega⟩,rfl⟩) (s1 (ai (by rw[aSd,hg];exact⟨aSf rfl,rfl⟩) (s3 (y2 (ai (fun h=>(by rw[aSd,hg];exact⟨⟨by omega,by rw[aA];omega⟩,rfl⟩)) (ai rk (y1 (ai (fun h=>(by rw[aSd,hg];exact⟨aSf rfl,rfl⟩)) (ai rk (y2 (ai pk (cd rfl (fun c29=> ?_) fun c29=> ?_))))))))))))))))))
   · refine sq (rT [6] (s2 (rt (bQ rfl (congrArg D.i ?_)))))
     have hs:pA l f m i=true:=by
      have h9:=c29
      rw[aSd,hg] at h9
      exact h9
     exact(oJ (aSj _) (by omega) (fun j _ h=>hk j h) hs).symm
   refine sk (rT [0,1,2,7,22,23,24,25,26,27,28] (s3 ?_))
   have hs:pA l f m i=false:=by
    have h9:=c29
    rw[aSd,hg] at h9
    exact h9
   refine wq [] [] (⟨l.length - (i+1),by omega,i+1,rfl,by omega,fun k h=>by by_cases e:k=i;exact e▸hs;exact hk k (by omega),rfl⟩) ?_
   repeat' apply ai
   all_goals first|exact qx|exact congrArg D.i (aF (by omega))|exact qz
 have hi3:i=l.length:=by simp[aA] at c11;omega
 refine xt (sq (rT [6] (s1 (rt (bQ rfl (congrArg D.i ?_))))))
 exact(mX (fun j _ h=>hk j (by omega))).symm
theorem rA (l:List bZ) (f m:Int) (hl:l.length≤1000000):Sp 53 3 [tD 0 (.sl (aL l)),tI 1 f,tI 2 m] [tI 0 (jI l f m)]:=by
 refine sb Tryz.func53 rfl (sq (rT [0,1,2,21,22,23,24] (s1 (sq (sq (rT [1,2,9,10,11,21,22,23,24] (s3 (bk (SW.loopW (n:=l.length) (fun n q=> ∃i:Nat,n=l.length - i∧i≤l.length∧(∀k,k<i→tM l f m k=false)∧q=[tI 1 f,tI 2 m,tD 9 (.sl (aL l)),tI 10 (l.length:Nat),tI 11 (i:Nat)]) ?_ ?_)))))))))
 · refine wq (σ':=[tI 1 f,tI 2 m,tD 9 (.sl (aL l)),tI 10 (l.length:Nat),tI 11 (0:Nat)]) [] [] (⟨0,rfl,aSj _,fun k h=>absurd h (by omega),rfl⟩) ?_
   repeat' apply ai
   all_goals first|exact qx|(rw[aB];done)|rfl|exact qz
 rintro n s ⟨i,rfl,hi,hk,rfl⟩
 refine sq (rT [1,2,9,10,11,12,21,22,23,24] (s1 (sq (cd rfl (fun c12=> ?_) fun c12=> ?_))))
 · have hi2:i<l.length:=by simpa using c12
   have hg:=bR (l:=l) hi2
   refine sk (sq (bk (sq (rT [1,2,7,8,9,10,11,21,22,23,24] (s1 (ai (by rw[aSd,hg];exact⟨⟨by omega,by rw[aB];omega⟩,rfl⟩) (ai (by rw[aSd,hg];exact⟨aSf rfl,rfl⟩) (s3 (sq (rT [1,2,7,9,10,11,21,22,23,24,25] (s5 (y4 (ai pk (cd rfl (fun c25=> ?_) fun c25=> ?_))))))))))))))
   · refine sq (rT [6] (s2 (rt (bQ rfl (congrArg D.i ?_)))))
     have hs:tM l f m i=true:=by
      have h9:=c25
      rw[aSd,hg] at h9
      exact h9
     exact(oJ (aSj _) (by omega) (fun j _ h=>hk j h) hs).symm
   refine sk (rT [1,2,9,10,11,21,22,23,24] (s2 ?_))
   have hs:tM l f m i=false:=by
    have h9:=c25
    rw[aSd,hg] at h9
    exact h9
   refine wq [] [] (⟨l.length - (i+1),by omega,i+1,rfl,by omega,fun k h=>by by_cases e:k=i;exact e▸hs;exact hk k (by omega),rfl⟩) ?_
   repeat' apply ai
   all_goals first|exact qx|exact congrArg D.i (aF (by omega))|exact qz
 have hi3:i=l.length:=by simp at c12;omega
 refine xt (sq (rT [6] (s1 (rt (bQ rfl (congrArg D.i ?_))))))
 exact(mX (fun j _ h=>hk j (by omega))).symm
theorem mR (l:List bZ) (f m:Int) (hl:l.length≤1000000):Sp 47 3 [tD 0 (.sl (aL l)),tI 1 f,tI 2 m] [tI 0 (jI l f m)]:=by
 refine sb Tryz.func47 rfl (sq (rT [0,1,2,22,23,24,25,26,27,28] (s1 (sq (sq (rT [0,1,2,7,22,23,24,25,26,27,28] (s1 (bk (SW.loopW (n:=l.length) (fun n q=> ∃i:Nat,n=l.length - i∧i≤l.length∧(∀k,k<i→tM l f m k=false)∧q=[tD 0 (.sl (aL l)),tI 1 f,tI 2 m,tI 7 (i:Nat)]) ?_ ?_)))))))))
 · exact wq (σ':=[tD 0 (.sl (aL l)),tI 1 f,tI 2 m,tI 7 (0:Nat)]) [] [] (⟨0,rfl,aSj _,fun k h=>absurd h (by omega),rfl⟩) qz
 rintro n s ⟨i,rfl,hi,hk,rfl⟩
 refine sq (sq (rT [0,1,2,7,11,22,23,24,25,26,27,28] (s4 (cd rfl (fun c11=> ?_) fun c11=> ?_))))
 · have hi2:i<l.length:=by simpa[aB] using c11
   have hg:=bR (l:=l) hi2
   refine sk (sq (bk (sq (rT [0,1,2,7,22,23,24,25,26,27,28,29] (s2 (ai (by rw[aSd,hg];exact⟨⟨by omega,by rw[aB];omega⟩,rfl⟩) (s1 (ai (by rw[aSd,hg];exact⟨aSf rfl,rfl⟩) (s3 (y2 (ai (fun h=>(by rw[aSd,hg];exact⟨⟨by omega,by rw[aB];omega⟩,rfl⟩)) (ai rk (y1 (ai (fun h=>(by rw[aSd,hg];exact⟨aSf rfl,rfl⟩)) (ai rk (y2 (ai pk (cd rfl (fun c29=> ?_) fun c29=> ?_))))))))))))))))))
   · refine sq (rT [6] (s2 (rt (bQ rfl (congrArg D.i ?_)))))
     have hs:tM l f m i=true:=by
      have h9:=c29
      rw[aSd,hg] at h9
      exact h9
     exact(oJ (aSj _) (by omega) (fun j _ h=>hk j h) hs).symm
   refine sk (rT [0,1,2,7,22,23,24,25,26,27,28] (s3 ?_))
   have hs:tM l f m i=false:=by
    have h9:=c29
    rw[aSd,hg] at h9
    exact h9
   refine wq [] [] (⟨l.length - (i+1),by omega,i+1,rfl,by omega,fun k h=>by by_cases e:k=i;exact e▸hs;exact hk k (by omega),rfl⟩) ?_
   repeat' apply ai
   all_goals first|exact qx|exact congrArg D.i (aF (by omega))|exact qz
 have hi3:i=l.length:=by simp[aB] at c11;omega
 refine xt (sq (rT [6] (s1 (rt (bQ rfl (congrArg D.i ?_))))))
 exact(mX (fun j _ h=>hk j (by omega))).symm
theorem aAp (id:Int) (n:bB):Sp 52 2 [tI 0 id,tV 1 n.V] [tB 0 (fp id n)]:=by
 refine sb Tryz.func52 rfl (sq (rT [0,3,10,11,12,13,14,15,16,17,18,19,20,21,22,23] (s2 (sq (rT [4] (s5 (y4 (y1 (xc (fun h=>(jF _ _ _)) (ai rfl (ai rk ?_)))))))))))
 refine y4 (y2 (xc (fun h=>(jF _ _ _)) (ai rfl (ai rk ?_))))
 refine ai (fun h=>pk) (ai rk (ai pk (s1 (rt (bQ rfl (congrArg D.b ?_))))))
 first|(simp only[fp,gX,gb];done)|(simp only[fp,gX,gb];grind)
theorem ut (n:bB) (id:Int):Sp 46 2 [tV 0 n.V,tI 1 id] [tB 0 (fp id n)]:=by
 refine sb Tryz.func46 rfl (sq (rT [1,2,10,11,12,13,16,17,18,19,20,21,22,23,24,25] (s2 (sq (rT [4] (s5 (y4 (ai pk (s1 (y4 (y4 (y1 (ai (fun h=>pk) (ai rk (ai pk (s1 (rt (bQ rfl (congrArg D.b ?_)))))))))))))))))))
 first|(simp only[fp,gX,gb];done)|(simp only[fp,gX,gb];grind)
set_option maxHeartbeats 800000 in
theorem ae (l:List bB) (hx: ∀x∈l,x.text.length≤140737488355328) (hl:l.length≤100000):Sp 50 1 [tD 0 (.sl (aE l))] [tB 0 (jO l)]:=by
 refine sb Tryz.func50 rfl (sq (rT [0,16,17,18,19,20,21,22,23,24,25,26,27,28,29,30,31,32,33,34,35,36,37] (s1 (sq (sq (rT [0,5,6,7,16,17,18,19,20,21,22,23,24,25,26,27,28,29,30,31,32,33,34,35,36,37] (s3 (bk (SW.loopW (n:=l.length) (fun n q=> ∃i:Nat,n=l.length - i∧i≤l.length∧(∀k,k<i→mI l k=true)∧q=[tD 0 (.sl (aE l)),tD 5 (.sl (aE l)),tI 6 (l.length:Nat),tI 7 (i:Nat)]) ?_ ?_)))))))))
 · refine wq (σ':=[tD 0 (.sl (aE l)),tD 5 (.sl (aE l)),tI 6 (l.length:Nat),tI 7 (0:Nat)]) [] [] (⟨0,rfl,aSj _,fun k h=>absurd h (by omega),rfl⟩) ?_
   repeat' apply ai
   all_goals first|exact qx|(rw[aA];done)|rfl|exact qz
 rintro n s ⟨i,rfl,hi,hk,rfl⟩
 refine sq (rT [0,5,6,7,8,16,17,18,19,20,21,22,23,24,25,26,27,28,29,30,31,32,33,34,35,36,37] (s1 (sq (cd rfl (fun c8=> ?_) fun c8=> ?_))))
 · have hi2:i<l.length:=by simpa using c8
   have hg:=aQ (l:=l) hi2
   have hmem:l.getD i .zero∈l:=by rw[aSl,aSn hi2];exact List.getElem_mem _
   refine sk (sq (bk (sq (rT [0,3,4,5,6,7,16,17,18,19,20,21,22,23,24,25,26,27,28,29,30,31,32,33,34,35,36,37] (s1 (ai (by rw[aSd,hg];exact⟨⟨by omega,by rw[aA];omega⟩,rfl⟩) (ai (by rw[aSd,hg];exact⟨aSf rfl,rfl⟩) (s3 (sq (rD [0,5,6,7,16,17,18,19,20,21,22,23,24,25,26,27,28,29,30,31,32,33,34,35,36,37,38] (s1 (xp (qZ (l.getD i .zero) (hx _ hmem)) (ai (by rw[aSd,hg];rfl) ?_)))))))))))))
   refine s2 (y4 (y2 (ai (fun h=>(by have h0:0<i:=(by have h9:=h;simp[gb] at h9;omega);rw[eN h0 (by omega),aSd,aQ (by omega),aA];exact⟨⟨by omega,by omega⟩,rfl⟩)) (ai rk (y1 (ai (fun h=>(by have h0:0<i:=(by have h9:=h;simp[gb] at h9;omega);rw[eN h0 (by omega),aSd,aQ (by omega)];exact⟨aSf rfl,rfl⟩)) (ai rk (y3 (ai (fun h=>(by have h0:0<i:=(by have h9:=h;simp[gb] at h9;omega);rw[eN h0 (by omega),aSd,aQ (by omega),aA];exact⟨⟨by omega,by omega⟩,rfl⟩)) (ai rk (y1 (ai (fun h=>(by have h0:0<i:=(by have h9:=h;simp[gb] at h9;omega);rw[eN h0 (by omega),aSd,aQ (by omega)];exact⟨aSf rfl,rfl⟩)) (ai rk (y4 (xc (fun h=>(qY _ _ _ _)) (ai rfl (ai rk ?_)))))))))))))))))
   refine y1 (ai (fun h=>pk) (ai rk (ai pk (ai (by kernel_rfl) (cd rfl (fun c38=> ?_) fun c38=> ?_)))))
   · refine sq (rT [2] (s1 (rt (bQ rfl (congrArg D.b ?_)))))
     have hs:mI l i=false:=sJ c38 (fun h0=>by simp only[eN h0 (show i≤1000000 by omega),aSd,hg,aQ (show i - 1<l.length by omega)];rfl)
     rw[jO,gA hi2 hs]
   refine sk (rT [0,5,6,7,16,17,18,19,20,21,22,23,24,25,26,27,28,29,30,31,32,33,34,35,36,37] (s2 ?_))
   have hs:mI l i=true:=sJ c38 (fun h0=>by simp only[eN h0 (show i≤1000000 by omega),aSd,hg,aQ (show i - 1<l.length by omega)];rfl)
   refine wq [] [] (⟨l.length - (i+1),by omega,i+1,rfl,by omega,fun k h=>by by_cases e:k=i;exact e▸hs;exact hk k (by omega),rfl⟩) ?_
   repeat' apply ai
   all_goals first|exact qx|exact congrArg D.i (aF (by omega))|exact qz
 have hi3:i=l.length:=by simp at c8;omega
 refine xt (sq (rT [2] (s1 (rt (bQ rfl (congrArg D.b ?_))))))
 subst hi3
 rw[jO,iR hk]
set_option maxHeartbeats 800000 in
theorem yI (l:List bB) (most:Int) (hx: ∀x∈l,x.text.length≤140737488355328) (hl:l.length≤100000):Sp 44 2 [tD 0 (.sl (aE l)),tI 1 most] [tB 0 (decide ((l.length:Int)≤most)&&jO l)]:=by
 refine sb Tryz.func44 rfl (sq (rT [0,1,23,24,25,26,27,28,29,30,31,32,33,34,35,36,37,38,39,40,41,42,43,44,45,46,47,48,49,50] (s1 (sq (sq (rT [0,9,23,24,25,26,27,28,29,30,31,32,33,34,35,36,37,38,39,40,41,42,43,44,45,46,47,48,49,50] (s4 (cd rfl (fun c9=> ?_) fun c9=> ?_))))))))
 · refine sq (rT [4] (s1 (rt (bQ rfl (congrArg D.b ?_)))))
   simp[aA] at c9
   simp[Int.not_le.2 c9]
 have hm: (l.length:Int)≤most:=by simp[aA] at c9;omega
 refine sk (sq (sq (rT [0,5,23,24,25,26,27,28,29,30,31,32,33,34,35,36,37,38,39,40,41,42,43,44,45,46,47,48,49,50] (s1 (bk (SW.loopW (n:=l.length) (fun n q=> ∃i:Nat,n=l.length - i∧i≤l.length∧(∀k,k<i→mI l k=true)∧q=[tD 0 (.sl (aE l)),tI 5 (i:Nat)]) ?_ ?_))))))
 · exact wq (σ':=[tD 0 (.sl (aE l)),tI 5 (0:Nat)]) [] [] (⟨0,rfl,aSj _,fun k h=>absurd h (by omega),rfl⟩) qz
 rintro n s ⟨i,rfl,hi,hk,rfl⟩
 refine sq (sq (rT [0,5,13,23,24,25,26,27,28,29,30,31,32,33,34,35,36,37,38,39,40,41,42,43,44,45,46,47,48,49,50] (s4 (cd rfl (fun c13=> ?_) fun c13=> ?_))))
 · have hi2:i<l.length:=by simpa[aA] using c13
   have hg:=aQ (l:=l) hi2
   have hmem:l.getD i .zero∈l:=by rw[aSl,aSn hi2];exact List.getElem_mem _
   refine sk (sq (bk (sq (rD [0,5,23,24,25,26,27,28,29,30,31,32,33,34,35,36,37,38,39,40,41,42,43,44,45,46,47,48,49,50,51] (s2 (ai (by rw[aSd,hg];exact⟨⟨by omega,by rw[aA];omega⟩,rfl⟩) (ai (by rw[aSd,hg];exact⟨aSf rfl,rfl⟩) (xp (vK (l.getD i .zero) (hx _ hmem)) (ai (by rw[aSd,hg];rfl) ?_)))))))))
   refine s2 (y4 (y2 (ai (fun h=>(by have h0:0<i:=(by have h9:=h;simp[gb] at h9;omega);rw[eN h0 (by omega),aSd,aQ (by omega),aA];exact⟨⟨by omega,by omega⟩,rfl⟩)) (ai rk (y1 (ai (fun h=>(by have h0:0<i:=(by have h9:=h;simp[gb] at h9;omega);rw[eN h0 (by omega),aSd,aQ (by omega)];exact⟨aSf rfl,rfl⟩)) (ai rk (y3 (ai (fun h=>(by have h0:0<i:=(by have h9:=h;simp[gb] at h9;omega);rw[eN h0 (by omega),aSd,aQ (by omega),aA];exact⟨⟨by omega,by omega⟩,rfl⟩)) (ai rk (y1 (ai (fun h=>(by have h0:0<i:=(by have h9:=h;simp[gb] at h9;omega);rw[eN h0 (by omega),aSd,aQ (by omega)];exact⟨aSf rfl,rfl⟩)) (ai rk (y2 (ai (fun h=>(by rw[aSd,hg];exact⟨⟨by omega,by rw[aA];omega⟩,rfl⟩)) (ai rk (y1 (ai (fun h=>(by rw[aSd,hg];exact⟨aSf rfl,rfl⟩)) (ai rk (y2 (ai (fun h=>(by rw[aSd,hg];exact⟨⟨by omega,by rw[aA];omega⟩,rfl⟩)) (ai rk (y1 (ai (fun h=>(by rw[aSd,hg];exact⟨aSf rfl,rfl⟩)) (ai rk (xc (fun h=>(pL _ _ _ _)) (ai rfl (ai rk ?_))))))))))))))))))))))))))))
   refine y1 (ai (fun h=>pk) (ai rk (ai pk (ai (by kernel_rfl) (cd rfl (fun c51=> ?_) fun c51=> ?_)))))
   · refine sq (rT [4] (s1 (rt (bQ rfl (congrArg D.b ?_)))))
     have hs:mI l i=false:=sJ c51 (fun h0=>by simp only[eN h0 (show i≤1000000 by omega),aSd,hg,aQ (show i - 1<l.length by omega)];rfl)
     rw[jO,gA hi2 hs];simp
   refine sk (rT [0,5,23,24,25,26,27,28,29,30,31,32,33,34,35,36,37,38,39,40,41,42,43,44,45,46,47,48,49,50] (s3 ?_))
   have hs:mI l i=true:=sJ c51 (fun h0=>by simp only[eN h0 (show i≤1000000 by omega),aSd,hg,aQ (show i - 1<l.length by omega)];rfl)
   refine wq [] [] (⟨l.length - (i+1),by omega,i+1,rfl,by omega,fun k h=>by by_cases e:k=i;exact e▸hs;exact hk k (by omega),rfl⟩) ?_
   repeat' apply ai
   all_goals first|exact qx|exact congrArg D.i (aF (by omega))|exact qz
 have hi3:i=l.length:=by simp[aA] at c13;omega
 refine xt (sq (rT [4] (s1 (rt (bQ rfl (congrArg D.b ?_))))))
 subst hi3
 rw[jO,iR hk];simp[hm]
set_option maxHeartbeats 800000 in
theorem sj (l:List bZ) (hl:l.length≤100000):Sp 51 1 [tD 0 (.sl (aL l))] [tB 0 (nR l)]:=by
 refine sb Tryz.func51 rfl (sq (rT [0,16,17,18,19,20,21,22,23,24,25,26,27,28,29,30,31,32,33,34,35,36,37] (s1 (sq (sq (rT [0,5,6,7,16,17,18,19,20,21,22,23,24,25,26,27,28,29,30,31,32,33,34,35,36,37] (s3 (bk (SW.loopW (n:=l.length) (fun n q=> ∃i:Nat,n=l.length - i∧i≤l.length∧(∀k,k<i→nN l k=true)∧q=[tD 0 (.sl (aL l)),tD 5 (.sl (aL l)),tI 6 (l.length:Nat),tI 7 (i:Nat)]) ?_ ?_)))))))))
 · refine wq (σ':=[tD 0 (.sl (aL l)),tD 5 (.sl (aL l)),tI 6 (l.length:Nat),tI 7 (0:Nat)]) [] [] (⟨0,rfl,aSj _,fun k h=>absurd h (by omega),rfl⟩) ?_
   repeat' apply ai
   all_goals first|exact qx|(rw[aB];done)|rfl|exact qz
 rintro n s ⟨i,rfl,hi,hk,rfl⟩
 refine sq (rT [0,5,6,7,8,16,17,18,19,20,21,22,23,24,25,26,27,28,29,30,31,32,33,34,35,36,37] (s1 (sq (cd rfl (fun c8=> ?_) fun c8=> ?_))))
 · have hi2:i<l.length:=by simpa using c8
   have hg:=bR (l:=l) hi2
   have hmem:l.getD i .zero∈l:=by rw[aSl,aSn hi2];exact List.getElem_mem _
   refine sk (sq (bk (sq (rT [0,3,4,5,6,7,16,17,18,19,20,21,22,23,24,25,26,27,28,29,30,31,32,33,34,35,36,37] (s1 (ai (by rw[aSd,hg];exact⟨⟨by omega,by rw[aB];omega⟩,rfl⟩) (ai (by rw[aSd,hg];exact⟨aSf rfl,rfl⟩) (s3 (sq (rD [0,5,6,7,16,17,18,19,20,21,22,23,24,25,26,27,28,29,30,31,32,33,34,35,36,37,38] (s1 (xp (uq (l.getD i .zero)) (ai (by rw[aSd,hg];rfl) ?_)))))))))))))
   refine s2 (y4 (y2 (ai (fun h=>(by have h0:0<i:=(by have h9:=h;simp[gb] at h9;omega);rw[eN h0 (by omega),aSd,bR (by omega),aB];exact⟨⟨by omega,by omega⟩,rfl⟩)) (ai rk (y1 (ai (fun h=>(by have h0:0<i:=(by have h9:=h;simp[gb] at h9;omega);rw[eN h0 (by omega),aSd,bR (by omega)];exact⟨aSf rfl,rfl⟩)) (ai rk (y3 (ai (fun h=>(by have h0:0<i:=(by have h9:=h;simp[gb] at h9;omega);rw[eN h0 (by omega),aSd,bR (by omega),aB];exact⟨⟨by omega,by omega⟩,rfl⟩)) (ai rk (y1 (ai (fun h=>(by have h0:0<i:=(by have h9:=h;simp[gb] at h9;omega);rw[eN h0 (by omega),aSd,bR (by omega)];exact⟨aSf rfl,rfl⟩)) (ai rk (y4 (xc (fun h=>(qY _ _ _ _)) (ai rfl (ai rk ?_)))))))))))))))))
   refine y1 (ai (fun h=>pk) (ai rk (ai pk (ai (by kernel_rfl) (cd rfl (fun c38=> ?_) fun c38=> ?_)))))
   · refine sq (rT [2] (s1 (rt (bQ rfl (congrArg D.b ?_)))))
     have hs:nN l i=false:=sK c38 (fun h0=>by simp only[eN h0 (show i≤1000000 by omega),aSd,hg,bR (show i - 1<l.length by omega)];rfl)
     rw[nR,gA hi2 hs]
   refine sk (rT [0,5,6,7,16,17,18,19,20,21,22,23,24,25,26,27,28,29,30,31,32,33,34,35,36,37] (s2 ?_))
   have hs:nN l i=true:=sK c38 (fun h0=>by simp only[eN h0 (show i≤1000000 by omega),aSd,hg,bR (show i - 1<l.length by omega)];rfl)
   refine wq [] [] (⟨l.length - (i+1),by omega,i+1,rfl,by omega,fun k h=>by by_cases e:k=i;exact e▸hs;exact hk k (by omega),rfl⟩) ?_
   repeat' apply ai
   all_goals first|exact qx|exact congrArg D.i (aF (by omega))|exact qz
 have hi3:i=l.length:=by simp at c8;omega
 refine xt (sq (rT [2] (s1 (rt (bQ rfl (congrArg D.b ?_))))))
 subst hi3
 rw[nR,iR hk]
set_option maxHeartbeats 3200000 in
theorem rB (k:aR) (hx: ∀x∈k.held,x.text.length≤140737488355328) (hy: ∀x∈k.inbox,x.text.length≤140737488355328):Sp 20 1 [tV 0 k.V] [tB 0 (dS k)]:=by
 refine sb Tryz.func20 rfl (sq (rT [1,14,15,16,17,20,21,22,23,26,27,28,29,32,33,34,35,38,39,40,41,48,49,50,51,54,55,56,57,72,73,74,75,76,79,80,81,82,83,86,87,88,89,90,93,94,95,96,97,98,99,100,116,117,118,119,120,123,124,125,126,127,143,144,145,146,147,150,151,152,153,154,157,158,159,160,161,162,163,164,165,166,167,168,169,170,171] (s2 (sq (sq (rT [1,42,48,49,50,51,54,55,56,57,72,73,74,75,76,79,80,81,82,83,86,87,88,89,90,93,94,95,96,97,98,99,100,116,117,118,119,120,123,124,125,126,127,143,144,145,146,147,150,151,152,153,154,157,158,159,160,161,162,163,164,165,166,167,168,169,170,171] (s2 (xp (qX _) (ai rfl ?_)))))))))
 refine s2 (y2 (xc (fun h=>(jF _ _ _)) (ai rfl (ai rk ?_))))
 refine y1 (ai pk (s1 (y2 (xc (fun h=>(jF _ _ _)) (ai rfl (ai rk ?_))))))
 refine y1 (ai pk (s1 (y4 (ai pk (s1 (y4 (ai pk (s1 (y4 (ai pk (cd rfl (fun c42=> ?_) fun c42=> ?_)))))))))))
 · refine sq (rT [2] (s1 (rt (bQ rfl (congrArg D.b ?_)))))
   refine(mY fun h=> ?_).symm
   obtain⟨⟨h1,h2,h3,h4,h5,h6⟩,⟨h7,h8,h9⟩,h10,h11,h12⟩:=(bV k).1 h
   simp only[gb,gX,aA,aB,h1,Bool.not_true,Bool.false_or,Bool.or_eq_true,Bool.not_eq_eq_eq_not,Bool.and_eq_false_iff,decide_eq_true_eq,decide_eq_false_iff_not,Bool.not_eq_true'] at c42
   omega
 have hf:eB k.id=true∧(0≤k.time∧k.time≤999)∧(1≤k.next∧k.next≤100)∧k.held.length≤6∧k.marks.length≤12∧k.inbox.length≤6:=by
  simp only[gb,gX,aA,aB,Bool.or_eq_false_iff,Bool.not_eq_false,decide_eq_false_iff_not,Bool.not_eq_eq_eq_not,Bool.not_false,aSg,decide_eq_true_eq] at c42
  obtain⟨⟨⟨⟨⟨q1,q2⟩,q3⟩,q4⟩,q5⟩,q6⟩:=c42
  exact⟨q1,q2,q3,by omega,by omega,by omega⟩
 obtain⟨f1,f2,f3,f4,f5,f6⟩:=hf
 refine sk (sq (sq (rT [1,58,72,73,74,75,76,79,80,81,82,83,86,87,88,89,90,93,94,95,96,97,98,99,100,116,117,118,119,120,123,124,125,126,127,143,144,145,146,147,150,151,152,153,154,157,158,159,160,161,162,163,164,165,166,167,168,169,170,171] (s2 (xp (ae k.held hx (by omega)) (ai rfl ?_))))))
 refine s2 (y2 (xc (fun h=>(sj k.marks (by omega))) (ai rfl (ai rk ?_))))
 refine y1 (ai pk (s1 (y2 (xc (fun h=>(ae k.inbox hy (by omega))) (ai rfl (ai rk ?_))))))
 refine y1 (ai pk (cd rfl (fun c58=> ?_) fun c58=> ?_))
 · refine sq (rT [2] (s1 (rt (bQ rfl (congrArg D.b ?_)))))
   refine(mY fun h=> ?_).symm
   obtain⟨⟨h1,h2,h3,h4,h5,h6⟩,⟨h7,h8,h9⟩,h10,h11,h12⟩:=(bV k).1 h
   rw[h7,h8,h9] at c58
   cases c58
 have hg3:jO k.held=true∧nR k.marks=true∧jO k.inbox=true:=by
  simp only[gb,Bool.or_eq_false_iff,Bool.not_eq_false,Bool.not_eq_eq_eq_not,Bool.not_false] at c58
  exact⟨c58.1.1,c58.1.2,c58.2⟩
 refine sk (sq (sq (rT [1,60,61,62,72,73,74,75,76,79,80,81,82,83,86,87,88,89,90,93,94,95,96,97,98,99,100,116,117,118,119,120,123,124,125,126,127,143,144,145,146,147,150,151,152,153,154,157,158,159,160,161,162,163,164,165,166,167,168,169,170,171] (s4 (bk (SW.loopW (n:=k.held.length) (fun n q=> ∃i:Nat,n=k.held.length - i∧i≤k.held.length∧(∀j,j<i→vG k j=true)∧q=[tP 1 1,tD 60 (.sl (aE k.held)),tI 61 (k.held.length:Nat),tI 62 (i:Nat),oB 1 26 [.d (.i k.id),.d (.i k.time),.d (.i k.next),.d (.sl (aE k.held)),.d (.sl (aL k.marks)),.d (.sl (aE k.inbox))]]) ?_ ?_))))))
 · refine wq (σ':=[tP 1 1,tD 60 (.sl (aE k.held)),tI 61 (k.held.length:Nat),tI 62 (0:Nat),oB 1 26 [.d (.i k.id),.d (.i k.time),.d (.i k.next),.d (.sl (aE k.held)),.d (.sl (aL k.marks)),.d (.sl (aE k.inbox))]]) [] [] (⟨0,rfl,aSj _,fun j h=>absurd h (by omega),rfl⟩) ?_
   repeat' apply ai
   all_goals first|exact qx|(rw[aA];done)|rfl|exact qz
 rintro n s ⟨i,rfl,hi,hk,rfl⟩
 refine sq (rT [1,60,61,62,63,72,73,74,75,76,79,80,81,82,83,86,87,88,89,90,93,94,95,96,97,98,99,100,116,117,118,119,120,123,124,125,126,127,143,144,145,146,147,150,151,152,153,154,157,158,159,160,161,162,163,164,165,166,167,168,169,170,171] (s1 (sq (cd rfl (fun c63=> ?_) fun c63=> ?_))))
 · have hi2:i<k.held.length:=by simpa using c63
   have hg:=aQ (l:=k.held) hi2
   refine sk (sq (bk (sq (rT [1,4,60,61,62,72,73,74,75,76,79,80,81,82,83,86,87,88,89,90,93,94,95,96,97,98,99,100,116,117,118,119,120,123,124,125,126,127,143,144,145,146,147,150,151,152,153,154,157,158,159,160,161,162,163,164,165,166,167,168,169,170,171] (ai (by rw[aSd,hg];exact⟨⟨by omega,by rw[aA];omega⟩,rfl⟩) (ai (by rw[aSd,hg];exact⟨aSf rfl,rfl⟩) (s2 (sq (wa [tP 1 1,tD 60 (.sl (aE k.held)),tI 61 (k.held.length:Nat),tI 62 (i:Nat),oB 1 26 [.d (.i k.id),.d (.i k.time),.d (.i k.next),.d (.sl (aE k.held)),.d (.sl (aL k.marks)),.d (.sl (aE k.inbox))],tP 4 4,oB 4 29 [.d (.i (k.held.getD i .zero).frm),.d (.i (k.held.getD i .zero).num),.d (.i (k.held.getD i .zero).to),.d (.i (k.held.getD i .zero).til),.d (.s (k.held.getD i .zero).text)]] [] [] ?_ ?_)))))))))
   · repeat' apply ai
     all_goals first|exact qx|(rw[aSd,hg];rfl)|exact qz
   refine rT [1,60,61,62,72,73,74,75,76,79,80,81,82,83,86,87,88,89,90,93,94,95,96,97,98,99,100,101,116,117,118,119,120,123,124,125,126,127,143,144,145,146,147,150,151,152,153,154,157,158,159,160,161,162,163,164,165,166,167,168,169,170,171] (s6 (y4 (y1 (ai pk (s1 (y4 (y1 (ai pk (s1 (y3 (xc (fun h=>(aAp k.id (k.held.getD i .zero))) (ai rfl (ai rk ?_)))))))))))))
   refine y1 (ai pk (s1 (y4 (y2 (xc (fun h=>(rA k.marks _ _ (by omega))) (ai rfl (ai rk ?_)))))))
   refine y1 (ai pk (cd rfl (fun c101=> ?_) fun c101=> ?_))
   · refine sq (rT [2] (s1 (rt (bQ rfl (congrArg D.b ?_)))))
     refine(mY fun h=> ?_).symm
     obtain⟨⟨h1,h2,h3,h4,h5,h6⟩,⟨h7,h8,h9⟩,h10,h11,h12⟩:=(bV k).1 h
     rw[gA hi2 (wY c101)] at h10
     cases h10
   refine sk (rT [1,60,61,62,72,73,74,75,76,79,80,81,82,83,86,87,88,89,90,93,94,95,96,97,98,99,100,116,117,118,119,120,123,124,125,126,127,143,144,145,146,147,150,151,152,153,154,157,158,159,160,161,162,163,164,165,166,167,168,169,170,171] (s2 ?_))
   have hs:vG k i=true:=wY c101
   refine wq [] [] (⟨k.held.length - (i+1),by omega,i+1,rfl,by omega,fun j h=>by by_cases e:j=i;exact e▸hs;exact hk j (by omega),rfl⟩) ?_
   repeat' apply ai
   all_goals first|exact qx|exact congrArg D.i (aF (by omega))|exact qz
 have hiA:i=k.held.length:=by simp at c63;omega
 have hkA:=hk
 clear hk hi
 refine xt (sq (sq (rT [1,104,105,106,116,117,118,119,120,123,124,125,126,127,143,144,145,146,147,150,151,152,153,154,157,158,159,160,161,162,163,164,165,166,167,168,169,170,171] (s4 (bk (SW.loopW (n:=k.marks.length) (fun n q=> ∃i:Nat,n=k.marks.length - i∧i≤k.marks.length∧(∀j,j<i→zH k j=true)∧q=[tP 1 1,tD 104 (.sl (aL k.marks)),tI 105 (k.marks.length:Nat),tI 106 (i:Nat),oB 1 26 [.d (.i k.id),.d (.i k.time),.d (.i k.next),.d (.sl (aE k.held)),.d (.sl (aL k.marks)),.d (.sl (aE k.inbox))]]) ?_ ?_))))))
 · refine wq (σ':=[tP 1 1,tD 104 (.sl (aL k.marks)),tI 105 (k.marks.length:Nat),tI 106 (0:Nat),oB 1 26 [.d (.i k.id),.d (.i k.time),.d (.i k.next),.d (.sl (aE k.held)),.d (.sl (aL k.marks)),.d (.sl (aE k.inbox))]]) [] [] (⟨0,rfl,aSj _,fun j h=>absurd h (by omega),rfl⟩) ?_
   repeat' apply ai
   all_goals first|exact qx|(rw[aB];done)|rfl|exact qz
 rintro n s ⟨i,rfl,hi,hk,rfl⟩
 refine sq (rT [1,104,105,106,107,116,117,118,119,120,123,124,125,126,127,143,144,145,146,147,150,151,152,153,154,157,158,159,160,161,162,163,164,165,166,167,168,169,170,171] (s1 (sq (cd rfl (fun c107=> ?_) fun c107=> ?_))))
 · have hi2:i<k.marks.length:=by simpa using c107
   have hg:=bR (l:=k.marks) hi2
   refine sk (sq (bk (sq (rT [1,6,104,105,106,116,117,118,119,120,123,124,125,126,127,143,144,145,146,147,150,151,152,153,154,157,158,159,160,161,162,163,164,165,166,167,168,169,170,171] (ai (by rw[aSd,hg];exact⟨⟨by omega,by rw[aB];omega⟩,rfl⟩) (ai (by rw[aSd,hg];exact⟨aSf rfl,rfl⟩) (s2 (sq (wa [tP 1 1,tD 104 (.sl (aL k.marks)),tI 105 (k.marks.length:Nat),tI 106 (i:Nat),oB 1 26 [.d (.i k.id),.d (.i k.time),.d (.i k.next),.d (.sl (aE k.held)),.d (.sl (aL k.marks)),.d (.sl (aE k.inbox))],tP 6 6,oB 6 39 [.d (.i (k.marks.getD i .zero).frm),.d (.i (k.marks.getD i .zero).num),.d (.i (k.marks.getD i .zero).til)]] [] [] ?_ ?_)))))))))
   · repeat' apply ai
     all_goals first|exact qx|(rw[aSd,hg];rfl)|exact qz
   refine rT [1,104,105,106,116,117,118,119,120,123,124,125,126,127,128,143,144,145,146,147,150,151,152,153,154,157,158,159,160,161,162,163,164,165,166,167,168,169,170,171] (s6 (y4 (y1 (ai pk (s1 (y4 (y1 (ai pk (cd rfl (fun c128=> ?_) fun c128=> ?_)))))))))
   · refine sq (rT [2] (s1 (rt (bQ rfl (congrArg D.b ?_)))))
     refine(mY fun h=> ?_).symm
     obtain⟨⟨h1,h2,h3,h4,h5,h6⟩,⟨h7,h8,h9⟩,h10,h11,h12⟩:=(bV k).1 h
     rw[gA hi2 (wZ c128)] at h11
     cases h11
   refine sk (rT [1,104,105,106,116,117,118,119,120,123,124,125,126,127,143,144,145,146,147,150,151,152,153,154,157,158,159,160,161,162,163,164,165,166,167,168,169,170,171] (s2 ?_))
   have hs:zH k i=true:=wZ c128
   refine wq [] [] (⟨k.marks.length - (i+1),by omega,i+1,rfl,by omega,fun j h=>by by_cases e:j=i;exact e▸hs;exact hk j (by omega),rfl⟩) ?_
   repeat' apply ai
   all_goals first|exact qx|exact congrArg D.i (aF (by omega))|exact qz
 have hiB:i=k.marks.length:=by simp at c107;omega
 have hkB:=hk
 clear hk hi
 refine xt (sq (sq (rT [1,131,132,133,143,144,145,146,147,150,151,152,153,154,157,158,159,160,161,162,163,164,165,166,167,168,169,170,171] (s4 (bk (SW.loopW (n:=k.inbox.length) (fun n q=> ∃i:Nat,n=k.inbox.length - i∧i≤k.inbox.length∧(∀j,j<i→uK k j=true)∧q=[tP 1 1,tD 131 (.sl (aE k.inbox)),tI 132 (k.inbox.length:Nat),tI 133 (i:Nat),oB 1 26 [.d (.i k.id),.d (.i k.time),.d (.i k.next),.d (.sl (aE k.held)),.d (.sl (aL k.marks)),.d (.sl (aE k.inbox))]]) ?_ ?_))))))
 · refine wq (σ':=[tP 1 1,tD 131 (.sl (aE k.inbox)),tI 132 (k.inbox.length:Nat),tI 133 (0:Nat),oB 1 26 [.d (.i k.id),.d (.i k.time),.d (.i k.next),.d (.sl (aE k.held)),.d (.sl (aL k.marks)),.d (.sl (aE k.inbox))]]) [] [] (⟨0,rfl,aSj _,fun j h=>absurd h (by omega),rfl⟩) ?_
   repeat' apply ai
   all_goals first|exact qx|(rw[aA];done)|rfl|exact qz
 rintro n s ⟨i,rfl,hi,hk,rfl⟩
 refine sq (rT [1,131,132,133,134,143,144,145,146,147,150,151,152,153,154,157,158,159,160,161,162,163,164,165,166,167,168,169,170,171] (s1 (sq (cd rfl (fun c134=> ?_) fun c134=> ?_))))
 · have hi2:i<k.inbox.length:=by simpa using c134
   have hg:=aQ (l:=k.inbox) hi2
   refine sk (sq (bk (sq (rT [1,8,131,132,133,143,144,145,146,147,150,151,152,153,154,157,158,159,160,161,162,163,164,165,166,167,168,169,170,171] (ai (by rw[aSd,hg];exact⟨⟨by omega,by rw[aA];omega⟩,rfl⟩) (ai (by rw[aSd,hg];exact⟨aSf rfl,rfl⟩) (s2 (sq (wa [tP 1 1,tD 131 (.sl (aE k.inbox)),tI 132 (k.inbox.length:Nat),tI 133 (i:Nat),oB 1 26 [.d (.i k.id),.d (.i k.time),.d (.i k.next),.d (.sl (aE k.held)),.d (.sl (aL k.marks)),.d (.sl (aE k.inbox))],tP 8 8,oB 8 29 [.d (.i (k.inbox.getD i .zero).frm),.d (.i (k.inbox.getD i .zero).num),.d (.i (k.inbox.getD i .zero).to),.d (.i (k.inbox.getD i .zero).til),.d (.s (k.inbox.getD i .zero).text)]] [] [] ?_ ?_)))))))))
   · repeat' apply ai
     all_goals first|exact qx|(rw[aSd,hg];rfl)|exact qz
   refine rT [1,131,132,133,143,144,145,146,147,150,151,152,153,154,157,158,159,160,161,162,163,164,165,166,167,168,169,170,171,172] (s6 (y4 (y1 (ai pk (s1 (y4 (y1 (ai pk (s1 (y4 (y4 (y4 (xc (fun h=>(rA k.marks _ _ (by omega))) (ai rfl (ai rk ?_)))))))))))))))
   refine y1 (ai (fun h=>pk) (ai rk (ai pk (cd rfl (fun c172=> ?_) fun c172=> ?_))))
   · refine sq (rT [2] (s1 (rt (bQ rfl (congrArg D.b ?_)))))
     refine(mY fun h=> ?_).symm
     obtain⟨⟨h1,h2,h3,h4,h5,h6⟩,⟨h7,h8,h9⟩,h10,h11,h12⟩:=(bV k).1 h
     rw[gA hi2 (uM c172)] at h12
     cases h12
   refine sk (rT [1,131,132,133,143,144,145,146,147,150,151,152,153,154,157,158,159,160,161,162,163,164,165,166,167,168,169,170,171] (s2 ?_))
   have hs:uK k i=true:=uM c172
   refine wq [] [] (⟨k.inbox.length - (i+1),by omega,i+1,rfl,by omega,fun j h=>by by_cases e:j=i;exact e▸hs;exact hk j (by omega),rfl⟩) ?_
   repeat' apply ai
   all_goals first|exact qx|exact congrArg D.i (aF (by omega))|exact qz
 have hiC:i=k.inbox.length:=by simp at c134;omega
 refine xt (sq (rT [2] (s1 (rt (bQ rfl (congrArg D.b ?_))))))
 refine((bV k).2 ⟨⟨f1,f2,f3,f4,f5,f6⟩,hg3,iR ?_,iR ?_,iR ?_⟩).symm
 · rw[← hiA];exact hkA
 · rw[← hiB];exact hkB
 rw[← hiC];exact hk
theorem or4 (a b c d:Bool): (c||a||b||d)=(a||b||c||d):=by cases a<;>cases b<;>cases c<;>cases d<;>rfl
theorem or3 (a b c:Bool): (b||a||c)=(a||b||c):=by cases a<;>cases b<;>cases c<;>rfl
theorem or2 (a b:Bool): (b||a)=(a||b):=by cases a<;>cases b<;>rfl
theorem aOq (a b c d:Bool): (!(a&&b&&c)||d)=(!a|| !b|| !c||d):=by cases a<;>cases b<;>cases c<;>cases d<;>rfl
set_option maxHeartbeats 800000 in
theorem nd (l:List bZ) (hl:l.length≤100000):Sp 45 1 [tD 0 (.sl (aL l))] [tB 0 (decide (l.length≤12)&&nR l)]:=by
 refine sb Tryz.func45 rfl (sq (rT [0,23,24,25,26,29,30,31,32,35,36,37,38,39,40,41,42,43,44,45,46,47,48,49,50,51,52,53,54,55,56] (s1 (sq (sq (rT [0,7,23,24,25,26,29,30,31,32,35,36,37,38,39,40,41,42,43,44,45,46,47,48,49,50,51,52,53,54,55,56] (s3 (cd rfl (fun c7=> ?_) fun c7=> ?_))))))))
 · have hm: ¬l.length≤12:=by simp[aB] at c7;omega
   refine sq (rT [2] (s1 (rt (bQ rfl (congrArg D.b ?_)))))
   simp[hm]
 have hm:l.length≤12:=by simp[aB] at c7;omega
 refine sk (sq (sq (rT [0,3,23,24,25,26,29,30,31,32,35,36,37,38,39,40,41,42,43,44,45,46,47,48,49,50,51,52,53,54,55,56] (s1 (bk (SW.loopW (n:=l.length) (fun n q=> ∃i:Nat,n=l.length - i∧i≤l.length∧(∀k,k<i→nN l k=true)∧q=[tD 0 (.sl (aL l)),tI 3 (i:Nat)]) ?_ ?_))))))
 · exact wq (σ':=[tD 0 (.sl (aL l)),tI 3 (0:Nat)]) [] [] (⟨0,rfl,aSj _,fun k h=>absurd h (by omega),rfl⟩) qz
 rintro n s ⟨i,rfl,hi,hk,rfl⟩
 refine sq (sq (rT [0,3,11,23,24,25,26,29,30,31,32,35,36,37,38,39,40,41,42,43,44,45,46,47,48,49,50,51,52,53,54,55,56] (s4 (cd rfl (fun c11=> ?_) fun c11=> ?_))))
 · have hi2:i<l.length:=by simpa[aB] using c11
   have hg:=bR (l:=l) hi2
   refine sk (sq (bk (sq (rT [0,3,4,23,24,25,26,29,30,31,32,35,36,37,38,39,40,41,42,43,44,45,46,47,48,49,50,51,52,53,54,55,56] (s2 (ai (by rw[aSd,hg];exact⟨⟨by omega,by rw[aB];omega⟩,rfl⟩) (ai (by rw[aSd,hg];exact⟨aSf rfl,rfl⟩) (s2 (sq (wa [tD 0 (.sl (aL l)),tI 3 (i:Nat),tP 4 4,oB 4 39 [.d (.i (l.getD i .zero).frm),.d (.i (l.getD i .zero).num),.d (.i (l.getD i .zero).til)]] [] [] ?_ ?_))))))))))
   · repeat' apply ai
     all_goals first|exact qx|(rw[aSd,hg];rfl)|exact qz
   refine rD [0,3,23,24,25,26,29,30,31,32,35,36,37,38,39,40,41,42,43,44,45,46,47,48,49,50,51,52,53,54,55,56,57] (s2 (xp (cW _) (ai rfl ?_)))
   refine s2 (y2 (xc (fun h=>(dC _ _ _)) (ai rfl (ai rk ?_))))
   refine y1 (ai pk (s1 (y2 (xc (fun h=>(dC _ _ _)) (ai rfl (ai rk ?_))))))
   refine y1 (ai pk (s1 (y4 (y2 (ai (fun h=>(by have h0:0<i:=(by have h9:=h;simp[gb] at h9;omega);rw[eN h0 (by omega),aSd,bR (by omega),aB];exact⟨⟨by omega,by omega⟩,rfl⟩)) (ai rk (y1 (ai (fun h=>(by have h0:0<i:=(by have h9:=h;simp[gb] at h9;omega);rw[eN h0 (by omega),aSd,bR (by omega)];exact⟨aSf rfl,rfl⟩)) (ai rk (y3 (ai (fun h=>(by have h0:0<i:=(by have h9:=h;simp[gb] at h9;omega);rw[eN h0 (by omega),aSd,bR (by omega),aB];exact⟨⟨by omega,by omega⟩,rfl⟩)) (ai rk (y1 (ai (fun h=>(by have h0:0<i:=(by have h9:=h;simp[gb] at h9;omega);rw[eN h0 (by omega),aSd,bR (by omega)];exact⟨aSf rfl,rfl⟩)) (ai rk (y4 (xc (fun h=>(pL _ _ _ _)) (ai rfl (ai rk ?_)))))))))))))))))))
   refine y1 (ai (fun h=>pk) (ai rk (ai pk (ai (by kernel_rfl) (cd rfl (fun c57=> ?_) fun c57=> ?_)))))
   · refine sq (rT [2] (s1 (rt (bQ rfl (congrArg D.b ?_)))))
     have hs:nN l i=false:=sK ((aOq _ _ _ _).trans c57) (fun h0=>by simp only[eN h0 (show i≤1000000 by omega),aSd,bR (show i - 1<l.length by omega)];rfl)
     rw[nR,gA hi2 hs];simp
   refine sk (rT [0,3,23,24,25,26,29,30,31,32,35,36,37,38,39,40,41,42,43,44,45,46,47,48,49,50,51,52,53,54,55,56] (s3 ?_))
   have hs:nN l i=true:=sK ((aOq _ _ _ _).trans c57) (fun h0=>by simp only[eN h0 (show i≤1000000 by omega),aSd,bR (show i - 1<l.length by omega)];rfl)
   refine wq [] [] (⟨l.length - (i+1),by omega,i+1,rfl,by omega,fun k h=>by by_cases e:k=i;exact e▸hs;exact hk k (by omega),rfl⟩) ?_
   repeat' apply ai
   all_goals first|exact qx|exact congrArg D.i (aF (by omega))|exact qz
 have hi3:i=l.length:=by simp[aB] at c11;omega
 refine xt (sq (rT [2] (s1 (rt (bQ rfl (congrArg D.b ?_))))))
 subst hi3
 rw[nR,iR hk];simp[hm]
set_option maxHeartbeats 3200000 in
theorem lR (k:aR) (hb1:k.held.length≤100000∧k.marks.length≤100000∧k.inbox.length≤100000) (hx: ∀x∈k.held,x.text.length≤140737488355328) (hy: ∀x∈k.inbox,x.text.length≤140737488355328):Sp 19 1 [tV 0 k.V] [tB 0 (dS k)]:=by
 refine sb Tryz.func19 rfl (sq (rT [1,14,15,16,17,20,21,22,23,26,27,28,29,32,33,34,35,38,39,40,41,61,62,63,64,65,68,69,70,71,72,73,74,75,76,77,78,79,82,83,84,85,86,87,88,89,109,110,111,112,113,114,115,116,117,118,119,120,140,141,142,143,144,145,146,147,148,149,150,151,154,155,156,157,158,159,160,161,162,163,164,165,166,167,168] (s2 (sq (sq (rT [1,42,61,62,63,64,65,68,69,70,71,72,73,74,75,76,77,78,79,82,83,84,85,86,87,88,89,109,110,111,112,113,114,115,116,117,118,119,120,140,141,142,143,144,145,146,147,148,149,150,151,154,155,156,157,158,159,160,161,162,163,164,165,166,167,168] (s2 (xp (cW _) (ai rfl ?_)))))))))
 refine s2 (y2 (xc (fun h=>(dC _ _ _)) (ai rfl (ai rk ?_))))
 refine y1 (ai pk (s1 (y2 (xc (fun h=>(dC _ _ _)) (ai rfl (ai rk ?_))))))
 refine y1 (ai pk (s1 (y2 (xc (fun h=>(yI k.held 6 hx hb1.1)) (ai rfl (ai rk ?_))))))
 refine y1 (ai pk (s1 (y2 (xc (fun h=>(nd k.marks hb1.2.1)) (ai rfl (ai rk ?_))))))
 refine y1 (ai pk (s1 (y2 (xc (fun h=>(yI k.inbox 6 hy hb1.2.2)) (ai rfl (ai rk ?_))))))
 refine y1 (ai pk (cd rfl (fun c42=> ?_) fun c42=> ?_))
 · refine sq (rT [2] (s1 (rt (bQ rfl (congrArg D.b ?_)))))
   refine(mY fun h=> ?_).symm
   obtain⟨⟨h1,h2,h3,h4,h5,h6⟩,⟨h7,h8,h9⟩,h10,h11,h12⟩:=(bV k).1 h
   have h4b: ((k.held.length:Int)≤6):=by omega
   have h6b: ((k.inbox.length:Int)≤6):=by omega
   simp only[gb,gX,h1,h7,h8,h9,h5,h4b,h6b,h2.1,h2.2,h3.1,h3.2,decide_true,Bool.and_true,Bool.not_true,Bool.or_false] at c42
   cases c42
 have hf: (eB k.id=true∧(0≤k.time∧k.time≤999)∧(1≤k.next∧k.next≤100)∧k.held.length≤6∧k.marks.length≤12∧k.inbox.length≤6)∧jO k.held=true∧nR k.marks=true∧jO k.inbox=true:=by
  simp only[gb,gX,Bool.or_eq_false_iff,Bool.not_eq_false,decide_eq_false_iff_not,Bool.not_eq_eq_eq_not,Bool.not_false,aSg,decide_eq_true_eq] at c42
  obtain⟨⟨⟨⟨⟨q1,q2⟩,q3⟩,q4,q4b⟩,q5,q5b⟩,q6,q6b⟩:=c42
  exact⟨⟨q1,q2,q3,by omega,by omega,by omega⟩,q4b,q5b,q6b⟩
 obtain⟨⟨f1,f2,f3,f4,f5,f6⟩,hg3⟩:=hf
 refine sk (sq (sq (rT [1,3,61,62,63,64,65,68,69,70,71,72,73,74,75,76,77,78,79,82,83,84,85,86,87,88,89,109,110,111,112,113,114,115,116,117,118,119,120,140,141,142,143,144,145,146,147,148,149,150,151,154,155,156,157,158,159,160,161,162,163,164,165,166,167,168] (s1 (bk (SW.loopW (n:=k.held.length) (fun n q=> ∃i:Nat,n=k.held.length - i∧i≤k.held.length∧(∀j,j<i→vG k j=true)∧q=[tP 1 1,tI 3 (i:Nat),oB 1 26 [.d (.i k.id),.d (.i k.time),.d (.i k.next),.d (.sl (aE k.held)),.d (.sl (aL k.marks)),.d (.sl (aE k.inbox))]]) ?_ ?_))))))
 · refine wq (σ':=[tP 1 1,tI 3 (0:Nat),oB 1 26 [.d (.i k.id),.d (.i k.time),.d (.i k.next),.d (.sl (aE k.held)),.d (.sl (aL k.marks)),.d (.sl (aE k.inbox))]]) [] [] (⟨0,rfl,aSj _,fun j h=>absurd h (by omega),rfl⟩) ?_
   repeat' apply ai
   all_goals first|exact qx|(rw[aA];done)|rfl|exact qz
 rintro n s ⟨i,rfl,hi,hk,rfl⟩
 refine sq (sq (rT [1,3,47,61,62,63,64,65,68,69,70,71,72,73,74,75,76,77,78,79,82,83,84,85,86,87,88,89,109,110,111,112,113,114,115,116,117,118,119,120,140,141,142,143,144,145,146,147,148,149,150,151,154,155,156,157,158,159,160,161,162,163,164,165,166,167,168] (s5 (cd rfl (fun c47=> ?_) fun c47=> ?_))))
 · have hi2:i<k.held.length:=by simpa[aA] using c47
   have hg:=aQ (l:=k.held) hi2
   refine sk (sq (bk (sq (rT [1,3,4,61,62,63,64,65,68,69,70,71,72,73,74,75,76,77,78,79,82,83,84,85,86,87,88,89,109,110,111,112,113,114,115,116,117,118,119,120,140,141,142,143,144,145,146,147,148,149,150,151,154,155,156,157,158,159,160,161,162,163,164,165,166,167,168] (s3 (ai (by rw[aSd,hg];exact⟨⟨by omega,by rw[aA];omega⟩,rfl⟩) (ai (by rw[aSd,hg];exact⟨aSf rfl,rfl⟩) (s2 (sq (wa [tP 1 1,tI 3 (i:Nat),oB 1 26 [.d (.i k.id),.d (.i k.time),.d (.i k.next),.d (.sl (aE k.held)),.d (.sl (aL k.marks)),.d (.sl (aE k.inbox))],tP 4 4,oB 4 29 [.d (.i (k.held.getD i .zero).frm),.d (.i (k.held.getD i .zero).num),.d (.i (k.held.getD i .zero).to),.d (.i (k.held.getD i .zero).til),.d (.s (k.held.getD i .zero).text)]] [] [] ?_ ?_))))))))))
   · repeat' apply ai
     all_goals first|exact qx|(rw[aSd,hg];rfl)|exact qz
   refine rT [1,3,61,62,63,64,65,68,69,70,71,72,73,74,75,76,77,78,79,82,83,84,85,86,87,88,89,90,109,110,111,112,113,114,115,116,117,118,119,120,140,141,142,143,144,145,146,147,148,149,150,151,154,155,156,157,158,159,160,161,162,163,164,165,166,167,168] (s6 (y3 (xc (fun h=>(ut (k.held.getD i .zero) k.id)) (ai rfl (ai rk ?_)))))
   refine y1 (ai pk (s1 (y4 (y4 (y3 (ai (fun h=>pk) (ai rk (ai pk (s1 (y4 (y2 (xc (fun h=>(mR k.marks _ _ (by omega))) (ai rfl (ai rk ?_))))))))))))))
   refine y1 (ai pk (cd rfl (fun c90=> ?_) fun c90=> ?_))
   · refine sq (rT [2] (s1 (rt (bQ rfl (congrArg D.b ?_)))))
     refine(mY fun h=> ?_).symm
     obtain⟨⟨h1,h2,h3,h4,h5,h6⟩,⟨h7,h8,h9⟩,h10,h11,h12⟩:=(bV k).1 h
     rw[gA hi2 (wY ((or4 _ _ _ _).trans c90))] at h10
     cases h10
   refine sk (rT [1,3,61,62,63,64,65,68,69,70,71,72,73,74,75,76,77,78,79,82,83,84,85,86,87,88,89,109,110,111,112,113,114,115,116,117,118,119,120,140,141,142,143,144,145,146,147,148,149,150,151,154,155,156,157,158,159,160,161,162,163,164,165,166,167,168] (s3 ?_))
   have hs:vG k i=true:=wY ((or4 _ _ _ _).trans c90)
   refine wq [] [] (⟨k.held.length - (i+1),by omega,i+1,rfl,by omega,fun j h=>by by_cases e:j=i;exact e▸hs;exact hk j (by omega),rfl⟩) ?_
   repeat' apply ai
   all_goals first|exact qx|exact congrArg D.i (aF (by omega))|exact qz
 have hiA:i=k.held.length:=by simp[aA] at c47;omega
 have hkA:=hk
 clear hk hi
 refine xt (sq (sq (rT [1,5,109,110,111,112,113,114,115,116,117,118,119,120,140,141,142,143,144,145,146,147,148,149,150,151,154,155,156,157,158,159,160,161,162,163,164,165,166,167,168] (s1 (bk (SW.loopW (n:=k.marks.length) (fun n q=> ∃i:Nat,n=k.marks.length - i∧i≤k.marks.length∧(∀j,j<i→zH k j=true)∧q=[tP 1 1,tI 5 (i:Nat),oB 1 26 [.d (.i k.id),.d (.i k.time),.d (.i k.next),.d (.sl (aE k.held)),.d (.sl (aL k.marks)),.d (.sl (aE k.inbox))]]) ?_ ?_))))))
 · refine wq (σ':=[tP 1 1,tI 5 (0:Nat),oB 1 26 [.d (.i k.id),.d (.i k.time),.d (.i k.next),.d (.sl (aE k.held)),.d (.sl (aL k.marks)),.d (.sl (aE k.inbox))]]) [] [] (⟨0,rfl,aSj _,fun j h=>absurd h (by omega),rfl⟩) ?_
   repeat' apply ai
   all_goals first|exact qx|(rw[aB];done)|rfl|exact qz
 rintro n s ⟨i,rfl,hi,hk,rfl⟩
 refine sq (sq (rT [1,5,95,109,110,111,112,113,114,115,116,117,118,119,120,140,141,142,143,144,145,146,147,148,149,150,151,154,155,156,157,158,159,160,161,162,163,164,165,166,167,168] (s5 (cd rfl (fun c95=> ?_) fun c95=> ?_))))
 · have hi2:i<k.marks.length:=by simpa[aB] using c95
   have hg:=bR (l:=k.marks) hi2
   refine sk (sq (bk (sq (rT [1,5,6,109,110,111,112,113,114,115,116,117,118,119,120,140,141,142,143,144,145,146,147,148,149,150,151,154,155,156,157,158,159,160,161,162,163,164,165,166,167,168] (s3 (ai (by rw[aSd,hg];exact⟨⟨by omega,by rw[aB];omega⟩,rfl⟩) (ai (by rw[aSd,hg];exact⟨aSf rfl,rfl⟩) (s2 (sq (wa [tP 1 1,tI 5 (i:Nat),oB 1 26 [.d (.i k.id),.d (.i k.time),.d (.i k.next),.d (.sl (aE k.held)),.d (.sl (aL k.marks)),.d (.sl (aE k.inbox))],tP 6 6,oB 6 39 [.d (.i (k.marks.getD i .zero).frm),.d (.i (k.marks.getD i .zero).num),.d (.i (k.marks.getD i .zero).til)]] [] [] ?_ ?_))))))))))
   · repeat' apply ai
     all_goals first|exact qx|(rw[aSd,hg];rfl)|exact qz
   refine rT [1,5,109,110,111,112,113,114,115,116,117,118,119,120,121,140,141,142,143,144,145,146,147,148,149,150,151,154,155,156,157,158,159,160,161,162,163,164,165,166,167,168] (s6 (y4 (y4 (y3 (ai (fun h=>pk) (ai rk (ai pk (cd rfl (fun c121=> ?_) fun c121=> ?_))))))))
   · refine sq (rT [2] (s1 (rt (bQ rfl (congrArg D.b ?_)))))
     refine(mY fun h=> ?_).symm
     obtain⟨⟨h1,h2,h3,h4,h5,h6⟩,⟨h7,h8,h9⟩,h10,h11,h12⟩:=(bV k).1 h
     rw[gA hi2 (wZ ((or2 _ _).trans c121))] at h11
     cases h11
   refine sk (rT [1,5,109,110,111,112,113,114,115,116,117,118,119,120,140,141,142,143,144,145,146,147,148,149,150,151,154,155,156,157,158,159,160,161,162,163,164,165,166,167,168] (s3 ?_))
   have hs:zH k i=true:=wZ ((or2 _ _).trans c121)
   refine wq [] [] (⟨k.marks.length - (i+1),by omega,i+1,rfl,by omega,fun j h=>by by_cases e:j=i;exact e▸hs;exact hk j (by omega),rfl⟩) ?_
   repeat' apply ai
   all_goals first|exact qx|exact congrArg D.i (aF (by omega))|exact qz
 have hiB:i=k.marks.length:=by simp[aB] at c95;omega
 have hkB:=hk
 clear hk hi
 refine xt (sq (sq (rT [1,7,140,141,142,143,144,145,146,147,148,149,150,151,154,155,156,157,158,159,160,161,162,163,164,165,166,167,168] (s1 (bk (SW.loopW (n:=k.inbox.length) (fun n q=> ∃i:Nat,n=k.inbox.length - i∧i≤k.inbox.length∧(∀j,j<i→uK k j=true)∧q=[tP 1 1,tI 7 (i:Nat),oB 1 26 [.d (.i k.id),.d (.i k.time),.d (.i k.next),.d (.sl (aE k.held)),.d (.sl (aL k.marks)),.d (.sl (aE k.inbox))]]) ?_ ?_))))))
 · refine wq (σ':=[tP 1 1,tI 7 (0:Nat),oB 1 26 [.d (.i k.id),.d (.i k.time),.d (.i k.next),.d (.sl (aE k.held)),.d (.sl (aL k.marks)),.d (.sl (aE k.inbox))]]) [] [] (⟨0,rfl,aSj _,fun j h=>absurd h (by omega),rfl⟩) ?_
   repeat' apply ai
   all_goals first|exact qx|(rw[aA];done)|rfl|exact qz
 rintro n s ⟨i,rfl,hi,hk,rfl⟩
 refine sq (sq (rT [1,7,126,140,141,142,143,144,145,146,147,148,149,150,151,154,155,156,157,158,159,160,161,162,163,164,165,166,167,168] (s5 (cd rfl (fun c126=> ?_) fun c126=> ?_))))
 · have hi2:i<k.inbox.length:=by simpa[aA] using c126
   have hg:=aQ (l:=k.inbox) hi2
   refine sk (sq (bk (sq (rT [1,7,8,140,141,142,143,144,145,146,147,148,149,150,151,154,155,156,157,158,159,160,161,162,163,164,165,166,167,168] (s3 (ai (by rw[aSd,hg];exact⟨⟨by omega,by rw[aA];omega⟩,rfl⟩) (ai (by rw[aSd,hg];exact⟨aSf rfl,rfl⟩) (s2 (sq (wa [tP 1 1,tI 7 (i:Nat),oB 1 26 [.d (.i k.id),.d (.i k.time),.d (.i k.next),.d (.sl (aE k.held)),.d (.sl (aL k.marks)),.d (.sl (aE k.inbox))],tP 8 8,oB 8 29 [.d (.i (k.inbox.getD i .zero).frm),.d (.i (k.inbox.getD i .zero).num),.d (.i (k.inbox.getD i .zero).to),.d (.i (k.inbox.getD i .zero).til),.d (.s (k.inbox.getD i .zero).text)]] [] [] ?_ ?_))))))))))
   · repeat' apply ai
     all_goals first|exact qx|(rw[aSd,hg];rfl)|exact qz
   refine rT [1,7,140,141,142,143,144,145,146,147,148,149,150,151,154,155,156,157,158,159,160,161,162,163,164,165,166,167,168,169] (s6 (y4 (y4 (y3 (ai (fun h=>pk) (ai rk (ai pk (s1 (y4 (y4 (y4 (xc (fun h=>(mR k.marks _ _ (by omega))) (ai rfl (ai rk ?_))))))))))))))
   refine y1 (ai (fun h=>pk) (ai rk (ai pk (cd rfl (fun c169=> ?_) fun c169=> ?_))))
   · refine sq (rT [2] (s1 (rt (bQ rfl (congrArg D.b ?_)))))
     refine(mY fun h=> ?_).symm
     obtain⟨⟨h1,h2,h3,h4,h5,h6⟩,⟨h7,h8,h9⟩,h10,h11,h12⟩:=(bV k).1 h
     rw[gA hi2 (uM ((or3 _ _ _).trans c169))] at h12
     cases h12
   refine sk (rT [1,7,140,141,142,143,144,145,146,147,148,149,150,151,154,155,156,157,158,159,160,161,162,163,164,165,166,167,168] (s3 ?_))
   have hs:uK k i=true:=uM ((or3 _ _ _).trans c169)
   refine wq [] [] (⟨k.inbox.length - (i+1),by omega,i+1,rfl,by omega,fun j h=>by by_cases e:j=i;exact e▸hs;exact hk j (by omega),rfl⟩) ?_
   repeat' apply ai
   all_goals first|exact qx|exact congrArg D.i (aF (by omega))|exact qz
 have hiC:i=k.inbox.length:=by simp[aA] at c126;omega
 refine xt (sq (rT [2] (s1 (rt (bQ rfl (congrArg D.b ?_))))))
 refine((bV k).2 ⟨⟨f1,f2,f3,f4,f5,f6⟩,hg3,iR ?_,iR ?_,iR ?_⟩).symm
 · rw[← hiA];exact hkA
 · rw[← hiB];exact hkB
 rw[← hiC];exact hk
theorem sQ (n:Nat) (hn:n≤1000000000):Sp 35 1 [tI 0 (n:Nat)] [tD 0 (.s (jQ n))]:=by
 induction n using Nat.strongRecOn
 rename_i n ih
 refine sb Tryz.func35 rfl (sq (rT [0] (s1 (sq (sq (rT [0,4] (s2 (cd rfl (fun c4=> ?_) fun c4=> ?_))))))))
 · simp at c4
   omega
 refine sk (sq (sq (rT [0,6] (s2 (cd rfl (fun c6=> ?_) fun c6=> ?_)))))
 · simp at c6
   omega
 refine sk (sq (sq (rT [0,12] (s2 (cd rfl (fun c12=> ?_) fun c12=> ?_)))))
 · have h10:n<10:=by simp at c12;omega
   refine sq (rT [2] (s3 (ai (by exact⟨by simp,aSf rfl⟩) (ai (by exact⟨rfl,congrArg (fun r=>[r]) (za _)⟩) (s1 (rt (bQ rfl (congrArg D.s ?_))))))))
   rw[lO h10,← aBz h10]
   rfl
 have h10: ¬n<10:=by simp at c12;omega
 have hq:wrap64 (Int.tdiv (n:Int) 10)=((n / 10:Nat):Int):=by rw[Int.tdiv_eq_ediv_of_nonneg (by omega),aF (by omega)];omega
 have hr:Int.tmod (n:Int) 10=((n % 10:Nat):Int):=by rw[Int.tmod_eq_emod_of_nonneg (by omega)];omega
 have hdl:=aGq (n / 10)
 refine sk (sq (rD [2] (s1 (ai (by omega) (xp (ih (n / 10) (by omega) (by omega)) (ai (by rw[hq];rfl) ?_))))))
 refine s1 (ai (by omega) (s2 (ai (by exact⟨by simp,aSf rfl⟩) (ai (by exact⟨rfl,congrArg (fun r=>[r]) (za _)⟩) (ai (by show _≤9223372036854775807;simp only[iJ,List.length_map,aSi,aSh];omega) (s1 (ai (by kernel_rfl) (rt (bQ rfl (congrArg D.s ?_))))))))))
 refine Eq.trans ?_ (sI (by omega)).symm
 rw[hr,← aBz (Nat.mod_lt n (by decide))]
 rfl
theorem sm (s:List UInt8) (hl:s.length≤140737488355328):Sp 79 1 [tD 0 (.s s)] [tV 0 (.tup [.c (.d (.i (match kI s with|some n=>(n:Int)|none=>0))),.c (.d (.b (kI s).isSome))])]:=by
 refine sb Tryz.func79 rfl (sq (rT [0,11,12,13,14,15,16,17,18] (s2 (sq (sq (rT [0,19] (s2 (xp (jF _ _ _) (ai rfl ?_)))))))))
 refine s2 (y1 (ai (fun h=>(by have h9:=h;simp[gb,gX] at h9;exact⟨by omega,by omega⟩)) (ai rk (y4 (y1 (ai (fun h=>pk) (ai rk (ai pk (cd rfl (fun c19=> ?_) fun c19=> ?_)))))))))
 · refine sq (rT [2,3] (s2 (rt ?_)))
   have hno:kI s=none:=by
    unfold kI
    rw[if_neg]
    rintro⟨h1,h2,h3⟩
    have h4:gX (s.length:Int) 1 5=true:=by simp only[gX,aSg,decide_eq_true_eq];omega
    rw[h4] at c19
    simp only[Bool.not_true,Bool.false_or,aSg,beq_iff_eq,decide_eq_true_eq] at c19
    refine h2 ⟨UInt8.toNat_inj.1 ?_,by omega⟩
    have h5: ((s.getD 0 0).toNat:Int)=48:=c19.1
    have h6: (48:UInt8).toNat=48:=rfl
    omega
   refine bN rfl rfl ?_
   rw[hno]
   rfl
 have hL: (1≤s.length∧s.length≤5)∧ ¬(s.getD 0 0=48∧1<s.length):=by
  by_cases h1:1≤s.length∧s.length≤5
  · refine⟨h1,fun h2=> ?_⟩
    have h3: (((s.getD (Int.toNat 0) 0).toNat:Int)==48)=true:=by rw[show Int.toNat 0=0 from rfl,h2.1];rfl
    have h4:decide ((s.length:Int)>1)=true:=decide_eq_true (by omega)
    rw[h3,h4] at c19
    simp at c19
  · have h3:gX (s.length:Int) 1 5=false:=by
     cases h:gX (s.length:Int) 1 5 with
     |false=>rfl
     |true=>simp only[gX,aSg,decide_eq_true_eq] at h;omega
    rw[h3] at c19
    simp at c19
 refine sk (sq (rT [0,4] (s1 (sq (sq (rT [0,4,5] (s1 (bk (SW.loopW (n:=s.length) (fun m q=> ∃i:Nat,m=s.length - i∧i≤s.length∧(∀k,k<i→fY (s.getD k 0)=true)∧q=[tD 0 (.s s),tI 4 (oC (s.take (i)):Nat),tI 5 (i:Nat)]) ?_ ?_)))))))))
 · refine wq (σ':=[tD 0 (.s s),tI 4 (oC (s.take (0)):Nat),tI 5 (0:Nat)]) [] [] (⟨0,rfl,aSj _,fun k h=>absurd h (by omega),rfl⟩) ?_
   repeat' apply ai
   all_goals first|exact qx|(simp[oC];done)|exact qz
 rintro n s ⟨i,rfl,hi,hk,rfl⟩
 refine sq (sq (rT [0,4,5,23] (s4 (cd rfl (fun c23=> ?_) fun c23=> ?_))))
 · have hi2:i<s.length:=by simpa using c23
   have hb8:=jC s i
   have hw:wrap64 ((s.getD ((i:Nat):Int).toNat 0).toNat:Int)=iB s i:=aF (by unfold iB at hb8;rw[aSd];omega)
   have hvb:=jw hk hi (by omega)
   refine sk (sq (bk (sq (sq (rT [0,4,5,31] (s2 (ai (by exact⟨by omega,by omega⟩) (s1 (xp (jF _ _ _) (ai rfl ?_))))))))))
   refine s1 (cd rfl (fun c31=> ?_) fun c31=> ?_)
   · refine sq (rT [2,3] (s2 (rt ?_)))
     have hno:kI s=none:=by
      unfold kI
      rw[if_neg]
      rintro⟨h1,h2,h3⟩
      have h9:=c31
      rw[hw,← px] at h9
      have hs:fY (s.getD i 0)=false:=by simpa using h9
      rw[pw hi2 hs] at h3
      cases h3
     refine bN rfl rfl ?_
     rw[hno]
     rfl
   refine sk (rT [0,4,5] (s4 (ai (by exact⟨by omega,by omega⟩) (s4 (rT [0,4,5] (s3 ?_))))))
   have hs:fY (s.getD i 0)=true:=by
    have h9:=c31
    rw[hw,← px] at h9
    simpa using h9
   refine wq [] [] (⟨s.length - (i+1),by omega,i+1,rfl,by omega,fun k h=>by by_cases e:k=i;exact e▸hs;exact hk k (by omega),rfl⟩) ?_
   repeat' apply ai
   all_goals first|exact qx|(rw[aSd];exact congrArg D.i (aB0 hi2 hs rfl (by omega)).1)|exact congrArg D.i (aF (by omega))|exact qz
 have hi3:i=s.length:=by simp at c23;omega
 refine xt (sq (rT [2,3] (s3 (rt ?_))))
 have hyes:kI s=some (oC s):=by
  unfold kI
  rw[if_pos ⟨hL.1,hL.2,xb (hi3▸hk)⟩]
 refine bN rfl rfl ?_
 rw[hyes,hi3,aSv]
 rfl
theorem sR (s:List UInt8) (hl:s.length≤140737488355328):Sp 68 1 [tD 0 (.s s)] [tI 0 (fS s)]:=by
 refine sb Tryz.func68 rfl (sq (rT [0,9,10,11,24,25,26,27] (s1 (sq (sq (rT [0,12,24,25,26,27] (s4 (y3 (ai pk (cd rfl (fun c12=> ?_) fun c12=> ?_))))))))))
 · have hL: ¬(1≤s.length∧s.length≤4):=by simp[gb] at c12;omega
   refine sq (rT [2] (s1 (rt (bQ rfl (congrArg D.i ?_)))))
   unfold fS
   rw[if_neg]
   rintro⟨h1,h2,h3⟩
   exact hL h1
 have hL:1≤s.length∧s.length≤4:=by
  simp only[Bool.or_eq_false_iff,decide_eq_false_iff_not] at c12
  omega
 refine sk (sq (rT [0,3,24,25,26,27] (s1 (sq (sq (rT [0,3,4,24,25,26,27] (s1 (bk (SW.loopW (n:=s.length) (fun m q=> ∃i:Nat,m=s.length - i∧i≤s.length∧(∀k,k<i→fY (s.getD k 0)=true)∧q=[tD 0 (.s s),tI 3 (oC (s.take (i)):Nat),tI 4 (i:Nat)]) ?_ ?_)))))))))
 · refine wq (σ':=[tD 0 (.s s),tI 3 (oC (s.take (0)):Nat),tI 4 (0:Nat)]) [] [] (⟨0,rfl,aSj _,fun k h=>absurd h (by omega),rfl⟩) ?_
   repeat' apply ai
   all_goals first|exact qx|(simp[oC];done)|exact qz
 rintro n s ⟨i,rfl,hi,hk,rfl⟩
 refine sq (sq (rT [0,3,4,16,24,25,26,27] (s4 (cd rfl (fun c16=> ?_) fun c16=> ?_))))
 · have hi2:i<s.length:=by simpa using c16
   have hvb:=jw hk hi (by omega)
   refine sk (sq (bk (sq (sq (rT [0,3,4,24,25,26,27,28] (s2 (ai (by exact⟨by omega,by omega⟩) (s2 (y2 (ai (fun h=>(by exact⟨by omega,by omega⟩)) (ai rk (y1 (ai pk (cd rfl (fun c28=> ?_) fun c28=> ?_))))))))))))))
   · refine sq (rT [2] (s1 (rt (bQ rfl (congrArg D.i ?_)))))
     unfold fS
     rw[if_neg]
     rintro⟨h1,h2,h3⟩
     have hs:fY (s.getD i 0)=false:=by
      have h9:=c28
      rw[aSd] at h9
      simp[gb] at h9
      simp[fY];omega
     rw[pw hi2 hs] at h2
     cases h2
   refine sk (rT [0,3,4,24,25,26,27] (s4 (ai (by exact⟨by omega,by omega⟩) (s4 (rT [0,3,4,24,25,26,27] (s3 ?_))))))
   have hs:fY (s.getD i 0)=true:=by
    have h9:=c28
    rw[aSd] at h9
    simp[gb] at h9
    simp[fY];omega
   refine wq [] [] (⟨s.length - (i+1),by omega,i+1,rfl,by omega,fun k h=>by by_cases e:k=i;exact e▸hs;exact hk k (by omega),rfl⟩) ?_
   repeat' apply ai
   all_goals first|exact qx|(rw[aSd];exact congrArg D.i (aB0 hi2 hs rfl (by omega)).2)|exact congrArg D.i (aF (by omega))|exact qz
 have hi3:i=s.length:=by simp at c16;omega
 have hvb:=jw hk hi (by omega)
 refine xt (sq (sq (rT [3,40] (s1 (xp (sQ (oC (s.take i)) (by omega)) (ai rfl ?_))))))
 refine s2 (cd rfl (fun c40=> ?_) fun c40=> ?_)
 · refine sq (rT [2] (s1 (rt (bQ rfl (congrArg D.i ?_)))))
   unfold fS
   rw[if_neg]
   rintro⟨h1,h2,h3⟩
   rw[hi3,aSv,h3] at c40
   simp at c40
 refine sk (sq (rT [2] (s2 (rt (bQ rfl (congrArg D.i ?_))))))
 rw[hi3,aSv] at c40
 unfold fS
 rw[if_pos ⟨hL,xb (hi3▸hk),by simpa using c40⟩,hi3,aSv]
set_option maxHeartbeats 800000 in
theorem uu (s:List UInt8) (hl:s.length≤1000000):Sp 131 1 [tD 0 (.s s)] [tV 0 (.tup [.c (.d (.s (aHz s))),.c (.d (.i (zc s:Nat)))])]:=by
 refine sb Tryz.func131 rfl (sq (rT [0,11,12,27,28,31,32,33,34,35,36,37,40,41,42,43,44,45,46] (s2 (sq (sq (rT [0,4,11,12,27,28,31,32,33,34,35,36,37,40,41,42,43,44,45,46] (s1 (bk (SW.loopW (n:=3) (fun m q=> ∃i:Nat,m=3 - i∧(i≤s.length∧i≤3)∧(∀j,j<i→s.getD j 0≠58)∧q=[tD 0 (.s s),tI 4 (i:Nat)]) ?_ ?_)))))))))
 · exact wq (σ':=[tD 0 (.s s),tI 4 (0:Nat)]) [] [] (⟨0,rfl,⟨aSj _,by omega⟩,fun j h=>absurd h (by omega),rfl⟩) qz
 rintro n s ⟨i,rfl,hi,hk,rfl⟩
 refine sq (sq (rT [0,4,11,12,13,27,28,31,32,33,34,35,36,37,40,41,42,43,44,45,46] (s5 (y2 (ai pk (cd rfl (fun c13=> ?_) fun c13=> ?_))))))
 · have hi2:i<s.length∧i<3:=by simp only[aSg,decide_eq_true_eq] at c13;omega
   refine sk (sq (bk (sq (sq (rT [0,4,11,12,19,27,28,31,32,33,34,35,36,37,40,41,42,43,44,45,46] (s2 (ai (by exact⟨by omega,by omega⟩) (s1 (cd rfl (fun c19=> ?_) fun c19=> ?_)))))))))
   · refine xt (rT [0,4,11,12,27,28,31,32,33,34,35,36,37,40,41,42,43,44,45,46] (s3 ?_))
     have hs:s.getD i 0≠58:=by
      have h9:=c19
      rw[aSd] at h9
      intro e
      rw[e] at h9
      exact absurd h9 (by decide)
     refine wq [] [] (⟨3 - (i+1),by omega,i+1,rfl,⟨by omega,by omega⟩,fun j h=>by by_cases e:j=i;exact e▸hs;exact hk j (by omega),rfl⟩) ?_
     repeat' apply ai
     all_goals first|exact qx|exact congrArg D.i (aF (by omega))|exact qz
   have hcol:bb s=some i:=by
    refine aEw hi2.2 hi2.1 ?_ hk
    have h9:=c19
    rw[aSd] at h9
    have h10: ((s.getD i 0).toNat:Int)=58:=by simpa only[bne_eq_false_iff_eq] using h9
    apply UInt8.toNat_inj.1
    have h6: (58:UInt8).toNat=58:=rfl
    omega
   have hv:=xA (s.take i)
   have hra:=aKv hcol
   refine sk (sq (rT [0,4,5,27,28,31,32,33,34,35,36,37,40,41,42,43,44,45,46] (s2 (ai (by simp[bnd,fE,gF];omega) (xp (sR (s.take i) (by rw[aSk];omega)) (ai rfl ?_))))))
   refine s1 (sq (sq (rT [0,4,5,47] (s3 (y2 (ai pk (s1 (y4 (y3 (ai pk (s1 (y4 (y1 (ai (fun h=>(by have h9:=h;simp only[gb,aSg,Bool.not_eq_true',Bool.or_eq_false_iff,decide_eq_false_iff_not] at h9;rw[aF (n:=(i:Int)+2) (by omega),aF (n:=(i:Int)+2+fS (s.take i)) (by omega)] at h9;rw[aF (n:=(i:Int)+1) (by omega),aF (n:=(i:Int)+1+fS (s.take i)) (by omega)];omega)) (ai rk (y1 (ai pk (cd rfl (fun c47=> ?_) fun c47=> ?_))))))))))))))))))
   · refine sq (rT [2,3] (s2 (rt ?_)))
     have hno:lW s=none:=by
      rw[hra,if_neg]
      rintro⟨p1,p2,p3,p4⟩
      have h9:=c47
      rw[aF (n:=(i:Int)+2) (by omega),aF (n:=(i:Int)+2+fS (s.take i)) (by omega),aF (n:=(i:Int)+1) (by omega),aF (n:=(i:Int)+1+fS (s.take i)) (by omega),show((i:Int)+1+fS (s.take i)).toNat=i+1+(fS (s.take i)).toNat by omega,p4] at h9
      simp at h9
      omega
     refine bN rfl rfl ?_
     rw[aHz,zc,hno]
     rfl
   have hok:1≤fS (s.take i)∧fS (s.take i)≤60∧i+2+(fS (s.take i)).toNat≤s.length∧s.getD (i+1+(fS (s.take i)).toNat) 0=59:=by
    have h9:=c47
    rw[aF (n:=(i:Int)+2) (by omega),aF (n:=(i:Int)+2+fS (s.take i)) (by omega),aF (n:=(i:Int)+1) (by omega),aF (n:=(i:Int)+1+fS (s.take i)) (by omega)] at h9
    simp only[Bool.or_eq_false_iff,decide_eq_false_iff_not,bne_eq_false_iff_eq] at h9
    obtain⟨⟨⟨p1,p2⟩,p3⟩,p4⟩:=h9
    rw[show((i:Int)+1+fS (s.take i)).toNat=i+1+(fS (s.take i)).toNat by omega] at p4
    refine⟨by omega,by omega,by omega,UInt8.toNat_inj.1 ?_⟩
    have h6: (59:UInt8).toNat=59:=rfl
    omega
   refine sk (sq (rT [2,3] (s7 (ai (by rw[aF (n:=(i:Int)+1) (by omega),aF (n:=(i:Int)+1+fS (s.take i)) (by omega)];simp[bnd,fE,gF];omega) (s6 (rt ?_))))))
   have hyes:=hra.trans (if_pos hok)
   refine bN rfl rfl ?_
   rw[aHz,zc,hyes]
   rw[aF (n:=(i:Int)+1) (by omega),aF (n:=(i:Int)+1+fS (s.take i)) (by omega),aF (n:=(i:Int)+2) (by omega),aF (n:=(i:Int)+2+fS (s.take i)) (by omega)]
   have e1: ((i:Int)+1).toNat=i+1:=by omega
   have e2: ((i:Int)+1+fS (s.take i)).toNat=i+1+(fS (s.take i)).toNat:=by omega
   have e3: (i:Int)+2+fS (s.take i)=((i+2+(fS (s.take i)).toNat:Nat):Int):=by omega
   rw[e3]
   show V.tup [.c (.d (.s (List.drop ((i:Int)+1).toNat (List.take ((i:Int)+1+fS (s.take i)).toNat s)))),_]=_
   rw[e1,e2]
 have hi3:i=3∨i=s.length:=by
  by_cases h3:i<3
  · right;have h4:decide ((i:Int)<3)=true:=decide_eq_true (by omega)
    rw[h4,Bool.and_true,decide_eq_false_iff_not] at c13;omega
  · left;omega
 refine xt (sq (rT [2,3] (s2 (rt ?_))))
 have hno:lW s=none:=by
  exact tz (zd fun j h3 hjl=>hk j (by omega))
 refine bN rfl rfl ?_
 rw[aHz,zc,hno]
 rfl
set_option maxHeartbeats 800000 in
theorem ku (s:List UInt8) (hl:s.length≤1000000):Sp 115 1 [tD 0 (.s s)] [tV 0 (.tup [.c (.own 0 (dB s).1.length),.c (.d (.i ((dB s).2:Nat)))]),oR 0 9 1 (bL (dB s).1)]:=by
 refine sb Tryz.func115 rfl (sq (rT [0] (s2 (sq (rT [0,4] (s2 (sq (rT [0,4,5] (s1 (sq (bk (SW.loopW (n:=s.length) (fun m q=> ∃(a:Nat) (o:List (List UInt8)),m=s.length - a∧(a≤s.length∧o.length≤a)∧(o++(dB (s.drop a)).1=(dB s).1∧a+(dB (s.drop a)).2=(dB s).2)∧q=[tD 0 (.s s),tO 4 8 (o).length,tI 5 (a:Nat),oR 8 9 1 (bL (o))]) ?_ ?_))))))))))))
 · refine wq (σ':=[tD 0 (.s s),tO 4 8 ([]).length,tI 5 (0:Nat),oR 8 9 1 (bL ([]))]) [] [] (⟨0,[],rfl,⟨aSj _,by simp⟩,⟨rfl,by rw[List.drop_zero,Nat.zero_add]⟩,rfl⟩) ?_
   repeat' apply ai
   all_goals first|exact qx|rfl|exact qz
 rintro n s ⟨a,o,rfl,ha,hr,rfl⟩
 refine sq (sq (rT [0,4,5,12] (s4 (cd rfl (fun c12=> ?_) fun c12=> ?_))))
 · have ha2:a<s.length:=by simpa using c12
   refine sk (bk (sq (rT [0,4,5,6,7] (s2 (ai (by simp[bnd,fE,gF];omega) (xp (uu (s.drop a) (by rw[aSr];omega)) (ai (by show _=eH 0 [Dv (.s (List.drop ((a:Int)).toNat (List.take s.length s)))];rw[aSd,aSv];rfl) ?_)))))))
   refine s5 (sq (sq (rT [0,4,5,6,7,21] (s2 (cd rfl (fun c21=> ?_) fun c21=> ?_)))))
   · have hz:lW (s.drop a)=none:=by
      refine xd.1 ?_
      have h9: ((zc (s.drop a):Nat):Int)=0:=by simpa using c21
      omega
     rw[kO hz,List.append_nil,Nat.add_zero] at hr
     refine sq (rT [2,3] (s4 (rt ?_)))
     rw[← hr.1,← hr.2]
     exact eE _ [(0,8)] [] rfl ⟨⟨_,rfl,⟨rfl,rfl,_,_,_,rfl⟩,rfl,trivial⟩,bT rfl rfl trivial⟩ rfl rfl
   obtain⟨r,n,hra⟩: ∃r n,lW (s.drop a)=some (r,n):=by
    cases h:lW (s.drop a) with
    |none=>
     rw[xd.2 h] at c21
     exact absurd c21 (by decide)
    |some p=>exact⟨p.1,p.2,rfl⟩
   have hS:aHz (s.drop a)=r:=by rw[aHz,hra]
   have hN:zc (s.drop a)=n:=by rw[zc,hra]
   have hrs:=qB hra
   rw[aSr] at hrs
   refine sk (sq (rT [0,4,5,7] (s3 (ai (by refine⟨rfl,aU _,by simp,?_⟩;show(_+1)*16≤_;omega) (s1 (rT [0,4,5] (s4 ?_)))))))
   have hstep:=tN hra
   rw[List.drop_drop] at hstep
   rw[hstep] at hr
   refine wq [] [] (⟨s.length - (a+n),by omega,a+n,o++[r],rfl,⟨by omega,by rw[aSe];simp;omega⟩,⟨by rw[← hr.1,List.append_assoc];rfl,by rw[← hr.2];simp only;omega⟩,rfl⟩) ?_
   repeat' apply ai
   all_goals first|exact qx|(rw[aSe];done)|(refine congrArg D.i ?_;rw[hN,aF (by omega)];omega)|(rw[hS];exact iW _ _)|(simp[aU];done)|exact qz
 have ha3:a=s.length:=by simp at c12;omega
 have hd0:s.drop a=[]:=by rw[ha3];exact List.drop_length
 rw[hd0,kO vX,List.append_nil,Nat.add_zero] at hr
 refine xt (sq (rT [2,3] (s4 (rt ?_))))
 rw[← hr.1,← hr.2]
 exact eE _ [(0,8)] [] rfl ⟨⟨_,rfl,⟨rfl,rfl,_,_,_,rfl⟩,rfl,trivial⟩,bT rfl rfl trivial⟩ rfl rfl
end Go.Proofs.YtcbjphphppaoiaaGreatDoor
namespace Go.Proofs
open Int renaming toNat_natCast→aSd
open List renaming length_append→aSe,length_nil→aSh,length_cons→aSi,length_take→aSk,getD_eq_getElem?_getD→aSl,getElem?_eq_some_iff→aSm,getElem?_eq_getElem→aSn,range→aSp,mem_map→aSq,length_drop→aSr,mem_singleton→aSs,all_eq_true→aSu,take_length→aSv,mem_cons→aSw
open Nat renaming le_of_ble_eq_true→aSf,zero_le→aSj,le_refl→aSo,add_mul→aSt
open Bool renaming and_eq_true→aSg
open Go.Shelf
def Tryz.laysM171_ren:Go.Shelf.Ren:=⟨fun|171=>59|243=>93|246=>113|283=>127|284=>128|285=>129|286=>130|129=>142|317=>141|318=>143|319=>144|320=>145|337=>151|338=>152|n=>n,fun|3=>3|9=>9|2=>2|4=>4|171=>145|0=>0|53=>146|37=>22|5=>5|173=>149|212=>162|51=>163|20=>20|213=>164|46=>160|232=>192|233=>193|n=>n,fun|17=>1|18=>4|19=>5|n=>n⟩
theorem Tryz.laysM171:Go.Proofs.LaysM.n171 Tryz.prog Tryz.laysM171_ren:={
 mixed:=by kernel_rfl
 f129:=Tryz.func142.trans (congrArg some (by kernel_rfl))
 f171:=Tryz.func59.trans (congrArg some (by kernel_rfl))
 f243:=Tryz.func93.trans (congrArg some (by kernel_rfl))
 f246:=Tryz.func113.trans (congrArg some (by kernel_rfl))
 f283:=Tryz.func127.trans (congrArg some (by kernel_rfl))
 f284:=Tryz.func128.trans (congrArg some (by kernel_rfl))
 f285:=Tryz.func129.trans (congrArg some (by kernel_rfl))
 f286:=Tryz.func130.trans (congrArg some (by kernel_rfl))
 f317:=Tryz.func141.trans (congrArg some (by kernel_rfl))
 f318:=Tryz.func143.trans (congrArg some (by kernel_rfl))
 f319:=Tryz.func144.trans (congrArg some (by kernel_rfl))
 f320:=Tryz.func145.trans (congrArg some (by kernel_rfl))
 f337:=Tryz.func151.trans (congrArg some (by kernel_rfl))
 f338:=Tryz.func152.trans (congrArg some (by kernel_rfl))
 t0:=Tryz.underlying0
 a0:=Tryz.isAgg0
 z0:=Tryz.sizeOf0
 v0:=Tryz.zeroValue0
 t2:=Tryz.underlying2
 a2:=Tryz.isAgg2
 z2:=Tryz.sizeOf2
 v2:=Tryz.zeroValue2
 t3:=Tryz.underlying3
 a3:=Tryz.isAgg3
 z3:=Tryz.sizeOf3
 v3:=Tryz.zeroValue3
 t4:=Tryz.underlying4
 a4:=Tryz.isAgg4
 z4:=Tryz.sizeOf4
 v4:=Tryz.zeroValue4
 t5:=Tryz.underlying5
 a5:=Tryz.isAgg5
 z5:=Tryz.sizeOf5
 v5:=Tryz.zeroValue5
 t9:=Tryz.underlying9
 a9:=Tryz.isAgg9
 z9:=Tryz.sizeOf9
 v9:=Tryz.zeroValue9
 t20:=Tryz.underlying20
 a20:=Tryz.isAgg20
 z20:=Tryz.sizeOf20
 v20:=Tryz.zeroValue20
 t37:=Tryz.underlying22
 a37:=Tryz.isAgg22
 z37:=Tryz.sizeOf22
 v37:=Tryz.zeroValue22
 t46:=Tryz.underlying160
 a46:=Tryz.isAgg160
 z46:=Tryz.sizeOf160
 v46:=Tryz.zeroValue160
 t51:=Tryz.underlying163
 a51:=Tryz.isAgg163
 z51:=Tryz.sizeOf163
 v51:=Tryz.zeroValue163
 t53:=Tryz.underlying146
 a53:=Tryz.isAgg146
 z53:=Tryz.sizeOf146
 v53:=Tryz.zeroValue146
 t171:=Tryz.underlying145
 a171:=Tryz.isAgg145
 z171:=Tryz.sizeOf145
 v171:=Tryz.zeroValue145
 t173:=Tryz.underlying149
 a173:=Tryz.isAgg149
 z173:=Tryz.sizeOf149
 v173:=Tryz.zeroValue149
 t212:=Tryz.underlying162
 a212:=Tryz.isAgg162
 z212:=Tryz.sizeOf162
 v212:=Tryz.zeroValue162
 t213:=Tryz.underlying164
 a213:=Tryz.isAgg164
 z213:=Tryz.sizeOf164
 t232:=Tryz.underlying192
 a232:=Tryz.isAgg192
 z232:=Tryz.sizeOf192
 v232:=Tryz.zeroValue192
 t233:=Tryz.underlying193
 a233:=Tryz.isAgg193
 z233:=Tryz.sizeOf193
 v233:=Tryz.zeroValue193
 g17:=by kernel_rfl
 g18:=by kernel_rfl
 g19:=by kernel_rfl
 i0:=by kernel_rfl
 i2:=by kernel_rfl
 i3:=by kernel_rfl
 i4:=by kernel_rfl
 i5:=by kernel_rfl
 i9:=by kernel_rfl
 i20:=by kernel_rfl
 i37:=by kernel_rfl
 i46:=by kernel_rfl
 i51:=by kernel_rfl
 i53:=by kernel_rfl
 i171:=by kernel_rfl
 i173:=by kernel_rfl
 i212:=by kernel_rfl
 i232:=by kernel_rfl
 i233:=by kernel_rfl
 m17:=by kernel_rfl
 m18:=by kernel_rfl
 m19:=by kernel_rfl}
open Go.RowKit Go.Sort Go.Lib in
theorem Tryz.strconv_Itoa (n:Int) (h0: -9223372036854775808≤n) (h1:n≤9223372036854775807) (w:World) (htab:Lib.TabIs Tryz.prog w "internal/strconv.uint64pow10" .u64 Lib.pow10Tab):
 Calls Tryz.prog 59 #[.int .i64 n] w fun e w'=>e= .returned (.string ⟨(Lib.itoa n).toArray⟩)∧ ∃k os,w'=grow (w.drewN k) os:=Any.strconv_Itoa Tryz.laysM171 n h0 h1 w htab
def Tryz.lays145_ren:Go.Shelf.Ren:=⟨fun|145=>78|220=>102|219=>123|217=>136|225=>137|224=>138|267=>139|266=>149|314=>150|n=>n,fun|9=>9|4=>4|59=>103|3=>3|5=>5|46=>160|146=>167|51=>163|n=>n,fun|1=>0|n=>n⟩
theorem Tryz.lays145:Go.Proofs.Lays.n145 Tryz.prog Tryz.lays145_ren:={
 mixed:=by kernel_rfl
 f145:=Tryz.func78.trans (congrArg some (by kernel_rfl))
 f217:=Tryz.func136.trans (congrArg some (by kernel_rfl))
 f219:=Tryz.func123.trans (congrArg some (by kernel_rfl))
 f220:=Tryz.func102.trans (congrArg some (by kernel_rfl))
 f224:=Tryz.func138.trans (congrArg some (by kernel_rfl))
 f225:=Tryz.func137.trans (congrArg some (by kernel_rfl))
 f266:=Tryz.func149.trans (congrArg some (by kernel_rfl))
 f267:=Tryz.func139.trans (congrArg some (by kernel_rfl))
 f314:=Tryz.func150.trans (congrArg some (by kernel_rfl))
 t3:=Tryz.underlying3
 a3:=Tryz.isAgg3
 z3:=Tryz.sizeOf3
 v3:=Tryz.zeroValue3
 t4:=Tryz.underlying4
 a4:=Tryz.isAgg4
 z4:=Tryz.sizeOf4
 v4:=Tryz.zeroValue4
 t5:=Tryz.underlying5
 a5:=Tryz.isAgg5
 z5:=Tryz.sizeOf5
 v5:=Tryz.zeroValue5
 t9:=Tryz.underlying9
 a9:=Tryz.isAgg9
 z9:=Tryz.sizeOf9
 v9:=Tryz.zeroValue9
 t46:=Tryz.underlying160
 a46:=Tryz.isAgg160
 z46:=Tryz.sizeOf160
 v46:=Tryz.zeroValue160
 t51:=Tryz.underlying163
 a51:=Tryz.isAgg163
 z51:=Tryz.sizeOf163
 v51:=Tryz.zeroValue163
 t59:=Tryz.underlying103
 a59:=Tryz.isAgg103
 z59:=Tryz.sizeOf103
 v59:=Tryz.zeroValue103
 t146:=Tryz.underlying167
 a146:=Tryz.isAgg167
 z146:=Tryz.sizeOf167
 v146:=Tryz.zeroValue167
 g1:=by kernel_rfl}
open Go.RowKit Go.Lib in
theorem Tryz.strings_Cut (s sep:ByteArray) (m:Int) (w:World) (hs:s.size<4294967281) (hm:w.cell? ⟨0,0,none⟩=some (.int .i64 m)):
 Calls Tryz.prog 78 #[.string s,.string sep] w fun e w'=>e= .returned (.tuple #[.string ⟨(Lib.cut s.data.toList sep.data.toList).1.toArray⟩,.string ⟨(Lib.cut s.data.toList sep.data.toList).2.1.toArray⟩,.bool (Lib.cut s.data.toList sep.data.toList).2.2])∧ ∃n,w'=w.drewN n:=Any.strings_Cut Tryz.lays145 s sep m w hs hm
def Tryz.lays146_ren:Go.Shelf.Ren:=⟨fun|146=>82|221=>91|268=>110|138=>111|143=>112|195=>124|197=>125|218=>126|219=>123|260=>140|217=>136|225=>137|224=>138|267=>139|266=>149|314=>150|n=>n,fun|9=>9|31=>47|3=>3|4=>4|0=>0|105=>142|21=>21|5=>5|46=>160|119=>169|139=>172|138=>171|146=>167|51=>163|n=>n,fun|1=>0|3=>2|4=>3|n=>n⟩
theorem Tryz.lays146:Go.Proofs.Lays.n146 Tryz.prog Tryz.lays146_ren:={
 mixed:=by kernel_rfl
 f138:=Tryz.func111.trans (congrArg some (by kernel_rfl))
 f143:=Tryz.func112.trans (congrArg some (by kernel_rfl))
 f146:=Tryz.func82.trans (congrArg some (by kernel_rfl))
 f195:=Tryz.func124.trans (congrArg some (by kernel_rfl))
 f197:=Tryz.func125.trans (congrArg some (by kernel_rfl))
 f217:=Tryz.func136.trans (congrArg some (by kernel_rfl))
 f218:=Tryz.func126.trans (congrArg some (by kernel_rfl))
 f219:=Tryz.func123.trans (congrArg some (by kernel_rfl))
 f221:=Tryz.func91.trans (congrArg some (by kernel_rfl))
 f224:=Tryz.func138.trans (congrArg some (by kernel_rfl))
 f225:=Tryz.func137.trans (congrArg some (by kernel_rfl))
 f260:=Tryz.func140.trans (congrArg some (by kernel_rfl))
 f266:=Tryz.func149.trans (congrArg some (by kernel_rfl))
 f267:=Tryz.func139.trans (congrArg some (by kernel_rfl))
 f268:=Tryz.func110.trans (congrArg some (by kernel_rfl))
 f314:=Tryz.func150.trans (congrArg some (by kernel_rfl))
 t0:=Tryz.underlying0
 a0:=Tryz.isAgg0
 z0:=Tryz.sizeOf0
 v0:=Tryz.zeroValue0
 t3:=Tryz.underlying3
 a3:=Tryz.isAgg3
 z3:=Tryz.sizeOf3
 v3:=Tryz.zeroValue3
 t4:=Tryz.underlying4
 a4:=Tryz.isAgg4
 z4:=Tryz.sizeOf4
 v4:=Tryz.zeroValue4
 t5:=Tryz.underlying5
 a5:=Tryz.isAgg5
 z5:=Tryz.sizeOf5
 v5:=Tryz.zeroValue5
 t9:=Tryz.underlying9
 a9:=Tryz.isAgg9
 z9:=Tryz.sizeOf9
 v9:=Tryz.zeroValue9
 t21:=Tryz.underlying21
 a21:=Tryz.isAgg21
 z21:=Tryz.sizeOf21
 v21:=Tryz.zeroValue21
 t31:=Tryz.underlying47
 a31:=Tryz.isAgg47
 z31:=Tryz.sizeOf47
 v31:=Tryz.zeroValue47
 t46:=Tryz.underlying160
 a46:=Tryz.isAgg160
 z46:=Tryz.sizeOf160
 v46:=Tryz.zeroValue160
 t51:=Tryz.underlying163
 a51:=Tryz.isAgg163
 z51:=Tryz.sizeOf163
 v51:=Tryz.zeroValue163
 t105:=Tryz.underlying142
 a105:=Tryz.isAgg142
 z105:=Tryz.sizeOf142
 v105:=Tryz.zeroValue142
 t119:=Tryz.underlying169
 a119:=Tryz.isAgg169
 z119:=Tryz.sizeOf169
 t138:=Tryz.underlying171
 a138:=Tryz.isAgg171
 z138:=Tryz.sizeOf171
 v138:=Tryz.zeroValue171
 t139:=Tryz.underlying172
 a139:=Tryz.isAgg172
 z139:=Tryz.sizeOf172
 v139:=Tryz.zeroValue172
 t146:=Tryz.underlying167
 a146:=Tryz.isAgg167
 z146:=Tryz.sizeOf167
 v146:=Tryz.zeroValue167
 g1:=by kernel_rfl
 g3:=by kernel_rfl
 g4:=by kernel_rfl}
open Go.RowKit Go.Lib in
theorem Tryz.strings_Split (s sep:ByteArray) (m:Int) (w:World) (hs:s.size<4294967281) (hm:w.cell? ⟨0,0,none⟩=some (.int .i64 m)) (h1:1≤sep.size):
 Calls Tryz.prog 82 #[.string s,.string sep] w fun e w'=>
  e= .returned (.slice (some ⟨w.heap.size,0,none⟩) (Lib.countB s sep+1) (Lib.countB s sep+1))∧w'=w.alloc (.cells ((Lib.splitB sep 0 (Lib.countB s sep) s).map Value.string).toArray 9):=Any.strings_Split Tryz.lays146 (by kernel_rfl) s sep m w hs hm h1
def Tryz.lays147_ren:Go.Shelf.Ren:=⟨fun|147=>55|221=>91|268=>110|138=>111|143=>112|195=>124|197=>125|218=>126|219=>123|260=>140|217=>136|225=>137|224=>138|267=>139|266=>149|314=>150|n=>n,fun|9=>9|3=>3|31=>47|4=>4|0=>0|105=>142|21=>21|5=>5|46=>160|119=>169|139=>172|138=>171|146=>167|51=>163|n=>n,fun|1=>0|3=>2|4=>3|n=>n⟩
theorem Tryz.lays147:Go.Proofs.Lays.n147 Tryz.prog Tryz.lays147_ren:={
 mixed:=by kernel_rfl
 f138:=Tryz.func111.trans (congrArg some (by kernel_rfl))
 f143:=Tryz.func112.trans (congrArg some (by kernel_rfl))
 f147:=Tryz.func55.trans (congrArg some (by kernel_rfl))
 f195:=Tryz.func124.trans (congrArg some (by kernel_rfl))
 f197:=Tryz.func125.trans (congrArg some (by kernel_rfl))
 f217:=Tryz.func136.trans (congrArg some (by kernel_rfl))
 f218:=Tryz.func126.trans (congrArg some (by kernel_rfl))
 f219:=Tryz.func123.trans (congrArg some (by kernel_rfl))
 f221:=Tryz.func91.trans (congrArg some (by kernel_rfl))
 f224:=Tryz.func138.trans (congrArg some (by kernel_rfl))
 f225:=Tryz.func137.trans (congrArg some (by kernel_rfl))
 f260:=Tryz.func140.trans (congrArg some (by kernel_rfl))
 f266:=Tryz.func149.trans (congrArg some (by kernel_rfl))
 f267:=Tryz.func139.trans (congrArg some (by kernel_rfl))
 f268:=Tryz.func110.trans (congrArg some (by kernel_rfl))
 f314:=Tryz.func150.trans (congrArg some (by kernel_rfl))
 t0:=Tryz.underlying0
 a0:=Tryz.isAgg0
 z0:=Tryz.sizeOf0
 v0:=Tryz.zeroValue0
 t3:=Tryz.underlying3
 a3:=Tryz.isAgg3
 z3:=Tryz.sizeOf3
 v3:=Tryz.zeroValue3
 t4:=Tryz.underlying4
 a4:=Tryz.isAgg4
 z4:=Tryz.sizeOf4
 v4:=Tryz.zeroValue4
 t5:=Tryz.underlying5
 a5:=Tryz.isAgg5
 z5:=Tryz.sizeOf5
 v5:=Tryz.zeroValue5
 t9:=Tryz.underlying9
 a9:=Tryz.isAgg9
 z9:=Tryz.sizeOf9
 v9:=Tryz.zeroValue9
 t21:=Tryz.underlying21
 a21:=Tryz.isAgg21
 z21:=Tryz.sizeOf21
 v21:=Tryz.zeroValue21
 t31:=Tryz.underlying47
 a31:=Tryz.isAgg47
 z31:=Tryz.sizeOf47
 v31:=Tryz.zeroValue47
 t46:=Tryz.underlying160
 a46:=Tryz.isAgg160
 z46:=Tryz.sizeOf160
 v46:=Tryz.zeroValue160
 t51:=Tryz.underlying163
 a51:=Tryz.isAgg163
 z51:=Tryz.sizeOf163
 v51:=Tryz.zeroValue163
 t105:=Tryz.underlying142
 a105:=Tryz.isAgg142
 z105:=Tryz.sizeOf142
 v105:=Tryz.zeroValue142
 t119:=Tryz.underlying169
 a119:=Tryz.isAgg169
 z119:=Tryz.sizeOf169
 t138:=Tryz.underlying171
 a138:=Tryz.isAgg171
 z138:=Tryz.sizeOf171
 v138:=Tryz.zeroValue171
 t139:=Tryz.underlying172
 a139:=Tryz.isAgg172
 z139:=Tryz.sizeOf172
 v139:=Tryz.zeroValue172
 t146:=Tryz.underlying167
 a146:=Tryz.isAgg167
 z146:=Tryz.sizeOf167
 v146:=Tryz.zeroValue167
 g1:=by kernel_rfl
 g3:=by kernel_rfl
 g4:=by kernel_rfl}
open Go.RowKit Go.Lib in
theorem Tryz.strings_SplitN (s sep:ByteArray) (n:Nat) (m:Int) (w:World) (hs:s.size<4294967281) (hm:w.cell? ⟨0,0,none⟩=some (.int .i64 m)) (h1:1≤sep.size) (hn:1≤n) (hn63:n≤9223372036854775807):
 Calls Tryz.prog 55 #[.string s,.string sep,.int .i64 n] w fun e w'=>
  e= .returned (.slice (some ⟨w.heap.size,0,none⟩) (Lib.splitB sep 0 (min n (s.size+1) - 1) s).length (min n (s.size+1)))∧w'=w.alloc (.cells (Lib.cellsOf (Lib.splitB sep 0 (min n (s.size+1) - 1) s) (min n (s.size+1))) 9):=Any.strings_SplitN Tryz.lays147 (by kernel_rfl) s sep n m w hs hm h1 hn hn63
end Go.Proofs
namespace Go.Proofs.YtcbjphphppaoiaaGreatDoor
open Int renaming toNat_natCast→aSd
open List renaming length_append→aSe,length_nil→aSh,length_cons→aSi,length_take→aSk,getD_eq_getElem?_getD→aSl,getElem?_eq_some_iff→aSm,getElem?_eq_getElem→aSn,range→aSp,mem_map→aSq,length_drop→aSr,mem_singleton→aSs,all_eq_true→aSu,take_length→aSv,mem_cons→aSw
open Nat renaming le_of_ble_eq_true→aSf,zero_le→aSj,le_refl→aSo,add_mul→aSt
open Bool renaming and_eq_true→aSg
open Go Go.Ab Go.RowKit
set_option linter.unusedVariables false
set_option linter.unusedSimpArgs false
set_option maxRecDepth 9000
theorem sn (n:Nat) (hn:n≤1000000):Ab.Spec Tryz.prog 59 1 [(.t 0,.v (I n))] [(.t 0,.v (Dv (.s (jQ n))))]:=aH0 ⟨Tryz.f59,Tryz.func59,by kernel_rfl,by kernel_rfl⟩ n hn fun w ht=>Tryz.strconv_Itoa n (by omega) (by omega) w ht
theorem uv (s:List UInt8) (hs:s.length≤1000000):Sp 78 2 [tD 0 (.s s),tD 1 (.s [32])] [tV 0 (.tup [.c (.d (.s (bA s))),.c (.d (.s (aN s))),.c (.d (.b (fH s)))])]:=by
 refine aKw ⟨Tryz.f78,Tryz.func78,by kernel_rfl,by kernel_rfl⟩ s hs fun w hg=> ?_
 obtain⟨m,hm⟩:=jx hg (g:=0) (by kernel_rfl)
 exact Tryz.strings_Cut ⟨s.toArray⟩ ⟨#[32]⟩ m w (show s.toArray.size<4294967281 by simp;omega) hm
theorem nf (s:List UInt8) (hs:s.length≤1000000):Sp 82 2 [tD 0 (.s s),tD 1 (.s [32])] [tD 0 (.sl (bL (cV s)))]:=by
 refine aEy (e:=9) ⟨Tryz.f82,Tryz.func82,by kernel_rfl,by kernel_rfl⟩ s hs fun w hg=> ?_
 obtain⟨m,hm⟩:=jx hg (g:=0) (by kernel_rfl)
 exact Tryz.strings_Split ⟨s.toArray⟩ ⟨#[32]⟩ m w (show s.toArray.size<4294967281 by simp;omega) hm (show 1≤1 by omega)
theorem kv (s:List UInt8) (hs:s.length≤1000000):Sp 55 3 [tD 0 (.s s),tD 1 (.s [32]),tI 2 5] [tD 0 (.sl (bL (gW 4 s)))]:=by
 refine aB2 (e:=9) ⟨Tryz.f55,Tryz.func55,by kernel_rfl,by kernel_rfl⟩ 4 s hs (by omega) fun w hg=> ?_
 obtain⟨m,hm⟩:=jx hg (g:=0) (by kernel_rfl)
 exact Tryz.strings_SplitN ⟨s.toArray⟩ ⟨#[32]⟩ 5 m w (show s.toArray.size<4294967281 by simp;omega) hm (show 1≤1 by omega) (by omega) (by omega)
theorem ya (s:List UInt8) (hl:s.length≤140737488355328):Ab.Spec Tryz.prog 79 1 [(.t 0,.v (Dv (.s s)))] [(.t 0,.v (.tup [.c (.d (.i (kJ s))),.c (.d (.b (kI s).isSome))]))]:=sm s hl
theorem nr (n:Int) (h:0≤n∧n≤1000000):Sp 59 1 [tI 0 n] [tD 0 (.s (jQ n.toNat))]:=by
 obtain⟨m,rfl⟩:=Int.eq_ofNat_of_zero_le h.1
 exact sn m (by omega)
theorem jM (n:Int) (h:0≤n∧n≤1000000):Sp 35 1 [tI 0 n] [tD 0 (.s (jQ n.toNat))]:=by
 obtain⟨m,rfl⟩:=Int.eq_ofNat_of_zero_le h.1
 exact sQ m (by omega)
theorem yJ (l:List (List UInt8)) (hl:l.length≤1000000) (hx: ∀x∈l,x.length≤1000000):Sp 56 1 [tD 0 (.sl (bL l))] [tV 0 (.tup [.c (.d (.sl (cR (jT l)))),.c (.d (.b (gR l)))])]:=by
 refine sb Tryz.func56 rfl (sq (rT [0] (s2 (sq (rT [0,4] (s1 (sq (sq (rT [4,9,10,11] (s3 (bk (SW.nilOwn 4 8 3 1 rfl rfl (SW.loopW (n:=l.length) (fun m q=> ∃i:Nat,m=l.length - i∧i≤l.length∧(∀j,j<i→(kI (l.getD j [])).isSome=true)∧q=[tO 4 8 (i),tD 9 (.sl (bL l)),tI 10 (l.length:Nat),tI 11 (i:Nat),oR 8 3 1 (cR ((l.take (i)).map kJ))]) ?_ ?_)))))))))))))
 · refine wq (σ':=[tO 4 8 (0),tD 9 (.sl (bL l)),tI 10 (l.length:Nat),tI 11 (0:Nat),oR 8 3 1 (cR ((l.take (0)).map kJ))]) [] [] (⟨0,rfl,aSj _,fun j h=>absurd h (by omega),rfl⟩) ?_
   repeat' apply ai
   all_goals first|exact qx|rfl|(rw[aU];done)|(simp[aU];done)|exact qz
 rintro n s ⟨i,rfl,hi,hk,rfl⟩
 refine sq (rT [4,9,10,11,12] (s1 (sq (cd rfl (fun c12=> ?_) fun c12=> ?_))))
 · have hi2:i<l.length:=by simpa using c12
   have hg:=gG (l:=l) hi2
   refine sk (sq (bk (sq (rT [4,6,9,10,11] (ai (by rw[aSd,hg];exact⟨⟨by omega,by rw[aU];omega⟩,rfl⟩) (ai (by rw[aSd,hg];exact⟨aSf rfl,rfl⟩) (s1 (sq (wa [tO 4 8 (i),tD 6 (.s (l.getD i [])),tD 9 (.sl (bL l)),tI 10 (l.length:Nat),tI 11 (i:Nat),oR 8 3 1 (cR ((l.take (i)).map kJ))] [] [] ?_ ?_)))))))))
   · repeat' apply ai
     all_goals first|exact qx|(rw[aSd,hg];rfl)|exact qz
   refine rT [4,7,8,9,10,11] (s1 (xp (ya (l.getD i []) (by have:=hx _ (dU (z:=[]) hi2);omega)) (ai rfl ?_)))
   refine s5 (sq (sq (rT [4,7,9,10,11,21] (s2 (cd rfl (fun c21=> ?_) fun c21=> ?_)))))
   · refine sq (rT [2,3] (s2 (rt ?_)))
     have hno:=aH4 hi2 (by simpa using c21)
     exact eE _ [] [] rfl ⟨⟨_,rfl,congrArg D.sl (show cR (jT l)=[] by rw[jT,hno];rfl),congrArg D.b hno.symm,trivial⟩,trivial⟩ rfl rfl
   refine sk (rT [4,9,10,11] (s2 (ai (by exact⟨by simp,aSf rfl⟩) (ai (by refine⟨rfl,by rw[cD,List.length_map,aSk];omega,by simp,?_⟩;show(_+1)*8≤_;omega) (s1 (rT [4,9,10,11] (s2 ?_)))))))
   have hs: (kI (l.getD i [])).isSome=true:=by simpa using c21
   refine wq [] [] (⟨l.length - (i+1),by omega,i+1,rfl,by omega,fun j h=>by by_cases e:j=i;exact e▸hs;exact hk j (by omega),rfl⟩) ?_
   repeat' apply ai
   all_goals first|exact qx|rfl|(rw[ua hi2];exact mW _ _)|(exact congrArg D.i (by rw[aF (by omega)];omega))|(simp[cD,aSk];omega)|exact qz
 have hi3:i=l.length:=by simp at c12;omega
 refine xt (sq (rT [2,3] (s3 (rt ?_))))
 have hyes:=aE0 (hi3▸hk)
 exact eE _ [] [8] rfl ⟨⟨_,rfl,⟨by simp,_,_,_,rfl,by rw[cD,List.length_map,aSk];omega,congrArg D.sl (by rw[jT,if_pos hyes,hi3,aSv])⟩,congrArg D.b hyes.symm,trivial⟩,trivial⟩ rfl rfl
theorem cl (s:List UInt8) (hl:s.length≤1000000):Sp 67 1 [tD 0 (.s s)] [tV 0 (.tup [.c (.d (.s (bA s))),.c (.d (.s (aN s)))])]:=by
 refine sb Tryz.func67 rfl (sq (rT [0] (s2 (sq (sq (rT [0,4] (s1 (bk (SW.loopW (n:=s.length) (fun m q=> ∃i:Nat,m=s.length - i∧i≤s.length∧(∀j,j<i→s.getD j 0≠32)∧q=[tD 0 (.s s),tI 4 (i:Nat)]) ?_ ?_)))))))))
 · exact wq (σ':=[tD 0 (.s s),tI 4 (0:Nat)]) [] [] (⟨0,rfl,aSj _,fun j h=>absurd h (by omega),rfl⟩) qz
 rintro n s ⟨i,rfl,hi,hk,rfl⟩
 refine sq (sq (rT [0,4,8] (s4 (cd rfl (fun c8=> ?_) fun c8=> ?_))))
 · have hi2:i<s.length:=by simpa using c8
   refine sk (sq (bk (sq (rT [0,4,14] (s2 (ai (by exact⟨by omega,by omega⟩) (s1 (cd rfl (fun c14=> ?_) fun c14=> ?_))))))))
   · have h32:s.getD i 0=32:=by
      have h9:=c14
      rw[aSd] at h9
      have h10: ((s.getD i 0).toNat:Int)=32:=by simpa only[beq_iff_eq] using h9
      apply UInt8.toNat_inj.1
      have h6: (32:UInt8).toNat=32:=rfl
      omega
     obtain⟨e1,e2,e3⟩:=aKy hk hi2 h32
     refine sq (rD [2,3] (s2 (ai (by simp[bnd,fE,gF];omega) (s3 (ai (by rw[aF (by omega)];simp[bnd,fE,gF];omega) (s2 (ai (by kernel_rfl) (rt (bN rfl rfl ?_)))))))))
     rw[e1,e2,aF (by omega)]
     simp[fE,gF]
   refine sk (rT [0,4] (s3 ?_))
   have hs:s.getD i 0≠32:=by
    have h9:=c14
    rw[aSd] at h9
    intro e
    rw[e] at h9
    exact absurd h9 (by decide)
   refine wq [] [] (⟨s.length - (i+1),by omega,i+1,rfl,by omega,fun j h=>by by_cases e:j=i;exact e▸hs;exact hk j (by omega),rfl⟩) ?_
   repeat' apply ai
   all_goals first|exact qx|exact congrArg D.i (aF (by omega))|exact qz
 have hi3:i=s.length:=by simp at c8;omega
 refine xt (sq (rT [2,3] (s3 (rt ?_))))
 obtain⟨e1,e2,e3⟩:=aH3 (hi3▸hk)
 refine bN rfl rfl ?_
 rw[e1,e2]
 rfl
theorem cm (s:List UInt8) (n:Nat) (hl:s.length≤1000000) (hn:n≤100):Sp 74 2 [tD 0 (.s s),tI 1 (n:Nat)] [tV 0 (.tup [.c (.d (.sl (cR (eM n s)))),.c (.d (.s (lH n s)))])]:=by
 refine sb Tryz.func74 rfl (sq (rT [0,1] (s2 (sq (rT [0,1,6] (ai (by exact⟨by simp,aSf rfl⟩) (s1 (sq (sq (rT [0,1,6,7] (s1 (bk (SW.loopW (n:=n) (fun m q=> ∃i:Nat,m=n - i∧i≤n∧q=[tD 0 (.s (lH (i) s)),tI 1 (n:Nat),tO 6 10 (i),tI 7 (i:Nat),oR 10 3 1 (cR (eM (i) s))]) ?_ ?_)))))))))))))
 · refine wq (σ':=[tD 0 (.s (lH (0) s)),tI 1 (n:Nat),tO 6 10 (0),tI 7 (0:Nat),oR 10 3 1 (cR (eM (0) s))]) [] [] (⟨0,rfl,aSj _,rfl⟩) ?_
   repeat' apply ai
   all_goals first|exact qx|rfl|exact qz
 rintro n s ⟨i,rfl,hi,rfl⟩
 refine sq (sq (rT [0,1,6,7,13] (s3 (cd rfl (fun c13=> ?_) fun c13=> ?_))))
 · have hi2:i<n:=by simpa using c13
   have hr:=qa i s
   have hr2:=bc (lH i s)
   refine sk (sq (bk (sq (rT [1,6,7,8,9] (s1 (xp (cl (lH i s) (by omega)) (ai rfl ?_)))))))
   refine s5 (sq (rT [1,6,7,9] (s2 (xp (sR (bA (lH i s)) (by omega)) (ai rfl ?_)))))
   refine ai (by exact⟨by simp,aSf rfl⟩) (ai (by refine⟨rfl,by rw[cD,bG],by simp,?_⟩;show(_+1)*8≤_;omega) (s1 (rT [0,1,6,7] (s2 (rT [0,1,6,7] (s3 (wq [] [] (⟨n - (i+1),by omega,i+1,rfl,by omega,rfl⟩) ?_)))))))
   repeat' apply ai
   all_goals first|exact qx|rfl|(rw[aEz];exact mW _ _)|(exact congrArg D.i (by rw[aF (by omega)];omega))|(simp[cD,bG];done)|exact qz
 have hi3:i=n:=by simp at c13;omega
 refine xt (sq (rT [4,5] (s4 (rt ?_))))
 subst hi3
 exact eE _ [] [10] rfl ⟨⟨_,rfl,⟨by simp,_,_,_,rfl,by rw[cD,bG],rfl⟩,rfl,trivial⟩,trivial⟩ rfl rfl
theorem kw (n:bB) (hl:n.text.length≤140737488355328):Sp 58 1 [tV 0 n.V] [tD 0 (.s (gJ n))]:=by
 refine sb Tryz.func58 rfl (sq (rT [1] (s2 (sq (sq (rT [1,5] (s1 (xp (qZ _ vc) (ai rfl ?_)))))))))
 refine s1 (cd rfl (fun c5=> ?_) fun c5=> ?_)
 · refine sq (rT [2] (s1 (rt (bQ rfl (congrArg D.s ?_)))))
   have hno:eZ n=false:=by simpa using c5
   rw[gJ,hno];rfl
 have hok:eZ n=true:=by simpa using c5
 obtain⟨p1,p2,p3,p4,p5⟩:=mZ hok
 have q1:=cA (k:=3) (n:=n.frm.toNat) (by simp;omega)
 have q2:=cA (k:=3) (n:=n.num.toNat) (by simp;omega)
 have q3:=cA (k:=3) (n:=n.to.toNat) (by simp;omega)
 have q4:=cA (k:=3) (n:=n.til.toNat) (by simp;omega)
 refine sk (sq (rD [2] (s2 (xp (nr n.frm (by omega)) (ai rfl ?_)))))
 refine ai (by show _≤9223372036854775807;simp only[aSe,aSi,aSh];omega) (s2 (xp (nr n.num (by omega)) (ai rfl ?_)))
 refine ai (by show _≤9223372036854775807;simp only[aSe,aSi,aSh];omega) (ai (by show _≤9223372036854775807;simp only[aSe,aSi,aSh];omega) (s2 (xp (nr n.to (by omega)) (ai rfl ?_))))
 refine ai (by show _≤9223372036854775807;simp only[aSe,aSi,aSh];omega) (ai (by show _≤9223372036854775807;simp only[aSe,aSi,aSh];omega) (s2 (xp (nr n.til (by omega)) (ai rfl ?_))))
 refine ai (by show _≤9223372036854775807;simp only[aSe,aSi,aSh];omega) (ai (by show _≤9223372036854775807;simp only[aSe,aSi,aSh];omega) (s2 (ai (by show _≤9223372036854775807;simp only[aSe,aSi,aSh];omega) (s1 (ai (by kernel_rfl) (rt (bQ rfl (congrArg D.s ?_))))))))
 rw[gJ,if_pos hok];rfl
theorem gO (n:bB) (hl:n.text.length≤140737488355328):Sp 14 1 [tV 0 n.V] [tD 0 (.s (gJ n))]:=by
 refine sb Tryz.func14 rfl (sq (rT [1] (s2 (sq (sq (rT [1,5] (s1 (xp (vK _ vc) (ai rfl ?_)))))))))
 refine s1 (cd rfl (fun c5=> ?_) fun c5=> ?_)
 · refine sq (rT [2] (s1 (rt (bQ rfl (congrArg D.s ?_)))))
   have hno:eZ n=false:=by simpa using c5
   rw[gJ,hno];rfl
 have hok:eZ n=true:=by simpa using c5
 obtain⟨p1,p2,p3,p4,p5⟩:=mZ hok
 have q1:=cA (k:=3) (n:=n.frm.toNat) (by simp;omega)
 have q2:=cA (k:=3) (n:=n.num.toNat) (by simp;omega)
 have q3:=cA (k:=3) (n:=n.to.toNat) (by simp;omega)
 have q4:=cA (k:=3) (n:=n.til.toNat) (by simp;omega)
 refine sk (sq (rD [2] (s2 (xp (jM n.frm (by omega)) (ai rfl ?_)))))
 refine ai (by show _≤9223372036854775807;simp only[aSe,aSi,aSh];omega) (s2 (xp (jM n.num (by omega)) (ai rfl ?_)))
 refine ai (by show _≤9223372036854775807;simp only[aSe,aSi,aSh];omega) (ai (by show _≤9223372036854775807;simp only[aSe,aSi,aSh];omega) (s2 (xp (jM n.to (by omega)) (ai rfl ?_))))
 refine ai (by show _≤9223372036854775807;simp only[aSe,aSi,aSh];omega) (ai (by show _≤9223372036854775807;simp only[aSe,aSi,aSh];omega) (s2 (xp (jM n.til (by omega)) (ai rfl ?_))))
 refine ai (by show _≤9223372036854775807;simp only[aSe,aSi,aSh];omega) (ai (by show _≤9223372036854775807;simp only[aSe,aSi,aSh];omega) (s2 (ai (by show _≤9223372036854775807;simp only[aSe,aSi,aSh];omega) (s1 (ai (by kernel_rfl) (rt (bQ rfl (congrArg D.s ?_))))))))
 rw[gJ,if_pos hok];rfl
set_option maxHeartbeats 1600000 in
theorem ng (s:List UInt8) (hl:s.length≤1000000):Sp 26 1 [tD 0 (.s s)] [tV 0 (.tup [.agg [.d (.i ((dR s).1).frm),.d (.i ((dR s).1).num),.d (.i ((dR s).1).to),.d (.i ((dR s).1).til),.d (.s ((dR s).1).text)],.c (.d (.b (dR s).2))])]:=by
 refine sb Tryz.func26 rfl (sq (rT [0,2,43,44,45,46] (s2 (sq (rT [0,2,4,43,44,45,46] (s1 (xp (kv s hl) (ai rfl ?_))))))))
 refine s1 (sq (sq (rT [0,2,4,12,43,44,45,46] (s3 (cd rfl (fun c12=> ?_) fun c12=> ?_)))))
 · refine sq (rT [2,3] (s3 (rt (bN rfl rfl ?_))))
   rw[qb (.inl (by simp[aU] at c12;omega))]
   rfl
 have h5: (gW 4 s).length=5:=by simp[aU] at c12;omega
 refine sk (sq (rT [0,2,4,5,6,43,44,45,46] (s1 (ai (by refine⟨?_,fm _⟩;rw[aU,h5];simp[bnd,fE,gF]) (xp (yJ ((gW 4 s).take 4) (by rw[aSk];omega) (fun x hx=>by have:=fw 4 s x (List.mem_of_mem_take hx);omega)) (ai (by show _=eH 0 [Dv (.sl (List.drop 0 (List.take 4 (bL (gW 4 s)))))];rw[List.drop_zero,zf];rfl) ?_))))))
 refine s5 (sq (sq (rT [0,2,4,5,21,43,44,45,46] (s2 (cd rfl (fun c21=> ?_) fun c21=> ?_)))))
 · refine sq (rT [2,3] (s3 (rt (bN rfl rfl ?_))))
   rw[qb (.inr (.inl (by simpa using c21)))]
   rfl
 have hok:gR ((gW 4 s).take 4)=true:=by simpa using c21
 refine sk (sq (rD [0,2,7,43,44,45,46] (s1 (ai (by exact fo (l:=jT ((gW 4 s).take 4)) (by omega) (by rw[gK hok,aSk];omega)) (ai (by have:=gS (l:=jT ((gW 4 s).take 4)) (i:=0) (by rw[gK hok,aSk];omega);first|(rw[show((0:Int)).toNat=((0:Nat):Int).toNat from rfl,this];exact⟨aSf rfl,rfl⟩)) (s1 (ai (by exact fo (l:=jT ((gW 4 s).take 4)) (by omega) (by rw[gK hok,aSk];omega)) (ai (by have:=gS (l:=jT ((gW 4 s).take 4)) (i:=1) (by rw[gK hok,aSk];omega);first|(rw[show((1:Int)).toNat=((1:Nat):Int).toNat from rfl,this];exact⟨aSf rfl,rfl⟩)) (s1 (ai (by exact fo (l:=jT ((gW 4 s).take 4)) (by omega) (by rw[gK hok,aSk];omega)) (ai (by have:=gS (l:=jT ((gW 4 s).take 4)) (i:=2) (by rw[gK hok,aSk];omega);first|(rw[show((2:Int)).toNat=((2:Nat):Int).toNat from rfl,this];exact⟨aSf rfl,rfl⟩)) (s1 (ai (by exact fo (l:=jT ((gW 4 s).take 4)) (by omega) (by rw[gK hok,aSk];omega)) (ai (by have:=gS (l:=jT ((gW 4 s).take 4)) (i:=3) (by rw[gK hok,aSk];omega);first|(rw[show((3:Int)).toNat=((3:Nat):Int).toNat from rfl,this];exact⟨aSf rfl,rfl⟩)) (s1 (ai (by exact ixS (l:=gW 4 s) (by omega) (by omega)) (ai (by exact ldS (l:=gW 4 s) (by omega) (by omega)) (s3 (ai (by kernel_rfl) (sq (sq (SW.wk (J:=fun q=>q=[tD 0 (.s s),tP 2 2,tP 7 7,oB 2 29 [.d (.i 0),.d (.i 0),.d (.i 0),.d (.i 0),.d (.s [])],oB 7 29 [.d (.i (nO s).frm),.d (.i (nO s).num),.d (.i (nO s).to),.d (.i (nO s).til),.d (.s (nO s).text)]]) ?_ ?_))))))))))))))))))))))
 · refine wq [] [] (rfl) ?_
   repeat' apply ai
   all_goals first|exact qx|exact congrArg D.i (zg hok h5 (i:=0) (by omega))|exact congrArg D.i (zg hok h5 (i:=1) (by omega))|exact congrArg D.i (zg hok h5 (i:=2) (by omega))|exact congrArg D.i (zg hok h5 (i:=3) (by omega))|exact congrArg D.s (aM2 (l:=gW 4 s) (j:=4) (by omega) (by omega))|exact qz
 rintro q rfl
 refine rT [2,7,47] (s1 (xp (qZ (nO s) (by have:=fw 4 s _ (dU (z:=[]) (show 4< (gW 4 s).length by omega));show((gW 4 s).getD 4 []).length≤_;omega)) (ai rfl ?_)))
 refine s2 (y1 (xc (fun h=>(kw (nO s) (by have:=fw 4 s _ (dU (z:=[]) (show 4< (gW 4 s).length by omega));show((gW 4 s).getD 4 []).length≤_;omega))) (ai rfl (ai rk ?_))))
 refine y2 (ai pk (cd rfl (fun c47=> ?_) fun c47=> ?_))
 · refine sq (rT [2,3] (s3 (rt (bN rfl rfl ?_))))
   rw[qb (.inr (.inr (by cases h:eZ (nO s) with|false=>exact .inl rfl|true=>rw[h] at c47;exact .inr (by simpa using c47))))]
   rfl
 refine sk (sq (rT [2,3] (s3 (rt ?_))))
 have h6:eZ (nO s)=true∧gJ (nO s)=s:=by simpa using c47
 refine bN rfl rfl ?_
 rw[aH5 h5 hok h6.1 h6.2]
 rfl
set_option maxHeartbeats 1600000 in
theorem rZ (s:List UInt8) (hl:s.length≤1000000):Sp 70 1 [tD 0 (.s s)] [tV 0 (.tup [.agg [.d (.i ((dR s).1).frm),.d (.i ((dR s).1).num),.d (.i ((dR s).1).to),.d (.i ((dR s).1).til),.d (.s ((dR s).1).text)],.c (.d (.b (dR s).2))])]:=by
 refine sb Tryz.func70 rfl (sq (rT [0,2,29,30,31,32] (s2 (sq (rT [0,2,4,5,29,30,31,32] (s1 (xp (cm s 4 hl (by omega)) (ai rfl ?_))))))))
 refine s5 (sq (rD [0,2,6,29,30,31,32] (s1 (ai (by exact fo (l:=eM 4 s) (by omega) (by rw[bG];omega)) (ai (by have:=gS (l:=eM 4 s) (i:=0) (by rw[bG];omega);first|(rw[show((0:Int)).toNat=((0:Nat):Int).toNat from rfl,this];exact⟨aSf rfl,rfl⟩)) (s1 (ai (by exact fo (l:=eM 4 s) (by omega) (by rw[bG];omega)) (ai (by have:=gS (l:=eM 4 s) (i:=1) (by rw[bG];omega);first|(rw[show((1:Int)).toNat=((1:Nat):Int).toNat from rfl,this];exact⟨aSf rfl,rfl⟩)) (s1 (ai (by exact fo (l:=eM 4 s) (by omega) (by rw[bG];omega)) (ai (by have:=gS (l:=eM 4 s) (i:=2) (by rw[bG];omega);first|(rw[show((2:Int)).toNat=((2:Nat):Int).toNat from rfl,this];exact⟨aSf rfl,rfl⟩)) (s1 (ai (by exact fo (l:=eM 4 s) (by omega) (by rw[bG];omega)) (ai (by have:=gS (l:=eM 4 s) (i:=3) (by rw[bG];omega);first|(rw[show((3:Int)).toNat=((3:Nat):Int).toNat from rfl,this];exact⟨aSf rfl,rfl⟩)) (s4 (ai (by kernel_rfl) (sq (sq (SW.wk (J:=fun q=>q=[tD 0 (.s s),tP 2 2,tP 6 6,oB 2 29 [.d (.i 0),.d (.i 0),.d (.i 0),.d (.i 0),.d (.s [])],oB 6 29 [.d (.i (zL s).frm),.d (.i (zL s).num),.d (.i (zL s).to),.d (.i (zL s).til),.d (.s (zL s).text)]]) ?_ ?_)))))))))))))))))))
 · refine wq [] [] (rfl) ?_
   repeat' apply ai
   all_goals first|exact qx|exact congrArg D.i (np (i:=0) (by omega))|exact congrArg D.i (np (i:=1) (by omega))|exact congrArg D.i (np (i:=2) (by omega))|exact congrArg D.i (np (i:=3) (by omega))|rfl|exact qz
 rintro q rfl
 refine rT [2,6,33] (s3 (y1 (xc (fun h=>(gO (zL s) (by have:=qa 4 s;show(lH 4 s).length≤_;omega))) (ai rfl (ai rk ?_)))))
 refine y2 (ai pk (cd rfl (fun c33=> ?_) fun c33=> ?_))
 · refine sq (rT [2,3] (s3 (rt (bN rfl rfl ?_))))
   have hno:dR s=(.zero,false):=by
    rw[dR,if_pos]
    by_cases h:s=[]
    · exact .inl h
    · rw[show(s==[])=false by simpa using h] at c33;exact .inr (by simpa using c33)
   rw[hno]
   rfl
 refine sk (sq (rT [2,3] (s3 (rt (bN rfl rfl ?_)))))
 have hyes:dR s=(zL s,true):=by
  rw[dR,if_neg]
  rintro(h|h)
  · subst h;simp at c33
  · by_cases h2:s=[]
    · subst h2;simp at c33
    · rw[show(s==[])=false by simpa using h2] at c33;exact h (by simpa using c33)
 rw[hyes]
 rfl
theorem af (l:List bB) (hl:l.length≤1000000):Sp 84 1 [tD 0 (.sl (aE l))] [tD 0 (.sl (aE l))]:=by
 refine sb Tryz.func84 rfl (sq (rT [0] (s1 (sq (sq (rT [0,6] (s3 (cd rfl (fun c6=> ?_) fun c6=> ?_))))))))
 · refine sq (rT [2] (s1 (rt (eE _ [] [] rfl (aBk rfl (congrArg D.sl ?_) trivial) rfl rfl))))
   simp[aA] at c6;simp[c6,aE]
 refine sk (sq (rT [0,3] (s2 (ai (by refine⟨rfl,by omega,?_⟩;rw[aA];show((48:Nat):Int)*_≤_;omega) (s1 (sq (rT [3] (s2 (ai (by refine⟨trivial,by simp,eG l⟩) (sq (rT [2] (s2 (rt (eE _ [] [9] rfl (fM rfl rfl rfl ?_ (congrArg D.sl ?_) trivial) rfl rfl))))))))))))))
 · simp
 simp
theorem so (l:List bZ) (hl:l.length≤1000000):Sp 85 1 [tD 0 (.sl (aL l))] [tD 0 (.sl (aL l))]:=by
 refine sb Tryz.func85 rfl (sq (rT [0] (s1 (sq (sq (rT [0,6] (s3 (cd rfl (fun c6=> ?_) fun c6=> ?_))))))))
 · refine sq (rT [2] (s1 (rt (eE _ [] [] rfl (aBk rfl (congrArg D.sl ?_) trivial) rfl rfl))))
   simp[aB] at c6;simp[c6,aL]
 refine sk (sq (rT [0,3] (s2 (ai (by refine⟨rfl,by omega,?_⟩;rw[aB];show((24:Nat):Int)*_≤_;omega) (s1 (sq (rT [3] (s2 (ai (by refine⟨trivial,by simp,gP l⟩) (sq (rT [2] (s2 (rt (eE _ [] [9] rfl (fM rfl rfl rfl ?_ (congrArg D.sl ?_) trivial) rfl rfl))))))))))))))
 · simp
 simp
theorem sA (k:aR) (hb:k.held.length≤1000000∧k.marks.length≤1000000∧k.inbox.length≤1000000):Sp 39 1 [tV 0 k.V] [tV 0 k.V]:=by
 refine sb Tryz.func39 rfl (sq (rT [1,2] (s2 (sq (rT [1,2,3] (s3 (sq (rT [1,2,3] (s2 (xp (af k.held hb.1) (ai rfl ?_)))))))))))
 refine s2 (sq (rT [1,2,3] (s2 (xp (so k.marks hb.2.1) (ai rfl ?_)))))
 refine s2 (sq (rT [2,3] (s2 (xp (af k.inbox hb.2.2) (ai rfl ?_)))))
 exact s2 (sq (rT [2] (s2 (rt (bN rfl rfl rfl)))))
theorem pM (k:aR) (hb:k.held.length≤1000000∧k.marks.length≤1000000∧k.inbox.length≤1000000):Sp 37 1 [tV 0 k.V] [tV 0 k.V]:=by
 refine sb Tryz.func37 rfl (sq (rT [1,2] (s2 (sq (rT [1,2] (ai (by simp) (s2 (ai (by refine⟨trivial,rfl,?_,?_⟩<;>first|exact eG _|exact gP _|(simp only[aA,aB,aSh,Nat.zero_add];show _*48≤_;omega)) (s2 (sq (rT [1,2] (ai (by simp) (s2 (ai (by refine⟨trivial,rfl,?_,?_⟩<;>first|exact eG _|exact gP _|(simp only[aA,aB,aSh,Nat.zero_add];show _*24≤_;omega)) (s2 (sq (rT [1,2] (ai (by simp) (s2 (ai (by refine⟨trivial,rfl,?_,?_⟩<;>first|exact eG _|exact gP _|(simp only[aA,aB,aSh,Nat.zero_add];show _*48≤_;omega)) (s2 (sq (rT [2] (s2 (rt (rq [] [3,8,13] rfl ?_))))))))))))))))))))))))))
 repeat' apply ai
 all_goals try exact qx
 all_goals(first|with_reducible rfl|(simp;done))
set_option maxHeartbeats 800000 in
theorem rC (l:List bB) (n:bB) (hl:l.length≤100000):Sp 106 2 [tD 0 (.sl (aE l)),tV 1 n.V] [tD 0 (.sl (aE (nG l n)))]:=by
 refine sb Tryz.func106 rfl (sq (rT [0,3,11,12,13,14,15,16,17,18,19,20,21,22,23,24,25] (s2 (sq (rT [0,3,5,11,12,13,14,15,16,17,18,19,20,21,22,23,24,25] (s1 (sq (bk (SW.loopW (n:=l.length) (fun m q=> ∃i:Nat,m=l.length - i∧i≤l.length∧(∀j,j<i→cG (l.getD j .zero).frm (l.getD j .zero).num n.frm n.num=true)∧q=[tD 0 (.sl (aE l)),tP 3 3,tI 5 (i:Nat),oB 3 29 [.d (.i (n).frm),.d (.i (n).num),.d (.i (n).to),.d (.i (n).til),.d (.s (n).text)]]) ?_ ?_)))))))))
 · exact wq (σ':=[tD 0 (.sl (aE l)),tP 3 3,tI 5 (0:Nat),oB 3 29 [.d (.i (n).frm),.d (.i (n).num),.d (.i (n).to),.d (.i (n).til),.d (.s (n).text)]]) [] [] (⟨0,rfl,aSj _,fun j h=>absurd h (by omega),rfl⟩) qz
 rintro n s ⟨i,rfl,hi,hk,rfl⟩
 refine sq (sq (rD [0,3,5,11,12,13,14,15,16,17,18,19,20,21,22,23,24,25,26] (s5 (y2 (ai (fun h=>(by have h8:=h;simp[gb,aA] at h8;have h9:i<l.length:=(by omega);rw[aSd,aQ h9];exact⟨⟨by omega,by rw[aA];omega⟩,rfl⟩)) (ai rk (y1 (ai (fun h=>(by have h8:=h;simp[gb,aA] at h8;have h9:i<l.length:=(by omega);rw[aSd,aQ h9];exact⟨aSf rfl,rfl⟩)) (ai rk (y2 (ai (fun h=>(by have h8:=h;simp[gb,aA] at h8;have h9:i<l.length:=(by omega);rw[aSd,aQ h9];exact⟨⟨by omega,by rw[aA];omega⟩,rfl⟩)) (ai rk (y1 (ai (fun h=>(by have h8:=h;simp[gb,aA] at h8;have h9:i<l.length:=(by omega);rw[aSd,aQ h9];exact⟨aSf rfl,rfl⟩)) (ai rk (y4 (xc (fun h=>(qY _ _ _ _)) (ai rfl (ai rk ?_)))))))))))))))))))
 refine ai pk (ai (by kernel_rfl) (cd rfl (fun c26=> ?_) fun c26=> ?_))
 · have h9:=c26
   simp only[aSg,decide_eq_true_eq,aA] at h9
   have hi2:i<l.length:=by omega
   have hb:cG (l.getD i .zero).frm (l.getD i .zero).num n.frm n.num=true:=by
    have h10:=h9.2
    rw[aSd,aQ hi2] at h10
    exact h10
   refine sk (bk (rT [0,3,5,11,12,13,14,15,16,17,18,19,20,21,22,23,24,25] (s3 (wq [] [] (⟨l.length - (i+1),by omega,i+1,rfl,by omega,fun j h=>by by_cases e:j=i;exact e▸hb;exact hk j (by omega),rfl⟩) ?_))))
   repeat' apply ai
   all_goals first|exact qx|exact congrArg D.i (aF (by omega))|exact qz
 have hend:i=l.length∨cG (l.getD i .zero).frm (l.getD i .zero).num n.frm n.num=false:=by
  by_cases h:i<l.length
  · right
    have h9:=c26
    rw[decide_eq_true (show((i:Nat):Int)< ((aE l).length:Int) by rw[aA];omega),Bool.true_and,aSd,aQ h] at h9
    exact h9
  · left;omega
 have hins:nG l n=_:=aGt (z:=bB.zero) (p:=fun x=>cG x.frm x.num n.frm n.num) (n:=n) hi hk hend
 refine xt (sq (rD [4] (ai (by simp) (s2 (ai (by exact⟨by rw[aA];exact⟨by first|(simp;done)|(simp;omega),by first|(simp;done)|(simp;omega),by first|(simp;done)|(simp;omega)⟩,eG _⟩) (ai (by exact⟨by first|trivial|rfl|(simp;done),by first|rfl|(simp[aA];done),by first|exact iY l _ _|(simp;done),by(try simp only[aSe,aSi,aSh,aSk,aSr,aA,iL,iM,iN,iO]);show _*48≤_;omega⟩) (s1 (ai (by exact⟨by simp,aSf rfl⟩) (ai (by exact⟨by first|trivial|rfl|(simp;done),by first|rfl|(simp[aA];done),by first|exact iY l _ _|(simp;done),by(try simp only[aSe,aSi,aSh,aSk,aSr,aA,iL,iM,iN,iO]);show _*48≤_;omega⟩) (s2 (ai (by exact⟨by rw[aA];exact⟨by first|(simp;done)|(simp;omega),by first|(simp;done)|(simp;omega),by first|(simp;done)|(simp;omega)⟩,eG _⟩) (ai (by exact⟨by first|trivial|rfl|(simp;done),by first|rfl|(simp[aA];done),by first|exact iY l _ _|(simp;done),by(try simp only[aSe,aSi,aSh,aSk,aSr,aA,iL,iM,iN,iO]);show _*48≤_;omega⟩) (s1 (ai (by kernel_rfl) (rt (eE _ [] [29] rfl (fM rfl rfl rfl ?_ (congrArg D.sl ?_) trivial) rfl rfl))))))))))))))))
 · rfl
 rw[hins,tT,dn];simp[aE,List.map_take,List.map_drop,bB.row]
theorem ah (l:List bB) (a:Int) (ha:0≤a∧a<l.length) (hl:l.length≤100000):Sp 107 2 [tD 0 (.sl (aE l)),tI 1 a] [tD 0 (.sl (aE (gL l a.toNat)))]:=by
 obtain⟨i,rfl⟩:=Int.eq_ofNat_of_zero_le ha.1
 have hw:wrap64 ((i:Int)+1)=((i+1:Nat):Int):=by rw[aF (by omega)];omega
 refine sb Tryz.func107 rfl (sq (rT [0,1] (s1 (sq (rD [4] (ai (by simp) (s2 (ai (by exact⟨by rw[aA];exact⟨by first|(simp;done)|(simp;omega),by first|(simp;done)|(simp;omega),by first|(simp;done)|(simp;omega)⟩,eG _⟩) (ai (by exact⟨by first|trivial|rfl|(simp;done),by first|rfl|(simp[aA];done),by first|exact iY l _ _|(simp;done),by(try simp only[aSe,aSi,aSh,aSk,aSr,aA,iL,iM,iN,iO]);show _*48≤_;omega⟩) (s3 (ai (by rw[hw];exact⟨by rw[aA];exact⟨by first|(simp;done)|(simp;omega),by first|(simp;done)|(simp;omega),by first|(simp;done)|(simp;omega)⟩,eG _⟩) (ai (by exact⟨by first|trivial|rfl|(simp;done),by first|rfl|(simp[aA];done),by first|exact iY l _ _|(simp;done),by(try simp only[hw]);(try simp only[aSe,aSi,aSh,aSk,aSr,aA,iL,iM,iN,iO]);show _*48≤_;omega⟩) (s1 (ai (by kernel_rfl) (rt (eE _ [] [5] rfl (fM rfl rfl rfl ?_ (congrArg D.sl ?_) trivial) rfl rfl))))))))))))))))
 · rfl
 rw[hw,tT,dn];simp[aE,gL,List.map_take,List.map_drop]
theorem xX {l:List bB} {i:Nat} {n:bB}: (aE (midW (fun x:bB=>cG n.frm n.num x.frm x.num) n (l.take i))).length≤l.length+1:=by
 rw[aA,midW]
 split
 · rw[fC,aSk];omega
 rw[aSk];omega
set_option maxHeartbeats 800000 in
theorem lX (l:List bB) (n:bB) (hl:l.length≤100000):Sp 73 2 [tD 0 (.sl (aE l)),tV 1 n.V] [tD 0 (.sl (aE (iX l n)))]:=by
 refine sb Tryz.func73 rfl (sq (rT [0,3,18,19,20,21,22,23,24,25,26,27,28,29,30,31,32] (s2 (sq (rT [0,3,5,18,19,20,21,22,23,24,25,26,27,28,29,30,31,32] (ai (by simp) (s1 (sq (rT [0,3,5,6,18,19,20,21,22,23,24,25,26,27,28,29,30,31,32] (s1 (sq (sq (rT [0,3,5,6,7,18,19,20,21,22,23,24,25,26,27,28,29,30,31,32] (s1 (bk (SW.loopW (n:=l.length) (fun m q=> ∃i:Nat,m=l.length - i∧i≤l.length∧q=[tD 0 (.sl (aE l)),tP 3 3,tO 5 8 (aE (midW (fun x:bB=>cG n.frm n.num x.frm x.num) n (l.take i))).length,tB 6 ((l.take i).any (fun x:bB=>cG n.frm n.num x.frm x.num)),tI 7 (i:Nat),oB 3 29 [.d (.i (n).frm),.d (.i (n).num),.d (.i (n).to),.d (.i (n).til),.d (.s (n).text)],oR 8 29 5 (aE (midW (fun x:bB=>cG n.frm n.num x.frm x.num) n (l.take i)))]) ?_ ?_))))))))))))))))
 · refine wq (σ':=[tD 0 (.sl (aE l)),tP 3 3,tO 5 8 (aE (midW (fun x:bB=>cG n.frm n.num x.frm x.num) n (l.take 0))).length,tB 6 ((l.take 0).any (fun x:bB=>cG n.frm n.num x.frm x.num)),tI 7 (0:Nat),oB 3 29 [.d (.i (n).frm),.d (.i (n).num),.d (.i (n).to),.d (.i (n).til),.d (.s (n).text)],oR 8 29 5 (aE (midW (fun x:bB=>cG n.frm n.num x.frm x.num) n (l.take 0)))]) [] [] (⟨0,rfl,aSj _,rfl⟩) ?_
   repeat' apply ai
   all_goals first|exact qx|rfl|(simp[midW];done)|exact qz
 rintro n s ⟨i,rfl,hi,rfl⟩
 refine sq (sq (rT [0,3,5,6,7,12,18,19,20,21,22,23,24,25,26,27,28,29,30,31,32] (s4 (cd rfl (fun c12=> ?_) fun c12=> ?_))))
 · have hi2:i<l.length:=by simpa[aA] using c12
   have hg:=aQ (l:=l) hi2
   refine sk (sq (bk (sq (sq (rD [0,3,5,6,7,18,19,20,21,22,23,24,25,26,27,28,29,30,31,32,33] (s3 (y4 (y2 (ai (fun h=>(by have h9:=hi2;rw[aSd,aQ h9];exact⟨⟨by omega,by rw[aA];omega⟩,rfl⟩)) (ai rk (y1 (ai (fun h=>(by have h9:=hi2;rw[aSd,aQ h9];exact⟨aSf rfl,rfl⟩)) (ai rk (y2 (ai (fun h=>(by have h9:=hi2;rw[aSd,aQ h9];exact⟨⟨by omega,by rw[aA];omega⟩,rfl⟩)) (ai rk (y1 (ai (fun h=>(by have h9:=hi2;rw[aSd,aQ h9];exact⟨aSf rfl,rfl⟩)) (ai rk (xc (fun h=>(pL _ _ _ _)) (ai rfl (ai rk ?_))))))))))))))))))))))
   refine ai pk (ai (by kernel_rfl) (cd rfl (fun c33=> ?_) fun c33=> ?_))
   · have h9:=c33
     rw[aSd,hg] at h9
     rw[aSg] at h9
     have hq: (l.take i).any (fun x:bB=>cG n.frm n.num x.frm x.num)=false∧cG n.frm n.num (l.getD i .zero).frm (l.getD i .zero).num=true:=⟨by simpa only[Bool.not_eq_true'] using h9.1,h9.2⟩
     have hm:=aB6 (q:=(fun x:bB=>cG n.frm n.num x.frm x.num)) (n:=n) (x:=l.getD i .zero) hq.1 hq.2
     rw[← fU hi2] at hm
     have ha: (l.take (i+1)).any (fun x:bB=>cG n.frm n.num x.frm x.num)=true:=by rw[fU (z:=bB.zero) hi2,gd,hq.1];exact hq.2
     refine sq (rT [0,3,5,7,18,19,20,21,22,23,24,25,26,27,28,29,30,31,32] (s2 (ai (by exact⟨by simp,aSf rfl⟩) (ai (by exact⟨by first|trivial|rfl|(simp;done),by first|rfl|(simp;done),by first|(simp;done)|(intro r hr;rw[aSs.1 hr];rfl),by(try simp only[aSe,aSi,aSh]);have hm:=xX (l:=l) (i:=i) (n:=n);show _*48≤_;omega⟩) (s1 (rT [0,3,5,6,7,18,19,20,21,22,23,24,25,26,27,28,29,30,31,32] (s1 (rT [0,3,5,6,7,18,19,20,21,22,23,24,25,26,27,28,29,30,31,32] (s3 (ai (by have h9:=hi2;rw[aSd,aQ h9];exact⟨⟨by omega,by rw[aA];omega⟩,rfl⟩) (ai (by have h9:=hi2;rw[aSd,aQ h9];exact⟨aSf rfl,rfl⟩) (ai (by exact⟨by simp,aSf rfl⟩) (ai (by exact⟨by first|trivial|rfl|(simp;done),by first|rfl|(simp;done),by first|(simp;done)|(intro r hr;rw[aSs.1 hr];rfl),by(try simp only[aSe,aSi,aSh]);have hm:=xX (l:=l) (i:=i) (n:=n);show _*48≤_;omega⟩) (s1 (rT [0,3,5,6,7,18,19,20,21,22,23,24,25,26,27,28,29,30,31,32] (s3 (wq [] [] (⟨l.length - (i+1),by omega,i+1,rfl,by omega,rfl⟩) ?_)))))))))))))))))
     repeat' apply ai
     all_goals first|exact qx|exact congrArg D.i (by rw[aF (by omega)];omega)|(rw[ha];done)|exact congrArg D.b ha.symm|(rw[hm];simp[aE,aSd];done)|(rw[hm,aSd,hg];simp only[aE,List.map_append,List.map_cons,List.map_nil];rfl)|exact qz
   have h9:=c33
   rw[aSd,hg] at h9
   have hq: (l.take i).any (fun x:bB=>cG n.frm n.num x.frm x.num)=true∨cG n.frm n.num (l.getD i .zero).frm (l.getD i .zero).num=false:=by
    cases h: (l.take i).any (fun x:bB=>cG n.frm n.num x.frm x.num) with
    |true=>exact .inl rfl
    |false=>rw[h] at h9;exact .inr h9
   have hm:=aGu (q:=(fun x:bB=>cG n.frm n.num x.frm x.num)) (n:=n) (x:=l.getD i .zero) hq
   rw[← fU hi2] at hm
   have ha: (l.take (i+1)).any (fun x:bB=>cG n.frm n.num x.frm x.num)=(l.take i).any (fun x:bB=>cG n.frm n.num x.frm x.num):=by
    rw[fU (z:=bB.zero) hi2,gd]
    rcases hq with h|h
    · rw[h];rfl
    · show((l.take i).any (fun x:bB=>cG n.frm n.num x.frm x.num)||(cG n.frm n.num (l.getD i .zero).frm (l.getD i .zero).num))=_
      rw[h,Bool.or_false]
   refine sk (rT [0,3,5,6,7,18,19,20,21,22,23,24,25,26,27,28,29,30,31,32] (s3 (ai (by have h9:=hi2;rw[aSd,aQ h9];exact⟨⟨by omega,by rw[aA];omega⟩,rfl⟩) (ai (by have h9:=hi2;rw[aSd,aQ h9];exact⟨aSf rfl,rfl⟩) (ai (by exact⟨by simp,aSf rfl⟩) (ai (by exact⟨by first|trivial|rfl|(simp;done),by first|rfl|(simp;done),by first|(simp;done)|(intro r hr;rw[aSs.1 hr];rfl),by(try simp only[aSe,aSi,aSh]);have hm:=xX (l:=l) (i:=i) (n:=n);show _*48≤_;omega⟩) (s1 (rT [0,3,5,6,7,18,19,20,21,22,23,24,25,26,27,28,29,30,31,32] (s3 (wq [] [] (⟨l.length - (i+1),by omega,i+1,rfl,by omega,rfl⟩) ?_))))))))))
   repeat' apply ai
   all_goals first|exact qx|exact congrArg D.i (by rw[aF (by omega)];omega)|(rw[ha];done)|exact congrArg D.b ha.symm|(rw[hm];simp[aE,aSd];done)|(rw[hm,aSd,hg];simp only[aE,List.map_append,List.map_cons,List.map_nil];rfl)|exact qz
 have hi3:i=l.length:=by simp[aA] at c12;omega
 subst hi3
 refine xt (sq (sq (rT [3,5,46] (s2 (cd rfl (fun c46=> ?_) fun c46=> ?_)))))
 · have he: (l.take l.length).any (fun x:bB=>cG n.frm n.num x.frm x.num)=false:=by simpa using c46
   refine rT [5] (s2 (ai (by exact⟨by simp,aSf rfl⟩) (ai (by exact⟨by first|trivial|rfl|(simp;done),by first|rfl|(simp;done),by first|(simp;done)|(intro r hr;rw[aSs.1 hr];rfl),by(try simp only[aSe,aSi,aSh]);have hm:=xX (l:=l) (i:=l.length) (n:=n);show _*48≤_;omega⟩) (s1 (sq (rT [4] (s2 (rt (eE _ [] [8] rfl (fM rfl rfl rfl ?_ (congrArg D.sl ?_) trivial) rfl rfl)))))))))
   · rfl
   rw[aSv] at he ⊢; rw[xC,gf,he];simp[aE,bB.row]
 have he: (l.take l.length).any (fun x:bB=>cG n.frm n.num x.frm x.num)=true:=by simpa using c46
 refine sk (sq (rT [4] (s2 (rt (eE _ [] [8] rfl (fM rfl rfl rfl ?_ (congrArg D.sl ?_) trivial) rfl rfl)))))
 · rfl
 rw[aSv] at he ⊢; rw[xC,gf,he];simp[aE,bB.row]
set_option maxHeartbeats 800000 in
theorem vL (l:List bZ) (n:bZ) (hl:l.length≤100000):Sp 108 2 [tD 0 (.sl (aL l)),tV 1 n.V] [tD 0 (.sl (aL (rU l n)))]:=by
 refine sb Tryz.func108 rfl (sq (rT [0,3,11,12,13,14,15,16,17,18,19,20,21,22,23,24,25] (s2 (sq (rT [0,3,5,11,12,13,14,15,16,17,18,19,20,21,22,23,24,25] (s1 (sq (bk (SW.loopW (n:=l.length) (fun m q=> ∃i:Nat,m=l.length - i∧i≤l.length∧(∀j,j<i→cG (l.getD j .zero).frm (l.getD j .zero).num n.frm n.num=true)∧q=[tD 0 (.sl (aL l)),tP 3 3,tI 5 (i:Nat),oB 3 39 [.d (.i (n).frm),.d (.i (n).num),.d (.i (n).til)]]) ?_ ?_)))))))))
 · exact wq (σ':=[tD 0 (.sl (aL l)),tP 3 3,tI 5 (0:Nat),oB 3 39 [.d (.i (n).frm),.d (.i (n).num),.d (.i (n).til)]]) [] [] (⟨0,rfl,aSj _,fun j h=>absurd h (by omega),rfl⟩) qz
 rintro n s ⟨i,rfl,hi,hk,rfl⟩
 refine sq (sq (rD [0,3,5,11,12,13,14,15,16,17,18,19,20,21,22,23,24,25,26] (s5 (y2 (ai (fun h=>(by have h8:=h;simp[gb,aB] at h8;have h9:i<l.length:=(by omega);rw[aSd,bR h9];exact⟨⟨by omega,by rw[aB];omega⟩,rfl⟩)) (ai rk (y1 (ai (fun h=>(by have h8:=h;simp[gb,aB] at h8;have h9:i<l.length:=(by omega);rw[aSd,bR h9];exact⟨aSf rfl,rfl⟩)) (ai rk (y2 (ai (fun h=>(by have h8:=h;simp[gb,aB] at h8;have h9:i<l.length:=(by omega);rw[aSd,bR h9];exact⟨⟨by omega,by rw[aB];omega⟩,rfl⟩)) (ai rk (y1 (ai (fun h=>(by have h8:=h;simp[gb,aB] at h8;have h9:i<l.length:=(by omega);rw[aSd,bR h9];exact⟨aSf rfl,rfl⟩)) (ai rk (y4 (xc (fun h=>(qY _ _ _ _)) (ai rfl (ai rk ?_)))))))))))))))))))
 refine ai pk (ai (by kernel_rfl) (cd rfl (fun c26=> ?_) fun c26=> ?_))
 · have h9:=c26
   simp only[aSg,decide_eq_true_eq,aB] at h9
   have hi2:i<l.length:=by omega
   have hb:cG (l.getD i .zero).frm (l.getD i .zero).num n.frm n.num=true:=by
    have h10:=h9.2
    rw[aSd,bR hi2] at h10
    exact h10
   refine sk (bk (rT [0,3,5,11,12,13,14,15,16,17,18,19,20,21,22,23,24,25] (s3 (wq [] [] (⟨l.length - (i+1),by omega,i+1,rfl,by omega,fun j h=>by by_cases e:j=i;exact e▸hb;exact hk j (by omega),rfl⟩) ?_))))
   repeat' apply ai
   all_goals first|exact qx|exact congrArg D.i (aF (by omega))|exact qz
 have hend:i=l.length∨cG (l.getD i .zero).frm (l.getD i .zero).num n.frm n.num=false:=by
  by_cases h:i<l.length
  · right
    have h9:=c26
    rw[decide_eq_true (show((i:Nat):Int)< ((aL l).length:Int) by rw[aB];omega),Bool.true_and,aSd,bR h] at h9
    exact h9
  · left;omega
 have hins:rU l n=_:=aGt (z:=bZ.zero) (p:=fun x=>cG x.frm x.num n.frm n.num) (n:=n) hi hk hend
 refine xt (sq (rD [4] (ai (by simp) (s2 (ai (by exact⟨by rw[aB];exact⟨by first|(simp;done)|(simp;omega),by first|(simp;done)|(simp;omega),by first|(simp;done)|(simp;omega)⟩,gP _⟩) (ai (by exact⟨by first|trivial|rfl|(simp;done),by first|rfl|(simp[aB];done),by first|exact xD l _ _|(simp;done),by(try simp only[aSe,aSi,aSh,aSk,aSr,aB,iL,iM,iN,iO]);show _*24≤_;omega⟩) (s1 (ai (by exact⟨by simp,aSf rfl⟩) (ai (by exact⟨by first|trivial|rfl|(simp;done),by first|rfl|(simp[aB];done),by first|exact xD l _ _|(simp;done),by(try simp only[aSe,aSi,aSh,aSk,aSr,aB,iL,iM,iN,iO]);show _*24≤_;omega⟩) (s2 (ai (by exact⟨by rw[aB];exact⟨by first|(simp;done)|(simp;omega),by first|(simp;done)|(simp;omega),by first|(simp;done)|(simp;omega)⟩,gP _⟩) (ai (by exact⟨by first|trivial|rfl|(simp;done),by first|rfl|(simp[aB];done),by first|exact xD l _ _|(simp;done),by(try simp only[aSe,aSi,aSh,aSk,aSr,aB,iL,iM,iN,iO]);show _*24≤_;omega⟩) (s1 (ai (by kernel_rfl) (rt (eE _ [] [29] rfl (fM rfl rfl rfl ?_ (congrArg D.sl ?_) trivial) rfl rfl))))))))))))))))
 · rfl
 rw[hins,tT,dn];simp[aL,List.map_take,List.map_drop,bZ.row]
theorem xY {l:List bZ} {i:Nat} {n:bZ}: (aL (midW (fun x:bZ=>cG n.frm n.num x.frm x.num) n (l.take i))).length≤l.length+1:=by
 rw[aB,midW]
 split
 · rw[fC,aSk];omega
 rw[aSk];omega
set_option maxHeartbeats 800000 in
theorem pN (l:List bZ) (n:bZ) (hl:l.length≤100000):Sp 77 2 [tD 0 (.sl (aL l)),tV 1 n.V] [tD 0 (.sl (aL (nA l n)))]:=by
 refine sb Tryz.func77 rfl (sq (rT [0,3,18,19,20,21,22,23,24,25,26,27,28,29,30,31,32] (s2 (sq (rT [0,3,5,18,19,20,21,22,23,24,25,26,27,28,29,30,31,32] (ai (by simp) (s1 (sq (rT [0,3,5,6,18,19,20,21,22,23,24,25,26,27,28,29,30,31,32] (s1 (sq (sq (rT [0,3,5,6,7,18,19,20,21,22,23,24,25,26,27,28,29,30,31,32] (s1 (bk (SW.loopW (n:=l.length) (fun m q=> ∃i:Nat,m=l.length - i∧i≤l.length∧q=[tD 0 (.sl (aL l)),tP 3 3,tO 5 8 (aL (midW (fun x:bZ=>cG n.frm n.num x.frm x.num) n (l.take i))).length,tB 6 ((l.take i).any (fun x:bZ=>cG n.frm n.num x.frm x.num)),tI 7 (i:Nat),oB 3 39 [.d (.i (n).frm),.d (.i (n).num),.d (.i (n).til)],oR 8 39 3 (aL (midW (fun x:bZ=>cG n.frm n.num x.frm x.num) n (l.take i)))]) ?_ ?_))))))))))))))))
 · refine wq (σ':=[tD 0 (.sl (aL l)),tP 3 3,tO 5 8 (aL (midW (fun x:bZ=>cG n.frm n.num x.frm x.num) n (l.take 0))).length,tB 6 ((l.take 0).any (fun x:bZ=>cG n.frm n.num x.frm x.num)),tI 7 (0:Nat),oB 3 39 [.d (.i (n).frm),.d (.i (n).num),.d (.i (n).til)],oR 8 39 3 (aL (midW (fun x:bZ=>cG n.frm n.num x.frm x.num) n (l.take 0)))]) [] [] (⟨0,rfl,aSj _,rfl⟩) ?_
   repeat' apply ai
   all_goals first|exact qx|rfl|(simp[midW];done)|exact qz
 rintro n s ⟨i,rfl,hi,rfl⟩
 refine sq (sq (rT [0,3,5,6,7,12,18,19,20,21,22,23,24,25,26,27,28,29,30,31,32] (s4 (cd rfl (fun c12=> ?_) fun c12=> ?_))))
 · have hi2:i<l.length:=by simpa[aB] using c12
   have hg:=bR (l:=l) hi2
   refine sk (sq (bk (sq (sq (rD [0,3,5,6,7,18,19,20,21,22,23,24,25,26,27,28,29,30,31,32,33] (s3 (y4 (y2 (ai (fun h=>(by have h9:=hi2;rw[aSd,bR h9];exact⟨⟨by omega,by rw[aB];omega⟩,rfl⟩)) (ai rk (y1 (ai (fun h=>(by have h9:=hi2;rw[aSd,bR h9];exact⟨aSf rfl,rfl⟩)) (ai rk (y2 (ai (fun h=>(by have h9:=hi2;rw[aSd,bR h9];exact⟨⟨by omega,by rw[aB];omega⟩,rfl⟩)) (ai rk (y1 (ai (fun h=>(by have h9:=hi2;rw[aSd,bR h9];exact⟨aSf rfl,rfl⟩)) (ai rk (xc (fun h=>(pL _ _ _ _)) (ai rfl (ai rk ?_))))))))))))))))))))))
   refine ai pk (ai (by kernel_rfl) (cd rfl (fun c33=> ?_) fun c33=> ?_))
   · have h9:=c33
     rw[aSd,hg] at h9
     rw[aSg] at h9
     have hq: (l.take i).any (fun x:bZ=>cG n.frm n.num x.frm x.num)=false∧cG n.frm n.num (l.getD i .zero).frm (l.getD i .zero).num=true:=⟨by simpa only[Bool.not_eq_true'] using h9.1,h9.2⟩
     have hm:=aB6 (q:=(fun x:bZ=>cG n.frm n.num x.frm x.num)) (n:=n) (x:=l.getD i .zero) hq.1 hq.2
     rw[← fU hi2] at hm
     have ha: (l.take (i+1)).any (fun x:bZ=>cG n.frm n.num x.frm x.num)=true:=by rw[fU (z:=bZ.zero) hi2,gd,hq.1];exact hq.2
     refine sq (rT [0,3,5,7,18,19,20,21,22,23,24,25,26,27,28,29,30,31,32] (s2 (ai (by exact⟨by simp,aSf rfl⟩) (ai (by exact⟨by first|trivial|rfl|(simp;done),by first|rfl|(simp;done),by first|(simp;done)|(intro r hr;rw[aSs.1 hr];rfl),by(try simp only[aSe,aSi,aSh]);have hm:=xY (l:=l) (i:=i) (n:=n);show _*24≤_;omega⟩) (s1 (rT [0,3,5,6,7,18,19,20,21,22,23,24,25,26,27,28,29,30,31,32] (s1 (rT [0,3,5,6,7,18,19,20,21,22,23,24,25,26,27,28,29,30,31,32] (s3 (ai (by have h9:=hi2;rw[aSd,bR h9];exact⟨⟨by omega,by rw[aB];omega⟩,rfl⟩) (ai (by have h9:=hi2;rw[aSd,bR h9];exact⟨aSf rfl,rfl⟩) (ai (by exact⟨by simp,aSf rfl⟩) (ai (by exact⟨by first|trivial|rfl|(simp;done),by first|rfl|(simp;done),by first|(simp;done)|(intro r hr;rw[aSs.1 hr];rfl),by(try simp only[aSe,aSi,aSh]);have hm:=xY (l:=l) (i:=i) (n:=n);show _*24≤_;omega⟩) (s1 (rT [0,3,5,6,7,18,19,20,21,22,23,24,25,26,27,28,29,30,31,32] (s3 (wq [] [] (⟨l.length - (i+1),by omega,i+1,rfl,by omega,rfl⟩) ?_)))))))))))))))))
     repeat' apply ai
     all_goals first|exact qx|exact congrArg D.i (by rw[aF (by omega)];omega)|(rw[ha];done)|exact congrArg D.b ha.symm|(rw[hm];simp[aL,aSd];done)|(rw[hm,aSd,hg];simp only[aL,List.map_append,List.map_cons,List.map_nil];rfl)|exact qz
   have h9:=c33
   rw[aSd,hg] at h9
   have hq: (l.take i).any (fun x:bZ=>cG n.frm n.num x.frm x.num)=true∨cG n.frm n.num (l.getD i .zero).frm (l.getD i .zero).num=false:=by
    cases h: (l.take i).any (fun x:bZ=>cG n.frm n.num x.frm x.num) with
    |true=>exact .inl rfl
    |false=>rw[h] at h9;exact .inr h9
   have hm:=aGu (q:=(fun x:bZ=>cG n.frm n.num x.frm x.num)) (n:=n) (x:=l.getD i .zero) hq
   rw[← fU hi2] at hm
   have ha: (l.take (i+1)).any (fun x:bZ=>cG n.frm n.num x.frm x.num)=(l.take i).any (fun x:bZ=>cG n.frm n.num x.frm x.num):=by
    rw[fU (z:=bZ.zero) hi2,gd]
    rcases hq with h|h
    · rw[h];rfl
    · show((l.take i).any (fun x:bZ=>cG n.frm n.num x.frm x.num)||(cG n.frm n.num (l.getD i .zero).frm (l.getD i .zero).num))=_
      rw[h,Bool.or_false]
   refine sk (rT [0,3,5,6,7,18,19,20,21,22,23,24,25,26,27,28,29,30,31,32] (s3 (ai (by have h9:=hi2;rw[aSd,bR h9];exact⟨⟨by omega,by rw[aB];omega⟩,rfl⟩) (ai (by have h9:=hi2;rw[aSd,bR h9];exact⟨aSf rfl,rfl⟩) (ai (by exact⟨by simp,aSf rfl⟩) (ai (by exact⟨by first|trivial|rfl|(simp;done),by first|rfl|(simp;done),by first|(simp;done)|(intro r hr;rw[aSs.1 hr];rfl),by(try simp only[aSe,aSi,aSh]);have hm:=xY (l:=l) (i:=i) (n:=n);show _*24≤_;omega⟩) (s1 (rT [0,3,5,6,7,18,19,20,21,22,23,24,25,26,27,28,29,30,31,32] (s3 (wq [] [] (⟨l.length - (i+1),by omega,i+1,rfl,by omega,rfl⟩) ?_))))))))))
   repeat' apply ai
   all_goals first|exact qx|exact congrArg D.i (by rw[aF (by omega)];omega)|(rw[ha];done)|exact congrArg D.b ha.symm|(rw[hm];simp[aL,aSd];done)|(rw[hm,aSd,hg];simp only[aL,List.map_append,List.map_cons,List.map_nil];rfl)|exact qz
 have hi3:i=l.length:=by simp[aB] at c12;omega
 subst hi3
 refine xt (sq (sq (rT [3,5,46] (s2 (cd rfl (fun c46=> ?_) fun c46=> ?_)))))
 · have he: (l.take l.length).any (fun x:bZ=>cG n.frm n.num x.frm x.num)=false:=by simpa using c46
   refine rT [5] (s2 (ai (by exact⟨by simp,aSf rfl⟩) (ai (by exact⟨by first|trivial|rfl|(simp;done),by first|rfl|(simp;done),by first|(simp;done)|(intro r hr;rw[aSs.1 hr];rfl),by(try simp only[aSe,aSi,aSh]);have hm:=xY (l:=l) (i:=l.length) (n:=n);show _*24≤_;omega⟩) (s1 (sq (rT [4] (s2 (rt (eE _ [] [8] rfl (fM rfl rfl rfl ?_ (congrArg D.sl ?_) trivial) rfl rfl)))))))))
   · rfl
   rw[aSv] at he ⊢; rw[tS,gf,he];simp[aL,bZ.row]
 have he: (l.take l.length).any (fun x:bZ=>cG n.frm n.num x.frm x.num)=true:=by simpa using c46
 refine sk (sq (rT [4] (s2 (rt (eE _ [] [8] rfl (fM rfl rfl rfl ?_ (congrArg D.sl ?_) trivial) rfl rfl)))))
 · rfl
 rw[aSv] at he ⊢; rw[tS,gf,he];simp[aL,bZ.row]
set_option maxHeartbeats 1600000 in
theorem sr (k:aR) (t:Int) (hb:k.held.length≤100000∧k.marks.length≤100000∧k.inbox.length≤100000):Sp 103 2 [tV 0 k.V,tI 1 t] [tV 0 ((jP k t).V)]:=by
 refine sb Tryz.func103 rfl (sq (rT [1,2,4] (s2 (sq (rT [1,2,4,5] (s9 (s1 (sq (sq (rT [1,2,4,5,19,20,21] (s4 (bk (SW.nilBox 5 100 3 29 5 rfl rfl rfl (SW.nilBox 5 101 4 39 3 rfl rfl rfl (SW.loopW (n:=k.held.length) (fun m q=> ∃i:Nat,m=k.held.length - i∧i≤k.held.length∧q=[tI 1 t,tP 2 2,tP 4 4,tP 5 5,tD 19 (.sl (aE k.held)),tI 20 (k.held.length:Nat),tI 21 (i:Nat),oB 2 26 [.d (.i k.id),.d (.i k.time),.d (.i k.next),.d (.sl (aE k.held)),.d (.sl (aL k.marks)),.d (.sl (aE k.inbox))],oB 4 26 [.d (.i 0),.d (.i 0),.d (.i 0),.nil,.nil,.nil],oB 5 26 [.d (.i k.id),.d (.i t),.d (.i k.next),.own 100 (aE ((k.held.take i).filter (fun n=>decide (t<n.til)))).length,.own 101 (aL []).length,.d (.sl (aE k.inbox))],oR 100 29 5 (aE ((k.held.take i).filter (fun n=>decide (t<n.til)))),oR 101 39 3 (aL [])]) ?_ ?_)))))))))))))))
 · refine wq (σ':=[tI 1 t,tP 2 2,tP 4 4,tP 5 5,tD 19 (.sl (aE k.held)),tI 20 (k.held.length:Nat),tI 21 (0:Nat),oB 2 26 [.d (.i k.id),.d (.i k.time),.d (.i k.next),.d (.sl (aE k.held)),.d (.sl (aL k.marks)),.d (.sl (aE k.inbox))],oB 4 26 [.d (.i 0),.d (.i 0),.d (.i 0),.nil,.nil,.nil],oB 5 26 [.d (.i k.id),.d (.i t),.d (.i k.next),.own 100 (aE ((k.held.take 0).filter (fun n=>decide (t<n.til)))).length,.own 101 (aL []).length,.d (.sl (aE k.inbox))],oR 100 29 5 (aE ((k.held.take 0).filter (fun n=>decide (t<n.til)))),oR 101 39 3 (aL [])]) [] [] (⟨0,rfl,aSj _,rfl⟩) ?_
   repeat' apply ai
   all_goals first|exact qx|rfl|(rw[aA];done)|(rw[aB];done)|exact qz
 rintro n s ⟨i,rfl,hi,rfl⟩
 refine sq (rT [1,2,4,5,19,20,21,22] (s1 (sq (cd rfl (fun c22=> ?_) fun c22=> ?_))))
 · have hi2:i<k.held.length:=by simpa using c22
   have hg:=aQ (l:=k.held) hi2
   refine sk (sq (bk (sq (rT [1,2,4,5,7,19,20,21] (ai (by rw[aSd,hg];exact⟨⟨by omega,by rw[aA];omega⟩,rfl⟩) (ai (by rw[aSd,hg];exact⟨aSf rfl,rfl⟩) (s2 (sq (wa [tI 1 t,tP 2 2,tP 4 4,tP 5 5,tD 19 (.sl (aE k.held)),tI 20 (k.held.length:Nat),tI 21 (i:Nat),oB 2 26 [.d (.i k.id),.d (.i k.time),.d (.i k.next),.d (.sl (aE k.held)),.d (.sl (aL k.marks)),.d (.sl (aE k.inbox))],oB 4 26 [.d (.i 0),.d (.i 0),.d (.i 0),.nil,.nil,.nil],oB 5 26 [.d (.i k.id),.d (.i t),.d (.i k.next),.own 100 (aE ((k.held.take i).filter (fun n=>decide (t<n.til)))).length,.own 101 (aL []).length,.d (.sl (aE k.inbox))],oR 100 29 5 (aE ((k.held.take i).filter (fun n=>decide (t<n.til)))),oR 101 39 3 (aL []),tP 7 7,oB 7 29 [.d (.i (k.held.getD i .zero).frm),.d (.i (k.held.getD i .zero).num),.d (.i (k.held.getD i .zero).to),.d (.i (k.held.getD i .zero).til),.d (.s (k.held.getD i .zero).text)]] [] [] ?_ ?_)))))))))
   · repeat' apply ai
     all_goals first|exact qx|(rw[aSd,hg];rfl)|exact qz
   refine rT [1,2,4,5,7,19,20,21,28] (s4 (cd rfl (fun c28=> ?_) fun c28=> ?_))
   · have hp: (fun n:bB=>decide (t<n.til)) (k.held.getD i .zero)=true:=c28
     have hf:=xB (z:=bB.zero) (p:=fun n=>decide (t<n.til)) hi2 hp
     refine rT [1,2,4,5,19,20,21] (s3 (ai (by exact⟨by simp,aSf rfl⟩) (ai (by exact⟨by first|trivial|rfl|(simp;done),by first|rfl|(simp;done),by first|(simp;done)|(intro r hr;rw[aSs.1 hr];rfl),by(have hm:=(List.length_filter_le (fun n=>decide (t<n.til)) (k.held.take i)));rw[aSk] at hm;simp only[aA,aSi,aSh];show _*48≤_;omega⟩) (s2 (rT [1,2,4,5,19,20,21] (s2 (wq [] [] (⟨k.held.length - (i+1),by omega,i+1,rfl,by omega,rfl⟩) ?_)))))))
     repeat' apply ai
     all_goals first|exact qx|exact congrArg D.i (by rw[aF (by omega)];omega)|(rw[hf];simp[aE,aL,bB.row,bZ.row];done)|(rw[hf];done)|exact qz
   have hp: (fun n:bB=>decide (t<n.til)) (k.held.getD i .zero)=false:=c28
   have hf:=be (z:=bB.zero) (p:=fun n=>decide (t<n.til)) hi2 hp
   refine sk (rT [1,2,4,5,19,20,21] (s2 (wq [] [] (⟨k.held.length - (i+1),by omega,i+1,rfl,by omega,rfl⟩) ?_)))
   repeat' apply ai
   all_goals first|exact qx|exact congrArg D.i (by rw[aF (by omega)];omega)|(rw[hf];simp[aE,aL,bB.row,bZ.row];done)|(rw[hf];done)|exact qz
 have hi3:i=k.held.length:=by simp at c22;omega
 subst hi3
 clear hi
 refine xt (sq (sq (rT [1,4,5,37,38,39] (s4 (bk (SW.loopW (n:=k.marks.length) (fun m q=> ∃i:Nat,m=k.marks.length - i∧i≤k.marks.length∧q=[tI 1 t,tP 4 4,tP 5 5,tD 37 (.sl (aL k.marks)),tI 38 (k.marks.length:Nat),tI 39 (i:Nat),oB 4 26 [.d (.i 0),.d (.i 0),.d (.i 0),.nil,.nil,.nil],oB 5 26 [.d (.i k.id),.d (.i t),.d (.i k.next),.own 100 (aE ((k.held.take k.held.length).filter (fun n=>decide (t<n.til)))).length,.own 101 (aL ((k.marks.take i).filter (fun n=>decide (t<n.til)))).length,.d (.sl (aE k.inbox))],oR 100 29 5 (aE ((k.held.take k.held.length).filter (fun n=>decide (t<n.til)))),oR 101 39 3 (aL ((k.marks.take i).filter (fun n=>decide (t<n.til))))]) ?_ ?_))))))
 · refine wq (σ':=[tI 1 t,tP 4 4,tP 5 5,tD 37 (.sl (aL k.marks)),tI 38 (k.marks.length:Nat),tI 39 (0:Nat),oB 4 26 [.d (.i 0),.d (.i 0),.d (.i 0),.nil,.nil,.nil],oB 5 26 [.d (.i k.id),.d (.i t),.d (.i k.next),.own 100 (aE ((k.held.take k.held.length).filter (fun n=>decide (t<n.til)))).length,.own 101 (aL ((k.marks.take 0).filter (fun n=>decide (t<n.til)))).length,.d (.sl (aE k.inbox))],oR 100 29 5 (aE ((k.held.take k.held.length).filter (fun n=>decide (t<n.til)))),oR 101 39 3 (aL ((k.marks.take 0).filter (fun n=>decide (t<n.til))))]) [] [] (⟨0,rfl,aSj _,rfl⟩) ?_
   repeat' apply ai
   all_goals first|exact qx|rfl|(rw[aA];done)|(rw[aB];done)|exact qz
 rintro n s ⟨i,rfl,hi,rfl⟩
 refine sq (rT [1,4,5,37,38,39,40] (s1 (sq (cd rfl (fun c40=> ?_) fun c40=> ?_))))
 · have hi2:i<k.marks.length:=by simpa using c40
   have hg:=bR (l:=k.marks) hi2
   refine sk (sq (bk (sq (rT [1,4,5,9,37,38,39] (ai (by rw[aSd,hg];exact⟨⟨by omega,by rw[aB];omega⟩,rfl⟩) (ai (by rw[aSd,hg];exact⟨aSf rfl,rfl⟩) (s2 (sq (wa [tI 1 t,tP 4 4,tP 5 5,tD 37 (.sl (aL k.marks)),tI 38 (k.marks.length:Nat),tI 39 (i:Nat),oB 4 26 [.d (.i 0),.d (.i 0),.d (.i 0),.nil,.nil,.nil],oB 5 26 [.d (.i k.id),.d (.i t),.d (.i k.next),.own 100 (aE ((k.held.take k.held.length).filter (fun n=>decide (t<n.til)))).length,.own 101 (aL ((k.marks.take i).filter (fun n=>decide (t<n.til)))).length,.d (.sl (aE k.inbox))],oR 100 29 5 (aE ((k.held.take k.held.length).filter (fun n=>decide (t<n.til)))),oR 101 39 3 (aL ((k.marks.take i).filter (fun n=>decide (t<n.til)))),tP 9 9,oB 9 39 [.d (.i (k.marks.getD i .zero).frm),.d (.i (k.marks.getD i .zero).num),.d (.i (k.marks.getD i .zero).til)]] [] [] ?_ ?_)))))))))
   · repeat' apply ai
     all_goals first|exact qx|(rw[aSd,hg];rfl)|exact qz
   refine rT [1,4,5,9,37,38,39,46] (s4 (cd rfl (fun c46=> ?_) fun c46=> ?_))
   · have hp: (fun n:bZ=>decide (t<n.til)) (k.marks.getD i .zero)=true:=c46
     have hf:=xB (z:=bZ.zero) (p:=fun n=>decide (t<n.til)) hi2 hp
     refine rT [1,4,5,37,38,39] (s3 (ai (by exact⟨by simp,aSf rfl⟩) (ai (by exact⟨by first|trivial|rfl|(simp;done),by first|rfl|(simp;done),by first|(simp;done)|(intro r hr;rw[aSs.1 hr];rfl),by(have hm:=(List.length_filter_le (fun n=>decide (t<n.til)) (k.marks.take i)));rw[aSk] at hm;simp only[aB,aSi,aSh];show _*24≤_;omega⟩) (s2 (rT [1,4,5,37,38,39] (s2 (wq [] [] (⟨k.marks.length - (i+1),by omega,i+1,rfl,by omega,rfl⟩) ?_)))))))
     repeat' apply ai
     all_goals first|exact qx|exact congrArg D.i (by rw[aF (by omega)];omega)|(rw[hf];simp[aE,aL,bB.row,bZ.row];done)|(rw[hf];done)|exact qz
   have hp: (fun n:bZ=>decide (t<n.til)) (k.marks.getD i .zero)=false:=c46
   have hf:=be (z:=bZ.zero) (p:=fun n=>decide (t<n.til)) hi2 hp
   refine sk (rT [1,4,5,37,38,39] (s2 (wq [] [] (⟨k.marks.length - (i+1),by omega,i+1,rfl,by omega,rfl⟩) ?_)))
   repeat' apply ai
   all_goals first|exact qx|exact congrArg D.i (by rw[aF (by omega)];omega)|(rw[hf];simp[aE,aL,bB.row,bZ.row];done)|(rw[hf];done)|exact qz
 have hi3:i=k.marks.length:=by simp at c40;omega
 subst hi3
 refine xt (sq (rT [4] (s2 (rt (rq [] [100,101] rfl ?_)))))
 repeat' apply ai
 all_goals try exact qx
 all_goals(first|with_reducible rfl|(simp[jP];done))
set_option maxHeartbeats 1600000 in
theorem ss (k:aR) (t:Int) (hb:k.held.length≤100000∧k.marks.length≤100000∧k.inbox.length≤100000):Sp 69 2 [tV 0 k.V,tI 1 t] [tV 0 ((jP k t).V)]:=by
 refine sb Tryz.func69 rfl (sq (rT [1,2,4] (s2 (sq (rT [1,2,4,5] (ai (by simp) (s1 (sq (sq (rT [1,2,4,5,6] (s1 (bk (SW.loopW (n:=k.held.length) (fun m q=> ∃i:Nat,m=k.held.length - i∧i≤k.held.length∧q=[tI 1 t,tP 2 2,tP 4 4,tO 5 9 (aE ((k.held.take i).filter (fun n=>decide (t<n.til)))).length,tI 6 (i:Nat),oB 2 26 [.d (.i k.id),.d (.i k.time),.d (.i k.next),.d (.sl (aE k.held)),.d (.sl (aL k.marks)),.d (.sl (aE k.inbox))],oB 4 26 [.d (.i 0),.d (.i 0),.d (.i 0),.nil,.nil,.nil],oR 9 29 5 (aE ((k.held.take i).filter (fun n=>decide (t<n.til))))]) ?_ ?_)))))))))))))
 · refine wq (σ':=[tI 1 t,tP 2 2,tP 4 4,tO 5 9 (aE ((k.held.take 0).filter (fun n=>decide (t<n.til)))).length,tI 6 (0:Nat),oB 2 26 [.d (.i k.id),.d (.i k.time),.d (.i k.next),.d (.sl (aE k.held)),.d (.sl (aL k.marks)),.d (.sl (aE k.inbox))],oB 4 26 [.d (.i 0),.d (.i 0),.d (.i 0),.nil,.nil,.nil],oR 9 29 5 (aE ((k.held.take 0).filter (fun n=>decide (t<n.til))))]) [] [] (⟨0,rfl,aSj _,rfl⟩) ?_
   repeat' apply ai
   all_goals first|exact qx|rfl|(rw[aA];done)|(rw[aB];done)|exact qz
 rintro n s ⟨i,rfl,hi,rfl⟩
 refine sq (sq (rT [1,2,4,5,6,14] (s5 (cd rfl (fun c14=> ?_) fun c14=> ?_))))
 · have hi2:i<k.held.length:=by simpa[aA] using c14
   have hg:=aQ (l:=k.held) hi2
   refine sk (sq (bk (sq (rT [1,2,4,5,6,24] (s3 (ai (by rw[aSd,hg];exact⟨⟨by omega,by rw[aA];omega⟩,rfl⟩) (s1 (ai (by rw[aSd,hg];exact⟨aSf rfl,rfl⟩) (s2 (cd rfl (fun c24=> ?_) fun c24=> ?_))))))))))
   · rw[aSd,hg] at c24
     have hp: (fun n:bB=>decide (t<n.til)) (k.held.getD i .zero)=true:=c24
     have hf:=xB (z:=bB.zero) (p:=fun n=>decide (t<n.til)) hi2 hp
     refine rT [1,2,4,5,6] (s4 (ai (by rw[aSd,hg];exact⟨⟨by omega,by rw[aA];omega⟩,rfl⟩) (ai (by rw[aSd,hg];exact⟨aSf rfl,rfl⟩) (ai (by exact⟨by simp,aSf rfl⟩) (ai (by exact⟨by first|trivial|rfl|(simp;done),by first|rfl|(simp;done),by first|(simp;done)|(intro r hr;rw[aSs.1 hr];rfl),by(have hm:=(List.length_filter_le (fun n=>decide (t<n.til)) (k.held.take i)));rw[aSk] at hm;simp only[aA,aSi,aSh];show _*48≤_;omega⟩) (s1 (rT [1,2,4,5,6] (s3 (wq [] [] (⟨k.held.length - (i+1),by omega,i+1,rfl,by omega,rfl⟩) ?_)))))))))
     repeat' apply ai
     all_goals first|exact qx|exact congrArg D.i (by rw[aF (by omega)];omega)|(rw[hf,aSd,hg];exact bP _ _)|(rw[hf];simp[aE,aL];done)|(rw[hf];done)|exact qz
   rw[aSd,hg] at c24
   have hp: (fun n:bB=>decide (t<n.til)) (k.held.getD i .zero)=false:=c24
   have hf:=be (z:=bB.zero) (p:=fun n=>decide (t<n.til)) hi2 hp
   refine sk (rT [1,2,4,5,6] (s3 (wq [] [] (⟨k.held.length - (i+1),by omega,i+1,rfl,by omega,rfl⟩) ?_)))
   repeat' apply ai
   all_goals first|exact qx|exact congrArg D.i (by rw[aF (by omega)];omega)|(rw[hf,aSd,hg];exact bP _ _)|(rw[hf];simp[aE,aL];done)|(rw[hf];done)|exact qz
 have hi3:i=k.held.length:=by simp[aA] at c14;omega
 subst hi3
 clear hi
 refine xt (sq (rT [1,2,4,5,7] (ai (by simp) (s1 (sq (sq (rT [1,2,4,5,7,8] (s1 (bk (SW.loopW (n:=k.marks.length) (fun m q=> ∃i:Nat,m=k.marks.length - i∧i≤k.marks.length∧q=[tI 1 t,tP 2 2,tP 4 4,tO 5 9 (aE ((k.held.take k.held.length).filter (fun n=>decide (t<n.til)))).length,tO 7 33 (aL ((k.marks.take i).filter (fun n=>decide (t<n.til)))).length,tI 8 (i:Nat),oB 2 26 [.d (.i k.id),.d (.i k.time),.d (.i k.next),.d (.sl (aE k.held)),.d (.sl (aL k.marks)),.d (.sl (aE k.inbox))],oB 4 26 [.d (.i 0),.d (.i 0),.d (.i 0),.nil,.nil,.nil],oR 9 29 5 (aE ((k.held.take k.held.length).filter (fun n=>decide (t<n.til)))),oR 33 39 3 (aL ((k.marks.take i).filter (fun n=>decide (t<n.til))))]) ?_ ?_))))))))))
 · refine wq (σ':=[tI 1 t,tP 2 2,tP 4 4,tO 5 9 (aE ((k.held.take k.held.length).filter (fun n=>decide (t<n.til)))).length,tO 7 33 (aL ((k.marks.take 0).filter (fun n=>decide (t<n.til)))).length,tI 8 (0:Nat),oB 2 26 [.d (.i k.id),.d (.i k.time),.d (.i k.next),.d (.sl (aE k.held)),.d (.sl (aL k.marks)),.d (.sl (aE k.inbox))],oB 4 26 [.d (.i 0),.d (.i 0),.d (.i 0),.nil,.nil,.nil],oR 9 29 5 (aE ((k.held.take k.held.length).filter (fun n=>decide (t<n.til)))),oR 33 39 3 (aL ((k.marks.take 0).filter (fun n=>decide (t<n.til))))]) [] [] (⟨0,rfl,aSj _,rfl⟩) ?_
   repeat' apply ai
   all_goals first|exact qx|rfl|(rw[aA];done)|(rw[aB];done)|exact qz
 rintro n s ⟨i,rfl,hi,rfl⟩
 refine sq (sq (rT [1,2,4,5,7,8,38] (s5 (cd rfl (fun c38=> ?_) fun c38=> ?_))))
 · have hi2:i<k.marks.length:=by simpa[aB] using c38
   have hg:=bR (l:=k.marks) hi2
   refine sk (sq (bk (sq (rT [1,2,4,5,7,8,48] (s3 (ai (by rw[aSd,hg];exact⟨⟨by omega,by rw[aB];omega⟩,rfl⟩) (s1 (ai (by rw[aSd,hg];exact⟨aSf rfl,rfl⟩) (s2 (cd rfl (fun c48=> ?_) fun c48=> ?_))))))))))
   · rw[aSd,hg] at c48
     have hp: (fun n:bZ=>decide (t<n.til)) (k.marks.getD i .zero)=true:=c48
     have hf:=xB (z:=bZ.zero) (p:=fun n=>decide (t<n.til)) hi2 hp
     refine rT [1,2,4,5,7,8] (s4 (ai (by rw[aSd,hg];exact⟨⟨by omega,by rw[aB];omega⟩,rfl⟩) (ai (by rw[aSd,hg];exact⟨aSf rfl,rfl⟩) (ai (by exact⟨by simp,aSf rfl⟩) (ai (by exact⟨by first|trivial|rfl|(simp;done),by first|rfl|(simp;done),by first|(simp;done)|(intro r hr;rw[aSs.1 hr];rfl),by(have hm:=(List.length_filter_le (fun n=>decide (t<n.til)) (k.marks.take i)));rw[aSk] at hm;simp only[aB,aSi,aSh];show _*24≤_;omega⟩) (s1 (rT [1,2,4,5,7,8] (s3 (wq [] [] (⟨k.marks.length - (i+1),by omega,i+1,rfl,by omega,rfl⟩) ?_)))))))))
     repeat' apply ai
     all_goals first|exact qx|exact congrArg D.i (by rw[aF (by omega)];omega)|(rw[hf,aSd,hg];exact eW _ _)|(rw[hf];simp[aE,aL];done)|(rw[hf];done)|exact qz
   rw[aSd,hg] at c48
   have hp: (fun n:bZ=>decide (t<n.til)) (k.marks.getD i .zero)=false:=c48
   have hf:=be (z:=bZ.zero) (p:=fun n=>decide (t<n.til)) hi2 hp
   refine sk (rT [1,2,4,5,7,8] (s3 (wq [] [] (⟨k.marks.length - (i+1),by omega,i+1,rfl,by omega,rfl⟩) ?_)))
   repeat' apply ai
   all_goals first|exact qx|exact congrArg D.i (by rw[aF (by omega)];omega)|(rw[hf,aSd,hg];exact eW _ _)|(rw[hf];simp[aE,aL];done)|(rw[hf];done)|exact qz
 have hi3:i=k.marks.length:=by simp[aB] at c38;omega
 subst hi3
 refine xt (sq (rT [2,4,5,7] (s3 (sq (rT [2,4,7] (s3 (sq (rT [2,4] (s3 (sq (rT [4] (s2 (rt (rq [] [9,33] rfl ?_))))))))))))))
 repeat' apply ai
 all_goals try exact qx
 all_goals(first|with_reducible rfl|(simp[jP];done))
set_option maxHeartbeats 1600000 in
theorem cn (k:aR) (n:bB) (hb:k.held.length≤100000∧k.marks.length≤100000∧k.inbox.length≤100000) (hn:n.text.length≤140737488355328):Sp 104 2 [tV 0 k.V,tV 1 n.V] [tV 0 (.tup [.agg [.d (.i ((hP k n).1).id),.d (.i ((hP k n).1).time),.d (.i ((hP k n).1).next),.d (.sl (aE ((hP k n).1).held)),.d (.sl (aL ((hP k n).1).marks)),.d (.sl (aE ((hP k n).1).inbox))],.c (.d (.b (hP k n).2))])]:=by
 refine sb Tryz.func104 rfl (sq (rT [2,3,4,10,11,12,13,14,17,18,19,20,21,22,23,24,27,28,29,30,31,32,33,34,37,38,39,40,41,42,43,44,47,48,49,50,51,52,53,54,55] (s4 (sq (sq (rT [2,3,4,56] (s1 (xp (qZ n hn) (ai rfl ?_)))))))))
 refine s2 (y4 (y1 (ai pk (s1 (y4 (y2 (xc (fun h=>(lQ k.held _ _ (by omega))) (ai rfl (ai rk ?_)))))))))
 refine y1 (ai pk (s1 (y4 (y2 (xc (fun h=>(lQ k.inbox _ _ (by omega))) (ai rfl (ai rk ?_)))))))
 refine y1 (ai pk (s1 (y4 (y2 (xc (fun h=>(rA k.marks _ _ (by omega))) (ai rfl (ai rk ?_)))))))
 refine y1 (ai pk (s1 (y4 (y4 (y1 (ai pk (cd rfl (fun c56=> ?_) fun c56=> ?_)))))))
 · have ha:=qc hb c56
   refine sq (rT [4,5] (s3 (rt ?_)))
   have hr:hP k n=(k,false):=if_neg (bn ha)
   refine bN rfl rfl ?_
   rw[hr]<;>rfl
 have ha:=qc hb c56
 refine sk (sq (sq (rT [2,3,4,62] (s5 (cd rfl (fun c62=> ?_) fun c62=> ?_)))))
 · refine sq (rT [2,3,4] (s3 (xp (rC k.inbox n hb.2.2) (ai rfl ?_))))
   refine s2 (rT [2,4] (s9 (xp (vL k.marks ⟨n.frm,n.num,n.til⟩ hb.2.1) (ai rfl ?_))))
   refine s2 (sq (rT [4,5] (s3 (rt ?_))))
   first|have hr:=xh ha c62|have hr:=xi ha c62
   refine bN rfl rfl ?_
   rw[hr]<;>rfl
 refine rT [2,4] (s3 (xp (rC k.held n hb.1) (ai rfl ?_)))
 refine s2 (sq (rT [4,5] (s3 (rt ?_))))
 first|have hr:=xh ha c62|have hr:=xi ha c62
 refine bN rfl rfl ?_
 rw[hr]<;>rfl
theorem aAq (k:aR) (w:List UInt8) (n:Int) (hb:k.held.length≤100000∧k.marks.length≤100000∧k.inbox.length≤100000):Sp 80 3 [tV 0 k.V,tD 1 (.s w),tI 2 n] [tV 0 (.tup [.agg [.d (.i ((kP k w n).1).id),.d (.i ((kP k w n).1).time),.d (.i ((kP k w n).1).next),.d (.sl (aE ((kP k w n).1).held)),.d (.sl (aL ((kP k w n).1).marks)),.d (.sl (aE ((kP k w n).1).inbox))],.c (.d (.b (kP k w n).2))])]:=by
 refine sb Tryz.func80 rfl (sq (rT [1,2,3,6,12,13,14,15,24,25,26,27] (s3 (sq (bk (sq (rT [1,2,3,6,8,24,25,26,27] (s3 (y4 (ai pk (s1 (cd rfl (fun c8=> ?_) fun c8=> ?_))))))))))))
 · refine sq (rT [6,7] (s2 (xp (sr k n hb) (ai rfl ?_))))
   refine s2 (rt ?_)
   have hr:kP k w n=(jP k n,true):=if_pos c8
   refine bN rfl rfl ?_
   rw[hr]<;>rfl
 refine sq (rT [2,3,6,20] (s3 (y4 (ai pk (s1 (cd rfl (fun c20=> ?_) fun c20=> ?_))))))
 · refine sq (rT [3,6] (s3 (sq (rT [6,7] (s3 (rt ?_))))))
   have hr:kP k w n=({k with next:=n},true):=(if_neg (bn c8)).trans (if_pos c20)
   refine bN rfl rfl ?_
   rw[hr]<;>rfl
 refine sk (sq (rT [6,7] (s3 (rt ?_))))
 have hr:kP k w n=(k,false):=(if_neg (bn c8)).trans (if_neg (bn c20))
 refine bN rfl rfl ?_
 rw[hr]<;>rfl
set_option maxHeartbeats 1600000 in
theorem uw (k:aR) (w:List UInt8) (n:bB) (hb:k.held.length≤100000∧k.marks.length≤100000∧k.inbox.length≤100000) (hn:n.text.length≤140737488355328):Sp 81 3 [tV 0 k.V,tD 1 (.s w),tV 2 n.V] [tV 0 (.tup [.agg [.d (.i ((fN k w n).1).id),.d (.i ((fN k w n).1).time),.d (.i ((fN k w n).1).next),.d (.sl (aE ((fN k w n).1).held)),.d (.sl (aL ((fN k w n).1).marks)),.d (.sl (aE ((fN k w n).1).inbox))],.c (.d (.b (fN k w n).2))])]:=by
 refine sb Tryz.func81 rfl (sq (rT [1,3,5,6,12,13,14,15,16,19,20,21,22,23,38,39,40,41,42,59,60,61,62,63,64,65,66] (s4 (sq (bk (sq (rT [1,3,5,6,8,38,39,40,41,42,59,60,61,62,63,64,65,66] (s3 (y4 (y1 (ai pk (s1 (y4 (y1 (ai pk (s1 (cd rfl (fun c8=> ?_) fun c8=> ?_)))))))))))))))))
 · refine sq (rT [3,5,6] (s5 (sq (rT [6,7] (s2 (xp (cn {k with next:=wrap64 (k.next+1)} n hb hn) (ai rfl ?_)))))))
   refine s4 (rt ?_)
   have hr:fN k w n=hP {k with next:=wrap64 (k.next+1)} n:=if_pos c8
   refine bN rfl rfl ?_
   rw[hr]<;>rfl
 refine sq (rT [1,3,5,6,34,59,60,61,62,63,64,65,66] (s3 (y4 (y1 (ai pk (s1 (cd rfl (fun c34=> ?_) fun c34=> ?_)))))))
 · refine sq (rT [6,7] (s2 (xp (cn k n hb hn) (ai rfl ?_))))
   refine s4 (rt ?_)
   have hr:fN k w n=hP k n:=(if_neg (bn c8)).trans (if_pos c34)
   refine bN rfl rfl ?_
   rw[hr]<;>rfl
 refine sq (rT [1,3,5,6,49] (s6 (xp (lQ k.held _ _ (by omega)) (ai rfl ?_))))
 refine s2 (y4 (y2 (xc (fun h=>(lQ k.inbox _ _ (by omega))) (ai rfl (ai rk ?_)))))
 refine y1 (ai pk (s1 (cd rfl (fun c49=> ?_) fun c49=> ?_)))
 · refine sk (sq (rT [6,7] (s3 (rt ?_))))
   have hr:fN k w n=(k,false):=by
    first|exact(if_neg (bn c8)).trans ((if_neg (bn c34)).trans (if_pos c49))|exact(if_neg (bn c8)).trans ((if_neg (bn c34)).trans ((if_neg (bn c49)).trans ((if_neg (bn c68)).trans (if_neg (bn c77)))))
   refine bN rfl rfl ?_
   rw[hr]<;>rfl
 refine sq (rT [1,3,5,6,68] (s3 (cd rfl (fun c68=> ?_) fun c68=> ?_)))
 · refine sq (rT [3,6] (s3 (xp (rC k.held n hb.1) (ai rfl ?_))))
   refine s2 (sq (rT [6,7] (s3 (rt ?_))))
   have hr:fN k w n=({k with held:=nG k.held n},true):=(if_neg (bn c8)).trans ((if_neg (bn c34)).trans ((if_neg (bn c49)).trans (if_pos c68)))
   refine bN rfl rfl ?_
   rw[hr]<;>rfl
 refine sq (rT [3,5,6,77] (s3 (cd rfl (fun c77=> ?_) fun c77=> ?_)))
 · refine sq (rT [3,6] (s3 (xp (rC k.inbox n hb.2.2) (ai rfl ?_))))
   refine s2 (sq (rT [6,7] (s3 (rt ?_))))
   have hr:fN k w n=({k with inbox:=nG k.inbox n},true):=(if_neg (bn c8)).trans ((if_neg (bn c34)).trans ((if_neg (bn c49)).trans ((if_neg (bn c68)).trans (if_pos c77))))
   refine bN rfl rfl ?_
   rw[hr]<;>rfl
 refine sk (sq (rT [6,7] (s3 (rt ?_))))
 have hr:fN k w n=(k,false):=by
  first|exact(if_neg (bn c8)).trans ((if_neg (bn c34)).trans (if_pos c49))|exact(if_neg (bn c8)).trans ((if_neg (bn c34)).trans ((if_neg (bn c49)).trans ((if_neg (bn c68)).trans (if_neg (bn c77)))))
 refine bN rfl rfl ?_
 rw[hr]<;>rfl
set_option maxHeartbeats 1600000 in
theorem ux (k:aR) (w:List UInt8) (m:bZ) (hb:k.held.length≤100000∧k.marks.length≤100000∧k.inbox.length≤100000):Sp 83 3 [tV 0 k.V,tD 1 (.s w),tV 2 m.V] [tV 0 (.tup [.agg [.d (.i ((hZ k w m).1).id),.d (.i ((hZ k w m).1).time),.d (.i ((hZ k w m).1).next),.d (.sl (aE ((hZ k w m).1).held)),.d (.sl (aL ((hZ k w m).1).marks)),.d (.sl (aE ((hZ k w m).1).inbox))],.c (.d (.b (hZ k w m).2))])]:=by
 refine sb Tryz.func83 rfl (sq (rT [1,3,5,6,37,38,41,42,43,44,45,46,47,48,49,66,67,70,71,72,73,74,75,76,77,78,90,91] (s4 (sq (rD [1,3,5,6,8,9,37,38,41,42,43,44,45,46,47,48,49,66,67,70,71,72,73,74,75,76,77,78,90,91] (s6 (xp (lQ k.held _ _ (by omega)) (ai rfl ?_))))))))
 refine s6 (xp (lQ k.inbox _ _ (by omega)) (ai rfl ?_))
 refine s2 (ai (by kernel_rfl) (sq (rT [1,3,5,6,8,9,10,37,38,41,42,43,44,45,46,47,48,49,66,67,70,71,72,73,74,75,76,77,78,90,91] (s6 (xp (rA k.marks _ _ (by omega)) (ai rfl ?_))))))
 refine s2 (sq (bk (sq (rD [1,3,5,6,8,9,10,33,66,67,70,71,72,73,74,75,76,77,78,90,91] (s3 (y2 (ai pk (s1 (y3 (ai (fun h=>(by skip;have hp:0≤aX k.held m.frm m.num:=(by have h8:=h;simp only[gb,aSg,decide_eq_true_eq] at h8;exact h8.2);have hr:=fD k.held m.frm m.num;rw[aQ (by omega)];exact⟨⟨hp,by rw[aA];omega⟩,rfl⟩)) (ai rk (y1 (ai (fun h=>(by have hp:0≤aX k.held m.frm m.num:=(by have h8:=h;simp only[gb,aSg,decide_eq_true_eq] at h8;exact h8.2);have hr:=fD k.held m.frm m.num;rw[aQ (by omega)];exact⟨aSf rfl,rfl⟩)) (ai rk (y3 (ai pk (s1 (ai (by kernel_rfl) (cd rfl (fun c33=> ?_) fun c33=> ?_)))))))))))))))))))
 · have hc: (w==nH&&decide (0≤aX k.held m.frm m.num)&&(k.held.getD (aX k.held m.frm m.num).toNat .zero).til==m.til)=true:=by
    have h9:=c33
    by_cases hp:0≤aX k.held m.frm m.num
    · have hr:=fD k.held m.frm m.num
      rw[aQ (by omega)] at h9
      exact h9
    · rw[show decide (aX k.held m.frm m.num≥0)=false from decide_eq_false hp,Bool.and_false,Bool.false_and] at h9
      rw[show decide (0≤aX k.held m.frm m.num)=false from decide_eq_false hp,Bool.and_false,Bool.false_and]<;>exact h9
   have hp:0≤aX k.held m.frm m.num:=by
    simp only[aSg,decide_eq_true_eq] at hc
    exact hc.1.2
   have hr:=fD k.held m.frm m.num
   refine sq (rT [3,5,6] (s3 (xp (ah k.held (aX k.held m.frm m.num) ⟨hp,by omega⟩ hb.1) (ai rfl ?_))))
   refine s2 (sq (rT [3,6] (s3 (xp (vL k.marks m hb.2.1) (ai rfl ?_)))))
   refine s2 (sq (rT [6,7] (s3 (rt ?_))))
   have hr:hZ k w m=({k with held:=gL k.held (aX k.held m.frm m.num).toNat,marks:=rU k.marks m},true):=if_pos hc
   refine bN rfl rfl ?_
   rw[hr]<;>rfl
 have hc: (w==nH&&decide (0≤aX k.held m.frm m.num)&&(k.held.getD (aX k.held m.frm m.num).toNat .zero).til==m.til)=false:=by
  have h9:=c33
  by_cases hp:0≤aX k.held m.frm m.num
  · have hr:=fD k.held m.frm m.num
    rw[aQ (by omega)] at h9
    exact h9
  · rw[show decide (aX k.held m.frm m.num≥0)=false from decide_eq_false hp,Bool.and_false,Bool.false_and] at h9
    rw[show decide (0≤aX k.held m.frm m.num)=false from decide_eq_false hp,Bool.and_false,Bool.false_and]<;>exact h9
 have hc1:=hc
 clear hc
 refine sq (rD [1,3,5,6,9,10,62,90,91] (s3 (y2 (ai pk (s1 (y3 (ai (fun h=>(by skip;have hp:0≤aX k.inbox m.frm m.num:=(by have h8:=h;simp only[gb,aSg,decide_eq_true_eq] at h8;exact h8.2);have hr:=fD k.inbox m.frm m.num;rw[aQ (by omega)];exact⟨⟨hp,by rw[aA];omega⟩,rfl⟩)) (ai rk (y1 (ai (fun h=>(by have hp:0≤aX k.inbox m.frm m.num:=(by have h8:=h;simp only[gb,aSg,decide_eq_true_eq] at h8;exact h8.2);have hr:=fD k.inbox m.frm m.num;rw[aQ (by omega)];exact⟨aSf rfl,rfl⟩)) (ai rk (y3 (ai pk (s1 (ai (by kernel_rfl) (cd rfl (fun c62=> ?_) fun c62=> ?_))))))))))))))))
 · have hc: (w==lY&&decide (0≤aX k.inbox m.frm m.num)&&(k.inbox.getD (aX k.inbox m.frm m.num).toNat .zero).til==m.til)=true:=by
    have h9:=c62
    by_cases hp:0≤aX k.inbox m.frm m.num
    · have hr:=fD k.inbox m.frm m.num
      rw[aQ (by omega)] at h9
      exact h9
    · rw[show decide (aX k.inbox m.frm m.num≥0)=false from decide_eq_false hp,Bool.and_false,Bool.false_and] at h9
      rw[show decide (0≤aX k.inbox m.frm m.num)=false from decide_eq_false hp,Bool.and_false,Bool.false_and]<;>exact h9
   have hp:0≤aX k.inbox m.frm m.num:=by
    simp only[aSg,decide_eq_true_eq] at hc
    exact hc.1.2
   have hr:=fD k.inbox m.frm m.num
   refine sq (rT [3,6] (s3 (xp (ah k.inbox (aX k.inbox m.frm m.num) ⟨hp,by omega⟩ hb.2.2) (ai rfl ?_))))
   refine s2 (sq (rT [6,7] (s3 (rt ?_))))
   have hr:hZ k w m=({k with inbox:=gL k.inbox (aX k.inbox m.frm m.num).toNat},true):=(if_neg (bn hc1)).trans (if_pos hc)
   refine bN rfl rfl ?_
   rw[hr]<;>rfl
 have hc: (w==lY&&decide (0≤aX k.inbox m.frm m.num)&&(k.inbox.getD (aX k.inbox m.frm m.num).toNat .zero).til==m.til)=false:=by
  have h9:=c62
  by_cases hp:0≤aX k.inbox m.frm m.num
  · have hr:=fD k.inbox m.frm m.num
    rw[aQ (by omega)] at h9
    exact h9
  · rw[show decide (aX k.inbox m.frm m.num≥0)=false from decide_eq_false hp,Bool.and_false,Bool.false_and] at h9
    rw[show decide (0≤aX k.inbox m.frm m.num)=false from decide_eq_false hp,Bool.and_false,Bool.false_and]<;>exact h9
 refine sq (rT [3,5,6,86] (s3 (y2 (ai pk (s1 (cd rfl (fun c86=> ?_) fun c86=> ?_))))))
 · have hm: (w==iC&&decide (jI k.marks m.frm m.num<0))=true:=by
    have h9:=c86
    rw[xa,Bool.not_not] at h9
    exact h9
   refine sq (rT [3,6] (s3 (xp (vL k.marks m hb.2.1) (ai rfl ?_))))
   refine s2 (sq (rT [6,7] (s3 (rt ?_))))
   have hr:hZ k w m=({k with marks:=rU k.marks m},true):=(if_neg (bn hc1)).trans ((if_neg (bn hc)).trans (if_pos hm))
   refine bN rfl rfl ?_
   rw[hr]<;>rfl
 have hm: (w==iC&&decide (jI k.marks m.frm m.num<0))=false:=by
  have h9:=c86
  rw[xa,Bool.not_not] at h9
  exact h9
 refine sk (sq (rT [6,7] (s3 (rt ?_))))
 have hr:hZ k w m=(k,false):=(if_neg (bn hc1)).trans ((if_neg (bn hc)).trans (if_neg (bn hm)))
 refine bN rfl rfl ?_
 rw[hr]<;>rfl
set_option maxHeartbeats 3200000 in
theorem aAr (k:aR) (rec:List UInt8) (hb:k.held.length≤100000∧k.marks.length≤100000∧k.inbox.length≤100000) (hr:rec.length≤900000):Sp 38 2 [tV 0 k.V,tD 1 (.s rec)] [tV 0 (.tup [.agg [.d (.i ((fA k rec).1).id),.d (.i ((fA k rec).1).time),.d (.i ((fA k rec).1).next),.d (.sl (aE ((fA k rec).1).held)),.d (.sl (aL ((fA k rec).1).marks)),.d (.sl (aE ((fA k rec).1).inbox))],.c (.d (.b (fA k rec).2))])]:=by
 have hl1:=sW rec
 have hl2:=bc rec
 have hl3:=xE (aN rec)
 refine sb Tryz.func38 rfl (sq (rT [1,2,4,69,70,71] (s3 (sq (rT [2,4,6,7,8,69,70,71] (s1 (xp (uv rec (by omega)) (ai rfl ?_))))))))
 refine s7 (sq (sq (rT [2,4,6,7,22,69,70,71] (s2 (cd rfl (fun c22=> ?_) fun c22=> ?_)))))
 · have hs:fH rec=false:=by simpa using c22
   refine sq (rT [4,5] (s3 (rt ?_)))
   have hr:fA k rec=(k,false):=aH9 hs
   refine bN rfl rfl ?_
   rw[hr]<;>rfl
 have hs:fH rec=true:=by simpa using c22
 refine sk (sq (sq (rT [2,4,6,7,24,69,70,71] (s1 (bk (SW.midW (fun q=>q=[tP 2 2,tP 4 4,tD 6 (.s (bA rec)),tD 7 (.s (aN rec)),tD 24 (.s (bA rec)),tB 25 (bA rec==iS||bA rec==kD),oB 2 26 [.d (.i k.id),.d (.i k.time),.d (.i k.next),.d (.sl (aE k.held)),.d (.sl (aL k.marks)),.d (.sl (aE k.inbox))],oB 4 26 [.d (.i 0),.d (.i 0),.d (.i 0),.nil,.nil,.nil]]) ?_ ?_))))))
 · refine sq (rT [2,4,6,7,24,25,69,70,71] (s2 (cd rfl (fun c25=> ?_) fun c25=> ?_)))
   · refine sk (wq [] [] (rfl) ?_)
     repeat' apply ai
     all_goals first|exact qx|(refine congrArg D.b ?_;simp_all[iS,kD,jU,fQ,gY,fT,nH,lY,iC])|exact qz
   refine rT [2,4,6,7,24,25,69,70,71] (s2 (wq [] [] (rfl) ?_))
   repeat' apply ai
   all_goals first|exact qx|(refine congrArg D.b ?_;simp_all[iS,kD,jU,fQ,gY,fT,nH,lY,iC])|exact qz
 rintro s rfl
 refine cd rfl (fun c25=> ?_) fun c25=> ?_
 · refine sq (rT [2,4,6,9,10] (s1 (xp (ya (aN rec) (by omega)) (ai rfl ?_))))
   refine s5 (sq (rT [2,4,6,9,33] (s1 (cd rfl (fun c33=> ?_) fun c33=> ?_))))
   · refine sq (rT [4,5] (s3 (xp (aAq k (bA rec) (kJ (aN rec)) hb) (ai rfl ?_))))
     refine s4 (rt ?_)
     have hr:fA k rec=_:=aB7 hs c25 c33
     refine bN rfl rfl ?_
     rw[hr]<;>rfl
   refine sk (sq (rT [4,5] (s3 (rt ?_))))
   have hr2:fA k rec=(k,false):=by
    first|exact bh hs c25 c33|exact tU hs c25 c40 c50|exact xF hs c25 c40 c57 hm3|exact gg hs c25 c40 c57
   refine bN rfl rfl ?_
   rw[hr2]<;>rfl
 refine SW.midW (fun q=>q=[tP 2 2,tP 4 4,tD 6 (.s (bA rec)),tD 7 (.s (aN rec)),tD 24 (.s (bA rec)),tB 40 (bA rec==jU||bA rec==fQ||bA rec==gY||bA rec==fT),oB 2 26 [.d (.i k.id),.d (.i k.time),.d (.i k.next),.d (.sl (aE k.held)),.d (.sl (aL k.marks)),.d (.sl (aE k.inbox))],oB 4 26 [.d (.i 0),.d (.i 0),.d (.i 0),.nil,.nil,.nil]]) ?_ ?_
 · refine sq (rT [2,4,6,7,24,40,69,70,71] (s2 (cd rfl (fun c40=> ?_) fun c40=> ?_)))
   · refine sk (wq [] [] (rfl) ?_)
     repeat' apply ai
     all_goals first|exact qx|(refine congrArg D.b ?_;simp_all[iS,kD,jU,fQ,gY,fT,nH,lY,iC])|exact qz
   refine sq (rT [2,4,6,7,24,40,69,70,71] (s2 (cd rfl (fun c40_2=> ?_) fun c40_2=> ?_)))
   · refine sk (wq [] [] (rfl) ?_)
     repeat' apply ai
     all_goals first|exact qx|(refine congrArg D.b ?_;simp_all[iS,kD,jU,fQ,gY,fT,nH,lY,iC])|exact qz
   refine sq (rT [2,4,6,7,24,40,69,70,71] (s2 (cd rfl (fun c40_3=> ?_) fun c40_3=> ?_)))
   · refine sk (wq [] [] (rfl) ?_)
     repeat' apply ai
     all_goals first|exact qx|(refine congrArg D.b ?_;simp_all[iS,kD,jU,fQ,gY,fT,nH,lY,iC])|exact qz
   refine rT [2,4,6,7,24,40,69,70,71] (s2 (wq [] [] (rfl) ?_))
   repeat' apply ai
   all_goals first|exact qx|(refine congrArg D.b ?_;simp_all[iS,kD,jU,fQ,gY,fT,nH,lY,iC])|exact qz
 rintro s rfl
 refine cd rfl (fun c40=> ?_) fun c40=> ?_
 · refine sq (rT [2,4,6,11,12] (s1 (xp (ng (aN rec) (by omega)) (ai rfl ?_))))
   refine s6 (sq (rT [2,4,6,11,50] (s1 (cd rfl (fun c50=> ?_) fun c50=> ?_))))
   · refine sq (rT [4,5] (s3 (xp (uw k (bA rec) (dR (aN rec)).1 hb (by omega)) (ai rfl ?_))))
     refine s4 (rt ?_)
     have hr:fA k rec=_:=aIa hs c25 c40 c50
     refine bN rfl rfl ?_
     rw[hr]<;>rfl
   refine sk (sq (rT [4,5] (s3 (rt ?_))))
   have hr2:fA k rec=(k,false):=by
    first|exact bh hs c25 c33|exact tU hs c25 c40 c50|exact xF hs c25 c40 c57 hm3|exact gg hs c25 c40 c57
   refine bN rfl rfl ?_
   rw[hr2]<;>rfl
 refine SW.midW (fun q=>q=[tP 2 2,tP 4 4,tD 6 (.s (bA rec)),tD 7 (.s (aN rec)),tB 57 (bA rec==nH||bA rec==lY||bA rec==iC),oB 2 26 [.d (.i k.id),.d (.i k.time),.d (.i k.next),.d (.sl (aE k.held)),.d (.sl (aL k.marks)),.d (.sl (aE k.inbox))],oB 4 26 [.d (.i 0),.d (.i 0),.d (.i 0),.nil,.nil,.nil]]) ?_ ?_
 · refine sq (rT [2,4,6,7,24,57,69,70,71] (s2 (cd rfl (fun c57=> ?_) fun c57=> ?_)))
   · refine sk (wq [] [] (rfl) ?_)
     repeat' apply ai
     all_goals first|exact qx|(refine congrArg D.b ?_;simp_all[iS,kD,jU,fQ,gY,fT,nH,lY,iC])|exact qz
   refine sq (rT [2,4,6,7,24,57,69,70,71] (s2 (cd rfl (fun c57_2=> ?_) fun c57_2=> ?_)))
   · refine sk (wq [] [] (rfl) ?_)
     repeat' apply ai
     all_goals first|exact qx|(refine congrArg D.b ?_;simp_all[iS,kD,jU,fQ,gY,fT,nH,lY,iC])|exact qz
   refine rT [2,4,6,7,57,69,70,71] (s2 (wq [] [] (rfl) ?_))
   repeat' apply ai
   all_goals first|exact qx|(refine congrArg D.b ?_;simp_all[iS,kD,jU,fQ,gY,fT,nH,lY,iC])|exact qz
 rintro s rfl
 refine cd rfl (fun c57=> ?_) fun c57=> ?_
 · refine sq (rT [2,4,6,13,14,69,70,71] (s1 (xp (nf (aN rec) (by omega)) (ai rfl ?_))))
   refine xp (yJ (cV (aN rec)) (by have:=aH8 (aN rec);omega) (fun x hx=>by have:=aK0 (aN rec) x hx;omega)) (ai rfl ?_)
   refine s5 (sq (rT [2,4,6,13,72] (s2 (y3 (ai pk (cd rfl (fun c72=> ?_) fun c72=> ?_))))))
   · have hm3:=xj c72
     have hm4:=hm3
     rw[aSg,beq_iff_eq] at hm4
     obtain⟨hno,hl4⟩:=hm4
     have e0:dc (((cR (jT (cV (aN rec)))).getD 0 []).getD 0 (.i 0))=kJ ((cV (aN rec)).getD 0 []):=zi hno (by omega)
     have e1:dc (((cR (jT (cV (aN rec)))).getD 1 []).getD 0 (.i 0))=kJ ((cV (aN rec)).getD 1 []):=zi hno (by omega)
     have e2:dc (((cR (jT (cV (aN rec)))).getD 2 []).getD 0 (.i 0))=kJ ((cV (aN rec)).getD 2 []):=zi hno (by omega)
     refine sq (rD [4,5] (s3 (ai (by exact fo (l:=jT (cV (aN rec))) (by omega) (by rw[gK hno];omega)) (ai (by have:=gS (l:=jT (cV (aN rec))) (i:=0) (by rw[gK hno];omega);first|(rw[show((0:Int)).toNat=((0:Nat):Int).toNat from rfl,this];exact⟨aSf rfl,rfl⟩)) (s1 (ai (by exact fo (l:=jT (cV (aN rec))) (by omega) (by rw[gK hno];omega)) (ai (by have:=gS (l:=jT (cV (aN rec))) (i:=1) (by rw[gK hno];omega);first|(rw[show((1:Int)).toNat=((1:Nat):Int).toNat from rfl,this];exact⟨aSf rfl,rfl⟩)) (s1 (ai (by exact fo (l:=jT (cV (aN rec))) (by omega) (by rw[gK hno];omega)) (ai (by have:=gS (l:=jT (cV (aN rec))) (i:=2) (by rw[gK hno];omega);first|(rw[show((2:Int)).toNat=((2:Nat):Int).toNat from rfl,this];exact⟨aSf rfl,rfl⟩)) (s1 (xp (ux k (bA rec) (three (cV (aN rec))) hb) (ai (by exact aR7 e0 e1 e2) ?_)))))))))))))
     refine s4 (ai (by kernel_rfl) (rt ?_))
     have hr:fA k rec=_:=aIb hs c25 c40 c57 hm3
     refine bN rfl rfl ?_
     rw[hr]<;>rfl
   have hm3:=xj c72
   refine sk (sq (rT [4,5] (s3 (rt ?_))))
   have hr2:fA k rec=(k,false):=by
    first|exact bh hs c25 c33|exact tU hs c25 c40 c50|exact xF hs c25 c40 c57 hm3|exact gg hs c25 c40 c57
   refine bN rfl rfl ?_
   rw[hr2]<;>rfl
 refine sk (sq (rT [4,5] (s3 (rt ?_))))
 have hr2:fA k rec=(k,false):=by
  first|exact bh hs c25 c33|exact tU hs c25 c40 c50|exact xF hs c25 c40 c57 hm3|exact gg hs c25 c40 c57
 refine bN rfl rfl ?_
 rw[hr2]<;>rfl
set_option maxHeartbeats 1600000 in
theorem uy (k:aR) (rec:List UInt8) (hk:KB k) (hr:rec.length≤900000):Sp 16 2 [tV 0 k.V,tD 1 (.s rec)] [tV 0 (.tup [.agg [.d (.i ((bY k rec).1).id),.d (.i ((bY k rec).1).time),.d (.i ((bY k rec).1).next),.d (.sl (aE ((bY k rec).1).held)),.d (.sl (aL ((bY k rec).1).marks)),.d (.sl (aE ((bY k rec).1).inbox))],.c (.d (.b (bY k rec).2))])]:=by
 refine sb Tryz.func16 rfl (sq (rT [1,2,4,22,23,24] (s3 (sq (sq (rT [1,2,4,10,22,23,24] (s1 (xp (rB k hk.2.1 hk.2.2) (ai rfl ?_)))))))))
 refine s1 (cd rfl (fun c10=> ?_) fun c10=> ?_)
 · refine sq (rT [4,5] (s3 (rt ?_)))
   have hr:bY k rec=(.zero,false):=if_neg (by simpa using c10)
   rw[hr]
   exact rq [] [] rfl qz
 have hok:dS k=true:=by simpa using c10
 refine sk (sq (rT [2,4,6,7,22,23,24] (s1 (xp (sA k (by have:=hk.1;omega)) (ai rfl ?_)))))
 refine s1 (xp (aAr k rec hk.1 hr) (ai rfl ?_))
 refine s6 (sq (sq (rT [2,4,6,25] (s3 (y1 (xc (fun h=>rB (fA k rec).1 (ka (eC hok) (by omega)).2.1 (ka (eC hok) (by omega)).2.2) (ai rfl (ai rk ?_))))))))
 refine y1 (ai pk (cd rfl (fun c25=> ?_) fun c25=> ?_))
 · refine sq (rT [4,5] (s1 (xp (sA k (by have:=hk.1;omega)) (ai rfl ?_))))
   refine s2 (rt ?_)
   have hr:bY k rec=(k,false):=(if_pos hok).trans (if_neg (by intro h;rw[aSg] at h;rw[h.1,h.2] at c25;cases c25))
   rw[hr]
   exact rq [] [] rfl qz
 refine sk (sq (rT [4,5] (s1 (xp (sA (fA k rec).1 (by have:=(ka (eC hok) (show rec.length≤1000000 by omega)).1;omega)) (ai rfl ?_)))))
 refine s2 (rt ?_)
 have hr:bY k rec=((fA k rec).1,true):=(if_pos hok).trans (if_pos (by simpa using c25))
 rw[hr]
 exact rq [] [] rfl qz
set_option maxHeartbeats 800000 in
theorem nh (k:aR) (n:bB) (hb:k.held.length≤100000∧k.marks.length≤100000∧k.inbox.length≤100000) (hn:n.text.length≤140737488355328):Sp 101 2 [tV 0 k.V,tV 1 n.V] [tB 0 (dm k n)]:=by
 refine sb Tryz.func101 rfl (sq (rT [2,3,8,9,10,11,12,15,16,17,18,19,20,21,22,25,26,27,28,29,30,31,32,35,36,37,38,39,40,41,42] (s3 (sq (rT [4] (s1 (xp (vK n hn) (ai rfl ?_))))))))
 refine s1 (y4 (y1 (ai pk (s1 (y4 (y2 (xc (fun h=>(fK k.held _ _ (by omega))) (ai rfl (ai rk ?_)))))))))
 refine y1 (ai pk (s1 (y4 (y2 (xc (fun h=>(mR k.marks _ _ (by omega))) (ai rfl (ai rk ?_)))))))
 refine y1 (ai pk (s1 (y4 (y2 (xc (fun h=>(fK k.inbox _ _ (by omega))) (ai rfl (ai rk ?_)))))))
 refine y1 (ai pk (s1 (rt (bQ rfl (congrArg D.b ?_)))))
 rfl
set_option maxHeartbeats 1600000 in
theorem aj (k:aR) (n:bB) (hb:k.held.length≤100000∧k.marks.length≤100000∧k.inbox.length≤100000) (hn:n.text.length≤140737488355328):Sp 71 2 [tV 0 k.V,tV 1 n.V] [tV 0 (.tup [.agg [.d (.i ((lI k n).1).id),.d (.i ((lI k n).1).time),.d (.i ((lI k n).1).next),.d (.sl (aE ((lI k n).1).held)),.d (.sl (aL ((lI k n).1).marks)),.d (.sl (aE ((lI k n).1).inbox))],.c (.d (.b (lI k n).2))])]:=by
 refine sb Tryz.func71 rfl (sq (rT [2,3,4] (s4 (sq (sq (rT [2,3,4,9] (s2 (xp (nh k n hb hn) (ai rfl ?_)))))))))
 refine s1 (cd rfl (fun c9=> ?_) fun c9=> ?_)
 · refine sq (rT [4,5] (s3 (rt ?_)))
   have hr:lI k n=_:=aK3 c9
   refine bN rfl rfl ?_
   rw[hr]<;>rfl
 refine sk (sq (sq (rT [2,3,4,15] (s5 (cd rfl (fun c15=> ?_) fun c15=> ?_)))))
 · refine sq (rT [2,4] (s3 (xp (lX k.held n hb.1) (ai rfl ?_))))
   refine s2 (sq (rD [4,5] (s9 (s2 (ai (by kernel_rfl) (rt ?_))))))
   have hr:lI k n=_:=aK4 hb c9 c15
   refine bN rfl rfl ?_
   rw[hr]<;>rfl
 refine sk (sq (rT [2,3,4] (s3 (xp (lX k.inbox n hb.2.2) (ai rfl ?_)))))
 refine s2 (sq (rT [2,4] (s9 (xp (pN k.marks ⟨n.frm,n.num,n.til⟩ hb.2.1) (ai rfl ?_)))))
 refine s2 (sq (rD [4,5] (s9 (s2 (ai (by kernel_rfl) (rt ?_))))))
 have hr:lI k n=_:=aK5 hb c9 c15
 refine bN rfl rfl ?_
 rw[hr]<;>rfl
set_option maxHeartbeats 1600000 in
theorem uz (k:aR) (a b:Int) (hb:k.held.length≤100000∧k.marks.length≤100000∧k.inbox.length≤100000):Sp 75 3 [tV 0 k.V,tI 1 a,tI 2 b] [tV 0 (.tup [.agg [.d (.i ((ga k a b).1).id),.d (.i ((ga k a b).1).time),.d (.i ((ga k a b).1).next),.d (.sl (aE ((ga k a b).1).held)),.d (.sl (aL ((ga k a b).1).marks)),.d (.sl (aE ((ga k a b).1).inbox))],.c (.d (.b (ga k a b).2))])]:=by
 refine sb Tryz.func75 rfl (sq (rT [1,2,3,6] (s3 (sq (rT [1,2,3,6,8] (s4 (xp (fK k.held a b (by omega)) (ai rfl ?_))))))))
 refine s1 (sq (sq (rT [1,2,3,6,8,16] (s2 (cd rfl (fun c16=> ?_) fun c16=> ?_)))))
 · have hr:ga k a b=(k,false):=if_neg (by simpa using c16)
   refine sq (rT [6,7] (s3 (rt ?_)))
   rw[hr]
   exact rq [] [] rfl qz
 have hp:0≤aX k.held a b:=by simpa using c16
 have hr0:=fD k.held a b
 obtain⟨i,hi⟩:=Int.eq_ofNat_of_zero_le hp
 rw[hi] at hr0
 have hw:wrap64 ((i:Int)+1)=((i+1:Nat):Int):=by rw[aF (by omega)];omega
 have hr:ga k a b=_:=if_pos hp
 have hg:=aQ (l:=k.held) (i:=i) (by omega)
 have et:dc (((aE k.held).getD (aX k.held a b).toNat []).getD 3 (.i 0))=(k.held.getD i .zero).til:=by rw[hi,aSd,hg];rfl
 refine sk (sq (rT [1,2,3,6,8,9] (s3 (ai (by rw[hi,aSd,hg];exact⟨⟨by omega,by rw[aA];omega⟩,rfl⟩) (ai (by rw[hi,aSd,hg];exact⟨aSf rfl,rfl⟩) (s2 (sq (rD [1,2,3,6,9] (ai (by simp) (s3 (ai (by rw[hi];(try rw[hw]);exact⟨by rw[aA];exact⟨by first|(simp;done)|(simp;omega),by first|(simp;done)|(simp;omega),by first|(simp;done)|(simp;omega)⟩,eG _⟩) (ai (by rw[hi];(try rw[hw]);exact⟨by first|trivial|rfl|(simp;done),by first|rfl|(simp[aA];done),by first|exact iY _ _ _|(simp;done),by(try simp only[aSe,aSi,aSh,aSk,aSr,aA,iL,iM,iN,iO]);show _*48≤_;omega⟩) (s4 (ai (by rw[hi];(try rw[hw]);exact⟨by rw[aA];exact⟨by first|(simp;done)|(simp;omega),by first|(simp;done)|(simp;omega),by first|(simp;done)|(simp;omega)⟩,eG _⟩) (ai (by rw[hi];(try rw[hw]);exact⟨by first|trivial|rfl|(simp;done),by first|rfl|(simp[aA];done),by first|exact iY _ _ _|(simp;done),by(try simp only[aSe,aSi,aSh,aSk,aSr,aA,iL,iM,iN,iO]);show _*48≤_;omega⟩) (s2 (ai (by kernel_rfl) (sq (rT [3,6] (s7 (xp (pN k.marks ⟨a,b,(k.held.getD i .zero).til⟩ hb.2.1) (ai (by exact aK2 rfl rfl et) ?_))))))))))))))))))))))
 refine s2 (sq (rT [6,7] (s3 (rt ?_))))
 rw[hr]
 refine rq [] [23] rfl ?_
 repeat' apply ai
 all_goals try exact qx
 all_goals(first|with_reducible rfl|(rw[hi,hw,tT,dn,aSd];simp[aE,gL,List.map_take,List.map_drop];done)|(rw[hi];rfl)|rfl)
set_option maxHeartbeats 1600000 in
theorem vd (k:aR) (a b:Int) (hb:k.held.length≤100000∧k.marks.length≤100000∧k.inbox.length≤100000):Sp 76 3 [tV 0 k.V,tI 1 a,tI 2 b] [tV 0 (.tup [.agg [.d (.i ((gc k a b).1).id),.d (.i ((gc k a b).1).time),.d (.i ((gc k a b).1).next),.d (.sl (aE ((gc k a b).1).held)),.d (.sl (aL ((gc k a b).1).marks)),.d (.sl (aE ((gc k a b).1).inbox))],.c (.d (.b (gc k a b).2))])]:=by
 refine sb Tryz.func76 rfl (sq (rT [1,2,3,6] (s3 (sq (rT [3,6,8] (s4 (xp (fK k.inbox a b (by omega)) (ai rfl ?_))))))))
 refine s1 (sq (sq (rT [3,6,8,15] (s2 (cd rfl (fun c15=> ?_) fun c15=> ?_)))))
 · have hr:gc k a b=(k,false):=if_neg (by simpa using c15)
   refine sq (rT [6,7] (s3 (rt ?_)))
   rw[hr]
   exact rq [] [] rfl qz
 have hp:0≤aX k.inbox a b:=by simpa using c15
 have hr0:=fD k.inbox a b
 obtain⟨i,hi⟩:=Int.eq_ofNat_of_zero_le hp
 rw[hi] at hr0
 have hw:wrap64 ((i:Int)+1)=((i+1:Nat):Int):=by rw[aF (by omega)];omega
 have hr:gc k a b=_:=if_pos hp
 refine sk (sq (rD [3,6] (ai (by simp) (s3 (ai (by rw[hi];(try rw[hw]);exact⟨by rw[aA];exact⟨by first|(simp;done)|(simp;omega),by first|(simp;done)|(simp;omega),by first|(simp;done)|(simp;omega)⟩,eG _⟩) (ai (by rw[hi];(try rw[hw]);exact⟨by first|trivial|rfl|(simp;done),by first|rfl|(simp[aA];done),by first|exact iY _ _ _|(simp;done),by(try simp only[aSe,aSi,aSh,aSk,aSr,aA,iL,iM,iN,iO]);show _*48≤_;omega⟩) (s4 (ai (by rw[hi];(try rw[hw]);exact⟨by rw[aA];exact⟨by first|(simp;done)|(simp;omega),by first|(simp;done)|(simp;omega),by first|(simp;done)|(simp;omega)⟩,eG _⟩) (ai (by rw[hi];(try rw[hw]);exact⟨by first|trivial|rfl|(simp;done),by first|rfl|(simp[aA];done),by first|exact iY _ _ _|(simp;done),by(try simp only[aSe,aSi,aSh,aSk,aSr,aA,iL,iM,iN,iO]);show _*48≤_;omega⟩) (s2 (ai (by kernel_rfl) (sq (rT [6,7] (s3 (rt ?_)))))))))))))))
 rw[hr]
 refine rq [] [17] rfl ?_
 repeat' apply ai
 all_goals try exact qx
 all_goals(first|with_reducible rfl|(rw[hi,hw,tT,dn,aSd];simp[aE,gL,List.map_take,List.map_drop];done)|rfl)
theorem aF5 (m:Nat) (hm:1≤m∧m≤1000000):Sp 35 1 [tI 0 (-(m:Int))] [tD 0 (.s (45::jQ m))]:=by
 refine sb Tryz.func35 rfl (sq (rT [0] (s1 (sq (sq (rT [0,4] (s2 (cd rfl (fun c4=> ?_) fun c4=> ?_))))))))
 · simp at c4
   omega
 refine sk (sq (sq (rT [0,6] (s2 (cd rfl (fun c6=> ?_) fun c6=> ?_)))))
 · refine sq (rT [2] (s2 (xp (sQ m (by omega)) (ai (by exact aGv (show wrap64 (0 - -(m:Int))=m by rw[aF (by omega)];omega)) ?_))))
   refine ai (by have:=aGq m;show _≤9223372036854775807;simp only[aSi,aSh];omega) (s1 (rt (bQ rfl (congrArg D.s ?_))))
   rfl
 simp at c6
 omega
theorem uB (n:Int) (h: -1≤n∧n≤9999):Sp 35 1 [tI 0 n] [tD 0 (.s (fv n))]:=by
 unfold fv
 by_cases h0:n<0
 · obtain rfl:n= -1:=by omega
   exact aF5 1 (by omega)
 rw[if_neg h0]
 exact jM n (by omega)
end Go.Proofs.YtcbjphphppaoiaaGreatDoor
