/- Plain functions, and contracts of the functions that the law reaches. -/
import Derived.Laws.StructEq
import Derived.Sort.Grow
import Derived.Deep.Draws
import Derived.Lib.Split
import Derived.Lib.IndexMore
import Derived.Lib.IndexBytes
import Derived.Lib.CountLaws
import Derived.Test.YtmabaopgkimfmaaGreatDoorB0
set_option maxHeartbeats 12800000
namespace Go.Ab
open Int renaming toNat_natCast→aVy,tmod→aWe
open List renaming length_append→aVz,length_nil→aV2,length_cons→aV3,length_take→aV4,getD_eq_getElem?_getD→aV6,length_drop→aV7,getElem?_eq_getElem→aV8,getElem?_eq_some_iff→aV9,range→aWb,mem_map→aWc,take_length→aWd,all_eq_true→aWf,mem_singleton→aWg
open Nat renaming le_of_ble_eq_true→aV0,zero_le→aV5,le_refl→aWa,add_mul→aWh
open Bool renaming and_eq_true→aV1
open Go Go.RowKit
set_option linter.unusedVariables false
set_option linter.unusedSimpArgs false
def sd:D→Int| .i n=>n|_=>0
def toU:D→Int| .u n=>n|_=>0
def toB:D→Bool| .b x=>x|_=>false
def toS:D→List UInt8| .s l=>l|_=>[]
def toSl:D→List (List D)| .sl r=>r|_=>[]
def aMf (z:C) (d:D):D:=match z with
 | .d (.i _)=> .i (sd d)
 | .d (.u _)=> .u (toU d)
 | .d (.b _)=> .b (toB d)
 | .d (.s _)=> .s (toS d)
 | .nil=> .sl (toSl d)
 |_=>d
def nA:List C→List D→Nat→List D
 | [],_,_=>[]
 |z::zs,cs,k=>aMf z (cs.getD k (.i 0))::nA zs cs (k+1)
def jc (ti:TI) (l:List D):Option V:=if ti.kind.agg then some (.e (.agg (l.map C.d))) else match l with|d::_=>some (Dv d)| []=>none
def aGk (T:gO) (σ:St) (t:TypeId):V→Option (Prop×List (dG×Option K)×V)
 | .e (.c (.pe ob n i k))=>match T t,aR σ (.o ob) with
  |some ti,some (.row e es rows)=>match jc ti (nA ti.zero (rows.getD i []) k) with
   |some X=>some ((rows.length=n∧i<n)∧k+ti.size≤(rows.getD i []).length∧((rows.getD i []).drop k).take ti.size=nA ti.zero (rows.getD i []) k,[(.o ob,some (.row e es rows))],X)
   |none=>none
  |_,_=>none
 | .e (.c (.rp cs))=>match T t with
  |some ti=>match jc ti (nA ti.zero cs 0) with
   |some X=>some (ti.size≤cs.length∧cs.take ti.size=nA ti.zero cs 0,[],X)
   |none=>none
  |none=>none
 |X=>ss T σ t X
theorem pq {ti:TI} {l:List D} {X:V} (h:jc ti l=some X): (ti.kind.agg=true∧X= .e (.agg (l.map C.d)))∨(ti.kind.agg=false∧ ∃d r,l=d::r∧X=Dv d):=by
 unfold jc at h
 split at h
 · rename_i ha;cases h;exact .inl ⟨ha,rfl⟩
 · rename_i ha
   split at h
   · cases h;exact .inr ⟨by simpa using ha,_,_,rfl,rfl⟩
   · cases h
theorem aGl {P:Program} {T:gO} (hT:dM P T) {σ:St} {t:TypeId} {X:V} {p:Prop} {R:List (dG×Option K)} {Y:V} (h:aGk T σ t X=some (p,R,Y)) (hp:p): ∃q,ss T σ t X=some (q,R,Y)∧q:=by
 have hd: ∀(l:List D) (k n:Nat) (m:List D) (d:D) (r:List D),0<n→k+n≤l.length→(l.drop k).take n=m→m=d::r→l.getD k (.i 0)=d∧k<l.length:=by
  intro l k n m d r hn hk h1 h2
  subst h1
  cases n with
  |zero=>omega
  |succ n=>
   have hk':k<l.length:=by omega
   rw[List.drop_eq_getElem_cons hk',List.take_succ_cons] at h2
   cases h2
   exact⟨by rw[aV6,aV8 hk'];rfl,hk'⟩
 unfold aGk at h
 split at h
 · rename_i ob n i k
   split at h<;>try(cases h;done)
   rename_i ti e es rows ht hl
   split at h<;>try(cases h;done)
   rename_i Z hz
   cases h
   obtain⟨⟨h1,h2⟩,h3,h4⟩:=hp
   simp only[ss,ht,hl]
   rcases pq hz with⟨ha,rfl⟩|⟨ha,d,r,hm,rfl⟩
   · rw[if_pos ha]
     refine⟨_,by rw[h4],?_⟩;exact⟨h1,h2,h3⟩
   · rw[if_neg (by simp[ha])]
     obtain⟨q1,q2⟩:=hd _ _ _ _ d r (hT t ti ht).pos h3 h4 hm
     refine⟨_,by rw[q1],?_⟩;exact⟨h1,h2,q2⟩
 · rename_i cs
   split at h<;>try(cases h;done)
   rename_i ti ht
   split at h<;>try(cases h;done)
   rename_i Z hz
   cases h
   obtain⟨h3,h4⟩:=hp
   simp only[ss,ht]
   rcases pq hz with⟨ha,rfl⟩|⟨ha,d,r,hm,rfl⟩
   · rw[if_pos ha]
     refine⟨_,by rw[h4],?_⟩;exact h3
   · rw[if_neg (by simp[ha])]
     obtain⟨q1,q2⟩:=hd cs 0 _ _ d r (hT t ti ht).pos (by simpa using h3) (by simpa using h4) hm
     refine⟨_,by rw[q1],?_⟩;exact q2
 · exact⟨p,h,hp⟩
theorem aJx {P:Program} {o:Oper} {σ:St} {x:Operand} {d:Option Tmp} {f g:V→Option (Prop×List (dG×Option K)×V)} (hfg: ∀X p R Y,g X=some (p,R,Y)→p→ ∃q,f X=some (q,R,Y)∧q)
 (h:lL P o σ (kF σ x d f)):lL P o σ (kF σ x d g):=by
 intro p R W hg hp
 unfold kF at hg
 split at hg<;>try(cases hg;done)
 rename_i X Rx d hx
 split at hg<;>try(cases hg;done)
 rename_i p' R' Y hgx
 cases hg
 obtain⟨q,h1,h2⟩:=hfg _ _ _ _ hgx hp
 exact h q _ _ (by simp only[kF,hx,h1]) h2
theorem bi {P:Program} {w:World} {t:TypeId} (hu:P.underlying t=some .bool) (x y:Bool): (Op.equal t (.bool x) (.bool y)).run P w= .ok (x==y) w:=by
 unfold Op.equal
 rw[show Op.maxDepth=(Op.maxDepth - 1)+1 from rfl]
 unfold Op.equalIn
 rw[Sem.run_bind,run_underlying hu];rfl
theorem bj {P:Program} {w:World} {t:TypeId} (hu:P.underlying t=some .bool) (x y:Bool) (ox oy:Operand):
 (do eqGuard .eql t ox oy (.bool x) (.bool y);binOp .eql t (.bool x) (.bool y):Sem Value).run P w= .ok (.bool (x==y)) w∧
 (do eqGuard .neq t ox oy (.bool x) (.bool y);binOp .neq t (.bool x) (.bool y):Sem Value).run P w= .ok (.bool (!(x==y))) w:=by
 constructor
 · rw[Sem.run_bind,xE,Result.andThen_ok]
   show(do pure (.bool (← Op.equal t (.bool x) (.bool y))):Sem Value).run P w=_
   rw[Sem.run_bind,bi hu];rfl
 · rw[Sem.run_bind,xE,Result.andThen_ok]
   show(do pure (.bool (!(← Op.equal t (.bool x) (.bool y)))):Sem Value).run P w=_
   rw[Sem.run_bind,bi hu];rfl
def aMg (T:gO) (t:TypeId) (op:BinOp):V→V→Option (Prop×List (dG×Option K)×V)
 | .e (.c (.d (.b x))),.e (.c (.d (.b y)))=>match T t with
  |some ti=>match ti.kind,op with
   | .bool,.eql=>some (True,[],B (x==y))
   | .bool,.neq=>some (True,[],B (!(x==y)))
   |_,_=>none
  |none=>none
 |X,Y=>aOh op X Y
def aMh (T:gO) (t:TypeId) (op:BinOp):V→V→Option (Prop×List (dG×Option K)×V)
 | .e (.c (.d (.b x))),.e (.c (.d (.b y)))=>match T t with
  |some ti=>match ti.kind,op with
   | .bool,.eql=>some (True,[],B (x==y))
   | .bool,.neq=>some (True,[],B (!(x==y)))
   |_,_=>none
  |none=>none
 |X,Y=>none
theorem aJy {P:Program} {T:gO} (hT:dM P T) {o:Oper} {σ0:St} {op:BinOp} {t u:TypeId} {x y:Operand} (ho:o.op= .binOp op t x y u):lL P o σ0 (rA σ0 x y o.dst (aMh T t op)):=by
 refine rH fun X Y p R Z h hp=> ?_
 unfold aMh at h
 split at h
 · rename_i a b
   split at h<;>try(cases h;done)
   rename_i ti ht
   have hk: (ti.kind= .bool∧op= .eql∧R=[]∧Z=B (a==b))∨(ti.kind= .bool∧op= .neq∧R=[]∧Z=B (!(a==b))):=by
    split at h
    · rename_i hk;cases h;exact .inl ⟨hk,rfl,rfl,rfl⟩
    · rename_i hk;cases h;exact .inr ⟨hk,rfl,rfl,rfl⟩
    · cases h
   have hu:=(hT t ti ht).kind
   have hkk:ti.kind= .bool:=by rcases hk with h|h<;>exact h.1
   rw[hkk] at hu;simp only[lK] at hu
   rcases hk with⟨_,rfl,rfl,rfl⟩|⟨_,rfl,rfl,rfl⟩
   all_goals
    refine⟨bV.nil,fun cx σ ι S ac w _ _ hx hy=> ?_⟩
    simp only[lJ,ER,CR] at hx hy
    cases hv:ac.eval x<;>rw[hv] at hx<;>cases hx
    cases hv2:ac.eval y<;>rw[hv2] at hy<;>cases hy
   · refine⟨_,?_,.b _⟩
     have:=(bj (w:=w) hu a b x y).1
     unfold execOp;simp only[ho,hv,hv2];rw[Sem.run_bind,this];rfl
   · refine⟨_,?_,.b _⟩
     have:=(bj (w:=w) hu a b x y).2
     unfold execOp;simp only[ho,hv,hv2];rw[Sem.run_bind,this];rfl
 · cases h
theorem aJz {P:Program} {T:gO} (hT:dM P T) {o:Oper} {σ0:St} {op:BinOp} {t u:TypeId} {x y:Operand} (ho:o.op= .binOp op t x y u):lL P o σ0 (rA σ0 x y o.dst (aMg T t op)):=by
 intro p R W h hp
 unfold rA at h
 split at h<;>try(cases h;done)
 rename_i X Rx Y Ry d hd hx hy
 split at h<;>try(cases h;done)
 rename_i p' R' Z hf
 cases h
 unfold aMg at hf
 split at hf
 · exact aJy (P:=P) (σ0:=σ0) hT ho p _ _ (by simp only[rA,hx,hy,hd,aMh];simp only[hf]) hp
 · exact aDn (P:=P) (σ:=σ0) ho p _ _ (by simp only[rA,hx,hy,hf,hd]) hp
def aGm (T:gO) (o:Oper) (σ:St) (s d:TypeId) (x:Operand):yg:=
 match T s,T d with
 |some si,some di=>match si.kind,di.kind with
  | .sl e,.str=>match T e with
   |some ei=>match ei.kind with
    | .int .u8=>kF σ x o.dst (aSh σ)
    |_=>none
   |none=>none
  | .str,.sl e=>match T e with
   |some ei=>match ei.kind with
    | .int .u8=>aSi σ x e o.dst
    |_=>none
   |none=>none
  |_,_=>aAc T o σ
 |_,_=>none
def aGn (T:gO) (o:Oper) (σ:St) (c:Call):yg:=
 match c.callee,c.args.toList,c.argTypes.toList with
 | .builtin .copy,[x,y],[t,t2]=>aL8 T σ t t2 x y o.dst
 |_,_,_=>aAc T o σ
def aB5 (T:gO) (o:Oper) (σ:St):yg:=
 match o.op with
 | .load t x=>kF σ x o.dst (aGk T σ t)
 | .binOp op t x y u=>rA σ x y o.dst (aMg T t op)
 | .convert s d x=>aGm T o σ s d x
 | .call c=>aGn T o σ c
 |_=>aAc T o σ
theorem aGo {P:Program} {T:gO} (hT:dM P T) {o:Oper} {σ:St} {s d:TypeId} {x:Operand} (ho:o.op= .convert s d x):lL P o σ (aGm T o σ s d x):=by
 unfold aGm
 split
 · rename_i si di hs hd
   split
   · rename_i e hk1 hk2
     split
     · rename_i ei he
       split
       · rename_i hek
         exact aL6 hT ho hs hk1 he hek hd hk2
       · exact nW
     · exact nW
   · rename_i e hk1 hk2
     split
     · rename_i ei he
       split
       · rename_i hek
         exact aL7 hT ho hs hk1 he hek hd hk2
       · exact nW
     · exact nW
   · exact yK hT o σ
 · exact nW
theorem aGp {P:Program} {T:gO} (hT:dM P T) {o:Oper} {σ:St} {c:Call} (ho:o.op= .call c):lL P o σ (aGn T o σ c):=by
 obtain⟨callee,args,argTypes⟩:=c
 unfold aGn
 dsimp only
 split
 · rename_i x y t t2 ha hat
   obtain rfl:args= #[x,y]:=Array.toList_inj.1 (by simpa using ha)
   obtain rfl:argTypes= #[t,t2]:=Array.toList_inj.1 (by simpa using hat)
   exact aJo hT ho
 · exact yK hT o σ
theorem pr {P:Program} {T:gO} (hT:dM P T) (o:Oper) (σ:St):lL P o σ (aB5 T o σ):=by
 unfold aB5
 split
 · rename_i ho;exact aJx (fun X p R Y h hp=>aGl hT h hp) (zx hT ho)
 · rename_i ho;exact aJz hT ho
 · rename_i ho;exact aGo hT ho
 · rename_i ho;exact aGp hT ho
 · exact yK hT o σ
def aIn:dG→dG→Bool
 | .t a,.t b=>Nat.beq a b
 | .o a,.o b=>Nat.beq a b
 |_,_=>false
theorem aAf {a b:dG}:aIn a b=true↔a=b:=by
 cases a<;>cases b<;>simp[aIn]
def rh:St→dG→K→(St→Prop)→Prop
 | [],m,k,c=>c [(m,k)]
 |p::r,m,k,c=>match aIn p.1 m with
  |true=>c ((m,k)::r)
  |false=>rh r m k fun r'=>c (p::r')
theorem oP: ∀{σ:St} {m:dG} {k:K} {c:St→Prop},rh σ m k c↔c (pU σ m k)
 | [],m,k,c=>Iff.rfl
 |p::r,m,k,c=>by
  unfold rh pU
  by_cases h:p.1=m
  · rw[aAf.2 h,if_pos h]
  · have:aIn p.1 m=false:=by rw[← Bool.not_eq_true,aAf];exact h
    rw[this,if_neg h]
    exact oP
def aB6:List C→(List C→Prop)→Prop
 | [],c=>c []
 |x::r,c=>aB6 r fun r'=>c (x::r')
theorem gk: ∀{l:List C} {c:List C→Prop},aB6 l c↔c l
 | [],c=>Iff.rfl
 |x::r,c=>by unfold aB6;exact gk
def aGq:K→(K→Prop)→Prop
 | .box ty cs,c=>aB6 cs fun cs'=>c (.box ty cs')
 |k,c=>c k
theorem aGr {k:K} {c:K→Prop}:aGq k c↔c k:=by
 cases k<;>simp only[aGq]
 exact gk
def nF:St→List (dG×K)→(St→Prop)→Prop
 |σ,[],c=>c σ
 |σ,p::r,c=>aGq p.2 fun k=>rh σ p.1 k fun σ'=>nF σ' r c
theorem kL: ∀{W:List (dG×K)} {σ:St} {c:St→Prop},nF σ W c↔c (hZ σ W)
 | [],σ,c=>Iff.rfl
 |p::r,σ,c=>by unfold nF hZ;rw[aGr,oP];exact kL
def aIo (P:Program) (T:gO) (o:Oper) (σ:St) (k:List (dG×Option K)→List (dG×K)→Prop):Prop:=
 match aB5 T o σ with
 |some (p,R,W)=>p∧k R W
 |none=> ∃R W,vT P o R W∧bV R σ∧k R W
theorem pw {P:Program} {T:gO} (hT:dM P T) {o:Oper} {σ:St} {k:List (dG×Option K)→List (dG×K)→Prop} (h:aIo P T o σ k): ∃R W,vT P o R W∧bV R σ∧k R W:=by
 unfold aIo at h
 split at h
 · rename_i p R W he
   obtain⟨h1,h2⟩:=pr hT o σ p R W he h.1
   exact⟨R,W,h1,h2,h.2⟩
 · exact h
def goS (P:Program) (T:gO) (ops:List Oper) (dr:Bool):List Oper→St→List el→(St→List el→Prop)→Prop
 | [],σ,acc,k=>k σ acc
 |o::os,σ,acc,k=>match o.guard with
  |none=>aIo P T o σ fun R W=>nF σ W fun σ'=>goS P T ops dr os σ' (match dr with|true=>acc++[pN (R,W)]|false=>[]) k
  |some (j,want)=>match(ops[j]?).bind (·.dst) with
   |some s=>match aR σ (.t s) with
    |some (.v (.e (.c (.d (.b x)))))=>
     (x=want→aIo P T o σ fun R W=>nF σ W fun σ'=>goS P T ops dr os σ' (match dr with|true=>acc++[pN ((.t s,none)::R,W)]|false=>[]) k)∧
     (x= !want→nF σ (aAd o) fun σ'=>goS P T ops dr os σ' (match dr with|true=>acc++[pN ([(.t s,none)],aAd o)]|false=>[]) k)
    |_=>False
   |none=>False
theorem xI {P:Program} {T:gO} (hT:dM P T) {ops:Array Oper} {dr:Bool} {k:St→List el→Prop}: ∀(l:List Oper) (σ:St) (acc:List el),goS P T ops.toList dr l σ acc k→
 ∃ts:List lY,ae P ops l ts∧jW ts σ∧ ∃acc',(dr=true→acc'=acc++ts.map pN)∧k (eU ts σ) acc'
 | [],σ,acc,h=>⟨[],trivial,trivial,acc,fun _=>by simp,by simpa[goS,eU] using h⟩
 |o::os,σ,acc,h=>by
  simp only[goS] at h
  split at h
  · rename_i hg
    obtain⟨R,W,h1,h2,h3⟩:=pw hT h
    rw[kL] at h3
    obtain⟨ts,q1,q2,acc',q3,q4⟩:=xI hT os _ _ h3
    refine⟨(R,W)::ts,⟨bd hg h1,q1⟩,⟨h2,q2⟩,acc',fun hd=> ?_,by simpa[eU] using q4⟩
    rw[q3 hd];subst hd;simp
  · rename_i j want hg
    split at h<;>try(exact h.elim)
    rename_i s hs
    split at h<;>try(exact h.elim)
    rename_i x hl
    have hs': (ops[j]?).bind (·.dst)=some s:=by simpa using hs
    by_cases hx:x=want
    · subst hx
      obtain⟨R,W,h1,h2,h3⟩:=pw hT (h.1 rfl)
      rw[kL] at h3
      obtain⟨ts,q1,q2,acc',q3,q4⟩:=xI hT os _ _ h3
      refine⟨((.t s,some (.v (B x)))::R,W)::ts,⟨aDs hg hs' h1,q1⟩,⟨fun p hp=> ?_,q2⟩,acc',fun hd=> ?_,by simpa[eU] using q4⟩
      · rcases List.mem_cons.1 hp with rfl|hp
        · exact hl
        · exact h2 p hp
      · rw[q3 hd];subst hd;simp[pN]
    · have hx':x= !want:=by cases x<;>cases want<;>simp_all
      have h3:=h.2 hx'
      rw[kL] at h3
      obtain⟨ts,q1,q2,acc',q3,q4⟩:=xI hT os _ _ h3
      subst hx'
      refine⟨([(.t s,some (.v (B (!want))))],aAd o)::ts,⟨aIh hg hs' rfl,q1⟩,⟨bV.one hl,q2⟩,acc',fun hd=> ?_,by simpa[eU] using q4⟩
      rw[q3 hd];subst hd;simp[pN]
section
variable {P:Program} {io:List Nat} {Q:Ex→St→Prop} {σ:St}
theorem SW.text {T:gO} (hT:dM P T) (hm:P.follows .mixedOrders=true) {id:Nat} {ops:Array Oper} (h:goS P T ops.toList false ops.toList σ [] fun σ' _=>Q .norm σ'):SW P io (.region id ops false) Q σ:=by
 intro cx ι S a w hio hw hf
 have hfit: ∀o∈ops.toList,∀d,o.dst=some d→d<cx.N:=fun o ho=>yE (by simpa[sZ] using hf) ho
 obtain⟨ts,h1,h2,acc,_,h4⟩:=xI hT ops.toList σ [] h
 exact wp_region_list (yF ops.toList ts σ ι S a w h1 h2 hw hfit fun ι' S' a' w' hw'=>⟨_,ι',S',h4,hw'⟩)
theorem SW.drawn {T:gO} (hT:dM P T) (hm:P.follows .mixedOrders=true) {id:Nat} {ops:Array Oper} (h:goS P T ops.toList true ops.toList σ [] fun σ' ns=>wR ops.toList ns=true∧Q .norm σ'):SW P io (.region id ops true) Q σ:=by
 intro cx ι S a w hio hw hf
 have hfit: ∀o∈ops.toList,∀d,o.dst=some d→d<cx.N:=fun o ho=>yE (by simpa[sZ] using hf) ho
 obtain⟨ts,h1,h2,acc,h3,h4,h5⟩:=xI hT ops.toList σ [] h
 have h3:=h3 rfl
 rw[List.nil_append] at h3
 subst h3
 have hlen: ∀(l:List Oper) (ts:List lY),ae P ops l ts→ts.length=l.length∧ ∀(i:Nat) o t,l[i]? =some o→ts[i]? =some t→ItT P ops o t:=by
  intro l
  induction l with
  |nil=>intro ts h;cases ts with
   |nil=>exact⟨rfl,by simp⟩
   |cons t ts=>exact h.elim
  |cons o os ih=>intro ts h;cases ts with
   |nil=>exact h.elim
   |cons t ts=>
    obtain⟨q1,q2⟩:=ih ts h.2
    refine⟨by simp[q1],fun i o' t' ho ht=> ?_⟩
    cases i with
    |zero=>simp at ho ht;subst ho;subst ht;exact h.1
    |succ i=>exact q2 i o' t' (by simpa using ho) (by simpa using ht)
 obtain⟨q1,q2⟩:=hlen _ _ h1
 refine wp_region_any hm (dj (cx:=cx) (σ:=σ) (ts:=ts) (by simpa using q1) (fun i o t ho ht=>q2 i o t (by simpa using ho) ht) h2 (by simpa[pV,wR] using h4) hfit (fun ι' S' a' w' hw'=>⟨_,ι',S',h5,hw'⟩)
  ops.size (Array.replicate ops.size false) σ ι S a _ (by simp) (fun l=> ?_) hw.drew (fun k o ho hk=> ?_) ?_)
 · have hL: ∀i,(Array.replicate ops.size false).getD i false=false:=fun i=>by
    rw[Array.getD_eq_getD_getElem?,Array.getElem?_replicate];split<;>rfl
   have: ∀n,part ts (fun i=>(Array.replicate ops.size false).getD i false) σ l n=aR σ l:=by
    intro n
    induction n with
    |zero=>rfl
    |succ n ih=>rw[mP,if_neg (by rw[hL];simp),ih]
   rw[this]
 · rw[Array.getD_eq_getD_getElem?,Array.getElem?_replicate] at hk;split at hk<;>cases hk
 · exact Nat.le_trans (List.length_filter_le _ _) (by simp)
end
def keep (ks:List Nat):St→St
 | []=>[]
 |(.t s,k)::r=>match iM s ks with|true=>(.t s,k)::keep ks r|false=>keep ks r
 |(.o n,k)::r=>(.o n,k)::keep ks r
def rC (ks:List Nat):St→(St→Prop)→Prop
 | [],c=>c []
 |(.t s,k)::r,c=>match iM s ks with|true=>rC ks r fun r'=>c ((.t s,k)::r')|false=>rC ks r c
 |(.o n,k)::r,c=>rC ks r fun r'=>c ((.o n,k)::r')
theorem mQ {ks:List Nat}: ∀{σ:St} {c:St→Prop},rC ks σ c↔c (keep ks σ)
 | [],c=>Iff.rfl
 |(.t s,k)::r,c=>by
  unfold rC keep
  cases iM s ks
  · exact mQ
  · exact mQ
 |(.o n,k)::r,c=>by unfold rC keep;exact mQ
theorem nG (ks:List Nat): ∀(σ:St) (o:Nat),aR (keep ks σ) (.o o)=aR σ (.o o)
 | [],o=>rfl
 |(.t s,k)::r,o=>by
  unfold keep
  cases iM s ks
  · simp only[aR];rw[if_neg (by simp)];exact nG ks r o
  · simp only[aR];rw[if_neg (by simp),if_neg (by simp)];exact nG ks r o
 |(.o n,k)::r,o=>by
  unfold keep
  simp only[aR]
  rw[nG ks r o]
theorem vY (ks:List Nat): ∀(σ:St) (s:Nat) (k:K),aR (keep ks σ) (.t s)=some k→aR σ (.t s)=some k
 | [],s,k,h=>h
 |(.t a,x)::r,s,k,h=>by
  unfold keep at h
  cases hm:iM a ks with
  |false=>
   rw[hm] at h
   simp only[aR]
   by_cases e:a=s
   ·
    have hno: ∀(r:St),aR (keep ks r) (.t a)=none:=by
     intro r
     induction r with
     |nil=>rfl
     |cons p r ih=>
      obtain⟨l,y⟩:=p
      cases l with
      |o n=>unfold keep;simp only[aR];rw[if_neg (by simp)];exact ih
      |t b=>
       unfold keep
       cases hb:iM b ks with
       |false=>exact ih
       |true=>
        simp only[aR]
        by_cases e2:b=a
        · subst e2;rw[hm] at hb;cases hb
        · rw[if_neg (by simpa using e2)];exact ih
    subst e
    have h:aR (keep ks r) (.t a)=some k:=h
    rw[hno r] at h;cases h
   · rw[if_neg (by simpa using e)];exact vY ks r s k h
  |true=>
   rw[hm] at h
   simp only[aR] at h ⊢
   by_cases e:dG.t a=dG.t s
   · rw[if_pos e] at h ⊢; exact h
   · rw[if_neg e] at h ⊢; exact vY ks r s k h
 |(.o n,x)::r,s,k,h=>by
  unfold keep at h
  simp only[aR] at h ⊢
  rw[if_neg (by simp)] at h ⊢
  exact vY ks r s k h
theorem RW.keep (ks:List Nat) {P:Program} {cx:Cx P} {σ:St} {ι:Nat→Value} {S:Nat→Prop} {a:Act} {w:World} (h:RW cx σ ι S a w):RW cx (keep ks σ) ι S a w:=by
 have st:qY σ ι S w (Ab.keep ks σ) ι S w:=⟨fun _ h=>h,fun _ _=>rfl,fun o k hk=>⟨k,by rw[nG];exact hk,nE.refl' _ _⟩⟩
 have hmut: ∀o b,kM (Ab.keep ks σ) ι o b↔kM σ ι o b:=fun o b=>by unfold kM;rw[nG]
 refine⟨⟨fun s x hx=>qZ.step st (h.vr.slots s x (vY ks σ s _ hx)),fun o k hk=>OR.step st (fun _ _=>rfl) (h.vr.objs o k (by rw[← nG ks];exact hk)),fun o b q=>h.vr.mutS o b ((hmut o b).1 q),fun o o' b q q'=>h.vr.inj o o' b ((hmut o b).1 q) ((hmut o' b).1 q'),h.vr.sz⟩,
  h.size,h.defers,h.fr,fun o b q=>h.own o b ((hmut o b).1 q),h.rd,fun o k hk=>by rw[nG];exact h.io o k hk⟩
section
variable {P:Program} {io:List Nat} {Q:Ex→St→Prop} {σ:St}
theorem SW.keep (ks:List Nat) {c:Code} (h:rC ks σ (SW P io c Q)):SW P io c Q σ:=by
 rw[mQ] at h
 intro cx ι S a w hio hw hf
 exact h cx ι S a w hio (hw.keep ks) hf
theorem SW.mid (J:St→Prop) {x y:Code} (h:SW P io x (iz J Q) σ) (hy: ∀s,J s→SW P io y Q s):SW P io (.seq x y) Q σ:=
 SW.seq (h.mono fun e s hq=>by
  cases e with
  |norm=>exact hy s hq
  |exit id=>exact hq
  |ret=>exact hq)
end
theorem dQ {T:gO} {io:List Nat} {rs:List ResultVar} {σout s:St} (X:V) (rl:List (Nat×Nat)) (bor:List Nat) (h1:aGd T s rs=some X) (h2:mL ((.t 0,.v X)::dX s) σout rl bor σout) (h3:af σout rl bor=true) (h4:tf io σout rl bor=true):ah T io rs σout s:=
 ⟨X,rl,bor,h1,⟨h2,h3⟩,h4⟩
theorem bL {T:gO} {io:List Nat} {rs:List ResultVar} {s:St} {x y:D} (h1:aGd T s rs=some (Dv x)) (h2:x=y):ah T io rs [(.t 0,.v (Dv y))] s:=
 ⟨Dv x,[],[],h1,⟨⟨⟨Dv x,rfl,h2⟩,trivial⟩,rfl⟩,by simp[tf,cE];exact fun x _=> .inl rfl⟩
def gb (want x:Bool):Bool:=match want with|true=>x|false=> !x
def gOf (want:Bool):Option K→Option Bool
 |some (.v (.e (.c (.d (.b x)))))=>some (gb want x)
 |some (.cv _ _ b (.e (.c (.d (.b x)))))=>some (b&&gb want x)
 |_=>none
def jK (s:Nat) (want:Bool):St→St
 | []=>[]
 |(.t t,.cv s' want' b X)::r=>match Nat.beq s' s&&(want'==want) with
  |true=>(.t t,.v X)::jK s want r
  |false=>(.t t,.cv s' want' b X)::jK s want r
 |p::r=>p::jK s want r
def oG (σ:St):List (dG×Option K)→Prop
 | []=>True
 |p::r=>match aR σ p.1,p.2 with
  |some (.cv _ _ b _),some (.v _)=>b=true∧oG σ r
  |_,_=>oG σ r
def mz (σ:St) (R:List (dG×Option K)):List (dG×Option K):=R.map fun p=>(p.1,aR σ p.1)
theorem jR (s:Nat) (want:Bool): ∀(σ:St) (l:dG),aR (jK s want σ) l=aR σ l∨ ∃s' w' b X,aR σ l=some (.cv s' w' b X)∧aR (jK s want σ) l=some (.v X)
 | [],l=> .inl rfl
 |(.t t,.v X)::r,l=>by
  simp only[jK,aR]
  by_cases e:dG.t t=l
  · rw[if_pos e,if_pos e];exact .inl rfl
  · rw[if_neg e,if_neg e];exact jR s want r l
 |(.t t,.box a b)::r,l=>by
  simp only[jK,aR]
  by_cases e:dG.t t=l
  · rw[if_pos e,if_pos e];exact .inl rfl
  · rw[if_neg e,if_neg e];exact jR s want r l
 |(.t t,.row a b c)::r,l=>by
  simp only[jK,aR]
  by_cases e:dG.t t=l
  · rw[if_pos e,if_pos e];exact .inl rfl
  · rw[if_neg e,if_neg e];exact jR s want r l
 |(.t t,.dead)::r,l=>by
  simp only[jK,aR]
  by_cases e:dG.t t=l
  · rw[if_pos e,if_pos e];exact .inl rfl
  · rw[if_neg e,if_neg e];exact jR s want r l
 |(.t t,.zone a)::r,l=>by
  simp only[jK,aR]
  by_cases e:dG.t t=l
  · rw[if_pos e,if_pos e];exact .inl rfl
  · rw[if_neg e,if_neg e];exact jR s want r l
 |(.o t,k)::r,l=>by
  simp only[jK,aR]
  by_cases e:dG.o t=l
  · rw[if_pos e,if_pos e];exact .inl rfl
  · rw[if_neg e,if_neg e];exact jR s want r l
 |(.t t,.cv s' w' b X)::r,l=>by
  simp only[jK]
  cases Nat.beq s' s&&(w'==want) with
  |true=>
   simp only[aR]
   by_cases e:dG.t t=l
   · rw[if_pos e,if_pos e];exact .inr ⟨s',w',b,X,rfl,rfl⟩
   · rw[if_neg e,if_neg e];exact jR s want r l
  |false=>
   simp only[aR]
   by_cases e:dG.t t=l
   · rw[if_pos e,if_pos e];exact .inl rfl
   · rw[if_neg e,if_neg e];exact jR s want r l
theorem RW.reslot {P:Program} {cx:Cx P} {σ σ2:St} {ι:Nat→Value} {S:Nat→Prop} {a:Act} {w:World} (h:RW cx σ ι S a w) (ho: ∀o,aR σ2 (.o o)=aR σ (.o o)) (hs: ∀t k,aR σ2 (.t t)=some k→qZ σ ι w S k (iQ a t)):RW cx σ2 ι S a w:=by
 have st:qY σ ι S w σ2 ι S w:=⟨fun _ h=>h,fun _ _=>rfl,fun o k hk=>⟨k,by rw[ho];exact hk,nE.refl' _ _⟩⟩
 have hmut: ∀o b,kM σ2 ι o b↔kM σ ι o b:=fun o b=>by unfold kM;rw[ho]
 exact⟨⟨fun s x hx=>qZ.step st (hs s x hx),fun o k hk=>OR.step st (fun _ _=>rfl) (h.vr.objs o k (by rw[← ho];exact hk)),fun o b q=>h.vr.mutS o b ((hmut o b).1 q),fun o o' b q q'=>h.vr.inj o o' b ((hmut o b).1 q) ((hmut o' b).1 q'),h.vr.sz⟩,
  h.size,h.defers,h.fr,fun o b q=>h.own o b ((hmut o b).1 q),h.rd,fun o k hk=>by rw[ho];exact h.io o k hk⟩
theorem th {σ:St}: ∀{R:List (dG×Option K)},oG σ R→ ∀p∈R,∀s w b X Y,aR σ p.1=some (.cv s w b X)→p.2=some (.v Y)→b=true
 | [],_,p,hp=>by cases hp
 |q::r,h,p,hp=>by
  intro s w b X Y hl hy
  rcases List.mem_cons.1 hp with rfl|hp
  · simp only[oG,hl,hy] at h;exact h.1
  · refine th (R:=r) ?_ p hp s w b X Y hl hy
    simp only[oG] at h
    split at h
    · exact h.2
    · exact h
theorem tj {P:Program} {cx:Cx P} {σ:St} {ι:Nat→Value} {S:Nat→Prop} {a:Act} {w:World} (hw:RW cx σ ι S a w) {ops:Array Oper} {o:Oper} {j s:Nat} {want g:Bool} (hg:o.guard=some (j,want)) (hs: (ops[j]?).bind (·.dst)=some s) (hl:gOf want (aR σ (.t s))=some g):
 Region.wanted o (yielded ops a.tmps)=g:=by
 have key: ∀x,iQ a s= .bool x→yielded ops a.tmps j=some x:=by
  intro x h2
  have h3:a.tmps[s]? =some (.bool x):=by
   unfold iQ at h2
   rw[Array.getD_eq_getD_getElem?] at h2
   cases hq:a.tmps[s]? with
   |none=>rw[hq] at h2;simp[undef] at h2
   |some v=>rw[hq] at h2;simp at h2;rw[h2]
  simp[yielded,hs,h3]
 have keyu:iQ a s=undef→yielded ops a.tmps j=none:=by
  intro h2
  unfold iQ at h2
  rw[Array.getD_eq_getD_getElem?] at h2
  cases hq:a.tmps[s]? with
  |none=>simp[yielded,hs,hq]
  |some v=>rw[hq] at h2;simp at h2;simp[yielded,hs,hq,h2,undef]
 unfold gOf at hl
 split at hl
 · rename_i x hx
   cases hl
   have h1:=hw.vr.slots s _ hx
   simp only[qZ,lJ,ER,CR] at h1
   have h2:iQ a s= .bool x:=by generalize iQ a s=v at h1;cases h1;rfl
   cases want<;>cases x<;>simp[Region.wanted,hg,key _ h2,gb]
 · rename_i s' w' b x hx
   cases hl
   have h1:=hw.vr.slots s _ hx
   cases b with
   |true=>
    have h1:=h1.1 rfl
    simp only[lJ,ER,CR] at h1
    have h2:iQ a s= .bool x:=by generalize iQ a s=v at h1;cases h1;rfl
    cases want<;>cases x<;>simp[Region.wanted,hg,key _ h2,gb]
   |false=>
    have h2:=h1.2 rfl
    simp[Region.wanted,hg,keyu h2]
 · cases hl
theorem jS (s:Nat) (want:Bool): ∀(σ:St) (o:Nat),aR (jK s want σ) (.o o)=aR σ (.o o)
 | [],l=>rfl
 |(.o t,k)::r,l=>by
  simp only[jK,aR]
  rw[jS s want r l]
 |(.t t,.v X)::r,l=>by simp only[jK,aR];rw[if_neg (by simp),if_neg (by simp)];exact jS s want r l
 |(.t t,.box a b)::r,l=>by simp only[jK,aR];rw[if_neg (by simp),if_neg (by simp)];exact jS s want r l
 |(.t t,.row a b c)::r,l=>by simp only[jK,aR];rw[if_neg (by simp),if_neg (by simp)];exact jS s want r l
 |(.t t,.dead)::r,l=>by simp only[jK,aR];rw[if_neg (by simp),if_neg (by simp)];exact jS s want r l
 |(.t t,.zone a)::r,l=>by simp only[jK,aR];rw[if_neg (by simp),if_neg (by simp)];exact jS s want r l
 |(.t t,.cv s' w' b X)::r,l=>by
  simp only[jK]
  cases Nat.beq s' s&&(w'==want)<;>(simp only[aR];rw[if_neg (by simp),if_neg (by simp)];exact jS s want r l)
theorem se: ∀{W:List (dG×K)} {l:dG} {k:K},wr W l=some k→(l,k)∈W
 | [],l,k,h=>by cases h
 |p::r,l,k,h=>by
  unfold wr at h
  cases hq:wr r l with
  |some k'=>rw[hq] at h;cases h;exact List.mem_cons_of_mem _ (se hq)
  |none=>
   rw[hq] at h
   simp only at h
   split at h
   · rename_i e;cases h;rw[← e];exact List.mem_cons_self ..
   · cases h
def aTp (p:dG×Option K):Option (dG×K):=match p.2 with
 |some (.v X)=>some (p.1,.v X)
 |_=>none
theorem aB7 {P:Program} {ops:Array Oper} {o:Oper} {σ:St} {R:List (dG×Option K)} {X:V} {d j s:Nat} {want g:Bool} (hg:o.guard=some (j,want)) (hs: (ops[j]?).bind (·.dst)=some s) (hd:o.dst=some d) (hl:gOf want (aR σ (.t s))=some g)
 (hop:g=true→vT P o R [(.t d,.v X)]∧bV R (jK s want σ)) (hok:g=true→oG σ R):ItT P ops o ((.t s,aR σ (.t s))::mz σ R,[(.t d,.cv s want g X)]):=by
 intro cx σ1 ι S a w hr hw hb next Q hn
 have hls:aR σ1 (.t s)=aR σ (.t s):=hr (.t s,aR σ (.t s)) (List.mem_cons_self ..)
 have hact: ∀p∈R,aR σ1 p.1=aR σ p.1:=fun p hp=>hr (p.1,aR σ p.1) (List.mem_cons_of_mem _ (aWc.2 ⟨p,hp,rfl⟩))
 rw[tj hw hg hs (by rw[hls];exact hl)]
 have hdN:=hb d hd
 cases g with
 |false=>
  rw[if_neg (by simp)]
  rw[hd]
  have h1:=hw.putDead hdN undef
  refine hn ι S _ w (h1.reslot (fun o=>by simp only[hZ];rw[cQ _ _ (by simp),cQ _ _ (by simp)]) fun t k hk=> ?_)
  simp only[hZ] at hk
  rw[lA] at hk
  split at hk
  · rename_i e;cases e;cases hk
    refine⟨(by simp),fun _=> ?_⟩
    rw[ga (by rw[hw.size];exact hdN),if_pos rfl]
  · rename_i e
    exact h1.vr.slots t k (by rw[cQ _ _ e];exact hk)
 |true=>
  rw[if_pos rfl]
  left
  obtain⟨hop,hrd⟩:=hop rfl
  have hok:=hok rfl
  let L:List (dG×K):=R.filterMap aTp
  have hL: ∀l k,(l,k)∈L→ ∃Y,k= .v Y∧aR (jK s want σ) l=some (.v Y)∧aR σ1 l=aR σ l∧(aR σ l=some (.v Y)∨ ∃s' w',aR σ l=some (.cv s' w' true Y)):=by
   intro l k hm
   obtain⟨p,hp,hpe⟩:=List.mem_filterMap.1 hm
   obtain⟨pl,pk⟩:=p
   unfold aTp at hpe
   split at hpe
   · rename_i e1 Y e2
     cases hpe
     simp only at e2 ⊢
     have h1:=hrd _ hp
     simp only at h1
     refine⟨Y,rfl,h1.trans e2,hact _ hp,?_⟩
     rcases jR s want σ pl with h3|⟨s2,w2,b2,X2,h3,h4⟩
     · left;rw[← h3,h1,e2]
     · rw[h4,e2] at h1;cases h1
       have:=th hok _ hp _ _ _ _ _ h3 e2
       subst this
       exact .inr ⟨_,_,h3⟩
   · cases hpe
  have hσ2: ∀l,aR (hZ σ1 L) l=aR σ1 l∨ ∃Y s' w',aR (hZ σ1 L) l=some (.v Y)∧aR σ1 l=some (.cv s' w' true Y):=by
   intro l
   rw[lB]
   cases hq:wr L l with
   |none=>exact .inl rfl
   |some k=>
    obtain⟨Y,rfl,h1,h2,h3⟩:=hL l k (se hq)
    rcases h3 with h3|⟨s',w',h3⟩
    · left;rw[h2,h3]
    · right;exact⟨Y,s',w',rfl,by rw[h2,h3]⟩
  have hσ2o: ∀o,aR (hZ σ1 L) (.o o)=aR σ1 (.o o):=by
   intro o'
   rw[lB]
   cases hq:wr L (.o o') with
   |none=>rfl
   |some k=>
    obtain⟨Y,rfl,h1,h2,h3⟩:=hL _ k (se hq)
    rw[jS] at h1
    rw[h2,h1]
  have hrw2:RW cx (hZ σ1 L) ι S a w:=hw.reslot hσ2o fun t k hk=>by
   rcases hσ2 (.t t) with h|⟨Y,s',w',h1,h2⟩
   · rw[h] at hk;exact hw.vr.slots t k hk
   · rw[h1] at hk;cases hk
     exact(hw.vr.slots t _ h2).1 rfl
  have hrd2:bV R (hZ σ1 L):=by
   intro p hp
   have h1:=hrd p hp
   rw[lB]
   cases hq:wr L p.1 with
   |some k=>
    obtain⟨Y,rfl,h2,_,_⟩:=hL _ k (se hq)
    rw[← h1,h2]
   |none=>
    show aR σ1 p.1=p.2
    rw[hact p hp]
    rcases jR s want σ p.1 with h3|⟨s2,w2,b2,X2,h3,h4⟩
    · rw[← h3];exact h1
    · exfalso
      have: (p.1,K.v X2)∈L:=List.mem_filterMap.2 ⟨p,hp,by unfold aTp;rw[← h1,h4]⟩
      obtain⟨k,hk⟩:=aOj (W:=L) (l:=p.1) (aWc.2 ⟨_,this,rfl⟩)
      rw[hk] at hq;cases hq
  refine hop cx (hZ σ1 L) ι S a w hrd2 hrw2 hb next Q fun ι' S' a' w' hw'=>hn ι' S' a' w' ?_
  simp only[hZ] at hw' ⊢
  refine hw'.reslot (fun o'=>by rw[cQ _ _ (by simp),cQ _ _ (by simp),hσ2o]) fun t k hk=> ?_
  rw[lA] at hk
  by_cases e:d=t
  · subst e
    rw[if_pos rfl] at hk;cases hk
    exact⟨fun _=>hw'.vr.slots d _ (cV _ _ _),by simp⟩
  · rw[if_neg (by simpa using e)] at hk
    rcases hσ2 (.t t) with h|⟨Y,s',w',h1,h2⟩
    · exact hw'.vr.slots t k (by rw[cQ _ _ (by simpa using e),h];exact hk)
    · rw[h2] at hk;cases hk
      exact⟨fun _=>hw'.vr.slots t (.v Y) (by rw[cQ _ _ (by simpa using e)];exact h1),by simp⟩
def evc (σ:St):Operand→Option (V×List (dG×Option K)×Option Bool)
 | .tmp t=>match aR σ (.t t) with
  |some (.v X)=>some (X,[(.t t,some (.v X))],none)
  |some (.cv s w b X)=>some (X,[(.t t,some (.cv s w b X))],some b)
  |_=>none
 | .const v=>if v.oneCell' then some (.e (.c (aBt v)),[],none) else none
 |_=>none
def vD:Option Bool→Prop
 |none=>True
 |some b=>b=true
theorem aAg {σ:St} {x:Operand} {X:V} {R:List (dG×Option K)} {c:Option Bool} (h:evc σ x=some (X,R,c)):bV R σ:=by
 cases x with
 |tmp t=>
  simp only[evc] at h
  split at h
  · rename_i X' hl;cases h;exact bV.one hl
  · rename_i hl;cases h;exact bV.one hl
  · cases h
 |const v=>
  simp only[evc] at h
  split at h
  · cases h;exact bV.nil
  · cases h
 |global g=>simp[evc] at h
 |func f=>simp[evc] at h
theorem aAh {σ0:St} {x:Operand} {X:V} {R:List (dG×Option K)} {c:Option Bool} (h:evc σ0 x=some (X,R,c)) (hc:vD c) {P:Program} {cx:Cx P} {σ:St} {ι:Nat→Value} {S:Nat→Prop} {a:Act} {w:World}
 (hr:bV R σ) (hw:RW cx σ ι S a w):lJ σ ι w S X (a.eval x):=by
 cases x with
 |tmp t=>
  simp only[evc] at h
  split at h
  · rename_i X' hl;cases h;exact hw.vr.slots t _ (hr (.t t,some (.v X)) (by simp))
  · rename_i s w' b X' hl
    cases h
    exact(hw.vr.slots t (.cv s w' b X) (hr (.t t,some (.cv s w' b X)) (by simp))).1 hc
  · cases h
 |const v=>
  simp only[evc] at h
  split at h
  · rename_i hv;cases h;exact ir hv
  · cases h
 |global g=>simp[evc] at h
 |func f=>simp[evc] at h
def aGs (b:Bool):D→D→Option D
 | .i m,.i n=>some (.i (bif b then m else n))
 | .u m,.u n=>some (.u (bif b then m else n))
 | .b m,.b n=>some (.b (bif b then m else n))
 | .s m,.s n=>some (.s (bif b then m else n))
 |_,_=>none
def aMi (x y:Operand) (b:Bool) (X Y:D):Option D:=match x,y with
 |_,.const (.bool false)=>match X with| .b m=>some (.b (b&&m))|_=>none
 | .const (.bool true),_=>match Y with| .b n=>some (.b (b||n))|_=>none
 |_,_=>aGs b X Y
def aGt (σ:St) (c x y:Operand) (d:Option Tmp):yg:=
 match ev σ c,evc σ x,evc σ y,d with
 |some (.e (.c (.d (.b b))),R),some (.e (.c (.d X)),R1,c1),some (.e (.c (.d Y)),R2,c2),some d=>match aMi x y b X Y with
  |some Z=>some ((b=true→vD c1)∧(b=false→vD c2),R++R1++R2,[(.t d,.v (Dv Z))])
  |none=>none
 |_,_,_,_=>none
theorem aB8 {b:Bool} {X Y Z:D} {w:World} {S:Nat→Prop} {vx vy:Value} (h:aGs b X Y=some Z) (hx:b=true→DR w S X vx) (hy:b=false→DR w S Y vy):DR w S Z (if b then vx else vy):=by
 cases X<;>cases Y<;>simp only[aGs] at h<;>cases h
 all_goals
  cases b with
  |true=>have:=hx rfl;cases this;first|exact .i _|exact .u _|exact .b _|exact .s _
  |false=>have:=hy rfl;cases this;first|exact .i _|exact .u _|exact .b _|exact .s _
theorem aGu {P:Program} {o:Oper} {σ0:St} {c x y:Operand} (ho:o.op= .pick c x y):lL P o σ0 (aGt σ0 c x y o.dst):=by
 intro p R W h hp
 unfold aGt at h
 split at h<;>try(cases h;done)
 rename_i b Rc X R1 c1 Y R2 c2 d hc hx hy hd
 split at h<;>try(cases h;done)
 rename_i Z hz
 cases h
 refine⟨mY hd fun cx σ ι S a w hr hw=> ?_,((cU hc).append (aAg hx)).append (aAg hy)⟩
 have hC:=cZ hc hr.left.left hw
 have hX:b=true→lJ σ ι w S (Dv X) (a.eval x):=fun hb=>aAh hx (hp.1 hb) hr.left.right hw
 have hY:b=false→lJ σ ι w S (Dv Y) (a.eval y):=fun hb=>aAh hy (hp.2 hb) hr.right hw
 have hcv:a.eval c= .bool b:=by
  simp only[lJ,ER,CR] at hC
  generalize a.eval c=v at hC;cases hC;rfl
 have hX:b=true→DR w S X (a.eval x):=hX
 have hY:b=false→DR w S Y (a.eval y):=hY
 refine⟨if b then a.eval x else a.eval y,?_,?_⟩
 · cases b<;>simp[execOp,ho,hcv,asBool]
 · show DR w S Z (if b then a.eval x else a.eval y)
   unfold aMi at hz
   split at hz
   · split at hz
     · cases hz
       cases b with
       |true=>have:=hX rfl;simpa using this
       |false=>simp[Act.eval];exact .b _
     · cases hz
   · split at hz
     · cases hz
       cases b with
       |true=>simp[Act.eval];exact .b _
       |false=>have:=hY rfl;simpa using this
     · cases hz
   · exact aB8 hz hX hY
def na (T:gO) (o:Oper) (σ:St):yg:=
 match o.op with
 | .pick c x y=>match aGt σ c x y o.dst with
  |some r=>some r
  |none=>aIf σ c x y o.dst
 |_=>aB5 T o σ
theorem vZ {P:Program} {T:gO} (hT:dM P T) (o:Oper) (σ:St):lL P o σ (na T o σ):=by
 unfold na
 split
 · rename_i ho
   split
   · rename_i r hr
     have:=aGu (P:=P) (σ0:=σ) ho
     rw[hr] at this;exact this
   · exact zy ho
 · exact pr hT o σ
def aMj (m i:Nat):Bool:=Nat.beq (Nat.land (Nat.shiftRight m i) 1) 1
theorem aMk (m i:Nat):aMj m i=m.testBit i:=by
 have h:aMj m i=decide ((m >>> i) % 2=1):=by
  show Nat.beq ((m >>> i) &&& 1) 1=_
  rw[Nat.and_one_is_mod,Bool.eq_iff_iff,Nat.beq_eq,decide_eq_true_eq]
 rw[h,Nat.testBit,Nat.one_and_eq_mod_two,Bool.eq_iff_iff,decide_eq_true_eq,bne_iff_ne]
 omega
def bits:List Nat→Nat
 | []=>0
 |x::r=>Nat.lor (Nat.shiftLeft 1 x) (bits r)
theorem vE {b:Nat}: ∀{l:List Nat},(bits l).testBit b=true↔b∈l
 | []=>by simp[bits]
 |x::r=>by
  show((1 <<< x) ||| bits r).testBit b=true↔_
  rw[Nat.testBit_or,Bool.or_eq_true,vE (l:=r),List.mem_cons,Nat.shiftLeft_eq,Nat.one_mul,Nat.testBit_two_pow,decide_eq_true_eq]
  exact⟨fun h=>h.imp Eq.symm id,fun h=>h.imp Eq.symm id⟩
def tk (acc:List Nat):List Nat→Nat
 | []=>0
 |i::r=>Nat.lor (Nat.lor (Nat.shiftLeft 1 i) (acc.getD i 0)) (tk acc r)
def tl:List Oper→List Nat→List Nat
 | [],acc=>acc
 |o::os,acc=>tl os (acc++[tk acc (kG o)])
def aGv (accM:List Nat) (accP:List (List Nat)):Prop:=accM.length=accP.length∧ ∀i b,(accM.getD i 0).testBit b=true→b∈accP.getD i []
theorem px {accM:List Nat} {accP:List (List Nat)} (h:aGv accM accP) {b:Nat}: ∀{l:List Nat},(tk accM l).testBit b=true→b∈l.flatMap fun i=>i::accP.getD i []
 | [],hb=>by simp[tk] at hb
 |i::r,hb=>by
  have hb: (((1 <<< i) ||| accM.getD i 0) ||| tk accM r).testBit b=true:=hb
  rw[Nat.testBit_or,Nat.testBit_or,Bool.or_eq_true,Bool.or_eq_true,Nat.shiftLeft_eq,Nat.one_mul,Nat.testBit_two_pow,decide_eq_true_eq] at hb
  rw[List.flatMap_cons,List.mem_append,List.mem_cons]
  rcases hb with(hb|hb)|hb
  · exact .inl (.inl hb.symm)
  · exact .inl (.inr (h.2 i b hb))
  · exact .inr (px h hb)
theorem tn: ∀(l:List Oper) {accM:List Nat} {accP:List (List Nat)},aGv accM accP→aGv (tl l accM) (lZ l accP)
 | [],accM,accP,h=>h
 |o::os,accM,accP,h=>by
  unfold tl lZ
  refine tn os ⟨by simp[h.1],fun i b hb=> ?_⟩
  rw[aV6] at hb ⊢
  by_cases hi:i<accM.length
  · rw[List.getElem?_append_left hi] at hb
    rw[List.getElem?_append_left (by rw[← h.1];exact hi)]
    have:=h.2 i b (by rw[aV6];exact hb)
    rwa [aV6] at this
  · rw[List.getElem?_append_right (by omega)] at hb
    rw[List.getElem?_append_right (by rw[← h.1];omega),← h.1]
    by_cases e:i - accM.length=0
    · rw[e] at hb ⊢
      exact px h hb
    · rw[List.getElem?_eq_none (by simp;omega)] at hb
      simp at hb
abbrev RWM:=Nat×Nat
def rwM (x:el):RWM:=(bits x.1,bits x.2)
def aD3 (x y:RWM):Bool:=Nat.beq (Nat.land x.2 (Nat.lor y.1 y.2)) 0&&Nat.beq (Nat.land x.1 y.2) 0
theorem wS {xs ys:List Nat} (h: ∀b,b∈xs→b∈ys→False):pG xs ys=true:=by
 induction xs with
 |nil=>rfl
 |cons x r ih=>
  simp only[pG,aV1,Bool.not_eq_true']
  refine⟨?_,ih fun b hb=>h b (List.mem_cons_of_mem _ hb)⟩
  rw[← Bool.not_eq_true,gP]
  exact h x (List.mem_cons_self ..)
theorem nb {m n b:Nat} (h:Nat.beq (Nat.land m n) 0=true) (hm:m.testBit b=true) (hn:n.testBit b=true):False:=by
 have h:m &&& n=0:=Nat.eq_of_beq_eq_true h
 have: (m &&& n).testBit b=true:=by rw[Nat.testBit_and,hm,hn];rfl
 rw[h] at this;simp at this
theorem aGw {x y:el} (h:aD3 (rwM x) (rwM y)=true):pH x y=true:=by
 simp only[aD3,rwM,aV1] at h
 simp only[pH,aV1]
 have hor: ∀b,(b∈y.1∨b∈y.2)→(Nat.lor (bits y.1) (bits y.2)).testBit b=true:=fun b hb=>by
  show(bits y.1 ||| bits y.2).testBit b=true
  rw[Nat.testBit_or,Bool.or_eq_true,vE,vE];exact hb
 exact⟨⟨wS fun b h1 h2=>nb h.1 (vE.2 h1) (hor b (.inr h2)),wS fun b h1 h2=>nb h.1 (vE.2 h1) (hor b (.inl h2))⟩,wS fun b h1 h2=>nb h.2 (vE.2 h1) (vE.2 h2)⟩
def aPw (pm:Nat) (y:RWM):Nat→List RWM→Bool
 |_,[]=>true
 |i,x::r=>(aMj pm i||aD3 x y)&&aPw pm y (i+1) r
def aMl:List RWM→List Nat→List RWM→Bool
 | [],_,_=>true
 |y::ys,pm::pms,done=>aPw pm y 0 done&&aMl ys pms (done++[y])
 |_::_,[],_=>false
theorem aAi {pm:Nat} {y:RWM}: ∀{l:List RWM} {i:Nat},aPw pm y i l=true→ ∀(k:Nat) x,l[k]? =some x→pm.testBit (i+k)=true∨aD3 x y=true
 | [],i,_,k,x,hx=>by simp at hx
 |z::r,i,h,k,x,hx=>by
  simp only[aPw,aV1,Bool.or_eq_true] at h
  cases k with
  |zero=>simp at hx;subst hx;rw[← aMk];exact h.1
  |succ k=>
   have:=aAi h.2 k x (by simpa using hx)
   rwa [show i+1+k=i+(k+1) by omega] at this
theorem aAj: ∀{ys:List RWM} {pms:List Nat} {done:List RWM},aMl ys pms done=true→ ∀(k:Nat) y pm,ys[k]? =some y→pms[k]? =some pm→ ∀(i:Nat) x,i<done.length+k→(done++ys)[i]? =some x→pm.testBit i=true∨aD3 x y=true
 | [],pms,done,_,k,y,pm,hy,_,i,x,_,_=>by simp at hy
 |z::ys,[],done,h,k,y,pm,hy,hp,i,x,_,_=>by simp[aMl] at h
 |z::ys,p::pms,done,h,k,y,pm,hy,hp,i,x,hi,hx=>by
  simp only[aMl,aV1] at h
  cases k with
  |zero=>
   simp at hy hp;subst hy;subst hp
   have:=aAi h.1 i x (by rw[List.getElem?_append_left (by omega)] at hx;exact hx)
   rwa [Nat.zero_add] at this
  |succ k=>exact aAj h.2 k y pm (by simpa using hy) (by simpa using hp) i x (by simp;omega) (by simpa using hx)
theorem tp {ns:List el} {pl:List (List Nat)}: ∀(n:Nat),(∀k,k<n→ ∀i,i<k→ ∀x y pk,ns[i]? =some x→ns[k]? =some y→pl[k]? =some pk→i∈pk∨pH x y=true)→yH ns pl n=true
 |0,_=>rfl
 |n+1,h=>by
  simp only[yH,aV1]
  refine⟨?_,tp n fun k hk=>h k (by omega)⟩
  split
  · rename_i y pk hy hp
    rw[aWf]
    intro i hi
    rw[Bool.or_eq_true]
    cases hx:ns[i]? with
    |none=>exact .inr rfl
    |some x=>exact(h n (by omega) i (List.mem_range.1 hi) x y pk hx hy hp).imp gP.2 id
  · rfl
def bm (l:List Oper) (ns:List el):Bool:=rY 0 l&&aMl (ns.map rwM) (tl l []) []
theorem bo {l:List Oper} {ns:List el} (h:bm l ns=true):wR l ns=true:=by
 simp only[bm,aV1] at h
 simp only[wR,aV1]
 refine⟨h.1,tp _ fun k hk i hi x y pk hx hy hp=> ?_⟩
 have hm:=tn l (accM:=[]) (accP:=[]) ⟨rfl,by simp⟩
 have hpl:k< (lZ l []).length:=(aV9.1 hp).1
 have hml:k< (tl l []).length:=by rw[hm.1];exact hpl
 have hpm: (tl l [])[k]? =some (tl l [])[k]:=aV8 hml
 rcases aAj h.2 k (rwM y) _ (by simp[hy]) hpm i (rwM x) (by simpa using hi) (by simp[hx]) with h1|h1
 · left
   have:=hm.2 k i (by rw[aV6,hpm];exact h1)
   rwa [aV6,hp] at this
 · exact .inr (aGw h1)
def aIp (P:Program) (T:gO) (o:Oper) (σ:St) (k:List (dG×Option K)→List (dG×K)→Prop):Prop:=
 match na T o σ with
 |some (p,R,W)=>p∧k R W
 |none=> ∃R W,vT P o R W∧bV R σ∧k R W
theorem py {P:Program} {T:gO} (hT:dM P T) {o:Oper} {σ:St} {k:List (dG×Option K)→List (dG×K)→Prop} (h:aIp P T o σ k): ∃R W,vT P o R W∧bV R σ∧k R W:=by
 unfold aIp at h
 split at h
 · rename_i p R W he
   obtain⟨h1,h2⟩:=vZ hT o σ p R W he h.1
   exact⟨R,W,h1,h2,h.2⟩
 · exact h
def aPx (dr:Bool) (acc:List el) (R:List (dG×Option K)) (W:List (dG×K)):List el:=match dr with
 |true=>acc++[pN (R,W)]
 |false=>[]
def jd (P:Program) (T:gO) (o:Oper) (σ:St) (s:Nat) (want g:Bool) (d:Nat) (k:List (dG×Option K)→V→Prop):Prop:=
 match na T o (jK s want σ) with
 |some (p,R,[(.t d',.v X)])=>match Nat.beq d' d with
  |true=>(g=true→p)∧(g=true→oG σ R)∧k R X
  |false=>False
 |some _=>False
 |none=> ∃R X,(g=true→vT P o R [(.t d,.v X)]∧bV R (jK s want σ))∧(g=true→oG σ R)∧k R X
def goC (P:Program) (T:gO) (ops:List Oper) (dr:Bool):List Oper→St→List el→(St→List el→Prop)→Prop
 | [],σ,acc,k=>k σ acc
 |o::os,σ,acc,k=>match o.guard with
  |none=>aIp P T o σ fun R W=>nF σ W fun σ'=>goC P T ops dr os σ' (aPx dr acc R W) k
  |some (j,want)=>match(ops[j]?).bind (·.dst),o.dst with
   |some s,some d=>match gOf want (aR σ (.t s)) with
    |some g=>jd P T o σ s want g d fun R X=>rh σ (.t d) (.cv s want g X) fun σ'=>goC P T ops dr os σ' (aPx dr acc ((.t s,none)::R) [(.t d,.dead)]) k
    |none=>False
   |_,_=>False
theorem bp {P:Program} {T:gO} (hT:dM P T) {ops:Array Oper} {o:Oper} {σ:St} {j s d:Nat} {want g:Bool} {k:List (dG×Option K)→V→Prop} (hg:o.guard=some (j,want)) (hs: (ops[j]?).bind (·.dst)=some s) (hd:o.dst=some d) (hl:gOf want (aR σ (.t s))=some g)
 (h:jd P T o σ s want g d k): ∃R X,ItT P ops o ((.t s,aR σ (.t s))::mz σ R,[(.t d,.cv s want g X)])∧k R X:=by
 unfold jd at h
 split at h
 · rename_i p R d' X he
   split at h
   · rename_i hdd
     have hdd:=Nat.eq_of_beq_eq_true hdd
     subst hdd
     obtain⟨h1,h2,h3⟩:=h
     exact⟨R,X,aB7 hg hs hd hl (fun hgt=>vZ hT o _ p R _ he (h1 hgt)) h2,h3⟩
   · exact h.elim
 · exact h.elim
 · obtain⟨R,X,h1,h2,h3⟩:=h
   exact⟨R,X,aB7 hg hs hd hl h1 h2,h3⟩
theorem yO {σ:St} {s:Nat} {R:List (dG×Option K)}:bV ((.t s,aR σ (.t s))::mz σ R) σ:=by
 intro p hp
 rcases List.mem_cons.1 hp with rfl|hp
 · rfl
 · obtain⟨q,hq,rfl⟩:=aWc.1 hp;rfl
theorem aGx {σ:St} {s d:Nat} {R:List (dG×Option K)} {k:K} {o:Option K} {k':K}:pN ((.t s,o)::R,[(.t d,k)])=pN ((.t s,aR σ (.t s))::mz σ R,[(.t d,k')]):=by
 simp[pN,mz,Function.comp_def]
theorem xJ {P:Program} {T:gO} (hT:dM P T) {ops:Array Oper} {dr:Bool} {k:St→List el→Prop}: ∀(l:List Oper) (σ:St) (acc:List el),goC P T ops.toList dr l σ acc k→
 ∃ts:List lY,ae P ops l ts∧jW ts σ∧ ∃acc',(dr=true→acc'=acc++ts.map pN)∧k (eU ts σ) acc'
 | [],σ,acc,h=>⟨[],trivial,trivial,acc,fun _=>by simp,by simpa[goC,eU] using h⟩
 |o::os,σ,acc,h=>by
  simp only[goC] at h
  split at h
  · rename_i hg
    obtain⟨R,W,h1,h2,h3⟩:=py hT h
    rw[kL] at h3
    obtain⟨ts,q1,q2,acc',q3,q4⟩:=xJ hT os _ _ h3
    refine⟨(R,W)::ts,⟨bd hg h1,q1⟩,⟨h2,q2⟩,acc',fun hd=> ?_,by simpa[eU] using q4⟩
    rw[q3 hd];subst hd;simp[aPx]
  · rename_i j want hg
    split at h<;>try(exact h.elim)
    rename_i s d hs hd
    split at h<;>try(exact h.elim)
    rename_i g hl
    have hs': (ops[j]?).bind (·.dst)=some s:=by simpa using hs
    obtain⟨R,X,h1,h2⟩:=bp hT hg hs' hd hl h
    rw[oP] at h2
    obtain⟨ts,q1,q2,acc',q3,q4⟩:=xJ hT os _ _ h2
    refine⟨((.t s,aR σ (.t s))::mz σ R,[(.t d,.cv s want g X)])::ts,⟨h1,q1⟩,⟨yO,q2⟩,acc',fun hdr=> ?_,by simpa[eU,hZ] using q4⟩
    rw[q3 hdr];subst hdr
    simp only[aPx,List.map_cons,List.append_assoc,List.singleton_append]
    rw[aGx (σ:=σ) (k':= .cv s want g X)]
section
variable {P:Program} {io:List Nat} {Q:Ex→St→Prop} {σ:St}
theorem SW.regT {T:gO} (hT:dM P T) (ks:List Nat) {id:Nat} {ops:Array Oper} (h:goC P T ops.toList false ops.toList σ [] fun σ' _=>rC ks σ' (Q .norm)):SW P io (.region id ops false) Q σ:=by
 intro cx ι S a w hio hw hf
 have hfit: ∀o∈ops.toList,∀d,o.dst=some d→d<cx.N:=fun o ho=>yE (by simpa[sZ] using hf) ho
 obtain⟨ts,h1,h2,acc,_,h4⟩:=xJ hT ops.toList σ [] h
 rw[mQ] at h4
 exact wp_region_list (yF ops.toList ts σ ι S a w h1 h2 hw hfit fun ι' S' a' w' hw'=>⟨_,ι',S',h4,hw'.keep ks⟩)
theorem SW.regD {T:gO} (hT:dM P T) (hm:P.follows .mixedOrders=true) (ks:List Nat) {id:Nat} {ops:Array Oper} (h:goC P T ops.toList true ops.toList σ [] fun σ' ns=>bm ops.toList ns=true∧rC ks σ' (Q .norm)):SW P io (.region id ops true) Q σ:=by
 intro cx ι S a w hio hw hf
 have hfit: ∀o∈ops.toList,∀d,o.dst=some d→d<cx.N:=fun o ho=>yE (by simpa[sZ] using hf) ho
 obtain⟨ts,h1,h2,acc,h3,h4,h5⟩:=xJ hT ops.toList σ [] h
 have h3:=h3 rfl
 rw[List.nil_append] at h3
 subst h3
 rw[mQ] at h5
 have hlen: ∀(l:List Oper) (ts:List lY),ae P ops l ts→ts.length=l.length∧ ∀(i:Nat) o t,l[i]? =some o→ts[i]? =some t→ItT P ops o t:=by
  intro l
  induction l with
  |nil=>intro ts h;cases ts with
   |nil=>exact⟨rfl,by simp⟩
   |cons t ts=>exact h.elim
  |cons o os ih=>intro ts h;cases ts with
   |nil=>exact h.elim
   |cons t ts=>
    obtain⟨q1,q2⟩:=ih ts h.2
    refine⟨by simp[q1],fun i o' t' ho ht=> ?_⟩
    cases i with
    |zero=>simp at ho ht;subst ho;subst ht;exact h.1
    |succ i=>exact q2 i o' t' (by simpa using ho) (by simpa using ht)
 obtain⟨q1,q2⟩:=hlen _ _ h1
 refine wp_region_any hm (dj (cx:=cx) (σ:=σ) (ts:=ts) (by simpa using q1) (fun i o t ho ht=>q2 i o t (by simpa using ho) ht) h2 (by have:=bo h4;simpa[pV,wR] using this) hfit (fun ι' S' a' w' hw'=>⟨_,ι',S',h5,hw'.keep ks⟩)
  ops.size (Array.replicate ops.size false) σ ι S a _ (by simp) (fun l=> ?_) hw.drew (fun k o ho hk=> ?_) ?_)
 · have hL: ∀i,(Array.replicate ops.size false).getD i false=false:=fun i=>by
    rw[Array.getD_eq_getD_getElem?,Array.getElem?_replicate];split<;>rfl
   have: ∀n,part ts (fun i=>(Array.replicate ops.size false).getD i false) σ l n=aR σ l:=by
    intro n
    induction n with
    |zero=>rfl
    |succ n ih=>rw[mP,if_neg (by rw[hL];simp),ih]
   rw[this]
 · rw[Array.getD_eq_getD_getElem?,Array.getElem?_replicate] at hk;split at hk<;>cases hk
 · exact Nat.le_trans (List.length_filter_le _ _) (by simp)
end
def yP:C→Bool
 | .d _=>true
 | .nil=>true
 | .rp _=>true
 |_=>false
def gl:E→Bool
 | .c x=>yP x
 | .agg cs=>cs.all yP
def oH:V→Bool
 | .e x=>gl x
 | .tup xs=>xs.all gl
section
variable {τ σ':St} {rl:List (Nat×Nat)} {bor:List Nat}
theorem aD4 {c:C} (h:yP c=true):mC τ σ' rl bor c c:=by cases c<;>simp_all[yP,mC]
theorem aAk: ∀{cs:List C},cs.all yP=true→tc τ σ' rl bor cs cs
 | [],_=>trivial
 |c::cs,h=>by
  simp only[List.all_cons,aV1] at h
  exact⟨aD4 h.1,aAk h.2⟩
theorem aD5 {c:E} (h:gl c=true):mE τ σ' rl bor c c:=by
 cases c with
 |c x=>exact aD4 h
 |agg cs=>exact aAk h
theorem aAl: ∀{cs:List E},cs.all gl=true→mEs τ σ' rl bor cs cs
 | [],_=>trivial
 |c::cs,h=>by
  simp only[List.all_cons,aV1] at h
  exact⟨aD5 h.1,aAl h.2⟩
theorem aD6 {c:V} (h:oH c=true):mV τ σ' rl bor c c:=by
 cases c with
 |e x=>exact aD5 h
 |tup cs=>exact aAl h
theorem tq {c:C} (h:yP c=true):aGf rl c=c:=by cases c<;>simp_all[yP,aGf]
theorem aD7 {cs:List C} (h:cs.all yP=true):cs.map (aGf rl)=cs:=by
 rw[aWf] at h
 exact(List.map_congr_left fun c hc=>tq (h c hc)).trans (List.map_id cs)
theorem tt {c:E} (h:gl c=true):aJs rl c=c:=by
 cases c with
 |c x=>simp[aJs,tq (show yP x=true from h)]
 |agg cs=>simp only[aJs];rw[aD7 h]
theorem aGy {c:V} (h:oH c=true):aGg rl c=c:=by
 cases c with
 |e x=>simp[aGg,tt (show gl x=true from h)]
 |tup cs=>
  simp only[aGg]
  have h:cs.all gl=true:=h
  rw[aWf] at h
  rw[(List.map_congr_left fun c hc=>tt (h c hc)).trans (List.map_id cs)]
theorem tv: ∀{Ys:List V} {i:Nat},(∀j Y,Ys[j]? =some Y→aR τ (.t (i+j))=some (.v Y))→Ys.all oH=true→mL τ σ' rl bor (eL i Ys)
 | [],i,_,_=>trivial
 |Y::Ys,i,h,hp=>by
  simp only[List.all_cons,aV1] at hp
  refine⟨⟨Y,h 0 Y rfl,aD6 hp.1⟩,tv (fun j Z hj=> ?_) hp.2⟩
  rw[show i+1+j=i+(j+1) by omega]
  exact h (j+1) Z hj
theorem qD: ∀(Ys:List V) (i:Nat),cE (eL i Ys)=[]
 | [],i=>rfl
 |Y::Ys,i=>qD Ys (i+1)
theorem aD8 {Xs:List V} (h:Xs.all oH=true):oN (eL 0 Xs++rB []) (eL 0 Xs) [] []:=by
 refine⟨tv (fun j Y hj=> ?_) h,?_⟩
 · have hlt:=(aV9.1 hj).1
   rw[Nat.zero_add,pI 0 Xs _ j (aV5 _) (by omega),Nat.sub_zero,hj];rfl
 · simp[af,qD,vA,pG]
end
section
variable {P:Program} {T:gO} {f:FuncId} {n:Nat} {σin:St} {X:V} {o:Oper} {c:Call} {d:Nat} {σ:St} {Xs:List V} {Ra:List (dG×Option K)}
theorem aD9 (hs:Spec P f n σin [(.t 0,.v X)]) (ho:o.op= .call c) (hc:c.callee= .value (.func f)) (hd:o.dst=some d) (hx:evA σ c.args.toList=some (Xs,Ra)) (hn:Xs.length=n) (hin:σin=eL 0 Xs) (hp:Xs.all oH=true) (hX:oH X=true):
 vT P o Ra [(.t d,.v X)]:=by
 subst hin
 have:=aD2 (robj:=[]) (rl:=[]) (bor:=[]) hs ho hc hx hn (aD8 hp) (by simp[kA,cE,oX,qD,vA,rZ]) (.inl rfl)
 have e1:pn Ra [] [] (eL 0 Xs) [(.t 0,.v X)]=Ra:=by simp[pn,kI,cE]
 have e2:tN [] (eL 0 Xs) [(.t 0,.v X)] o.dst=[(.t d,.v X)]:=by
  simp[tN,yM,vX,oX,qD,hd,yi,aR,aGy hX]
 rw[e1,e2] at this
 exact this
theorem je {k:List (dG×Option K)→List (dG×K)→Prop} (hs:Spec P f n σin [(.t 0,.v X)]) (ho:o.op= .call c) (hc:c.callee= .value (.func f)) (hd:o.dst=some d) (hx:evA σ c.args.toList=some (Xs,Ra)) (hn:Xs.length=n) (hin:σin=eL 0 Xs) (hp:Xs.all oH=true) (hX:oH X=true)
 (h:k Ra [(.t d,.v X)]): ∃R W,vT P o R W∧bV R σ∧k R W:=
 ⟨Ra,_,aD9 hs ho hc hd hx hn hin hp hX,uR hx,h⟩
theorem aMm {σ1:St} {g:Bool} {k:List (dG×Option K)→V→Prop} (hs:g=true→Spec P f n σin [(.t 0,.v X)]) (ho:o.op= .call c) (hc:c.callee= .value (.func f)) (hd:o.dst=some d) (hx:evA σ1 c.args.toList=some (Xs,Ra)) (hn:Xs.length=n) (hin:σin=eL 0 Xs) (hp:Xs.all oH=true) (hX:oH X=true)
 (hr:g=true→oG σ Ra) (h:k Ra X): ∃R X,(g=true→vT P o R [(.t d,.v X)]∧bV R σ1)∧(g=true→oG σ R)∧k R X:=
 ⟨Ra,X,fun hg=>⟨aD9 (hs hg) ho hc hd hx hn hin hp hX,uR hx⟩,hr,h⟩
theorem bH {σout:St} {rl:List (Nat×Nat)} {bor:List Nat} {robj:List (Nat×K)} {k:List (dG×Option K)→List (dG×K)→Prop} (hs:Spec P f n σin σout) (ho:o.op= .call c) (hc:c.callee= .value (.func f)) (hx:evA σ c.args.toList=some (Xs,Ra)) (hn:Xs.length=n)
 (hm:oN (eL 0 Xs++rB robj) σin rl bor) (hk:kA rl σin σout=true) (hb:bor=[]∨mA σout) (h1: ∀p∈robj,aR σ (.o p.1)=some p.2) (h2: ∀j∈kI σin σout,aR σ (.o (jT rl j))=none)
 (h:k (pn Ra robj rl σin σout) (tN rl σin σout o.dst)): ∃R W,vT P o R W∧bV R σ∧k R W:=
 ⟨_,_,aD2 hs ho hc hx hn hm hk hb,aGj hx h1 h2,h⟩
end
def WK (io:List Nat) (J:St→Prop) (s:St):Prop:= ∃σ' rl bor,J σ'∧oN s σ' rl bor∧yL io σ' rl bor=true
theorem wk {io:List Nat} {J:St→Prop} {s:St} (σ':St) (rl:List (Nat×Nat)) (bor:List Nat) (h:J σ') (h1:mL s σ' rl bor σ') (h2:af σ' rl bor=true) (h3:yL io σ' rl bor=true):WK io J s:=⟨σ',rl,bor,h,⟨h1,h2⟩,h3⟩
section
variable {P:Program} {io:List Nat} {Q:Ex→St→Prop} {σ:St}
theorem SW.wk {c:Code} {J:St→Prop} (h:WK io J σ) (hJ: ∀s,J s→SW P io c Q s):SW P io c Q σ:=by
 obtain⟨σ',rl,bor,h1,h2,h3⟩:=h
 exact SW.weaken σ' rl bor h2 h3 (hJ σ' h1)
theorem SW.loopW {c:Code} (I:Nat→St→Prop) {n:Nat} (h0:WK io (I n) σ) (hr: ∀n s,I n s→SW P io c (iz (fun s'=>WK io (fun s2=> ∃m,m<n∧I m s2) s') Q) s):SW P io (.loop c) Q σ:=by
 refine SW.loop (fun n s=>WK io (I n) s) h0 fun n s hs=>SW.wk hs fun s2 h2=>SW.mono (fun e s3 h3=> ?_) (hr n s2 h2)
 cases e with
 |norm=>
  obtain⟨σ',rl,bor,⟨m,hm,h1⟩,h2,h4⟩:=h3
  exact⟨m,hm,σ',rl,bor,h1,h2,h4⟩
 |exit id=>exact h3
 |ret=>exact h3
theorem SW.midW (J:St→Prop) {x y:Code} (h:SW P io x (iz (fun s=>WK io J s) Q) σ) (hy: ∀s,J s→SW P io y Q s):SW P io (.seq x y) Q σ:=
 SW.seq (h.mono fun e s hq=>by
  cases e with
  |norm=>exact SW.wk hq hy
  |exit id=>exact hq
  |ret=>exact hq)
end
section
variable {τ σ':St} {rl:List (Nat×Nat)} {bor:List Nat} {r:List (dG×K)}
theorem cJ {s:Nat} {x y:D} (h:aR τ (.t s)=some (.v (Dv x))) (e:x=y) (hr:mL τ σ' rl bor r):mL τ σ' rl bor ((.t s,.v (Dv y))::r):=⟨⟨_,h,e⟩,hr⟩
theorem gQ {s:Nat} (h:aR τ (.t s)=some (.v (.e (.c .nil)))) (hr:mL τ σ' rl bor r):mL τ σ' rl bor ((.t s,.v (.e (.c .nil)))::r):=⟨⟨_,h,trivial⟩,hr⟩
theorem bq {s:Nat} {y:D} (h:aR τ (.t s)=some (.v (.e (.c .nil)))) (e:y= .sl []) (hr:mL τ σ' rl bor r):mL τ σ' rl bor ((.t s,.v (Dv y))::r):=⟨⟨_,h,e⟩,hr⟩
theorem fN {s o n j m:Nat} {e:TypeId} {es:Nat} {rows:List (List D)} (h:aR τ (.t s)=some (.v (.e (.c (.own o n))))) (ho:o=jT rl j) (e1:n=m) (hj:aR σ' (.o j)=some (.row e es rows)) (hr:mL τ σ' rl bor r):mL τ σ' rl bor ((.t s,.v (.e (.c (.own j m))))::r):=
 ⟨⟨_,h,ho,e1,e,es,rows,hj⟩,hr⟩
theorem eD {s o n:Nat} {y:D} {e:TypeId} {es:Nat} {rows:List (List D)} (h:aR τ (.t s)=some (.v (.e (.c (.own o n))))) (hb:iM o bor=true) (hj:aR τ (.o o)=some (.row e es rows)) (e1:rows.length=n) (e2:y= .sl rows) (hr:mL τ σ' rl bor r):mL τ σ' rl bor ((.t s,.v (Dv y))::r):=
 ⟨⟨_,h,gP.1 hb,e,es,rows,hj,e1,.inl e2⟩,hr⟩
theorem bQ {s o k j m:Nat} {ty:TypeId} {cs:List C} (h:aR τ (.t s)=some (.v (.e (.c (.pt o k))))) (ho:o=jT rl j) (e1:k=m) (hj:aR σ' (.o j)=some (.box ty cs)) (hr:mL τ σ' rl bor r):mL τ σ' rl bor ((.t s,.v (.e (.c (.pt j m))))::r):=
 ⟨⟨_,h,ho,e1,ty,cs,hj⟩,hr⟩
theorem dB {s:Nat} {cs ds:List C} (h:aR τ (.t s)=some (.v (.e (.agg cs)))) (e:tc τ σ' rl bor cs ds) (hr:mL τ σ' rl bor r):mL τ σ' rl bor ((.t s,.v (.e (.agg ds)))::r):=⟨⟨_,h,e⟩,hr⟩
theorem bR {j:Nat} {e:TypeId} {es:Nat} {rows rows':List (List D)} (h:aR τ (.o (jT rl j))=some (.row e es rows)) (e1:rows=rows') (hr:mL τ σ' rl bor r):mL τ σ' rl bor ((.o j,.row e es rows')::r):=⟨⟨_,h,rfl,rfl,e1⟩,hr⟩
theorem aS {j:Nat} {ty:TypeId} {cs ds:List C} (h:aR τ (.o (jT rl j))=some (.box ty cs)) (e1:tc τ σ' rl bor cs ds) (hr:mL τ σ' rl bor r):mL τ σ' rl bor ((.o j,.box ty ds)::r):=⟨⟨_,h,rfl,e1⟩,hr⟩
theorem aG:tc τ σ' rl bor [] []:=trivial
theorem aC {x y:D} {cs ds:List C} (e:x=y) (h:tc τ σ' rl bor cs ds):tc τ σ' rl bor (.d x::cs) (.d y::ds):=⟨e,h⟩
theorem fF {cs ds:List C} (h:tc τ σ' rl bor cs ds):tc τ σ' rl bor (.nil::cs) (.nil::ds):=⟨trivial,h⟩
theorem bJ {o n j m:Nat} {e:TypeId} {es:Nat} {rows:List (List D)} {cs ds:List C} (ho:o=jT rl j) (e1:n=m) (hj:aR σ' (.o j)=some (.row e es rows)) (h:tc τ σ' rl bor cs ds):tc τ σ' rl bor (.own o n::cs) (.own j m::ds):=⟨⟨ho,e1,e,es,rows,hj⟩,h⟩
theorem aJ0 {o n:Nat} {y:D} {e:TypeId} {es:Nat} {rows:List (List D)} {cs ds:List C} (hb:iM o bor=true) (hj:aR τ (.o o)=some (.row e es rows)) (e1:rows.length=n) (e2:y= .sl rows) (h:tc τ σ' rl bor cs ds):tc τ σ' rl bor (.own o n::cs) (.d y::ds):=⟨⟨gP.1 hb,e,es,rows,hj,e1,.inl e2⟩,h⟩
theorem dD {o k j m:Nat} {ty:TypeId} {xs cs ds:List C} (ho:o=jT rl j) (e1:k=m) (hj:aR σ' (.o j)=some (.box ty xs)) (h:tc τ σ' rl bor cs ds):tc τ σ' rl bor (.pt o k::cs) (.pt j m::ds):=⟨⟨ho,e1,ty,xs,hj⟩,h⟩
end
theorem RW.nilOwn {P:Program} {cx:Cx P} {σ:St} {ι:Nat→Value} {S:Nat→Prop} {a:Act} {w:World} (h:RW cx σ ι S a w) {s j:Nat} (e:TypeId) (es:Nat) (hs:aR σ (.t s)=some (.v (.e (.c .nil)))) (hj:aR σ (.o j)=none):
 RW cx (pU (pU σ (.o j) (.row e es [])) (.t s) (.v (.e (.c (.own j 0))))) (fun o=>if o=j then .slice none 0 0 else ι o) S a w:=by
 have hblk: ∀b,uW (.slice none 0 0) b→some b=(none:Option Nat)∨w.heap.size≤b:=fun b hb=>by simp[uW] at hb
 have h1:=h.turn (id:=j) (old:=none) (k:= .row e es []) (p:= .slice none 0 0) (w':=w) ⟨rfl,rfl,rfl,aWa _,(fun _ _ _=>rfl),(fun b hb=>by cases hb),.inl hj,hblk,.inl ⟨rfl,rfl⟩⟩
 have hv:iQ a s= .slice none 0 0:=h.vr.slots s _ hs
 refine h1.reslot (fun o=>cQ _ _ (by simp)) fun t k hk=> ?_
 rw[lA] at hk
 by_cases e1:s=t
 · subst e1
   rw[if_pos rfl] at hk;cases hk
   show CR (pU σ (.o j) (.row e es [])) (fun o=>if o=j then .slice none 0 0 else ι o) w S (.own j 0) (iQ a s)
   rw[hv]
   exact⟨rfl,.inl ⟨e,es,[],cV _ _ _,aWa _,fun _=>by simp⟩⟩
 · rw[if_neg (by simpa using e1)] at hk
   exact h1.vr.slots t k hk
theorem SW.nilOwn {P:Program} {io:List Nat} {Q:Ex→St→Prop} {σ:St} {c:Code} (s j:Nat) (e:TypeId) (es:Nat) (hs:aR σ (.t s)=some (.v (.e (.c .nil)))) (hj:aR σ (.o j)=none)
 (h:nF σ [(.o j,.row e es []),(.t s,.v (.e (.c (.own j 0))))] (SW P io c Q)):SW P io c Q σ:=by
 rw[kL] at h
 intro cx ι S a w hio hw hf
 exact h cx _ S a w hio (hw.nilOwn e es hs hj) hf
theorem ai {a b:Prop} (x:a) (y:b):a∧b:=⟨x,y⟩
theorem vc {p:Prop} (h:p:=by first|trivial|exact aV0 rfl|exact⟨rfl,aV0 rfl⟩|omega|((repeat' apply And.intro)<;>first|trivial|rfl|exact aV0 rfl|omega)|(simp;done)|(simp;omega)):p:=h
theorem rk {p:Prop} (h:p:=by intro h;(repeat' apply And.intro)<;>first|exact h|trivial):p:=h
theorem pk {p:Prop} (h:p:=by constructor<;>intro h<;>first|trivial|exact h|(simp[gb,vD];done)|(simpa[gb,vD] using h)|(simp only[gb,vD] at *; grind)|(simp_all[gb,vD];done)):p:=h
def OpE (P:Program) (o:Oper) (R:List (dG×Option K)) (Ws:List (dG×K)→Prop):Prop:=
 ∀(cx:Cx P) (σ:St) (ι:Nat→Value) (S:Nat→Prop) (a:Act) (w:World),bV R σ→RW cx σ ι S a w→(∀d,o.dst=some d→d<cx.N)→
  ∀(next:Act→World→Prop) (Q:Exit→Act→World→Prop),(∀W,Ws W→ ∀ι' S' a' w',RW cx (hZ σ W) ι' S' a' w'→next a' w')→o.wp P a w next Q
theorem vT.toE {P:Program} {o:Oper} {R:List (dG×Option K)} {W:List (dG×K)} (h:vT P o R W):OpE P o R (· =W):=
 fun cx σ ι S a w hr hw hd next Q hn=>h cx σ ι S a w hr hw hd next Q fun ι' S' a' w' hw'=>hn W rfl ι' S' a' w' hw'
def SpecE (P:Program) (f:FuncId) (n:Nat) (σin:St) (Qo:St→Prop):Prop:=
 gi P f∧ ∀(ι ν:Nat→Value) (S:Nat→Prop) (w:World) (args:Array Value),(GB P w fun b=> ∃o,kM σin ι o b)→VR σin ι ν S w→args.size=n→(∀i,i<n→args[i]? =some (ν i))→
  Calls P f args w fun e w'=> ∃v ι' S' σout,Qo σout∧e= .returned v∧aMc σin ι S w σout ι' S' w' v
theorem nH {P:Program} {f:FuncId} {args:Array Value} {w:World} {Q Q':Ending→World→Prop} (hq: ∀e w',Q e w'→Q' e w') (h:Calls P f args w Q):Calls P f args w Q':=by
 intro cs
 obtain⟨e,w',fr,h1,h2⟩:=h cs
 exact⟨e,w',fr,hq e w' h1,h2⟩
theorem Spec.toE {P:Program} {f:FuncId} {n:Nat} {σin σout:St} {Qo:St→Prop} (h:Spec P f n σin σout) (hq:Qo σout):SpecE P f n σin Qo:=by
 refine⟨h.1,fun ι ν S w args h0 h1 h2 h3=>nH (fun e w'=> ?_) (h.2 ι ν S w args h0 h1 h2 h3)⟩
 rintro⟨v,ι',S',rfl,hp⟩
 exact⟨v,ι',S',σout,hq,rfl,hp⟩
def aMn (T:gO) (io:List Nat) (rs:List ResultVar) (Qo:St→Prop):Ex→St→Prop
 | .norm,s=> ∃σout,Qo σout∧ah T io rs σout s
 | .ret,s=> ∃σout,Qo σout∧ah T io rs σout s
 | .exit _,_=>False
theorem yj {P:Program} {T:gO} (hT:dM P T) {f:FuncId} {fn:Func} {c:Code} {n:Nat} {σin:St} {Qo:St→Prop} (hf:P.funcs[f]? =some fn) (hb:fn.body=some c) (hname: (fn.name== "runtime.NumGoroutine")=false) (hn:n≤fn.ntmps) (hfit:sZ fn.ntmps c=true)
 (hsl:rZ n σin=true) (h:SW P (cE σin) c (aMn T (cE σin) fn.results.toList Qo) σin):SpecE P f n σin Qo:=by
 refine⟨⟨fn,hf,by rw[hb];rfl,hname⟩,fun ι ν S w args hgb hvr hsz hargs=> ?_⟩
 have hnu: ∀s,s<n→(args++Array.replicate (fn.ntmps - args.size) undef).getD s undef=ν s:=by
  intro s hs
  rw[Array.getD_eq_getD_getElem?,Array.getElem?_append_left (by omega),hargs s hs];rfl
 let cx:Cx P:={N:=fn.ntmps,w0:=w,S0:=S,k0:=fun o=>aR σin (.o o),kio:=fun o=>aR σin (.o o),ι0:=ι,gb:=hgb.weak fun b ⟨o,k,q1,q2,q3⟩=>⟨o,⟨k,q1,q2⟩,q3⟩}
 have hM: ∀b,cx.M b↔ ∃o,kM σin ι o b:=fun b=>⟨fun⟨o,k,q1,q2,q3⟩=>⟨o,⟨k,q1,q2⟩,q3⟩,fun⟨o,⟨k,q1,q2⟩,q3⟩=>⟨o,k,q1,q2,q3⟩⟩
 have hw:RW cx σin ι S {tmps:=args++Array.replicate (fn.ntmps - args.size) undef,defers:=[]} w:=by
  refine⟨⟨fun s x hx=> ?_,hvr.objs,hvr.mutS,hvr.inj,hvr.sz⟩,?_,rfl,Fr.refl _ _,fun o b ⟨⟨k,q1,q2⟩,q3⟩=> .inr ⟨o,k,q1,q2,q3⟩,fun b hb=> .inl hb,fun o k hk=>⟨k,hk,nE.refl' _ _⟩⟩
  · have hs:=tU hsl s _ hx
    have:iQ {tmps:=args++Array.replicate (fn.ntmps - args.size) undef,defers:=[]} s=ν s:=hnu s hs
    rw[this];exact hvr.slots s x hx
  · show(args++Array.replicate (fn.ntmps - args.size) undef).size=fn.ntmps
    simp;omega
 refine calls_of_wp hf hb (wp_mono (h cx ι S _ w (fun o k hk=>eZ hk) hw hfit) fun e a' w' hq=> ?_)
 have fin: (∃σ' ι' S',(∃σout,Qo σout∧ah T (cE σin) fn.results.toList σout σ')∧RW cx σ' ι' S' a' w')→a'.defers=[]∧ ∃v,(results fn a'.tmps).run P w'= .ok v w'∧ ∃v_1 ι' S' σout,Qo σout∧Ending.returned v= .returned v_1∧aMc σin ι S w σout ι' S' w' v_1:=by
  rintro⟨σ',ι',S',⟨σout,hQo,X,rl,bor,hX,hm,hio⟩,hw'⟩
  obtain⟨v,hr,hv⟩:=te hT hw' hX
  refine⟨hw'.defers,v,hr,v,fun j=>ι' (jT rl j),pZ σ' ι' bor S',σout,hQo,rfl,?_⟩
  have hlo: ∀o,aR ((dG.t 0,K.v X)::dX σ') (.o o)=aR σ' (.o o):=fun o=>by simp only[aR];rw[if_neg (by simp),qA]
  have st:qY σ' ι' S' w' ((dG.t 0,K.v X)::dX σ') ι' S' w':=⟨fun _ h=>h,fun _ _=>rfl,fun o k hk=>⟨k,by rw[hlo];exact hk,nE.refl' _ _⟩⟩
  have hmut: ∀o b,kM ((dG.t 0,K.v X)::dX σ') ι' o b↔kM σ' ι' o b:=fun o b=>by unfold kM;rw[hlo]
  have hlt: ∀(r:St) s k,aR (dX r) (.t s)=some k→False:=by
   intro r s k
   induction r with
   |nil=>intro h;cases h
   |cons p r ih=>
    obtain⟨l,k'⟩:=p
    cases l with
    |t n=>exact ih
    |o n=>simp only[dX,aR];rw[if_neg (by simp)];exact ih
  have hvr0:VR ((dG.t 0,K.v X)::dX σ') ι' (fun _=>v) S' w':=by
   refine⟨fun s x hx=> ?_,fun o k hk=>OR.step st (fun _ _=>rfl) (hw'.vr.objs o k (by rw[← hlo];exact hk)),fun o b q=>hw'.vr.mutS o b ((hmut o b).1 q),fun o o' b q q'=>hw'.vr.inj o o' b ((hmut o b).1 q) ((hmut o' b).1 q'),hw'.vr.sz⟩
   simp only[aR] at hx
   split at hx
   · cases hx;exact lJ.step st hv
   · exact(hlt σ' s _ hx).elim
  have hvr1:=vB hm (fun _ _ h=>h) hvr0
  have hio2: ∀o∈cE σin,iM o (cE σout)=false∨Nat.beq (jT rl o) o=true:=by simpa only[tf,aWf,Bool.or_eq_true,Bool.not_eq_true'] using hio
  have hgive: ∀b,pZ ((dG.t 0,K.v X)::dX σ') ι' bor S' b→pZ σ' ι' bor S' b:=fun b hb=>hb.imp id fun⟨o,ho,q⟩=>⟨o,ho,(hmut o b).1 q⟩
  refine⟨⟨hw'.fr.os,hw'.fr.tape,hw'.fr.output,hw'.fr.size,fun b hb hnm=>hw'.fr.block b hb (fun h=>hnm ((hM b).1 h))⟩,?_,fun b hb=> ?_,fun j b hmu=> ?_,fun o k k' hk hk'=> ?_⟩
  · have e:pZ ((dG.t 0,K.v X)::dX σ') ι' bor S'=pZ σ' ι' bor S':=by
     funext b;apply propext;exact⟨hgive b,fun hb=>hb.imp id fun⟨o,ho,q⟩=>⟨o,ho,(hmut o b).2 q⟩⟩
    rw[← e];exact hvr1
  · rcases hb with hb|⟨o,ho,hmo⟩
    · exact(hw'.rd b hb).imp id fun h=>h.imp id fun h=>(hM b).1 h
    · exact .inr ((hw'.own o b hmo).imp id fun h=>(hM b).1 h)
  · exact(hw'.own _ b ((hmut _ b).1 (hm.mut (fun _ _ h=>h) hmu))).imp id fun h=>(hM b).1 h
  · have hren:jT rl o=o:=by
     rcases hio2 o (eZ hk) with h4|h4
     · rw[gP.2 (eZ hk')] at h4;cases h4
     · exact Nat.eq_of_beq_eq_true h4
    obtain⟨k1,hk1,hev⟩:=hw'.io o k hk
    have hev:nE (ι o) (ι' o) k k1:=hev
    obtain⟨k2,hk2,hmk⟩:=hm.ids o k' hk'
    rw[hren,hlo,hk1] at hk2;cases hk2
    rw[hren]
    exact aB0 hev hmk
 cases e with
 |normal=>
  obtain⟨σ',ι',S',h1,h2⟩:=hq
  exact fin ⟨σ',ι',S',h1,h2⟩
 |ret=>
  obtain⟨σ',ι',S',h1,h2⟩:=hq
  exact fin ⟨σ',ι',S',h1,h2⟩
 |exit id=>obtain⟨σ',ι',S',h1,h2⟩:=hq;exact h1.elim
 |goto l=>exact hq.elim
 |panic ch=>exact hq.elim
 |outgrown=>exact hq.elim
section
variable {P:Program} {f:FuncId} {n:Nat} {σin:St} {Qo:St→Prop} {rl:List (Nat×Nat)} {bor:List Nat} {σ0:St} {Xs:List V} {Ra:List (dG×Option K)} {robj:List (Nat×K)} {news:List Nat}
def aMo (Ra:List (dG×Option K)) (robj:List (Nat×K)) (rl:List (Nat×Nat)) (news:List Nat):List (dG×Option K):=
 Ra++robj.map (fun p=>(.o p.1,some p.2))++news.map fun j=>(.o (jT rl j),none)
theorem aAm (hs:SpecE P f n σin Qo) {o:Oper} {c:Call} (ho:o.op= .call c) (hc:c.callee= .value (.func f)) (hx:evA σ0 c.args.toList=some (Xs,Ra)) (hn:Xs.length=n)
 (hm:oN (eL 0 Xs++rB robj) σin rl bor) (hq: ∀σout,Qo σout→kA rl σin σout=true∧(bor=[]∨mA σout)∧ ∀j∈kI σin σout,j∈news):
 OpE P o (aMo Ra robj rl news) fun W=> ∃σout,Qo σout∧W=tN rl σin σout o.dst:=by
 intro cx σ ι S a w hr hw hd next Q hnext
 obtain⟨⟨fn,hf,hbody,hname⟩,hcall⟩:=hs
 obtain⟨hlen,hargs⟩:=mw hw hx hr.left.left
 let args:Array Value:=c.args.map a.eval
 let ν:Nat→Value:=fun i=>(args[i]?).getD undef
 have hsz:args.size=n:=by show(c.args.map a.eval).size=n;rw[Array.size_map,← hn,hlen,Array.length_toList]
 have hargν: ∀i,i<n→args[i]? =some (ν i):=fun i hi=>by
  show args[i]? =some ((args[i]?).getD undef)
  rw[Array.getElem?_eq_getElem (by omega)];rfl
 have hνr: ∀s X,Xs[s]? =some X→lJ σ ι w S X (ν s):=fun s X hX=>by
  obtain⟨x,h1,h2⟩:=hargs s X hX
  have:ν s=a.eval x:=by
   show((c.args.map a.eval)[s]?).getD undef=a.eval x
   rw[Array.getElem?_toList] at h1
   rw[Array.getElem?_map,h1];rfl
  rw[this];exact h2
 have hlo: ∀o,aR (eL 0 Xs++dX σ) (.o o)=aR σ (.o o):=fun o=>by rw[kN,qA]
 have st:qY σ ι S w (eL 0 Xs++dX σ) ι S w:=⟨fun _ h=>h,fun _ _=>rfl,fun o k hk=>⟨k,by rw[hlo];exact hk,nE.refl' _ _⟩⟩
 have hmut: ∀o b,kM (eL 0 Xs++dX σ) ι o b↔kM σ ι o b:=fun o b=>by unfold kM;rw[hlo]
 have hvr0:VR (eL 0 Xs++dX σ) ι ν S w:=by
  refine⟨fun s x hx=> ?_,fun o k hk=>OR.step st (fun _ _=>rfl) (hw.vr.objs o k (by rw[← hlo];exact hk)),fun o b q=>hw.vr.mutS o b ((hmut o b).1 q),fun o o' b q q'=>hw.vr.inj o o' b ((hmut o b).1 q) ((hmut o' b).1 q'),hw.vr.sz⟩
  obtain⟨X,h1,h2⟩:=aj hx
  cases h2
  exact lJ.step st (hνr s _ h1)
 have hsub: ∀l k,aR (eL 0 Xs++rB robj) l=some k→aR (eL 0 Xs++dX σ) l=some k:=fun l k h=>by
  cases l with
  |o o=>
   rw[hlo]
   rw[kN] at h
   exact hr (.o o,some k) (List.mem_append_left _ (List.mem_append_right _ (aWc.2 ⟨(o,k),gj h,rfl⟩)))
  |t s=>
   obtain⟨X,h1,rfl⟩:=vC h
   have hs:=(aV9.1 h1).1
   rw[pI 0 Xs _ s (aV5 _) (by omega)];simp[h1]
 have hvr1:=vB hm hsub hvr0
 have hgb:GB P w fun b=> ∃o,kM σin (fun j=>ι (jT rl j)) o b:=fun w2 h2=>cx.gb w2 (hw.fr.trans h2 fun x hx ⟨o,ho⟩=>by
  rcases hw.own _ x ((hmut _ _).1 (hm.mut hsub ho)) with h3|h3
  · omega
  · exact h3)
 have hcl:=hcall _ ν _ w args hgb hvr1 hsz hargν
 obtain⟨callee,cargs,argTypes⟩:=c
 dsimp only at hc
 subst hc
 have hbd: ∃cd,fn.body=some cd:=by
  cases hq:fn.body with
  |none=>rw[hq] at hbody;cases hbody
  |some cd=>exact⟨cd,rfl⟩
 obtain⟨cd,hbd⟩:=hbd
 have hrun: (execOp a.eval o).run P w= .ok (.enter f args) w:=by
  have h1:=MuLone.run_callFunc_enter (P:=P) hf hname hbd args w
  have e: (execOp a.eval o).run P w=(callFunc f (args++ #[])).run P w:=by
   simp[execOp,ho,resolve,invoke,Deferred.ofValue,args,Act.eval]
  rw[e,Array.append_empty];exact h1
 unfold Oper.wp
 rw[hrun,Oper.upon_enter]
 intro cs
 obtain⟨e,w',fr,⟨v,ι',S',σout,hQo,rfl,hpost⟩,hcomes⟩:=hcl cs
 refine⟨_,w',fr,?_,hcomes⟩
 dsimp only
 obtain⟨hk,hb,hnw⟩:=hq σout hQo
 have hr':bV (pn Ra robj rl σin σout) σ:=by
  intro p hp
  rcases List.mem_append.1 hp with hp|hp
  · exact hr p (List.mem_append_left _ hp)
  · obtain⟨j,hj,rfl⟩:=aWc.1 hp
    exact hr (.o (jT rl j),none) (List.mem_append_right _ (aWc.2 ⟨j,hnw j hj,rfl⟩))
 have hrw:=aIm (Ra:=Ra) hm hk hb hr' hw hνr hpost
 have hSK: ∀{l:dG} {k:K},aR σout l=some k→(∀b,S' b→(S b∨(bor=[]∧S' b)))∨jb k:=fun{l k} h=>by
  rcases hb with e|hs
  · exact .inl fun b hb=> .inr ⟨e,hb⟩
  · exact .inr (hs (l,k) (uZ h))
 have hnext:=hnext _ ⟨σout,hQo,rfl⟩
 cases hdst:o.dst with
 |none=>
  refine hnext (oO rl σout ι' ι) (fun b=>S b∨(bor=[]∧S' b)) _ w' ?_
  rw[hdst]
  simp only[tN,yi,List.append_nil]
  exact hrw
 |some d=>
  have hd':=hd d hdst
  cases hq:aR σout (.t 0) with
  |none=>
   refine hnext (oO rl σout ι' ι) (fun b=>S b∨(bor=[]∧S' b)) _ w' ?_
   rw[hdst]
   simp only[tN,yi,pO,hq,hZ]
   exact hrw.putDead hd' v
  |some k=>
   cases k with
   |v X=>
    refine hnext (oO rl σout ι' ι) (fun b=>S b∨(bor=[]∧S' b)) _ w' ?_
    rw[hdst]
    simp only[tN,yi,pO,hq,hZ]
    exact hrw.put hd' (aIl hk (hSK hq) (hpost.vr.slots 0 (.v X) hq))
   |_=>
    refine hnext (oO rl σout ι' ι) (fun b=>S b∨(bor=[]∧S' b)) _ w' ?_
    rw[hdst]
    simp only[tN,yi,pO,hq,hZ]
    exact hrw.putDead hd' v
end
theorem RW.weaken {P:Program} {cx:Cx P} {io:List Nat} {σ:St} {ι:Nat→Value} {S:Nat→Prop} {a:Act} {w:World} (σ':St) (rl:List (Nat×Nat)) (bor:List Nat) (hm:oN σ σ' rl bor) (hk:yL io σ' rl bor=true) (hio: ∀o k,cx.kio o=some k→o∈io) (hw:RW cx σ ι S a w):RW cx σ' (fun j=>ι (jT rl j)) (pZ σ ι bor S) a w:=by
 have hkk: ∀o k,cx.kio o=some k→jT rl o=o∧o∈cE σ'∧o∉bor:=fun o k ho=>by
  have:=aWf.1 hk o (hio o k ho)
  simp only[aV1,Bool.not_eq_true'] at this
  refine⟨Nat.eq_of_beq_eq_true this.1.1,gP.1 this.1.2,fun hb=> ?_⟩
  rw[gP.2 hb] at this;cases this.2
 have hvr:=vB hm (fun _ _ h=>h) hw.vr
 refine⟨hvr,hw.size,hw.defers,hw.fr,fun j b hmu=> ?_,fun b hb=> ?_,fun o k ho=> ?_⟩
 · exact hw.own _ b (hm.mut (fun _ _ h=>h) hmu)
 · rcases hb with hb|⟨o,ho,hmo⟩
   · exact hw.rd b hb
   · exact .inr (hw.own o b hmo)
 · obtain⟨q1,q2,q3⟩:=hkk o k ho
   obtain⟨k1,hk1,hev⟩:=hw.io o k ho
   obtain⟨p,hp⟩:=pY q2
   obtain⟨k2,hk2,hmk⟩:=hm.ids o p hp
   rw[q1] at hk2
   rw[hk1] at hk2;cases hk2
   refine⟨p,hp,?_⟩
   rw[q1]
   exact aB0 hev hmk
theorem RW.freeze {P:Program} {cx:Cx P} {σ:St} {ι:Nat→Value} {S:Nat→Prop} {a:Act} {w:World} (hw:RW cx σ ι S a w) {s o n:Nat} {e:TypeId} {es:Nat} {rows:List (List D)} (hs:aR σ (.t s)=some (.v (.e (.c (.own o n))))) (ho:aR σ (.o o)=some (.row e es rows)) (hn:rows.length=n):
 RW cx (pU (pU σ (.o o) .dead) (.t s) (.v (Dv (.sl rows)))) ι (fun b=>S b∨uW (ι o) b) a w:=by
 have hlo: ∀o',aR (pU (pU σ (.o o) .dead) (.t s) (.v (Dv (.sl rows)))) (.o o')=if o'=o then some .dead else aR σ (.o o'):=fun o'=>by
  rw[cQ _ _ (by simp),lA]
  by_cases h:o'=o
  · subst h;simp
  · rw[if_neg (by simpa using fun e=>h e.symm),if_neg h]
 have hmut: ∀o' b,kM (pU (pU σ (.o o) .dead) (.t s) (.v (Dv (.sl rows)))) ι o' b→o'≠o∧kM σ ι o' b:=fun o' b ⟨⟨k,hk,hl⟩,hb⟩=>by
  rw[hlo] at hk
  by_cases h:o'=o
  · rw[if_pos h] at hk;cases hk;exact hl.elim
  · rw[if_neg h] at hk;exact⟨h,⟨k,hk,hl⟩,hb⟩
 have hmo: ∀b,uW (ι o) b→kM σ ι o b:=fun b hb=>⟨⟨_,ho,trivial⟩,hb⟩
 have st:qY σ ι S w (pU (pU σ (.o o) .dead) (.t s) (.v (Dv (.sl rows)))) ι (fun b=>S b∨uW (ι o) b) w:=by
  refine⟨fun b h=> .inl h,fun _ _=>rfl,fun o' k hk=> ?_⟩
  by_cases h:o'=o
  · exact⟨.dead,by rw[hlo,if_pos h],by cases k<;>simp[nE]⟩
  · exact⟨k,by rw[hlo,if_neg h];exact hk,nE.refl' _ _⟩
 have hrow:=hw.vr.objs o _ ho
 have hv:iQ a s=ι o:=by
  obtain⟨_,h2⟩:=(show CR σ ι w S (.own o n) (iQ a s) from hw.vr.slots s _ hs)
  rcases h2 with⟨e2,es2,rows2,hl,_,hv⟩|hd
  · rw[ho] at hl;cases hl;exact hv hn
  · rw[ho] at hd;cases hd
 refine⟨⟨fun t k hkt=> ?_,fun o' k hk=> ?_,fun o' b hm hS=> ?_,fun o1 o2 b h1 h2=> ?_,fun b hb=> ?_⟩,hw.size,hw.defers,hw.fr,fun o' b hm=>hw.own o' b (hmut o' b hm).2,fun b hb=> ?_,fun o' k hk'=> ?_⟩
 · rw[lA] at hkt
   by_cases e2:s=t
   · subst e2
     rw[if_pos rfl] at hkt;cases hkt
     show DR w _ (.sl rows) (iQ a s)
     rw[hv]
     rcases hrow with⟨h1,h2⟩|⟨g,off,cap,cur,fz,h1,hh,hfz,h2,h3,h4,h5⟩
     · rw[h1,h2]
       exact DR.sl [] none 0 es ⟨0,0,none⟩ (fun _ _=>undef) (aWa _) (by decide) (by simp) (by simp) (by simp) (by simp)
     · rw[h1]
       let u:Nat→Nat→Value:=fun i k=>(cur[off+i*es+k]?).getD undef
       refine DR.sl rows (some ⟨g,off,none⟩) cap es ⟨g,off,none⟩ u h2 h3 (fun r hr=> ?_) (fun _=>rfl) (fun i r k d hi hd=> ?_) (fun i r k d hi hd=> ?_)
       · obtain⟨i,hi⟩:=List.mem_iff_getElem?.1 hr
         exact(h5 i r hi).1
       · obtain⟨v,hv1,_⟩:=(h5 i r hi).2 k d hd
         refine⟨.inr rfl,?_⟩
         rw[kU,cell_of_row w g _ cur e fz hh,← Nat.add_assoc]
         show cur[off+i*es+k]? =some ((cur[off+i*es+k]?).getD undef)
         rw[hv1];rfl
       · obtain⟨v,hv1,hv2⟩:=(h5 i r hi).2 k d hd
         have:u i k=v:=by show(cur[off+i*es+k]?).getD undef=v;rw[hv1];rfl
         rw[this]
         exact DR.mono (fun b h=> .inl h) (fun _ _=>rfl) hv2
   · rw[if_neg (by simpa using e2),cQ _ _ (by simp)] at hkt
     exact qZ.step st (hw.vr.slots t k hkt)
 · rw[hlo] at hk
   by_cases h:o'=o
   · rw[if_pos h] at hk;cases hk;trivial
   · rw[if_neg h] at hk
     exact OR.step st (fun _ _=>rfl) (hw.vr.objs o' k hk)
 · obtain⟨hne,hm⟩:=hmut o' b hm
   rcases hS with hS|hS
   · exact hw.vr.mutS o' b hm hS
   · exact hne (hw.vr.inj o' o b hm (hmo b hS))
 · exact hw.vr.inj o1 o2 b (hmut o1 b h1).2 (hmut o2 b h2).2
 · rcases hb with hb|hb
   · exact hw.vr.sz b hb
   · exact OR.lt hrow trivial hb
 · rcases hb with hb|hb
   · exact hw.rd b hb
   · exact .inr (hw.own o b (hmo b hb))
 · obtain⟨k2,q1,q2⟩:=hw.io o' k hk'
   by_cases hne:o'=o
   · exact⟨.dead,by rw[hlo,if_pos hne],by cases k<;>trivial⟩
   · exact⟨k2,by rw[hlo,if_neg hne];exact q1,q2⟩
def tw (io:List Nat) (σ σ1:St):Prop:= ∀(P:Program) (cx:Cx P) (ι:Nat→Value) (S:Nat→Prop) (a:Act) (w:World),(∀o k,cx.kio o=some k→o∈io)→RW cx σ ι S a w→ ∃ι' S',RW cx σ1 ι' S' a w
theorem tw.rfl {io:List Nat} {σ:St}:tw io σ σ:=fun _ cx ι S a w _ h=>⟨ι,S,h⟩
theorem tw.trans {io:List Nat} {σ σ1 σ2:St} (h:tw io σ σ1) (k:tw io σ1 σ2):tw io σ σ2:=fun _ cx ι S a w hio hw=>by
 obtain⟨ι1,S1,h1⟩:=h _ cx ι S a w hio hw
 exact k _ cx ι1 S1 a w hio h1
theorem tw.weak {io:List Nat} {σ σ1:St} (rl:List (Nat×Nat)) (bor:List Nat) (hm:mL σ σ1 rl bor σ1) (hm2:af σ1 rl bor=true) (hk:yL io σ1 rl bor=true):tw io σ σ1:=fun _ cx ι S a w hio hw=>⟨_,_,RW.weaken σ1 rl bor ⟨hm,hm2⟩ hk hio hw⟩
theorem tw.frz {io:List Nat} {σ:St} {s o n:Nat} {e:TypeId} {es:Nat} {rows:List (List D)} (hs:aR σ (.t s)=some (.v (.e (.c (.own o n))))) (ho:aR σ (.o o)=some (.row e es rows)) (hn:rows.length=n) (hk:iM o io=false):tw io σ (pU (pU σ (.o o) .dead) (.t s) (.v (Dv (.sl rows)))):=fun _ cx ι S a w hio hw=>
 ⟨_,_,hw.freeze hs ho hn⟩
theorem SW.frz {P:Program} {io:List Nat} {Q:Ex→St→Prop} {σ:St} {c:Code} (s o:Nat) {n:Nat} {e:TypeId} {es:Nat} {rows:List (List D)} (hs:aR σ (.t s)=some (.v (.e (.c (.own o n))))) (ho:aR σ (.o o)=some (.row e es rows)) (hn:rows.length=n) (hk:iM o io=false)
 (h:rh σ (.o o) .dead fun σ'=>rh σ' (.t s) (.v (Dv (.sl rows))) fun σ2=>SW P io c Q σ2):SW P io c Q σ:=fun cx ι S a w hio hw hf=>by
 rw[oP,oP] at h
 obtain⟨ι1,S1,h1⟩:=tw.frz hs ho hn hk _ cx ι S a w hio hw
 exact h cx ι1 S1 a w hio h1 hf
def aAn (P:Program) (T:gO) (io:List Nat) (o:Oper) (σ:St) (k:St→Prop):Prop:=
 match na T o σ with
 |some (p,_,W)=>p∧nF σ W k
 |none=> ∃σ1,tw io σ σ1∧ ∃R Ws,OpE P o R Ws∧bV R σ1∧ ∀W,Ws W→nF σ1 W k
theorem pz {P:Program} {T:gO} (hT:dM P T) {io:List Nat} {o:Oper} {σ:St} {k:St→Prop} (h:aAn P T io o σ k): ∃σ1,tw io σ σ1∧ ∃R Ws,OpE P o R Ws∧bV R σ1∧ ∀W,Ws W→nF σ1 W k:=by
 unfold aAn at h
 split at h
 · rename_i p R W he
   obtain⟨h1,h2⟩:=vZ hT o σ p R W he h.1
   exact⟨σ,tw.rfl,R,_,h1.toE,h2,fun W' e=>by subst e;exact h.2⟩
 · exact h
def goE (P:Program) (T:gO) (io:List Nat) (ops:List Oper):List Oper→St→(St→Prop)→Prop
 | [],σ,k=>k σ
 |o::os,σ,k=>match o.guard with
  |none=>aAn P T io o σ fun σ'=>goE P T io ops os σ' k
  |some (j,want)=>match(ops[j]?).bind (·.dst),o.dst with
   |some s,some d=>match gOf want (aR σ (.t s)) with
    |some g=>jd P T o σ s want g d fun R X=>rh σ (.t d) (.cv s want g X) fun σ'=>goE P T io ops os σ' k
    |none=>False
   |_,_=>False
theorem nc {P:Program} {T:gO} (hT:dM P T) {io:List Nat} {ops:Array Oper} {cx:Cx P} (hio: ∀o k,cx.kio o=some k→o∈io) {Q:Exit→Act→World→Prop} {k:St→Prop} (hk: ∀σ ι S a w,k σ→RW cx σ ι S a w→Q .normal a w): ∀(l:List Oper) (σ:St) (ι:Nat→Value) (S:Nat→Prop) (a:Act) (w:World),goE P T io ops.toList l σ k→RW cx σ ι S a w→(∀o∈l,∀d,o.dst=some d→d<cx.N)→wpList P ops Q l a w
 | [],σ,ι,S,a,w,h,hw,hf=>hk σ ι S a w h hw
 |o::os,σ,ι,S,a,w,h,hw,hf=>by
  have hfo:=hf o (List.mem_cons_self ..)
  have hfs: ∀o∈os,∀d,o.dst=some d→d<cx.N:=fun o ho=>hf o (List.mem_cons_of_mem _ ho)
  unfold wpList
  simp only[goE] at h
  split at h
  · rename_i hg
    obtain⟨σ1,hwk,R,Ws,h1,h2,h3⟩:=pz hT h
    rw[if_pos (by simp[Region.wanted,hg])]
    obtain⟨ι1,S1,hw1⟩:=hwk _ cx ι S a w hio hw
    refine .inl (h1 cx σ1 ι1 S1 a w h2 hw1 hfo _ Q fun W hW ι' S' a' w' hw'=> ?_)
    have h3:=h3 W hW
    rw[kL] at h3
    exact nc hT hio hk os _ ι' S' a' w' h3 hw' hfs
  · rename_i j want hg
    split at h<;>try(exact h.elim)
    rename_i s d hs hd
    split at h<;>try(exact h.elim)
    rename_i g hl
    have hs': (ops[j]?).bind (·.dst)=some s:=by simpa using hs
    obtain⟨R,X,h1,h2⟩:=bp hT hg hs' hd hl h
    rw[oP] at h2
    exact h1 cx σ ι S a w yO hw hfo _ Q fun ι' S' a' w' hw'=>nc hT hio hk os _ ι' S' a' w' (by simpa[hZ] using h2) hw' hfs
section
variable {P:Program} {io:List Nat} {Q:Ex→St→Prop} {σ:St}
theorem SW.regE {T:gO} (hT:dM P T) (ks:List Nat) {id:Nat} {ops:Array Oper} (h:goE P T io ops.toList ops.toList σ fun σ'=>rC ks σ' (Q .norm)):SW P io (.region id ops false) Q σ:=by
 intro cx ι S a w hio hw hf
 have hfit: ∀o∈ops.toList,∀d,o.dst=some d→d<cx.N:=fun o ho=>yE (by simpa[sZ] using hf) ho
 refine wp_region_list (nc hT hio (fun σ' ι' S' a' w' h4 hw'=> ?_) ops.toList σ ι S a w h hw hfit)
 rw[mQ] at h4
 exact⟨_,ι',S',h4,hw'.keep ks⟩
end
section
variable {P:Program} {T:gO} {io:List Nat} {f:FuncId} {n:Nat} {σin:St} {o:Oper} {c:Call} {d:Nat} {σ σ1:St} {Xs:List V} {Ra:List (dG×Option K)}
theorem cY {Qo:St→Prop} {rl:List (Nat×Nat)} {bor news:List Nat} {robj:List (Nat×K)} {k:St→Prop} (hs:SpecE P f n σin Qo) (ho:o.op= .call c) (hc:c.callee= .value (.func f)) (hx:evA σ c.args.toList=some (Xs,Ra)) (hn:Xs.length=n)
 (hm:oN (eL 0 Xs++rB robj) σin rl bor) (hq: ∀σout,Qo σout→kA rl σin σout=true∧(bor=[]∨mA σout)∧ ∀j∈kI σin σout,j∈news) (h1: ∀p∈robj,aR σ (.o p.1)=some p.2) (h2: ∀j∈news,aR σ (.o (jT rl j))=none)
 (h: ∀σout,Qo σout→nF σ (tN rl σin σout o.dst) k): ∃σ1,tw io σ σ1∧ ∃R Ws,OpE P o R Ws∧bV R σ1∧ ∀W,Ws W→nF σ1 W k:=by
 refine⟨σ,tw.rfl,_,_,aAm hs ho hc hx hn hm hq,fun p hp=> ?_,fun W ⟨σout,hQ,e⟩=>e▸h σout hQ⟩
 rcases List.mem_append.1 hp with hp|hp
 · rcases List.mem_append.1 hp with hp|hp
   · exact uR hx p hp
   · obtain⟨q,hq,rfl⟩:=aWc.1 hp
     exact h1 q hq
 · obtain⟨j,hj,rfl⟩:=aWc.1 hp
   exact h2 j hj
theorem yQ {k:St→Prop} (s o':Nat) {m:Nat} {e:TypeId} {es:Nat} {rows:List (List D)} (hs:aR σ (.t s)=some (.v (.e (.c (.own o' m))))) (ho:aR σ (.o o')=some (.row e es rows)) (hn:rows.length=m) (hk:iM o' io=false)
 (h:rh σ (.o o') .dead fun σ'=>rh σ' (.t s) (.v (Dv (.sl rows))) fun σ2=> ∃σ1,tw io σ2 σ1∧ ∃R Ws,OpE P o R Ws∧bV R σ1∧ ∀W,Ws W→nF σ1 W k): ∃σ1,tw io σ σ1∧ ∃R Ws,OpE P o R Ws∧bV R σ1∧ ∀W,Ws W→nF σ1 W k:=by
 rw[oP,oP] at h
 obtain⟨σ1,h1,h2⟩:=h
 exact⟨σ1,(tw.frz hs ho hn hk).trans h1,h2⟩
theorem gW {k:St→Prop} (h: ∃R W,vT P o R W∧bV R σ∧nF σ W k): ∃σ1,tw io σ σ1∧ ∃R Ws,OpE P o R Ws∧bV R σ1∧ ∀W,Ws W→nF σ1 W k:=by
 obtain⟨R,W,h1,h2,h3⟩:=h
 exact⟨σ,tw.rfl,R,_,h1.toE,h2,fun W' e=>by subst e;exact h3⟩
end
theorem cW {T:gO} {io:List Nat} {rs:List ResultVar} {Qo:St→Prop} {s:St} (σout:St) (hq:Qo σout) (h:ah T io rs σout s): ∃σout,Qo σout∧ah T io rs σout s:=⟨σout,hq,h⟩
def tz (p v:Value):Prop:= ∃vs,p= .tuple vs∧v∈vs.toList
abbrev ri (b tot:Nat):Value:= .slice (some ⟨b,0,none⟩) tot tot
def jf (w:World) (S:Nat→Prop) (e:TypeId) (es:Nat) (Pr:List D→Prop) (b tot:Nat):Prop:=
 ∃(cur:Array Value) (fz:Nat×Nat),w.heap[b]? =some (.cells cur e fz)∧aLu fz cur.size∧cur.size=tot*es∧ ∀i,i<tot→ ∃r:List D,r.length=es∧Pr r∧ ∀(k:Nat) d,r[k]? =some d→ ∃u,cur[i*es+k]? =some u∧DR w S d u
theorem jf.mono {w w':World} {S S':Nat→Prop} {e:TypeId} {es:Nat} {Pr:List D→Prop} {b tot:Nat} (hS: ∀b,S b→S' b) (hw: ∀b,S b→w'.heap[b]? =w.heap[b]?) (hb:w'.heap[b]? =w.heap[b]?) (h:jf w S e es Pr b tot):jf w' S' e es Pr b tot:=by
 obtain⟨cur,fz,hh,hf,hs,hr⟩:=h
 refine⟨cur,fz,by rw[hb];exact hh,hf,hs,fun i hi=> ?_⟩
 obtain⟨r,q1,q2,q3⟩:=hr i hi
 exact⟨r,q1,q2,fun k d hk=>by obtain⟨u,hu,hd⟩:=q3 k d hk;exact⟨u,hu,DR.mono hS hw hd⟩⟩
def aMp (e:TypeId) (es:Nat) (Pr:List D→Prop):fy where
 le p q:= ∀v,tz p v→tz q v
 R w S p:=(∃vs,p= .tuple vs)∧ ∀v,tz p v→ ∃b tot,v=ri b tot∧jf w S e es Pr b tot
 refl _ _ h:=h
 trans h k v hv:=k v (h v hv)
 mono:=by
  intro w w' S S' p hS hw hb ⟨h1,h2⟩
  refine⟨h1,fun v hv=> ?_⟩
  obtain⟨b,tot,rfl,hp⟩:=h2 v hv
  obtain⟨vs,rfl,hm⟩:=hv
  exact⟨b,tot,rfl,hp.mono hS hw (hb b ⟨_,hm,rfl⟩)⟩
 lt:=by
  intro w S p b ⟨⟨vs,hp⟩,h2⟩ hb
  subst hp
  obtain⟨v,hv,hbv⟩:=hb
  obtain⟨b',tot,rfl,cur,fz,hh,_⟩:=h2 v ⟨vs,rfl,hv⟩
  simp[blk] at hbv;subst hbv
  exact(Array.getElem?_eq_some_iff.1 hh).1
abbrev aI (e:TypeId) (es:Nat) (Pr:List D→Prop):K:= .zone (aMp e es Pr)
def slQ (es n:Nat) (p v:Value):Prop:=(v= .slice none 0 0∧n=0)∨ ∃b i0 cap tot,v= .slice (some ⟨b,i0*es,none⟩) n cap∧n≤cap∧cap≤maxLen∧i0+cap≤tot∧tz p (ri b tot)
def ptQ (es k:Nat) (p v:Value):Prop:= ∃b i tot,v= .pointer (some ⟨b,i*es+k,none⟩)∧i<tot∧tz p (ri b tot)
abbrev ps (j es n:Nat):C:= .z j (slQ es n)
theorem slQ.mono {es n:Nat} {p p' v:Value} (h: ∀v,tz p v→tz p' v) (hq:slQ es n p v):slQ es n p' v:=by
 rcases hq with hq|⟨b,i0,cap,tot,q1,q2,q3,q4,q5⟩
 · exact .inl hq
 · exact .inr ⟨b,i0,cap,tot,q1,q2,q3,q4,h _ q5⟩
theorem ptQ.mono {es n:Nat} {p p' v:Value} (h: ∀v,tz p v→tz p' v) (hq:ptQ es n p v):ptQ es n p' v:=by
 obtain⟨b,i,tot,q1,q2,q3⟩:=hq
 exact⟨b,i,tot,q1,q2,h _ q3⟩
theorem slQ.one {es n:Nat} {p v:Value} (h:slQ es n p v):v.oneCell'=true:=by
 rcases h with⟨rfl,_⟩|⟨b,i0,cap,tot,rfl,_⟩<;>rfl
section
variable {P:Program} {T:gO} {cx:Cx P} {σ:St} {ι:Nat→Value} {S:Nat→Prop} {a:Act} {w:World} {j es n:Nat} {e:TypeId} {Pr:List D→Prop} {Z:fy} {Q:Value→Value→Prop} {v:Value}
theorem sL (h:CR σ ι w S (.z j Q) v) (hl:aR σ (.o j)=some (.zone Z)):Q (ι j) v:=by
 rcases h.2 with⟨Z',hl',hq⟩|hd
 · rw[hl] at hl';cases hl';exact hq _ (Z.refl _)
 · rw[hl] at hd;cases hd
theorem aIq (hl:aR σ (.o j)=some (aI e es Pr)) (hq:slQ es n (ι j) v):CR σ ι w S (ps j es n) v:=⟨hq.one,.inl ⟨_,hl,fun p hp=>hq.mono hp⟩⟩
theorem aR5 {k:Nat} (hl:aR σ (.o j)=some (aI e es Pr)) (hq:ptQ es k (ι j) v):CR σ ι w S (.z j (ptQ es k)) v:=
 ⟨by obtain⟨b,i,tot,rfl,_⟩:=hq;rfl,.inl ⟨_,hl,fun p hp=>hq.mono hp⟩⟩
theorem jg (hv:OR σ ι w S (ι j) (aI e es Pr)) (hl:aR σ (.o j)=some (aI e es Pr)) {b tot:Nat} (hb:tz (ι j) (ri b tot)):jf w S e es Pr b tot∧kM σ ι j b:=by
 obtain⟨h1,h2⟩:=hv
 obtain⟨b',tot',he,hp⟩:=h2 _ hb
 cases he
 exact⟨hp,⟨_,hl,trivial⟩,by obtain⟨vs,e,hm⟩:=hb;rw[e];exact⟨_,hm,rfl⟩⟩
end
section
variable {P:Program} {T:gO} {o:Oper} {σ:St} {x y:Operand} {t e:TypeId} {s1 s2 d j es n:Nat} {s3:List C} {Z:fy} {R R2:List (dG×Option K)} {k:List (dG×Option K)→List (dG×K)→Prop} {Pr:List D→Prop} {ti:TI}
theorem gm (hT:dM P T) (ho:o.op= .call {callee:= .builtin .len,args:= #[x],argTypes:= #[t]}) (hd:o.dst=some d) (ht:T t=some ⟨.sl e,s1,s2,s3⟩) (hx:ev σ x=some (.e (.c (ps j es n)),R)) (hl:aR σ (.o j)=some (.zone Z))
 (h:k (R++[(.o j,some (.zone Z))]) [(.t d,.v (I n))]): ∃R W,vT P o R W∧bV R σ∧k R W:=by
 have hu:=(hT t _ ht).kind
 simp only[lK] at hu
 refine⟨_,_,mY hd fun cx σ' ι S a w hr hw=> ?_,(cU hx).append (bV.one hl),h⟩
 have hl':=hr.right (.o j,some (.zone Z)) (by simp)
 dsimp only at hl'
 have hq:slQ es n (ι j) (a.eval x):=sL (S:=S) (w:=w) (cZ hx hr.left hw) hl'
 rcases hq with⟨hv,rfl⟩|⟨b,i0,cap,tot,hv,_⟩
 · exact⟨_,by simp[execOp,ho,hv,resolve,invoke,builtin,Builtin.len_,run_underlying hu]<;>rfl,.i _⟩
 · exact⟨_,by simp[execOp,ho,hv,resolve,invoke,builtin,Builtin.len_,run_underlying hu]<;>rfl,.i _⟩
theorem aGz {m:Int} (hT:dM P T) (ho:o.op= .indexAddr t x y) (hd:o.dst=some d) (ht:T t=some ⟨.sl e,s1,s2,s3⟩) (hte:T e=some ti) (hes:ti.size=es) (hx:ev σ x=some (.e (.c (ps j es n)),R)) (hy:ev σ y=some (I m,R2)) {e':TypeId} (hl:aR σ (.o j)=some (aI e' es Pr))
 (hm:0≤m∧m<n) (h:k (R++R2++[(.o j,some (aI e' es Pr))]) [(.t d,.v (.e (.c (.z j (ptQ es 0)))))]): ∃R W,vT P o R W∧bV R σ∧k R W:=by
 have hu:=(hT t _ ht).kind
 simp only[lK] at hu
 refine⟨_,_,mY hd fun cx σ' ι S a w hr hw=> ?_,((cU hx).append (cU hy)).append (bV.one hl),h⟩
 have hl':=hr.right (.o j,some (aI e' es Pr)) (by simp)
 dsimp only at hl'
 have hq:slQ es n (ι j) (a.eval x):=sL (S:=S) (w:=w) (cZ hx hr.left.left hw) hl'
 have hY:=cZ hy hr.left.right hw
 simp only[lJ,ER,CR] at hY
 cases hv2:a.eval y<;>rw[hv2] at hY<;>cases hY
 rcases hq with⟨hv,rfl⟩|⟨b,i0,cap,tot,hv,q2,q3,q4,q5⟩
 · have:=hm.1;have:=hm.2;omega
 · refine⟨.pointer (some ⟨b,(i0+m.toNat)*es+0,none⟩),?_,aR5 (S:=S) (w:=w) hl' ⟨b,i0+m.toNat,tot,rfl,by have:=hm.1;have:=hm.2;omega,q5⟩⟩
   simp[execOp,ho,hv,hv2,uX hu (hT e ti hte) ⟨b,i0*es,none⟩ n cap m hm.1 hm.2,kU,hes,aWh]
theorem aMq {s f off k0:Nat} (hT:dM P T) (ho:o.op= .fieldAddr s x f) (hd:o.dst=some d) (hf:tT T s f=some (off,ti)) (hx:ev σ x=some (.e (.c (.z j (ptQ es k0))),R)) (hl:aR σ (.o j)=some (aI e es Pr))
 (h:k (R++[(.o j,some (aI e es Pr))]) [(.t d,.v (.e (.c (.z j (ptQ es (k0+off))))))]): ∃R W,vT P o R W∧bV R σ∧k R W:=by
 refine⟨_,_,mY hd fun cx σ' ι S a w hr hw=> ?_,(cU hx).append (bV.one hl),h⟩
 have hl':=hr.right (.o j,some (aI e es Pr)) (by simp)
 dsimp only at hl'
 obtain⟨b,i,tot,hv,q2,q3⟩:ptQ es k0 (ι j) (a.eval x):=sL (S:=S) (w:=w) (cZ hx hr.left hw) hl'
 exact⟨.pointer (some ⟨b,i*es+(k0+off),none⟩),by simp[execOp,ho,hv,vU hT hf,kU];omega,aR5 (S:=S) (w:=w) hl' ⟨b,i,tot,rfl,q2,q3⟩⟩
theorem aMr {cx:Cx P} {ι:Nat→Value} {S:Nat→Prop} {a:Act} {w:World} (hw:RW cx σ ι S a w) {k0:Nat} {v:Value} (hl:aR σ (.o j)=some (aI e es Pr)) (hq:ptQ es k0 (ι j) v):
 ∃(b i tot:Nat) (r:List D),v= .pointer (some ⟨b,i*es+k0,none⟩)∧i<tot∧tz (ι j) (ri b tot)∧r.length=es∧Pr r∧ ∀(q:Nat) d,r[q]? =some d→ ∃u,w.cell? ⟨b,i*es+q,none⟩=some u∧DR w S d u:=by
 obtain⟨b,i,tot,hv,q2,q3⟩:=hq
 obtain⟨⟨cur,fz,hh,hf,hs,hr⟩,hm⟩:=jg (hw.vr.objs j _ hl) hl q3
 obtain⟨r,p1,p2,p3⟩:=hr i q2
 refine⟨b,i,tot,r,hv,q2,q3,p1,p2,fun q d hd=> ?_⟩
 obtain⟨u,hu,hdr⟩:=p3 q d hd
 exact⟨u,by rw[cell_of_row w b _ cur e fz hh];exact hu,hdr⟩
theorem aPy {Ws:V→Prop} (hd:o.dst=some d)
 (h: ∀(cx:Cx P) (σ:St) (ι:Nat→Value) (S:Nat→Prop) (a:Act) (w:World),bV R σ→RW cx σ ι S a w→ ∃v x,(execOp a.eval o).run P w= .ok (.value v) w∧lJ σ ι w S x v∧Ws x):
 OpE P o R fun W=> ∃x,Ws x∧W=[(.t d,.v x)]:=by
 intro cx σ ι S a w hr hw hb next Q hn
 obtain⟨v,x,he,hx,hs⟩:=h cx σ ι S a w hr hw
 unfold Oper.wp
 rw[he]
 simp only[Oper.upon,hd]
 exact hn _ ⟨x,hs,rfl⟩ ι S _ w (hw.put (hb d hd) hx)
theorem aMs {io:List Nat} {k0:Nat} {k:St→Prop} (hT:dM P T) (ho:o.op= .load t x) (hd:o.dst=some d) (hti:T t=some ti) (hag:ti.kind.agg=true) (hx:ev σ x=some (.e (.c (.z j (ptQ es k0))),R)) (hl:aR σ (.o j)=some (aI e es Pr)) (hk:k0+ti.size≤es)
 (h: ∀r:List D,r.length=es→Pr r→nF σ [(.t d,.v (.e (.agg (((r.drop k0).take ti.size).map C.d))))] k): ∃σ1,tw io σ σ1∧ ∃R Ws,OpE P o R Ws∧bV R σ1∧ ∀W,Ws W→nF σ1 W k:=by
 refine⟨σ,tw.rfl,_,_,aPy (Ws:=fun X=> ∃r:List D,r.length=es∧Pr r∧X= .e (.agg (((r.drop k0).take ti.size).map C.d))) hd (fun cx σ' ι S a w hr hw=> ?_),(cU hx).append (bV.one hl),fun W ⟨X,⟨r,h1,h2,h3⟩,h4⟩=>by subst h3;subst h4;exact h r h1 h2⟩
 have hl':=hr.right (.o j,some (aI e es Pr)) (by simp)
 dsimp only at hl'
 have hok:=hT t ti hti
 obtain⟨b,i,tot,r,hv,q1,q2,hrl,hpr,hcell⟩:=aMr hw hl' (sL (S:=S) (w:=w) (cZ hx hr.left hw) hl')
 have hex: ∃vs:List Value,vs.length=ti.size∧(∀(q:Nat) v,vs[q]? =some v→w.cell? ⟨b,i*es+k0+q,none⟩=some v)∧ ∀(q:Nat) d u,((r.drop k0).take ti.size)[q]? =some d→vs[q]? =some u→DR w S d u:=by
  refine⟨(aWb ti.size).map fun q=>(w.cell? ⟨b,i*es+k0+q,none⟩).getD undef,by simp,fun q v hq=> ?_,fun q d u h1 h2=> ?_⟩
  · have hql:q<ti.size:=by have:=(aV9.1 hq).1;simpa using this
    simp[hql] at hq
    have hlt:k0+q<r.length:=by omega
    obtain⟨u,hu,_⟩:=hcell (k0+q) _ (aV8 hlt)
    rw[← Nat.add_assoc] at hu
    rw[hu] at hq ⊢
    simpa using hq
  · have hql:q<ti.size:=by have:=(aV9.1 h2).1;simpa using this
    rw[List.getElem?_take,if_pos hql,List.getElem?_drop] at h1
    obtain⟨u',hu,hdr⟩:=hcell (k0+q) d h1
    rw[← Nat.add_assoc] at hu
    simp[hql,hu] at h2
    subst h2;exact hdr
 obtain⟨vs,hvl,hvc,hvd⟩:=hex
 refine⟨.agg vs.toArray,.e (.agg (((r.drop k0).take ti.size).map C.d)),?_,⟨vs,rfl,by rw[List.length_map,aV4,aV7,hvl];omega,fun q c u h1 h2=> ?_⟩,r,hrl,hpr,rfl⟩
 · have:=lW (w:=w) hok hag ⟨b,i*es+k0,none⟩ vs hvl (fun q v hq=>by rw[kU];exact hvc q v hq)
   simp[execOp,ho,hv,Instr.loadAt,Instr.sureAddr,this]
 · rw[List.getElem?_map] at h1
   cases hq: ((r.drop k0).take ti.size)[q]? with
   |none=>rw[hq] at h1;cases h1
   |some d=>rw[hq] at h1;cases h1;exact hvd q d u hq h2
end
structure ua (σ:St) (ι:Nat→Value) (S:Nat→Prop) (w:World) (id:Nat) (k:K) (p:Value) (w':World):Prop where
 os:w'.os=w.os
 tape:w'.tape=w.tape
 output:w'.output=w.output
 size:w.heap.size≤w'.heap.size
 block: ∀b,b<w.heap.size→ ¬kM σ ι id b→w'.heap[b]? =w.heap[b]?
 evo:aR σ (.o id)=none∨ ∃k0,aR σ (.o id)=some k0∧nE (ι id) p k0 k
 new: ∀b,uW p b→kM σ ι id b∨w.heap.size≤b
 or_:OR (pU σ (.o id) k) (fun o=>if o=id then p else ι o) w' S p k
section
variable {σ:St} {ι:Nat→Value} {S:Nat→Prop} {w:World}
theorem aMt {ν:Nat→Value} (h:VR σ ι ν S w) {id:Nat} {k:K} {p:Value} {w':World} (block: ∀b,b<w.heap.size→ ¬kM σ ι id b→w'.heap[b]? =w.heap[b]?) (evo:aR σ (.o id)=none∨ ∃k0,aR σ (.o id)=some k0∧nE (ι id) p k0 k):
 qY σ ι S w (pU σ (.o id) k) (fun o=>if o=id then p else ι o) S w':=by
 refine⟨fun _ h=>h,fun b hb=>block b (h.sz b hb) (fun hm=>h.mutS id b hm hb),fun o k0 hk=> ?_⟩
 by_cases e:o=id
 · subst e
   refine⟨k,cV _ _ _,?_⟩
   rcases evo with hn|⟨k1,hk1,hev⟩
   · rw[hn] at hk;cases hk
   · rw[hk1] at hk;cases hk;rw[if_pos rfl];exact hev
 · refine⟨k0,by rw[cQ _ _ (by simpa using fun h=>e h.symm)];exact hk,?_⟩
   rw[if_neg e];exact nE.refl' _ _
theorem VR.turnZ {ν:Nat→Value} (h:VR σ ι ν S w) {id:Nat} {k:K} {p:Value} {w':World} (t:ua σ ι S w id k p w'):
 VR (pU σ (.o id) k) (fun o=>if o=id then p else ι o) ν S w':=by
 have st:=aMt h t.block t.evo
 have mut_ne: ∀o b,o≠id→kM (pU σ (.o id) k) (fun o=>if o=id then p else ι o) o b→kM σ ι o b:=by
  intro o b ne hm
  obtain⟨⟨k0,hk,hl⟩,hb⟩:=hm
  rw[cQ _ _ (by simpa using fun h=>ne h.symm)] at hk
  dsimp only at hb
  rw[if_neg ne] at hb
  exact⟨⟨k0,hk,hl⟩,hb⟩
 have mlt: ∀o b,kM σ ι o b→b<w.heap.size:=fun o b ⟨⟨k0,hk,hl⟩,hb⟩=>OR.lt (h.objs o k0 hk) hl hb
 have mid: ∀b,kM (pU σ (.o id) k) (fun o=>if o=id then p else ι o) id b→kM σ ι id b∨w.heap.size≤b:=by
  intro b hm
  have hb:=hm.2
  dsimp only at hb
  rw[if_pos rfl] at hb
  exact t.new b hb
 refine⟨fun s x hx=> ?_,fun o k0 hk=> ?_,fun o b hm hS=> ?_,fun o o' b hm hm'=> ?_,fun b hb=>Nat.lt_of_lt_of_le (h.sz b hb) t.size⟩
 · rw[cQ _ _ (by simp)] at hx
   exact qZ.step st (h.slots s x hx)
 · by_cases e:o=id
   · subst e
     rw[cV] at hk;cases hk
     rw[if_pos rfl]
     exact t.or_
   · rw[cQ _ _ (by simpa using fun h=>e h.symm)] at hk
     rw[if_neg e]
     have ho:=h.objs o k0 hk
     by_cases hl:k0.live
     · refine OR.step st (fun b hb=> ?_) ho
       have hmut:kM σ ι o b:=⟨⟨k0,hk,hl⟩,hb⟩
       exact t.block b (mlt o b hmut) (fun e2=>e (h.inj o id b hmut e2))
     · cases k0<;>simp[K.live] at hl<;>trivial
 · by_cases e:o=id
   · subst e
     rcases mid b hm with h1|h1
     · exact h.mutS o b h1 hS
     · have:=h.sz b hS;omega
   · exact h.mutS o b (mut_ne o b e hm) hS
 · by_cases e:o=id
   · by_cases e':o'=id
     · rw[e,e']
     · subst e
       have h2:=mut_ne o' b e' hm'
       rcases mid b hm with h1|h1
       · exact absurd (h.inj o' o b h2 h1) e'
       · have:=mlt o' b h2;omega
   · by_cases e':o'=id
     · subst e'
       have h2:=mut_ne o b e hm
       rcases mid b hm' with h1|h1
       · exact absurd (h.inj o o' b h2 h1) e
       · have:=mlt o b h2;omega
     · exact h.inj o o' b (mut_ne o b e hm) (mut_ne o' b e' hm')
theorem RW.turnZ {P:Program} {cx:Cx P} {a:Act} (h:RW cx σ ι S a w) {id:Nat} {k:K} {p:Value} {w':World} (t:ua σ ι S w id k p w'):
 RW cx (pU σ (.o id) k) (fun o=>if o=id then p else ι o) S a w':=by
 refine⟨h.vr.turnZ t,h.size,h.defers,⟨t.os.trans h.fr.os,t.tape.trans h.fr.tape,t.output.trans h.fr.output,Nat.le_trans h.fr.size t.size,fun b hb hm=> ?_⟩,fun o b hm=> ?_,h.rd,fun o k1 ho=> ?_⟩
 · rw[t.block b (Nat.lt_of_lt_of_le hb h.fr.size) (fun e=> ?_)]
   · exact h.fr.block b hb hm
   · rcases h.own id b e with h1|h1
     · omega
     · exact hm h1
 · by_cases e:o=id
   · subst e
     have hb:=hm.2
     dsimp only at hb
     rw[if_pos rfl] at hb
     rcases t.new b hb with h1|h1
     · exact h.own o b h1
     · exact .inl (Nat.le_trans h.fr.size h1)
   · obtain⟨⟨k0,hk,hl⟩,hb⟩:=hm
     rw[cQ _ _ (by simpa using fun h=>e h.symm)] at hk
     dsimp only at hb
     rw[if_neg e] at hb
     exact h.own o b ⟨⟨k0,hk,hl⟩,hb⟩
 · obtain⟨k',hk',hev⟩:=h.io o k1 ho
   by_cases e:o=id
   · subst e
     refine⟨k,cV _ _ _,?_⟩
     rw[if_pos rfl]
     rcases t.evo with hn|⟨k2,hk2,hev2⟩
     · rw[hn] at hk';cases hk'
     · rw[hk2] at hk';cases hk';exact hev.trans hev2
   · refine⟨k',by rw[cQ _ _ (by simpa using fun h=>e h.symm)];exact hk',?_⟩
     rw[if_neg e];exact hev
end
section
variable {P:Program} {T:gO} {o:Oper} {σ:St} {x y:Operand} {t e:TypeId} {s1 s2 d j es n:Nat} {s3:List C} {Z:fy} {R R2:List (dG×Option K)} {k:List (dG×Option K)→List (dG×K)→Prop} {Pr:List D→Prop} {ti:TI}
theorem aAo {cx:Cx P} {ι:Nat→Value} {S:Nat→Prop} {a:Act} {w w':World} (hw:RW cx σ ι S a w) (hl:aR σ (.o j)=some (aI e es Pr)) {b tot:Nat} (hb:tz (ι j) (ri b tot)) {cur cur':Array Value} {fz:Nat×Nat}
 (hos:w'.os=w.os∧w'.tape=w.tape∧w'.output=w.output∧w'.heap.size=w.heap.size) (hc:w.heap[b]? =some (.cells cur e fz)) (hh:w'.heap[b]? =some (.cells cur' e fz)) (hs:cur'.size=cur.size) (ho: ∀b',b'≠b→w'.heap[b']? =w.heap[b']?)
 (hr: (∀b,S b→w'.heap[b]? =w.heap[b]?)→ ∀i,(i+1)*es≤cur.size→(∃r:List D,r.length=es∧Pr r∧ ∀(q:Nat) d,r[q]? =some d→ ∃u,cur[i*es+q]? =some u∧DR w S d u)→ ∃r:List D,r.length=es∧Pr r∧ ∀(q:Nat) d,r[q]? =some d→ ∃u,cur'[i*es+q]? =some u∧DR w' S d u):
 ua σ ι S w j (aI e es Pr) (ι j) w'∧qY σ ι S w (pU σ (.o j) (aI e es Pr)) (fun o=>if o=j then ι j else ι o) S w':=by
 obtain⟨hblk,hmut⟩:=jg (hw.vr.objs j _ hl) hl hb
 have hblock: ∀b',b'<w.heap.size→ ¬kM σ ι j b'→w'.heap[b']? =w.heap[b']?:=fun b' _ hne=>ho b' (fun h=>hne (by rw[h];exact hmut))
 have hevo:aR σ (.o j)=none∨ ∃k0,aR σ (.o j)=some k0∧nE (ι j) (ι j) k0 (aI e es Pr):= .inr ⟨_,hl,rfl,fun _ h=>h⟩
 have st:=aMt hw.vr (p:=ι j) hblock hevo
 refine⟨⟨hos.1,hos.2.1,hos.2.2.1,by rw[hos.2.2.2];exact aWa _,hblock,hevo,fun b' hb'=> .inl ⟨⟨_,hl,trivial⟩,hb'⟩,?_⟩,st⟩
 obtain⟨h1,h2⟩:=hw.vr.objs j _ hl
 refine⟨h1,fun v hv=> ?_⟩
 obtain⟨b',tot',rfl,hp⟩:=h2 v hv
 refine⟨b',tot',rfl,?_⟩
 by_cases e1:b'=b
 · subst e1
   obtain⟨cur0,fz0,q1,q2,q3,q4⟩:=hp
   rw[hc] at q1;cases q1
   exact⟨cur',fz,hh,by rw[hs];exact q2,by rw[hs];exact q3,fun i hi=>hr st.keep i (by rw[q3];exact Nat.mul_le_mul_right _ hi) (q4 i hi)⟩
 · exact hp.mono st.sub st.keep (ho b' e1)
theorem aJ3 (hd:o.dst=none)
 (h: ∀(cx:Cx P) (σ:St) (ι:Nat→Value) (S:Nat→Prop) (a:Act) (w:World),bV R σ→RW cx σ ι S a w→ ∃p w',(execOp a.eval o).run P w= .ok .skip w'∧ua σ ι S w j (.zone Z) p w'):
 vT P o R [(.o j,.zone Z)]:=by
 intro cx σ ι S a w hr hw hb next Q hn
 obtain⟨p,w',he,ht⟩:=h cx σ ι S a w hr hw
 unfold Oper.wp
 rw[he]
 simp only[Oper.upon,hd,aDm]
 exact hn _ S _ w' (hw.turnZ ht)
theorem ub {X:V} (hd:o.dst=some d)
 (h: ∀(cx:Cx P) (σ:St) (ι:Nat→Value) (S:Nat→Prop) (a:Act) (w:World),bV R σ→RW cx σ ι S a w→ ∃v p w',(execOp a.eval o).run P w= .ok (.value v) w'∧ua σ ι S w j (.zone Z) p w'∧lJ (pU σ (.o j) (.zone Z)) (fun o=>if o=j then p else ι o) w' S X v):
 vT P o R [(.o j,.zone Z),(.t d,.v X)]:=by
 intro cx σ ι S a w hr hw hb next Q hn
 obtain⟨v,p,w',he,ht,hx⟩:=h cx σ ι S a w hr hw
 unfold Oper.wp
 rw[he]
 simp only[Oper.upon,hd]
 exact hn _ S _ w' ((hw.turnZ ht).put (hb d hd) hx)
theorem aEa {k0:Nat} {Y:V} {ccs:List C} {vs:List D} (hT:dM P T) (ho:o.op= .store t x y) (hd:o.dst=none) (hti:T t=some ti) (hx:ev σ x=some (.e (.c (.z j (ptQ es k0))),R)) (hy:ev σ y=some (Y,R2)) (hc:cellsOf Y=some ccs) (hv:mj ccs=some vs) (hl:aR σ (.o j)=some (aI e es Pr))
 (hvl:vs.length=ti.size) (hk:k0+vs.length≤es) (hPr: ∀r:List D,r.length=es→Pr r→Pr (cX r k0 vs)) (h:k (R++R2++[(.o j,some (aI e es Pr))]) [(.o j,aI e es Pr)]): ∃R W,vT P o R W∧bV R σ∧k R W:=by
 refine⟨_,_,aJ3 hd fun cx σ' ι S a w hr hw=> ?_,((cU hx).append (cU hy)).append (bV.one hl),h⟩
 have hl':=hr.right (.o j,some (aI e es Pr)) (by simp)
 dsimp only at hl'
 have hok:=hT t ti hti
 obtain⟨b,i,tot,hvx,q2,q3⟩:ptQ es k0 (ι j) (a.eval x):=sL (S:=S) (w:=w) (cZ hx hr.left.left hw) hl'
 obtain⟨⟨cur,fz,hh,hf,hs,hrows⟩,hm⟩:=jg (hw.vr.objs j _ hl') hl' q3
 obtain⟨us,hu,hul,huk⟩:=mO hc (cZ hy hr.left.right hw)
 have hvl2:=pM hv
 have hdr: ∀(q:Nat) d u,vs[q]? =some d→us[q]? =some u→DR w S d u:=fun q d u hj hu'=>by
  obtain⟨c,hc,htd⟩:=xG hv q d hj
  exact xF htd (huk q c u hc hu')
 have hone: ∀u∈us,u.oneCell'=true:=fun u hu'=>by
  obtain⟨q,hj⟩:=List.mem_iff_getElem?.1 hu'
  have hlt:q<ccs.length:=by rw[← hul];exact(aV9.1 hj).1
  exact CR.one (huk q _ u (aV8 hlt) hj)
 have hin: (i+1)*es≤tot*es:=Nat.mul_le_mul_right _ q2
 rw[aWh,Nat.one_mul] at hin
 have hfit:i*es+k0+us.length≤cur.size:=by rw[hul,← hvl2,hs];omega
 have hrun:=rJ (P:=P) hok b (i*es+k0) cur hf hh (a.eval y) us hu (by rw[hul,← hvl2];exact hvl) hfit hone
 have h9:cur.toList.length=cur.size:=Array.length_toList
 obtain⟨ht,_⟩:=aAo (w':=w.setRow b (cX cur.toList (i*es+k0) us).toArray) (cur':=(cX cur.toList (i*es+k0) us).toArray) hw hl' q3 ⟨rfl,rfl,rfl,by simp⟩ hh (setRow_heap w b cur _ e _ hh) (by rw[List.size_toArray,fE (by omega),h9]) (fun b' hne=>setRow_other w b b' _ hne) (fun hkeep i2 hi2 ⟨r,p1,p2,p3⟩=>by
  have get: ∀q,(cX cur.toList (i*es+k0) us).toArray[q]? =if q<i*es+k0 then cur[q]? else if q<i*es+k0+us.length then us[q - (i*es+k0)]? else cur[q]?:=fun q=>by
   rw[← Array.getElem?_toList,List.toList_toArray,iS (by omega)]
   simp
  by_cases hii:i2=i
  · subst hii
    refine⟨cX r k0 vs,by rw[fE (by omega)];exact p1,hPr r p1 p2,fun q d hd=> ?_⟩
    rw[iS (by omega)] at hd
    rw[get]
    split at hd
    · obtain⟨u,hu1,hu2⟩:=p3 q d hd
      exact⟨u,by rw[if_pos (by omega)];exact hu1,DR.mono (fun _ h=>h) hkeep hu2⟩
    · split at hd
      · have hjl:q - k0<us.length:=by omega
        refine⟨us[q - k0],?_,DR.mono (fun _ h=>h) hkeep (hdr _ d _ hd (aV8 hjl))⟩
        rw[if_neg (by omega),if_pos (by omega),show i2*es+q - (i2*es+k0)=q - k0 by omega]
        exact aV8 hjl
      · obtain⟨u,hu1,hu2⟩:=p3 q d hd
        exact⟨u,by rw[if_neg (by omega),if_neg (by omega)];exact hu1,DR.mono (fun _ h=>h) hkeep hu2⟩
  · refine⟨r,p1,p2,fun q d hd=> ?_⟩
    obtain⟨u,hu1,hu2⟩:=p3 q d hd
    refine⟨u,?_,DR.mono (fun _ h=>h) hkeep hu2⟩
    rw[get]
    have hq:q<es:=by rw[← p1];exact(aV9.1 hd).1
    rcases Nat.lt_or_gt_of_ne hii with h1|h1
    · have: (i2+1)*es≤i*es:=Nat.mul_le_mul_right _ h1
      rw[aWh,Nat.one_mul] at this
      rw[if_pos (by omega)];exact hu1
    · have: (i+1)*es≤i2*es:=Nat.mul_le_mul_right _ h1
      rw[aWh,Nat.one_mul] at this
      rw[if_neg (by omega),if_neg (by omega)];exact hu1)
 exact⟨ι j,_,by simp[execOp,ho,hvx,Instr.storeAt,Instr.sureAddr,hrun],ht⟩
theorem aEb {lo hi:Option Operand} {lo' hi':Option Int} {R3:List (dG×Option K)} {e':TypeId} (hT:dM P T) (ho:o.op= .slice t x lo hi none) (hd:o.dst=some d) (ht:T t=some ⟨.sl e,s1,s2,s3⟩) (hte:T e=some ti) (hes:ti.size=es) (hx:ev σ x=some (.e (.c (ps j es n)),R)) (hlo:evI σ lo=some (lo',R2)) (hhi:evI σ hi=some (hi',R3)) (hl:aR σ (.o j)=some (aI e' es Pr))
 (hb:mu lo' hi' n) {m:Nat} (hm:m=fM hi' n - eK lo') (h:k (R++R2++R3++[(.o j,some (aI e' es Pr))]) [(.t d,.v (.e (.c (ps j es m))))]): ∃R W,vT P o R W∧bV R σ∧k R W:=by
 subst hm
 have hu:=(hT t _ ht).kind
 simp only[lK] at hu
 have hok:=hT e ti hte
 refine⟨_,_,mY hd fun cx σ' ι S a w hr hw=> ?_,(((cU hx).append (uP hlo)).append (uP hhi)).append (bV.one hl),h⟩
 have hl':=hr.right (.o j,some (aI e' es Pr)) (by simp)
 dsimp only at hl'
 have h1:=uQ hlo hr.left.left.right hw
 have h2:=uQ hhi hr.left.right hw
 have hq:slQ es n (ι j) (a.eval x):=sL (S:=S) (w:=w) (cZ hx hr.left.left.left hw) hl'
 rcases hq with⟨hv,rfl⟩|⟨b,i0,cap,tot,hv,q2,q3,q4,q5⟩
 · have hb2:=yJ (P:=P) (w:=w) (isSl:=true) (len:=0) (cap:=0) (aWa _) hb
   have e1:eK lo'=0:=by obtain⟨p1,p2,p3⟩:=hb;unfold eK;omega
   have e2:fM hi' 0=0:=by obtain⟨p1,p2,p3⟩:=hb;unfold fM;omega
   rw[e1,e2] at hb2 ⊢
   exact⟨.slice none 0 0,by simp[execOp,ho,hv,Instr.sliceAt,run_underlying hu,Instr.slice,h1,h2,hb2,eV hok],aIq (S:=S) (w:=w) hl' (.inl ⟨rfl,rfl⟩)⟩
 · have hb2:=yJ (P:=P) (w:=w) (isSl:=true) (len:=n) (cap:=cap) q2 hb
   have e1:eK lo'≤cap:=by obtain⟨p1,p2,p3⟩:=hb;unfold eK;omega
   have e2:fM hi' n≤n:=by obtain⟨p1,p2,p3⟩:=hb;unfold fM;omega
   refine⟨.slice (if cap=eK lo' then some ⟨b,i0*es,none⟩ else(some (⟨b,i0*es,none⟩:Addr)).map (·.add (eK lo'*ti.size))) (fM hi' n - eK lo') (cap - eK lo'),by simp[execOp,ho,hv,Instr.sliceAt,run_underlying hu,Instr.slice,h1,h2,hb2,eV hok],aIq (S:=S) (w:=w) hl' ?_⟩
   by_cases hc:cap=eK lo'
   · exact .inr ⟨b,i0,cap - eK lo',tot,by rw[if_pos hc],by omega,by omega,by omega,q5⟩
   · exact .inr ⟨b,i0+eK lo',cap - eK lo',tot,by rw[if_neg hc,Option.map_some,kU,hes,aWh],by omega,by omega,by omega,q5⟩
end
structure Src (P:Program) (σ:St) (y:Operand) (t2:TypeId) (es m:Nat) (Pr:List D→Prop) (R:List (dG×Option K)):Prop where
 rd:bV R σ
 ty: ∃d2,P.underlying t2=some d2∧ ∀k,d2≠ .int k
 run: ∀(cx:Cx P) (σ':St) (ι:Nat→Value) (S:Nat→Prop) (a:Act) (w:World),bV R σ'→RW cx σ' ι S a w→ ∃rows nv,rows.length=m∧(∀r∈rows,r.length=es∧Pr r)∧ix P w S es rows (a.eval y) nv
section
variable {P:Program} {T:gO} {o:Oper} {σ:St} {x y:Operand} {t t2 e:TypeId} {s1 s2 d j es n m:Nat} {s3:List C} {Z:fy} {R R2 R3:List (dG×Option K)} {k:List (dG×Option K)→List (dG×K)→Prop} {Pr:List D→Prop} {ti:TI}
theorem jh (hT:dM P T) {Y:V} {q:Prop} {rows:List (List D)} (hes:0<es) (hy:ev σ y=some (Y,R)) (h:rV T σ t2 Y=some (q,rows,R2)) (hq:q) (hr: ∀r∈rows,r.length=es∧Pr r) (hm:m=rows.length):Src P σ y t2 es m Pr (R++R2):=
 ⟨(cU hy).append (rW h),yD hT h,fun cx σ' ι S a w hrd hw=>by
  obtain⟨nv,hs⟩:=dh hT h hq hes (fun r hr'=>(hr r hr').1) hrd.right hw (cZ hy hrd.left hw)
  exact⟨rows,nv,hm.symm,hr,hs⟩⟩
theorem aJ4 {w:World} {S:Nat→Prop} {g off cap:Nat} {cur:Array Value} {fz:Nat×Nat} {vx:Value} {rows:List (List D)} (hes:0<es) (hv:vx= .slice (some ⟨g,off,none⟩) rows.length cap) (hh:w.heap[g]? =some (.cells cur e fz)) (hle:off+rows.length*es≤cur.size)
 (hrows: ∀(i:Nat) r,rows[i]? =some r→r.length=es∧ ∀(k:Nat) d,r[k]? =some d→ ∃u,cur[off+i*es+k]? =some u∧DR w S d u): ∃nv,ix P w S es rows vx nv:=by
 have h9:cur.toList.length=cur.size:=Array.length_toList
 have hget: ∀j,j<rows.length*es→((cur.toList.drop off).take (rows.length*es))[j]? =cur[off+j]?:=by
  intro j hj
  rw[List.getElem?_take,if_pos hj,List.getElem?_drop];simp
 refine⟨(cur.toList.drop off).take (rows.length*es),⟨by rw[hv];simp[Builtin.lenOf],fun w1=>by rw[hv];simp[Builtin.lenOf],fun w1 m h1 hm=> ?_,by simp;omega,?_,fun i r hri k d hk=> ?_⟩⟩
 · rw[hv]
   have hle2:m*es≤rows.length*es:=Nat.mul_le_mul_right _ hm
   refine run_firstCells_some (P:=P) w1 es m ⟨g,off,none⟩ rows.length cap _ (by rw[aV4,aV4,aV7];omega) (fun j v hj=> ?_)
   have hjl:j<m*es:=by have:=(aV9.1 hj).1;rw[aV4] at this;omega
   rw[List.getElem?_take,if_pos hjl] at hj
   have hjl:j<rows.length*es:=by omega
   rw[hget j hjl] at hj
   rw[uY h1,kU,cell_of_row w g _ cur e fz hh];exact hj
 · intro v hv2
   obtain⟨j,hj⟩:=List.mem_iff_getElem?.1 hv2
   have hjl:j<rows.length*es:=by have:=(aV9.1 hj).1;simp at this;omega
   rw[hget j hjl] at hj
   have h1:j / es<rows.length:=(Nat.div_lt_iff_lt_mul hes).2 hjl
   have h2:j % es<es:=Nat.mod_lt _ hes
   have hrr:=hrows (j / es) _ (aV8 h1)
   have h3:j % es< (rows[j / es]).length:=by rw[hrr.1];exact h2
   obtain⟨u,hu,hdr⟩:=hrr.2 (j % es) _ (aV8 h3)
   rw[Nat.add_assoc,Nat.div_add_mod'] at hu
   rw[hu] at hj;cases hj
   exact DR.oneCell hdr
 · have hil:i<rows.length:=(aV9.1 hri).1
   have hr:=hrows i r hri
   have hkl:k<es:=by rw[← hr.1];exact(aV9.1 hk).1
   obtain⟨u,hu,hdr⟩:=hr.2 k d hk
   exact⟨u,by rw[hget _ (kV hil hkl),← Nat.add_assoc];exact hu,hdr⟩
theorem aEc {α:Type} {n:Nat} {p:Nat→α→Prop} (h: ∀i,i<n→ ∃a,p i a): ∃l:List α,l.length=n∧ ∀(i:Nat) a,l[i]? =some a→p i a:=by
 induction n with
 |zero=>exact⟨[],rfl,by simp⟩
 |succ n ih=>
  obtain⟨l,h1,h2⟩:=ih fun i hi=>h i (by omega)
  obtain⟨a,ha⟩:=h n (by omega)
  refine⟨l++[a],by simp[h1],fun i b hb=> ?_⟩
  by_cases hi:i<l.length
  · rw[List.getElem?_append_left hi] at hb;exact h2 i b hb
  · rw[List.getElem?_append_right (by omega)] at hb
    have:i=n:=by
     have:=(aV9.1 hb).1
     simp at this;omega
    subst this
    rw[h1,Nat.sub_self] at hb;cases hb;exact ha
theorem aEd (hT:dM P T) (hes:0<es) (hy:ev σ y=some (.e (.c (ps j es m)),R)) (hl:aR σ (.o j)=some (aI e es Pr)) {e2:TypeId} (ht2:T t2=some ⟨.sl e2,s1,s2,s3⟩):Src P σ y t2 es m Pr (R++[(.o j,some (aI e es Pr))]):=
 ⟨(cU hy).append (bV.one hl),⟨_,(hT t2 _ ht2).kind,fun k h=>by cases h⟩,fun cx σ' ι S a w hr hw=>by
  have hl':=hr.right (.o j,some (aI e es Pr)) (by simp)
  dsimp only at hl'
  have hq:slQ es m (ι j) (a.eval y):=sL (S:=S) (w:=w) (cZ hy hr.left hw) hl'
  rcases hq with⟨hv,rfl⟩|⟨b,i0,cap,tot,hv,q2,q3,q4,q5⟩
  · exact⟨[],[],rfl,by simp,by rw[hv];simp[Builtin.lenOf],fun w1=>by rw[hv];simp[Builtin.lenOf],fun w1 m h1 hm=>by(obtain rfl:m=0:=by simpa using hm);rw[hv];simp[Builtin.firstCells],by simp,by simp,by simp⟩
  · obtain⟨⟨cur,fz,hh,hf,hs,hrows⟩,hm⟩:=jg (hw.vr.objs j _ hl') hl' q5
    obtain⟨rows,h1,h2⟩:=aEc (n:=m) fun i hi=>hrows (i0+i) (by omega)
    have hle: (i0+m)*es≤tot*es:=Nat.mul_le_mul_right _ (by omega)
    rw[aWh] at hle
    obtain⟨nv,hs2⟩:=aJ4 (P:=P) (rows:=rows) (off:=i0*es) (vx:=a.eval y) (cap:=cap) hes (by rw[hv,h1]) hh (by rw[h1,hs];exact hle) fun i r hi=>by
     obtain⟨p1,p2,p3⟩:=h2 i r hi
     exact⟨p1,fun k d hd=>by rw[← aWh];exact p3 k d hd⟩
    exact⟨rows,nv,h1,fun r hr=>by obtain⟨i,hi⟩:=List.mem_iff_getElem?.1 hr;exact⟨(h2 i r hi).1,(h2 i r hi).2.1⟩,hs2⟩⟩
theorem ji {w:World} {ty:TypeId} {d2:TypeDesc} (hu:P.underlying t=some (.slice e)) (hok:eF P e ti) (hu2:P.underlying t2=some d2) (hd2: ∀k,d2≠ .int k)
 {S:Nat→Prop} {rows:List (List D)} {vx:Value} {news:List Value} (hs:ix P w S ti.size rows vx news) (base:Option Addr) (sLen sCap:Nat) (olds:List Value)
 (hold: ∀w1,w1.heap=w.heap→(Builtin.firstCells ti.size sLen (.slice base sLen sCap)).run P w1= .ok olds.toArray w1)
 (hgrow:sCap<sLen+rows.length) (hbytes: (sLen+rows.length)*ti.bytes≤140737488355328) {z:List D} (hz0:mj ti.zero=some z):
 ∃cap zs,(Builtin.append_ #[t,t2] ty #[.slice base sLen sCap,vx]).run P w= .ok (.slice (some ⟨w.heap.size,0,none⟩) (sLen+rows.length) cap) (w.drew.alloc (.cells (olds++news++zs).toArray e))∧sLen+rows.length≤cap∧cap≤maxLen∧
  zs.length=(cap - (sLen+rows.length))*ti.size∧ ∀(i:Nat),i<cap - (sLen+rows.length)→ ∀(q:Nat) d,z[q]? =some d→ ∃u,zs[i*ti.size+q]? =some u∧ ∀w' S',DR w' S' d u:=by
 have hz: (match d2 with| .int _=>true|_=>false)=false:=by cases d2<;>first|rfl|exact absurd rfl (hd2 _)
 obtain⟨i,zz,hi,hsz,hby,hzero,hzc⟩:=hok.info
 have hb:=hok.bpos
 have hle:sLen+rows.length≤(sLen+rows.length)*ti.bytes:=Nat.le_mul_of_pos_right _ hb
 have hfit: ¬(281474976710656<Builtin.nextslicecap (sLen+rows.length) sCap*ti.bytes):=by
  have:=growslice_fits hgrow hbytes;omega
 have hcl:=grownCap_ge w (sLen+rows.length) sCap e
 have hcm:=grownCap_le_maxLen w (sLen+rows.length) sCap e (by simp only[maxLen];omega)
 have hzl:zz.cells.size=ti.size:=by rw[← Array.length_toList,hzc,List.length_map,hok.zlen]
 refine⟨grownCap w (sLen+rows.length) sCap e,(Builtin.zeroCells zz.cells (grownCap w (sLen+rows.length) sCap e - (sLen+rows.length))).toList,?_,hcl,hcm,?_,fun i hil q d hq=> ?_⟩
 · have hn: ¬(sLen+rows.length≤sCap):=by omega
   have h63: ¬(9223372036854775807< ((sLen:Int)+(rows.length:Int))):=by omega
   have ho:=hold w.drew rfl
   have hf:=hs.first w.drew rfl
   simp[Builtin.append_,run_underlying hu,run_underlying hu2,eV hok,hs.len,hn,h63,typeInfo,hi,hby,hfit,hz,Question.forced,zeroValue,hzero,newRow,grownCap]
   rw[ho,Result.andThen_ok,hf,Result.andThen_ok]
   simp
   congr 2
   apply Array.toList_inj.1
   simp
 · simp[size_zeroCells,hzl]
 · obtain⟨c,hc,htd⟩:=xG hz0 q d hq
   have hkl:q<ti.size:=by rw[← hok.zlen];exact(aV9.1 hc).1
   have hlt:=kV hil hkl
   have hzk:zz.cells[q]? =some (zv c):=by rw[← Array.getElem?_toList,hzc,List.getElem?_map,hc];rfl
   refine⟨zv c,?_,fun w' S'=>xF (σ:=[]) (ι:=fun _=>undef) htd (tS (aWf.1 hok.zok c (List.mem_of_getElem? hc)))⟩
   have hm: (i*ti.size+q) % zz.cells.size=q:=by rw[hzl,Nat.mul_comm,Nat.mul_add_mod,Nat.mod_eq_of_lt hkl]
   have hk2:q<zz.cells.size:=by rw[hzl];exact hkl
   have e1:zz.cells[q]! =zv c:=by rw[getElem!_pos zz.cells q hk2];rw[Array.getElem?_eq_getElem hk2] at hzk;exact Option.some.inj hzk
   have hlt':i*ti.size+q< (grownCap w (sLen+rows.length) sCap e - (sLen+rows.length))*zz.cells.size:=by rw[hzl];exact hlt
   simp only[Builtin.zeroCells,Array.toList_map,List.getElem?_map,Array.getElem?_toList,Array.getElem?_range,hlt',if_true,Option.map_some,hm,e1]
theorem aAp {cx:Cx P} {ι:Nat→Value} {S:Nat→Prop} {a:Act} {w w0:World} (hw:RW cx σ ι S a w) (hl:aR σ (.o j)=some (aI e es Pr)) {cells:Array Value} {tot:Nat} (hw0:w0.heap=w.heap∧w0.os=w.os∧w0.tape=w.tape∧w0.output=w.output)
 (hs:cells.size=tot*es) (hr: (∀b,S b→(w0.alloc (.cells cells e)).heap[b]? =w.heap[b]?)→ ∀i,i<tot→ ∃r:List D,r.length=es∧Pr r∧ ∀(q:Nat) d,r[q]? =some d→ ∃u,cells[i*es+q]? =some u∧DR (w0.alloc (.cells cells e)) S d u):
 ∃p',ua σ ι S w j (aI e es Pr) p' (w0.alloc (.cells cells e))∧(∀v,tz (ι j) v→tz p' v)∧tz p' (ri w.heap.size tot):=by
 obtain⟨⟨vs,hp⟩,h2⟩:=hw.vr.objs j _ hl
 have hold: ∀b,b<w.heap.size→(w0.alloc (.cells cells e)).heap[b]? =w.heap[b]?:=fun b hb=>by rw[heap_alloc_old w0 _ b (by rw[hw0.1];exact hb),hw0.1]
 have hnew: (w0.alloc (.cells cells e)).heap[w.heap.size]? =some (.cells cells e (0,0)):=by
  have:=heap_alloc_new w0 (.cells cells e)
  rw[hw0.1] at this;exact this
 have hsub: ∀v,tz (ι j) v→tz (.tuple (vs.push (ri w.heap.size tot))) v:=fun v ⟨vs',h3,h4⟩=>by
  rw[hp] at h3;cases h3
  exact⟨_,rfl,by simp[h4]⟩
 have hevo:aR σ (.o j)=none∨ ∃k0,aR σ (.o j)=some k0∧nE (ι j) (.tuple (vs.push (ri w.heap.size tot))) k0 (aI e es Pr):= .inr ⟨_,hl,rfl,hsub⟩
 have hblock: ∀b,b<w.heap.size→ ¬kM σ ι j b→(w0.alloc (.cells cells e)).heap[b]? =w.heap[b]?:=fun b hb _=>hold b hb
 have st:=aMt hw.vr hblock hevo
 refine⟨.tuple (vs.push (ri w.heap.size tot)),⟨hw0.2.1,hw0.2.2.1,hw0.2.2.2,by simp[hw0.1],hblock,hevo,fun b hb=> ?_,⟨_,rfl⟩,fun v hv=> ?_⟩,hsub,⟨_,rfl,by simp⟩⟩
 · obtain⟨v,hv,hb⟩:=hb
   have hv:v∈vs.toList∨v=ri w.heap.size tot:=by simpa using hv
   rcases hv with hv|rfl
   · exact .inl ⟨⟨_,hl,trivial⟩,by rw[hp];exact⟨v,hv,hb⟩⟩
   · simp[blk] at hb;exact .inr (by omega)
 · obtain⟨vs',h3,h4⟩:=hv
   cases h3
   have h4:v∈vs.toList∨v=ri w.heap.size tot:=by simpa using h4
   rcases h4 with h4|rfl
   · obtain⟨b,tot',rfl,hpb⟩:=h2 v (by rw[hp];exact⟨vs,rfl,h4⟩)
     refine⟨b,tot',rfl,hpb.mono st.sub st.keep (hold b ?_)⟩
     obtain⟨cur,fz,hh,_⟩:=hpb
     exact(Array.getElem?_eq_some_iff.1 hh).1
   · exact⟨_,tot,rfl,cells,(0,0),hnew,.inl rfl,hs,hr st.keep⟩
theorem nd {z:List D} (hT:dM P T) (ho:o.op= .call {callee:= .builtin .append,args:= #[x,y],argTypes:= #[t,t2]}) (hd:o.dst=some d) (ht:T t=some ⟨.sl e,s1,s2,s3⟩) (hte:T e=some ti) (hes:ti.size=es) (hx:ev σ x=some (.e (.c (ps j es n)),R)) (hl:aR σ (.o j)=some (aI e es Pr))
 (hz:mj ti.zero=some z) (hPz:Pr z) (hs:Src P σ y t2 es m Pr R2) (hb: (n+m)*ti.bytes≤140737488355328) (h:k (R++R2++[(.o j,some (aI e es Pr))]) [(.o j,aI e es Pr),(.t d,.v (.e (.c (ps j es (n+m)))))]): ∃R W,vT P o R W∧bV R σ∧k R W:=by
 subst hes
 have hu:=(hT t _ ht).kind
 simp only[lK] at hu
 have hok:=hT e ti hte
 have hes:=hok.pos
 obtain⟨d2,hu2,hd2⟩:=hs.ty
 refine⟨_,_,ub hd fun cx σ' ι S a w hr hw=> ?_,((cU hx).append hs.rd).append (bV.one hl),h⟩
 have hl':=hr.right (.o j,some (aI e ti.size Pr)) (by simp)
 dsimp only at hl'
 obtain⟨rows,nv,rfl,hrows,hsr⟩:=hs.run cx σ' ι S a w hr.left.right hw
 have hq:slQ ti.size n (ι j) (a.eval x):=sL (S:=S) (w:=w) (cZ hx hr.left.left hw) hl'
 have hzl:z.length=ti.size:=by rw[pM hz,hok.zlen]
 have fin: ∀{w' p v},slQ ti.size (n+rows.length) p v→lJ (pU σ' (.o j) (aI e ti.size Pr)) (fun o=>if o=j then p else ι o) w' S (.e (.c (ps j ti.size (n+rows.length)))) v:=fun{w' p v} hq=>(aIq (cV σ' (.o j) (aI e ti.size Pr)) (by show slQ _ _ (if j=j then p else ι j) v;rw[if_pos rfl];exact hq):CR (pU σ' (.o j) (aI e ti.size Pr)) (fun o=>if o=j then p else ι o) w' S (ps j ti.size (n+rows.length)) v)
 have grow: ∀(base:Option Addr) (cap:Nat) (olds:List Value),a.eval x= .slice base n cap→cap<n+rows.length→olds.length=n*ti.size→(∀w1,w1.heap=w.heap→(Builtin.firstCells ti.size n (.slice base n cap)).run P w1= .ok olds.toArray w1)→
  (∀i,i<n→ ∃r:List D,r.length=ti.size∧Pr r∧ ∀(q:Nat) d,r[q]? =some d→ ∃u,olds[i*ti.size+q]? =some u∧DR w S d u)→
  ∃v p w',(execOp a.eval o).run P w= .ok (.value v) w'∧ua σ' ι S w j (aI e ti.size Pr) p w'∧lJ (pU σ' (.o j) (aI e ti.size Pr)) (fun o=>if o=j then p else ι o) w' S (.e (.c (ps j ti.size (n+rows.length)))) v:=by
  intro base cap olds hv hlt hol hold hor
  obtain⟨cap',zs,hrun,hle,hm,hzsl,hzs⟩:=ji (w:=w) (ty:=o.type) hu hok hu2 hd2 hsr base n cap olds hold hlt hb hz
  obtain⟨p',ht',hsub,hnew⟩:=aAp (w0:=w.drew) (cells:=(olds++nv++zs).toArray) (tot:=cap') hw hl' ⟨rfl,rfl,rfl,rfl⟩ (by rw[List.size_toArray,aVz,aVz,hsr.size,hzsl,hol,← aWh,← aWh,Nat.add_sub_cancel' hle]) (fun hkeep i hi=>by
   simp only[List.getElem?_toArray]
   by_cases h1:i<n
   · obtain⟨r,q1,q2,q3⟩:=hor i h1
     refine⟨r,q1,q2,fun q d hd=> ?_⟩
     obtain⟨u,hu1,hu2⟩:=q3 q d hd
     have hlt:=(aV9.1 hu1).1
     exact⟨u,by rw[List.append_assoc,List.getElem?_append_left hlt];exact hu1,DR.mono (fun _ h=>h) hkeep hu2⟩
   · by_cases h2:i<n+rows.length
     · have hil:i - n<rows.length:=by omega
       obtain⟨r1,r2⟩:=hrows _ (List.getElem_mem hil)
       refine⟨rows[i - n],r1,r2,fun q d hd=> ?_⟩
       obtain⟨u,hu1,hu2⟩:=hsr.rel (i - n) _ (aV8 hil) q d hd
       have hlt:=(aV9.1 hu1).1
       have hmul:i*ti.size=n*ti.size+(i - n)*ti.size:=by rw[← aWh];congr 1;omega
       exact⟨u,by rw[List.append_assoc,List.getElem?_append_right (by omega),show i*ti.size+q - olds.length=(i - n)*ti.size+q by omega,List.getElem?_append_left hlt];exact hu1,DR.mono (fun _ h=>h) hkeep hu2⟩
     · refine⟨z,hzl,hPz,fun q d hd=> ?_⟩
       obtain⟨u,hu1,hu2⟩:=hzs (i - (n+rows.length)) (by omega) q d hd
       have hmul:i*ti.size=(n+rows.length)*ti.size+(i - (n+rows.length))*ti.size:=by rw[← aWh];congr 1;omega
       have hsz: (olds++nv).length=(n+rows.length)*ti.size:=by rw[aVz,hsr.size,hol,aWh]
       exact⟨u,by rw[List.getElem?_append_right (by omega),show i*ti.size+q - (olds++nv).length=(i - (n+rows.length))*ti.size+q by omega];exact hu1,hu2 _ _⟩)
  refine⟨_,p',_,?_,ht',fin (.inr ⟨w.heap.size,0,cap',cap',by rw[Nat.zero_mul],hle,hm,by omega,hnew⟩)⟩
  simp[execOp,ho,resolve,invoke,builtin,hv,hrun]
 rcases hq with⟨hv,rfl⟩|⟨b,i0,cap,tot,hv,q2,q3,q4,q5⟩
 · by_cases hnz:rows=[]
   · subst hnz
     have hrun:=sY (w:=w) (ty:=o.type) hu hok hu2 hd2 hsr
     refine⟨.slice none 0 0,ι j,w,by simp[execOp,ho,resolve,invoke,builtin,hv,hrun],⟨rfl,rfl,rfl,aWa _,fun _ _ _=>rfl,.inr ⟨_,hl',rfl,fun _ h=>h⟩,fun b hb=> .inl ⟨⟨_,hl',trivial⟩,hb⟩,hw.vr.objs j _ hl'⟩,fin (.inl ⟨rfl,rfl⟩)⟩
   · have hnpos:0<rows.length:=List.length_pos_iff.2 hnz
     exact grow none 0 [] hv (by omega) (by simp) (fun w1 _=>by simp[Builtin.firstCells]) (fun i hi=>by omega)
 · obtain⟨⟨cur,fz,hh,hf,hcs,hrs⟩,hmu⟩:=jg (hw.vr.objs j _ hl') hl' q5
   have h9:cur.toList.length=cur.size:=Array.length_toList
   have hcap: (i0+cap)*ti.size≤tot*ti.size:=Nat.mul_le_mul_right _ q4
   rw[aWh] at hcap
   by_cases hroom:n+rows.length≤cap
   · have hrun:=ab (w:=w) (ty:=o.type) hu hok hu2 hd2 hsr b (i0*ti.size) n cap cur e hf hh hroom (by rw[hcs];exact hcap)
     have hmul: (n+rows.length)*ti.size≤cap*ti.size:=Nat.mul_le_mul_right _ hroom
     rw[aWh,← hsr.size] at hmul
     obtain⟨htt,_⟩:=aAo (w':=w.setRow b (cX cur.toList (i0*ti.size+n*ti.size) nv).toArray) (cur':=(cX cur.toList (i0*ti.size+n*ti.size) nv).toArray) hw hl' q5 ⟨rfl,rfl,rfl,by simp⟩ hh (setRow_heap w b cur _ e _ hh) (by rw[List.size_toArray,fE (by omega),h9]) (fun b' hne=>setRow_other w b b' _ hne) (fun hkeep i hi ⟨r,p1,p2,p3⟩=>by
      have get: ∀q,(cX cur.toList (i0*ti.size+n*ti.size) nv).toArray[q]? =if q<i0*ti.size+n*ti.size then cur[q]? else if q<i0*ti.size+n*ti.size+nv.length then nv[q - (i0*ti.size+n*ti.size)]? else cur[q]?:=fun q=>by
       rw[← Array.getElem?_toList,List.toList_toArray,iS (by omega)]
       simp
      have hnv:=hsr.size
      by_cases h1:i<i0+n
      · refine⟨r,p1,p2,fun q d hd=> ?_⟩
        obtain⟨u,hu1,hu2⟩:=p3 q d hd
        have hql:q<ti.size:=by rw[← p1];exact(aV9.1 hd).1
        have:=kV h1 hql
        rw[aWh] at this
        exact⟨u,by rw[get,if_pos (by omega)];exact hu1,DR.mono (fun _ h=>h) hkeep hu2⟩
      · by_cases h2:i<i0+n+rows.length
        · have hil:i - (i0+n)<rows.length:=by omega
          obtain⟨r1,r2⟩:=hrows _ (List.getElem_mem hil)
          refine⟨rows[i - (i0+n)],r1,r2,fun q d hd=> ?_⟩
          obtain⟨u,hu1,hu2⟩:=hsr.rel _ _ (aV8 hil) q d hd
          have hlt:=(aV9.1 hu1).1
          have hmul:i*ti.size=i0*ti.size+n*ti.size+(i - (i0+n))*ti.size:=by rw[← aWh,← aWh];congr 1;omega
          exact⟨u,by rw[get,if_neg (by omega),if_pos (by omega),show i*ti.size+q - (i0*ti.size+n*ti.size)=(i - (i0+n))*ti.size+q by omega];exact hu1,DR.mono (fun _ h=>h) hkeep hu2⟩
        · refine⟨r,p1,p2,fun q d hd=> ?_⟩
          obtain⟨u,hu1,hu2⟩:=p3 q d hd
          have: (i0+n+rows.length)*ti.size≤i*ti.size:=Nat.mul_le_mul_right _ (by omega)
          rw[aWh,aWh] at this
          exact⟨u,by rw[get,if_neg (by omega),if_neg (by omega)];exact hu1,DR.mono (fun _ h=>h) hkeep hu2⟩)
     refine⟨_,ι j,_,?_,htt,fin (.inr ⟨b,i0,cap,tot,rfl,hroom,q3,q4,q5⟩)⟩
     simp[execOp,ho,resolve,invoke,builtin,hv,hrun]
   · have hle9:n*ti.size≤cap*ti.size:=Nat.mul_le_mul_right _ q2
     obtain⟨olds,hold⟩: ∃olds,olds=(cur.toList.drop (i0*ti.size)).take (n*ti.size):=⟨_,rfl⟩
     have holdl:olds.length=n*ti.size:=by rw[hold];simp;omega
     have hget: ∀q,q<n*ti.size→olds[q]? =cur[i0*ti.size+q]?:=by
      intro q hq
      rw[hold,List.getElem?_take,if_pos hq,List.getElem?_drop];simp
     refine grow (some ⟨b,i0*ti.size,none⟩) cap olds hv (by omega) holdl (fun w1 h1=>by
      refine run_firstCells_some (P:=P) w1 ti.size n ⟨b,i0*ti.size,none⟩ n cap _ holdl (fun q v hq=> ?_)
      have hql:q<n*ti.size:=by rw[← holdl];exact(aV9.1 hq).1
      rw[hget q hql] at hq
      rw[uY h1,kU,cell_of_row w b _ cur e fz hh];exact hq) (fun i hi=> ?_)
     obtain⟨r,p1,p2,p3⟩:=hrs (i0+i) (by omega)
     refine⟨r,p1,p2,fun q d hd=> ?_⟩
     obtain⟨u,hu1,hu2⟩:=p3 q d hd
     have hql:q<ti.size:=by rw[← p1];exact(aV9.1 hd).1
     exact⟨u,by rw[hget _ (kV hi hql),← Nat.add_assoc,← aWh];exact hu1,hu2⟩
end
section
variable {P:Program} {ops:Array Oper} {cx:Cx P} {Q:Exit→Act→World→Prop} {σ:St}
theorem aB9 (hedge:rY 0 ops.toList=true) {listed:Array Bool} (hcl: ∀k o,ops[k]? =some o→listed.getD k false=true→ ∀i∈kG o,listed.getD i false=true): ∀(k:Nat),∀o,ops[k]? =some o→(∀i∈kG o,listed.getD i false=true)→ ∀i∈(lZ ops.toList []).getD k [],listed.getD i false=true:=by
 have hedge': ∀(j:Nat) o,ops[j]? =some o→ ∀i∈kG o,i<j:=fun j o ho i hi=>by
  have:=pW 0 ops.toList hedge j o (by simpa using ho) i hi;omega
 have hpl: ∀(j:Nat) o,ops[j]? =some o→(lZ ops.toList [])[j]? =some ((kG o).flatMap fun i=>i::(lZ ops.toList []).getD i []):=fun j o ho=>by
  have:=iy ops.toList [] j o (by simpa using ho) hedge
  simpa using this
 intro k
 induction k using Nat.strongRecOn with
 |_ k ih=>
  intro o ho hp i hi
  rw[aV6,hpl k o ho] at hi
  simp only[Option.getD_some,List.mem_flatMap] at hi
  obtain⟨i',hi',hi⟩:=hi
  rcases List.mem_cons.1 hi with rfl|hi
  · exact hp i hi'
  · have hlt:=hedge' k o ho i' hi'
    have hsz':k<ops.size:=(Array.getElem?_eq_some_iff.1 ho).1
    have ho':ops[i']? =some ops[i']:=Array.getElem?_eq_getElem (by omega)
    exact ih i' hlt _ ho' (hcl i' _ ho' (hp i' hi')) i hi
theorem uc {ts:List lY} (hlen:ts.length=ops.size) (hr:jW ts σ) (hok:pV ops.toList ts=true):
 ∀(fuel:Nat) (listed:Array Bool) (σL:St) (ι:Nat→Value) (S:Nat→Prop) (a:Act) (w:World),listed.size=ops.size→(∀l,aR σL l=part ts (fun i=>listed.getD i false) σ l ts.length)→RW cx σL ι S a w→
  (∀k o,ops[k]? =some o→listed.getD k false=true→ ∀i∈kG o,listed.getD i false=true)→
  (Region.ready .any ops listed=[]→RW cx (eU ts σ) ι S a w)∧ ∀i∈Region.ready .any ops listed,∃o t,ops[i]? =some o∧ts[i]? =some t∧i<ops.size∧listed.getD i false=false∧bV t.1 σL∧
   (∀k o,ops[k]? =some o→(listed.setIfInBounds i true).getD k false=true→ ∀i'∈kG o,(listed.setIfInBounds i true).getD i' false=true)∧(∀j,(listed.setIfInBounds i true).getD j false=if j=i then true else listed.getD j false)∧
   ∀l,aR (hZ σL t.2) l=part ts (fun j=>(listed.setIfInBounds i true).getD j false) σ l ts.length:=by
 simp only[pV,aV1] at hok
 obtain⟨hedge,hpair⟩:=hok
 have hedge': ∀(j:Nat) o,ops[j]? =some o→ ∀i∈kG o,i<j:=fun j o ho i hi=>by
  have:=pW 0 ops.toList hedge j o (by simpa using ho) i hi;omega
 have hpl: ∀(j:Nat) o,ops[j]? =some o→(lZ ops.toList [])[j]? =some ((kG o).flatMap fun i=>i::(lZ ops.toList []).getD i []):=fun j o ho=>by
  have:=iy ops.toList [] j o (by simpa using ho) hedge
  simpa using this
 intro fuel listed σL ι S a w hsz hlook hw hcl
 have hclosed: ∀(k:Nat),∀o,ops[k]? =some o→(∀i∈kG o,listed.getD i false=true)→ ∀i∈(lZ ops.toList []).getD k [],listed.getD i false=true:=by
  intro k
  induction k using Nat.strongRecOn with
  |_ k ih=>
   intro o ho hp i hi
   rw[aV6,hpl k o ho] at hi
   simp only[Option.getD_some,List.mem_flatMap] at hi
   obtain⟨i',hi',hi⟩:=hi
   rcases List.mem_cons.1 hi with rfl|hi
   · exact hp i hi'
   · have hlt:=hedge' k o ho i' hi'
     have hsz':k<ops.size:=(Array.getElem?_eq_some_iff.1 ho).1
     have ho':ops[i']? =some ops[i']:=Array.getElem?_eq_getElem (by omega)
     exact ih i' hlt _ ho' (hcl i' _ ho' (hp i' hi')) i hi
 refine⟨fun hnil=> ?_,fun i hi=> ?_⟩
 · have hall: ∀k,k<ops.size→listed.getD k false=true:=by
    intro k
    induction k using Nat.strongRecOn with
    |_ k ih=>
     intro hk
     cases hL:listed.getD k false with
     |true=>rfl
     |false=>
      have ho:ops[k]? =some ops[k]:=Array.getElem?_eq_getElem hk
      have:k∈Region.ready .any ops listed:=mem_ready.2 ⟨oW.2 ⟨by omega,hL⟩,_,ho,fun e he hb=>by
       have hm:e.on∈kG ops[k]:=aWc.2 ⟨e,List.mem_filter.2 ⟨by simpa using he,hb⟩,rfl⟩
       have:=hedge' k _ ho _ hm
       exact ih e.on this (by omega)⟩
      rw[hnil] at this;cases this
   refine hw.congr fun l=> ?_
   rw[hlook l,be ts σ l _ ts.length (aWa _) (fun i hi=>hall i (by omega)),aWd]
 · obtain⟨hun,o,ho,hall⟩:=mem_ready.1 hi
   obtain⟨hisz,hLi⟩:=oW.1 hun
   have hit':i<ts.length:=by omega
   have hti:ts[i]? =some ts[i]:=aV8 hit'
   have hpreds: ∀i'∈kG o,listed.getD i' false=true:=by
    intro i' hi'
    obtain⟨e,he,rfl⟩:=aWc.1 hi'
    obtain⟨he1,he2⟩:=List.mem_filter.1 he
    exact hall e (by simpa using he1) he2
   have hset: ∀j,(listed.setIfInBounds i true).getD j false=if j=i then true else listed.getD j false:=by
    intro j
    rw[Array.getD_eq_getD_getElem?,Array.getD_eq_getD_getElem?]
    by_cases e:j=i
    · subst e;simp[hisz]
    · rw[if_neg e,Array.getElem?_setIfInBounds_ne (fun h=>e h.symm)]
   have later: ∀j u,i<j→listed.getD j false=true→ts[j]? =some u→pH (pN ts[i]) (pN u)=true:=by
    intro j u hij hLj hu
    have hjl:j<ts.length:=(aV9.1 hu).1
    have hoj:ops[j]? =some ops[j]:=Array.getElem?_eq_getElem (by omega)
    rcases pX hpair j i hjl hij (pN ts[i]) (pN u) _ (by simp[hti]) (by simp[hu]) (hpl j _ hoj) with h|h
    · have:=hclosed j _ hoj (hcl j _ hoj hLj) i (by rw[aV6,hpl j _ hoj];exact h)
      rw[hLi] at this;cases this
    · exact h
   have earlier: ∀j u,j<i→listed.getD j false=false→ts[j]? =some u→pH (pN u) (pN ts[i])=true:=by
    intro j u hij hLj hu
    rcases pX hpair i j hit' hij (pN u) (pN ts[i]) _ (by simp[hu]) (by simp[hti]) (hpl i _ ho) with h|h
    · have:=hclosed i _ ho hpreds j (by rw[aV6,hpl i _ ho];exact h)
      rw[hLj] at this;cases this
    · exact h
   have hreads:bV ts[i].1 σL:=by
    intro p hp
    rw[hlook p.1,gg hLi (fun j u hj hLj hu=>by
     have:=earlier j u hj hLj hu
     simp only[pH,aV1] at this
     exact aDv this.1.2 hp) (fun j u hj hLj hu=>by
     have:=later j u hj hLj hu
     simp only[pH,aV1] at this
     exact aDu this.2 hp),show min ts.length i=i by omega,be ts σ p.1 _ i (by omega) (fun _ _=>rfl)]
    exact bf ts σ hr i _ hti p hp
   refine⟨o,ts[i],ho,hti,by omega,hLi,hreads,fun k o' ho' hk i' hi'=> ?_,hset,fun l=> ?_⟩
   · rw[hset] at hk ⊢
     by_cases e:i'=i
     · rw[if_pos e]
     · rw[if_neg e]
       by_cases e2:k=i
       · subst e2;rw[ho] at ho';cases ho';exact hpreds i' hi'
       · rw[if_neg e2] at hk;exact hcl k o' ho' hk i' hi'
   · rw[lB,sy hti hLi hset (fun j u hj hLj hu hne=>by
      have:=later j u hj hLj hu
      simp only[pH,aV1] at this
      exact aDt this.1.1 hne) ts.length,if_pos hit',hlook l]
     all_goals(cases wr ts[i].2 l<;>rfl)
theorem aG0 {κ:Type} {ts:κ→List lY} {i0:Nat} {o0:Oper} {R0:List (dG×Option K)} {Ws:List (dG×K)→Prop} (hlen: ∀c,(ts c).length=ops.size) (ho0:ops[i0]? =some o0) (hg0:o0.guard=none) (h0:OpE P o0 R0 Ws) (hR0: ∀c t,(ts c)[i0]? =some t→t.1=R0) (hW0: ∀W,Ws W→ ∃c,(ts c)[i0]? =some (R0,W))
 (hit: ∀c (i:Nat) o t,i≠i0→ops[i]? =some o→(ts c)[i]? =some t→ItT P ops o t) (hind: ∀c c' (j:Nat),j≠i0→i0∉ (lZ ops.toList []).getD j []→(ts c)[j]? =(ts c')[j]?) (hr: ∀c,jW (ts c) σ) (hok: ∀c,pV ops.toList (ts c)=true) (hf: ∀o∈ops.toList,∀d,o.dst=some d→d<cx.N)
 (hq: ∀c ι' S' a' w',RW cx (eU (ts c) σ) ι' S' a' w'→Q .normal a' w'):
 ∀(fuel:Nat) (c:κ) (listed:Array Bool) (σL:St) (ι:Nat→Value) (S:Nat→Prop) (a:Act) (w:World),listed.size=ops.size→(∀l,aR σL l=part (ts c) (fun i=>listed.getD i false) σ l (ts c).length)→RW cx σL ι S a w→
  (∀k o,ops[k]? =some o→listed.getD k false=true→ ∀i∈kG o,listed.getD i false=true)→((aWb ops.size).filter fun i=> !listed.getD i false).length≤fuel→wpAny P .any ops Q fuel listed a w:=by
 have hedge: ∀c,rY 0 ops.toList=true:=fun c=>by have:=hok c;simp only[pV,aV1] at this;exact this.1
 intro fuel
 induction fuel with
 |zero=>
  intro c listed σL ι S a w hsz hlook hw hcl hcount
  obtain⟨h1,h2⟩:=uc (hlen c) (hr c) (hok c) 0 listed σL ι S a w hsz hlook hw hcl
  have hnil:Region.ready .any ops listed=[]:=by
   apply List.eq_nil_iff_forall_not_mem.2
   intro i hi
   obtain⟨o,t,ho,ht,hlt,hLi,_⟩:=h2 i hi
   have:i∈(aWb ops.size).filter fun i=> !listed.getD i false:=List.mem_filter.2 ⟨List.mem_range.2 hlt,by rw[hLi];rfl⟩
   rw[List.eq_nil_of_length_eq_zero (by omega: ((aWb ops.size).filter fun i=> !listed.getD i false).length=0)] at this
   cases this
  exact⟨hnil,hq c _ _ _ _ (h1 hnil)⟩
 |succ fuel ih=>
  intro c listed σL ι S a w hsz hlook hw hcl hcount
  obtain⟨h1,h2⟩:=uc (hlen c) (hr c) (hok c) 0 listed σL ι S a w hsz hlook hw hcl
  refine⟨fun hn=>hq c _ _ _ _ (h1 hn),fun i hi=> ?_⟩
  obtain⟨o,t,ho,ht,hlt,hLi,hreads,hcl',hset,hlook'⟩:=h2 i hi
  unfold wpOp
  rw[ho]
  have hfo:=hf o (by have:=Array.mem_of_getElem? ho;simpa using this)
  have hdrop:=pg (N:=ops.size) (L:=fun j=>listed.getD j false) (L':=fun j=>(listed.setIfInBounds i true).getD j false) hlt hLi hset
  by_cases hi0:i=i0
  · subst hi0
    rw[ho0] at ho;cases ho
    have hRt:=hR0 c t ht
    dsimp only
    rw[if_pos (by simp[Region.wanted,hg0])]
    refine .inl (h0 cx σL ι S a w (by rw[← hRt];exact hreads) hw hfo _ Q fun W hW ι' S' a' w' hw'=> ?_)
    obtain⟨c',hc'⟩:=hW0 W hW
    have hsame: ∀l,aR σL l=part (ts c') (fun i=>listed.getD i false) σ l (ts c').length:=fun l=>by
     rw[hlook l,hlen c,hlen c']
     have hclosed:=aB9 (hedge c) hcl
     have: ∀n,n≤ops.size→part (ts c) (fun i=>listed.getD i false) σ l n=part (ts c') (fun i=>listed.getD i false) σ l n:=by
      intro n
      induction n with
      |zero=>intro _;rfl
      |succ n ihn=>
       intro hn
       rw[mP,mP,ihn (by omega)]
       by_cases hLn:listed.getD n false=true
       · have hon:ops[n]? =some ops[n]:=Array.getElem?_eq_getElem (by omega)
         have hne:n≠i:=fun e=>by rw[e,hLi] at hLn;cases hLn
         have hni:i∉ (lZ ops.toList []).getD n []:=fun hm=>by
          have:=hclosed n _ hon (hcl n _ hon hLn) i hm
          rw[hLi] at this;cases this
         rw[hind c c' n hne hni]
       · rw[if_neg hLn,if_neg hLn]
     exact this _ (aWa _)
    obtain⟨_,h2'⟩:=uc (hlen c') (hr c') (hok c') 0 listed σL ι S a w hsz hsame hw hcl
    obtain⟨o2,t2,ho2,ht2,_,_,_,_,_,hlook2⟩:=h2' i hi
    rw[hc'] at ht2;cases ht2
    exact ih c' (listed.setIfInBounds i true) (hZ σL W) ι' S' a' w' (by simpa using hsz) hlook2 hw' hcl' (by omega)
  · refine hit c i o t hi0 ho ht cx σL ι S a w hreads hw hfo _ Q fun ι' S' a' w' hw'=> ?_
    exact ih c (listed.setIfInBounds i true) (hZ σL t.2) ι' S' a' w' (by simpa using hsz) hlook' hw' hcl' (by omega)
end
def aTq:Option lY→lY→Prop
 |none,_=>True
 |some t,t'=>t'=t
def aMu (P:Program) (T:gO) (fx:Nat→Option lY):List Oper→Nat→St→List el→(St→List el→Prop)→Prop
 | [],_,σ,acc,k=>k σ acc
 |o::os,i,σ,acc,k=>match o.guard with
  |none=>aIp P T o σ fun R W=>aTq (fx i) (R,W)∧nF σ W fun σ'=>aMu P T fx os (i+1) σ' (acc++[pN (R,W)]) k
  |some _=>False
theorem ud {P:Program} {T:gO} (hT:dM P T) {ops:Array Oper} {fx:Nat→Option lY} {k:St→List el→Prop}: ∀(l:List Oper) (i:Nat) (σ:St) (acc:List el),aMu P T fx l i σ acc k→
 ∃ts:List lY,ae P ops l ts∧jW ts σ∧(∀j t,ts[j]? =some t→aTq (fx (i+j)) t)∧k (eU ts σ) (acc++ts.map pN)
 | [],i,σ,acc,h=>⟨[],trivial,trivial,by simp,by simpa[aMu,eU] using h⟩
 |o::os,i,σ,acc,h=>by
  simp only[aMu] at h
  split at h
  · rename_i hg
    obtain⟨R,W,h1,h2,h3,h4⟩:=py hT h
    rw[kL] at h4
    obtain⟨ts,q1,q2,q3,q4⟩:=ud hT os _ _ _ h4
    refine⟨(R,W)::ts,⟨bd hg h1,q1⟩,⟨h2,q2⟩,fun j t hj=> ?_,by simpa[eU] using q4⟩
    cases j with
    |zero=>simp at hj;subst hj;exact h3
    |succ j=>rw[show i+(j+1)=i+1+j by omega];exact q3 j t (by simpa using hj)
  · exact h.elim
def aTr (i0:Nat) (fx:Nat→Option lY) (ops:Array Oper):Bool:=(aWb ops.size).all fun j=>decide (j≤i0)||(fx j).isSome||iM i0 ((lZ ops.toList []).getD j [])
theorem br {P:Program} {ops:Array Oper}: ∀(l:List Oper) (ts:List lY),ae P ops l ts→ts.length=l.length∧ ∀(i:Nat) o t,l[i]? =some o→ts[i]? =some t→ItT P ops o t:=by
 intro l
 induction l with
 |nil=>intro ts h;cases ts with
  |nil=>exact⟨rfl,by simp⟩
  |cons t ts=>exact h.elim
 |cons o os ih=>intro ts h;cases ts with
  |nil=>exact h.elim
  |cons t ts=>
   obtain⟨q1,q2⟩:=ih ts h.2
   refine⟨by simp[q1],fun i o' t' ho ht=> ?_⟩
   cases i with
   |zero=>simp at ho ht;subst ho;subst ht;exact h.1
   |succ i=>exact q2 i o' t' (by simpa using ho) (by simpa using ht)
theorem ak: ∀(ts us:List lY) (σ:St),jW ts σ→jW us (eU ts σ)→jW (ts++us) σ
 | [],us,σ,_,h=>h
 |t::ts,us,σ,h1,h2=>⟨h1.1,ak ts us _ h1.2 h2⟩
theorem SW.regDE {P:Program} {T:gO} {io:List Nat} {Q:Ex→St→Prop} {σ:St} (hT:dM P T) (hm:P.follows .mixedOrders=true) (ks:List Nat) (i0:Nat) (fx:Nat→Option lY) {id:Nat} {ops:Array Oper} {o0:Oper} (ho:ops.toList[i0]? =some o0) (hg:o0.guard=none) (hfx:aTr i0 fx ops=true)
 (h:goC P T ops.toList true (ops.toList.take i0) σ [] fun σ1 acc=> ∃R0 Ws,OpE P o0 R0 Ws∧bV R0 σ1∧(∃W,Ws W)∧ ∀W,Ws W→nF σ1 W fun σ2=>aMu P T fx (ops.toList.drop (i0+1)) (i0+1) σ2 (acc++[pN (R0,W)]) fun σ' ns=>bm ops.toList ns=true∧rC ks σ' (Q .norm)):
 SW P io (.region id ops true) Q σ:=by
 intro cx ι S a w hio hw hf
 have hfit: ∀o∈ops.toList,∀d,o.dst=some d→d<cx.N:=fun o ho=>yE (by simpa[sZ] using hf) ho
 obtain⟨tA,h1,h2,acc,h3,R0,Ws,h4,h5,⟨W0,hW0⟩,h6⟩:=xJ hT (ops.toList.take i0) σ [] h
 have h3:=h3 rfl
 rw[List.nil_append] at h3
 subst h3
 have hi0:i0<ops.toList.length:=(aV9.1 ho).1
 have hsz:ops.toList.length=ops.size:=Array.length_toList
 have hAl:tA.length=i0:=by rw[(br _ _ h1).1,aV4];omega
 have h7: ∀W: {W // Ws W},∃tB:List lY,ae P ops (ops.toList.drop (i0+1)) tB∧jW tB (hZ (eU tA σ) W.1)∧(∀j t,tB[j]? =some t→aTq (fx (i0+1+j)) t)∧bm ops.toList ((tA.map pN++[pN (R0,W.1)])++tB.map pN)=true∧Q .norm (Ab.keep ks (eU tB (hZ (eU tA σ) W.1))):=fun⟨W,hW⟩=>by
  have h8:=h6 W hW
  rw[kL] at h8
  obtain⟨tB,q1,q2,q3,q4,q5⟩:=ud (ops:=ops) hT _ _ _ _ h8
  rw[mQ] at q5
  exact⟨tB,q1,q2,q3,q4,q5⟩
 let tB:=fun W: {W // Ws W}=>Classical.choose (h7 W)
 have hB:=fun W: {W // Ws W}=>Classical.choose_spec (h7 W)
 let ts:=fun W: {W // Ws W}=>tA++(R0,W.1)::tB W
 have hBl: ∀W,(tB W).length=ops.size - (i0+1):=fun W=>by have:=(br _ _ (hB W).1).1;rw[aV7,hsz] at this;exact this
 have hrun: ∀W,eU (ts W) σ=eU (tB W) (hZ (eU tA σ) W.1):=fun W=>by
  show eU (tA++(R0,W.1)::tB W) σ=_
  rw[wQ];rfl
 have hget: ∀W j,(ts W)[j]? =if j<i0 then tA[j]? else if j=i0 then some (R0,W.1) else(tB W)[j - (i0+1)]?:=fun W j=>by
  show(tA++(R0,W.1)::tB W)[j]? =_
  by_cases c1:j<i0
  · rw[if_pos c1,List.getElem?_append_left (by omega)]
  · rw[if_neg c1,List.getElem?_append_right (by omega),hAl]
    by_cases c2:j=i0
    · rw[if_pos c2,c2,Nat.sub_self];rfl
    · rw[if_neg c2,show j - i0=(j - (i0+1))+1 by omega,List.getElem?_cons_succ]
 have hlen: ∀W,(ts W).length=ops.size:=fun W=>by
  show(tA++(R0,W.1)::tB W).length=_
  rw[aVz,aV3,hBl,hAl];omega
 have ho':ops[i0]? =some o0:=by simpa using ho
 refine wp_region_any hm (aG0 (κ:={W // Ws W}) (cx:=cx) (σ:=σ) (ts:=ts) (i0:=i0) hlen ho' hg h4 (fun W t ht=>by rw[hget,if_neg (by omega),if_pos rfl] at ht;cases ht;rfl) (fun W hW=>⟨⟨W,hW⟩,by rw[hget,if_neg (by omega),if_pos rfl]⟩)
  (fun W i o t hne ho2 ht=> ?_) (fun W W' j hne hni=> ?_) (fun W=>ak _ _ _ h2 ⟨h5,(hB W).2.1⟩) (fun W=> ?_) hfit (fun W ι' S' a' w' hw'=>⟨_,ι',S',(hB W).2.2.2.2,by rw[hrun] at hw';exact hw'.keep ks⟩)
  ops.size ⟨W0,hW0⟩ (Array.replicate ops.size false) σ ι S a _ (by simp) (fun l=> ?_) hw.drew (fun k o ho hk=> ?_) ?_)
 · rw[hget] at ht
   by_cases c1:i<i0
   · rw[if_pos c1] at ht
     exact(br _ _ h1).2 i o t (by rw[List.getElem?_take,if_pos c1];simpa using ho2) ht
   · rw[if_neg c1,if_neg hne] at ht
     exact(br _ _ (hB W).1).2 (i - (i0+1)) o t (by rw[List.getElem?_drop,show i0+1+(i - (i0+1))=i by omega];simpa using ho2) ht
 · rw[hget,hget]
   by_cases c1:j<i0
   · rw[if_pos c1,if_pos c1]
   · rw[if_neg c1,if_neg c1,if_neg hne,if_neg hne]
     by_cases c3:j<ops.size
     · have hd:=aWf.1 hfx j (List.mem_range.2 c3)
       simp only[Bool.or_eq_true,decide_eq_true_eq] at hd
       rcases hd with(hd|hd)|hd
       · omega
       · obtain⟨t,ht⟩:=Option.isSome_iff_exists.1 hd
         have e: ∀W,(tB W)[j - (i0+1)]? =some t:=fun W=>by
          have hl:j - (i0+1)< (tB W).length:=by rw[hBl];omega
          have:=(hB W).2.2.1 (j - (i0+1)) _ (aV8 hl)
          rw[show i0+1+(j - (i0+1))=j by omega,ht] at this
          rw[aV8 hl]
          exact congrArg some this
         rw[e W,e W']
       · exact absurd (gP.1 hd) hni
     · rw[List.getElem?_eq_none (by rw[hBl];omega),List.getElem?_eq_none (by rw[hBl];omega)]
 · have:=bo (hB W).2.2.2.1
   have e: (tA.map pN++[pN (R0,W.1)])++(tB W).map pN=(ts W).map pN:=by
    show _=(tA++(R0,W.1)::tB W).map pN
    simp
   have this:wR ops.toList ((tA.map pN++[pN (R0,W.1)])++(tB W).map pN)=true:=this
   rw[e] at this
   simpa[pV,wR] using this
 · have hL: ∀i,(Array.replicate ops.size false).getD i false=false:=fun i=>by
    rw[Array.getD_eq_getD_getElem?,Array.getElem?_replicate];split<;>rfl
   have: ∀n,part (ts ⟨W0,hW0⟩) (fun i=>(Array.replicate ops.size false).getD i false) σ l n=aR σ l:=by
    intro n
    induction n with
    |zero=>rfl
    |succ n ih=>rw[mP,if_neg (by rw[hL];simp),ih]
   rw[this]
 · rw[Array.getD_eq_getD_getElem?,Array.getElem?_replicate] at hk;split at hk<;>cases hk
 · exact Nat.le_trans (List.length_filter_le _ _) (by simp)
section
variable {P:Program} {T:gO} {io:List Nat} {f:FuncId} {n:Nat} {σin:St} {o:Oper} {c:Call} {d:Nat} {σ σ1:St} {Xs:List V} {Ra:List (dG×Option K)}
theorem dl {Qo:St→Prop} {rl:List (Nat×Nat)} {bor news:List Nat} {robj:List (Nat×K)} {k:List (dG×Option K)→List (dG×K)→Prop} (hs:SpecE P f n σin Qo) (ho:o.op= .call c) (hc:c.callee= .value (.func f)) (hx:evA σ c.args.toList=some (Xs,Ra)) (hn:Xs.length=n)
 (hm:oN (eL 0 Xs++rB robj) σin rl bor) (hq: ∀σout,Qo σout→kA rl σin σout=true∧(bor=[]∨mA σout)∧ ∀j∈kI σin σout,j∈news) (h1: ∀p∈robj,aR σ (.o p.1)=some p.2) (h2: ∀j∈news,aR σ (.o (jT rl j))=none) (hne: ∃σout,Qo σout)
 (h: ∀σout,Qo σout→k (aMo Ra robj rl news) (tN rl σin σout o.dst)): ∃R Ws,OpE P o R Ws∧bV R σ∧(∃W,Ws W)∧ ∀W,Ws W→k R W:=by
 refine⟨_,_,aAm hs ho hc hx hn hm hq,fun p hp=> ?_,?_,fun W ⟨σout,hQ,e⟩=>e▸h σout hQ⟩
 · rcases List.mem_append.1 hp with hp|hp
   · rcases List.mem_append.1 hp with hp|hp
     · exact uR hx p hp
     · obtain⟨q,hq,rfl⟩:=aWc.1 hp
       exact h1 q hq
   · obtain⟨j,hj,rfl⟩:=aWc.1 hp
     exact h2 j hj
 · obtain⟨σout,hQ⟩:=hne
   exact⟨_,σout,hQ,rfl⟩
end
section
variable {P:Program} {T:gO} {o:Oper} {σ:St} {t e:TypeId} {s1 s2 d j es:Nat} {s3:List C} {k:List (dG×Option K)→List (dG×K)→Prop} {Pr:List D→Prop} {ti:TI}
theorem aPz (hT:dM P T) (ho:o.op= .buildSlice t 0 #[]) (hd:o.dst=some d) (ht:T t=some ⟨.sl e,s1,s2,s3⟩) (hte:T e=some ti) (hes:ti.size=es) (hl:aR σ (.o j)=some (aI e es Pr))
 (h:k [(.o j,some (aI e es Pr))] [(.o j,aI e es Pr),(.t d,.v (.e (.c (ps j es 0))))]): ∃R W,vT P o R W∧bV R σ∧k R W:=by
 have hu:=(hT t _ ht).kind
 simp only[lK] at hu
 have hok:=hT e ti hte
 refine⟨_,_,ub hd fun cx σ' ι S a w hr hw=> ?_,bV.one hl,h⟩
 have hl':=hr (.o j,some (aI e es Pr)) (by simp)
 dsimp only at hl'
 obtain⟨p',ht',hsub,hnew⟩:=aAp (w0:=w) (cells:= #[]) (tot:=0) hw hl' ⟨rfl,rfl,rfl,rfl⟩ (by simp) (fun _ i hi=>by omega)
 refine⟨.slice (some ⟨w.heap.size,0,none⟩) 0 0,p',w.alloc (.cells #[] e),?_,ht',show CR (pU σ' (.o j) (aI e es Pr)) (fun o=>if o=j then p' else ι o) (w.alloc (.cells #[] e)) S (ps j es 0) _ from aIq (cV σ' (.o j) (aI e es Pr)) ?_⟩
 · have hrun: (Instr.buildSlice t 0 #[]).run P w= .ok (.slice (some ⟨w.heap.size,0,none⟩) 0 0) (w.alloc (.cells #[] e)):=by
    simp only[Instr.buildSlice,Sem.run_bind,run_underlying hu,Result.andThen_ok,eV hok]
    rw[if_neg (by omega)]
    simp[Instr.fill,newRow,Array.range_zero']
   simp[execOp,ho]
   rw[hrun];rfl
 · show slQ es 0 (if j=j then p' else ι j) _
   rw[if_pos rfl]
   exact .inr ⟨w.heap.size,0,0,0,by rw[Nat.zero_mul],aWa _,by simp only[maxLen];omega,aWa _,hnew⟩
end
theorem RW.newPool {P:Program} {cx:Cx P} {σ:St} {ι:Nat→Value} {S:Nat→Prop} {a:Act} {w:World} (h:RW cx σ ι S a w) {j:Nat} (e:TypeId) (es:Nat) (Pr:List D→Prop) (hj:aR σ (.o j)=none):
 RW cx (pU σ (.o j) (aI e es Pr)) (fun o=>if o=j then .tuple #[] else ι o) S a w:=
 h.turnZ ⟨rfl,rfl,rfl,aWa _,fun _ _ _=>rfl,.inl hj,fun b hb=>by obtain⟨v,hv,_⟩:=hb;simp at hv,⟨_,rfl⟩,fun v hv=>by obtain⟨vs,h1,h2⟩:=hv;cases h1;simp at h2⟩
theorem SW.newPool {P:Program} {io:List Nat} {Q:Ex→St→Prop} {σ:St} {c:Code} (j:Nat) (e:TypeId) (es:Nat) (Pr:List D→Prop) (hj:aR σ (.o j)=none) (h:rh σ (.o j) (aI e es Pr) (SW P io c Q)):SW P io c Q σ:=by
 rw[oP] at h
 intro cx ι S a w hio hw hf
 exact h cx _ S a w hio (hw.newPool e es Pr hj) hf
section
variable {τ σ':St} {rl:List (Nat×Nat)} {bor:List Nat} {r:List (dG×K)}
theorem aMv {s o es n j m:Nat} {Z:fy} (h:aR τ (.t s)=some (.v (.e (.c (ps o es n))))) (ho:o=jT rl j) (e:n=m) (hj:aR σ' (.o j)=some (.zone Z)) (hr:mL τ σ' rl bor r):mL τ σ' rl bor ((.t s,.v (.e (.c (ps j es m))))::r):=
 ⟨⟨_,h,ho,fun p v hv=>by rw[← e];exact hv,Z,hj⟩,hr⟩
theorem aV {j:Nat} {Z Z':fy} (h:aR τ (.o (jT rl j))=some (.zone Z)) (e:Z=Z') (hr:mL τ σ' rl bor r):mL τ σ' rl bor ((.o j,.zone Z')::r):=⟨⟨_,h,by rw[← e];exact⟨rfl,fun _ _ _ h=>h⟩⟩,hr⟩
theorem bF {o es n j m:Nat} {Z:fy} {cs ds:List C} (ho:o=jT rl j) (e:n=m) (hj:aR σ' (.o j)=some (.zone Z)) (h:tc τ σ' rl bor cs ds):tc τ σ' rl bor (ps o es n::cs) (ps j es m::ds):=⟨⟨ho,fun p v hv=>by rw[← e];exact hv,Z,hj⟩,h⟩
end
def goX (P:Program):List Oper→St→List el→(St→List el→Prop)→Prop
 | [],σ,acc,k=>k σ acc
 |o::os,σ,acc,k=>match o.guard with
  |none=> ∃R W,vT P o R W∧bV R σ∧nF σ W fun σ'=>goX P os σ' (acc++[pN (R,W)]) k
  |some _=>False
theorem sx {P:Program} {T:gO} (hT:dM P T) {o:Oper} {σ:St} {p:Prop} {R:List (dG×Option K)} {W:List (dG×K)} {k:List (dG×Option K)→List (dG×K)→Prop} (h:na T o σ=some (p,R,W)) (hp:p) (hk:k R W): ∃R W,vT P o R W∧bV R σ∧k R W:=by
 obtain⟨h1,h2⟩:=vZ hT o σ p R W h hp
 exact⟨R,W,h1,h2,hk⟩
theorem aAq {P:Program} {ops:Array Oper} {k:St→List el→Prop}: ∀(l:List Oper) (σ:St) (acc:List el),goX P l σ acc k→ ∃ts:List lY,ae P ops l ts∧jW ts σ∧k (eU ts σ) (acc++ts.map pN)
 | [],σ,acc,h=>⟨[],trivial,trivial,by simpa[goX,eU] using h⟩
 |o::os,σ,acc,h=>by
  simp only[goX] at h
  split at h
  · rename_i hg
    obtain⟨R,W,h1,h2,h3⟩:=h
    rw[kL] at h3
    obtain⟨ts,q1,q2,q4⟩:=aAq os _ _ h3
    exact⟨(R,W)::ts,⟨bd hg h1,q1⟩,⟨h2,q2⟩,by simpa[eU] using q4⟩
  · exact h.elim
theorem SW.regX {P:Program} {io:List Nat} {Q:Ex→St→Prop} {σ:St} (hm:P.follows .mixedOrders=true) (ks:List Nat) {id:Nat} {ops:Array Oper} (h:goX P ops.toList σ [] fun σ' ns=>bm ops.toList ns=true∧rC ks σ' (Q .norm)):SW P io (.region id ops true) Q σ:=by
 intro cx ι S a w hio hw hf
 have hfit: ∀o∈ops.toList,∀d,o.dst=some d→d<cx.N:=fun o ho=>yE (by simpa[sZ] using hf) ho
 obtain⟨ts,h1,h2,h4,h5⟩:=aAq (ops:=ops) ops.toList σ [] h
 rw[List.nil_append] at h4
 rw[mQ] at h5
 obtain⟨q1,q2⟩:=br _ _ h1
 refine wp_region_any hm (dj (cx:=cx) (σ:=σ) (ts:=ts) (by simpa using q1) (fun i o t ho ht=>q2 i o t (by simpa using ho) ht) h2 (by have:=bo h4;simpa[pV,wR] using this) hfit (fun ι' S' a' w' hw'=>⟨_,ι',S',h5,hw'.keep ks⟩)
  ops.size (Array.replicate ops.size false) σ ι S a _ (by simp) (fun l=> ?_) hw.drew (fun k o ho hk=> ?_) ?_)
 · have hL: ∀i,(Array.replicate ops.size false).getD i false=false:=fun i=>by
    rw[Array.getD_eq_getD_getElem?,Array.getElem?_replicate];split<;>rfl
   have: ∀n,part ts (fun i=>(Array.replicate ops.size false).getD i false) σ l n=aR σ l:=by
    intro n
    induction n with
    |zero=>rfl
    |succ n ih=>rw[mP,if_neg (by rw[hL];simp),ih]
   rw[this]
 · rw[Array.getD_eq_getD_getElem?,Array.getElem?_replicate] at hk;split at hk<;>cases hk
 · exact Nat.le_trans (List.length_filter_le _ _) (by simp)
def aMw:Option K→Bool
 |some (.row ..)=>true
 |_=>false
def aMx:Option K→Bool
 |some (.box ..)=>true
 |_=>false
def aCa:Option K→Bool
 |some (.zone ..)=>true
 |_=>false
def qC (τ σ':St) (rl:List (Nat×Nat)) (bor:List Nat):C→C→Prop→Prop
 | .d x,.d y,p=>x=y∧p
 | .nil,.nil,p=>p
 | .nil,.d y,p=>y= .sl []∧p
 | .own o n,.d y,p=>match iM o bor,aR τ (.o o) with
  |true,some (.row e es rows)=>rows.length=n∧y= .sl rows∧p
  |_,_=>False
 | .own o n,.own j m,p=>match Nat.beq o (jT rl j)&&aMw (aR σ' (.o j)) with
  |true=>n=m∧p
  |false=>False
 | .pt o k,.pt j m,p=>match Nat.beq o (jT rl j)&&(Nat.beq k m&&aMx (aR σ' (.o j))) with
  |true=>p
  |false=>False
 | .rp cs,.rp cs',p=>cs=cs'∧p
 | .nil,.z j Q',p=>match aCa (aR σ' (.o j)) with
  |true=>(∀p,Q' p (.slice none 0 0))∧p
  |false=>False
 | .z o Q,.z j Q',p=>match Nat.beq o (jT rl j)&&aCa (aR σ' (.o j)) with
  |true=>Q=Q'∧p
  |false=>False
 |_,_,_=>False
def qCs (τ σ':St) (rl:List (Nat×Nat)) (bor:List Nat):List C→List C→Prop→Prop
 | [],[],p=>p
 |c::cs,d::ds,p=>qC τ σ' rl bor c d (qCs τ σ' rl bor cs ds p)
 |_,_,_=>False
def qE (τ σ':St) (rl:List (Nat×Nat)) (bor:List Nat):E→E→Prop→Prop
 | .c x,.c y,p=>qC τ σ' rl bor x y p
 | .agg cs,.agg ds,p=>qCs τ σ' rl bor cs ds p
 |_,_,_=>False
def qEs (τ σ':St) (rl:List (Nat×Nat)) (bor:List Nat):List E→List E→Prop→Prop
 | [],[],p=>p
 |c::cs,d::ds,p=>qE τ σ' rl bor c d (qEs τ σ' rl bor cs ds p)
 |_,_,_=>False
def qV (τ σ':St) (rl:List (Nat×Nat)) (bor:List Nat):V→V→Prop→Prop
 | .e x,.e y,p=>qE τ σ' rl bor x y p
 | .tup xs,.tup ys,p=>qEs τ σ' rl bor xs ys p
 |_,_,_=>False
def qK (τ σ':St) (rl:List (Nat×Nat)) (bor:List Nat):K→K→Prop→Prop
 | .box ty cs,.box ty' ds,p=>match Nat.beq ty ty' with
  |true=>qCs τ σ' rl bor cs ds p
  |false=>False
 | .row e es rows,.row e' es' rows',p=>match Nat.beq e e'&&Nat.beq es es' with
  |true=>rows=rows'∧p
  |false=>False
 | .zone Z,.zone Z',p=>Z=Z'∧p
 |_,_,_=>False
def qL (τ σ':St) (rl:List (Nat×Nat)) (bor:List Nat):List (dG×K)→Prop
 | []=>True
 |(.t s,.v X')::r=>match aR τ (.t s) with
  |some (.v X)=>qV τ σ' rl bor X X' (qL τ σ' rl bor r)
  |_=>False
 |(.o j,k')::r=>match aR τ (.o (jT rl j)) with
  |some k=>qK τ σ' rl bor k k' (qL τ σ' rl bor r)
  |_=>False
 |_::_=>False
section
variable {τ σ':St} {rl:List (Nat×Nat)} {bor:List Nat} {p:Prop}
theorem aEe {k:Option K} (h:aMw k=true): ∃e es rows,k=some (.row e es rows):=by
 cases k with
 |none=>cases h
 |some k=>cases k<;>first|exact⟨_,_,_,rfl⟩|cases h
theorem aEf {k:Option K} (h:aMx k=true): ∃e es,k=some (.box e es):=by
 cases k with
 |none=>cases h
 |some k=>cases k<;>first|exact⟨_,_,rfl⟩|cases h
theorem jj {k:Option K} (h:aCa k=true): ∃e,k=some (.zone e):=by
 cases k with
 |none=>cases h
 |some k=>cases k<;>first|exact⟨_,rfl⟩|cases h
theorem aEg: ∀{c d:C},qC τ σ' rl bor c d p→mC τ σ' rl bor c d∧p:=by
 intro c d h
 cases c<;>cases d<;>simp only[qC] at h<;>try exact h.elim
 · exact h
 · exact h
 · exact⟨trivial,h⟩
 · split at h
   · rename_i hz
     exact⟨⟨h.1,jj hz⟩,h.2⟩
   · exact h.elim
 · split at h
   · rename_i hb hl
     exact⟨⟨gP.1 hb,_,_,_,hl,h.1,.inl h.2.1⟩,h.2.2⟩
   · exact h.elim
 · split at h
   · rename_i hb
     simp only[aV1] at hb
     exact⟨⟨Nat.eq_of_beq_eq_true hb.1,h.1,aEe hb.2⟩,h.2⟩
   · exact h.elim
 · split at h
   · rename_i hb
     simp only[aV1] at hb
     exact⟨⟨Nat.eq_of_beq_eq_true hb.1,Nat.eq_of_beq_eq_true hb.2.1,aEf hb.2.2⟩,h⟩
   · exact h.elim
 · exact h
 · split at h
   · rename_i hb
     simp only[aV1] at hb
     exact⟨⟨Nat.eq_of_beq_eq_true hb.1,fun p v hv=>by rw[← h.1];exact hv,jj hb.2⟩,h.2⟩
   · exact h.elim
theorem nf: ∀{cs ds:List C},qCs τ σ' rl bor cs ds p→tc τ σ' rl bor cs ds∧p
 | [],[],h=>⟨trivial,h⟩
 |c::cs,d::ds,h=>by
  obtain⟨h1,h2⟩:=aEg h
  obtain⟨h3,h4⟩:=nf h2
  exact⟨⟨h1,h3⟩,h4⟩
 | [],_::_,h=>h.elim
 |_::_,[],h=>h.elim
theorem aEh {x y:E} (h:qE τ σ' rl bor x y p):mE τ σ' rl bor x y∧p:=by
 cases x<;>cases y<;>simp only[qE] at h<;>first|exact h.elim|exact aEg h|exact nf h
theorem aAr: ∀{cs ds:List E},qEs τ σ' rl bor cs ds p→mEs τ σ' rl bor cs ds∧p
 | [],[],h=>⟨trivial,h⟩
 |c::cs,d::ds,h=>by
  obtain⟨h1,h2⟩:=aEh h
  obtain⟨h3,h4⟩:=aAr h2
  exact⟨⟨h1,h3⟩,h4⟩
 | [],_::_,h=>h.elim
 |_::_,[],h=>h.elim
theorem aMy {x y:V} (h:qV τ σ' rl bor x y p):mV τ σ' rl bor x y∧p:=by
 cases x<;>cases y<;>simp only[qV] at h<;>first|exact h.elim|exact aEh h|exact aAr h
theorem aMz {x y:K} (h:qK τ σ' rl bor x y p):mK τ σ' rl bor x y∧p:=by
 cases x<;>cases y<;>simp only[qK] at h<;>try exact h.elim
 · split at h
   · rename_i hb
     obtain⟨h1,h2⟩:=nf h
     exact⟨⟨Nat.eq_of_beq_eq_true hb,h1⟩,h2⟩
   · exact h.elim
 · split at h
   · rename_i hb
     simp only[aV1] at hb
     exact⟨⟨Nat.eq_of_beq_eq_true hb.1,Nat.eq_of_beq_eq_true hb.2,h.1⟩,h.2⟩
   · exact h.elim
 · obtain⟨rfl,h2⟩:=h
   exact⟨⟨rfl,fun _ _ _ h=>h⟩,h2⟩
theorem qs: ∀{L:List (dG×K)},qL τ σ' rl bor L→mL τ σ' rl bor L
 | [],_=>trivial
 |(.t s,.v X')::r,h=>by
  simp only[qL] at h
  split at h
  · rename_i X hl
    obtain⟨h1,h2⟩:=aMy h
    exact⟨⟨X,hl,h1⟩,qs h2⟩
  · exact h.elim
 |(.o j,k')::r,h=>by
  have h: (match aR τ (.o (jT rl j)) with
   |some k=>qK τ σ' rl bor k k' (qL τ σ' rl bor r)
   |_=>False):=by cases k'<;>exact h
  split at h
  · rename_i k hl
    obtain⟨h1,h2⟩:=aMz h
    have h3: (∃k,aR τ (.o (jT rl j))=some k∧mK τ σ' rl bor k k')∧mL τ σ' rl bor r:=⟨⟨k,hl,h1⟩,qs h2⟩
    cases k'<;>exact h3
  · exact h.elim
 |(.t s,.box ..)::r,h=>h.elim
 |(.t s,.row ..)::r,h=>h.elim
 |(.t s,.dead)::r,h=>h.elim
 |(.t s,.cv ..)::r,h=>h.elim
 |(.t s,.zone ..)::r,h=>h.elim
end
theorem aVk {es:Nat}: ∀p,slQ es 0 p (.slice none 0 0):=fun p=> .inl ⟨rfl,rfl⟩
def fG (n lo hi:Int):Bool:=decide (lo≤n)&&decide (n≤hi)
def eA (n:Int):Bool:=fG n 0 3
def fR (at_ to:Int):Int:=if !eA at_|| !eA to||at_==to then -1 else if at_<to then at_+1 else at_ - 1
theorem aB {n:Int} (h: -9223372036854775808≤n∧n<9223372036854775808):wrap64 n=n:=by
 unfold wrap64;omega
structure cI where
 kind:Int
 src:Int
 dst:Int
 frm:Int
 num:Int
 to:Int
 til:Int
 size:Int
 mix:Int
 data:List UInt8
def cI.row (f:cI):List D:=[.i f.kind,.i f.src,.i f.dst,.i f.frm,.i f.num,.i f.to,.i f.til,.i f.size,.i f.mix,.s f.data]
abbrev cI.V (f:cI):V:= .e (.agg [.d (.i f.kind),.d (.i f.src),.d (.i f.dst),.d (.i f.frm),.d (.i f.num),.d (.i f.to),.d (.i f.til),.d (.i f.size),.d (.i f.mix),.d (.s f.data)])
def dJ (f:cI):Bool:=
 eA f.src&&eA f.dst&&eA f.frm&&eA f.to&&fG f.num 1 99&&fG f.til 1 999&&
 (if f.kind=1 then fG f.size 1 24&&fG f.mix 0 999&&decide (f.data.length=4)&&decide (f.dst=fR f.src f.to)
  else if f.kind=2∨f.kind=3 then decide (f.size=0)&&decide (f.mix=0)&&decide (f.data=[])&&decide (f.src=fR f.dst f.to) else false)
theorem bU {T:gO} {io:List Nat} {rs:List ResultVar} {s:St} {X Y:V} (h1:aGd T s rs=some X) (hp:oH Y=true) (e:X=Y):ah T io rs [(.t 0,.v Y)] s:=by
 subst e
 exact⟨X,[],[],h1,⟨⟨⟨X,rfl,aD6 hp⟩,trivial⟩,rfl⟩,by simp[tf,cE,pG];exact fun x _=> .inl rfl⟩
theorem iB {l:List UInt8} {i:Nat} (h:i<l.length): (aA l).getD i []=[.u (l.getD i 0).toNat]:=by
 rw[aV6,aV6]
 simp[aA,h]
theorem gE (l m:List UInt8):aA l++aA m=aA (l++m):=by simp[aA]
theorem aM0 (b:UInt8):b.toNat<256:=b.toNat_lt
def eh (l:List UInt8):Nat→Nat
 |0=>0
 |n+1=>(eh l n+(l.getD n 0).toNat*(n % 1000+1)) % 65521
theorem aCb (l:List UInt8) (n:Nat):eh l n<65521:=by
 cases n with
 |zero=>simp[eh]
 |succ n=>exact Nat.mod_lt _ (by decide)
theorem aJ5 (l:List UInt8) (n:Nat):wrap64 ((eh l n:Int)+wrap64 (((l.getD n 0).toNat:Int)*wrap64 ((n:Int) % 1000+1))) % 65521=(eh l (n+1):Int):=by
 show _=(((eh l n+(l.getD n 0).toNat*(n % 1000+1)) % 65521:Nat):Int)
 have h1:=aCb l n
 have h2:=aM0 (l.getD n 0)
 generalize (l.getD n 0).toNat=b at*
 have h3: (n:Int) % 1000<1000:=Int.emod_lt_of_pos _ (by decide)
 have h4:0≤(n:Int) % 1000:=Int.emod_nonneg _ (by decide)
 rw[aB (n:=(n:Int) % 1000+1) (by omega)]
 have h5: (b:Int)*((n:Int) % 1000+1)≤255*1000:=Int.mul_le_mul (by omega) (by omega) (by omega) (by omega)
 have h6:0≤(b:Int)*((n:Int) % 1000+1):=Int.mul_nonneg (by omega) (by omega)
 rw[aB (n:=(b:Int)*((n:Int) % 1000+1)) (by omega),aB (by omega)]
 have e: ((b*(n % 1000+1):Nat):Int)=(b:Int)*((n:Int) % 1000+1):=by rw[Int.natCast_mul,Int.natCast_add,Int.natCast_emod];rfl
 rw[← e]
 generalize b*(n % 1000+1)=q
 omega
theorem aG1 (l:List UInt8) (n:Nat): (wrap64 ((eh l n:Int)+wrap64 (wrap64 ((l.getD n 0).toNat:Int)*wrap64 (aWe (n:Int) 1000+1)))).tmod 65521=(eh l (n+1):Int):=by
 have h2:=aM0 (l.getD n 0)
 have h1:=aCb l n
 have h3: (n:Int) % 1000<1000:=Int.emod_lt_of_pos _ (by decide)
 have h4:0≤(n:Int) % 1000:=Int.emod_nonneg _ (by decide)
 have h:=aJ5 l n
 rw[aB (n:=((l.getD n 0).toNat:Int)) (by omega),Int.tmod_eq_emod_of_nonneg (by omega:0≤(n:Int)),Int.tmod_eq_emod_of_nonneg]
 · exact h
 · rw[aB (n:=(n:Int) % 1000+1) (by omega)]
   have h5: ((l.getD n 0).toNat:Int)*((n:Int) % 1000+1)≤255*1000:=Int.mul_le_mul (by omega) (by omega) (by omega) (by omega)
   have h6:0≤((l.getD n 0).toNat:Int)*((n:Int) % 1000+1):=Int.mul_nonneg (by omega) (by omega)
   rw[aB (n:=((l.getD n 0).toNat:Int)*((n:Int) % 1000+1)) (by omega),aB (by omega)]
   omega
theorem ue (l:List UInt8) (n:Nat): (wrap64 ((eh l n:Int)+wrap64 (wrap64 (aWe (n:Int) 1000+1)*wrap64 ((l.getD n 0).toNat:Int)))).tmod 65521=(eh l (n+1):Int):=by
 rw[Int.mul_comm];exact aG1 l n
def b8 (x:Int):UInt8:=UInt8.ofNat x.toNat
def two (n:Int):List UInt8:=[b8 (n / 256),b8 (n % 256)]
def pP (f:cI):List UInt8:=
 if dJ f then
  let body:=[b8 f.kind,b8 f.src,b8 f.dst,b8 f.frm,b8 f.num,b8 f.to]++two f.til++(if f.kind=1 then [b8 f.size]++two f.mix++f.data else [])
  body++two (eh body body.length)
 else []
theorem uf {x:Int} (h:0≤x∧x<256): ((b8 x).toNat:Int)=x:=by
 unfold b8
 rw[UInt8.toNat_ofNat']
 omega
theorem ug {x:Int} (h:0≤x∧x<256):iA x=x:=by unfold iA;omega
theorem gn {x:Int} (h:0≤x∧x<256): [D.u (iA x)]=[D.u (b8 x).toNat]:=by rw[ug h,uf h]
theorem aM1 {n:Int} (h:0≤n∧n<65536): [[D.u (iA (wrap64 (n.tdiv 256)))],[D.u (iA (n.tmod 256))]]=aA (two n):=by
 rw[Int.tdiv_eq_ediv_of_nonneg h.1,Int.tmod_eq_emod_of_nonneg h.1,aB (by omega),ug (by omega),ug (by omega)]
 simp only[aA,two,List.map_cons,List.map_nil]
 rw[uf (by omega),uf (by omega)]
theorem uh (n:Int):mA [(.t 0,.v (I n))]:=by
 intro p hp
 simp at hp
 subst hp;trivial
def kO (f:cI):List UInt8:=[b8 f.kind,b8 f.src,b8 f.dst,b8 f.frm,b8 f.num,b8 f.to]++two f.til
def eS (f:cI):List UInt8:=kO f++(if f.kind=1 then [b8 f.size]++two f.mix++f.data else [])
theorem qF (f:cI):pP f=if dJ f then eS f++two (eh (eS f) (eS f).length) else []:=by
 unfold pP eS kO
 rfl
theorem lO {f:cI} (h:dJ f=true): (0≤f.src∧f.src≤3)∧(0≤f.dst∧f.dst≤3)∧(0≤f.frm∧f.frm≤3)∧(0≤f.to∧f.to≤3)∧(1≤f.num∧f.num≤99)∧(1≤f.til∧f.til≤999)∧(1≤f.kind∧f.kind≤3)∧(f.kind=1→(1≤f.size∧f.size≤24)∧(0≤f.mix∧f.mix≤999)∧f.data.length=4):=by
 simp only[dJ,eA,fG,aV1,decide_eq_true_eq] at h
 obtain⟨⟨⟨⟨⟨⟨h1,h2⟩,h3⟩,h4⟩,h5⟩,h6⟩,h7⟩:=h
 split at h7
 · rename_i hk
   simp only[aV1,decide_eq_true_eq] at h7
   exact⟨h1,h2,h3,h4,h5,h6,by omega,fun _=>⟨h7.1.1.1,h7.1.1.2,h7.1.2⟩⟩
 · split at h7
   · rename_i hk hk2
     exact⟨h1,h2,h3,h4,h5,h6,by omega,fun h=>absurd h hk⟩
   · cases h7
theorem jk {f:cI} (h:dJ f=true): (eS f).length≤15:=by
 have:=(lO h).2.2.2.2.2.2.2
 unfold eS kO two
 split
 · rename_i hk;simp[(this hk).2.2]
 · simp
theorem bs {f:cI} (hk: ¬f.kind=1):eS f=kO f:=by simp[eS,hk]
def dm (f:cI):List UInt8:=[b8 f.kind,b8 f.src,b8 f.dst,b8 f.frm,b8 f.num,b8 f.to]
theorem aCc {f:cI} (h:dJ f=true): []++[[D.u (iA f.kind)],[.u (iA f.src)],[.u (iA f.dst)],[.u (iA f.frm)],[.u (iA f.num)],[.u (iA f.to)]]=aA (dm f):=by
 obtain⟨k1,k2,k3,k4,k5,k6,k7,k8⟩:=lO h
 simp only[dm,aA,List.map_cons,List.map_nil,List.nil_append]
 rw[gn (x:=f.kind) (by omega),gn (x:=f.src) (by omega),gn (x:=f.dst) (by omega),gn (x:=f.frm) (by omega),gn (x:=f.num) (by omega),gn (x:=f.to) (by omega)]
def aR6 (k:Int) (n:Nat):List UInt8:=(aWb n).map fun i=>UInt8.ofNat (k.toNat+i)
theorem aCd (k:Int) (n:Nat): (aR6 k n).length=n:=by simp[aR6]
theorem yk (f:cI): (pP f).length≤17:=by
 rw[qF]
 split
 · rename_i h
   have:=jk h
   simp[two];omega
 · simp
def aM2 (σ:St):List (Nat×K)→Prop
 | []=>True
 |p::r=>aR σ (.o p.1)=some p.2∧aM2 σ r
theorem aH {σ:St}: ∀{l:List (Nat×K)},aM2 σ l→ ∀p∈l,aR σ (.o p.1)=some p.2
 |q::r,h,p,hp=>by
  rcases List.mem_cons.1 hp with rfl|hp
  · exact h.1
  · exact aH h.2 p hp
section
variable {P:Program} {f:FuncId} {n:Nat} {σin σout:St} {o:Oper} {c:Call} {σ:St} {Xs:List V} {Ra:List (dG×Option K)}
theorem ui {k:List (dG×Option K)→List (dG×K)→Prop} (rl:List (Nat×Nat)) (hs:Spec P f n σin σout) (ho:o.op= .call c) (hc:c.callee= .value (.func f)) (hx:evA σ c.args.toList=some (Xs,Ra)) (hn:Xs.length=n) (hin:σin=eL 0 Xs) (hp:Xs.all oH=true)
 (hk:kA rl σin σout=true) (h2: ∀j∈kI σin σout,aR σ (.o (jT rl j))=none) (h:k (pn Ra [] rl σin σout) (tN rl σin σout o.dst)): ∃R W,vT P o R W∧bV R σ∧k R W:=by
 subst hin
 refine bH (robj:=[]) (rl:=rl) (bor:=[]) hs ho hc hx hn ⟨tv (fun j Y hj=> ?_) hp,?_⟩ hk (.inl rfl) (by simp) h2 h
 · have hlt:=(aV9.1 hj).1
   rw[Nat.zero_add,pI 0 Xs _ j (aV5 _) (by omega),Nat.sub_zero,hj];rfl
 · simp[af,qD,vA,pG]
end
theorem ixB {l:List UInt8} {j:Int} (h0:0≤j) (h:j<l.length): (0≤j∧j< (aA l).length)∧((aA l).getD j.toNat []).length=1:=by
 refine⟨⟨h0,by rw[aP];exact h⟩,?_⟩
 rw[iB (by omega)];rfl
theorem ldB {l:List UInt8} {j:Int} (h0:0≤j) (h:j<l.length):1≤((aA l).getD j.toNat []).length∧((aA l).getD j.toNat []).take 1=nA [.d (.u 0)] ((aA l).getD j.toNat []) 0:=by
 rw[iB (by omega)];exact⟨aWa _,rfl⟩
theorem valB {l:List UInt8} {j:Int} (h0:0≤j) (h:j<l.length):toU (((aA l).getD j.toNat []).getD 0 (.i 0))=((l.getD j.toNat 0).toNat:Int):=by
 rw[iB (by omega)];rfl
theorem wT (l:List UInt8) (a b:Nat):iZ (((aA l).take b).drop a)=(l.take b).drop a:=by
 have:=bZ ((l.take b).drop a)
 rw[← this]
 congr 1
 simp[aA]
theorem wU (l:List UInt8) (a b:Nat): ((aA l).take b).drop a=aA ((l.take b).drop a):=by simp[aA]
def aTs:D→Bool
 | .sl rows=>rows.isEmpty
 |_=>true
def aG2:C→Bool
 | .d x=>aTs x
 | .rp _=>false
 |_=>true
def aG3:E→Bool
 | .c x=>aG2 x
 | .agg cs=>cs.all aG2
def aM3:V→Bool
 | .e x=>aG3 x
 | .tup xs=>xs.all aG3
theorem qa {c:C} (h:aG2 c=true):ja c:=by
 cases c with
 |d x=>cases x<;>first|trivial|exact List.isEmpty_iff.1 h
 |rp _=>cases h
 |_=>trivial
theorem qb {c:E} (h:aG3 c=true):sa c:=by
 cases c with
 |c x=>exact qa h
 |agg cs=>exact fun c hc=>qa (aWf.1 h c hc)
theorem aEi {c:V} (h:aM3 c=true):sc c:=by
 cases c with
 |e x=>exact qb h
 |tup cs=>exact fun c hc=>qb (aWf.1 h c hc)
theorem aG4 {X:V} (h:aM3 X=true):mA [(.t 0,.v X)]:=by
 intro p hp
 simp at hp
 subst hp
 exact aEi h
def gY (l:List UInt8) (i:Nat):Int:=(l.getD i 0).toNat
theorem iO (l:List UInt8) (i:Nat):0≤gY l i∧gY l i<256:=by
 have:=aM0 (l.getD i 0)
 unfold gY;omega
theorem aCe {l:List UInt8} {j:Int} (h0:0≤j) (h:j.toNat<l.length):wrap64 (toU (((aA l).getD j.toNat []).getD 0 (.i 0)))=gY l j.toNat:=by
 rw[valB h0 (by omega)]
 have:=iO l j.toNat
 exact aB (by unfold gY at this;omega)
theorem aAs {x y:Int} (h:0≤x∧x<256) (k:0≤y∧y<256):wrap64 (wrap64 (x*256)+y)=x*256+y∧wrap64 (wrap64 (256*x)+y)=x*256+y:=by
 constructor
 · rw[aB (n:=x*256) (by omega),aB (by omega)]
 · rw[aB (n:=256*x) (by omega),aB (by omega)];omega
def dn:cI:=⟨0,0,0,0,0,0,0,0,0,[]⟩
def cS (l:List UInt8):cI:=
 ⟨gY l 0,gY l 1,gY l 2,gY l 3,gY l 4,gY l 5,gY l 6*256+gY l 7,
  if l.length=17 then gY l 8 else 0,if l.length=17 then gY l 9*256+gY l 10 else 0,if l.length=17 then(l.take 15).drop 11 else []⟩
def mB (l:List UInt8):Bool:=(l.length==10||l.length==17)&&pP (cS l)==l
def gN (l:List UInt8):cI:=if mB l then cS l else dn
theorem aM4 {m:Int} (hm:0≤m):BitVec.ofInt 64 m=BitVec.ofNat 64 m.toNat:=by
 obtain⟨k,rfl⟩:=Int.eq_ofNat_of_zero_le hm
 exact BitVec.ofInt_natCast ..
theorem aJ6 {m n:Int} (hm:0≤m∧m<4611686018427387904) (hn:0≤n∧n<4611686018427387904):zw m n=((m.toNat ^^^ n.toNat:Nat):Int):=by
 have hlt:m.toNat ^^^ n.toNat<2 ^ 62:=Nat.xor_lt_two_pow (by omega) (by omega)
 show IntKind.i64.wrap ((BitVec.ofInt 64 m ^^^ BitVec.ofInt 64 n).toNat:Int)=_
 rw[aM4 hm.1,aM4 hn.1,BitVec.toNat_xor,BitVec.toNat_ofNat,BitVec.toNat_ofNat,Nat.mod_eq_of_lt (by omega),Nat.mod_eq_of_lt (by omega),xD]
 exact aB (by omega)
theorem aCf {m n:Int} (hm:0≤m∧m<4611686018427387904) (hn:0≤n∧n<4611686018427387904):0≤zw m n:=by
 rw[aJ6 hm hn];omega
theorem nI {x n:Int} (hx:0≤x) (hn:1≤n):0≤aWe x n∧aWe x n<n:=
 ⟨Int.tmod_nonneg n hx,Int.tmod_lt_of_pos x (by omega)⟩
theorem pJ {x n:Int} (hx:0≤x) (hn:1≤n):0≤Int.tdiv x n∧Int.tdiv x n≤x:=by
 rw[Int.tdiv_eq_ediv_of_nonneg hx]
 exact⟨Int.ediv_nonneg hx (by omega),Int.ediv_le_self n hx⟩
theorem aVl {a b k q:Int} (ha:0≤a∧a<256) (hb:0≤b∧b<256) (hk:0≤k∧k≤1000000) (hq:0≤q∧q≤k):
 0≤wrap64 (wrap64 (wrap64 (wrap64 (a*131)+wrap64 (b*1117))+wrap64 (k*29))+wrap64 (wrap64 q*53))∧wrap64 (wrap64 (wrap64 (wrap64 (a*131)+wrap64 (b*1117))+wrap64 (k*29))+wrap64 (wrap64 q*53))<4611686018427387904:=by
 rw[aB (n:=a*131) (by omega),aB (n:=b*1117) (by omega),aB (n:=k*29) (by omega),aB (n:=q) (by omega),aB (n:=q*53) (by omega),aB (n:=a*131+b*1117) (by omega),aB (n:=a*131+b*1117+k*29) (by omega),aB (by omega)]
 omega
theorem aP0 {x:Int} (h:0≤x∧x<4611686018427387904):0≤zw x (wrap64 (Int.tdiv x 64)):=by
 have:=pJ (x:=x) (n:=64) h.1 (by omega)
 rw[aB (by omega)]
 exact aCf h ⟨this.1,by omega⟩
end Go.Ab
namespace Go.Ab
open Int renaming toNat_natCast→aVy,tmod→aWe
open List renaming length_append→aVz,length_nil→aV2,length_cons→aV3,length_take→aV4,getD_eq_getElem?_getD→aV6,length_drop→aV7,getElem?_eq_getElem→aV8,getElem?_eq_some_iff→aV9,range→aWb,mem_map→aWc,take_length→aWd,all_eq_true→aWf,mem_singleton→aWg
open Nat renaming le_of_ble_eq_true→aV0,zero_le→aV5,le_refl→aWa,add_mul→aWh
open Bool renaming and_eq_true→aV1
open Go Go.RowKit
def bN (l:List UInt8) (p n:Int):Int:=
 if n<1∨l.length=0 then 0
 else if p<l.length then aWe (gY l p.toNat) n
 else aWe (zw (wrap64 (wrap64 (wrap64 (wrap64 (gY l (aWe p l.length).toNat*131)+wrap64 (gY l (aWe (wrap64 (wrap64 (p*7)+3)) l.length).toNat*1117))+wrap64 (p*29))+wrap64 (wrap64 (Int.tdiv p l.length)*53)))
  (wrap64 (Int.tdiv (wrap64 (wrap64 (wrap64 (wrap64 (gY l (aWe p l.length).toNat*131)+wrap64 (gY l (aWe (wrap64 (wrap64 (p*7)+3)) l.length).toNat*1117))+wrap64 (p*29))+wrap64 (wrap64 (Int.tdiv p l.length)*53))) 64))) n
theorem cF (l:List UInt8) {p n:Int} (hp:0≤p∧p≤1000000) (hn:1≤n):0≤bN l p n∧bN l p n<n:=by
 unfold bN
 split
 · omega
 · rename_i h
   have hl: ¬l.length=0:=fun e=>h (.inr e)
   split
   · exact nI (iO _ _).1 hn
   · exact nI (aP0 (aVl (iO _ _) (iO _ _) hp (pJ hp.1 (by omega)))) hn
set_option linter.unusedVariables false
def u8 (x:Int):UInt8:=UInt8.ofNat (iA x).toNat
theorem jl (x:Int): ((u8 x).toNat:Int)=iA x:=by
 unfold u8 iA
 rw[UInt8.toNat_ofNat']
 omega
theorem aCg (x:Int): [D.u (iA x)]=[D.u (u8 x).toNat]:=by rw[jl]
theorem aAt (b:List UInt8) (x:Int):aA b++[[D.u (iA x)]]=aA (b++[u8 x]):=by rw[aCg,← gE];rfl
theorem repB (n:Nat):List.replicate n [D.u 0]=aA (List.replicate n 0):=by simp[aA]
theorem aM5 {b:List UInt8} {i:Nat} {x:Int} (hi:i<b.length) (hx:x=iA x):
 (aA b).set i (cX ((aA b).getD i []) 0 [D.u x])=aA (b.set i (u8 x)):=by
 rw[iB hi]
 have e:cX [D.u (b.getD i 0).toNat] 0 [D.u x]=[D.u (u8 x).toNat]:=by rw[← aCg,← hx];rfl
 rw[e,aA,aA,← List.map_set (f:=fun b:UInt8=>[D.u (b.toNat:Int)])]
theorem aEj (x:Int):iA x=iA (iA x):=by unfold iA;omega
theorem weights: ∀d,1≤d→d≤255→ ∀w,1≤w→w≤1000→d*w≠65521∧d*w≠131042∧d*w≠196563:=by
 intro d h1 h2 w h3 h4
 have key: ∀d,d≤255→d≠0→(65521 % d=0→1000<65521 / d)∧(131042 % d=0→1000<131042 / d)∧(196563 % d=0→1000<196563 / d):=by
  decide+kernel
 obtain⟨k1,k2,k3⟩:=key d h2 (by omega)
 · have hd:0<d:=by omega
   refine⟨fun e=> ?_,fun e=> ?_,fun e=> ?_⟩
   · have:=k1 (by rw[← e];exact Nat.mul_mod_right d w)
     rw[← e,Nat.mul_div_cancel_left w hd] at this;omega
   · have:=k2 (by rw[← e];exact Nat.mul_mod_right d w)
     rw[← e,Nat.mul_div_cancel_left w hd] at this;omega
   · have:=k3 (by rw[← e];exact Nat.mul_mod_right d w)
     rw[← e,Nat.mul_div_cancel_left w hd] at this;omega
set_option linter.unusedVariables false
def bX (l:List Int):List (List D):=l.map fun x=>[.i x]
def aL (l:List Bool):List (List D):=l.map fun x=>[.b x]
def aX (l:List (List UInt8)):List (List D):=l.map fun x=>[.s x]
theorem bS (l:List Int): (bX l).length=l.length:=by simp[bX]
theorem cT (l:List Bool): (aL l).length=l.length:=by simp[aL]
theorem aM (l:List (List UInt8)): (aX l).length=l.length:=by simp[aX]
theorem aCh (l:List Int): ∀r∈bX l,r.length=1:=by
 intro r hr
 obtain⟨b,_,rfl⟩:=aWc.1 hr
 rfl
theorem yR (l:List (List UInt8)): ∀r∈aX l,r.length=1:=by
 intro r hr
 obtain⟨b,_,rfl⟩:=aWc.1 hr
 rfl
theorem eW {l:List Int} {i:Nat} (h:i<l.length): (bX l).getD i []=[.i (l.getD i 0)]:=by
 rw[aV6,aV6]
 simp[bX,h]
theorem kW {l:List Bool} {i:Nat} (h:i<l.length): (aL l).getD i []=[.b (l.getD i false)]:=by
 rw[aV6,aV6]
 simp[aL,h]
theorem eN {l:List (List UInt8)} {i:Nat} (h:i<l.length): (aX l).getD i []=[.s (l.getD i [])]:=by
 rw[aV6,aV6]
 simp[aX,h]
theorem jm {l:List Int} {j:Int} (h0:0≤j) (h:j<l.length): (0≤j∧j< (bX l).length)∧((bX l).getD j.toNat []).length=1:=by
 refine⟨⟨h0,by rw[bS];exact h⟩,?_⟩
 rw[eW (by omega)];rfl
theorem ixS {l:List (List UInt8)} {j:Int} (h0:0≤j) (h:j<l.length): (0≤j∧j< (aX l).length)∧((aX l).getD j.toNat []).length=1:=by
 refine⟨⟨h0,by rw[aM];exact h⟩,?_⟩
 rw[eN (by omega)];rfl
theorem ldS {l:List (List UInt8)} {j:Int} (h0:0≤j) (h:j<l.length):1≤((aX l).getD j.toNat []).length∧((aX l).getD j.toNat []).take 1=nA [.d (.s [])] ((aX l).getD j.toNat []) 0:=by
 rw[eN (by omega)];exact⟨aWa _,rfl⟩
theorem aM6 {l:List (List UInt8)} {j:Int} (h0:0≤j) (h:j<l.length):toS (((aX l).getD j.toNat []).getD 0 (.i 0))=l.getD j.toNat []:=by
 rw[eN (by omega)];rfl
theorem aVm {l:List UInt8} {j:Int} {n:Nat} (h0:0≤j) (h:j<l.length) (e:l.length=n): (aA l).length=n∧0≤j∧j<n:=⟨by rw[aP];exact e,h0,by omega⟩
theorem aVn {l:List Int} {j:Int} {n:Nat} (h0:0≤j) (h:j<l.length) (e:l.length=n): (bX l).length=n∧0≤j∧j<n:=⟨by rw[bS];exact e,h0,by omega⟩
theorem yl {l:List Int} {j n:Nat} (h:j<l.length) (e:l.length=n): ((bX l).length=n∧j<n)∧0+1≤((bX l).getD j []).length∧(((bX l).getD j []).drop 0).take 1=nA [.d (.i 0)] ((bX l).getD j []) 0:=by
 rw[eW h,bS];exact⟨⟨e,by omega⟩,aWa _,rfl⟩
theorem oldS {l:List (List UInt8)} {j n:Nat} (h:j<l.length) (e:l.length=n): ((aX l).length=n∧j<n)∧0+1≤((aX l).getD j []).length∧(((aX l).getD j []).drop 0).take 1=nA [.d (.s [])] ((aX l).getD j []) 0:=by
 rw[eN h,aM];exact⟨⟨e,by omega⟩,aWa _,rfl⟩
theorem aJ7 {l:List Bool} {i:Nat} {x:Bool} (hi:i<l.length): (aL l).set i (cX ((aL l).getD i []) 0 [D.b x])=aL (l.set i x):=by
 rw[kW hi]
 show(aL l).set i [D.b x]=_
 rw[aL,aL,← List.map_set (f:=fun b:Bool=>[D.b b])]
theorem iW (l:List Int) (x:Int):bX l++[[D.i x]]=bX (l++[x]):=by simp[bX]
theorem iC (l:List (List UInt8)) (x:List UInt8):aX l++[[D.s x]]=aX (l++[x]):=by simp[aX]
theorem repT (n:Nat):List.replicate n [D.b false]=aL (List.replicate n false):=by simp[aL]
def cR (x:Int):Int:=if fG x 0 65535 then aWe (wrap64 (wrap64 (x*25173)+13849)) 65536 else 0
theorem bt (x:Int):0≤cR x∧cR x<65536:=by
 unfold cR
 split
 · rename_i h
   simp[fG] at h
   rw[aB (n:=x*25173) (by omega),aB (by omega)]
   exact nI (by omega) (by omega)
 · omega
def mD (b n:Int):Bool:=fG b 1 6&&fG n 0 999
theorem rL {b n:Int} (h:mD b n=true): (1≤b∧b≤6)∧0≤n∧n≤999:=by
 simp[mD,fG] at h;omega
def gZ (b d:Int):Int:=if d=1 then wrap64 (wrap64 (Int.tdiv 60 b)+10) else wrap64 (Int.tdiv 60 (wrap64 (d*wrap64 (d - 1))))
theorem nJ {b d:Int} (hb:1≤b∧b≤6) (hd:1≤d∧d≤6):0≤gZ b d∧gZ b d≤70∧(d=1→10≤gZ b d):=by
 obtain⟨hb1,hb2⟩:=hb
 obtain⟨hd1,hd2⟩:=hd
 have key: ∀b:Fin 7,∀d:Fin 7,1≤b.val→1≤d.val→0≤gZ b.val d.val∧gZ b.val d.val≤70∧((d.val:Int)=1→10≤gZ b.val d.val):=by decide+kernel
 obtain⟨m,rfl⟩:=Int.eq_ofNat_of_zero_le (show 0≤b by omega)
 obtain⟨n,rfl⟩:=Int.eq_ofNat_of_zero_le (show 0≤d by omega)
 exact key ⟨m,by omega⟩ ⟨n,by omega⟩ (by simp;omega) (by simp;omega)
theorem aCi {b f at_:Int} (hb:1≤b∧b≤6) (hf:0≤f∧f<b) (ha:0≤at_∧at_<b) (hne:at_≠f):
 ((f+b - aWe (wrap64 (at_+1)) b) % b).toNat< ((f+b - at_) % b).toNat∧0≤aWe (wrap64 (at_+1)) b∧aWe (wrap64 (at_+1)) b<b:=by
 rw[aB (by omega)]
 have h:=nI (x:=at_+1) (n:=b) (by omega) hb.1
 refine⟨?_,h⟩
 rw[Int.tmod_eq_emod_of_nonneg (by omega)]
 obtain⟨h1,h2⟩:=hb
 have:b=1∨b=2∨b=3∨b=4∨b=5∨b=6:=by omega
 rcases this with rfl|rfl|rfl|rfl|rfl|rfl<;>omega
theorem aEk {u:List Bool} (h:u.count true<u.length): ∃f,f<u.length∧u.getD f false=false:=by
 induction u with
 |nil=>simp at h
 |cons x u ih=>
  cases x with
  |false=>exact⟨0,by simp,rfl⟩
  |true=>
   simp at h
   obtain⟨f,h1,h2⟩:=ih h
   exact⟨f+1,by simpa using h1,by simpa using h2⟩
theorem aJ8 {u:List Bool} {i:Nat} (hi:i<u.length) (h:u.getD i false=false): (u.set i true).count true=u.count true+1:=by
 induction u generalizing i with
 |nil=>simp at hi
 |cons x u ih=>
  cases i with
  |zero=>simp at h;subst h;simp
  |succ i=>
   simp at hi
   have:=ih hi (by simpa using h)
   simp only[List.set_cons_succ,List.count_cons,this]
   omega
theorem yS (m n:Int):yA m n=iA (yA m n):=by
 unfold yA
 rw[bb]
 exact aEj _
theorem aJ9 (b:List UInt8) (m n:Int):aA b++[[D.u (yA m n)]]=aA (b++[u8 (yA m n)]):=by
 rw[yS]
 rw[aAt,← yS]
set_option linter.unusedVariables false
theorem qc {f:cI} (h:dJ f=true): (f.kind=1→f.dst=fR f.src f.to)∧(f.kind≠1→f.src=fR f.dst f.to∧f.size=0∧f.mix=0∧f.data=[]):=by
 simp only[dJ,aV1] at h
 obtain⟨_,h7⟩:=h
 split at h7
 · rename_i hk
   simp only[aV1,decide_eq_true_eq] at h7
   exact⟨fun _=>h7.2,fun h=>absurd hk h⟩
 · rename_i hk
   split at h7
   · simp only[aV1,decide_eq_true_eq] at h7
     exact⟨fun h=>absurd h hk,fun _=>⟨h7.2,h7.1.1.1,h7.1.1.2,h7.1.2⟩⟩
   · cases h7
theorem em {a b n:Int} (h:n=fR a b) (hn:0≤n):a - n=1∨n - a=1:=by
 unfold fR at h
 split at h
 · omega
 · split at h<;>omega
theorem aKa {f:cI} (h:dJ f=true) (hk:f.kind=1):fR f.src f.to=f.dst∧(f.src - f.dst=1∨f.dst - f.src=1):=by
 obtain⟨k1,k2,_⟩:=lO h
 have:=(qc h).1 hk
 exact⟨this.symm,em this (by omega)⟩
theorem aKb {f:cI} (h:dJ f=true) (hk:f.kind≠1):fR f.dst f.to=f.src∧(f.src - f.dst=1∨f.dst - f.src=1):=by
 obtain⟨k1,k2,_⟩:=lO h
 have:=((qc h).2 hk).1
 exact⟨this.symm,(em this (by omega)).symm⟩
set_option linter.unusedVariables false
set_option linter.unusedSimpArgs false
def eqD:D→D→Bool
 | .i m,.i n=>m==n
 | .b m,.b n=>m==n
 | .s l,.s r=>l==r
 |_,_=>false
def yT:List D→List D→Bool
 |x::xs,y::ys=>eqD x y&&yT xs ys
 |_,_=>true
def aAu:TK→D→D→Bool
 | .int _,.i _,.i _=>true
 | .bool,.b _,.b _=>true
 | .str,.s _,.s _=>true
 |_,_,_=>false
def jn (T:gO):List Field→Nat→List D→List D→Bool
 | [],_,[],[]=>true
 |f::fs,k,x::xs,y::ys=>(f.name != "_")&&Nat.beq f.offset k&&(match T f.type with|some ti=>aAu ti.kind x y|none=>false)&&jn T fs (k+1) xs ys
 |_,_,_,_=>false
theorem aIt {P:Program} {T:gO} (hT:dM P T) {w:World} {S:Nat→Prop} {va vb:Array Value} (d:Nat): ∀(fs:List Field) (k:Nat) (xs ys:List D),jn T fs k xs ys=true→(∀(j:Nat) x,xs[j]? =some x→ ∃v,va[k+j]? =some v∧DR w S x v)→(∀(j:Nat) x,ys[j]? =some x→ ∃v,vb[k+j]? =some v∧DR w S x v)→
 (Op.eqFields (d+1) va vb fs).run P w= .ok (yT xs ys) w
 | [],k,xs,ys,h,_,_=>by
  cases xs<;>cases ys<;>first|rfl|(simp[jn] at h)
 |f::fs,k,[],ys,h,_,_=>by simp[jn] at h
 |f::fs,k,x::xs,[],h,_,_=>by simp[jn] at h
 |f::fs,k,x::xs,y::ys,h,hx,hy=>by
  simp only[jn,aV1] at h
  obtain⟨⟨⟨h1,h2⟩,h3⟩,h4⟩:=h
  have h2:=Nat.eq_of_beq_eq_true h2
  split at h3<;>try(cases h3;done)
  rename_i ti hti
  have ok:=hT _ _ hti
  obtain⟨u,hu,hxu⟩:=hx 0 x rfl
  obtain⟨v,hv,hyv⟩:=hy 0 y rfl
  have ih:=aIt hT d fs (k+1) xs ys h4 (fun j z hj=>by rw[Nat.add_assoc,Nat.add_comm 1 j];exact hx (j+1) z hj) (fun j z hj=>by rw[Nat.add_assoc,Nat.add_comm 1 j];exact hy (j+1) z hj)
  have hag:ti.kind.agg=false:=by
   cases hk:ti.kind<;>rw[hk] at h3<;>first|rfl|(simp[aAu] at h3)
  have pu: (Go.part f.type va f.offset).run P w= .ok u w:=by
   rw[h2];simp only[Go.part,Sem.run_bind,pF ok,hag,Result.andThen_ok]
   simp only[Nat.add_zero] at hu
   simp[hu]
  have pv: (Go.part f.type vb f.offset).run P w= .ok v w:=by
   rw[h2];simp only[Go.part,Sem.run_bind,pF ok,hag,Result.andThen_ok]
   simp only[Nat.add_zero] at hv
   simp[hv]
  have heq: (Op.equalIn (d+1) f.type u v).run P w= .ok (eqD x y) w:=by
   have hkd:=ok.kind
   cases hk:ti.kind with
   |int k'=>
    rw[hk] at h3 hkd
    cases x<;>cases y<;>simp[aAu] at h3
    cases hxu;cases hyv
    exact run_equalIn_int w d f.type .i64 k' _ _ hkd
   |bool=>
    rw[hk] at h3 hkd
    cases x<;>cases y<;>simp[aAu] at h3
    cases hxu;cases hyv
    exact run_equalIn_bool w d f.type _ _ hkd
   |str=>
    rw[hk] at h3 hkd
    cases x<;>cases y<;>simp[aAu] at h3
    rename_i l r
    cases hxu;cases hyv
    rw[run_equalIn_string w d f.type _ _ hkd]
    simp[eqD,ByteArray.toList_eq]
   |_=>rw[hk] at h3;simp[aAu] at h3
  simp only[Op.eqFields,if_pos (by simpa using h1),Sem.run_bind,pu,pv,heq,Result.andThen_ok]
  cases hxy:eqD x y
  · simp[yT,hxy]
  · simp[yT,hxy,ih]
theorem aIu {P:Program} {T:gO} (hT:dM P T) {o:Oper} {op:BinOp} {t u:TypeId} {x y:Operand} {d:Nat} {σ0:St} {xs ys:List D} {Rx Ry:List (dG×Option K)} (ho:o.op= .binOp op t x y u) (hd:o.dst=some d) (hop: (match op with| .eql=>true| .neq=>true|_=>false)=true)
 (ht:P.underlying t=some (.struct (P.fieldsOf t))) (hp:P.stoodInHeld t=false) (hm:P.eqGuardType P.depth t=false) (hf:jn T (P.fieldsOf t).toList 0 xs ys=true)
 (hx:ev σ0 x=some (.e (.agg (xs.map .d)),Rx)) (hy:ev σ0 y=some (.e (.agg (ys.map .d)),Ry)):
 vT P o (Rx++Ry) [(.t d,.v (B (match op with| .neq=> !yT xs ys|_=>yT xs ys)))]:=by
 refine mY hd fun cx σ ι S a w hr hw=> ?_
 obtain⟨va,ea,la,ha⟩:=(show ER σ ι w S (.agg (xs.map .d)) _ from cZ hx hr.left hw)
 obtain⟨vb,eb,lb,hb⟩:=(show ER σ ι w S (.agg (ys.map .d)) _ from cZ hy hr.right hw)
 have hA: ∀(j:Nat) z,xs[j]? =some z→ ∃v,va.toArray[0+j]? =some v∧DR w S z v:=fun j z hj=>by
  have hj': (xs.map C.d)[j]? =some (.d z):=by simp[hj]
  have hlt:j<va.length:=by rw[la];exact(aV9.1 hj').1
  refine⟨va[j],by simp[hlt],ha j _ _ hj' (by simp[hlt])⟩
 have hB: ∀(j:Nat) z,ys[j]? =some z→ ∃v,vb.toArray[0+j]? =some v∧DR w S z v:=fun j z hj=>by
  have hj': (ys.map C.d)[j]? =some (.d z):=by simp[hj]
  have hlt:j<vb.length:=by rw[lb];exact(aV9.1 hj').1
  refine⟨vb[j],by simp[hlt],hb j _ _ hj' (by simp[hlt])⟩
 have key:=aIt hT 9998 (P.fieldsOf t).toList 0 xs ys hf hA hB
 have key2: (Op.equalIn 10000 t (.agg va.toArray) (.agg vb.toArray)).run P w= .ok (yT xs ys) w:=by
  rw[show(10000:Nat)=9999+1 from rfl,run_equalIn_struct w 9999 t _ _ ht hp];exact key
 cases op<;>simp at hop
 · refine⟨.bool (yT xs ys),?_,.b _⟩
   unfold execOp
   simp only[ho,Act.eval] at*
   simp only[ea,eb]
   rw[Sem.run_bind,Sem.run_bind,run_eqGuard_agg w .eql t x y _ _ hm,Result.andThen_ok,run_eql_struct,key2]
   rfl
 · refine⟨.bool (!yT xs ys),?_,.b _⟩
   unfold execOp
   simp only[ho,Act.eval] at*
   simp only[ea,eb]
   rw[Sem.run_bind,Sem.run_bind,run_eqGuard_agg w .neq t x y _ _ hm,Result.andThen_ok,run_neq_struct,key2]
   rfl
theorem aTw {P:Program} {T:gO} (hT:dM P T) {o:Oper} {op:BinOp} {t u:TypeId} {x y:Operand} {d:Nat} {σ:St} (xs ys:List D) {Rx Ry:List (dG×Option K)} {k:List (dG×Option K)→List (dG×K)→Prop} (ho:o.op= .binOp op t x y u) (hd:o.dst=some d) (hop: (match op with| .eql=>true| .neq=>true|_=>false)=true)
 (ht:P.underlying t=some (.struct (P.fieldsOf t))) (hp:P.stoodInHeld t=false) (hm:P.eqGuardType P.depth t=false) (hf:jn T (P.fieldsOf t).toList 0 xs ys=true)
 (hx:ev σ x=some (.e (.agg (xs.map .d)),Rx)) (hy:ev σ y=some (.e (.agg (ys.map .d)),Ry)) (h:k (Rx++Ry) [(.t d,.v (B (match op with| .neq=> !yT xs ys|_=>yT xs ys)))]): ∃R W,vT P o R W∧bV R σ∧k R W:=
 ⟨_,_,aIu hT ho hd hop ht hp hm hf hx hy,(fun p hp=>by
  rcases List.mem_append.1 hp with hp|hp
  · exact cU hx p hp
  · exact cU hy p hp),h⟩
theorem aIv {P:Program} {T:gO} (hT:dM P T) {o:Oper} {op:BinOp} {t u:TypeId} {x y:Operand} {d:Nat} {σ σ1:St} {g:Bool} (xs ys:List D) {Rx Ry:List (dG×Option K)} {k:List (dG×Option K)→V→Prop} (ho:o.op= .binOp op t x y u) (hd:o.dst=some d) (hop: (match op with| .eql=>true| .neq=>true|_=>false)=true)
 (ht:P.underlying t=some (.struct (P.fieldsOf t))) (hp:P.stoodInHeld t=false) (hm:P.eqGuardType P.depth t=false) (hf:jn T (P.fieldsOf t).toList 0 xs ys=true)
 (hx:ev σ1 x=some (.e (.agg (xs.map .d)),Rx)) (hy:ev σ1 y=some (.e (.agg (ys.map .d)),Ry)) (hr:g=true→oG σ (Rx++Ry)) (h:k (Rx++Ry) (B (match op with| .neq=> !yT xs ys|_=>yT xs ys))):
 ∃R X,(g=true→vT P o R [(.t d,.v X)]∧bV R σ1)∧(g=true→oG σ R)∧k R X:=
 ⟨_,_,fun _=>⟨aIu hT ho hd hop ht hp hm hf hx hy,(fun p hp=>by
  rcases List.mem_append.1 hp with hp|hp
  · exact cU hx p hp
  · exact cU hy p hp)⟩,hr,h⟩
set_option linter.unusedVariables false
set_option linter.unusedSimpArgs false
theorem Spec.freeze {P:Program} {f:FuncId} {n m:Nat} {σin:St} {e:TypeId} {es:Nat} {rows:List (List D)} (h:Spec P f n σin [(.t 0,.v (.e (.c (.own 0 m)))),(.o 0,.row e es rows)]) (hm:rows.length=m) (h0:cE σin=[]):Spec P f n σin [(.t 0,.v (Dv (.sl rows)))]:=by
 have hno: ∀o k,aR σin (.o o)=some k→False:=fun o k hk=>by have:=eZ hk;rw[h0] at this;cases this
 refine⟨h.1,fun ι ν S w args hg h1 h2 h3=>nH (fun ex w'=> ?_) (h.2 ι ν S w args hg h1 h2 h3)⟩
 rintro⟨v,ι',S',rfl,hp⟩
 have hrow:=hp.vr.objs 0 (.row e es rows) rfl
 have hv:v=ι' 0:=by
  obtain⟨_,h2⟩:=(show CR _ ι' w' S' (.own 0 m) v from hp.vr.slots 0 _ rfl)
  rcases h2 with⟨e2,es2,rows2,hl,_,hv⟩|hd
  · cases hl;exact hv hm
  · cases hd
 have hmut: ∀b,uW (ι' 0) b→kM [(dG.t 0,K.v (.e (.c (.own 0 m)))),(.o 0,.row e es rows)] ι' 0 b:=fun b hb=>⟨⟨_,rfl,trivial⟩,hb⟩
 refine⟨v,ι',fun b=>S' b∨uW (ι' 0) b,rfl,hp.fr,⟨fun s k hk=> ?_,fun o k hk=> ?_,fun o b hm2=> ?_,fun o o' b hm2=> ?_,fun b hb=> ?_⟩,fun b hb=> ?_,fun o b hm2=> ?_,fun o k k' hk hk'=> ?_⟩
 · simp only[aR] at hk
   split at hk
   · rename_i e3;cases e3;cases hk
     show DR w' _ (.sl rows) v
     rw[hv];exact mv hrow (fun b h=> .inl h) (fun b h=> .inr h)
   · cases hk
 · simp[aR] at hk
 · obtain⟨⟨k,hk,_⟩,_⟩:=hm2;simp[aR] at hk
 · obtain⟨⟨k,hk,_⟩,_⟩:=hm2;simp[aR] at hk
 · rcases hb with hb|hb
   · exact hp.vr.sz b hb
   · exact OR.lt hrow trivial hb
 · rcases hb with hb|hb
   · exact hp.rd b hb
   · exact .inr (hp.own 0 b (hmut b hb))
 · obtain⟨⟨k,hk,_⟩,_⟩:=hm2;simp[aR] at hk
 · exact(hno o k hk).elim
def goF (P:Program) (T:gO) (io:List Nat) (ops:List Oper):List Oper→St→(St→Prop)→Prop
 | [],σ,k=>k σ
 |o::os,σ,k=>match o.guard with
  |none=>aAn P T io o σ fun σ'=>goF P T io ops os σ' k
  |some (j,want)=>match(ops[j]?).bind (·.dst),o.dst with
   |some s,some d=>match gOf want (aR σ (.t s)) with
    |some g=>(g=true→aAn P T io o σ fun σ'=>goF P T io ops os σ' k)∧(g=false→ ∃X,rh σ (.t d) (.cv s want false X) fun σ'=>goF P T io ops os σ' k)
    |none=>False
   |_,_=>False
theorem ng {P:Program} {T:gO} (hT:dM P T) {io:List Nat} {ops:Array Oper} {cx:Cx P} (hio: ∀o k,cx.kio o=some k→o∈io) {Q:Exit→Act→World→Prop} {k:St→Prop} (hk: ∀σ ι S a w,k σ→RW cx σ ι S a w→Q .normal a w): ∀(l:List Oper) (σ:St) (ι:Nat→Value) (S:Nat→Prop) (a:Act) (w:World),goF P T io ops.toList l σ k→RW cx σ ι S a w→(∀o∈l,∀d,o.dst=some d→d<cx.N)→wpList P ops Q l a w
 | [],σ,ι,S,a,w,h,hw,hf=>hk σ ι S a w h hw
 |o::os,σ,ι,S,a,w,h,hw,hf=>by
  have hfo:=hf o (List.mem_cons_self ..)
  have hfs: ∀o∈os,∀d,o.dst=some d→d<cx.N:=fun o ho=>hf o (List.mem_cons_of_mem _ ho)
  have run: (aAn P T io o σ fun σ'=>goF P T io ops.toList os σ' k)→o.wp P a w (fun a w=>wpList P ops Q os a w) Q:=fun h=>by
   obtain⟨σ1,hwk,R,Ws,h1,h2,h3⟩:=pz hT h
   obtain⟨ι1,S1,hw1⟩:=hwk _ cx ι S a w hio hw
   refine h1 cx σ1 ι1 S1 a w h2 hw1 hfo _ Q fun W hW ι' S' a' w' hw'=> ?_
   have h3:=h3 W hW
   rw[kL] at h3
   exact ng hT hio hk os _ ι' S' a' w' h3 hw' hfs
  unfold wpList
  simp only[goF] at h
  split at h
  · rename_i hg
    rw[if_pos (by simp[Region.wanted,hg])]
    exact .inl (run h)
  · rename_i j want hg
    split at h<;>try(exact h.elim)
    rename_i s d hs hd
    split at h<;>try(exact h.elim)
    rename_i g hl
    have hs': (ops[j]?).bind (·.dst)=some s:=by simpa using hs
    cases g with
    |true=>
     rw[tj hw hg hs' hl,if_pos rfl]
     exact .inl (run (h.1 rfl))
    |false=>
     obtain⟨X,h2⟩:=h.2 rfl
     rw[oP] at h2
     exact aB7 (R:=[]) (X:=X) hg hs' hd hl (by simp) (by simp) cx σ ι S a w yO hw hfo _ Q fun ι' S' a' w' hw'=>ng hT hio hk os _ ι' S' a' w' (by simpa[hZ] using h2) hw' hfs
theorem SW.regF {P:Program} {io:List Nat} {Q:Ex→St→Prop} {σ:St} {T:gO} (hT:dM P T) (ks:List Nat) {id:Nat} {ops:Array Oper} (h:goF P T io ops.toList ops.toList σ fun σ'=>rC ks σ' (Q .norm)):SW P io (.region id ops false) Q σ:=by
 intro cx ι S a w hio hw hf
 have hfit: ∀o∈ops.toList,∀d,o.dst=some d→d<cx.N:=fun o ho=>yE (by simpa[sZ] using hf) ho
 refine wp_region_list (ng hT hio (fun σ' ι' S' a' w' h4 hw'=> ?_) ops.toList σ ι S a w h hw hfit)
 rw[mQ] at h4
 exact⟨_,ι',S',h4,hw'.keep ks⟩
theorem aIw {m:Int} (hm:0≤m):BitVec.ofInt 8 m=BitVec.ofNat 8 m.toNat:=by
 obtain⟨k,rfl⟩:=Int.eq_ofNat_of_zero_le hm
 exact BitVec.ofInt_natCast ..
theorem aM7 {m n:Int} (hm:0≤m∧m<256) (hn:0≤n∧n<256):yA m n=((m.toNat ^^^ n.toNat:Nat):Int):=by
 have hlt:m.toNat ^^^ n.toNat<2 ^ 8:=Nat.xor_lt_two_pow (by omega) (by omega)
 show IntKind.u8.wrap ((BitVec.ofInt 8 m ^^^ BitVec.ofInt 8 n).toNat:Int)=_
 rw[aIw hm.1,aIw hn.1,BitVec.toNat_xor,BitVec.toNat_ofNat,BitVec.toNat_ofNat,Nat.mod_eq_of_lt (by omega),Nat.mod_eq_of_lt (by omega),bb]
 unfold iA
 omega
set_option linter.unusedVariables false
structure bA where
 frm:Int
 num:Int
 to:Int
 til:Int
 text:List UInt8
 deriving DecidableEq
structure cM where
 frm:Int
 num:Int
 til:Int
 deriving DecidableEq
def bA.row (n:bA):List D:=[.i n.frm,.i n.num,.i n.to,.i n.til,.s n.text]
def cM.row (n:cM):List D:=[.i n.frm,.i n.num,.i n.til]
abbrev bA.V (n:bA):V:= .e (.agg [.d (.i n.frm),.d (.i n.num),.d (.i n.to),.d (.i n.til),.d (.s n.text)])
abbrev cM.V (n:cM):V:= .e (.agg [.d (.i n.frm),.d (.i n.num),.d (.i n.til)])
def bA.zero:bA:=⟨0,0,0,0,[]⟩
def cM.zero:cM:=⟨0,0,0⟩
def aE (l:List bA):List (List D):=l.map bA.row
def aQ (l:List cM):List (List D):=l.map cM.row
theorem aD (l:List bA): (aE l).length=l.length:=by simp[aE]
theorem aO (l:List cM): (aQ l).length=l.length:=by simp[aQ]
theorem fW (l:List bA): ∀r∈aE l,r.length=5:=by
 intro r hr
 obtain⟨b,_,rfl⟩:=aWc.1 hr
 rfl
theorem kX (l:List cM): ∀r∈aQ l,r.length=3:=by
 intro r hr
 obtain⟨b,_,rfl⟩:=aWc.1 hr
 rfl
theorem aT {l:List bA} {i:Nat} (h:i<l.length): (aE l).getD i []=(l.getD i .zero).row:=by
 rw[aV6,aV6]
 simp[aE,h]
theorem cA {l:List cM} {i:Nat} (h:i<l.length): (aQ l).getD i []=(l.getD i .zero).row:=by
 rw[aV6,aV6]
 simp[aQ,h]
def vF (s:List UInt8) (i:Nat):Bool:=fG (gY s i) 32 126
def yU (s:List UInt8):Bool:=(aWb s.length).all (vF s)&&fG s.length 1 24
def fA (n:bA):Bool:=eA n.frm&&eA n.to&&fG n.num 1 99&&fG n.til 1 999&&yU n.text
def lC (m:cM):Bool:=eA m.frm&&fG m.num 1 99&&fG m.til 1 999
def cK (a b c d:Int):Bool:=decide (a<c)||a==c&&decide (b<d)
def lD (l:List bA) (i:Nat):Bool:=fA (l.getD i .zero)&&(i==0||cK (l.getD (i - 1) .zero).frm (l.getD (i - 1) .zero).num (l.getD i .zero).frm (l.getD i .zero).num)
def jL (l:List bA):Bool:=(aWb l.length).all (lD l)
def mF (l:List cM) (i:Nat):Bool:=lC (l.getD i .zero)&&(i==0||cK (l.getD (i - 1) .zero).frm (l.getD (i - 1) .zero).num (l.getD i .zero).frm (l.getD i .zero).num)
def nX (l:List cM):Bool:=(aWb l.length).all (mF l)
theorem iD {p:Nat→Bool} {n:Nat} (h: ∀k,k<n→p k=true): (aWb n).all p=true:=by
 rw[aWf];intro k hk;exact h k (List.mem_range.1 hk)
theorem fK {p:Nat→Bool} {n k:Nat} (hk:k<n) (h:p k=false): (aWb n).all p=false:=by
 rw[List.all_eq_false];exact⟨k,List.mem_range.2 hk,by simp[h]⟩
def kP (p:Nat→Bool):Nat→Nat→Int
 |_,0=> -1
 |i,n+1=>if p i then i else kP p (i+1) n
theorem lM {p:Nat→Bool}: ∀{n i k:Nat},i≤k→k<i+n→(∀j,i≤j→j<k→p j=false)→p k=true→kP p i n=k
 |0,i,k,h1,h2,_,_=>by omega
 |n+1,i,k,h1,h2,h,hp=>by
  unfold kP
  by_cases e:i=k
  · subst e;rw[if_pos hp]
  · rw[if_neg (by rw[h i (aWa _) (by omega)];simp),lM (n:=n) (i:=i+1) (k:=k) (by omega) (by omega) (fun j h3 h4=>h j (by omega) h4) hp]
theorem lP {p:Nat→Bool}: ∀{n i:Nat},(∀j,i≤j→j<i+n→p j=false)→kP p i n= -1
 |0,i,_=>rfl
 |n+1,i,h=>by
  unfold kP
  rw[if_neg (by rw[h i (aWa _) (by omega)];simp),lP (n:=n) (i:=i+1) fun j h3 h4=>h j (by omega) (by omega)]
theorem gR (p:Nat→Bool): ∀(n i:Nat),kP p i n= -1∨ ∃k:Nat,kP p i n=k∧i≤k∧k<i+n∧p k=true∧ ∀j,i≤j→j<k→p j=false
 |0,i=> .inl rfl
 |n+1,i=>by
  unfold kP
  by_cases h:p i=true
  · rw[if_pos h];exact .inr ⟨i,rfl,aWa _,by omega,h,fun j h1 h2=>by omega⟩
  · rw[if_neg h]
    rcases gR p n (i+1) with h1|⟨k,h1,h2,h3,h4,h5⟩
    · exact .inl h1
    · refine .inr ⟨k,h1,by omega,by omega,h4,fun j h6 h7=> ?_⟩
      by_cases e:j=i
      · subst e;simpa using h
      · exact h5 j (by omega) h7
def mU (l:List bA) (f n:Int) (i:Nat):Bool:=(l.getD i .zero).frm==f&&(l.getD i .zero).num==n
def vG (l:List cM) (f n:Int) (i:Nat):Bool:=(l.getD i .zero).frm==f&&(l.getD i .zero).num==n
def aW (l:List bA) (f n:Int):Int:=kP (mU l f n) 0 l.length
def iT (l:List cM) (f n:Int):Int:=kP (vG l f n) 0 l.length
def al (id:Int) (n:bA):Bool:=id != n.to&&(fG id n.frm n.to||fG id n.to n.frm)
structure bO where
 id:Int
 time:Int
 next:Int
 held:List bA
 marks:List cM
 inbox:List bA
 deriving DecidableEq
def tC (k:bO) (i:Nat):Bool:=
 let n:=k.held.getD i .zero
 !(n.frm==k.id&&decide (k.next≤n.num))&&decide (k.time<n.til)&&al k.id n&&decide (iT k.marks n.frm n.num<0)
def wV (k:bO) (i:Nat):Bool:=
 let m:=k.marks.getD i .zero
 !(m.frm==k.id&&decide (k.next≤m.num))&&decide (k.time<m.til)
def sA (k:bO) (i:Nat):Bool:=
 let n:=k.inbox.getD i .zero
 !(n.frm==k.id&&decide (k.next≤n.num))&&n.to==k.id&& !(decide (k.time<n.til)&&decide (iT k.marks n.frm n.num<0))
def eG (k:bO):Bool:=
 eA k.id&&fG k.time 0 999&&fG k.next 1 100&&decide (k.held.length≤6)&&decide (k.marks.length≤12)&&decide (k.inbox.length≤6)&&
 jL k.held&&nX k.marks&&jL k.inbox&&(aWb k.held.length).all (tC k)&&(aWb k.marks.length).all (wV k)&&(aWb k.inbox.length).all (sA k)
set_option linter.unusedVariables false
def aG5:Nat→Nat→List UInt8
 |0,n=>[UInt8.ofNat (48+n % 10)]
 |f+1,n=>if n<10 then [UInt8.ofNat (48+n)] else aG5 f (n / 10)++[UInt8.ofNat (48+n % 10)]
def kE (n:Nat):List UInt8:=aG5 n n
theorem aEl: ∀{f g n:Nat},n≤f→n≤g→aG5 f n=aG5 g n
 |0,0,n,_,_=>rfl
 |0,g+1,n,h,_=>by
  obtain rfl:n=0:=by omega
  rfl
 |f+1,0,n,_,h=>by
  obtain rfl:n=0:=by omega
  rfl
 |f+1,g+1,n,h1,h2=>by
  unfold aG5
  split
  · rfl
  · rw[aEl (f:=f) (g:=g) (n:=n / 10) (by omega) (by omega)]
theorem mR {n:Nat} (h:n<10):kE n=[UInt8.ofNat (48+n)]:=by
 unfold kE
 cases n with
 |zero=>rfl
 |succ k=>unfold aG5;rw[if_pos h]
theorem tX {n:Nat} (h:10≤n):kE n=kE (n / 10)++[UInt8.ofNat (48+n % 10)]:=by
 unfold kE
 cases n with
 |zero=>omega
 |succ k=>
  conv=>lhs;unfold aG5
  rw[if_neg (by omega),aEl (f:=k) (g:=(k+1) / 10) (by omega) (aWa _)]
def gF (b:UInt8):Bool:=decide (48≤b.toNat)&&decide (b.toNat≤57)
def pK:List UInt8→Nat:=fun l=>l.foldl (fun n b=>n*10+(b.toNat - 48)) 0
theorem dp (l:List UInt8) (b:UInt8):pK (l++[b])=pK l*10+(b.toNat - 48):=by simp[pK]
theorem sM {d:Nat} (h:d<10): (UInt8.ofNat (48+d)).toNat=48+d:=by
 rw[UInt8.toNat_ofNat'];omega
theorem uj {d:Nat} (h:d<10):gF (UInt8.ofNat (48+d))=true:=by
 unfold gF
 rw[sM h,aV1,decide_eq_true_eq,decide_eq_true_eq];omega
theorem jo (n:Nat):pK (kE n)=n:=by
 induction n using Nat.strongRecOn with
 |_ n ih=>
  by_cases h:n<10
  · rw[mR h]
    show 0*10+((UInt8.ofNat (48+n)).toNat - 48)=n
    rw[sM h];omega
  · rw[tX (by omega),dp,ih (n / 10) (by omega),sM (by omega)]
    omega
theorem go (n:Nat): ∀b∈kE n,gF b=true:=by
 induction n using Nat.strongRecOn with
 |_ n ih=>
  intro b hb
  by_cases h:n<10
  · rw[mR h] at hb
    rw[aWg] at hb;subst hb
    exact uj h
  · rw[tX (by omega)] at hb
    rcases List.mem_append.1 hb with hb|hb
    · exact ih (n / 10) (by omega) b hb
    · rw[aWg] at hb;subst hb
      exact uj (Nat.mod_lt _ (by decide))
theorem aG6 (n:Nat):kE n≠[]:=by
 by_cases h:n<10
 · rw[mR h];simp
 · rw[tX (by omega)];simp
theorem aM8 (n:Nat): (kE n).getD 0 0=48→n=0:=by
 induction n using Nat.strongRecOn with
 |_ n ih=>
  intro hb
  by_cases h:n<10
  · rw[mR h] at hb
    have h1:=congrArg UInt8.toNat hb
    simp only[List.getD_cons_zero] at h1
    rw[sM h] at h1
    have: (48:UInt8).toNat=48:=rfl
    omega
  · rw[tX (by omega),aV6,List.getElem?_append_left (List.length_pos_iff.2 (aG6 _)),← aV6] at hb
    have:=ih (n / 10) (by omega) hb
    omega
theorem aEm: ∀(n:Nat) (l:List UInt8),l.length=n→l≠[]→(∀b∈l,gF b=true)→(l.getD 0 0=48→l.length=1)→kE (pK l)=l
 |0,l,hn,h,_,_=>absurd (List.eq_nil_of_length_eq_zero hn) h
 |n+1,l0,hn,hne,hd,hz=>by
  obtain⟨l,b,rfl⟩: ∃l b,l0=l++[b]:=by
   rcases List.eq_nil_or_concat l0 with h|⟨L,b,h⟩
   · exact absurd h hne
   · exact⟨L,b,by rw[h,List.concat_eq_append]⟩
  have hb:=hd b (by simp)
  simp only[gF,aV1,decide_eq_true_eq] at hb
  have hbb:UInt8.ofNat (48+(b.toNat - 48))=b:=by
   apply UInt8.toNat_inj.1
   rw[UInt8.toNat_ofNat'];omega
  by_cases hl:l=[]
  · subst hl
    show kE (0*10+(b.toNat - 48))=[b]
    rw[Nat.zero_mul,Nat.zero_add,mR (by omega),hbb]
  · have hlen:0<l.length:=List.length_pos_iff.2 hl
    have hh: (l++[b]).getD 0 0=l.getD 0 0:=by
     rw[aV6,aV6,List.getElem?_append_left hlen]
    have hz2:l.getD 0 0≠48:=fun e=>by
     have:=hz (hh.trans e)
     rw[aVz] at this
     have h9:l.length+1=1:=this
     omega
    have ih2:=aEm n l (by simpa using hn) hl (fun x hx=>hd x (List.mem_append_left _ hx)) (fun e=>absurd e hz2)
    have hv:1≤pK l:=by
     by_cases h0:pK l=0
     · rw[h0] at ih2
       rw[← ih2] at hz2
       exact absurd rfl hz2
     · omega
    rw[dp,tX (by omega),show(pK l*10+(b.toNat - 48)) / 10=pK l by omega,show(pK l*10+(b.toNat - 48)) % 10=b.toNat - 48 by omega,ih2,hbb]
set_option linter.unusedVariables false
def bu (s:List UInt8):Bool:=s.all gF
def jF (s:List UInt8):Option Nat:=if(1≤s.length∧s.length≤5)∧ ¬(s.getD 0 0=48∧1<s.length)∧bu s=true then some (pK s) else none
def gG (s:List UInt8):Int:=if(1≤s.length∧s.length≤4)∧bu s=true∧kE (pK s)=s then pK s else -1
theorem wA {s:List UInt8} (h1:1≤s.length) (hd:bu s=true):kE (pK s)=s↔ ¬(s.getD 0 0=48∧1<s.length):=by
 have hne:s≠[]:=fun e=>by subst e;simp at h1
 have hd': ∀b∈s,gF b=true:=aWf.1 hd
 constructor
 · rintro e ⟨h2,h3⟩
   have h4:pK s=0:=aM8 (pK s) (by rw[e];exact h2)
   rw[h4] at e
   have:s.length=1:=by rw[← e];rfl
   omega
 · intro h
   exact aEm s.length s rfl hne hd' fun h2=>by
    by_cases h3:1<s.length
    · exact absurd ⟨h2,h3⟩ h
    · omega
theorem xK {s:List UInt8} (h:s.length≤4):gG s=match jF s with|some n=>(n:Int)|none=> -1:=by
 unfold gG jF
 by_cases h1:1≤s.length
 · by_cases hd:bu s=true
   · by_cases hw: ¬(s.getD 0 0=48∧1<s.length)
     · rw[if_pos ⟨⟨h1,h⟩,hd,(wA h1 hd).2 hw⟩,if_pos ⟨⟨h1,by omega⟩,hw,hd⟩]
     · rw[if_neg (fun e=>hw ((wA h1 hd).1 e.2.2)),if_neg (fun e=>hw e.2.1)]
   · rw[if_neg (fun e=>hd e.2.1),if_neg (fun e=>hd e.2.2)]
 · rw[if_neg (fun e=>h1 e.1.1),if_neg (fun e=>h1 e.1.1)]
theorem sf: ∀(n:Nat) (s:List UInt8),s.length=n→(∀b∈s,gF b=true)→pK s<10 ^ n
 |0,s,hn,_=>by rw[List.eq_nil_of_length_eq_zero hn];decide
 |n+1,s0,hn,hd=>by
  obtain⟨s,b,rfl⟩: ∃l b,s0=l++[b]:=by
   rcases List.eq_nil_or_concat s0 with h|⟨L,b,h⟩
   · rw[h] at hn;simp at hn
   · exact⟨L,b,by rw[h,List.concat_eq_append]⟩
  have hb:=hd b (by simp)
  simp only[gF,aV1,decide_eq_true_eq] at hb
  have ih:=sf n s (by simpa using hn) fun x hx=>hd x (List.mem_append_left _ hx)
  rw[dp,Nat.pow_succ]
  omega
theorem aKc {s:List UInt8} {i:Nat} (h:i<s.length):pK (s.take (i+1))=pK (s.take i)*10+((s.getD i 0).toNat - 48):=by
 rw[List.take_add_one,aV8 h]
 rw[show s[i]=s.getD i 0 by rw[aV6,aV8 h];rfl]
 exact dp _ _
set_option linter.unusedVariables false
def bv (s:List UInt8):Nat→Nat→Option Nat
 |0,_=>none
 |f+1,i=>if i<s.length then(if s.getD i 0=58 then some i else bv s f (i+1)) else none
def yV (s:List UInt8):Option Nat:=bv s 3 0
def jH (s:List UInt8):Option (List UInt8×Nat):=
 match yV s with
 |none=>none
 |some i=>match jF (s.take i) with
  |none=>none
  |some n=>if 1≤n∧n≤60∧i+2+n≤s.length∧s.getD (i+1+n) 0=59 then some ((s.take (i+1+n)).drop (i+1),i+2+n) else none
theorem bw {s:List UInt8}: ∀{f i k:Nat},bv s f i=some k→i≤k∧k<i+f∧k<s.length∧s.getD k 0=58∧ ∀j,i≤j→j<k→s.getD j 0≠58
 |0,i,k,h=>by cases h
 |f+1,i,k,h=>by
  unfold bv at h
  split at h
  · rename_i h1
    split at h
    · rename_i h2
      cases h
      exact⟨aWa _,by omega,h1,h2,fun j h3 h4=>by omega⟩
    · rename_i h2
      obtain⟨q1,q2,q3,q4,q5⟩:=bw h
      refine⟨by omega,by omega,q3,q4,fun j h3 h4=> ?_⟩
      by_cases e:j=i
      · subst e;exact h2
      · exact q5 j (by omega) h4
  · cases h
theorem aAv {s:List UInt8}: ∀{f i k:Nat},i≤k→k<i+f→k<s.length→s.getD k 0=58→(∀j,i≤j→j<k→s.getD j 0≠58)→bv s f i=some k
 |0,i,k,h1,h2,_,_,_=>by omega
 |f+1,i,k,h1,h2,h3,h4,h5=>by
  unfold bv
  rw[if_pos (by omega)]
  by_cases e:i=k
  · subst e;rw[if_pos h4]
  · rw[if_neg (h5 i (aWa _) (by omega))]
    exact aAv (by omega) (by omega) h3 h4 fun j h6 h7=>h5 j (by omega) h7
theorem aAw {s:List UInt8}: ∀{f i:Nat},(∀j,i≤j→j<i+f→j<s.length→s.getD j 0≠58)→bv s f i=none
 |0,i,_=>rfl
 |f+1,i,h=>by
  unfold bv
  split
  · rename_i h1
    rw[if_neg (h i (aWa _) (by omega) h1)]
    exact aAw fun j h2 h3=>h j (by omega) (by omega)
  · rfl
theorem rM {s r:List UInt8} {n:Nat} (h:jH s=some (r,n)):3≤n∧n≤s.length∧n≤64∧r.length≤60∧1≤r.length:=by
 unfold jH at h
 split at h
 · cases h
 · rename_i i hi
   obtain⟨q1,q2,q3,q4,q5⟩:=bw hi
   split at h
   · cases h
   · rename_i m hm
     split at h
     · rename_i hc
       cases h
       have h1:1≤(s.take i).length:=by
        unfold jF at hm
        split at hm
        · rename_i h9;exact h9.1.1
        · cases hm
       rw[aV4] at h1
       refine⟨by omega,by omega,by omega,?_,?_⟩<;>rw[aV7,aV4]<;>omega
     · cases h
def en:Nat→List UInt8→List (List UInt8)×Nat
 |0,_=>([],0)
 |f+1,s=>match jH s with
  |none=>([],0)
  |some (r,n)=>(r::(en f (s.drop n)).1,n+(en f (s.drop n)).2)
def cG (s:List UInt8):List (List UInt8)×Nat:=en s.length s
theorem uS:jH []=none:=rfl
theorem nh: ∀{f g:Nat} {s:List UInt8},s.length≤f→s.length≤g→en f s=en g s
 |0,0,s,_,_=>rfl
 |0,g+1,s,h,_=>by
  obtain rfl:s=[]:=List.eq_nil_of_length_eq_zero (by omega)
  simp[en,uS]
 |f+1,0,s,_,h=>by
  obtain rfl:s=[]:=List.eq_nil_of_length_eq_zero (by omega)
  simp[en,uS]
 |f+1,g+1,s,h1,h2=>by
  unfold en
  cases hr:jH s with
  |none=>rfl
  |some p=>
   obtain⟨r,n⟩:=p
   have:=rM hr
   have e:=nh (f:=f) (g:=g) (s:=s.drop n) (by rw[aV7];omega) (by rw[aV7];omega)
   simp only[e]
theorem iE {s:List UInt8} (h:jH s=none):cG s=([],0):=by
 unfold cG
 cases s with
 |nil=>rfl
 |cons b t=>simp[en,h]
theorem qG {s r:List UInt8} {n:Nat} (h:jH s=some (r,n)):cG s=(r::(cG (s.drop n)).1,n+(cG (s.drop n)).2):=by
 have h1:=rM h
 unfold cG
 rw[nh (f:=s.length) (g:=(s.length - 1)+1) (aWa _) (by omega)]
 conv=>lhs;unfold en
 rw[h]
 simp only
 rw[nh (f:=s.length - 1) (g:=(s.drop n).length) (by rw[aV7];omega) (aWa _)]
theorem yW: ∀(k:Nat) (s:List UInt8),s.length≤k→(cG s).2≤s.length∧(cG s).1.length≤s.length
 |0,s,h=>by
  obtain rfl:s=[]:=List.eq_nil_of_length_eq_zero (by omega)
  rw[iE uS];simp
 |k+1,s,h=>by
  cases hr:jH s with
  |none=>rw[iE hr];simp
  |some p=>
   obtain⟨r,n⟩:=p
   have h1:=rM hr
   have ih:=yW k (s.drop n) (by rw[aV7];omega)
   rw[aV7] at ih
   rw[qG hr]
   simp only[aV3]
   omega
def eJ (log:List UInt8) (forced:Int):Bool:=
 decide (log.length≤2400)&&fG forced 0 log.length&&decide ((cG log).2=log.length)&&decide (((cG (log.take forced.toNat)).2:Int)=forced)
set_option linter.unusedVariables false
theorem tY {l:List bA} {i:Nat} {E c:Bool} (h: (!fA (l.getD i .zero)||decide ((i:Int)>0)&& !E)=c) (hE:0<i→E=cK (l.getD (i - 1) .zero).frm (l.getD (i - 1) .zero).num (l.getD i .zero).frm (l.getD i .zero).num):lD l i= !c:=by
 subst h
 unfold lD
 by_cases h0:i=0
 · subst h0;simp
 · rw[hE (by omega)]
   have h1:decide ((i:Int)>0)=true:=decide_eq_true (by omega)
   have h2: (i==0)=false:=by simpa using h0
   rw[h1,h2,Bool.true_and,Bool.false_or,Bool.not_or,Bool.not_not,Bool.not_not]
theorem tZ {l:List cM} {i:Nat} {E c:Bool} (h: (!lC (l.getD i .zero)||decide ((i:Int)>0)&& !E)=c) (hE:0<i→E=cK (l.getD (i - 1) .zero).frm (l.getD (i - 1) .zero).num (l.getD i .zero).frm (l.getD i .zero).num):mF l i= !c:=by
 subst h
 unfold mF
 by_cases h0:i=0
 · subst h0;simp
 · rw[hE (by omega)]
   have h1:decide ((i:Int)>0)=true:=decide_eq_true (by omega)
   have h2: (i==0)=false:=by simpa using h0
   rw[h1,h2,Bool.true_and,Bool.false_or,Bool.not_or,Bool.not_not,Bool.not_not]
theorem eQ {i:Nat} (h:0<i) (hl:i≤1000000):wrap64 ((i:Int) - 1)=((i - 1:Nat):Int):=by
 rw[aB (by omega)];omega
end Go.Ab
namespace Go.Ab
open Int renaming toNat_natCast→aVy,tmod→aWe
open List renaming length_append→aVz,length_nil→aV2,length_cons→aV3,length_take→aV4,getD_eq_getElem?_getD→aV6,length_drop→aV7,getElem?_eq_getElem→aV8,getElem?_eq_some_iff→aV9,range→aWb,mem_map→aWc,take_length→aWd,all_eq_true→aWf,mem_singleton→aWg
open Nat renaming le_of_ble_eq_true→aV0,zero_le→aV5,le_refl→aWa,add_mul→aWh
open Bool renaming and_eq_true→aV1
open Go Go.RowKit
abbrev bO.V (k:bO):V:= .e (.agg [.d (.i k.id),.d (.i k.time),.d (.i k.next),.d (.sl (aE k.held)),.d (.sl (aQ k.marks)),.d (.sl (aE k.inbox))])
theorem aAx (a b:Int):decide (a≥b)= !decide (a<b):=by
 by_cases h:a<b
 · simp[h,Int.not_le.2 h]
 · simp[h,Int.not_lt.1 h]
theorem yX {k:bO} {i:Nat} {c:Bool} (h: ((k.held.getD i .zero).frm==k.id&&decide ((k.held.getD i .zero).num≥k.next)||decide ((k.held.getD i .zero).til≤k.time)|| !al k.id (k.held.getD i .zero)||decide (iT k.marks (k.held.getD i .zero).frm (k.held.getD i .zero).num≥0))=c):tC k i= !c:=by
 subst h
 unfold tC
 simp only[aAx,Bool.not_or,Bool.not_not]
theorem yY {k:bO} {i:Nat} {c:Bool} (h: ((k.marks.getD i .zero).frm==k.id&&decide ((k.marks.getD i .zero).num≥k.next)||decide ((k.marks.getD i .zero).til≤k.time))=c):wV k i= !c:=by
 subst h
 unfold wV
 simp only[aAx,Bool.not_or,Bool.not_not]
theorem wB {k:bO} {i:Nat} {c:Bool} (h: ((k.inbox.getD i .zero).frm==k.id&&decide ((k.inbox.getD i .zero).num≥k.next)||(k.inbox.getD i .zero).to != k.id||decide ((k.inbox.getD i .zero).til>k.time)&&decide (iT k.marks (k.inbox.getD i .zero).frm (k.inbox.getD i .zero).num<0))=c):sA k i= !c:=by
 subst h
 unfold sA
 simp only[aAx,Bool.not_or,Bool.not_not,bne,gt_iff_lt]
theorem cH (k:bO):eG k=true↔(eA k.id=true∧(0≤k.time∧k.time≤999)∧(1≤k.next∧k.next≤100)∧k.held.length≤6∧k.marks.length≤12∧k.inbox.length≤6)∧(jL k.held=true∧nX k.marks=true∧jL k.inbox=true)∧
 (aWb k.held.length).all (tC k)=true∧(aWb k.marks.length).all (wV k)=true∧(aWb k.inbox.length).all (sA k)=true:=by
 simp only[eG,fG,aV1,decide_eq_true_eq]
 constructor
 · rintro⟨⟨⟨⟨⟨⟨⟨⟨⟨⟨⟨h1,h2⟩,h3⟩,h4⟩,h5⟩,h6⟩,h7⟩,h8⟩,h9⟩,h10⟩,h11⟩,h12⟩
   exact⟨⟨h1,h2,h3,h4,h5,h6⟩,⟨h7,h8,h9⟩,h10,h11,h12⟩
 · rintro⟨⟨h1,h2,h3,h4,h5,h6⟩,⟨h7,h8,h9⟩,h10,h11,h12⟩
   exact⟨⟨⟨⟨⟨⟨⟨⟨⟨⟨⟨h1,h2⟩,h3⟩,h4⟩,h5⟩,h6⟩,h7⟩,h8⟩,h9⟩,h10⟩,h11⟩,h12⟩
theorem nY {k:bO} (h: ¬eG k=true):eG k=false:=by simpa using h
set_option linter.unusedVariables false
theorem aIx (n:Nat): (kE n).length≤n+1:=by
 induction n using Nat.strongRecOn with
 |_ n ih=>
  by_cases h:n<10
  · rw[mR h];simp
  · rw[tX (by omega),aVz]
    have:=ih (n / 10) (by omega)
    simp only[aV3,aV2];omega
theorem aEn {d:Nat} (h:d<10):u8 (wrap64 (48+(d:Int)))=UInt8.ofNat (48+d):=by
 rw[aB (by omega)]
 apply UInt8.toNat_inj.1
 have h1:=jl (48+(d:Int))
 rw[sM h]
 unfold iA at h1
 omega
theorem qd {s:List UInt8} {i:Nat} (h: ∀k,k<i→gF (s.getD k 0)=true) (hi:i≤s.length): ∀b∈s.take i,gF b=true:=by
 intro b hb
 obtain⟨k,hk⟩:=List.mem_iff_getElem?.1 hb
 have hlt:k<i:=by
  have:=(aV9.1 hk).1
  rw[aV4] at this;omega
 rw[List.getElem?_take_of_lt hlt] at hk
 have:=h k hlt
 rw[aV6,hk] at this
 exact this
theorem aAy {s:List UInt8} (h: ∀k,k<s.length→gF (s.getD k 0)=true):bu s=true:=by
 have:=qd h (aWa _)
 rw[aWd] at this
 exact aWf.2 this
theorem uk {s:List UInt8} {k:Nat} (hk:k<s.length) (h:gF (s.getD k 0)=false):bu s=false:=by
 unfold bu
 rw[List.all_eq_false]
 refine⟨s.getD k 0,?_,by rw[h];decide⟩
 rw[aV6,aV8 hk]
 exact List.getElem_mem _
theorem ul (s:List UInt8) (i:Nat):gF (s.getD i 0)=fG (gY s i) 48 57:=by
 unfold gF fG gY
 congr 1<;>(apply decide_eq_decide.2;omega)
theorem aEo {s:List UInt8} {i a:Nat} (hi:i<s.length) (hd:gF (s.getD i 0)=true) (ha:pK (s.take i)=a) (hb:a<1000000):
 wrap64 (wrap64 (10*(a:Int))+wrap64 (iA (((s.getD i 0).toNat:Int) - 48)))=(pK (s.take (i+1)):Nat)∧wrap64 (wrap64 ((a:Int)*10)+wrap64 (iA (((s.getD i 0).toNat:Int) - 48)))=(pK (s.take (i+1)):Nat):=by
 rw[aKc hi,ha]
 simp only[gF,aV1,decide_eq_true_eq] at hd
 have h8:iA (((s.getD i 0).toNat:Int) - 48)=((s.getD i 0).toNat:Int) - 48:=by unfold iA;omega
 rw[h8,aB (n:=((s.getD i 0).toNat:Int) - 48) (by omega),aB (n:=10*(a:Int)) (by omega),aB (n:=(a:Int)*10) (by omega),aB (by omega),aB (by omega)]
 omega
theorem ni {s:List UInt8} {i:Nat} (h: ∀k,k<i→gF (s.getD k 0)=true) (hi:i≤s.length) (h5:i≤5):pK (s.take i)<100000:=
 Nat.lt_of_lt_of_le (sf i (s.take i) (by rw[aV4];omega) (qd h hi)) (Nat.pow_le_pow_right (by decide) h5)
set_option linter.unusedVariables false
theorem yZ (t:List UInt8): -1≤gG t∧gG t≤9999:=by
 unfold gG
 split
 · rename_i h
   have h1:=sf t.length t rfl (aWf.1 h.2.1)
   have h2:10 ^ t.length≤10 ^ 4:=Nat.pow_le_pow_right (by decide) h.1.2
   have h3: (10:Nat) ^ 4=10000:=rfl
   omega
 · omega
theorem aM9 {s:List UInt8} {i:Nat} (hc:yV s=some i):
 jH s=if 1≤gG (s.take i)∧gG (s.take i)≤60∧i+2+(gG (s.take i)).toNat≤s.length∧s.getD (i+1+(gG (s.take i)).toNat) 0=59 then some ((s.take (i+1+(gG (s.take i)).toNat)).drop (i+1),i+2+(gG (s.take i)).toNat) else none:=by
 obtain⟨q1,q2,q3,q4,q5⟩:=bw hc
 have hd:=xK (s:=s.take i) (by rw[aV4];omega)
 unfold jH
 rw[hc]
 simp only
 cases hn:jF (s.take i) with
 |none=>
  rw[hn] at hd
  simp only at hd
  rw[if_neg (by omega)]
 |some n=>
  rw[hn] at hd
  simp only at hd
  rw[hd]
  simp only[aVy]
  by_cases h:1≤n∧n≤60∧i+2+n≤s.length∧s.getD (i+1+n) 0=59
  · rw[if_pos h,if_pos ⟨by omega,by omega,h.2.2.1,h.2.2.2⟩]
  · rw[if_neg h,if_neg (fun e=>h ⟨by omega,by omega,e.2.2.1,e.2.2.2⟩)]
def aKd (s:List UInt8):List UInt8:=match jH s with|some p=>p.1|none=>[]
def aCj (s:List UInt8):Nat:=match jH s with|some p=>p.2|none=>0
theorem aAz {s:List UInt8}:aCj s=0↔jH s=none:=by
 unfold aCj
 cases h:jH s with
 |none=>simp
 |some p=>
  obtain⟨r,n⟩:=p
  have:=rM h
  simp;omega
theorem jp {s:List UInt8} (h: ∀j,j<3→j<s.length→s.getD j 0≠58):yV s=none:=aAw fun j _ h2 h3=>h j (by omega) h3
theorem um {s:List UInt8} {i:Nat} (h3:i<3) (hi:i<s.length) (hc:s.getD i 0=58) (h: ∀j,j<i→s.getD j 0≠58):yV s=some i:=aAv (aV5 _) (by omega) hi hc fun j _ h2=>h j h2
theorem ep {s:List UInt8} (h:yV s=none):jH s=none:=by unfold jH;rw[h]
set_option linter.unusedVariables false
def iU (t:List UInt8):Int:=match jF t with|some n=>(n:Int)|none=>0
theorem aG7 (t:List UInt8):0≤iU t∧iU t≤99999:=by
 unfold iU jF
 split
 · rename_i n h
   split at h
   · rename_i hc
     cases h
     have h1:=sf t.length t rfl (aWf.1 hc.2.2)
     have h2:10 ^ t.length≤10 ^ 5:=Nat.pow_le_pow_right (by decide) hc.1.2
     have h3: (10:Nat) ^ 5=100000:=rfl
     omega
   · cases h
 · omega
theorem aNa (s:List UInt8) (a i:Nat): (s.take (a+i)).drop a=(s.drop a).take i:=by
 rw[List.drop_take];congr 1;omega
theorem xL (s:List UInt8) (a j:Nat): (s.drop a).getD j 0=s.getD (a+j) 0:=by
 rw[aV6,aV6,List.getElem?_drop]
theorem aKe {t:List UInt8} (h3:t.length=3) {n:Nat} (h:jF t=some n):100≤n:=by
 unfold jF at h
 split at h
 · rename_i hc
   cases h
   match t,h3 with
   | [x,y,z],_=>
    have hd:=aWf.1 hc.2.2
    have hx:=hd x (by simp)
    simp only[gF,aV1,decide_eq_true_eq] at hx
    have hx0:x≠48:=fun e=>hc.2.1 ⟨e,by simp⟩
    have hx1:x.toNat≠48:=fun e=>hx0 (UInt8.toNat_inj.1 e)
    show 100≤((0*10+(x.toNat - 48))*10+(y.toNat - 48))*10+(z.toNat - 48)
    omega
 · cases h
section
variable {s:List UInt8} {a c:Nat}
theorem xM (hk: ∀j,a≤j→j<c→s.getD j 0≠58) (h:s.length≤c∨a+3≤c):jH (s.drop a)=none:=by
 refine ep (jp fun j h3 hj=> ?_)
 rw[aV7] at hj
 rw[xL]
 exact hk (a+j) (by omega) (by omega)
theorem aP1 (ha:a≤c) (hk: ∀j,a≤j→j<c→s.getD j 0≠58) (h3:c<a+3) (hc:c<s.length) (h58:s.getD c 0=58):yV (s.drop a)=some (c - a):=by
 refine um (by omega) (by rw[aV7];omega) (by rw[xL,show a+(c - a)=c by omega];exact h58) fun j hj=> ?_
 rw[xL]
 exact hk (a+j) (by omega) (by omega)
def aTx (s:List UInt8) (a c:Nat):Prop:= ∃n,jF ((s.take c).drop a)=some n∧1≤n∧n≤60∧c+1+n<s.length∧s.getD (c+1+n) 0=59
theorem aNb (ha:a≤c) (hk: ∀j,a≤j→j<c→s.getD j 0≠58) (h3:c≤a+3) (hc:c<s.length) (h58:s.getD c 0=58):
 (¬aTx s a c→jH (s.drop a)=none)∧(∀n,jF ((s.take c).drop a)=some n→1≤n→n≤60→c+1+n<s.length→s.getD (c+1+n) 0=59→jH (s.drop a)=some ((s.take (c+1+n)).drop (c+1),c+2+n - a)):=by
 have hcut: (s.take c).drop a=(s.drop a).take (c - a):=by rw[← aNa,show a+(c - a)=c by omega]
 have hlen: ((s.take c).drop a).length=c - a:=by rw[aV7,aV4];omega
 by_cases h4:c=a+3
 · have hno:jH (s.drop a)=none:=xM hk (.inr (by omega))
   refine⟨fun _=>hno,fun n h1 h2 h5 h6 h7=> ?_⟩
   have:=aKe (by rw[hlen];omega) h1
   omega
 · have hcol:=aP1 ha hk (by omega) hc h58
   have key: ∀n,jF ((s.take c).drop a)=some n→1≤n→n≤60→c+1+n<s.length→s.getD (c+1+n) 0=59→jH (s.drop a)=some ((s.take (c+1+n)).drop (c+1),c+2+n - a):=by
    intro n h1 h2 h5 h6 h7
    unfold jH
    rw[hcol]
    simp only
    rw[← hcut,h1]
    simp only
    rw[if_pos ⟨h2,h5,by rw[aV7];omega,by rw[xL,show a+(c - a+1+n)=c+1+n by omega];exact h7⟩]
    congr 2
    · rw[← aNa,List.drop_drop,show a+(c - a+1+n)=c+1+n by omega,show a+(c - a+1)=c+1 by omega]
    · omega
   refine⟨fun hno=> ?_,key⟩
   unfold jH
   rw[hcol]
   simp only
   rw[← hcut]
   cases hn:jF ((s.take c).drop a) with
   |none=>rfl
   |some n=>
    simp only
    rw[if_neg]
    rintro⟨h1,h2,h5,h6⟩
    rw[aV7] at h5
    rw[xL,show a+(c - a+1+n)=c+1+n by omega] at h6
    exact hno ⟨n,hn,h1,h2,by omega,h6⟩
end
open Go Go.RowKit Go.Sort
set_option linter.unusedVariables false
set_option linter.unusedSimpArgs false
theorem jq {P:Program} {f:FuncId} {ds:List D} {X:V} (hc:gi P f) (h: ∀(S:Nat→Prop) (w:World) (args:Array Value),aJf P w→args.size=ds.length→(∀(i:Nat) d v,ds[i]? =some d→args[i]? =some v→DR w S d v)→
 Calls P f args w fun e w'=> ∃v S',e= .returned v∧Fr (fun _=>False) w w'∧(∀σ ι,lJ σ ι w' S' X v)∧ ∀b,S' b→w.heap.size≤b∧b<w'.heap.size):Spec P f ds.length (eL 0 (ds.map Dv)) [(.t 0,.v X)]:=by
 refine⟨hc,fun ι ν S w args hgb hvr hsz hargs=>nH (fun e w'=> ?_) (h S w args (hgb w (Fr.refl _ _)) hsz fun i d v hi hv=> ?_)⟩
 · rintro⟨v,S',rfl,hfr,hx,hS⟩
   refine⟨v,fun _=>undef,S',rfl,hfr.weak (fun _ h=>h.elim),⟨fun s k hk=> ?_,fun o k hk=> ?_,fun o b hm2=> ?_,fun o o' b hm2=> ?_,fun b hb=>(hS b hb).2⟩,fun b hb=> .inr (.inl (hS b hb).1),fun o b hm2=> ?_,fun o k k' hk hk'=> ?_⟩
   · simp only[aR] at hk
     split at hk
     · rename_i e3;cases e3;cases hk;exact hx _ _
     · cases hk
   · simp[aR] at hk
   · obtain⟨⟨k,hk,_⟩,_⟩:=hm2;simp[aR] at hk
   · obtain⟨⟨k,hk,_⟩,_⟩:=hm2;simp[aR] at hk
   · obtain⟨⟨k,hk,_⟩,_⟩:=hm2;simp[aR] at hk
   · simp[aR] at hk'
 · have hlt:i<ds.length:=(aV9.1 hi).1
   have hv2:=hargs i hlt
   rw[hv] at hv2
   cases hv2
   have hl:aR (eL 0 (ds.map Dv)) (.t i)=some (.v (Dv d)):=by
    have:=pI 0 (ds.map Dv) [] i (aV5 _) (by simpa using hlt)
    rw[List.append_nil] at this
    rw[this];simp[hi]
   exact hvr.slots i _ hl
theorem aIy (w:World) (k:Nat):Fr (fun _=>False) w (w.drewN k):=⟨rfl,rfl,rfl,aWa _,fun _ _ _=>rfl⟩
theorem aCk (w:World) (os:Array Obj):Fr (fun _=>False) w (grow w os):=
 ⟨rfl,rfl,rfl,by simp[grow],fun b hb _=>by simp[grow,Array.getElem?_append_left hb]⟩
theorem nj {P:Program} {w:World} (h:aJf P w) {g:Nat} (hg:P.globalNamed "internal/bytealg.MaxLen" =some g): ∃m,w.cell? ⟨g,0,none⟩=some (.int .i64 m):=by
 obtain⟨_,m,hm⟩:=h
 refine⟨m,?_⟩
 unfold World.var? at hm
 rw[hg] at hm
 simp only[Option.bind_some] at hm
 split at hm
 · rename_i cs t fz hh
   cases hm
   unfold World.cell?
   simp[hh]
 · cases hm
theorem bytesOf (l:List UInt8): (⟨l.toArray⟩:ByteArray).data.toList=l:=rfl
theorem DR.s_inv {w:World} {S:Nat→Prop} {l:List UInt8} {v:Value} (h:DR w S (.s l) v):v= .string ⟨l.toArray⟩:=by cases h;rfl
theorem DR.i_inv {w:World} {S:Nat→Prop} {n:Int} {v:Value} (h:DR w S (.i n) v):v= .int .i64 n:=by cases h;rfl
theorem aP2 (n:Nat):Lib.decDigits n=kE n:=by
 induction n using Nat.strongRecOn with
 |_ n ih=>
  unfold Lib.decDigits
  by_cases h:n<10
  · rw[dif_pos h,mR h]
  · rw[dif_neg h,tX (by omega),ih (n / 10) (by omega)]
theorem aKf {P:Program} {f:FuncId} (hc:gi P f) (n:Nat) (hn:n≤1000000)
 (h: ∀(w:World),Lib.TabIs P w "internal/strconv.uint64pow10" .u64 Lib.pow10Tab→Calls P f #[.int .i64 n] w fun e w'=>e= .returned (.string ⟨(Lib.itoa n).toArray⟩)∧ ∃k os,w'=grow (w.drewN k) os):
 Spec P f 1 [(.t 0,.v (I n))] [(.t 0,.v (Dv (.s (kE n))))]:=by
 refine jq (ds:=[.i n]) hc fun S w args hg hsz ha=> ?_
 have ha0:=ha 0 (.i n) (args[0]'(by rw[hsz];simp)) rfl (Array.getElem?_eq_getElem (by rw[hsz];simp))
 have e:args= #[.int .i64 n]:=by
  apply Array.ext
  · rw[hsz];rfl
  · intro i h1 h2
    have:i=0:=by have:i<1:=by simpa using h2
                 omega
    subst this
    exact ha0.i_inv
 subst e
 refine nH (fun e w'=> ?_) (h w hg.1)
 rintro⟨rfl,k,os,rfl⟩
 have e2:Lib.itoa (n:Int)=kE n:=by
  unfold Lib.itoa
  rw[if_neg (by omega),aVy,aP2]
 exact⟨_,fun _=>False,rfl,(aIy w k).trans (aCk _ os) (fun _ _ h=>h),fun σ ι=>by rw[e2];exact DR.s _,fun b hb=>hb.elim⟩
def bG (s:List UInt8):List UInt8:=s.takeWhile (· != 32)
def aN (s:List UInt8):List UInt8:=(s.dropWhile (· != 32)).drop 1
def fS (s:List UInt8):Bool:=s.any (· ==32)
def iN:Nat→List UInt8→List (List UInt8)
 |0,s=>[s]
 |n+1,s=>if fS s then bG s::iN n (aN s) else [s]
theorem fT: ∀(s:List UInt8),(fS s=true→Lib.indexByte s 32=(bG s).length∧s.take (bG s).length=bG s∧s.drop ((bG s).length+1)=aN s∧(bG s).length<s.length)∧(fS s=false→Lib.indexByte s 32= -1∧bG s=s∧aN s=[])
 | []=>⟨fun h=>by simp[fS] at h,fun _=>⟨rfl,rfl,rfl⟩⟩
 |b::l=>by
  obtain⟨h1,h2⟩:=fT l
  unfold Lib.indexByte
  by_cases hb:b=32
  · subst hb
    refine⟨fun _=> ?_,fun h=>by simp[fS] at h⟩
    simp[bG,aN]
  · have e1:fS (b::l)=fS l:=by simp[fS,hb]
    have e2:bG (b::l)=b::bG l:=by simp[bG,hb]
    have e3:aN (b::l)=aN l:=by simp[aN,hb]
    rw[if_neg (by simpa using hb),e1,e2,e3]
    refine⟨fun h=> ?_,fun h=> ?_⟩
    · obtain⟨q1,q2,q3,q4⟩:=h1 h
      rw[q1,if_neg (by simp)]
      refine⟨by simp,by simp[q2],by simpa using q3,by simpa using q4⟩
    · obtain⟨q1,q2,q3⟩:=h2 h
      rw[q1,if_pos (by decide)]
      exact⟨rfl,by rw[q2],q3⟩
theorem aP3 (s:List UInt8):Lib.cut s [32]=(bG s,aN s,fS s):=by
 obtain⟨h1,h2⟩:=fT s
 unfold Lib.cut
 rw[Lib.index_one]
 cases h:fS s with
 |true=>
  obtain⟨q1,q2,q3,q4⟩:=h1 h
  rw[q1,if_pos (by omega),aVy,q2]
  show(_,List.drop ((bG s).length+1) s,_)=_
  rw[q3]
 |false=>
  obtain⟨q1,q2,q3⟩:=h2 h
  rw[q1,if_neg (by decide),q2,q3]
theorem aA0: ∀(n:Nat) (s:List UInt8),Lib.splitK [32] 0 n s=iN n s
 |0,s=>rfl
 |n+1,s=>by
  obtain⟨h1,h2⟩:=fT s
  unfold Lib.splitK iN
  rw[Lib.index_one]
  cases h:fS s with
  |true=>
   obtain⟨q1,q2,q3,q4⟩:=h1 h
   rw[q1,if_neg (by simp),if_pos rfl,aVy,Nat.add_zero,q2]
   show _::Lib.splitK [32] 0 n (List.drop ((bG s).length+1) s)=_
   rw[q3,aA0 n]
  |false=>
   obtain⟨q1,q2,q3⟩:=h2 h
   rw[q1,if_pos (by decide),if_neg (by simp)]
theorem aNc {P:Program} {f:FuncId} (hc:gi P f) (s:List UInt8) (hs:s.length≤1000000)
 (h: ∀(w:World),aJf P w→Calls P f #[.string ⟨s.toArray⟩,.string ⟨#[32]⟩] w fun e w'=>e= .returned (.tuple #[.string ⟨(Lib.cut s [32]).1.toArray⟩,.string ⟨(Lib.cut s [32]).2.1.toArray⟩,.bool (Lib.cut s [32]).2.2])∧ ∃n,w'=w.drewN n):
 Spec P f 2 [(.t 0,.v (Dv (.s s))),(.t 1,.v (Dv (.s [32])))] [(.t 0,.v (.tup [.c (.d (.s (bG s))),.c (.d (.s (aN s))),.c (.d (.b (fS s)))]))]:=by
 refine jq (ds:=[.s s,.s [32]]) hc fun S w args hg hsz ha=> ?_
 have ha0:=ha 0 (.s s) (args[0]'(by rw[hsz];simp)) rfl (Array.getElem?_eq_getElem (by rw[hsz];simp))
 have ha1:=ha 1 (.s [32]) (args[1]'(by rw[hsz];simp)) rfl (Array.getElem?_eq_getElem (by rw[hsz];simp))
 have e:args= #[.string ⟨s.toArray⟩,.string ⟨#[32]⟩]:=by
  apply Array.ext
  · rw[hsz];rfl
  · intro i h1 h2
    have:i=0∨i=1:=by have:i<2:=by simpa using h2
                     omega
    rcases this with rfl|rfl
    · exact ha0.s_inv
    · exact ha1.s_inv
 subst e
 refine nH (fun e w'=> ?_) (h w hg)
 rintro⟨rfl,n,rfl⟩
 rw[aP3]
 refine⟨_,fun _=>False,rfl,aIy w n,fun σ ι=>⟨[.string ⟨(bG s).toArray⟩,.string ⟨(aN s).toArray⟩,.bool (fS s)],rfl,rfl,fun k x u hx hu=> ?_⟩,fun b hb=>hb.elim⟩
 match k,hx,hu with
 |0,hx,hu=>cases hx;cases hu;exact DR.s _
 |1,hx,hu=>cases hx;cases hu;exact DR.s _
 |2,hx,hu=>cases hx;cases hu;exact DR.b _
 |k+3,hx,hu=>simp at hx
theorem aIz (w:World) (l:List (List UInt8)) (cs:Array Value) (e:TypeId) (cap:Nat) (hl:l.length≤cap) (hm:cap≤maxLen) (hcs: ∀(i:Nat) x,l[i]? =some x→cs[i]? =some (.string ⟨x.toArray⟩)):
 DR (w.alloc (.cells cs e)) (fun b=>b=w.heap.size) (.sl (aX l)) (.slice (some ⟨w.heap.size,0,none⟩) l.length cap):=by
 have hh: (w.alloc (.cells cs e)).heap[w.heap.size]? =some (.cells cs e (0,0)):=heap_alloc_new w _
 have:=DR.sl (w:=w.alloc (.cells cs e)) (S:=fun b=>b=w.heap.size) (aX l) (some ⟨w.heap.size,0,none⟩) cap 1 ⟨w.heap.size,0,none⟩ (fun i k=> .string ⟨(l.getD i []).toArray⟩)
  (by rw[aM];exact hl) hm (yR l) (fun _=>rfl) (fun i r k d hi hk=> ?_) (fun i r k d hi hk=> ?_)
 · rw[aM] at this;exact this
 · have hi2:i<l.length:=by have:=(aV9.1 hi).1;rwa [aM] at this
   have hr:r=[.s (l.getD i [])]:=by
    have h1:=eN hi2
    rw[aV6,hi] at h1
    exact h1
   subst hr
   have hk0:k=0:=by have:=(aV9.1 hk).1;simp at this;exact this
   subst hk0
   refine⟨rfl,?_⟩
   rw[kU,cell_of_row _ _ _ cs e (0,0) hh]
   rw[show 0+(i*1+0)=i by omega]
   exact hcs i (l.getD i []) (by rw[aV6,aV8 hi2];rfl)
 · have hi2:i<l.length:=by have:=(aV9.1 hi).1;rwa [aM] at this
   have hr:r=[.s (l.getD i [])]:=by
    have h1:=eN hi2
    rw[aV6,hi] at h1
    exact h1
   subst hr
   have hk0:k=0:=by have:=(aV9.1 hk).1;simp at this;exact this
   subst hk0
   cases hk
   exact DR.s _
theorem nk {s:List UInt8} (h:fS s=true): (aN s).length<s.length:=by
 obtain⟨q1,q2,q3,q4⟩:=(fT s).1 h
 rw[← q3,aV7];omega
theorem sN (s:List UInt8):Lib.count s [32]=if fS s=true then 1+Lib.count (aN s) [32] else 0:=by
 obtain⟨h1,h2⟩:=fT s
 cases h:fS s with
 |true=>
  obtain⟨q1,q2,q3,q4⟩:=h1 h
  rw[if_pos rfl,Lib.count_hit (i:=(bG s).length) (by simp) (by rw[Lib.index_one,q1])]
  show 1+Lib.count (List.drop ((bG s).length+1) s) _=_
  rw[q3]
 |false=>
  rw[if_neg (by simp),Lib.count_miss (by rw[Lib.index_one,(h2 h).1])]
theorem un: ∀(n:Nat) (s:List UInt8),Lib.count s [32]=n→(iN n s).length=n+1
 |0,s,h=>rfl
 |n+1,s,h=>by
  rw[sN] at h
  unfold iN
  by_cases hs:fS s=true
  · rw[if_pos hs] at h
    rw[if_pos hs,aV3,un n (aN s) (by omega)]
  · rw[if_neg hs] at h;omega
theorem uo: ∀(n:Nat) (s:List UInt8),(iN n s).length≤n+1∧1≤(iN n s).length
 |0,s=>⟨aWa _,aWa _⟩
 |n+1,s=>by
  unfold iN
  split
  · have:=uo n (aN s)
    rw[aV3];omega
  · simp
theorem aEp: ∀(n m:Nat) (s:List UInt8),s.length≤n→s.length≤m→iN n s=iN m s
 |0,0,s,_,_=>rfl
 |0,m+1,s,h,_=>by
  rw[List.eq_nil_of_length_eq_zero (Nat.le_zero.1 h)];rfl
 |n+1,0,s,_,h=>by
  rw[List.eq_nil_of_length_eq_zero (Nat.le_zero.1 h)];rfl
 |n+1,m+1,s,h1,h2=>by
  unfold iN
  by_cases hs:fS s=true
  · have:=nk hs
    rw[if_pos hs,if_pos hs,aEp n m (aN s) (by omega) (by omega)]
  · rw[if_neg hs,if_neg hs]
theorem aNd (n:Nat) (s:List UInt8):iN (min (n+1) (s.length+1) - 1) s=iN n s:=by
 by_cases h:n≤s.length
 · rw[show min (n+1) (s.length+1) - 1=n by omega]
 · exact aEp _ _ s (by omega) (by omega)
def dE (s:List UInt8):List (List UInt8):=iN (Lib.count s [32]) s
theorem aR8 {args:Array Value} {w:World} {S:Nat→Prop} {s:List UInt8} {rest:List D} {vs:List Value} (hsz:args.size=vs.length) (h: ∀(i:Nat) d v,rest[i]? =some d→args[i]? =some v→DR w S d v) (hl:rest.length=vs.length) (hd: ∀(i:Nat) d v,rest[i]? =some d→DR w S d v→vs[i]? =some v):args=vs.toArray:=by
 apply Array.ext
 · rw[hsz];simp
 · intro i h1 h2
   have hi:i<rest.length:=by rw[hl,← hsz];exact h1
   have h3:=hd i rest[i] args[i] (aV8 hi) (h i rest[i] args[i] (aV8 hi) (Array.getElem?_eq_getElem h1))
   rw[List.getElem_toArray]
   rw[aV8 (by simpa using h2)] at h3
   exact(Option.some.inj h3).symm
theorem qe (n:Nat) (s:List UInt8): (Lib.splitB ⟨#[32]⟩ 0 n ⟨s.toArray⟩).map (·.data.toList)=iN n s:=by
 rw[Lib.splitB_data];exact aA0 n s
theorem aA1 {n:Nat} {s:List UInt8} {i:Nat} {x:List UInt8} (h: (iN n s)[i]? =some x): ((Lib.splitB ⟨#[32]⟩ 0 n ⟨s.toArray⟩).map Value.string)[i]? =some (.string ⟨x.toArray⟩):=by
 rw[← qe,List.getElem?_map] at h
 rw[List.getElem?_map]
 cases hq: (Lib.splitB ⟨#[32]⟩ 0 n ⟨s.toArray⟩)[i]? with
 |none=>rw[hq] at h;cases h
 |some b=>rw[hq] at h;cases h;rfl
theorem aG8 (n:Nat) (s:List UInt8): (Lib.splitB ⟨#[32]⟩ 0 n ⟨s.toArray⟩).length=(iN n s).length:=by rw[← qe,List.length_map]
theorem aG9 {P:Program} {f:FuncId} {e:TypeId} (hc:gi P f) (s:List UInt8) (hs:s.length≤1000000)
 (h: ∀(w:World),aJf P w→Calls P f #[.string ⟨s.toArray⟩,.string ⟨#[32]⟩] w fun ex w'=>ex= .returned (.slice (some ⟨w.heap.size,0,none⟩) (Lib.count s [32]+1) (Lib.count s [32]+1))∧w'=w.alloc (.cells ((Lib.splitB ⟨#[32]⟩ 0 (Lib.count s [32]) ⟨s.toArray⟩).map Value.string).toArray e)):
 Spec P f 2 [(.t 0,.v (Dv (.s s))),(.t 1,.v (Dv (.s [32])))] [(.t 0,.v (Dv (.sl (aX (dE s)))))]:=by
 refine jq (ds:=[.s s,.s [32]]) hc fun S w args hg hsz ha=> ?_
 obtain rfl:args= #[.string ⟨s.toArray⟩,.string ⟨#[32]⟩]:=by
  refine aR8 (s:=s) (vs:=[.string ⟨s.toArray⟩,.string ⟨#[32]⟩]) hsz ha rfl fun i d v hi hd=> ?_
  match i,hi with
  |0,hi=>cases hi;rw[hd.s_inv];rfl
  |1,hi=>cases hi;rw[hd.s_inv];rfl
  |k+2,hi=>simp at hi
 refine nH (fun ex w'=> ?_) (h w hg)
 rintro⟨rfl,rfl⟩
 have hl: (dE s).length=Lib.count s [32]+1:=un _ s rfl
 have hcl:=Lib.count_le s [32]
 refine⟨_,fun b=>b=w.heap.size,rfl,by rw[alloc_eq_grow];exact aCk w _,fun σ ι=> ?_,fun b hb=> ?_⟩
 · have:=aIz w (dE s) ((Lib.splitB ⟨#[32]⟩ 0 (Lib.count s [32]) ⟨s.toArray⟩).map Value.string).toArray e (Lib.count s [32]+1) (by omega) (by unfold maxLen;omega) fun i x hx=>by
    rw[List.getElem?_toArray];exact aA1 hx
   rw[hl] at this
   exact this
 · subst hb
   refine⟨aWa _,?_⟩
   rw[alloc_eq_grow];simp[grow]
theorem aEq {P:Program} {f:FuncId} {e:TypeId} (hc:gi P f) (n:Nat) (s:List UInt8) (hs:s.length≤1000000) (hn:n≤1000)
 (h: ∀(w:World),aJf P w→Calls P f #[.string ⟨s.toArray⟩,.string ⟨#[32]⟩,.int .i64 ((n+1:Nat):Int)] w fun ex w'=>ex= .returned (.slice (some ⟨w.heap.size,0,none⟩) (Lib.splitB ⟨#[32]⟩ 0 (min (n+1) (s.length+1) - 1) ⟨s.toArray⟩).length (min (n+1) (s.length+1)))∧w'=w.alloc (.cells (Lib.cellsOf (Lib.splitB ⟨#[32]⟩ 0 (min (n+1) (s.length+1) - 1) ⟨s.toArray⟩) (min (n+1) (s.length+1))) e)):
 Spec P f 3 [(.t 0,.v (Dv (.s s))),(.t 1,.v (Dv (.s [32]))),(.t 2,.v (I ((n+1:Nat):Int)))] [(.t 0,.v (Dv (.sl (aX (iN n s)))))]:=by
 refine jq (ds:=[.s s,.s [32],.i ((n+1:Nat):Int)]) hc fun S w args hg hsz ha=> ?_
 obtain rfl:args= #[.string ⟨s.toArray⟩,.string ⟨#[32]⟩,.int .i64 ((n+1:Nat):Int)]:=by
  refine aR8 (s:=s) (vs:=[.string ⟨s.toArray⟩,.string ⟨#[32]⟩,.int .i64 ((n+1:Nat):Int)]) hsz ha rfl fun i d v hi hd=> ?_
  match i,hi with
  |0,hi=>cases hi;rw[hd.s_inv];rfl
  |1,hi=>cases hi;rw[hd.s_inv];rfl
  |2,hi=>cases hi;rw[hd.i_inv];rfl
  |k+3,hi=>simp at hi
 refine nH (fun ex w'=> ?_) (h w hg)
 rintro⟨rfl,rfl⟩
 have hcl:=uo (min (n+1) (s.length+1) - 1) s
 refine⟨_,fun b=>b=w.heap.size,rfl,by rw[alloc_eq_grow];exact aCk w _,fun σ ι=> ?_,fun b hb=> ?_⟩
 · have:=aIz w (iN (min (n+1) (s.length+1) - 1) s) (Lib.cellsOf (Lib.splitB ⟨#[32]⟩ 0 (min (n+1) (s.length+1) - 1) ⟨s.toArray⟩) (min (n+1) (s.length+1))) e (min (n+1) (s.length+1)) (by omega) (by unfold maxLen;omega) fun i x hx=>by
    have h1:=aA1 hx
    unfold Lib.cellsOf
    rw[List.getElem?_toArray,List.getElem?_append_left (aV9.1 h1).1]
    exact h1
   rw[← aG8,aNd] at this
   exact this
 · subst hb
   refine⟨aWa _,?_⟩
   rw[alloc_eq_grow];simp[grow]
set_option linter.unusedVariables false
set_option linter.unusedSimpArgs false
def kQ (n:bA):List UInt8:=kE n.frm.toNat++[32]++kE n.num.toNat++[32]++kE n.to.toNat++[32]++kE n.til.toNat++[32]++n.text
def iF (n:bA):List UInt8:=if fA n then kQ n else []
def mG:Nat→List UInt8→List UInt8
 |0,s=>s
 |n+1,s=>aN (mG n s)
def dN (s:List UInt8) (i:Nat):Int:=gG (bG (mG i s))
def eO (n:Nat) (s:List UInt8):List Int:=(aWb n).map (dN s)
theorem bP (n:Nat) (s:List UInt8): (eO n s).length=n:=by simp[eO]
theorem aHa (n:Nat) (s:List UInt8):eO (n+1) s=eO n s++[dN s n]:=by simp[eO,List.range_succ]
theorem uT (s:List UInt8): (aN s).length≤s.length:=by
 cases h:fS s with
 |true=>exact Nat.le_of_lt (nk h)
 |false=>rw[((fT s).2 h).2.2];exact aV5 _
theorem uq (n:Nat) (s:List UInt8): (mG n s).length≤s.length:=by
 induction n with
 |zero=>exact aWa _
 |succ n ih=>exact Nat.le_trans (uT _) ih
theorem dq (s:List UInt8): (bG s).length≤s.length:=by
 cases h:fS s with
 |true=>exact Nat.le_of_lt ((fT s).1 h).2.2.2
 |false=>rw[((fT s).2 h).2.1];exact aWa _
def iG (l:List (List UInt8)):Bool:=l.all fun w=>(jF w).isSome
def kH (l:List (List UInt8)):List Int:=if iG l then l.map iU else []
def bx (t:List UInt8):bA:=⟨dN t 0,dN t 1,dN t 2,dN t 3,mG 4 t⟩
def dZ (t:List UInt8):bA×Bool:=if t=[]∨iF (bx t)≠t then(.zero,false) else(bx t,true)
def oQ (t:List UInt8):bA:=⟨iU ((iN 4 t).getD 0 []),iU ((iN 4 t).getD 1 []),iU ((iN 4 t).getD 2 []),iU ((iN 4 t).getD 3 []),(iN 4 t).getD 4 []⟩
def qf (t:List UInt8):bA×Bool:=if(iN 4 t).length≠5∨iG ((iN 4 t).take 4)=false∨fA (oQ t)=false∨iF (oQ t)≠t then(.zero,false) else(oQ t,true)
theorem qH {w r:List UInt8} (h: ∀b∈w,b≠32):bG (w++32::r)=w∧aN (w++32::r)=r∧fS (w++32::r)=true:=by
 induction w with
 |nil=>exact⟨by simp[bG],by simp[aN],by simp[fS]⟩
 |cons b w ih=>
  have hb:b≠32:=h b (List.mem_cons_self ..)
  obtain⟨h1,h2,h3⟩:=ih fun x hx=>h x (List.mem_cons_of_mem _ hx)
  refine⟨?_,?_,?_⟩
  · rw[List.cons_append]
    have:bG (b::(w++32::r))=b::bG (w++32::r):=by simp[bG,hb]
    rw[this,h1]
  · rw[List.cons_append]
    have:aN (b::(w++32::r))=aN (w++32::r):=by simp[aN,hb]
    rw[this,h2]
  · simp[fS]
theorem vH (n:Nat): ∀b∈kE n,b≠32:=by
 intro b hb e
 have:=go n b hb
 subst e
 exact absurd this (by decide)
theorem cL {k:Nat}: ∀{n:Nat},n<10 ^ (k+1)→(kE n).length≤k+1:=by
 induction k with
 |zero=>
  intro n h
  rw[mR (by simpa using h)];simp
 |succ k ih=>
  intro n h
  by_cases hs:n<10
  · rw[mR hs];simp
  · rw[tX (by omega),aVz]
    have:=ih (n:=n / 10) (by rw[Nat.pow_succ] at h;omega)
    simp;omega
theorem qI {n:Nat} (h:n<100000):jF (kE n)=some n:=by
 have hl: (kE n).length≤5:=cL (k:=4) (by simpa using h)
 have h1:1≤(kE n).length:=List.length_pos_iff.2 (aG6 n)
 have hd:bu (kE n)=true:=aWf.2 (go n)
 unfold jF
 rw[if_pos ⟨⟨h1,hl⟩,(wA h1 hd).1 (by rw[jo]),hd⟩,jo]
theorem vI {n:Nat} (h:n<10000):gG (kE n)=n:=by
 have hl: (kE n).length≤4:=cL (k:=3) (by simpa using h)
 have h1:1≤(kE n).length:=List.length_pos_iff.2 (aG6 n)
 unfold gG
 rw[if_pos ⟨⟨h1,hl⟩,aWf.2 (go n),by rw[jo]⟩,jo]
theorem lQ {n:bA} (h:fA n=true): (0≤n.frm∧n.frm≤3)∧(0≤n.to∧n.to≤3)∧(1≤n.num∧n.num≤99)∧(1≤n.til∧n.til≤999)∧(1≤n.text.length∧n.text.length≤24):=by
 simp only[fA,eA,fG,yU,aV1,decide_eq_true_eq] at h
 omega
theorem gp (n:bA):kQ n=kE n.frm.toNat++32::(kE n.num.toNat++32::(kE n.to.toNat++32::(kE n.til.toNat++32::n.text))):=by simp[kQ]
theorem aA2 {n:bA} (h:fA n=true):bx (kQ n)=n∧(iN 4 (kQ n)).length=5∧iG ((iN 4 (kQ n)).take 4)=true∧oQ (kQ n)=n:=by
 obtain⟨p1,p2,p3,p4,p5⟩:=lQ h
 obtain⟨a1,a2,a3⟩:=qH (r:=kE n.num.toNat++32::(kE n.to.toNat++32::(kE n.til.toNat++32::n.text))) (vH n.frm.toNat)
 obtain⟨b1,b2,b3⟩:=qH (r:=kE n.to.toNat++32::(kE n.til.toNat++32::n.text)) (vH n.num.toNat)
 obtain⟨c1,c2,c3⟩:=qH (r:=kE n.til.toNat++32::n.text) (vH n.to.toNat)
 obtain⟨d1,d2,d3⟩:=qH (r:=n.text) (vH n.til.toNat)
 have hc:iN 4 (kQ n)=[kE n.frm.toNat,kE n.num.toNat,kE n.to.toNat,kE n.til.toNat,n.text]:=by
  rw[gp]
  simp only[iN,a1,a2,a3,b1,b2,b3,c1,c2,c3,d1,d2,d3,if_true]
 have e: ∀{x:Int},0≤x→((x.toNat:Nat):Int)=x:=fun h=>by omega
 have v1:gG (kE n.frm.toNat)=n.frm:=by rw[vI (by omega),e (by omega)]
 have v2:gG (kE n.num.toNat)=n.num:=by rw[vI (by omega),e (by omega)]
 have v3:gG (kE n.to.toNat)=n.to:=by rw[vI (by omega),e (by omega)]
 have v4:gG (kE n.til.toNat)=n.til:=by rw[vI (by omega),e (by omega)]
 have w1:jF (kE n.frm.toNat)=some n.frm.toNat:=qI (by omega)
 have w2:jF (kE n.num.toNat)=some n.num.toNat:=qI (by omega)
 have w3:jF (kE n.to.toNat)=some n.to.toNat:=qI (by omega)
 have w4:jF (kE n.til.toNat)=some n.til.toNat:=qI (by omega)
 have u1:iU (kE n.frm.toNat)=n.frm:=by rw[iU,w1];exact e (by omega)
 have u2:iU (kE n.num.toNat)=n.num:=by rw[iU,w2];exact e (by omega)
 have u3:iU (kE n.to.toNat)=n.to:=by rw[iU,w3];exact e (by omega)
 have u4:iU (kE n.til.toNat)=n.til:=by rw[iU,w4];exact e (by omega)
 refine⟨?_,by rw[hc];rfl,?_,?_⟩
 · rw[gp]
   simp only[bx,dN,mG,a1,a2,b1,b2,c1,c2,d1,d2,v1,v2,v3,v4]
 · rw[hc]
   simp[iG,w1,w2,w3,w4]
 · simp only[oQ,hc,List.getD_cons_zero,List.getD_cons_succ,u1,u2,u3,u4]
theorem aP4 (n:bA):kQ n≠[]:=by
 rw[gp];simp
theorem aKg (t:List UInt8) (x:bA) (h:fA x=true) (e:kQ x=t):dZ t=(x,true):=by
 subst e
 unfold dZ
 rw[(aA2 h).1,if_neg]
 rintro(h1|h1)
 · exact aP4 x h1
 · exact h1 (if_pos h)
theorem aKh (t:List UInt8) (x:bA) (h:fA x=true) (e:kQ x=t):qf t=(x,true):=by
 subst e
 obtain⟨h1,h2,h3,h4⟩:=aA2 h
 unfold qf
 rw[h4,if_neg]
 rintro(h5|h5|h5|h5)
 · exact h5 h2
 · rw[h3] at h5;cases h5
 · rw[h] at h5;cases h5
 · exact h5 (if_pos h)
theorem aP5 (t:List UInt8): (∃x,fA x=true∧kQ x=t∧dZ t=(x,true)∧qf t=(x,true))∨(dZ t=(.zero,false)∧qf t=(.zero,false)):=by
 by_cases h: ∃x,fA x=true∧kQ x=t
 · obtain⟨x,h1,h2⟩:=h
   exact .inl ⟨x,h1,h2,aKg t x h1 h2,aKh t x h1 h2⟩
 · refine .inr ⟨?_,?_⟩
   · unfold dZ
     rw[if_pos]
     by_cases h1:t=[]
     · exact .inl h1
     · refine .inr fun h2=> ?_
       unfold iF at h2
       split at h2
       · rename_i h3;exact h ⟨_,h3,h2⟩
       · exact h1 h2.symm
   · unfold qf
     rw[if_pos]
     by_cases h1:fA (oQ t)=true
     · refine .inr (.inr (.inr fun h2=> ?_))
       rw[iF,if_pos h1] at h2
       exact h ⟨_,h1,h2⟩
     · exact .inr (.inr (.inl (by simpa using h1)))
theorem aEr (t:List UInt8):qf t=dZ t:=by
 rcases aP5 t with⟨x,_,_,h1,h2⟩|⟨h1,h2⟩<;>rw[h1,h2]
set_option linter.unusedVariables false
set_option linter.unusedSimpArgs false
theorem aNe {s:List UInt8} {i:Nat} (hk: ∀j,j<i→s.getD j 0≠32) (hi:i<s.length) (h:s.getD i 0=32):bG s=s.take i∧aN s=s.drop (i+1)∧fS s=true:=by
 have e:s=s.take i++32::s.drop (i+1):=by
  rw[← h,aV6,aV8 hi]
  show s=List.take i s++s[i]::List.drop (i+1) s
  rw[← List.drop_eq_getElem_cons hi,List.take_append_drop]
 have hw: ∀b∈s.take i,b≠32:=by
  intro b hb
  obtain⟨j,hj⟩:=List.mem_iff_getElem?.1 hb
  have hlt:j<i:=by
   have:=(aV9.1 hj).1
   rw[aV4] at this;omega
  rw[List.getElem?_take_of_lt hlt] at hj
  have:=hk j hlt
  rw[aV6,hj] at this
  exact this
 obtain⟨h1,h2,h3⟩:=qH (r:=s.drop (i+1)) hw
 rw[← e] at h1 h2 h3
 exact⟨h1,h2,h3⟩
theorem aKi {s:List UInt8} (hk: ∀j,j<s.length→s.getD j 0≠32):bG s=s∧aN s=[]∧fS s=false:=by
 have hn:fS s=false:=by
  unfold fS
  rw[List.any_eq_false]
  intro b hb
  obtain⟨j,hj⟩:=List.mem_iff_getElem?.1 hb
  have:=hk j (aV9.1 hj).1
  rw[aV6,hj] at this
  simpa using this
 obtain⟨q1,q2,q3⟩:=(fT s).2 hn
 exact⟨q2,q3,hn⟩
theorem aKj {l:List (List UInt8)} {i:Nat} (hi:i<l.length) (h: (jF (l.getD i [])).isSome=false):iG l=false:=by
 unfold iG
 rw[List.all_eq_false]
 refine⟨l.getD i [],?_,by rw[h];decide⟩
 rw[aV6,aV8 hi]
 exact List.getElem_mem _
theorem aHb {l:List (List UInt8)} (h: ∀i,i<l.length→(jF (l.getD i [])).isSome=true):iG l=true:=by
 unfold iG
 rw[aWf]
 intro x hx
 obtain⟨j,hj⟩:=List.mem_iff_getElem?.1 hx
 have:=h j (aV9.1 hj).1
 rw[aV6,hj] at this
 exact this
theorem ym {l:List (List UInt8)} {i:Nat} (h:i<l.length): (l.take (i+1)).map iU=(l.take i).map iU++[iU (l.getD i [])]:=by
 rw[List.take_add_one,aV8 h,aV6,aV8 h,List.map_append]
 rfl
def nl (n:Int):List UInt8:=if n<0 then 45::kE (-n).toNat else kE n.toNat
theorem dH {α:Type} {l:List α} {i:Nat} {z:α} (h:i<l.length):l.getD i z∈l:=by
 rw[aV6,aV8 h]
 exact List.getElem_mem _
set_option linter.unusedVariables false
set_option linter.unusedSimpArgs false
theorem jr: ∀(n:Nat) (s:List UInt8),∀x∈iN n s,x.length≤s.length
 |0,s,x,h=>by
  rw[aWg.1 h];exact aWa _
 |n+1,s,x,h=>by
  unfold iN at h
  by_cases hs:fS s=true
  · rw[if_pos hs] at h
    rcases List.mem_cons.1 h with rfl|h
    · exact dq s
    · exact Nat.le_trans (jr n _ x h) (uT s)
  · rw[if_neg hs] at h
    rw[aWg.1 h];exact aWa _
theorem xN {α:Type} {l:List α} {n i:Nat} {z:α} (h:i<n): (l.take n).getD i z=l.getD i z:=by
 rw[aV6,List.getElem?_take_of_lt h,← aV6]
theorem hD {l:List (List UInt8)} (h:iG l=true): (kH l).length=l.length:=by rw[kH,if_pos h,List.length_map]
theorem aEs {l:List (List UInt8)} (h:iG l=true) {i:Nat} (hi:i<l.length): (kH l).getD i 0=iU (l.getD i []):=by
 rw[kH,if_pos h,aV6,List.getElem?_map,aV8 hi,aV6,aV8 hi]
 rfl
theorem iH {l:List Int} {i:Nat} (h:i<l.length): (bX l).getD (i:Int).toNat []=[.i (l.getD i 0)]:=by
 rw[aVy,eW h]
theorem aCl (l:List (List UInt8)) (n:Nat): (aX l).take n=aX (l.take n):=by simp[aX,List.map_take]
theorem aEt {n:Nat} {s:List UInt8} {i:Nat} (h:i<n): (eO n s).getD i 0=dN s i:=by
 unfold eO
 rw[aV6,List.getElem?_map,List.getElem?_range h]
 rfl
theorem ur {t:List UInt8} (h: (iN 4 t).length≠5∨iG ((iN 4 t).take 4)=false∨fA (oQ t)=false∨iF (oQ t)≠t):dZ t=(.zero,false):=by
 rw[← aEr,qf,if_pos h]
theorem aKk {t:List UInt8} (h1: (iN 4 t).length=5) (h2:iG ((iN 4 t).take 4)=true) (h3:fA (oQ t)=true) (h4:iF (oQ t)=t):dZ t=(oQ t,true):=by
 rw[← aEr,qf,if_neg]
 rintro(h|h|h|h)
 · exact h h1
 · rw[h2] at h;cases h
 · rw[h3] at h;cases h
 · exact h h4
theorem aCm {l:List (List UInt8)} (h:iG (l.take 4)=true) (h5:l.length=5) {i:Nat} (hi:i<4):sd (((bX (kH (l.take 4))).getD i []).getD 0 (.i 0))=iU (l.getD i []):=by
 have hl:i< (l.take 4).length:=by rw[aV4];omega
 rw[eW (by rw[hD h];exact hl)]
 show(kH (l.take 4)).getD i 0=_
 rw[aEs h hl,xN hi]
theorem sg {s:List UInt8} {i:Nat} (hi:i<4):sd (((bX (eO 4 s)).getD i []).getD 0 (.i 0))=dN s i:=by
 rw[eW (by rw[bP];exact hi)]
 exact aEt hi
set_option linter.unusedVariables false
set_option linter.unusedSimpArgs false
def bO.zero:bO:=⟨0,0,0,[],[],[]⟩
def eB (id:Int):bO:=if eA id then⟨id,0,1,[],[],[]⟩ else .zero
def mW (l:List bA) (n:bA):List bA:=l.takeWhile (fun x=>cK x.frm x.num n.frm n.num)++n::l.dropWhile (fun x=>cK x.frm x.num n.frm n.num)
def tE (l:List cM) (n:cM):List cM:=l.takeWhile (fun x=>cK x.frm x.num n.frm n.num)++n::l.dropWhile (fun x=>cK x.frm x.num n.frm n.num)
def jM (l:List bA) (n:bA):List bA:=l.takeWhile (fun x=> !cK n.frm n.num x.frm x.num)++n::l.dropWhile (fun x=> !cK n.frm n.num x.frm x.num)
def nZ (l:List cM) (n:cM):List cM:=l.takeWhile (fun x=> !cK n.frm n.num x.frm x.num)++n::l.dropWhile (fun x=> !cK n.frm n.num x.frm x.num)
def hF {α:Type} (l:List α) (i:Nat):List α:=l.take i++l.drop (i+1)
def kB (k:bO) (t:Int):bO:={k with time:=t,held:=k.held.filter (fun n=>decide (t<n.til)),marks:=k.marks.filter (fun n=>decide (t<n.til))}
def jt (k:bO) (n:bA):Bool:=fA n&&decide (k.time<n.til)&&decide (aW k.held n.frm n.num<0)&&decide (aW k.inbox n.frm n.num<0)&&decide (iT k.marks n.frm n.num<0)
def jN (k:bO) (n:bA):bO×Bool:=
 if jt k n&&decide ((k.held.length:Int)+k.marks.length+1≤12) then
  (if n.to==k.id then{k with inbox:=mW k.inbox n,marks:=tE k.marks ⟨n.frm,n.num,n.til⟩} else{k with held:=mW k.held n},true)
 else(k,false)
def jI:List UInt8:=[116,105,109,101]
def kR:List UInt8:=[110,101,120,116]
def kJ:List UInt8:=[111,119,110]
def gD:List UInt8:=[116,97,107,101]
def iP:List UInt8:=[104,101,108,100]
def gH:List UInt8:=[105,110,98,111,120]
def oI:List UInt8:=[108,101,116]
def nD:List UInt8:=[101,97,116]
def iV:List UInt8:=[109,97,114,107]
def nB (k:bO) (w:List UInt8) (n:Int):bO×Bool:=
 if w==jI&&decide (k.time<n) then(kB k n,true)
 else if w==kR&&decide (k.next<n) then({k with next:=n},true)
 else(k,false)
def gK (k:bO) (w:List UInt8) (n:bA):bO×Bool:=
 if w==kJ&&n.frm==k.id&&n.num==k.next then jN {k with next:=wrap64 (k.next+1)} n
 else if w==gD&&n.frm != k.id then jN k n
 else if decide (0≤aW k.held n.frm n.num)||decide (0≤aW k.inbox n.frm n.num) then(k,false)
 else if w==iP then({k with held:=mW k.held n},true)
 else if w==gH then({k with inbox:=mW k.inbox n},true)
 else(k,false)
def jO (k:bO) (w:List UInt8) (m:cM):bO×Bool:=
 if w==oI&&decide (0≤aW k.held m.frm m.num)&&(k.held.getD (aW k.held m.frm m.num).toNat .zero).til==m.til then
  ({k with held:=hF k.held (aW k.held m.frm m.num).toNat,marks:=tE k.marks m},true)
 else if w==nD&&decide (0≤aW k.inbox m.frm m.num)&&(k.inbox.getD (aW k.inbox m.frm m.num).toNat .zero).til==m.til then
  ({k with inbox:=hF k.inbox (aW k.inbox m.frm m.num).toNat},true)
 else if w==iV&&decide (iT k.marks m.frm m.num<0) then({k with marks:=tE k.marks m},true)
 else(k,false)
def three (l:List (List UInt8)):cM:=⟨iU (l.getD 0 []),iU (l.getD 1 []),iU (l.getD 2 [])⟩
def gI (k:bO) (rec:List UInt8):bO×Bool:=
 if fS rec then
  if bG rec==jI||bG rec==kR then(if(jF (aN rec)).isSome then nB k (bG rec) (iU (aN rec)) else(k,false))
  else if bG rec==kJ||bG rec==gD||bG rec==iP||bG rec==gH then(if(dZ (aN rec)).2 then gK k (bG rec) (dZ (aN rec)).1 else(k,false))
  else if bG rec==oI||bG rec==nD||bG rec==iV then(if iG (dE (aN rec))&&(dE (aN rec)).length==3 then jO k (bG rec) (three (dE (aN rec))) else(k,false))
  else(k,false)
 else(k,false)
def oJ (k:bO) (x:bO×Bool):bO×Bool:=if x.2&&eG x.1 then(x.1,true) else(k,false)
def eH (k:bO) (rec:List UInt8):bO×Bool:=if eG k then oJ k (gI k rec) else(.zero,false)
def gq (k:bO) (n:bA):Bool:=fA n&&decide (k.time<n.til)&&decide (aW k.held n.frm n.num<0)&&decide (iT k.marks n.frm n.num<0)&&decide (aW k.inbox n.frm n.num<0)
def mH (k:bO) (n:bA):bO×Bool:=
 if gq k n then
  if n.to != k.id then({k with held:=jM k.held n},decide (((jM k.held n).length:Int)+k.marks.length≤12))
  else({k with inbox:=jM k.inbox n,marks:=nZ k.marks ⟨n.frm,n.num,n.til⟩},decide ((k.held.length:Int)+(nZ k.marks ⟨n.frm,n.num,n.til⟩).length≤12))
 else(k,false)
def ju (k:bO) (f m:Int):bO×Bool:=
 if 0≤aW k.held f m then({k with held:=hF k.held (aW k.held f m).toNat,marks:=nZ k.marks ⟨f,m,(k.held.getD (aW k.held f m).toNat .zero).til⟩},true) else(k,false)
def jv (k:bO) (f m:Int):bO×Bool:=
 if 0≤aW k.inbox f m then({k with inbox:=hF k.inbox (aW k.inbox f m).toNat},true) else(k,false)
def gS (r:List UInt8):cM:=⟨dN r 0,dN r 1,dN r 2⟩
def er (m:cM):List UInt8:=nl m.frm++[32]++nl m.num++[32]++nl m.til
def fZ (k:bO) (rec:List UInt8):bO×Bool:=
 if bG rec==jI then(if gG (aN rec)≤k.time then(k,false) else(kB k (gG (aN rec)),true))
 else if bG rec==kJ then
  (if !(dZ (aN rec)).2||(dZ (aN rec)).1.frm != k.id||(dZ (aN rec)).1.num != k.next then(k,false) else mH {k with next:=wrap64 (k.next+1)} (dZ (aN rec)).1)
 else if bG rec==gD then(if !(dZ (aN rec)).2||(dZ (aN rec)).1.frm==k.id then(k,false) else mH k (dZ (aN rec)).1)
 else if bG rec==kR then(if gG (aN rec)≤k.next then(k,false) else({k with next:=gG (aN rec)},true))
 else if bG rec==iP||bG rec==gH then
  (if !(dZ (aN rec)).2||decide (aW k.held (dZ (aN rec)).1.frm (dZ (aN rec)).1.num≥0)||decide (aW k.inbox (dZ (aN rec)).1.frm (dZ (aN rec)).1.num≥0) then(k,false)
   else if bG rec==iP then({k with held:=jM k.held (dZ (aN rec)).1},true) else({k with inbox:=jM k.inbox (dZ (aN rec)).1},true))
 else if !(mG 3 (aN rec)==[])|| !(aN rec==er (gS (aN rec))) then(k,false)
 else if bG rec==oI then
  (if decide (aW k.held (gS (aN rec)).frm (gS (aN rec)).num<0)||(k.held.getD (aW k.held (gS (aN rec)).frm (gS (aN rec)).num).toNat .zero).til != (gS (aN rec)).til then(k,false)
   else ju k (gS (aN rec)).frm (gS (aN rec)).num)
 else if bG rec==nD then
  (if decide (aW k.inbox (gS (aN rec)).frm (gS (aN rec)).num<0)||(k.inbox.getD (aW k.inbox (gS (aN rec)).frm (gS (aN rec)).num).toNat .zero).til != (gS (aN rec)).til then(k,false)
   else jv k (gS (aN rec)).frm (gS (aN rec)).num)
 else if bG rec==iV then(if iT k.marks (gS (aN rec)).frm (gS (aN rec)).num≥0 then(k,false) else({k with marks:=nZ k.marks (gS (aN rec))},true))
 else(k,false)
def oY (k:bO) (rec:List UInt8):bO×Bool:=if eG k then oJ k (fZ k rec) else(.zero,false)
def oK:bO→List (List UInt8)→bO×Bool
 |k,[]=>(k,true)
 |k,r::rs=>if(eH k r).2 then oK (eH k r).1 rs else(.zero,false)
def gL (id:Int) (recs:List (List UInt8)):bO×Bool:=if eA id then oK (eB id) recs else(.zero,false)
set_option linter.unusedVariables false
set_option linter.unusedSimpArgs false
section
variable {α:Type} {l:List α} {z:α} {i:Nat}
theorem fB (h:i<l.length):l.take (i+1)=l.take i++[l.getD i z]:=by
 rw[List.take_add_one,aV8 h,aV6,aV8 h]
 rfl
theorem aCn {p:α→Bool} (hi:i≤l.length) (hk: ∀j,j<i→p (l.getD j z)=true) (h:i=l.length∨p (l.getD i z)=false):l.takeWhile p=l.take i∧l.dropWhile p=l.drop i:=by
 induction l generalizing i with
 |nil=>simp at hi;subst hi;simp
 |cons x l ih=>
  cases i with
  |zero=>
   have hx:p x=false:=by
    rcases h with h|h
    · simp at h
    · simpa using h
   simp[List.takeWhile,List.dropWhile,hx]
  |succ i=>
   have hx:p x=true:=by simpa using hk 0 (by omega)
   obtain⟨h1,h2⟩:=ih (i:=i) (by simpa using hi) (fun j hj=>by simpa using hk (j+1) (by omega)) (by
    rcases h with h|h
    · left;simpa using h
    · right;simpa using h)
   simp[List.takeWhile,List.dropWhile,hx,h1,h2]
def rN (p:α→Bool) (n:α) (l:List α):List α:=l.takeWhile p++n::l.dropWhile p
theorem aI0 {p:α→Bool} {n:α} (hi:i≤l.length) (hk: ∀j,j<i→p (l.getD j z)=true) (h:i=l.length∨p (l.getD i z)=false):rN p n l=l.take i++n::l.drop i:=by
 obtain⟨h1,h2⟩:=aCn hi hk h
 rw[rN,h1,h2]
theorem fJ {p:α→Bool} {n:α}: (rN p n l).length=l.length+1:=by
 have h:=congrArg List.length (List.takeWhile_append_dropWhile (p:=p) (l:=l))
 rw[aVz] at h
 rw[rN,aVz,aV3];omega
theorem xO {p:α→Bool} {n x:α}:x∈rN p n l↔x=n∨x∈l:=by
 have h:x∈l↔x∈l.takeWhile p∨x∈l.dropWhile p:=by
  conv=>lhs;rw[← List.takeWhile_append_dropWhile (p:=p) (l:=l)]
  exact List.mem_append
 rw[rN,List.mem_append,List.mem_cons,h]
 constructor
 · rintro(h|h|h)
   · exact .inr (.inl h)
   · exact .inl h
   · exact .inr (.inr h)
 · rintro(h|h|h)
   · exact .inr (.inl h)
   · exact .inl h
   · exact .inr (.inr h)
def midW (q:α→Bool) (n:α) (l:List α):List α:=if l.any q then rN (fun x=> !q x) n l else l
theorem aKl {q:α→Bool} {n x:α} (h:l.any q=true):rN (fun x=> !q x) n (l++[x])=rN (fun x=> !q x) n l++[x]:=by
 induction l with
 |nil=>simp at h
 |cons y l ih=>
  by_cases hy:q y=true
  · simp[rN,hy]
  · have hy':q y=false:=by simpa using hy
    have h2:l.any q=true:=by simpa[hy'] using h
    have:=ih h2
    simp only[rN] at this ⊢
    simp[hy',this]
theorem aKm {q:α→Bool} {n:α} (h:l.any q=false):rN (fun x=> !q x) n l=l++[n]:=by
 induction l with
 |nil=>simp[rN]
 |cons y l ih=>
  have hy:q y=false:=by
   cases hq:q y with
   |false=>rfl
   |true=>simp[hq] at h
  have h2:l.any q=false:=by simpa[hy] using h
  have:=ih h2
  simp only[rN] at this ⊢
  simp[hy,this]
theorem aEu {q:α→Bool} {n x:α} (h:l.any q=false) (hx:q x=true):midW q n (l++[x])=midW q n l++[n]++[x]:=by
 have e1: (l++[x]).any q=true:=by simp[hx]
 have e2:midW q n l=l:=by rw[midW,h];rfl
 rw[e2,midW,if_pos e1]
 induction l with
 |nil=>simp[rN,hx]
 |cons y l ih=>
  have hy:q y=false:=by
   cases hq:q y with
   |false=>rfl
   |true=>simp[hq] at h
  have h2:l.any q=false:=by simpa[hy] using h
  have:=ih h2 (by simp[hx]) (by rw[midW,h2];rfl)
  simp only[rN] at this ⊢
  simp[hy] at this ⊢
  exact this
theorem aI1 {q:α→Bool} {n x:α} (h:l.any q=true∨q x=false):midW q n (l++[x])=midW q n l++[x]:=by
 cases ha:l.any q with
 |true=>
  have e1: (l++[x]).any q=true:=by rw[List.any_append,ha];rfl
  rw[midW,if_pos e1,midW,ha,if_pos rfl,aKl ha]
 |false=>
  have hx:q x=false:=by
   rcases h with h|h
   · rw[ha] at h;cases h
   · exact h
  have e1: (l++[x]).any q=false:=by rw[List.any_append,ha];simp[hx]
  rw[midW,midW,e1,ha];rfl
theorem jw {q:α→Bool} {x:α}: (l++[x]).any q=(l.any q||q x):=by simp
theorem jx {q:α→Bool} {n:α}:rN (fun x=> !q x) n l=if l.any q then midW q n l else midW q n l++[n]:=by
 cases ha:l.any q with
 |true=>rw[if_pos rfl,midW,ha,if_pos rfl]
 |false=>rw[if_neg (by simp),midW,ha,aKm ha];rfl
theorem qg {p:α→Bool} (h:i<l.length): (l.take (i+1)).filter p=(l.take i).filter p++(if p (l.getD i z) then [l.getD i z] else []):=by
 rw[fB (z:=z) h,List.filter_append]
 congr 1
 by_cases hp:p (l.getD i z)=true
 · rw[if_pos hp,List.filter_cons_of_pos hp];rfl
 · rw[if_neg hp,List.filter_cons_of_neg hp];rfl
theorem zA {p:α→Bool} (h:i<l.length) (hp:p (l.getD i z)=true): (l.take (i+1)).filter p=(l.take i).filter p++[l.getD i z]:=by
 rw[qg (z:=z) h,if_pos hp]
theorem dt {p:α→Bool} (h:i<l.length) (hp:p (l.getD i z)=false): (l.take (i+1)).filter p=(l.take i).filter p:=by
 rw[qg (z:=z) h,hp];simp
theorem du {x:α} (h:x∈hF l i):x∈l:=by
 rcases List.mem_append.1 h with h|h
 · exact List.mem_of_mem_take h
 · exact List.mem_of_mem_drop h
end
theorem dw (l:List bA) (n:bA):mW l n=rN (fun x=>cK x.frm x.num n.frm n.num) n l:=rfl
theorem nm (l:List cM) (n:cM):tE l n=rN (fun x=>cK x.frm x.num n.frm n.num) n l:=rfl
theorem zB (l:List bA) (n:bA):jM l n=rN (fun x=> !cK n.frm n.num x.frm x.num) n l:=rfl
theorem vJ (l:List cM) (n:cM):nZ l n=rN (fun x=> !cK n.frm n.num x.frm x.num) n l:=rfl
theorem bn {b:Bool} (h:b=false): ¬b=true:=by simp[h]
theorem ut {k:bO} {n:bA} {c:Bool} (hb:k.held.length≤100000∧k.marks.length≤100000∧k.inbox.length≤100000)
 (h: (!fA n||decide (n.til≤k.time)||decide (aW k.held n.frm n.num≥0)||decide (aW k.inbox n.frm n.num≥0)||decide (iT k.marks n.frm n.num≥0)||decide (wrap64 (wrap64 ((aE k.held).length+(aQ k.marks).length)+1)>12))=c):
 (jt k n&&decide ((k.held.length:Int)+k.marks.length+1≤12))= !c:=by
 subst h
 rw[aD,aO,aB (n:=(k.held.length:Int)+k.marks.length) (by omega),aB (by omega)]
 unfold jt
 simp only[aAx,Bool.not_or,Bool.not_not,gt_iff_lt]
theorem fL (l:List bA) (f m:Int): -1≤aW l f m∧aW l f m<l.length:=by
 rcases gR (mU l f m) l.length 0 with h|⟨k,h,_,h2,_⟩<;>rw[aW,h]<;>omega
theorem aA3 {k:bO} {n:bA} (ha: (jt k n&&decide ((k.held.length:Int)+k.marks.length+1≤12))=true) (hto: (n.to==k.id)=true):jN k n=({k with inbox:=mW k.inbox n,marks:=tE k.marks ⟨n.frm,n.num,n.til⟩},true):=by
 unfold jN
 rw[if_pos ha,if_pos hto]
theorem aA4 {k:bO} {n:bA} (ha: (jt k n&&decide ((k.held.length:Int)+k.marks.length+1≤12))=true) (hto: (n.to==k.id)=false):jN k n=({k with held:=mW k.held n},true):=by
 unfold jN
 rw[if_pos ha,hto]
 rfl
theorem eu (l:List bA) (x:bA):aE l++[x.row]=aE (l++[x]):=by simp[aE]
theorem ew (l:List cM) (x:cM):aQ l++[x.row]=aQ (l++[x]):=by simp[aQ]
theorem jP (l:List bA) (a b:Nat): ∀r∈((aE l).take a).drop b,r.length=5:=fun r hr=>fW l r (List.mem_of_mem_take (List.mem_of_mem_drop hr))
theorem zC (l:List cM) (a b:Nat): ∀r∈((aQ l).take a).drop b,r.length=3:=fun r hr=>kX l r (List.mem_of_mem_take (List.mem_of_mem_drop hr))
theorem vK (L:List (List D)) (i:Nat): (L.take (fM none L.length)).drop (eK (some (i:Int)))=L.drop i:=by
 simp[fM,eK]
theorem zD (L:List (List D)) (i n:Nat): (L.take (fM (some (i:Int)) n)).drop (eK none)=L.take i:=by
 simp[fM,eK]
theorem jA (n:Nat):fM none n=n:=by simp[fM]
theorem jB (i n:Nat):fM (some (i:Int)) n=i:=by simp[fM]
theorem jC:eK none=0:=rfl
theorem jD (i:Nat):eK (some (i:Int))=i:=by simp[eK]
section
variable {τ σ':St} {rl:List (Nat×Nat)} {bor:List Nat} {r:List (dG×K)}
theorem aTy {s:Nat} {xs ys:List E} (h:aR τ (.t s)=some (.v (.tup xs))) (e:mEs τ σ' rl bor xs ys) (hr:mL τ σ' rl bor r):mL τ σ' rl bor ((.t s,.v (.tup ys))::r):=⟨⟨_,h,e⟩,hr⟩
theorem aNf:mEs τ σ' rl bor [] []:=trivial
theorem aP6 {cs ds:List C} {xs ys:List E} (e:tc τ σ' rl bor cs ds) (h:mEs τ σ' rl bor xs ys):mEs τ σ' rl bor (.agg cs::xs) (.agg ds::ys):=⟨e,h⟩
theorem aVo {x y:D} {xs ys:List E} (e:x=y) (h:mEs τ σ' rl bor xs ys):mEs τ σ' rl bor (.c (.d x)::xs) (.c (.d y)::ys):=⟨e,h⟩
end
theorem RW.nilBox {P:Program} {cx:Cx P} {σ:St} {ι:Nat→Value} {S:Nat→Prop} {a:Act} {w:World} (h:RW cx σ ι S a w) {b j q:Nat} {ty:TypeId} {cs:List C} (e:TypeId) (es:Nat) (hs:aR σ (.o b)=some (.box ty cs)) (hq:cs[q]? =some .nil) (hj:aR σ (.o j)=none):
 ∃ι',RW cx (pU (pU σ (.o j) (.row e es [])) (.o b) (.box ty (cs.set q (.own j 0)))) ι' S a w:=by
 have hblk: ∀b,uW (.slice none 0 0) b→some b=(none:Option Nat)∨w.heap.size≤b:=fun b hb=>by simp[uW] at hb
 have h1:=h.turn (id:=j) (old:=none) (k:= .row e es []) (p:= .slice none 0 0) (w':=w) ⟨rfl,rfl,rfl,aWa _,(fun _ _ _=>rfl),(fun b hb=>by cases hb),.inl hj,hblk,.inl ⟨rfl,rfl⟩⟩
 have hbj:b≠j:=fun e=>by subst e;rw[hj] at hs;cases hs
 have hs1:aR (pU σ (.o j) (.row e es [])) (.o b)=some (.box ty cs):=by rw[cQ _ _ (by simpa using fun h=>hbj h.symm)];exact hs
 obtain⟨blk0,vs,hp,hh,hsz,hc⟩:=h1.vr.objs b _ hs1
 refine⟨_,h1.turn (id:=b) (old:=some blk0) (k:= .box ty (cs.set q (.own j 0))) (p:= .pointer (some ⟨blk0,0,none⟩)) (w':=w) ⟨rfl,rfl,rfl,aWa _,(fun _ _ _=>rfl),(fun b' hb'=> ?_),.inr ⟨_,hs1,?_⟩,(fun b' hb'=> ?_),?_⟩⟩
 · cases hb'
   refine⟨⟨_,hs1,trivial⟩,?_⟩
   show uW (if b=j then Value.slice none 0 0 else ι b) _
   rw[hp];rfl
 · show nE (if b=j then Value.slice none 0 0 else ι b) _ _ _
   rw[hp];rfl
 · simp[uW] at hb';exact .inl (by rw[hb'])
 · refine⟨blk0,vs,rfl,hh,by rw[List.length_set];exact hsz,fun k c u hk hu=> ?_⟩
   have hjj:aR (pU (pU σ (.o j) (.row e es [])) (.o b) (.box ty (cs.set q (.own j 0)))) (.o j)=some (.row e es []):=by
    rw[cQ _ _ (by simpa using hbj),cV]
   by_cases hkq:k=q
   · subst hkq
     have hlt:k<cs.length:=(aV9.1 hq).1
     rw[List.getElem?_set_self hlt] at hk
     cases hk
     have hv:u= .slice none 0 0:=hc k .nil u hq hu
     subst hv
     refine⟨rfl,.inl ⟨e,es,[],hjj,aWa _,fun _=> ?_⟩⟩
     simp[hbj.symm]
   · rw[List.getElem?_set_ne (fun h=>hkq h.symm)] at hk
     refine CR.step ?_ (hc k c u hk hu)
     refine⟨fun _ h=>h,fun _ _=>rfl,fun o k0 ho=> ?_⟩
     by_cases eo:o=b
     · subst eo
       rw[hs1] at ho;cases ho
       refine⟨_,cV _ _ _,?_⟩
       simp only[if_true]
       rw[hp]
       simp[nE]
     · refine⟨k0,by rw[cQ _ _ (by simpa using fun h=>eo h.symm)];exact ho,?_⟩
       simp only[if_neg eo]
       exact nE.refl' _ _
theorem SW.nilBox {P:Program} {io:List Nat} {Q:Ex→St→Prop} {σ:St} {c:Code} (b j q:Nat) {ty:TypeId} {cs:List C} (e:TypeId) (es:Nat) (hs:aR σ (.o b)=some (.box ty cs)) (hq:cs[q]? =some .nil) (hj:aR σ (.o j)=none)
 (h:nF σ [(.o j,.row e es []),(.o b,.box ty (cs.set q (.own j 0)))] (SW P io c Q)):SW P io c Q σ:=by
 rw[kL] at h
 intro cx ι S a w hio hw hf
 obtain⟨ι',hw'⟩:=hw.nilBox e es hs hq hj
 exact h cx ι' S a w hio hw' hf
set_option linter.unusedVariables false
set_option linter.unusedSimpArgs false
theorem Spec.told {P:Program} {f:FuncId} {n:Nat} {σin σout σ':St} {rl:List (Nat×Nat)} {bor:List Nat} (h:Spec P f n σin σout) (hm:mL σout σ' rl bor σ') (hm2:af σ' rl bor=true) (h0:cE σin=[]):Spec P f n σin σ':=by
 have hno: ∀o k,aR σin (.o o)=some k→False:=fun o k hk=>by have:=eZ hk;rw[h0] at this;cases this
 refine⟨h.1,fun ι ν S w args hg h1 h2 h3=>nH (fun ex w'=> ?_) (h.2 ι ν S w args hg h1 h2 h3)⟩
 rintro⟨v,ι',S',rfl,hp⟩
 have hM:oN σout σ' rl bor:=⟨hm,hm2⟩
 refine⟨v,fun j=>ι' (jT rl j),pZ σout ι' bor S',rfl,hp.fr,vB hM (fun _ _ h=>h) hp.vr,fun b hb=> ?_,fun o b hmu=> ?_,fun o k k' hk hk'=>(hno o k hk).elim⟩
 · rcases hb with hb|⟨o,_,hb⟩
   · exact hp.rd b hb
   · exact .inr (hp.own o b hb)
 · obtain⟨⟨k',hk',hl'⟩,hb⟩:=hmu
   obtain⟨k,hk,hmk⟩:=hM.ids o k' hk'
   exact hp.own (jT rl o) b ⟨⟨k,hk,(aIk hmk).1⟩,hb⟩
theorem aVp {X Y:V} {a a' b b' c c':Int} (e0:a=a') (e1:b=b') (e2:c=c'): [(dG.t 0,K.v X),(.t 1,.v Y),(.t 2,.v (.e (.agg [.d (.i a'),.d (.i b'),.d (.i c')])))]=eL 0 [X,Y,.e (.agg [.d (.i a),.d (.i b),.d (.i c)])]:=by
 subst e0;subst e1;subst e2;rfl
theorem aCo {l:List (List UInt8)} (h:iG l=true) {i:Nat} (hi:i<l.length):sd (((bX (kH l)).getD i []).getD 0 (.i 0))=iU (l.getD i []):=by
 rw[eW (by rw[hD h];exact hi)]
 show(kH l).getD i 0=_
 rw[aEs h hi]
theorem zE (t:List UInt8): (dZ t).1.text.length≤t.length:=by
 unfold dZ
 split
 · exact aV5 _
 · exact uq 4 t
theorem count_le: ∀(n:Nat) (s:List UInt8),s.length≤n→Lib.count s [32]≤s.length
 |0,s,h=>by
  rw[List.eq_nil_of_length_eq_zero (Nat.le_zero.1 h),sN];exact aWa _
 |n+1,s,h=>by
  rw[sN]
  by_cases hs:fS s=true
  · have:=nk hs
    have:=count_le n (aN s) (by omega)
    rw[if_pos hs];omega
  · rw[if_neg hs];exact aV5 _
theorem aKn (s:List UInt8): (dE s).length≤s.length+1:=by
 have:=count_le s.length s (aWa _)
 have:=(uo (Lib.count s [32]) s).1
 unfold dE;omega
theorem aNg (s:List UInt8): ∀x∈dE s,x.length≤s.length:=jr _ s
section
variable {k:bO} {rec:List UInt8}
theorem aKo (h:fS rec=false):gI k rec=(k,false):=if_neg (bn h)
theorem aEv (h:fS rec=true) (hw: (bG rec==jI||bG rec==kR)=true) (hn: (jF (aN rec)).isSome=true):gI k rec=nB k (bG rec) (iU (aN rec)):=(if_pos h).trans ((if_pos hw).trans (if_pos hn))
theorem dx (h:fS rec=true) (hw: (bG rec==jI||bG rec==kR)=true) (hn: (jF (aN rec)).isSome=false):gI k rec=(k,false):=(if_pos h).trans ((if_pos hw).trans (if_neg (bn hn)))
theorem aKp (h:fS rec=true) (hw: (bG rec==jI||bG rec==kR)=false) (hw2: (bG rec==kJ||bG rec==gD||bG rec==iP||bG rec==gH)=true) (hn: (dZ (aN rec)).2=true):gI k rec=gK k (bG rec) (dZ (aN rec)).1:=(if_pos h).trans ((if_neg (bn hw)).trans ((if_pos hw2).trans (if_pos hn)))
theorem vL (h:fS rec=true) (hw: (bG rec==jI||bG rec==kR)=false) (hw2: (bG rec==kJ||bG rec==gD||bG rec==iP||bG rec==gH)=true) (hn: (dZ (aN rec)).2=false):gI k rec=(k,false):=(if_pos h).trans ((if_neg (bn hw)).trans ((if_pos hw2).trans (if_neg (bn hn))))
theorem aKq (h:fS rec=true) (hw: (bG rec==jI||bG rec==kR)=false) (hw2: (bG rec==kJ||bG rec==gD||bG rec==iP||bG rec==gH)=false) (hw3: (bG rec==oI||bG rec==nD||bG rec==iV)=true) (hn: (iG (dE (aN rec))&&(dE (aN rec)).length==3)=true):
 gI k rec=jO k (bG rec) (three (dE (aN rec))):=(if_pos h).trans ((if_neg (bn hw)).trans ((if_neg (bn hw2)).trans ((if_pos hw3).trans (if_pos hn))))
theorem zF (h:fS rec=true) (hw: (bG rec==jI||bG rec==kR)=false) (hw2: (bG rec==kJ||bG rec==gD||bG rec==iP||bG rec==gH)=false) (hw3: (bG rec==oI||bG rec==nD||bG rec==iV)=true) (hn: (iG (dE (aN rec))&&(dE (aN rec)).length==3)=false):
 gI k rec=(k,false):=(if_pos h).trans ((if_neg (bn hw)).trans ((if_neg (bn hw2)).trans ((if_pos hw3).trans (if_neg (bn hn)))))
theorem jy (h:fS rec=true) (hw: (bG rec==jI||bG rec==kR)=false) (hw2: (bG rec==kJ||bG rec==gD||bG rec==iP||bG rec==gH)=false) (hw3: (bG rec==oI||bG rec==nD||bG rec==iV)=false):
 gI k rec=(k,false):=(if_pos h).trans ((if_neg (bn hw)).trans ((if_neg (bn hw2)).trans (if_neg (bn hw3))))
theorem aA5 {l:List (List UInt8)} {c:Bool} (h: (iG l&&((bX (kH l)).length:Int)==3)=c): (iG l&&l.length==3)=c:=by
 subst h
 cases hn:iG l with
 |false=>rfl
 |true=>
  rw[bS,hD hn,Bool.true_and,Bool.true_and]
  by_cases h:l.length=3
  · rw[h];rfl
  · rw[show(l.length==3)=false by simpa using h]
    symm
    rw[beq_eq_false_iff_ne]
    omega
end
def KB (k:bO):Prop:=(k.held.length≤100000∧k.marks.length≤100000∧k.inbox.length≤100000)∧(∀x∈k.held,x.text.length≤140737488355328)∧(∀x∈k.inbox,x.text.length≤140737488355328)
theorem KB.zero:KB .zero:=⟨⟨aV5 _,aV5 _,aV5 _⟩,fun x h=>(by cases h),fun x h=>(by cases h)⟩
theorem sO {l:List bA} (h:jL l=true) {x:bA} (hx:x∈l):fA x=true:=by
 obtain⟨i,hi⟩:=List.mem_iff_getElem?.1 hx
 have hlt:=(aV9.1 hi).1
 have h1:=aWf.1 h i (List.mem_range.2 hlt)
 unfold lD at h1
 rw[aV1] at h1
 have h2:=h1.1
 rw[aV6,hi] at h2
 exact h2
theorem qh {n:bA} (h:fA n=true):n.text.length≤140737488355328:=by
 have:=lQ h;omega
def KS (k:bO):Prop:=(k.held.length≤7∧k.marks.length≤13∧k.inbox.length≤7)∧(∀x∈k.held,x.text.length≤140737488355328)∧(∀x∈k.inbox,x.text.length≤140737488355328)
theorem KS.big {k:bO} (h:KS k):KB k:=⟨⟨by have:=h.1;omega,by have:=h.1;omega,by have:=h.1;omega⟩,h.2⟩
def K6 (k:bO):Prop:=(k.held.length≤6∧k.marks.length≤12∧k.inbox.length≤6)∧(∀x∈k.held,x.text.length≤140737488355328)∧(∀x∈k.inbox,x.text.length≤140737488355328)
theorem fC {k:bO} (h:eG k=true):K6 k:=by
 obtain⟨⟨_,_,_,h1,h2,h3⟩,⟨h4,h5,h6⟩,_⟩:=(cH k).1 h
 exact⟨⟨h1,h2,h3⟩,fun x hx=>qh (sO h4 hx),fun x hx=>qh (sO h6 hx)⟩
theorem K6.seven {k:bO} (h:K6 k):KS k:=⟨⟨by have:=h.1;omega,by have:=h.1;omega,by have:=h.1;omega⟩,h.2⟩
theorem xP {α:Type} (l:List α) (i:Nat): (hF l i).length≤l.length:=by
 rw[hF,aVz,aV4,aV7];omega
theorem aA6 {k:bO} {n:bA} (h:K6 k) (hn:n.text.length≤140737488355328):KS (jN k n).1:=by
 unfold jN
 split
 · simp only
   split
   · refine⟨⟨by have:=h.1;simp only;omega,?_,?_⟩,h.2.1,?_⟩
     · have:=h.1;rw[nm,fJ];omega
     · have:=h.1;rw[dw,fJ];omega
     · intro x hx
       rw[dw,xO] at hx
       rcases hx with rfl|hx
       · exact hn
       · exact h.2.2 x hx
   · refine⟨⟨?_,by have:=h.1;simp only;omega,by have:=h.1;simp only;omega⟩,?_,h.2.2⟩
     · have:=h.1;rw[dw,fJ];omega
     · intro x hx
       rw[dw,xO] at hx
       rcases hx with rfl|hx
       · exact hn
       · exact h.2.1 x hx
 · exact h.seven
theorem uu {k:bO} {t:Int} (h:K6 k):KS (kB k t):=by
 have h1:=List.length_filter_le (fun n:bA=>decide (t<n.til)) k.held
 have h2:=List.length_filter_le (fun n:cM=>decide (t<n.til)) k.marks
 exact⟨⟨by have:=h.1;simp only[kB];omega,by have:=h.1;simp only[kB];omega,by have:=h.1;simp only[kB];omega⟩,fun x hx=>h.2.1 x (List.mem_filter.1 hx).1,h.2.2⟩
theorem aCp {k:bO} {n:bA} (h:K6 k) (hn:n.text.length≤140737488355328) {p:bA→Bool}:KS {k with held:=rN p n k.held}:=
 ⟨⟨by have:=h.1;simp only[fJ];omega,by have:=h.1;simp only;omega,by have:=h.1;simp only;omega⟩,fun x hx=>by rcases xO.1 hx with rfl|hx;exact hn;exact h.2.1 x hx,h.2.2⟩
theorem aEw {k:bO} {n:bA} (h:K6 k) (hn:n.text.length≤140737488355328) {p:bA→Bool}:KS {k with inbox:=rN p n k.inbox}:=
 ⟨⟨by have:=h.1;simp only;omega,by have:=h.1;simp only;omega,by have:=h.1;simp only[fJ];omega⟩,h.2.1,fun x hx=>by rcases xO.1 hx with rfl|hx;exact hn;exact h.2.2 x hx⟩
theorem aNh {k:bO} {w:List UInt8} {n:Int} (h:K6 k):KS (nB k w n).1:=by
 unfold nB
 split
 · exact uu h
 · split
   · exact h.seven
   · exact h.seven
theorem aKr {k:bO} {w:List UInt8} {n:bA} (h:K6 k) (hn:n.text.length≤140737488355328):KS (gK k w n).1:=by
 unfold gK
 split
 · exact aA6 (k:={k with next:=wrap64 (k.next+1)}) h hn
 · split
   · exact aA6 h hn
   · split
     · exact h.seven
     · split
       · exact aCp h hn
       · split
         · exact aEw h hn
         · exact h.seven
theorem aKs {k:bO} {w:List UInt8} {m:cM} (h:K6 k):KS (jO k w m).1:=by
 unfold jO
 split
 · refine⟨⟨?_,?_,by have:=h.1;simp only;omega⟩,fun x hx=>h.2.1 x (du hx),h.2.2⟩
   · have:=h.1;have h1:=xP k.held (aW k.held m.frm m.num).toNat;simp only;omega
   · have:=h.1;rw[nm,fJ];omega
 · split
   · refine⟨⟨by have:=h.1;simp only;omega,by have:=h.1;simp only;omega,?_⟩,h.2.1,fun x hx=>h.2.2 x (du hx)⟩
     have:=h.1;have h1:=xP k.inbox (aW k.inbox m.frm m.num).toNat;simp only;omega
   · split
     · exact⟨⟨by have:=h.1;simp only;omega,by have:=h.1;rw[nm,fJ];omega,by have:=h.1;simp only;omega⟩,h.2⟩
     · exact h.seven
theorem nn {k:bO} {rec:List UInt8} (h:K6 k) (hr:rec.length≤1000000):KS (gI k rec).1:=by
 have ht: (dZ (aN rec)).1.text.length≤140737488355328:=by
  have h1:=zE (aN rec)
  have h2:=uT rec
  omega
 unfold gI
 repeat' split
 all_goals first|exact h.seven|exact aNh h|exact aKr h ht|exact aKs h
theorem aA7 {k:bO} {rec:List UInt8}:K6 (eH k rec).1:=by
 unfold eH
 split
 · rename_i hk
   unfold oJ
   split
   · rename_i h
     rw[aV1] at h
     exact fC h.2
   · exact fC hk
 · exact⟨⟨aV5 _,aV5 _,aV5 _⟩,fun x h=>(by cases h),fun x h=>(by cases h)⟩
theorem jz (id:Int):K6 (eB id):=by
 unfold eB
 split<;>exact⟨⟨aV5 _,aV5 _,aV5 _⟩,fun x h=>(by cases h),fun x h=>(by cases h)⟩
set_option linter.unusedVariables false
set_option linter.unusedSimpArgs false
theorem aI2 {a a':Int} (e:a=a'): [(dG.t 0,K.v (I a'))]=eL 0 [I a]:=by subst e;rfl
theorem uv {X:V} {a a' b b':Int} (e0:a=a') (e1:b=b'): [(dG.t 0,K.v X),(.t 1,.v (I a')),(.t 2,.v (I b'))]=eL 0 [X,I a,I b]:=by subst e0;subst e1;rfl
theorem aNi {X:V} {a a' b b' c c':Int} (e0:a=a') (e1:b=b') (e2:c=c'): [(dG.t 0,K.v X),(.t 1,.v (.e (.agg [.d (.i a'),.d (.i b'),.d (.i c')])))]=eL 0 [X,.e (.agg [.d (.i a),.d (.i b),.d (.i c)])]:=by subst e0;subst e1;subst e2;rfl
theorem uw {n:Nat} {s:List UInt8} {i:Nat} (hi:i<n):sd (((bX (eO n s)).getD i []).getD 0 (.i 0))=dN s i:=by
 rw[eW (by rw[bP];exact hi)]
 exact aEt hi
theorem mI {n:Int} (h: -1≤n∧n≤9999): (nl n).length≤6:=by
 unfold nl
 by_cases h0:n<0
 · rw[if_pos h0]
   have:=cL (k:=3) (n:=(-n).toNat) (by simp;omega)
   simp;omega
 · rw[if_neg h0]
   have:=cL (k:=3) (n:=n.toNat) (by simp;omega)
   omega
theorem gA (s:List UInt8) (i:Nat): -1≤dN s i∧dN s i≤9999:=yZ _
theorem dy {a:Int} {x y c:Bool} (h: (decide (a<0)||x)=c) (hx:0≤a→x=y): (decide (a<0)||y)=c:=by
 by_cases h0:0≤a
 · rw[← hx h0];exact h
 · rw[show decide (a<0)=true from decide_eq_true (by omega),Bool.true_or] at h ⊢; exact h
theorem aNj {k:bO} {n:bA} (h: (!gq k n)=true):mH k n=(k,false):=if_neg (by simpa using h)
theorem aNk {k:bO} {n:bA} (hb:k.held.length≤100000∧k.marks.length≤100000∧k.inbox.length≤100000) (h: (!gq k n)=false) (ht: (n.to != k.id)=true):
 mH k n=({k with held:=jM k.held n},decide (wrap64 ((aE (jM k.held n)).length+(aQ k.marks).length)≤12)):=by
 have hl: (jM k.held n).length=k.held.length+1:=fJ
 rw[aD,aO,aB (by omega)]
 exact(if_pos (by simpa using h)).trans (if_pos ht)
theorem aNl {k:bO} {n:bA} (hb:k.held.length≤100000∧k.marks.length≤100000∧k.inbox.length≤100000) (h: (!gq k n)=false) (ht: (n.to != k.id)=false):
 mH k n=({k with inbox:=jM k.inbox n,marks:=nZ k.marks ⟨n.frm,n.num,n.til⟩},decide (wrap64 ((aE k.held).length+(aQ (nZ k.marks ⟨n.frm,n.num,n.til⟩)).length)≤12)):=by
 have hl: (nZ k.marks ⟨n.frm,n.num,n.til⟩).length=k.marks.length+1:=fJ
 rw[aD,aO,aB (by omega)]
 exact(if_pos (by simpa using h)).trans (if_neg (bn ht))
theorem aP7 {k:bO} {a b:Int} (h:K6 k):KS (ju k a b).1:=by
 unfold ju
 split
 · refine⟨⟨?_,?_,by have:=h.1;simp only;omega⟩,fun x hx=>h.2.1 x (du hx),h.2.2⟩
   · have:=h.1;have h1:=xP k.held (aW k.held a b).toNat;simp only;omega
   · have:=h.1;rw[vJ,fJ];omega
 · exact h.seven
theorem aP8 {k:bO} {a b:Int} (h:K6 k):KS (jv k a b).1:=by
 unfold jv
 split
 · refine⟨⟨by have:=h.1;simp only;omega,by have:=h.1;simp only;omega,?_⟩,h.2.1,fun x hx=>h.2.2 x (du hx)⟩
   have:=h.1;have h1:=xP k.inbox (aW k.inbox a b).toNat;simp only;omega
 · exact h.seven
theorem aEx {k:bO} {n:bA} (h:K6 k) (hn:n.text.length≤140737488355328):KS (mH k n).1:=by
 unfold mH
 split
 · split
   · exact aCp h hn
   · refine⟨⟨by have:=h.1;simp only;omega,?_,?_⟩,h.2.1,?_⟩
     · have:=h.1;rw[vJ,fJ];omega
     · have:=h.1;rw[zB,fJ];omega
     · intro x hx
       rw[zB,xO] at hx
       rcases hx with rfl|hx
       · exact hn
       · exact h.2.2 x hx
 · exact h.seven
theorem mX {c:Prop} [Decidable c] {a b:bO×Bool} (ha:KS a.1) (hb:KS b.1):KS (if c then a else b).1:=by
 split
 · exact ha
 · exact hb
theorem dz {k:bO} {rec:List UInt8} (h:K6 k) (hr:rec.length≤1000000):KS (fZ k rec).1:=by
 have ht: (dZ (aN rec)).1.text.length≤140737488355328:=by
  have h1:=zE (aN rec)
  have h2:=uT rec
  omega
 have hm:KS {k with marks:=nZ k.marks (gS (aN rec))}:=⟨⟨by have:=h.1;simp only;omega,by have:=h.1;simp only[vJ,fJ];omega,by have:=h.1;simp only;omega⟩,h.2⟩
 unfold fZ
 exact mX (mX h.seven (uu h)) (mX (mX h.seven (aEx (k:={k with next:=wrap64 (k.next+1)}) h ht)) (mX (mX h.seven (aEx h ht)) (mX (mX h.seven h.seven)
  (mX (mX h.seven (mX (aCp h ht) (aEw h ht))) (mX h.seven (mX (mX h.seven (aP7 h)) (mX (mX h.seven (aP8 h)) (mX (mX h.seven hm) h.seven))))))))
set_option linter.unusedVariables false
set_option linter.unusedSimpArgs false
theorem aVq {X:V} {a a':List UInt8} (e:a=a'): [(dG.t 0,K.v X),(.t 1,.v (Dv (.s a')))]=eL 0 [X,Dv (.s a)]:=by subst e;rfl
theorem ka {a b c d:Int} (h: ¬(a=c∧b=d)):cK a b c d= !cK c d a b:=by
 unfold cK
 by_cases h1:a=c
 · subst h1
   have h2: ¬b=d:=fun e=>h ⟨rfl,e⟩
   by_cases h3:b<d
   · simp[h3,Int.not_lt.2 (Int.le_of_lt h3)]
   · simp[h3,show d<b by omega]
 · by_cases h3:a<c
   · simp[h3,Int.not_lt.2 (Int.le_of_lt h3)]
     exact .inl fun e=>h1 e.symm
   · simp[h3,h1,show c<a by omega]
theorem tF {α:Type} {p q:α→Bool}: ∀{l:List α},(∀x∈l,p x=q x)→l.takeWhile p=l.takeWhile q∧l.dropWhile p=l.dropWhile q
 | [],_=>⟨rfl,rfl⟩
 |x::l,h=>by
  have hx:=h x (List.mem_cons_self ..)
  obtain⟨h1,h2⟩:=tF (l:=l) fun y hy=>h y (List.mem_cons_of_mem _ hy)
  simp only[List.takeWhile,List.dropWhile,hx,h1,h2,and_self]
theorem ux {l:List bA} {f m:Int} (h:aW l f m<0) {x:bA} (hx:x∈l): ¬(x.frm=f∧x.num=m):=by
 rintro⟨e1,e2⟩
 obtain⟨i,hi⟩:=List.mem_iff_getElem?.1 hx
 have hlt:=(aV9.1 hi).1
 rcases gR (mU l f m) l.length 0 with h1|⟨k,h1,_,h2,_⟩
 · have h3:mU l f m i=true:=by
    unfold mU
    rw[aV6,hi]
    simp[e1,e2]
   have: ∀n j,j≤i→i<j+n→kP (mU l f m) j n≠ -1:=by
    intro n
    induction n with
    |zero=>intro j h4 h5;omega
    |succ n ih=>
     intro j h4 h5
     unfold kP
     split
     · omega
     · rename_i h6
       by_cases e:j=i
       · subst e;exact absurd h3 h6
       · exact ih (j+1) (by omega) (by omega)
   exact this l.length 0 (aV5 _) (by omega) h1
 · rw[aW,h1] at h;omega
theorem aHc {l:List cM} {f m:Int} (h:iT l f m<0) {x:cM} (hx:x∈l): ¬(x.frm=f∧x.num=m):=by
 rintro⟨e1,e2⟩
 obtain⟨i,hi⟩:=List.mem_iff_getElem?.1 hx
 have hlt:=(aV9.1 hi).1
 rcases gR (vG l f m) l.length 0 with h1|⟨k,h1,_,h2,_⟩
 · have h3:vG l f m i=true:=by
    unfold vG
    rw[aV6,hi]
    simp[e1,e2]
   have: ∀n j,j≤i→i<j+n→kP (vG l f m) j n≠ -1:=by
    intro n
    induction n with
    |zero=>intro j h4 h5;omega
    |succ n ih=>
     intro j h4 h5
     unfold kP
     split
     · omega
     · rename_i h6
       by_cases e:j=i
       · subst e;exact absurd h3 h6
       · exact ih (j+1) (by omega) (by omega)
   exact this l.length 0 (aV5 _) (by omega) h1
 · rw[iT,h1] at h;omega
theorem zG {l:List bA} {n:bA} (h:aW l n.frm n.num<0):jM l n=mW l n:=by
 obtain⟨h1,h2⟩:=tF (p:=fun x:bA=> !cK n.frm n.num x.frm x.num) (q:=fun x=>cK x.frm x.num n.frm n.num) (l:=l) fun x hx=>(ka (ux h hx)).symm
 unfold jM mW
 rw[h1,h2]
theorem gr {l:List cM} {n:cM} (h:iT l n.frm n.num<0):nZ l n=tE l n:=by
 obtain⟨h1,h2⟩:=tF (p:=fun x:cM=> !cK n.frm n.num x.frm x.num) (q:=fun x=>cK x.frm x.num n.frm n.num) (l:=l) fun x hx=>(ka (aHc h hx)).symm
 unfold nZ tE
 rw[h1,h2]
theorem aKt (k:bO) (n:bA):gq k n=jt k n:=by
 unfold gq jt
 cases decide (aW k.inbox n.frm n.num<0)<;>cases decide (iT k.marks n.frm n.num<0)<;>simp
def qJ (k:bO) (x y:bO×Bool):Prop:=oJ k x=oJ k y
theorem qJ.rfl {k:bO} {x:bO×Bool}:qJ k x x:=Eq.refl _
theorem qJ.of {k:bO} {x y:bO×Bool} (h:x=y):qJ k x y:=h▸qJ.rfl
theorem qM {k:bO} {x:bO×Bool} (h:x.2=false∨eG x.1=false):oJ k x=(k,false):=by
 unfold oJ
 rw[if_neg]
 rcases h with h|h<;>simp[h]
theorem qJ.no {k:bO} {x y:bO×Bool} (h:x.2=false∨eG x.1=false) (h':y.2=false∨eG y.1=false):qJ k x y:=(qM h).trans (qM h').symm
theorem uy {k0 k:bO} (n:bA):qJ k0 (jN k n) (mH k n):=by
 unfold jN mH
 rw[aKt]
 cases hf:jt k n with
 |false=>exact .of (by simp)
 |true=>
  have h2:=hf
  simp only[jt,aV1,decide_eq_true_eq] at h2
  obtain⟨⟨⟨⟨_,_⟩,q1⟩,q2⟩,q3⟩:=h2
  have hm: (tE k.marks ⟨n.frm,n.num,n.til⟩).length=k.marks.length+1:=fJ
  have hh: (mW k.held n).length=k.held.length+1:=fJ
  rw[zG q1,zG q2,gr (n:=⟨n.frm,n.num,n.til⟩) q3,hm,hh]
  by_cases hl: (k.held.length:Int)+k.marks.length+1≤12
  · have e1:decide ((k.held.length:Int)+k.marks.length+1≤12)=true:=decide_eq_true hl
    have e2:decide (((k.held.length+1:Nat):Int)+k.marks.length≤12)=true:=decide_eq_true (by omega)
    have e3:decide ((k.held.length:Int)+((k.marks.length+1:Nat):Int)≤12)=true:=decide_eq_true (by omega)
    rw[e1,e2,e3]
    by_cases ht:n.to=k.id
    · simp[ht];exact .rfl
    · simp[ht];exact .rfl
  · have e1:decide ((k.held.length:Int)+k.marks.length+1≤12)=false:=decide_eq_false hl
    have e2:decide (((k.held.length+1:Nat):Int)+k.marks.length≤12)=false:=decide_eq_false (by omega)
    have e3:decide ((k.held.length:Int)+((k.marks.length+1:Nat):Int)≤12)=false:=decide_eq_false (by omega)
    rw[e1,e2,e3]
    refine .no (.inl (by simp)) (.inl ?_)
    by_cases ht:n.to=k.id<;>simp[ht]
theorem uU {s:List UInt8} {n:Nat} (h:jF s=some n):kE n=s∧1≤s.length∧s.length≤5:=by
 unfold jF at h
 split at h
 · rename_i hc
   cases h
   exact⟨(wA hc.1.1 hc.2.2).2 hc.2.1,hc.1.1,hc.1.2⟩
 · cases h
theorem aNm {s:List UInt8} {n:Nat} (h:jF s=some n) (h5:4<s.length):10000≤n:=by
 obtain⟨h1,_,_⟩:=uU h
 by_cases hn:n<10 ^ (3+1)
 · have:=cL hn
   rw[h1] at this;omega
 · simpa using hn
theorem uz {s:List UInt8} {n:Nat} (h:jF s=some n) (hn:n<10000):gG s=n:=by
 have hl:s.length≤4:=by
  by_cases h5:4<s.length
  · have:=aNm h h5;omega
  · omega
 rw[xK hl,h]
theorem aA8 {s:List UInt8} (h:jF s=none):gG s= -1:=by
 by_cases hl:s.length≤4
 · rw[xK hl,h]
 · unfold gG
   rw[if_neg (by omega)]
theorem aA9 {s:List UInt8} (h:4<s.length):gG s= -1:=by
 unfold gG
 rw[if_neg (by omega)]
theorem aEy {k:bO} {n:Int} (h:999<n):eG (kB k n)=false:=by
 cases hk:eG (kB k n) with
 |false=>rfl
 |true=>
  obtain⟨⟨_,⟨_,h2⟩,_⟩,_⟩:=(cH _).1 hk
  simp only[kB] at h2
  omega
theorem aNn {k:bO} {n:Int} (h:100<n):eG {k with next:=n}=false:=by
 cases hk:eG {k with next:=n} with
 |false=>rfl
 |true=>
  obtain⟨⟨_,_,⟨_,h2⟩,_⟩,_⟩:=(cH _).1 hk
  simp only at h2
  omega
theorem uV {s:List UInt8} {n:Nat} (h:jF s=some n):iU s=n:=by rw[iU,h]
theorem aHd {k:bO} (hk:eG k=true) (r:List UInt8):qJ k (if(jF r).isSome then nB k jI (iU r) else(k,false)) (if gG r≤k.time then(k,false) else(kB k (gG r),true)):=by
 obtain⟨⟨_,⟨t0,t1⟩,_⟩,_⟩:=(cH _).1 hk
 cases h:jF r with
 |none=>
  rw[aA8 h,if_neg (show ¬((none:Option Nat).isSome=true) by simp),if_pos (show(-1:Int)≤k.time by omega)]
  exact .rfl
 |some n=>
  rw[uV h,if_pos (show(some n).isSome=true from rfl)]
  by_cases hn:n<10000
  · rw[uz h hn]
    by_cases ht:k.time<n
    · rw[if_neg (by omega)]
      exact .of (if_pos (by simp[ht]))
    · rw[if_pos (by omega)]
      exact .of ((if_neg (by simp[ht])).trans (if_neg (by simp[jI,kR])))
  · have hl:gG r= -1:=aA9 (by
     by_cases h5:4<r.length
     · exact h5
     · have:=uU h
       have h6:=xK (s:=r) (by omega)
       rw[h] at h6
       have h7:=yZ r
       simp only at h6
       omega)
    rw[hl,if_pos (by omega),nB,if_pos (by simp;omega)]
    exact .no (.inr (aEy (by omega))) (.inl rfl)
theorem aHe {k:bO} (hk:eG k=true) (r:List UInt8):qJ k (if(jF r).isSome then nB k kR (iU r) else(k,false)) (if gG r≤k.next then(k,false) else({k with next:=gG r},true)):=by
 obtain⟨⟨_,_,⟨t0,t1⟩,_⟩,_⟩:=(cH _).1 hk
 cases h:jF r with
 |none=>
  rw[aA8 h,if_neg (show ¬((none:Option Nat).isSome=true) by simp),if_pos (show(-1:Int)≤k.next by omega)]
  exact .rfl
 |some n=>
  rw[uV h,if_pos (show(some n).isSome=true from rfl)]
  have e1: (kR==jI)=false:=by decide
  by_cases hn:n<10000
  · rw[uz h hn]
    by_cases ht:k.next<n
    · rw[if_neg (by omega)]
      exact .of ((if_neg (by simp[e1])).trans (if_pos (by simp[ht])))
    · rw[if_pos (by omega)]
      exact .of ((if_neg (by simp[e1])).trans (if_neg (by simp[ht])))
  · have hl:gG r= -1:=aA9 (by
     by_cases h5:4<r.length
     · exact h5
     · have:=uU h
       have h6:=xK (s:=r) (by omega)
       rw[h] at h6
       have h7:=yZ r
       simp only at h6
       omega)
    rw[hl,if_pos (by omega),nB,if_neg (by simp[e1]),if_pos (by simp;omega)]
    exact .no (.inr (aNn (by omega))) (.inl rfl)
theorem aKu {k:bO} (x:bA×Bool):qJ k (if x.2 then gK k kJ x.1 else(k,false)) (if !x.2||x.1.frm != k.id||x.1.num != k.next then(k,false) else mH {k with next:=wrap64 (k.next+1)} x.1):=by
 obtain⟨n,b⟩:=x
 cases b with
 |false=>exact .of (by simp)
 |true=>
  rw[if_pos (show(n,true).2=true from rfl)]
  show qJ k (gK k kJ n) (if(!true)||n.frm != k.id||n.num != k.next then(k,false) else mH {k with next:=wrap64 (k.next+1)} n)
  by_cases h:n.frm=k.id∧n.num=k.next
  · have hL:gK k kJ n=jN {k with next:=wrap64 (k.next+1)} n:=if_pos (by simp[h])
    rw[hL,if_neg (by simp[h])]
    exact uy n
  · have hL:gK k kJ n=(k,false):=by
     refine(if_neg (by simp;exact fun a b=>h ⟨a,b⟩)).trans ((if_neg (by simp[kJ,gD])).trans ?_)
     split
     · rfl
     · simp[kJ,iP,gH]
    have hR: ((!true)||n.frm != k.id||n.num != k.next)=true:=by
     by_cases h1:n.frm=k.id
     · have h2: ¬n.num=k.next:=fun h2=>h ⟨h1,h2⟩
       simp[h2]
     · simp[h1]
    rw[hL,if_pos hR]
    exact .rfl
theorem aEz {k:bO} (x:bA×Bool):qJ k (if x.2 then gK k gD x.1 else(k,false)) (if !x.2||x.1.frm==k.id then(k,false) else mH k x.1):=by
 obtain⟨n,b⟩:=x
 cases b with
 |false=>exact .of (by simp)
 |true=>
  rw[if_pos (show(n,true).2=true from rfl)]
  show qJ k (gK k gD n) (if(!true)||n.frm==k.id then(k,false) else mH k n)
  by_cases h:n.frm=k.id
  · have hL:gK k gD n=(k,false):=by
     refine(if_neg (by simp[gD,kJ])).trans ((if_neg (by simp[h])).trans ?_)
     split
     · rfl
     · simp[gD,iP,gH]
    rw[hL,if_pos (by simp[h])]
    exact .rfl
  · have hL:gK k gD n=jN k n:=(if_neg (by simp[gD,kJ])).trans (if_pos (by simp[h]))
    rw[hL,if_neg (by simp[h])]
    exact uy n
theorem aHf {k:bO} (w:List UInt8) (hw:w=iP∨w=gH) (x:bA×Bool):qJ k (if x.2 then gK k w x.1 else(k,false))
 (if !x.2||decide (aW k.held x.1.frm x.1.num≥0)||decide (aW k.inbox x.1.frm x.1.num≥0) then(k,false)
  else if w==iP then({k with held:=jM k.held x.1},true) else({k with inbox:=jM k.inbox x.1},true)):=by
 obtain⟨n,b⟩:=x
 cases b with
 |false=>exact .of (by simp)
 |true=>
  have e1: (w==kJ)=false:=by rcases hw with rfl|rfl<;>decide
  have e2: (w==gD)=false:=by rcases hw with rfl|rfl<;>decide
  rw[if_pos (show(n,true).2=true from rfl)]
  show qJ k (gK k w n) (if(!true)||decide (aW k.held n.frm n.num≥0)||decide (aW k.inbox n.frm n.num≥0) then(k,false)
   else if w==iP then({k with held:=jM k.held n},true) else({k with inbox:=jM k.inbox n},true))
  by_cases h:0≤aW k.held n.frm n.num∨0≤aW k.inbox n.frm n.num
  · have hL:gK k w n=(k,false):=(if_neg (by simp[e1])).trans ((if_neg (by simp[e2])).trans (if_pos (by simpa using h)))
    rw[hL,if_pos (by simpa using h)]
    exact .rfl
  · have h1:aW k.held n.frm n.num<0:=by omega
    have h2:aW k.inbox n.frm n.num<0:=by omega
    have h3: ¬(decide (0≤aW k.held n.frm n.num)||decide (0≤aW k.inbox n.frm n.num))=true:=by simpa using h
    have h4: ¬((!true)||decide (aW k.held n.frm n.num≥0)||decide (aW k.inbox n.frm n.num≥0))=true:=by simpa using h
    rw[if_neg h4]
    rcases hw with rfl|rfl
    · have hL:gK k iP n=({k with held:=mW k.held n},true):=(if_neg (by simp[e1])).trans ((if_neg (by simp[e2])).trans ((if_neg h3).trans (if_pos (by decide))))
      rw[hL,if_pos (by decide),zG h1]
      exact .rfl
    · have hL:gK k gH n=({k with inbox:=mW k.inbox n},true):=(if_neg (by simp[e1])).trans ((if_neg (by simp[e2])).trans ((if_neg h3).trans ((if_neg (by decide)).trans (if_pos (by decide)))))
      rw[hL,if_neg (by decide),zG h2]
      exact .rfl
end Go.Ab
