/- Plain functions, and contracts of the functions that the law reaches. -/
import Derived.Laws.StructEq
import Derived.Sort.Grow
import Derived.Deep.Draws
import Derived.Lib.Split
import Derived.Lib.IndexMore
import Derived.Lib.IndexBytes
import Derived.Lib.CountLaws
import Derived.Test.YthbgjfegalcenaaGreatDoorB0
namespace Go.Ab
open Int renaming toNat_natCast→aW6,tmod→aXm
open List renaming length_append→aW7,length_cons→aW9,length_nil→aXa,length_take→aXc,getD_eq_getElem?_getD→aXe,length_drop→aXf,getElem?_eq_getElem→aXg,getElem?_eq_some_iff→aXh,range→aXj,mem_map→aXk,all_eq_true→aXl,take_length→aXn,mem_singleton→aXo,mem_iff_getElem?→aXq,mem_cons→aXr
open Nat renaming le_of_ble_eq_true→aW8,zero_le→aXd,le_refl→aXi,add_mul→aXp
open Bool renaming and_eq_true→aXb
open Go Go.RowKit
set_option linter.unusedVariables false
set_option linter.unusedSimpArgs false
def zy:D→Int| .i n=>n|_=>0
def toU:D→Int| .u n=>n|_=>0
def toB:D→Bool| .b x=>x|_=>false
def toS:D→List UInt8| .s l=>l|_=>[]
def aRc:D→List (List D)| .sl r=>r|_=>[]
def aH0 (z:C) (d:D):D:=match z with
 | .d (.i _)=> .i (zy d)
 | .d (.u _)=> .u (toU d)
 | .d (.b _)=> .b (toB d)
 | .d (.s _)=> .s (toS d)
 | .nil=> .sl (aRc d)
 |_=>d
def lE:List C→List D→Nat→List D
 | [],_,_=>[]
 |z::zs,cs,k=>aH0 z (cs.getD k (.i 0))::lE zs cs (k+1)
def kf (ti:TI) (l:List D):Option V:=if ti.kind.agg then some (.e (.agg (l.map C.d))) else match l with|d::_=>some (Dv d)| []=>none
def aH1 (T:hO) (σ:St) (t:TypeId):V→Option (Prop×List (dH×Option K)×V)
 | .e (.c (.pe ob n i k))=>match T t,aT σ (.o ob) with
  |some ti,some (.row e es rows)=>match kf ti (lE ti.zero (rows.getD i []) k) with
   |some X=>some ((rows.length=n∧i<n)∧k+ti.size≤(rows.getD i []).length∧((rows.getD i []).drop k).take ti.size=lE ti.zero (rows.getD i []) k,[(.o ob,some (.row e es rows))],X)
   |none=>none
  |_,_=>none
 | .e (.c (.rp cs))=>match T t with
  |some ti=>match kf ti (lE ti.zero cs 0) with
   |some X=>some (ti.size≤cs.length∧cs.take ti.size=lE ti.zero cs 0,[],X)
   |none=>none
  |none=>none
 |X=>un T σ t X
theorem rh {ti:TI} {l:List D} {X:V} (h:kf ti l=some X): (ti.kind.agg=true∧X= .e (.agg (l.map C.d)))∨(ti.kind.agg=false∧ ∃d r,l=d::r∧X=Dv d):=by
 unfold kf at h
 split at h
 · rename_i ha;cases h;exact .inl ⟨ha,rfl⟩
 · rename_i ha
   split at h
   · cases h;exact .inr ⟨by simpa using ha,_,_,rfl,rfl⟩
   · cases h
theorem aH2 {P:Program} {T:hO} (hT:dQ P T) {σ:St} {t:TypeId} {X:V} {p:Prop} {R:List (dH×Option K)} {Y:V} (h:aH1 T σ t X=some (p,R,Y)) (hp:p): ∃q,un T σ t X=some (q,R,Y)∧q:=by
 have hd: ∀(l:List D) (k n:Nat) (m:List D) (d:D) (r:List D),0<n→k+n≤l.length→(l.drop k).take n=m→m=d::r→l.getD k (.i 0)=d∧k<l.length:=by
  intro l k n m d r hn hk h1 h2
  subst h1
  cases n with
  |zero=>omega
  |succ n=>
   have hk':k<l.length:=by omega
   rw[List.drop_eq_getElem_cons hk',List.take_succ_cons] at h2
   cases h2
   exact⟨by rw[aXe,aXg hk'];rfl,hk'⟩
 unfold aH1 at h
 split at h
 · rename_i ob n i k
   split at h<;>try(cases h;done)
   rename_i ti e es rows ht hl
   split at h<;>try(cases h;done)
   rename_i Z hz
   cases h
   obtain⟨⟨h1,h2⟩,h3,h4⟩:=hp
   simp only[un,ht,hl]
   rcases rh hz with⟨ha,rfl⟩|⟨ha,d,r,hm,rfl⟩
   · rw[if_pos ha]
     refine⟨_,by rw[h4],?_⟩;exact⟨h1,h2,h3⟩
   · rw[if_neg (by simp[ha])]
     obtain⟨q1,q2⟩:=hd _ _ _ _ d r (hT t ti ht).pos h3 h4 hm
     refine⟨_,by rw[q1],?_⟩;exact⟨h1,h2,q2⟩
 · rename_i cs
   split at h<;>try(cases h;done)
   rename_i ti ht
   split at h<;>try(cases h;done)
   rename_i Z hz
   cases h
   obtain⟨h3,h4⟩:=hp
   simp only[un,ht]
   rcases rh hz with⟨ha,rfl⟩|⟨ha,d,r,hm,rfl⟩
   · rw[if_pos ha]
     refine⟨_,by rw[h4],?_⟩;exact h3
   · rw[if_neg (by simp[ha])]
     obtain⟨q1,q2⟩:=hd cs 0 _ _ d r (hT t ti ht).pos (by simpa using h3) (by simpa using h4) hm
     refine⟨_,by rw[q1],?_⟩;exact q2
 · exact⟨p,h,hp⟩
theorem aLm {P:Program} {o:Oper} {σ:St} {x:Operand} {d:Option Tmp} {f g:V→Option (Prop×List (dH×Option K)×V)} (hfg: ∀X p R Y,g X=some (p,R,Y)→p→ ∃q,f X=some (q,R,Y)∧q)
 (h:mA P o σ (kS σ x d f)):mA P o σ (kS σ x d g):=by
 intro p R W hg hp
 unfold kS at hg
 split at hg<;>try(cases hg;done)
 rename_i X Rx d hx
 split at hg<;>try(cases hg;done)
 rename_i p' R' Y hgx
 cases hg
 obtain⟨q,h1,h2⟩:=hfg _ _ _ _ hgx hp
 exact h q _ _ (by simp only[kS,hx,h1]) h2
theorem ci {P:Program} {w:World} {t:TypeId} (hu:P.underlying t=some .bool) (x y:Bool): (Op.equal t (.bool x) (.bool y)).run P w= .ok (x==y) w:=by
 unfold Op.equal
 rw[show Op.maxDepth=(Op.maxDepth - 1)+1 from rfl]
 unfold Op.equalIn
 rw[Sem.run_bind,run_underlying hu];rfl
theorem cj {P:Program} {w:World} {t:TypeId} (hu:P.underlying t=some .bool) (x y:Bool) (ox oy:Operand):
 (do eqGuard .eql t ox oy (.bool x) (.bool y);binOp .eql t (.bool x) (.bool y):Sem Value).run P w= .ok (.bool (x==y)) w∧
 (do eqGuard .neq t ox oy (.bool x) (.bool y);binOp .neq t (.bool x) (.bool y):Sem Value).run P w= .ok (.bool (!(x==y))) w:=by
 constructor
 · rw[Sem.run_bind,xT,Result.andThen_ok]
   show(do pure (.bool (← Op.equal t (.bool x) (.bool y))):Sem Value).run P w=_
   rw[Sem.run_bind,ci hu];rfl
 · rw[Sem.run_bind,xT,Result.andThen_ok]
   show(do pure (.bool (!(← Op.equal t (.bool x) (.bool y)))):Sem Value).run P w=_
   rw[Sem.run_bind,ci hu];rfl
def aN8 (T:hO) (t:TypeId) (op:BinOp):V→V→Option (Prop×List (dH×Option K)×V)
 | .e (.c (.d (.b x))),.e (.c (.d (.b y)))=>match T t with
  |some ti=>match ti.kind,op with
   | .bool,.eql=>some (True,[],B (x==y))
   | .bool,.neq=>some (True,[],B (!(x==y)))
   |_,_=>none
  |none=>none
 |X,Y=>aP8 op X Y
def aN9 (T:hO) (t:TypeId) (op:BinOp):V→V→Option (Prop×List (dH×Option K)×V)
 | .e (.c (.d (.b x))),.e (.c (.d (.b y)))=>match T t with
  |some ti=>match ti.kind,op with
   | .bool,.eql=>some (True,[],B (x==y))
   | .bool,.neq=>some (True,[],B (!(x==y)))
   |_,_=>none
  |none=>none
 |X,Y=>none
theorem aLn {P:Program} {T:hO} (hT:dQ P T) {o:Oper} {σ0:St} {op:BinOp} {t u:TypeId} {x y:Operand} (ho:o.op= .binOp op t x y u):mA P o σ0 (rO σ0 x y o.dst (aN9 T t op)):=by
 refine rS fun X Y p R Z h hp=> ?_
 unfold aN9 at h
 split at h
 · rename_i a b
   split at h<;>try(cases h;done)
   rename_i ti ht
   have hk: (ti.kind= .bool∧op= .eql∧R=[]∧Z=B (a==b))∨(ti.kind= .bool∧op= .neq∧R=[]∧Z=B (!(a==b))):=by
    split at h
    · rename_i hk;cases h;exact .inl ⟨hk,rfl,rfl,rfl⟩
    · rename_i hk;cases h;exact .inr ⟨hk,rfl,rfl,rfl⟩
    · cases h
   have hu:=(hT t ti ht).kind
   have hkk:ti.kind= .bool:=by rcases hk with h|h<;>exact h.1
   rw[hkk] at hu;simp only[mD] at hu
   rcases hk with⟨_,rfl,rfl,rfl⟩|⟨_,rfl,rfl,rfl⟩
   all_goals
    refine⟨bT.nil,fun cx σ ι S ac w _ _ hx hy=> ?_⟩
    simp only[lZ,ER,CR] at hx hy
    cases hv:ac.eval x<;>rw[hv] at hx<;>cases hx
    cases hv2:ac.eval y<;>rw[hv2] at hy<;>cases hy
   · refine⟨_,?_,.b _⟩
     have:=(cj (w:=w) hu a b x y).1
     unfold execOp;simp only[ho,hv,hv2];rw[Sem.run_bind,this];rfl
   · refine⟨_,?_,.b _⟩
     have:=(cj (w:=w) hu a b x y).2
     unfold execOp;simp only[ho,hv,hv2];rw[Sem.run_bind,this];rfl
 · cases h
theorem aLo {P:Program} {T:hO} (hT:dQ P T) {o:Oper} {σ0:St} {op:BinOp} {t u:TypeId} {x y:Operand} (ho:o.op= .binOp op t x y u):mA P o σ0 (rO σ0 x y o.dst (aN8 T t op)):=by
 intro p R W h hp
 unfold rO at h
 split at h<;>try(cases h;done)
 rename_i X Rx Y Ry d hd hx hy
 split at h<;>try(cases h;done)
 rename_i p' R' Z hf
 cases h
 unfold aN8 at hf
 split at hf
 · exact aLn (P:=P) (σ0:=σ0) hT ho p _ _ (by simp only[rO,hx,hy,hd,aN9];simp only[hf]) hp
 · exact aEy (P:=P) (σ:=σ0) ho p _ _ (by simp only[rO,hx,hy,hf,hd]) hp
def aH3 (T:hO) (o:Oper) (σ:St) (s d:TypeId) (x:Operand):Res:=
 match T s,T d with
 |some si,some di=>match si.kind,di.kind with
  | .sl e,.str=>match T e with
   |some ei=>match ei.kind with
    | .int .u8=>kS σ x o.dst (aTo σ)
    |_=>none
   |none=>none
  | .str,.sl e=>match T e with
   |some ei=>match ei.kind with
    | .int .u8=>aTp σ x e o.dst
    |_=>none
   |none=>none
  |_,_=>aBg T o σ
 |_,_=>none
def aH4 (T:hO) (o:Oper) (σ:St) (c:Call):Res:=
 match c.callee,c.args.toList,c.argTypes.toList with
 | .builtin .copy,[x,y],[t,t2]=>aN1 T σ t t2 x y o.dst
 |_,_,_=>aBg T o σ
def aDd (T:hO) (o:Oper) (σ:St):Res:=
 match o.op with
 | .load t x=>kS σ x o.dst (aH1 T σ t)
 | .binOp op t x y u=>rO σ x y o.dst (aN8 T t op)
 | .convert s d x=>aH3 T o σ s d x
 | .call c=>aH4 T o σ c
 |_=>aBg T o σ
theorem aH5 {P:Program} {T:hO} (hT:dQ P T) {o:Oper} {σ:St} {s d:TypeId} {x:Operand} (ho:o.op= .convert s d x):mA P o σ (aH3 T o σ s d x):=by
 unfold aH3
 split
 · rename_i si di hs hd
   split
   · rename_i e hk1 hk2
     split
     · rename_i ei he
       split
       · rename_i hek
         exact aNz hT ho hs hk1 he hek hd hk2
       · exact oI
     · exact oI
   · rename_i e hk1 hk2
     split
     · rename_i ei he
       split
       · rename_i hek
         exact aN0 hT ho hs hk1 he hek hd hk2
       · exact oI
     · exact oI
   · exact yZ hT o σ
 · exact oI
theorem aH6 {P:Program} {T:hO} (hT:dQ P T) {o:Oper} {σ:St} {c:Call} (ho:o.op= .call c):mA P o σ (aH4 T o σ c):=by
 obtain⟨callee,args,argTypes⟩:=c
 unfold aH4
 dsimp only
 split
 · rename_i x y t t2 ha hat
   obtain rfl:args= #[x,y]:=Array.toList_inj.1 (by simpa using ha)
   obtain rfl:argTypes= #[t,t2]:=Array.toList_inj.1 (by simpa using hat)
   exact aLc hT ho
 · exact yZ hT o σ
theorem ri {P:Program} {T:hO} (hT:dQ P T) (o:Oper) (σ:St):mA P o σ (aDd T o σ):=by
 unfold aDd
 split
 · rename_i ho;exact aLm (fun X p R Y h hp=>aH2 hT h hp) (aBc hT ho)
 · rename_i ho;exact aLo hT ho
 · rename_i ho;exact aH5 hT ho
 · rename_i ho;exact aH6 hT ho
 · exact yZ hT o σ
def aKa:dH→dH→Bool
 | .t a,.t b=>Nat.beq a b
 | .o a,.o b=>Nat.beq a b
 |_,_=>false
theorem aBj {a b:dH}:aKa a b=true↔a=b:=by
 cases a<;>cases b<;>simp[aKa]
def tf:St→dH→K→(St→Prop)→Prop
 | [],m,k,c=>c [(m,k)]
 |p::r,m,k,c=>match aKa p.1 m with
  |true=>c ((m,k)::r)
  |false=>tf r m k fun r'=>c (p::r')
theorem pA: ∀{σ:St} {m:dH} {k:K} {c:St→Prop},tf σ m k c↔c (qB σ m k)
 | [],m,k,c=>Iff.rfl
 |p::r,m,k,c=>by
  unfold tf qB
  by_cases h:p.1=m
  · rw[aBj.2 h,if_pos h]
  · have:aKa p.1 m=false:=by rw[← Bool.not_eq_true,aBj];exact h
    rw[this,if_neg h]
    exact pA
def aDe:List C→(List C→Prop)→Prop
 | [],c=>c []
 |x::r,c=>aDe r fun r'=>c (x::r')
theorem vd: ∀{l:List C} {c:List C→Prop},aDe l c↔c l
 | [],c=>Iff.rfl
 |x::r,c=>by unfold aDe;exact vd
def aH7:K→(K→Prop)→Prop
 | .box ty cs,c=>aDe cs fun cs'=>c (.box ty cs')
 |k,c=>c k
theorem aH8 {k:K} {c:K→Prop}:aH7 k c↔c k:=by
 cases k<;>simp only[aH7]
 exact vd
def nS:St→List (dH×K)→(St→Prop)→Prop
 |σ,[],c=>c σ
 |σ,p::r,c=>aH7 p.2 fun k=>tf σ p.1 k fun σ'=>nS σ' r c
theorem kX: ∀{W:List (dH×K)} {σ:St} {c:St→Prop},nS σ W c↔c (iN σ W)
 | [],σ,c=>Iff.rfl
 |p::r,σ,c=>by unfold nS iN;rw[aH8,pA];exact kX
def aKb (P:Program) (T:hO) (o:Oper) (σ:St) (k:List (dH×Option K)→List (dH×K)→Prop):Prop:=
 match aDd T o σ with
 |some (p,R,W)=>p∧k R W
 |none=> ∃R W,xR P o R W∧bT R σ∧k R W
theorem rj {P:Program} {T:hO} (hT:dQ P T) {o:Oper} {σ:St} {k:List (dH×Option K)→List (dH×K)→Prop} (h:aKb P T o σ k): ∃R W,xR P o R W∧bT R σ∧k R W:=by
 unfold aKb at h
 split at h
 · rename_i p R W he
   obtain⟨h1,h2⟩:=ri hT o σ p R W he h.1
   exact⟨R,W,h1,h2,h.2⟩
 · exact h
def goS (P:Program) (T:hO) (ops:List Oper) (dr:Bool):List Oper→St→List fu→(St→List fu→Prop)→Prop
 | [],σ,acc,k=>k σ acc
 |o::os,σ,acc,k=>match o.guard with
  |none=>aKb P T o σ fun R W=>nS σ W fun σ'=>goS P T ops dr os σ' (match dr with|true=>acc++[pV (R,W)]|false=>[]) k
  |some (j,want)=>match(ops[j]?).bind (·.dst) with
   |some s=>match aT σ (.t s) with
    |some (.v (.e (.c (.d (.b x)))))=>
     (x=want→aKb P T o σ fun R W=>nS σ W fun σ'=>goS P T ops dr os σ' (match dr with|true=>acc++[pV ((.t s,none)::R,W)]|false=>[]) k)∧
     (x= !want→nS σ (aBh o) fun σ'=>goS P T ops dr os σ' (match dr with|true=>acc++[pV ([(.t s,none)],aBh o)]|false=>[]) k)
    |_=>False
   |none=>False
theorem xX {P:Program} {T:hO} (hT:dQ P T) {ops:Array Oper} {dr:Bool} {k:St→List fu→Prop}: ∀(l:List Oper) (σ:St) (acc:List fu),goS P T ops.toList dr l σ acc k→
 ∃ts:List mR,bc P ops l ts∧kM ts σ∧ ∃acc',(dr=true→acc'=acc++ts.map pV)∧k (fJ ts σ) acc'
 | [],σ,acc,h=>⟨[],trivial,trivial,acc,fun _=>by simp,by simpa[goS,fJ] using h⟩
 |o::os,σ,acc,h=>by
  simp only[goS] at h
  split at h
  · rename_i hg
    obtain⟨R,W,h1,h2,h3⟩:=rj hT h
    rw[kX] at h3
    obtain⟨ts,q1,q2,acc',q3,q4⟩:=xX hT os _ _ h3
    refine⟨(R,W)::ts,⟨bz hg h1,q1⟩,⟨h2,q2⟩,acc',fun hd=> ?_,by simpa[fJ] using q4⟩
    rw[q3 hd];subst hd;simp
  · rename_i j want hg
    split at h<;>try(exact h.elim)
    rename_i s hs
    split at h<;>try(exact h.elim)
    rename_i x hl
    have hs': (ops[j]?).bind (·.dst)=some s:=by simpa using hs
    by_cases hx:x=want
    · subst hx
      obtain⟨R,W,h1,h2,h3⟩:=rj hT (h.1 rfl)
      rw[kX] at h3
      obtain⟨ts,q1,q2,acc',q3,q4⟩:=xX hT os _ _ h3
      refine⟨((.t s,some (.v (B x)))::R,W)::ts,⟨aE3 hg hs' h1,q1⟩,⟨fun p hp=> ?_,q2⟩,acc',fun hd=> ?_,by simpa[fJ] using q4⟩
      · rcases aXr.1 hp with rfl|hp
        · exact hl
        · exact h2 p hp
      · rw[q3 hd];subst hd;simp[pV]
    · have hx':x= !want:=by cases x<;>cases want<;>simp_all
      have h3:=h.2 hx'
      rw[kX] at h3
      obtain⟨ts,q1,q2,acc',q3,q4⟩:=xX hT os _ _ h3
      subst hx'
      refine⟨([(.t s,some (.v (B (!want))))],aBh o)::ts,⟨aJ4 hg hs' rfl,q1⟩,⟨bT.one hl,q2⟩,acc',fun hd=> ?_,by simpa[fJ] using q4⟩
      rw[q3 hd];subst hd;simp[pV]
section
variable {P:Program} {io:List Nat} {Q:Ex→St→Prop} {σ:St}
theorem SW.text {T:hO} (hT:dQ P T) (hm:P.follows .mixedOrders=true) {id:Nat} {ops:Array Oper} (h:goS P T ops.toList false ops.toList σ [] fun σ' _=>Q .norm σ'):SW P io (.region id ops false) Q σ:=by
 intro cx ι S a w hio hw hf
 have hfit: ∀o∈ops.toList,∀d,o.dst=some d→d<cx.N:=fun o ho=>yT (by simpa[tN] using hf) ho
 obtain⟨ts,h1,h2,acc,_,h4⟩:=xX hT ops.toList σ [] h
 exact wp_region_list (yU ops.toList ts σ ι S a w h1 h2 hw hfit fun ι' S' a' w' hw'=>⟨_,ι',S',h4,hw'⟩)
theorem SW.drawn {T:hO} (hT:dQ P T) (hm:P.follows .mixedOrders=true) {id:Nat} {ops:Array Oper} (h:goS P T ops.toList true ops.toList σ [] fun σ' ns=>wY ops.toList ns=true∧Q .norm σ'):SW P io (.region id ops true) Q σ:=by
 intro cx ι S a w hio hw hf
 have hfit: ∀o∈ops.toList,∀d,o.dst=some d→d<cx.N:=fun o ho=>yT (by simpa[tN] using hf) ho
 obtain⟨ts,h1,h2,acc,h3,h4,h5⟩:=xX hT ops.toList σ [] h
 have h3:=h3 rfl
 rw[List.nil_append] at h3
 subst h3
 have hlen: ∀(l:List Oper) (ts:List mR),bc P ops l ts→ts.length=l.length∧ ∀(i:Nat) o t,l[i]? =some o→ts[i]? =some t→ItT P ops o t:=by
  intro l
  induction l with
  |nil=>intro ts h;cases ts with
   |nil=>exact⟨rfl,by simp⟩
   |cons t ts=>exact h.elim
  |cons o os ih=>intro ts h;cases ts with
   |nil=>exact h.elim
   |cons t ts=>
    obtain⟨q1,q2⟩:=ih ts h.2
    refine⟨by simp[q1],fun i o' t' ho ht=> ?_⟩
    cases i with
    |zero=>simp at ho ht;subst ho;subst ht;exact h.1
    |succ i=>exact q2 i o' t' (by simpa using ho) (by simpa using ht)
 obtain⟨q1,q2⟩:=hlen _ _ h1
 refine wp_region_any hm (eh (cx:=cx) (σ:=σ) (ts:=ts) (by simpa using q1) (fun i o t ho ht=>q2 i o t (by simpa using ho) ht) h2 (by simpa[qD,wY] using h4) hfit (fun ι' S' a' w' hw'=>⟨_,ι',S',h5,hw'⟩)
  ops.size (Array.replicate ops.size false) σ ι S a _ (by simp) (fun l=> ?_) hw.drew (fun k o ho hk=> ?_) ?_)
 · have hL: ∀i,(Array.replicate ops.size false).getD i false=false:=fun i=>by
    rw[Array.getD_eq_getD_getElem?,Array.getElem?_replicate];split<;>rfl
   have: ∀n,part ts (fun i=>(Array.replicate ops.size false).getD i false) σ l n=aT σ l:=by
    intro n
    induction n with
    |zero=>rfl
    |succ n ih=>rw[nF,if_neg (by rw[hL];simp),ih]
   rw[this]
 · rw[Array.getD_eq_getD_getElem?,Array.getElem?_replicate] at hk;split at hk<;>cases hk
 · exact Nat.le_trans (List.length_filter_le _ _) (by simp)
end
def keep (ks:List Nat):St→St
 | []=>[]
 |(.t s,k)::r=>match iO s ks with|true=>(.t s,k)::keep ks r|false=>keep ks r
 |(.o n,k)::r=>(.o n,k)::keep ks r
def rQ (ks:List Nat):St→(St→Prop)→Prop
 | [],c=>c []
 |(.t s,k)::r,c=>match iO s ks with|true=>rQ ks r fun r'=>c ((.t s,k)::r')|false=>rQ ks r c
 |(.o n,k)::r,c=>rQ ks r fun r'=>c ((.o n,k)::r')
theorem nG {ks:List Nat}: ∀{σ:St} {c:St→Prop},rQ ks σ c↔c (keep ks σ)
 | [],c=>Iff.rfl
 |(.t s,k)::r,c=>by
  unfold rQ keep
  cases iO s ks
  · exact nG
  · exact nG
 |(.o n,k)::r,c=>by unfold rQ keep;exact nG
theorem nT (ks:List Nat): ∀(σ:St) (o:Nat),aT (keep ks σ) (.o o)=aT σ (.o o)
 | [],o=>rfl
 |(.t s,k)::r,o=>by
  unfold keep
  cases iO s ks
  · simp only[aT];rw[if_neg (by simp)];exact nT ks r o
  · simp only[aT];rw[if_neg (by simp),if_neg (by simp)];exact nT ks r o
 |(.o n,k)::r,o=>by
  unfold keep
  simp only[aT]
  rw[nT ks r o]
theorem vZ (ks:List Nat): ∀(σ:St) (s:Nat) (k:K),aT (keep ks σ) (.t s)=some k→aT σ (.t s)=some k
 | [],s,k,h=>h
 |(.t a,x)::r,s,k,h=>by
  unfold keep at h
  cases hm:iO a ks with
  |false=>
   rw[hm] at h
   simp only[aT]
   by_cases e:a=s
   ·
    have hno: ∀(r:St),aT (keep ks r) (.t a)=none:=by
     intro r
     induction r with
     |nil=>rfl
     |cons p r ih=>
      obtain⟨l,y⟩:=p
      cases l with
      |o n=>unfold keep;simp only[aT];rw[if_neg (by simp)];exact ih
      |t b=>
       unfold keep
       cases hb:iO b ks with
       |false=>exact ih
       |true=>
        simp only[aT]
        by_cases e2:b=a
        · subst e2;rw[hm] at hb;cases hb
        · rw[if_neg (by simpa using e2)];exact ih
    subst e
    have h:aT (keep ks r) (.t a)=some k:=h
    rw[hno r] at h;cases h
   · rw[if_neg (by simpa using e)];exact vZ ks r s k h
  |true=>
   rw[hm] at h
   simp only[aT] at h ⊢
   by_cases e:dH.t a=dH.t s
   · rw[if_pos e] at h ⊢; exact h
   · rw[if_neg e] at h ⊢; exact vZ ks r s k h
 |(.o n,x)::r,s,k,h=>by
  unfold keep at h
  simp only[aT] at h ⊢
  rw[if_neg (by simp)] at h ⊢
  exact vZ ks r s k h
theorem RW.keep (ks:List Nat) {P:Program} {cx:Cx P} {σ:St} {ι:Nat→Value} {S:Nat→Prop} {a:Act} {w:World} (h:RW cx σ ι S a w):RW cx (keep ks σ) ι S a w:=by
 have st:rM σ ι S w (Ab.keep ks σ) ι S w:=⟨fun _ h=>h,fun _ _=>rfl,fun o k hk=>⟨k,by rw[nT];exact hk,nQ.refl' _ _⟩⟩
 have hmut: ∀o b,lC (Ab.keep ks σ) ι o b↔lC σ ι o b:=fun o b=>by unfold lC;rw[nT]
 refine⟨⟨fun s x hx=>rN.step st (h.vr.slots s x (vZ ks σ s _ hx)),fun o k hk=>OR.step st (fun _ _=>rfl) (h.vr.objs o k (by rw[← nT ks];exact hk)),fun o b q=>h.vr.mutS o b ((hmut o b).1 q),fun o o' b q q'=>h.vr.inj o o' b ((hmut o b).1 q) ((hmut o' b).1 q'),h.vr.sz⟩,
  h.size,h.defers,h.fr,fun o b q=>h.own o b ((hmut o b).1 q),h.rd,fun o k hk=>by rw[nT];exact h.io o k hk⟩
section
variable {P:Program} {io:List Nat} {Q:Ex→St→Prop} {σ:St}
theorem SW.keep (ks:List Nat) {c:Code} (h:rQ ks σ (SW P io c Q)):SW P io c Q σ:=by
 rw[nG] at h
 intro cx ι S a w hio hw hf
 exact h cx ι S a w hio (hw.keep ks) hf
theorem SW.mid (J:St→Prop) {x y:Code} (h:SW P io x (kc J Q) σ) (hy: ∀s,J s→SW P io y Q s):SW P io (.seq x y) Q σ:=
 SW.seq (h.mono fun e s hq=>by
  cases e with
  |norm=>exact hy s hq
  |exit id=>exact hq
  |ret=>exact hq)
end
theorem eA {T:hO} {io:List Nat} {rs:List ResultVar} {σout s:St} (X:V) (rl:List (Nat×Nat)) (bor:List Nat) (h1:aHt T s rs=some X) (h2:mL ((.t 0,.v X)::eC s) σout rl bor σout) (h3:bd σout rl bor=true) (h4:uy io σout rl bor=true):be T io rs σout s:=
 ⟨X,rl,bor,h1,⟨h2,h3⟩,h4⟩
theorem bN {T:hO} {io:List Nat} {rs:List ResultVar} {s:St} {x y:D} (h1:aHt T s rs=some (Dv x)) (h2:x=y):be T io rs [(.t 0,.v (Dv y))] s:=
 ⟨Dv x,[],[],h1,⟨⟨⟨Dv x,rfl,h2⟩,trivial⟩,rfl⟩,by simp[uy,cD];exact fun x _=> .inl rfl⟩
def gb (want x:Bool):Bool:=match want with|true=>x|false=> !x
def gOf (want:Bool):Option K→Option Bool
 |some (.v (.e (.c (.d (.b x)))))=>some (gb want x)
 |some (.cv _ _ b (.e (.c (.d (.b x)))))=>some (b&&gb want x)
 |_=>none
def kA (s:Nat) (want:Bool):St→St
 | []=>[]
 |(.t t,.cv s' want' b X)::r=>match Nat.beq s' s&&(want'==want) with
  |true=>(.t t,.v X)::kA s want r
  |false=>(.t t,.cv s' want' b X)::kA s want r
 |p::r=>p::kA s want r
def oW (σ:St):List (dH×Option K)→Prop
 | []=>True
 |p::r=>match aT σ p.1,p.2 with
  |some (.cv _ _ b _),some (.v _)=>b=true∧oW σ r
  |_,_=>oW σ r
def oh (σ:St) (R:List (dH×Option K)):List (dH×Option K):=R.map fun p=>(p.1,aT σ p.1)
theorem kG (s:Nat) (want:Bool): ∀(σ:St) (l:dH),aT (kA s want σ) l=aT σ l∨ ∃s' w' b X,aT σ l=some (.cv s' w' b X)∧aT (kA s want σ) l=some (.v X)
 | [],l=> .inl rfl
 |(.t t,.v X)::r,l=>by
  simp only[kA,aT]
  by_cases e:dH.t t=l
  · rw[if_pos e,if_pos e];exact .inl rfl
  · rw[if_neg e,if_neg e];exact kG s want r l
 |(.t t,.box a b)::r,l=>by
  simp only[kA,aT]
  by_cases e:dH.t t=l
  · rw[if_pos e,if_pos e];exact .inl rfl
  · rw[if_neg e,if_neg e];exact kG s want r l
 |(.t t,.row a b c)::r,l=>by
  simp only[kA,aT]
  by_cases e:dH.t t=l
  · rw[if_pos e,if_pos e];exact .inl rfl
  · rw[if_neg e,if_neg e];exact kG s want r l
 |(.t t,.dead)::r,l=>by
  simp only[kA,aT]
  by_cases e:dH.t t=l
  · rw[if_pos e,if_pos e];exact .inl rfl
  · rw[if_neg e,if_neg e];exact kG s want r l
 |(.t t,.zone a)::r,l=>by
  simp only[kA,aT]
  by_cases e:dH.t t=l
  · rw[if_pos e,if_pos e];exact .inl rfl
  · rw[if_neg e,if_neg e];exact kG s want r l
 |(.o t,k)::r,l=>by
  simp only[kA,aT]
  by_cases e:dH.o t=l
  · rw[if_pos e,if_pos e];exact .inl rfl
  · rw[if_neg e,if_neg e];exact kG s want r l
 |(.t t,.cv s' w' b X)::r,l=>by
  simp only[kA]
  cases Nat.beq s' s&&(w'==want) with
  |true=>
   simp only[aT]
   by_cases e:dH.t t=l
   · rw[if_pos e,if_pos e];exact .inr ⟨s',w',b,X,rfl,rfl⟩
   · rw[if_neg e,if_neg e];exact kG s want r l
  |false=>
   simp only[aT]
   by_cases e:dH.t t=l
   · rw[if_pos e,if_pos e];exact .inl rfl
   · rw[if_neg e,if_neg e];exact kG s want r l
theorem RW.reslot {P:Program} {cx:Cx P} {σ σ2:St} {ι:Nat→Value} {S:Nat→Prop} {a:Act} {w:World} (h:RW cx σ ι S a w) (ho: ∀o,aT σ2 (.o o)=aT σ (.o o)) (hs: ∀t k,aT σ2 (.t t)=some k→rN σ ι w S k (iV a t)):RW cx σ2 ι S a w:=by
 have st:rM σ ι S w σ2 ι S w:=⟨fun _ h=>h,fun _ _=>rfl,fun o k hk=>⟨k,by rw[ho];exact hk,nQ.refl' _ _⟩⟩
 have hmut: ∀o b,lC σ2 ι o b↔lC σ ι o b:=fun o b=>by unfold lC;rw[ho]
 exact⟨⟨fun s x hx=>rN.step st (hs s x hx),fun o k hk=>OR.step st (fun _ _=>rfl) (h.vr.objs o k (by rw[← ho];exact hk)),fun o b q=>h.vr.mutS o b ((hmut o b).1 q),fun o o' b q q'=>h.vr.inj o o' b ((hmut o b).1 q) ((hmut o' b).1 q'),h.vr.sz⟩,
  h.size,h.defers,h.fr,fun o b q=>h.own o b ((hmut o b).1 q),h.rd,fun o k hk=>by rw[ho];exact h.io o k hk⟩
theorem ve {σ:St}: ∀{R:List (dH×Option K)},oW σ R→ ∀p∈R,∀s w b X Y,aT σ p.1=some (.cv s w b X)→p.2=some (.v Y)→b=true
 | [],_,p,hp=>by cases hp
 |q::r,h,p,hp=>by
  intro s w b X Y hl hy
  rcases aXr.1 hp with rfl|hp
  · simp only[oW,hl,hy] at h;exact h.1
  · refine ve (R:=r) ?_ p hp s w b X Y hl hy
    simp only[oW] at h
    split at h
    · exact h.2
    · exact h
theorem vf {P:Program} {cx:Cx P} {σ:St} {ι:Nat→Value} {S:Nat→Prop} {a:Act} {w:World} (hw:RW cx σ ι S a w) {ops:Array Oper} {o:Oper} {j s:Nat} {want g:Bool} (hg:o.guard=some (j,want)) (hs: (ops[j]?).bind (·.dst)=some s) (hl:gOf want (aT σ (.t s))=some g):
 Region.wanted o (yielded ops a.tmps)=g:=by
 have key: ∀x,iV a s= .bool x→yielded ops a.tmps j=some x:=by
  intro x h2
  have h3:a.tmps[s]? =some (.bool x):=by
   unfold iV at h2
   rw[Array.getD_eq_getD_getElem?] at h2
   cases hq:a.tmps[s]? with
   |none=>rw[hq] at h2;simp[undef] at h2
   |some v=>rw[hq] at h2;simp at h2;rw[h2]
  simp[yielded,hs,h3]
 have keyu:iV a s=undef→yielded ops a.tmps j=none:=by
  intro h2
  unfold iV at h2
  rw[Array.getD_eq_getD_getElem?] at h2
  cases hq:a.tmps[s]? with
  |none=>simp[yielded,hs,hq]
  |some v=>rw[hq] at h2;simp at h2;simp[yielded,hs,hq,h2,undef]
 unfold gOf at hl
 split at hl
 · rename_i x hx
   cases hl
   have h1:=hw.vr.slots s _ hx
   simp only[rN,lZ,ER,CR] at h1
   have h2:iV a s= .bool x:=by generalize iV a s=v at h1;cases h1;rfl
   cases want<;>cases x<;>simp[Region.wanted,hg,key _ h2,gb]
 · rename_i s' w' b x hx
   cases hl
   have h1:=hw.vr.slots s _ hx
   cases b with
   |true=>
    have h1:=h1.1 rfl
    simp only[lZ,ER,CR] at h1
    have h2:iV a s= .bool x:=by generalize iV a s=v at h1;cases h1;rfl
    cases want<;>cases x<;>simp[Region.wanted,hg,key _ h2,gb]
   |false=>
    have h2:=h1.2 rfl
    simp[Region.wanted,hg,keyu h2]
 · cases hl
theorem kH (s:Nat) (want:Bool): ∀(σ:St) (o:Nat),aT (kA s want σ) (.o o)=aT σ (.o o)
 | [],l=>rfl
 |(.o t,k)::r,l=>by
  simp only[kA,aT]
  rw[kH s want r l]
 |(.t t,.v X)::r,l=>by simp only[kA,aT];rw[if_neg (by simp),if_neg (by simp)];exact kH s want r l
 |(.t t,.box a b)::r,l=>by simp only[kA,aT];rw[if_neg (by simp),if_neg (by simp)];exact kH s want r l
 |(.t t,.row a b c)::r,l=>by simp only[kA,aT];rw[if_neg (by simp),if_neg (by simp)];exact kH s want r l
 |(.t t,.dead)::r,l=>by simp only[kA,aT];rw[if_neg (by simp),if_neg (by simp)];exact kH s want r l
 |(.t t,.zone a)::r,l=>by simp only[kA,aT];rw[if_neg (by simp),if_neg (by simp)];exact kH s want r l
 |(.t t,.cv s' w' b X)::r,l=>by
  simp only[kA]
  cases Nat.beq s' s&&(w'==want)<;>(simp only[aT];rw[if_neg (by simp),if_neg (by simp)];exact kH s want r l)
theorem uf: ∀{W:List (dH×K)} {l:dH} {k:K},wr W l=some k→(l,k)∈W
 | [],l,k,h=>by cases h
 |p::r,l,k,h=>by
  unfold wr at h
  cases hq:wr r l with
  |some k'=>rw[hq] at h;cases h;exact List.mem_cons_of_mem _ (uf hq)
  |none=>
   rw[hq] at h
   simp only at h
   split at h
   · rename_i e;cases h;rw[← e];exact List.mem_cons_self ..
   · cases h
def aUx (p:dH×Option K):Option (dH×K):=match p.2 with
 |some (.v X)=>some (p.1,.v X)
 |_=>none
theorem aDf {P:Program} {ops:Array Oper} {o:Oper} {σ:St} {R:List (dH×Option K)} {X:V} {d j s:Nat} {want g:Bool} (hg:o.guard=some (j,want)) (hs: (ops[j]?).bind (·.dst)=some s) (hd:o.dst=some d) (hl:gOf want (aT σ (.t s))=some g)
 (hop:g=true→xR P o R [(.t d,.v X)]∧bT R (kA s want σ)) (hok:g=true→oW σ R):ItT P ops o ((.t s,aT σ (.t s))::oh σ R,[(.t d,.cv s want g X)]):=by
 intro cx σ1 ι S a w hr hw hb next Q hn
 have hls:aT σ1 (.t s)=aT σ (.t s):=hr (.t s,aT σ (.t s)) (List.mem_cons_self ..)
 have hact: ∀p∈R,aT σ1 p.1=aT σ p.1:=fun p hp=>hr (p.1,aT σ p.1) (List.mem_cons_of_mem _ (aXk.2 ⟨p,hp,rfl⟩))
 rw[vf hw hg hs (by rw[hls];exact hl)]
 have hdN:=hb d hd
 cases g with
 |false=>
  rw[if_neg (by simp)]
  rw[hd]
  have h1:=hw.putDead hdN undef
  refine hn ι S _ w (h1.reslot (fun o=>by simp only[iN];rw[cN _ _ (by simp),cN _ _ (by simp)]) fun t k hk=> ?_)
  simp only[iN] at hk
  rw[lR] at hk
  split at hk
  · rename_i e;cases e;cases hk
    refine⟨(by simp),fun _=> ?_⟩
    rw[gx (by rw[hw.size];exact hdN),if_pos rfl]
  · rename_i e
    exact h1.vr.slots t k (by rw[cN _ _ e];exact hk)
 |true=>
  rw[if_pos rfl]
  left
  obtain⟨hop,hrd⟩:=hop rfl
  have hok:=hok rfl
  let L:List (dH×K):=R.filterMap aUx
  have hL: ∀l k,(l,k)∈L→ ∃Y,k= .v Y∧aT (kA s want σ) l=some (.v Y)∧aT σ1 l=aT σ l∧(aT σ l=some (.v Y)∨ ∃s' w',aT σ l=some (.cv s' w' true Y)):=by
   intro l k hm
   obtain⟨p,hp,hpe⟩:=List.mem_filterMap.1 hm
   obtain⟨pl,pk⟩:=p
   unfold aUx at hpe
   split at hpe
   · rename_i e1 Y e2
     cases hpe
     simp only at e2 ⊢
     have h1:=hrd _ hp
     simp only at h1
     refine⟨Y,rfl,h1.trans e2,hact _ hp,?_⟩
     rcases kG s want σ pl with h3|⟨s2,w2,b2,X2,h3,h4⟩
     · left;rw[← h3,h1,e2]
     · rw[h4,e2] at h1;cases h1
       have:=ve hok _ hp _ _ _ _ _ h3 e2
       subst this
       exact .inr ⟨_,_,h3⟩
   · cases hpe
  have hσ2: ∀l,aT (iN σ1 L) l=aT σ1 l∨ ∃Y s' w',aT (iN σ1 L) l=some (.v Y)∧aT σ1 l=some (.cv s' w' true Y):=by
   intro l
   rw[lS]
   cases hq:wr L l with
   |none=>exact .inl rfl
   |some k=>
    obtain⟨Y,rfl,h1,h2,h3⟩:=hL l k (uf hq)
    rcases h3 with h3|⟨s',w',h3⟩
    · left;rw[h2,h3]
    · right;exact⟨Y,s',w',rfl,by rw[h2,h3]⟩
  have hσ2o: ∀o,aT (iN σ1 L) (.o o)=aT σ1 (.o o):=by
   intro o'
   rw[lS]
   cases hq:wr L (.o o') with
   |none=>rfl
   |some k=>
    obtain⟨Y,rfl,h1,h2,h3⟩:=hL _ k (uf hq)
    rw[kH] at h1
    rw[h2,h1]
  have hrw2:RW cx (iN σ1 L) ι S a w:=hw.reslot hσ2o fun t k hk=>by
   rcases hσ2 (.t t) with h|⟨Y,s',w',h1,h2⟩
   · rw[h] at hk;exact hw.vr.slots t k hk
   · rw[h1] at hk;cases hk
     exact(hw.vr.slots t _ h2).1 rfl
  have hrd2:bT R (iN σ1 L):=by
   intro p hp
   have h1:=hrd p hp
   rw[lS]
   cases hq:wr L p.1 with
   |some k=>
    obtain⟨Y,rfl,h2,_,_⟩:=hL _ k (uf hq)
    rw[← h1,h2]
   |none=>
    show aT σ1 p.1=p.2
    rw[hact p hp]
    rcases kG s want σ p.1 with h3|⟨s2,w2,b2,X2,h3,h4⟩
    · rw[← h3];exact h1
    · exfalso
      have: (p.1,K.v X2)∈L:=List.mem_filterMap.2 ⟨p,hp,by unfold aUx;rw[← h1,h4]⟩
      obtain⟨k,hk⟩:=aQa (W:=L) (l:=p.1) (aXk.2 ⟨_,this,rfl⟩)
      rw[hk] at hq;cases hq
  refine hop cx (iN σ1 L) ι S a w hrd2 hrw2 hb next Q fun ι' S' a' w' hw'=>hn ι' S' a' w' ?_
  simp only[iN] at hw' ⊢
  refine hw'.reslot (fun o'=>by rw[cN _ _ (by simp),cN _ _ (by simp),hσ2o]) fun t k hk=> ?_
  rw[lR] at hk
  by_cases e:d=t
  · subst e
    rw[if_pos rfl] at hk;cases hk
    exact⟨fun _=>hw'.vr.slots d _ (cX _ _ _),by simp⟩
  · rw[if_neg (by simpa using e)] at hk
    rcases hσ2 (.t t) with h|⟨Y,s',w',h1,h2⟩
    · exact hw'.vr.slots t k (by rw[cN _ _ (by simpa using e),h];exact hk)
    · rw[h2] at hk;cases hk
      exact⟨fun _=>hw'.vr.slots t (.v Y) (by rw[cN _ _ (by simpa using e)];exact h1),by simp⟩
def evc (σ:St):Operand→Option (V×List (dH×Option K)×Option Bool)
 | .tmp t=>match aT σ (.t t) with
  |some (.v X)=>some (X,[(.t t,some (.v X))],none)
  |some (.cv s w b X)=>some (X,[(.t t,some (.cv s w b X))],some b)
  |_=>none
 | .const v=>if v.oneCell' then some (.e (.c (aC1 v)),[],none) else none
 |_=>none
def vG:Option Bool→Prop
 |none=>True
 |some b=>b=true
theorem aBk {σ:St} {x:Operand} {X:V} {R:List (dH×Option K)} {c:Option Bool} (h:evc σ x=some (X,R,c)):bT R σ:=by
 cases x with
 |tmp t=>
  simp only[evc] at h
  split at h
  · rename_i X' hl;cases h;exact bT.one hl
  · rename_i hl;cases h;exact bT.one hl
  · cases h
 |const v=>
  simp only[evc] at h
  split at h
  · cases h;exact bT.nil
  · cases h
 |global g=>simp[evc] at h
 |func f=>simp[evc] at h
theorem aBl {σ0:St} {x:Operand} {X:V} {R:List (dH×Option K)} {c:Option Bool} (h:evc σ0 x=some (X,R,c)) (hc:vG c) {P:Program} {cx:Cx P} {σ:St} {ι:Nat→Value} {S:Nat→Prop} {a:Act} {w:World}
 (hr:bT R σ) (hw:RW cx σ ι S a w):lZ σ ι w S X (a.eval x):=by
 cases x with
 |tmp t=>
  simp only[evc] at h
  split at h
  · rename_i X' hl;cases h;exact hw.vr.slots t _ (hr (.t t,some (.v X)) (by simp))
  · rename_i s w' b X' hl
    cases h
    exact(hw.vr.slots t (.cv s w' b X) (hr (.t t,some (.cv s w' b X)) (by simp))).1 hc
  · cases h
 |const v=>
  simp only[evc] at h
  split at h
  · rename_i hv;cases h;exact jv hv
  · cases h
 |global g=>simp[evc] at h
 |func f=>simp[evc] at h
def aH9 (b:Bool):D→D→Option D
 | .i m,.i n=>some (.i (bif b then m else n))
 | .u m,.u n=>some (.u (bif b then m else n))
 | .b m,.b n=>some (.b (bif b then m else n))
 | .s m,.s n=>some (.s (bif b then m else n))
 |_,_=>none
def aOa (x y:Operand) (b:Bool) (X Y:D):Option D:=match x,y with
 |_,.const (.bool false)=>match X with| .b m=>some (.b (b&&m))|_=>none
 | .const (.bool true),_=>match Y with| .b n=>some (.b (b||n))|_=>none
 |_,_=>aH9 b X Y
def aIa (σ:St) (c x y:Operand) (d:Option Tmp):Res:=
 match ev σ c,evc σ x,evc σ y,d with
 |some (.e (.c (.d (.b b))),R),some (.e (.c (.d X)),R1,c1),some (.e (.c (.d Y)),R2,c2),some d=>match aOa x y b X Y with
  |some Z=>some ((b=true→vG c1)∧(b=false→vG c2),R++R1++R2,[(.t d,.v (Dv Z))])
  |none=>none
 |_,_,_,_=>none
theorem aDg {b:Bool} {X Y Z:D} {w:World} {S:Nat→Prop} {vx vy:Value} (h:aH9 b X Y=some Z) (hx:b=true→DR w S X vx) (hy:b=false→DR w S Y vy):DR w S Z (if b then vx else vy):=by
 cases X<;>cases Y<;>simp only[aH9] at h<;>cases h
 all_goals
  cases b with
  |true=>have:=hx rfl;cases this;first|exact .i _|exact .u _|exact .b _|exact .s _
  |false=>have:=hy rfl;cases this;first|exact .i _|exact .u _|exact .b _|exact .s _
theorem aIb {P:Program} {o:Oper} {σ0:St} {c x y:Operand} (ho:o.op= .pick c x y):mA P o σ0 (aIa σ0 c x y o.dst):=by
 intro p R W h hp
 unfold aIa at h
 split at h<;>try(cases h;done)
 rename_i b Rc X R1 c1 Y R2 c2 d hc hx hy hd
 split at h<;>try(cases h;done)
 rename_i Z hz
 cases h
 refine⟨oH hd fun cx σ ι S a w hr hw=> ?_,((dE hc).append (aBk hx)).append (aBk hy)⟩
 have hC:=dK hc hr.left.left hw
 have hX:b=true→lZ σ ι w S (Dv X) (a.eval x):=fun hb=>aBl hx (hp.1 hb) hr.left.right hw
 have hY:b=false→lZ σ ι w S (Dv Y) (a.eval y):=fun hb=>aBl hy (hp.2 hb) hr.right hw
 have hcv:a.eval c= .bool b:=by
  simp only[lZ,ER,CR] at hC
  generalize a.eval c=v at hC;cases hC;rfl
 have hX:b=true→DR w S X (a.eval x):=hX
 have hY:b=false→DR w S Y (a.eval y):=hY
 refine⟨if b then a.eval x else a.eval y,?_,?_⟩
 · cases b<;>simp[execOp,ho,hcv,asBool]
 · show DR w S Z (if b then a.eval x else a.eval y)
   unfold aOa at hz
   split at hz
   · split at hz
     · cases hz
       cases b with
       |true=>have:=hX rfl;simpa using this
       |false=>simp[Act.eval];exact .b _
     · cases hz
   · split at hz
     · cases hz
       cases b with
       |true=>simp[Act.eval];exact .b _
       |false=>have:=hY rfl;simpa using this
     · cases hz
   · exact aDg hz hX hY
def oi (T:hO) (o:Oper) (σ:St):Res:=
 match o.op with
 | .pick c x y=>match aIa σ c x y o.dst with
  |some r=>some r
  |none=>aJ2 σ c x y o.dst
 |_=>aDd T o σ
theorem wA {P:Program} {T:hO} (hT:dQ P T) (o:Oper) (σ:St):mA P o σ (oi T o σ):=by
 unfold oi
 split
 · rename_i ho
   split
   · rename_i r hr
     have:=aIb (P:=P) (σ0:=σ) ho
     rw[hr] at this;exact this
   · exact aBd ho
 · exact ri hT o σ
def aOb (m i:Nat):Bool:=Nat.beq (Nat.land (Nat.shiftRight m i) 1) 1
theorem aOc (m i:Nat):aOb m i=m.testBit i:=by
 have h:aOb m i=decide ((m >>> i) % 2=1):=by
  show Nat.beq ((m >>> i) &&& 1) 1=_
  rw[Nat.and_one_is_mod,Bool.eq_iff_iff,Nat.beq_eq,decide_eq_true_eq]
 rw[h,Nat.testBit,Nat.one_and_eq_mod_two,Bool.eq_iff_iff,decide_eq_true_eq,bne_iff_ne]
 omega
def bits:List Nat→Nat
 | []=>0
 |x::r=>Nat.lor (Nat.shiftLeft 1 x) (bits r)
theorem vH {b:Nat}: ∀{l:List Nat},(bits l).testBit b=true↔b∈l
 | []=>by simp[bits]
 |x::r=>by
  show((1 <<< x) ||| bits r).testBit b=true↔_
  rw[Nat.testBit_or,Bool.or_eq_true,vH (l:=r),aXr,Nat.shiftLeft_eq,Nat.one_mul,Nat.testBit_two_pow,decide_eq_true_eq]
  exact⟨fun h=>h.imp Eq.symm id,fun h=>h.imp Eq.symm id⟩
def vg (acc:List Nat):List Nat→Nat
 | []=>0
 |i::r=>Nat.lor (Nat.lor (Nat.shiftLeft 1 i) (acc.getD i 0)) (vg acc r)
def vh:List Oper→List Nat→List Nat
 | [],acc=>acc
 |o::os,acc=>vh os (acc++[vg acc (kT o)])
def aIc (accM:List Nat) (accP:List (List Nat)):Prop:=accM.length=accP.length∧ ∀i b,(accM.getD i 0).testBit b=true→b∈accP.getD i []
theorem rm {accM:List Nat} {accP:List (List Nat)} (h:aIc accM accP) {b:Nat}: ∀{l:List Nat},(vg accM l).testBit b=true→b∈l.flatMap fun i=>i::accP.getD i []
 | [],hb=>by simp[vg] at hb
 |i::r,hb=>by
  have hb: (((1 <<< i) ||| accM.getD i 0) ||| vg accM r).testBit b=true:=hb
  rw[Nat.testBit_or,Nat.testBit_or,Bool.or_eq_true,Bool.or_eq_true,Nat.shiftLeft_eq,Nat.one_mul,Nat.testBit_two_pow,decide_eq_true_eq] at hb
  rw[List.flatMap_cons,List.mem_append,aXr]
  rcases hb with(hb|hb)|hb
  · exact .inl (.inl hb.symm)
  · exact .inl (.inr (h.2 i b hb))
  · exact .inr (rm h hb)
theorem vi: ∀(l:List Oper) {accM:List Nat} {accP:List (List Nat)},aIc accM accP→aIc (vh l accM) (mS l accP)
 | [],accM,accP,h=>h
 |o::os,accM,accP,h=>by
  unfold vh mS
  refine vi os ⟨by simp[h.1],fun i b hb=> ?_⟩
  rw[aXe] at hb ⊢
  by_cases hi:i<accM.length
  · rw[List.getElem?_append_left hi] at hb
    rw[List.getElem?_append_left (by rw[← h.1];exact hi)]
    have:=h.2 i b (by rw[aXe];exact hb)
    rwa [aXe] at this
  · rw[List.getElem?_append_right (by omega)] at hb
    rw[List.getElem?_append_right (by rw[← h.1];omega),← h.1]
    by_cases e:i - accM.length=0
    · rw[e] at hb ⊢
      exact rm h hb
    · rw[List.getElem?_eq_none (by simp;omega)] at hb
      simp at hb
abbrev RWM:=Nat×Nat
def rwM (x:fu):RWM:=(bits x.1,bits x.2)
def aFe (x y:RWM):Bool:=Nat.beq (Nat.land x.2 (Nat.lor y.1 y.2)) 0&&Nat.beq (Nat.land x.1 y.2) 0
theorem wZ {xs ys:List Nat} (h: ∀b,b∈xs→b∈ys→False):pM xs ys=true:=by
 induction xs with
 |nil=>rfl
 |cons x r ih=>
  simp only[pM,aXb,Bool.not_eq_true']
  refine⟨?_,ih fun b hb=>h b (List.mem_cons_of_mem _ hb)⟩
  rw[← Bool.not_eq_true,hP]
  exact h x (List.mem_cons_self ..)
theorem oj {m n b:Nat} (h:Nat.beq (Nat.land m n) 0=true) (hm:m.testBit b=true) (hn:n.testBit b=true):False:=by
 have h:m &&& n=0:=Nat.eq_of_beq_eq_true h
 have: (m &&& n).testBit b=true:=by rw[Nat.testBit_and,hm,hn];rfl
 rw[h] at this;simp at this
theorem aId {x y:fu} (h:aFe (rwM x) (rwM y)=true):pN x y=true:=by
 simp only[aFe,rwM,aXb] at h
 simp only[pN,aXb]
 have hor: ∀b,(b∈y.1∨b∈y.2)→(Nat.lor (bits y.1) (bits y.2)).testBit b=true:=fun b hb=>by
  show(bits y.1 ||| bits y.2).testBit b=true
  rw[Nat.testBit_or,Bool.or_eq_true,vH,vH];exact hb
 exact⟨⟨wZ fun b h1 h2=>oj h.1 (vH.2 h1) (hor b (.inr h2)),wZ fun b h1 h2=>oj h.1 (vH.2 h1) (hor b (.inl h2))⟩,wZ fun b h1 h2=>oj h.2 (vH.2 h1) (vH.2 h2)⟩
def aRd (pm:Nat) (y:RWM):Nat→List RWM→Bool
 |_,[]=>true
 |i,x::r=>(aOb pm i||aFe x y)&&aRd pm y (i+1) r
def aOd:List RWM→List Nat→List RWM→Bool
 | [],_,_=>true
 |y::ys,pm::pms,done=>aRd pm y 0 done&&aOd ys pms (done++[y])
 |_::_,[],_=>false
theorem aBm {pm:Nat} {y:RWM}: ∀{l:List RWM} {i:Nat},aRd pm y i l=true→ ∀(k:Nat) x,l[k]? =some x→pm.testBit (i+k)=true∨aFe x y=true
 | [],i,_,k,x,hx=>by simp at hx
 |z::r,i,h,k,x,hx=>by
  simp only[aRd,aXb,Bool.or_eq_true] at h
  cases k with
  |zero=>simp at hx;subst hx;rw[← aOc];exact h.1
  |succ k=>
   have:=aBm h.2 k x (by simpa using hx)
   rwa [show i+1+k=i+(k+1) by omega] at this
theorem aBn: ∀{ys:List RWM} {pms:List Nat} {done:List RWM},aOd ys pms done=true→ ∀(k:Nat) y pm,ys[k]? =some y→pms[k]? =some pm→ ∀(i:Nat) x,i<done.length+k→(done++ys)[i]? =some x→pm.testBit i=true∨aFe x y=true
 | [],pms,done,_,k,y,pm,hy,_,i,x,_,_=>by simp at hy
 |z::ys,[],done,h,k,y,pm,hy,hp,i,x,_,_=>by simp[aOd] at h
 |z::ys,p::pms,done,h,k,y,pm,hy,hp,i,x,hi,hx=>by
  simp only[aOd,aXb] at h
  cases k with
  |zero=>
   simp at hy hp;subst hy;subst hp
   have:=aBm h.1 i x (by rw[List.getElem?_append_left (by omega)] at hx;exact hx)
   rwa [Nat.zero_add] at this
  |succ k=>exact aBn h.2 k y pm (by simpa using hy) (by simpa using hp) i x (by simp;omega) (by simpa using hx)
theorem vj {ns:List fu} {pl:List (List Nat)}: ∀(n:Nat),(∀k,k<n→ ∀i,i<k→ ∀x y pk,ns[i]? =some x→ns[k]? =some y→pl[k]? =some pk→i∈pk∨pN x y=true)→yW ns pl n=true
 |0,_=>rfl
 |n+1,h=>by
  simp only[yW,aXb]
  refine⟨?_,vj n fun k hk=>h k (by omega)⟩
  split
  · rename_i y pk hy hp
    rw[aXl]
    intro i hi
    rw[Bool.or_eq_true]
    cases hx:ns[i]? with
    |none=>exact .inr rfl
    |some x=>exact(h n (by omega) i (List.mem_range.1 hi) x y pk hx hy hp).imp hP.2 id
  · rfl
def ck (l:List Oper) (ns:List fu):Bool:=sO 0 l&&aOd (ns.map rwM) (vh l []) []
theorem cl {l:List Oper} {ns:List fu} (h:ck l ns=true):wY l ns=true:=by
 simp only[ck,aXb] at h
 simp only[wY,aXb]
 refine⟨h.1,vj _ fun k hk i hi x y pk hx hy hp=> ?_⟩
 have hm:=vi l (accM:=[]) (accP:=[]) ⟨rfl,by simp⟩
 have hpl:k< (mS l []).length:=(aXh.1 hp).1
 have hml:k< (vh l []).length:=by rw[hm.1];exact hpl
 have hpm: (vh l [])[k]? =some (vh l [])[k]:=aXg hml
 rcases aBn h.2 k (rwM y) _ (by simp[hy]) hpm i (rwM x) (by simpa using hi) (by simp[hx]) with h1|h1
 · left
   have:=hm.2 k i (by rw[aXe,hpm];exact h1)
   rwa [aXe,hp] at this
 · exact .inr (aId h1)
def aKc (P:Program) (T:hO) (o:Oper) (σ:St) (k:List (dH×Option K)→List (dH×K)→Prop):Prop:=
 match oi T o σ with
 |some (p,R,W)=>p∧k R W
 |none=> ∃R W,xR P o R W∧bT R σ∧k R W
theorem rn {P:Program} {T:hO} (hT:dQ P T) {o:Oper} {σ:St} {k:List (dH×Option K)→List (dH×K)→Prop} (h:aKc P T o σ k): ∃R W,xR P o R W∧bT R σ∧k R W:=by
 unfold aKc at h
 split at h
 · rename_i p R W he
   obtain⟨h1,h2⟩:=wA hT o σ p R W he h.1
   exact⟨R,W,h1,h2,h.2⟩
 · exact h
def aRe (dr:Bool) (acc:List fu) (R:List (dH×Option K)) (W:List (dH×K)):List fu:=match dr with
 |true=>acc++[pV (R,W)]
 |false=>[]
def kh (P:Program) (T:hO) (o:Oper) (σ:St) (s:Nat) (want g:Bool) (d:Nat) (k:List (dH×Option K)→V→Prop):Prop:=
 match oi T o (kA s want σ) with
 |some (p,R,[(.t d',.v X)])=>match Nat.beq d' d with
  |true=>(g=true→p)∧(g=true→oW σ R)∧k R X
  |false=>False
 |some _=>False
 |none=> ∃R X,(g=true→xR P o R [(.t d,.v X)]∧bT R (kA s want σ))∧(g=true→oW σ R)∧k R X
def goC (P:Program) (T:hO) (ops:List Oper) (dr:Bool):List Oper→St→List fu→(St→List fu→Prop)→Prop
 | [],σ,acc,k=>k σ acc
 |o::os,σ,acc,k=>match o.guard with
  |none=>aKc P T o σ fun R W=>nS σ W fun σ'=>goC P T ops dr os σ' (aRe dr acc R W) k
  |some (j,want)=>match(ops[j]?).bind (·.dst),o.dst with
   |some s,some d=>match gOf want (aT σ (.t s)) with
    |some g=>kh P T o σ s want g d fun R X=>tf σ (.t d) (.cv s want g X) fun σ'=>goC P T ops dr os σ' (aRe dr acc ((.t s,none)::R) [(.t d,.dead)]) k
    |none=>False
   |_,_=>False
theorem cm {P:Program} {T:hO} (hT:dQ P T) {ops:Array Oper} {o:Oper} {σ:St} {j s d:Nat} {want g:Bool} {k:List (dH×Option K)→V→Prop} (hg:o.guard=some (j,want)) (hs: (ops[j]?).bind (·.dst)=some s) (hd:o.dst=some d) (hl:gOf want (aT σ (.t s))=some g)
 (h:kh P T o σ s want g d k): ∃R X,ItT P ops o ((.t s,aT σ (.t s))::oh σ R,[(.t d,.cv s want g X)])∧k R X:=by
 unfold kh at h
 split at h
 · rename_i p R d' X he
   split at h
   · rename_i hdd
     have hdd:=Nat.eq_of_beq_eq_true hdd
     subst hdd
     obtain⟨h1,h2,h3⟩:=h
     exact⟨R,X,aDf hg hs hd hl (fun hgt=>wA hT o _ p R _ he (h1 hgt)) h2,h3⟩
   · exact h.elim
 · exact h.elim
 · obtain⟨R,X,h1,h2,h3⟩:=h
   exact⟨R,X,aDf hg hs hd hl h1 h2,h3⟩
theorem zD {σ:St} {s:Nat} {R:List (dH×Option K)}:bT ((.t s,aT σ (.t s))::oh σ R) σ:=by
 intro p hp
 rcases aXr.1 hp with rfl|hp
 · rfl
 · obtain⟨q,hq,rfl⟩:=aXk.1 hp;rfl
theorem aIe {σ:St} {s d:Nat} {R:List (dH×Option K)} {k:K} {o:Option K} {k':K}:pV ((.t s,o)::R,[(.t d,k)])=pV ((.t s,aT σ (.t s))::oh σ R,[(.t d,k')]):=by
 simp[pV,oh,Function.comp_def]
theorem xY {P:Program} {T:hO} (hT:dQ P T) {ops:Array Oper} {dr:Bool} {k:St→List fu→Prop}: ∀(l:List Oper) (σ:St) (acc:List fu),goC P T ops.toList dr l σ acc k→
 ∃ts:List mR,bc P ops l ts∧kM ts σ∧ ∃acc',(dr=true→acc'=acc++ts.map pV)∧k (fJ ts σ) acc'
 | [],σ,acc,h=>⟨[],trivial,trivial,acc,fun _=>by simp,by simpa[goC,fJ] using h⟩
 |o::os,σ,acc,h=>by
  simp only[goC] at h
  split at h
  · rename_i hg
    obtain⟨R,W,h1,h2,h3⟩:=rn hT h
    rw[kX] at h3
    obtain⟨ts,q1,q2,acc',q3,q4⟩:=xY hT os _ _ h3
    refine⟨(R,W)::ts,⟨bz hg h1,q1⟩,⟨h2,q2⟩,acc',fun hd=> ?_,by simpa[fJ] using q4⟩
    rw[q3 hd];subst hd;simp[aRe]
  · rename_i j want hg
    split at h<;>try(exact h.elim)
    rename_i s d hs hd
    split at h<;>try(exact h.elim)
    rename_i g hl
    have hs': (ops[j]?).bind (·.dst)=some s:=by simpa using hs
    obtain⟨R,X,h1,h2⟩:=cm hT hg hs' hd hl h
    rw[pA] at h2
    obtain⟨ts,q1,q2,acc',q3,q4⟩:=xY hT os _ _ h2
    refine⟨((.t s,aT σ (.t s))::oh σ R,[(.t d,.cv s want g X)])::ts,⟨h1,q1⟩,⟨zD,q2⟩,acc',fun hdr=> ?_,by simpa[fJ,iN] using q4⟩
    rw[q3 hdr];subst hdr
    simp only[aRe,List.map_cons,List.append_assoc,List.singleton_append]
    rw[aIe (σ:=σ) (k':= .cv s want g X)]
section
variable {P:Program} {io:List Nat} {Q:Ex→St→Prop} {σ:St}
theorem SW.regT {T:hO} (hT:dQ P T) (ks:List Nat) {id:Nat} {ops:Array Oper} (h:goC P T ops.toList false ops.toList σ [] fun σ' _=>rQ ks σ' (Q .norm)):SW P io (.region id ops false) Q σ:=by
 intro cx ι S a w hio hw hf
 have hfit: ∀o∈ops.toList,∀d,o.dst=some d→d<cx.N:=fun o ho=>yT (by simpa[tN] using hf) ho
 obtain⟨ts,h1,h2,acc,_,h4⟩:=xY hT ops.toList σ [] h
 rw[nG] at h4
 exact wp_region_list (yU ops.toList ts σ ι S a w h1 h2 hw hfit fun ι' S' a' w' hw'=>⟨_,ι',S',h4,hw'.keep ks⟩)
theorem SW.regD {T:hO} (hT:dQ P T) (hm:P.follows .mixedOrders=true) (ks:List Nat) {id:Nat} {ops:Array Oper} (h:goC P T ops.toList true ops.toList σ [] fun σ' ns=>ck ops.toList ns=true∧rQ ks σ' (Q .norm)):SW P io (.region id ops true) Q σ:=by
 intro cx ι S a w hio hw hf
 have hfit: ∀o∈ops.toList,∀d,o.dst=some d→d<cx.N:=fun o ho=>yT (by simpa[tN] using hf) ho
 obtain⟨ts,h1,h2,acc,h3,h4,h5⟩:=xY hT ops.toList σ [] h
 have h3:=h3 rfl
 rw[List.nil_append] at h3
 subst h3
 rw[nG] at h5
 have hlen: ∀(l:List Oper) (ts:List mR),bc P ops l ts→ts.length=l.length∧ ∀(i:Nat) o t,l[i]? =some o→ts[i]? =some t→ItT P ops o t:=by
  intro l
  induction l with
  |nil=>intro ts h;cases ts with
   |nil=>exact⟨rfl,by simp⟩
   |cons t ts=>exact h.elim
  |cons o os ih=>intro ts h;cases ts with
   |nil=>exact h.elim
   |cons t ts=>
    obtain⟨q1,q2⟩:=ih ts h.2
    refine⟨by simp[q1],fun i o' t' ho ht=> ?_⟩
    cases i with
    |zero=>simp at ho ht;subst ho;subst ht;exact h.1
    |succ i=>exact q2 i o' t' (by simpa using ho) (by simpa using ht)
 obtain⟨q1,q2⟩:=hlen _ _ h1
 refine wp_region_any hm (eh (cx:=cx) (σ:=σ) (ts:=ts) (by simpa using q1) (fun i o t ho ht=>q2 i o t (by simpa using ho) ht) h2 (by have:=cl h4;simpa[qD,wY] using this) hfit (fun ι' S' a' w' hw'=>⟨_,ι',S',h5,hw'.keep ks⟩)
  ops.size (Array.replicate ops.size false) σ ι S a _ (by simp) (fun l=> ?_) hw.drew (fun k o ho hk=> ?_) ?_)
 · have hL: ∀i,(Array.replicate ops.size false).getD i false=false:=fun i=>by
    rw[Array.getD_eq_getD_getElem?,Array.getElem?_replicate];split<;>rfl
   have: ∀n,part ts (fun i=>(Array.replicate ops.size false).getD i false) σ l n=aT σ l:=by
    intro n
    induction n with
    |zero=>rfl
    |succ n ih=>rw[nF,if_neg (by rw[hL];simp),ih]
   rw[this]
 · rw[Array.getD_eq_getD_getElem?,Array.getElem?_replicate] at hk;split at hk<;>cases hk
 · exact Nat.le_trans (List.length_filter_le _ _) (by simp)
end
def zE:C→Bool
 | .d _=>true
 | .nil=>true
 | .rp _=>true
 |_=>false
def ii:E→Bool
 | .c x=>zE x
 | .agg cs=>cs.all zE
def oX:V→Bool
 | .e x=>ii x
 | .tup xs=>xs.all ii
section
variable {τ σ':St} {rl:List (Nat×Nat)} {bor:List Nat}
theorem aFf {c:C} (h:zE c=true):mC τ σ' rl bor c c:=by cases c<;>simp_all[zE,mC]
theorem aBo: ∀{cs:List C},cs.all zE=true→zx τ σ' rl bor cs cs
 | [],_=>trivial
 |c::cs,h=>by
  simp only[List.all_cons,aXb] at h
  exact⟨aFf h.1,aBo h.2⟩
theorem aFg {c:E} (h:ii c=true):mE τ σ' rl bor c c:=by
 cases c with
 |c x=>exact aFf h
 |agg cs=>exact aBo h
theorem aBp: ∀{cs:List E},cs.all ii=true→mEs τ σ' rl bor cs cs
 | [],_=>trivial
 |c::cs,h=>by
  simp only[List.all_cons,aXb] at h
  exact⟨aFg h.1,aBp h.2⟩
theorem aFh {c:V} (h:oX c=true):mV τ σ' rl bor c c:=by
 cases c with
 |e x=>exact aFg h
 |tup cs=>exact aBp h
theorem vk {c:C} (h:zE c=true):aHv rl c=c:=by cases c<;>simp_all[zE,aHv]
theorem aFi {cs:List C} (h:cs.all zE=true):cs.map (aHv rl)=cs:=by
 rw[aXl] at h
 exact(List.map_congr_left fun c hc=>vk (h c hc)).trans (List.map_id cs)
theorem vl {c:E} (h:ii c=true):aLg rl c=c:=by
 cases c with
 |c x=>simp[aLg,vk (show zE x=true from h)]
 |agg cs=>simp only[aLg];rw[aFi h]
theorem aIf {c:V} (h:oX c=true):aHw rl c=c:=by
 cases c with
 |e x=>simp[aHw,vl (show ii x=true from h)]
 |tup cs=>
  simp only[aHw]
  have h:cs.all ii=true:=h
  rw[aXl] at h
  rw[(List.map_congr_left fun c hc=>vl (h c hc)).trans (List.map_id cs)]
theorem vm: ∀{Ys:List V} {i:Nat},(∀j Y,Ys[j]? =some Y→aT τ (.t (i+j))=some (.v Y))→Ys.all oX=true→mL τ σ' rl bor (eV i Ys)
 | [],i,_,_=>trivial
 |Y::Ys,i,h,hp=>by
  simp only[List.all_cons,aXb] at hp
  refine⟨⟨Y,h 0 Y rfl,aFh hp.1⟩,vm (fun j Z hj=> ?_) hp.2⟩
  rw[show i+1+j=i+(j+1) by omega]
  exact h (j+1) Z hj
theorem qN: ∀(Ys:List V) (i:Nat),cD (eV i Ys)=[]
 | [],i=>rfl
 |Y::Ys,i=>qN Ys (i+1)
theorem aFj {Xs:List V} (h:Xs.all oX=true):oY (eV 0 Xs++rP []) (eV 0 Xs) [] []:=by
 refine⟨vm (fun j Y hj=> ?_) h,?_⟩
 · have hlt:=(aXh.1 hj).1
   rw[Nat.zero_add,pO 0 Xs _ j (aXd _) (by omega),Nat.sub_zero,hj];rfl
 · simp[bd,qN,vD,pM]
end
section
variable {P:Program} {T:hO} {f:FuncId} {n:Nat} {σin:St} {X:V} {o:Oper} {c:Call} {d:Nat} {σ:St} {Xs:List V} {Ra:List (dH×Option K)}
theorem aFk (hs:Spec P f n σin [(.t 0,.v X)]) (ho:o.op= .call c) (hc:c.callee= .value (.func f)) (hd:o.dst=some d) (hx:evA σ c.args.toList=some (Xs,Ra)) (hn:Xs.length=n) (hin:σin=eV 0 Xs) (hp:Xs.all oX=true) (hX:oX X=true):
 xR P o Ra [(.t d,.v X)]:=by
 subst hin
 have:=aFd (robj:=[]) (rl:=[]) (bor:=[]) hs ho hc hx hn (aFj hp) (by simp[kQ,cD,pH,qN,vD,sP]) (.inl rfl)
 have e1:re Ra [] [] (eV 0 Xs) [(.t 0,.v X)]=Ra:=by simp[re,kN,cD]
 have e2:uA [] (eV 0 Xs) [(.t 0,.v X)] o.dst=[(.t d,.v X)]:=by
  simp[uA,zB,vY,pH,qN,hd,aAd,aT,aIf hX]
 rw[e1,e2] at this
 exact this
theorem ki {k:List (dH×Option K)→List (dH×K)→Prop} (hs:Spec P f n σin [(.t 0,.v X)]) (ho:o.op= .call c) (hc:c.callee= .value (.func f)) (hd:o.dst=some d) (hx:evA σ c.args.toList=some (Xs,Ra)) (hn:Xs.length=n) (hin:σin=eV 0 Xs) (hp:Xs.all oX=true) (hX:oX X=true)
 (h:k Ra [(.t d,.v X)]): ∃R W,xR P o R W∧bT R σ∧k R W:=
 ⟨Ra,_,aFk hs ho hc hd hx hn hin hp hX,uW hx,h⟩
theorem aOe {σ1:St} {g:Bool} {k:List (dH×Option K)→V→Prop} (hs:g=true→Spec P f n σin [(.t 0,.v X)]) (ho:o.op= .call c) (hc:c.callee= .value (.func f)) (hd:o.dst=some d) (hx:evA σ1 c.args.toList=some (Xs,Ra)) (hn:Xs.length=n) (hin:σin=eV 0 Xs) (hp:Xs.all oX=true) (hX:oX X=true)
 (hr:g=true→oW σ Ra) (h:k Ra X): ∃R X,(g=true→xR P o R [(.t d,.v X)]∧bT R σ1)∧(g=true→oW σ R)∧k R X:=
 ⟨Ra,X,fun hg=>⟨aFk (hs hg) ho hc hd hx hn hin hp hX,uW hx⟩,hr,h⟩
theorem bK {σout:St} {rl:List (Nat×Nat)} {bor:List Nat} {robj:List (Nat×K)} {k:List (dH×Option K)→List (dH×K)→Prop} (hs:Spec P f n σin σout) (ho:o.op= .call c) (hc:c.callee= .value (.func f)) (hx:evA σ c.args.toList=some (Xs,Ra)) (hn:Xs.length=n)
 (hm:oY (eV 0 Xs++rP robj) σin rl bor) (hk:kQ rl σin σout=true) (hb:bor=[]∨nR σout) (h1: ∀p∈robj,aT σ (.o p.1)=some p.2) (h2: ∀j∈kN σin σout,aT σ (.o (kL rl j))=none)
 (h:k (re Ra robj rl σin σout) (uA rl σin σout o.dst)): ∃R W,xR P o R W∧bT R σ∧k R W:=
 ⟨_,_,aFd hs ho hc hx hn hm hk hb,aHz hx h1 h2,h⟩
end
def WK (io:List Nat) (J:St→Prop) (s:St):Prop:= ∃σ' rl bor,J σ'∧oY s σ' rl bor∧zA io σ' rl bor=true
theorem wk {io:List Nat} {J:St→Prop} {s:St} (σ':St) (rl:List (Nat×Nat)) (bor:List Nat) (h:J σ') (h1:mL s σ' rl bor σ') (h2:bd σ' rl bor=true) (h3:zA io σ' rl bor=true):WK io J s:=⟨σ',rl,bor,h,⟨h1,h2⟩,h3⟩
section
variable {P:Program} {io:List Nat} {Q:Ex→St→Prop} {σ:St}
theorem SW.wk {c:Code} {J:St→Prop} (h:WK io J σ) (hJ: ∀s,J s→SW P io c Q s):SW P io c Q σ:=by
 obtain⟨σ',rl,bor,h1,h2,h3⟩:=h
 exact SW.weaken σ' rl bor h2 h3 (hJ σ' h1)
theorem SW.loopW {c:Code} (I:Nat→St→Prop) {n:Nat} (h0:WK io (I n) σ) (hr: ∀n s,I n s→SW P io c (kc (fun s'=>WK io (fun s2=> ∃m,m<n∧I m s2) s') Q) s):SW P io (.loop c) Q σ:=by
 refine SW.loop (fun n s=>WK io (I n) s) h0 fun n s hs=>SW.wk hs fun s2 h2=>SW.mono (fun e s3 h3=> ?_) (hr n s2 h2)
 cases e with
 |norm=>
  obtain⟨σ',rl,bor,⟨m,hm,h1⟩,h2,h4⟩:=h3
  exact⟨m,hm,σ',rl,bor,h1,h2,h4⟩
 |exit id=>exact h3
 |ret=>exact h3
theorem SW.midW (J:St→Prop) {x y:Code} (h:SW P io x (kc (fun s=>WK io J s) Q) σ) (hy: ∀s,J s→SW P io y Q s):SW P io (.seq x y) Q σ:=
 SW.seq (h.mono fun e s hq=>by
  cases e with
  |norm=>exact SW.wk hq hy
  |exit id=>exact hq
  |ret=>exact hq)
end
section
variable {τ σ':St} {rl:List (Nat×Nat)} {bor:List Nat} {r:List (dH×K)}
theorem cI {s:Nat} {x y:D} (h:aT τ (.t s)=some (.v (Dv x))) (e:x=y) (hr:mL τ σ' rl bor r):mL τ σ' rl bor ((.t s,.v (Dv y))::r):=⟨⟨_,h,e⟩,hr⟩
theorem lT {s:Nat} (h:aT τ (.t s)=some (.v (.e (.c .nil)))) (hr:mL τ σ' rl bor r):mL τ σ' rl bor ((.t s,.v (.e (.c .nil)))::r):=⟨⟨_,h,trivial⟩,hr⟩
theorem kj {s:Nat} {y:D} (h:aT τ (.t s)=some (.v (.e (.c .nil)))) (e:y= .sl []) (hr:mL τ σ' rl bor r):mL τ σ' rl bor ((.t s,.v (Dv y))::r):=⟨⟨_,h,e⟩,hr⟩
theorem jA {s o n j m:Nat} {e:TypeId} {es:Nat} {rows:List (List D)} (h:aT τ (.t s)=some (.v (.e (.c (.own o n))))) (ho:o=kL rl j) (e1:n=m) (hj:aT σ' (.o j)=some (.row e es rows)) (hr:mL τ σ' rl bor r):mL τ σ' rl bor ((.t s,.v (.e (.c (.own j m))))::r):=
 ⟨⟨_,h,ho,e1,e,es,rows,hj⟩,hr⟩
theorem eW {s o n:Nat} {y:D} {e:TypeId} {es:Nat} {rows:List (List D)} (h:aT τ (.t s)=some (.v (.e (.c (.own o n))))) (hb:iO o bor=true) (hj:aT τ (.o o)=some (.row e es rows)) (e1:rows.length=n) (e2:y= .sl rows) (hr:mL τ σ' rl bor r):mL τ σ' rl bor ((.t s,.v (Dv y))::r):=
 ⟨⟨_,h,hP.1 hb,e,es,rows,hj,e1,.inl e2⟩,hr⟩
theorem bU {s o k j m:Nat} {ty:TypeId} {cs:List C} (h:aT τ (.t s)=some (.v (.e (.c (.pt o k))))) (ho:o=kL rl j) (e1:k=m) (hj:aT σ' (.o j)=some (.box ty cs)) (hr:mL τ σ' rl bor r):mL τ σ' rl bor ((.t s,.v (.e (.c (.pt j m))))::r):=
 ⟨⟨_,h,ho,e1,ty,cs,hj⟩,hr⟩
theorem dX {s:Nat} {cs ds:List C} (h:aT τ (.t s)=some (.v (.e (.agg cs)))) (e:zx τ σ' rl bor cs ds) (hr:mL τ σ' rl bor r):mL τ σ' rl bor ((.t s,.v (.e (.agg ds)))::r):=⟨⟨_,h,e⟩,hr⟩
theorem bV {j:Nat} {e:TypeId} {es:Nat} {rows rows':List (List D)} (h:aT τ (.o (kL rl j))=some (.row e es rows)) (e1:rows=rows') (hr:mL τ σ' rl bor r):mL τ σ' rl bor ((.o j,.row e es rows')::r):=⟨⟨_,h,rfl,rfl,e1⟩,hr⟩
theorem aV {j:Nat} {ty:TypeId} {cs ds:List C} (h:aT τ (.o (kL rl j))=some (.box ty cs)) (e1:zx τ σ' rl bor cs ds) (hr:mL τ σ' rl bor r):mL τ σ' rl bor ((.o j,.box ty ds)::r):=⟨⟨_,h,rfl,e1⟩,hr⟩
theorem aJ:zx τ σ' rl bor [] []:=trivial
theorem aD {x y:D} {cs ds:List C} (e:x=y) (h:zx τ σ' rl bor cs ds):zx τ σ' rl bor (.d x::cs) (.d y::ds):=⟨e,h⟩
theorem jS {cs ds:List C} (h:zx τ σ' rl bor cs ds):zx τ σ' rl bor (.nil::cs) (.nil::ds):=⟨trivial,h⟩
theorem bQ {o n j m:Nat} {e:TypeId} {es:Nat} {rows:List (List D)} {cs ds:List C} (ho:o=kL rl j) (e1:n=m) (hj:aT σ' (.o j)=some (.row e es rows)) (h:zx τ σ' rl bor cs ds):zx τ σ' rl bor (.own o n::cs) (.own j m::ds):=⟨⟨ho,e1,e,es,rows,hj⟩,h⟩
theorem aLp {o n:Nat} {y:D} {e:TypeId} {es:Nat} {rows:List (List D)} {cs ds:List C} (hb:iO o bor=true) (hj:aT τ (.o o)=some (.row e es rows)) (e1:rows.length=n) (e2:y= .sl rows) (h:zx τ σ' rl bor cs ds):zx τ σ' rl bor (.own o n::cs) (.d y::ds):=⟨⟨hP.1 hb,e,es,rows,hj,e1,.inl e2⟩,h⟩
theorem eF {o k j m:Nat} {ty:TypeId} {xs cs ds:List C} (ho:o=kL rl j) (e1:k=m) (hj:aT σ' (.o j)=some (.box ty xs)) (h:zx τ σ' rl bor cs ds):zx τ σ' rl bor (.pt o k::cs) (.pt j m::ds):=⟨⟨ho,e1,ty,xs,hj⟩,h⟩
end
theorem RW.nilOwn {P:Program} {cx:Cx P} {σ:St} {ι:Nat→Value} {S:Nat→Prop} {a:Act} {w:World} (h:RW cx σ ι S a w) {s j:Nat} (e:TypeId) (es:Nat) (hs:aT σ (.t s)=some (.v (.e (.c .nil)))) (hj:aT σ (.o j)=none):
 RW cx (qB (qB σ (.o j) (.row e es [])) (.t s) (.v (.e (.c (.own j 0))))) (fun o=>if o=j then .slice none 0 0 else ι o) S a w:=by
 have hblk: ∀b,uZ (.slice none 0 0) b→some b=(none:Option Nat)∨w.heap.size≤b:=fun b hb=>by simp[uZ] at hb
 have h1:=h.turn (id:=j) (old:=none) (k:= .row e es []) (p:= .slice none 0 0) (w':=w) ⟨rfl,rfl,rfl,aXi _,(fun _ _ _=>rfl),(fun b hb=>by cases hb),.inl hj,hblk,.inl ⟨rfl,rfl⟩⟩
 have hv:iV a s= .slice none 0 0:=h.vr.slots s _ hs
 refine h1.reslot (fun o=>cN _ _ (by simp)) fun t k hk=> ?_
 rw[lR] at hk
 by_cases e1:s=t
 · subst e1
   rw[if_pos rfl] at hk;cases hk
   show CR (qB σ (.o j) (.row e es [])) (fun o=>if o=j then .slice none 0 0 else ι o) w S (.own j 0) (iV a s)
   rw[hv]
   exact⟨rfl,.inl ⟨e,es,[],cX _ _ _,aXi _,fun _=>by simp⟩⟩
 · rw[if_neg (by simpa using e1)] at hk
   exact h1.vr.slots t k hk
theorem SW.nilOwn {P:Program} {io:List Nat} {Q:Ex→St→Prop} {σ:St} {c:Code} (s j:Nat) (e:TypeId) (es:Nat) (hs:aT σ (.t s)=some (.v (.e (.c .nil)))) (hj:aT σ (.o j)=none)
 (h:nS σ [(.o j,.row e es []),(.t s,.v (.e (.c (.own j 0))))] (SW P io c Q)):SW P io c Q σ:=by
 rw[kX] at h
 intro cx ι S a w hio hw hf
 exact h cx _ S a w hio (hw.nilOwn e es hs hj) hf
theorem ai {a b:Prop} (x:a) (y:b):a∧b:=⟨x,y⟩
theorem vc {p:Prop} (h:p:=by first|trivial|exact aW8 rfl|exact⟨rfl,aW8 rfl⟩|omega|((repeat' apply And.intro)<;>first|trivial|rfl|exact aW8 rfl|omega)|(simp;done)|(simp;omega)):p:=h
theorem rk {p:Prop} (h:p:=by intro h;(repeat' apply And.intro)<;>first|exact h|trivial):p:=h
theorem pk {p:Prop} (h:p:=by constructor<;>intro h<;>first|trivial|exact h|(simp[gb,vG];done)|(simpa[gb,vG] using h)|(simp only[gb,vG] at *; grind)|(simp_all[gb,vG];done)):p:=h
def OpE (P:Program) (o:Oper) (R:List (dH×Option K)) (Ws:List (dH×K)→Prop):Prop:=
 ∀(cx:Cx P) (σ:St) (ι:Nat→Value) (S:Nat→Prop) (a:Act) (w:World),bT R σ→RW cx σ ι S a w→(∀d,o.dst=some d→d<cx.N)→
  ∀(next:Act→World→Prop) (Q:Exit→Act→World→Prop),(∀W,Ws W→ ∀ι' S' a' w',RW cx (iN σ W) ι' S' a' w'→next a' w')→o.wp P a w next Q
theorem xR.toE {P:Program} {o:Oper} {R:List (dH×Option K)} {W:List (dH×K)} (h:xR P o R W):OpE P o R (· =W):=
 fun cx σ ι S a w hr hw hd next Q hn=>h cx σ ι S a w hr hw hd next Q fun ι' S' a' w' hw'=>hn W rfl ι' S' a' w' hw'
def SpecE (P:Program) (f:FuncId) (n:Nat) (σin:St) (Qo:St→Prop):Prop:=
 ie P f∧ ∀(ι ν:Nat→Value) (S:Nat→Prop) (w:World) (args:Array Value),(GB P w fun b=> ∃o,lC σin ι o b)→VR σin ι ν S w→args.size=n→(∀i,i<n→args[i]? =some (ν i))→
  Calls P f args w fun e w'=> ∃v ι' S' σout,Qo σout∧e= .returned v∧aN5 σin ι S w σout ι' S' w' v
theorem nU {P:Program} {f:FuncId} {args:Array Value} {w:World} {Q Q':Ending→World→Prop} (hq: ∀e w',Q e w'→Q' e w') (h:Calls P f args w Q):Calls P f args w Q':=by
 intro cs
 obtain⟨e,w',fr,h1,h2⟩:=h cs
 exact⟨e,w',fr,hq e w' h1,h2⟩
theorem Spec.toE {P:Program} {f:FuncId} {n:Nat} {σin σout:St} {Qo:St→Prop} (h:Spec P f n σin σout) (hq:Qo σout):SpecE P f n σin Qo:=by
 refine⟨h.1,fun ι ν S w args h0 h1 h2 h3=>nU (fun e w'=> ?_) (h.2 ι ν S w args h0 h1 h2 h3)⟩
 rintro⟨v,ι',S',rfl,hp⟩
 exact⟨v,ι',S',σout,hq,rfl,hp⟩
def aOf (T:hO) (io:List Nat) (rs:List ResultVar) (Qo:St→Prop):Ex→St→Prop
 | .norm,s=> ∃σout,Qo σout∧be T io rs σout s
 | .ret,s=> ∃σout,Qo σout∧be T io rs σout s
 | .exit _,_=>False
theorem aAe {P:Program} {T:hO} (hT:dQ P T) {f:FuncId} {fn:Func} {c:Code} {n:Nat} {σin:St} {Qo:St→Prop} (hf:P.funcs[f]? =some fn) (hb:fn.body=some c) (hname: (fn.name== "runtime.NumGoroutine")=false) (hn:n≤fn.ntmps) (hfit:tN fn.ntmps c=true)
 (hsl:sP n σin=true) (h:SW P (cD σin) c (aOf T (cD σin) fn.results.toList Qo) σin):SpecE P f n σin Qo:=by
 refine⟨⟨fn,hf,by rw[hb];rfl,hname⟩,fun ι ν S w args hgb hvr hsz hargs=> ?_⟩
 have hnu: ∀s,s<n→(args++Array.replicate (fn.ntmps - args.size) undef).getD s undef=ν s:=by
  intro s hs
  rw[Array.getD_eq_getD_getElem?,Array.getElem?_append_left (by omega),hargs s hs];rfl
 let cx:Cx P:={N:=fn.ntmps,w0:=w,S0:=S,k0:=fun o=>aT σin (.o o),kio:=fun o=>aT σin (.o o),ι0:=ι,gb:=hgb.weak fun b ⟨o,k,q1,q2,q3⟩=>⟨o,⟨k,q1,q2⟩,q3⟩}
 have hM: ∀b,cx.M b↔ ∃o,lC σin ι o b:=fun b=>⟨fun⟨o,k,q1,q2,q3⟩=>⟨o,⟨k,q1,q2⟩,q3⟩,fun⟨o,⟨k,q1,q2⟩,q3⟩=>⟨o,k,q1,q2,q3⟩⟩
 have hw:RW cx σin ι S {tmps:=args++Array.replicate (fn.ntmps - args.size) undef,defers:=[]} w:=by
  refine⟨⟨fun s x hx=> ?_,hvr.objs,hvr.mutS,hvr.inj,hvr.sz⟩,?_,rfl,Fr.refl _ _,fun o b ⟨⟨k,q1,q2⟩,q3⟩=> .inr ⟨o,k,q1,q2,q3⟩,fun b hb=> .inl hb,fun o k hk=>⟨k,hk,nQ.refl' _ _⟩⟩
  · have hs:=uE hsl s _ hx
    have:iV {tmps:=args++Array.replicate (fn.ntmps - args.size) undef,defers:=[]} s=ν s:=hnu s hs
    rw[this];exact hvr.slots s x hx
  · show(args++Array.replicate (fn.ntmps - args.size) undef).size=fn.ntmps
    simp;omega
 refine calls_of_wp hf hb (wp_mono (h cx ι S _ w (fun o k hk=>fM hk) hw hfit) fun e a' w' hq=> ?_)
 have fin: (∃σ' ι' S',(∃σout,Qo σout∧be T (cD σin) fn.results.toList σout σ')∧RW cx σ' ι' S' a' w')→a'.defers=[]∧ ∃v,(results fn a'.tmps).run P w'= .ok v w'∧ ∃v_1 ι' S' σout,Qo σout∧Ending.returned v= .returned v_1∧aN5 σin ι S w σout ι' S' w' v_1:=by
  rintro⟨σ',ι',S',⟨σout,hQo,X,rl,bor,hX,hm,hio⟩,hw'⟩
  obtain⟨v,hr,hv⟩:=ux hT hw' hX
  refine⟨hw'.defers,v,hr,v,fun j=>ι' (kL rl j),qI σ' ι' bor S',σout,hQo,rfl,?_⟩
  have hlo: ∀o,aT ((dH.t 0,K.v X)::eC σ') (.o o)=aT σ' (.o o):=fun o=>by simp only[aT];rw[if_neg (by simp),qJ]
  have st:rM σ' ι' S' w' ((dH.t 0,K.v X)::eC σ') ι' S' w':=⟨fun _ h=>h,fun _ _=>rfl,fun o k hk=>⟨k,by rw[hlo];exact hk,nQ.refl' _ _⟩⟩
  have hmut: ∀o b,lC ((dH.t 0,K.v X)::eC σ') ι' o b↔lC σ' ι' o b:=fun o b=>by unfold lC;rw[hlo]
  have hlt: ∀(r:St) s k,aT (eC r) (.t s)=some k→False:=by
   intro r s k
   induction r with
   |nil=>intro h;cases h
   |cons p r ih=>
    obtain⟨l,k'⟩:=p
    cases l with
    |t n=>exact ih
    |o n=>simp only[eC,aT];rw[if_neg (by simp)];exact ih
  have hvr0:VR ((dH.t 0,K.v X)::eC σ') ι' (fun _=>v) S' w':=by
   refine⟨fun s x hx=> ?_,fun o k hk=>OR.step st (fun _ _=>rfl) (hw'.vr.objs o k (by rw[← hlo];exact hk)),fun o b q=>hw'.vr.mutS o b ((hmut o b).1 q),fun o o' b q q'=>hw'.vr.inj o o' b ((hmut o b).1 q) ((hmut o' b).1 q'),hw'.vr.sz⟩
   simp only[aT] at hx
   split at hx
   · cases hx;exact lZ.step st hv
   · exact(hlt σ' s _ hx).elim
  have hvr1:=vE hm (fun _ _ h=>h) hvr0
  have hio2: ∀o∈cD σin,iO o (cD σout)=false∨Nat.beq (kL rl o) o=true:=by simpa only[uy,aXl,Bool.or_eq_true,Bool.not_eq_true'] using hio
  have hgive: ∀b,qI ((dH.t 0,K.v X)::eC σ') ι' bor S' b→qI σ' ι' bor S' b:=fun b hb=>hb.imp id fun⟨o,ho,q⟩=>⟨o,ho,(hmut o b).1 q⟩
  refine⟨⟨hw'.fr.os,hw'.fr.tape,hw'.fr.output,hw'.fr.size,fun b hb hnm=>hw'.fr.block b hb (fun h=>hnm ((hM b).1 h))⟩,?_,fun b hb=> ?_,fun j b hmu=> ?_,fun o k k' hk hk'=> ?_⟩
  · have e:qI ((dH.t 0,K.v X)::eC σ') ι' bor S'=qI σ' ι' bor S':=by
     funext b;apply propext;exact⟨hgive b,fun hb=>hb.imp id fun⟨o,ho,q⟩=>⟨o,ho,(hmut o b).2 q⟩⟩
    rw[← e];exact hvr1
  · rcases hb with hb|⟨o,ho,hmo⟩
    · exact(hw'.rd b hb).imp id fun h=>h.imp id fun h=>(hM b).1 h
    · exact .inr ((hw'.own o b hmo).imp id fun h=>(hM b).1 h)
  · exact(hw'.own _ b ((hmut _ b).1 (hm.mut (fun _ _ h=>h) hmu))).imp id fun h=>(hM b).1 h
  · have hren:kL rl o=o:=by
     rcases hio2 o (fM hk) with h4|h4
     · rw[hP.2 (fM hk')] at h4;cases h4
     · exact Nat.eq_of_beq_eq_true h4
    obtain⟨k1,hk1,hev⟩:=hw'.io o k hk
    have hev:nQ (ι o) (ι' o) k k1:=hev
    obtain⟨k2,hk2,hmk⟩:=hm.ids o k' hk'
    rw[hren,hlo,hk1] at hk2;cases hk2
    rw[hren]
    exact aC8 hev hmk
 cases e with
 |normal=>
  obtain⟨σ',ι',S',h1,h2⟩:=hq
  exact fin ⟨σ',ι',S',h1,h2⟩
 |ret=>
  obtain⟨σ',ι',S',h1,h2⟩:=hq
  exact fin ⟨σ',ι',S',h1,h2⟩
 |exit id=>obtain⟨σ',ι',S',h1,h2⟩:=hq;exact h1.elim
 |goto l=>exact hq.elim
 |panic ch=>exact hq.elim
 |outgrown=>exact hq.elim
section
variable {P:Program} {f:FuncId} {n:Nat} {σin:St} {Qo:St→Prop} {rl:List (Nat×Nat)} {bor:List Nat} {σ0:St} {Xs:List V} {Ra:List (dH×Option K)} {robj:List (Nat×K)} {news:List Nat}
def aOg (Ra:List (dH×Option K)) (robj:List (Nat×K)) (rl:List (Nat×Nat)) (news:List Nat):List (dH×Option K):=
 Ra++robj.map (fun p=>(.o p.1,some p.2))++news.map fun j=>(.o (kL rl j),none)
theorem aBq (hs:SpecE P f n σin Qo) {o:Oper} {c:Call} (ho:o.op= .call c) (hc:c.callee= .value (.func f)) (hx:evA σ0 c.args.toList=some (Xs,Ra)) (hn:Xs.length=n)
 (hm:oY (eV 0 Xs++rP robj) σin rl bor) (hq: ∀σout,Qo σout→kQ rl σin σout=true∧(bor=[]∨nR σout)∧ ∀j∈kN σin σout,j∈news):
 OpE P o (aOg Ra robj rl news) fun W=> ∃σout,Qo σout∧W=uA rl σin σout o.dst:=by
 intro cx σ ι S a w hr hw hd next Q hnext
 obtain⟨⟨fn,hf,hbody,hname⟩,hcall⟩:=hs
 obtain⟨hlen,hargs⟩:=oe hw hx hr.left.left
 let args:Array Value:=c.args.map a.eval
 let ν:Nat→Value:=fun i=>(args[i]?).getD undef
 have hsz:args.size=n:=by show(c.args.map a.eval).size=n;rw[Array.size_map,← hn,hlen,Array.length_toList]
 have hargν: ∀i,i<n→args[i]? =some (ν i):=fun i hi=>by
  show args[i]? =some ((args[i]?).getD undef)
  rw[Array.getElem?_eq_getElem (by omega)];rfl
 have hνr: ∀s X,Xs[s]? =some X→lZ σ ι w S X (ν s):=fun s X hX=>by
  obtain⟨x,h1,h2⟩:=hargs s X hX
  have:ν s=a.eval x:=by
   show((c.args.map a.eval)[s]?).getD undef=a.eval x
   rw[Array.getElem?_toList] at h1
   rw[Array.getElem?_map,h1];rfl
  rw[this];exact h2
 have hlo: ∀o,aT (eV 0 Xs++eC σ) (.o o)=aT σ (.o o):=fun o=>by rw[lD,qJ]
 have st:rM σ ι S w (eV 0 Xs++eC σ) ι S w:=⟨fun _ h=>h,fun _ _=>rfl,fun o k hk=>⟨k,by rw[hlo];exact hk,nQ.refl' _ _⟩⟩
 have hmut: ∀o b,lC (eV 0 Xs++eC σ) ι o b↔lC σ ι o b:=fun o b=>by unfold lC;rw[hlo]
 have hvr0:VR (eV 0 Xs++eC σ) ι ν S w:=by
  refine⟨fun s x hx=> ?_,fun o k hk=>OR.step st (fun _ _=>rfl) (hw.vr.objs o k (by rw[← hlo];exact hk)),fun o b q=>hw.vr.mutS o b ((hmut o b).1 q),fun o o' b q q'=>hw.vr.inj o o' b ((hmut o b).1 q) ((hmut o' b).1 q'),hw.vr.sz⟩
  obtain⟨X,h1,h2⟩:=bf hx
  cases h2
  exact lZ.step st (hνr s _ h1)
 have hsub: ∀l k,aT (eV 0 Xs++rP robj) l=some k→aT (eV 0 Xs++eC σ) l=some k:=fun l k h=>by
  cases l with
  |o o=>
   rw[hlo]
   rw[lD] at h
   exact hr (.o o,some k) (List.mem_append_left _ (List.mem_append_right _ (aXk.2 ⟨(o,k),ig h,rfl⟩)))
  |t s=>
   obtain⟨X,h1,rfl⟩:=vF h
   have hs:=(aXh.1 h1).1
   rw[pO 0 Xs _ s (aXd _) (by omega)];simp[h1]
 have hvr1:=vE hm hsub hvr0
 have hgb:GB P w fun b=> ∃o,lC σin (fun j=>ι (kL rl j)) o b:=fun w2 h2=>cx.gb w2 (hw.fr.trans h2 fun x hx ⟨o,ho⟩=>by
  rcases hw.own _ x ((hmut _ _).1 (hm.mut hsub ho)) with h3|h3
  · omega
  · exact h3)
 have hcl:=hcall _ ν _ w args hgb hvr1 hsz hargν
 obtain⟨callee,cargs,argTypes⟩:=c
 dsimp only at hc
 subst hc
 have hbd: ∃cd,fn.body=some cd:=by
  cases hq:fn.body with
  |none=>rw[hq] at hbody;cases hbody
  |some cd=>exact⟨cd,rfl⟩
 obtain⟨cd,hbd⟩:=hbd
 have hrun: (execOp a.eval o).run P w= .ok (.enter f args) w:=by
  have h1:=MuLone.run_callFunc_enter (P:=P) hf hname hbd args w
  have e: (execOp a.eval o).run P w=(callFunc f (args++ #[])).run P w:=by
   simp[execOp,ho,resolve,invoke,Deferred.ofValue,args,Act.eval]
  rw[e,Array.append_empty];exact h1
 unfold Oper.wp
 rw[hrun,Oper.upon_enter]
 intro cs
 obtain⟨e,w',fr,⟨v,ι',S',σout,hQo,rfl,hpost⟩,hcomes⟩:=hcl cs
 refine⟨_,w',fr,?_,hcomes⟩
 dsimp only
 obtain⟨hk,hb,hnw⟩:=hq σout hQo
 have hr':bT (re Ra robj rl σin σout) σ:=by
  intro p hp
  rcases List.mem_append.1 hp with hp|hp
  · exact hr p (List.mem_append_left _ hp)
  · obtain⟨j,hj,rfl⟩:=aXk.1 hp
    exact hr (.o (kL rl j),none) (List.mem_append_right _ (aXk.2 ⟨j,hnw j hj,rfl⟩))
 have hrw:=aJ9 (Ra:=Ra) hm hk hb hr' hw hνr hpost
 have hSK: ∀{l:dH} {k:K},aT σout l=some k→(∀b,S' b→(S b∨(bor=[]∧S' b)))∨ke k:=fun{l k} h=>by
  rcases hb with e|hs
  · exact .inl fun b hb=> .inr ⟨e,hb⟩
  · exact .inr (hs (l,k) (vC h))
 have hnext:=hnext _ ⟨σout,hQo,rfl⟩
 cases hdst:o.dst with
 |none=>
  refine hnext (oZ rl σout ι' ι) (fun b=>S b∨(bor=[]∧S' b)) _ w' ?_
  rw[hdst]
  simp only[uA,aAd,List.append_nil]
  exact hrw
 |some d=>
  have hd':=hd d hdst
  cases hq:aT σout (.t 0) with
  |none=>
   refine hnext (oZ rl σout ι' ι) (fun b=>S b∨(bor=[]∧S' b)) _ w' ?_
   rw[hdst]
   simp only[uA,aAd,pW,hq,iN]
   exact hrw.putDead hd' v
  |some k=>
   cases k with
   |v X=>
    refine hnext (oZ rl σout ι' ι) (fun b=>S b∨(bor=[]∧S' b)) _ w' ?_
    rw[hdst]
    simp only[uA,aAd,pW,hq,iN]
    exact hrw.put hd' (aJ8 hk (hSK hq) (hpost.vr.slots 0 (.v X) hq))
   |_=>
    refine hnext (oZ rl σout ι' ι) (fun b=>S b∨(bor=[]∧S' b)) _ w' ?_
    rw[hdst]
    simp only[uA,aAd,pW,hq,iN]
    exact hrw.putDead hd' v
end
theorem RW.weaken {P:Program} {cx:Cx P} {io:List Nat} {σ:St} {ι:Nat→Value} {S:Nat→Prop} {a:Act} {w:World} (σ':St) (rl:List (Nat×Nat)) (bor:List Nat) (hm:oY σ σ' rl bor) (hk:zA io σ' rl bor=true) (hio: ∀o k,cx.kio o=some k→o∈io) (hw:RW cx σ ι S a w):RW cx σ' (fun j=>ι (kL rl j)) (qI σ ι bor S) a w:=by
 have hkk: ∀o k,cx.kio o=some k→kL rl o=o∧o∈cD σ'∧o∉bor:=fun o k ho=>by
  have:=aXl.1 hk o (hio o k ho)
  simp only[aXb,Bool.not_eq_true'] at this
  refine⟨Nat.eq_of_beq_eq_true this.1.1,hP.1 this.1.2,fun hb=> ?_⟩
  rw[hP.2 hb] at this;cases this.2
 have hvr:=vE hm (fun _ _ h=>h) hw.vr
 refine⟨hvr,hw.size,hw.defers,hw.fr,fun j b hmu=> ?_,fun b hb=> ?_,fun o k ho=> ?_⟩
 · exact hw.own _ b (hm.mut (fun _ _ h=>h) hmu)
 · rcases hb with hb|⟨o,ho,hmo⟩
   · exact hw.rd b hb
   · exact .inr (hw.own o b hmo)
 · obtain⟨q1,q2,q3⟩:=hkk o k ho
   obtain⟨k1,hk1,hev⟩:=hw.io o k ho
   obtain⟨p,hp⟩:=qH q2
   obtain⟨k2,hk2,hmk⟩:=hm.ids o p hp
   rw[q1] at hk2
   rw[hk1] at hk2;cases hk2
   refine⟨p,hp,?_⟩
   rw[q1]
   exact aC8 hev hmk
theorem RW.freeze {P:Program} {cx:Cx P} {σ:St} {ι:Nat→Value} {S:Nat→Prop} {a:Act} {w:World} (hw:RW cx σ ι S a w) {s o n:Nat} {e:TypeId} {es:Nat} {rows:List (List D)} (hs:aT σ (.t s)=some (.v (.e (.c (.own o n))))) (ho:aT σ (.o o)=some (.row e es rows)) (hn:rows.length=n):
 RW cx (qB (qB σ (.o o) .dead) (.t s) (.v (Dv (.sl rows)))) ι (fun b=>S b∨uZ (ι o) b) a w:=by
 have hlo: ∀o',aT (qB (qB σ (.o o) .dead) (.t s) (.v (Dv (.sl rows)))) (.o o')=if o'=o then some .dead else aT σ (.o o'):=fun o'=>by
  rw[cN _ _ (by simp),lR]
  by_cases h:o'=o
  · subst h;simp
  · rw[if_neg (by simpa using fun e=>h e.symm),if_neg h]
 have hmut: ∀o' b,lC (qB (qB σ (.o o) .dead) (.t s) (.v (Dv (.sl rows)))) ι o' b→o'≠o∧lC σ ι o' b:=fun o' b ⟨⟨k,hk,hl⟩,hb⟩=>by
  rw[hlo] at hk
  by_cases h:o'=o
  · rw[if_pos h] at hk;cases hk;exact hl.elim
  · rw[if_neg h] at hk;exact⟨h,⟨k,hk,hl⟩,hb⟩
 have hmo: ∀b,uZ (ι o) b→lC σ ι o b:=fun b hb=>⟨⟨_,ho,trivial⟩,hb⟩
 have st:rM σ ι S w (qB (qB σ (.o o) .dead) (.t s) (.v (Dv (.sl rows)))) ι (fun b=>S b∨uZ (ι o) b) w:=by
  refine⟨fun b h=> .inl h,fun _ _=>rfl,fun o' k hk=> ?_⟩
  by_cases h:o'=o
  · exact⟨.dead,by rw[hlo,if_pos h],by cases k<;>simp[nQ]⟩
  · exact⟨k,by rw[hlo,if_neg h];exact hk,nQ.refl' _ _⟩
 have hrow:=hw.vr.objs o _ ho
 have hv:iV a s=ι o:=by
  obtain⟨_,h2⟩:=(show CR σ ι w S (.own o n) (iV a s) from hw.vr.slots s _ hs)
  rcases h2 with⟨e2,es2,rows2,hl,_,hv⟩|hd
  · rw[ho] at hl;cases hl;exact hv hn
  · rw[ho] at hd;cases hd
 refine⟨⟨fun t k hkt=> ?_,fun o' k hk=> ?_,fun o' b hm hS=> ?_,fun o1 o2 b h1 h2=> ?_,fun b hb=> ?_⟩,hw.size,hw.defers,hw.fr,fun o' b hm=>hw.own o' b (hmut o' b hm).2,fun b hb=> ?_,fun o' k hk'=> ?_⟩
 · rw[lR] at hkt
   by_cases e2:s=t
   · subst e2
     rw[if_pos rfl] at hkt;cases hkt
     show DR w _ (.sl rows) (iV a s)
     rw[hv]
     rcases hrow with⟨h1,h2⟩|⟨g,off,cap,cur,fz,h1,hh,hfz,h2,h3,h4,h5⟩
     · rw[h1,h2]
       exact DR.sl [] none 0 es ⟨0,0,none⟩ (fun _ _=>undef) (aXi _) (by decide) (by simp) (by simp) (by simp) (by simp)
     · rw[h1]
       let u:Nat→Nat→Value:=fun i k=>(cur[off+i*es+k]?).getD undef
       refine DR.sl rows (some ⟨g,off,none⟩) cap es ⟨g,off,none⟩ u h2 h3 (fun r hr=> ?_) (fun _=>rfl) (fun i r k d hi hd=> ?_) (fun i r k d hi hd=> ?_)
       · obtain⟨i,hi⟩:=aXq.1 hr
         exact(h5 i r hi).1
       · obtain⟨v,hv1,_⟩:=(h5 i r hi).2 k d hd
         refine⟨.inr rfl,?_⟩
         rw[lK,cell_of_row w g _ cur e fz hh,← Nat.add_assoc]
         show cur[off+i*es+k]? =some ((cur[off+i*es+k]?).getD undef)
         rw[hv1];rfl
       · obtain⟨v,hv1,hv2⟩:=(h5 i r hi).2 k d hd
         have:u i k=v:=by show(cur[off+i*es+k]?).getD undef=v;rw[hv1];rfl
         rw[this]
         exact DR.mono (fun b h=> .inl h) (fun _ _=>rfl) hv2
   · rw[if_neg (by simpa using e2),cN _ _ (by simp)] at hkt
     exact rN.step st (hw.vr.slots t k hkt)
 · rw[hlo] at hk
   by_cases h:o'=o
   · rw[if_pos h] at hk;cases hk;trivial
   · rw[if_neg h] at hk
     exact OR.step st (fun _ _=>rfl) (hw.vr.objs o' k hk)
 · obtain⟨hne,hm⟩:=hmut o' b hm
   rcases hS with hS|hS
   · exact hw.vr.mutS o' b hm hS
   · exact hne (hw.vr.inj o' o b hm (hmo b hS))
 · exact hw.vr.inj o1 o2 b (hmut o1 b h1).2 (hmut o2 b h2).2
 · rcases hb with hb|hb
   · exact hw.vr.sz b hb
   · exact OR.lt hrow trivial hb
 · rcases hb with hb|hb
   · exact hw.rd b hb
   · exact .inr (hw.own o b (hmo b hb))
 · obtain⟨k2,q1,q2⟩:=hw.io o' k hk'
   by_cases hne:o'=o
   · exact⟨.dead,by rw[hlo,if_pos hne],by cases k<;>trivial⟩
   · exact⟨k2,by rw[hlo,if_neg hne];exact q1,q2⟩
def vn (io:List Nat) (σ σ1:St):Prop:= ∀(P:Program) (cx:Cx P) (ι:Nat→Value) (S:Nat→Prop) (a:Act) (w:World),(∀o k,cx.kio o=some k→o∈io)→RW cx σ ι S a w→ ∃ι' S',RW cx σ1 ι' S' a w
theorem vn.rfl {io:List Nat} {σ:St}:vn io σ σ:=fun _ cx ι S a w _ h=>⟨ι,S,h⟩
theorem vn.trans {io:List Nat} {σ σ1 σ2:St} (h:vn io σ σ1) (k:vn io σ1 σ2):vn io σ σ2:=fun _ cx ι S a w hio hw=>by
 obtain⟨ι1,S1,h1⟩:=h _ cx ι S a w hio hw
 exact k _ cx ι1 S1 a w hio h1
theorem vn.weak {io:List Nat} {σ σ1:St} (rl:List (Nat×Nat)) (bor:List Nat) (hm:mL σ σ1 rl bor σ1) (hm2:bd σ1 rl bor=true) (hk:zA io σ1 rl bor=true):vn io σ σ1:=fun _ cx ι S a w hio hw=>⟨_,_,RW.weaken σ1 rl bor ⟨hm,hm2⟩ hk hio hw⟩
theorem vn.frz {io:List Nat} {σ:St} {s o n:Nat} {e:TypeId} {es:Nat} {rows:List (List D)} (hs:aT σ (.t s)=some (.v (.e (.c (.own o n))))) (ho:aT σ (.o o)=some (.row e es rows)) (hn:rows.length=n) (hk:iO o io=false):vn io σ (qB (qB σ (.o o) .dead) (.t s) (.v (Dv (.sl rows)))):=fun _ cx ι S a w hio hw=>
 ⟨_,_,hw.freeze hs ho hn⟩
theorem SW.frz {P:Program} {io:List Nat} {Q:Ex→St→Prop} {σ:St} {c:Code} (s o:Nat) {n:Nat} {e:TypeId} {es:Nat} {rows:List (List D)} (hs:aT σ (.t s)=some (.v (.e (.c (.own o n))))) (ho:aT σ (.o o)=some (.row e es rows)) (hn:rows.length=n) (hk:iO o io=false)
 (h:tf σ (.o o) .dead fun σ'=>tf σ' (.t s) (.v (Dv (.sl rows))) fun σ2=>SW P io c Q σ2):SW P io c Q σ:=fun cx ι S a w hio hw hf=>by
 rw[pA,pA] at h
 obtain⟨ι1,S1,h1⟩:=vn.frz hs ho hn hk _ cx ι S a w hio hw
 exact h cx ι1 S1 a w hio h1 hf
def aBr (P:Program) (T:hO) (io:List Nat) (o:Oper) (σ:St) (k:St→Prop):Prop:=
 match oi T o σ with
 |some (p,_,W)=>p∧nS σ W k
 |none=> ∃σ1,vn io σ σ1∧ ∃R Ws,OpE P o R Ws∧bT R σ1∧ ∀W,Ws W→nS σ1 W k
theorem ro {P:Program} {T:hO} (hT:dQ P T) {io:List Nat} {o:Oper} {σ:St} {k:St→Prop} (h:aBr P T io o σ k): ∃σ1,vn io σ σ1∧ ∃R Ws,OpE P o R Ws∧bT R σ1∧ ∀W,Ws W→nS σ1 W k:=by
 unfold aBr at h
 split at h
 · rename_i p R W he
   obtain⟨h1,h2⟩:=wA hT o σ p R W he h.1
   exact⟨σ,vn.rfl,R,_,h1.toE,h2,fun W' e=>by subst e;exact h.2⟩
 · exact h
def goE (P:Program) (T:hO) (io:List Nat) (ops:List Oper):List Oper→St→(St→Prop)→Prop
 | [],σ,k=>k σ
 |o::os,σ,k=>match o.guard with
  |none=>aBr P T io o σ fun σ'=>goE P T io ops os σ' k
  |some (j,want)=>match(ops[j]?).bind (·.dst),o.dst with
   |some s,some d=>match gOf want (aT σ (.t s)) with
    |some g=>kh P T o σ s want g d fun R X=>tf σ (.t d) (.cv s want g X) fun σ'=>goE P T io ops os σ' k
    |none=>False
   |_,_=>False
theorem ol {P:Program} {T:hO} (hT:dQ P T) {io:List Nat} {ops:Array Oper} {cx:Cx P} (hio: ∀o k,cx.kio o=some k→o∈io) {Q:Exit→Act→World→Prop} {k:St→Prop} (hk: ∀σ ι S a w,k σ→RW cx σ ι S a w→Q .normal a w): ∀(l:List Oper) (σ:St) (ι:Nat→Value) (S:Nat→Prop) (a:Act) (w:World),goE P T io ops.toList l σ k→RW cx σ ι S a w→(∀o∈l,∀d,o.dst=some d→d<cx.N)→wpList P ops Q l a w
 | [],σ,ι,S,a,w,h,hw,hf=>hk σ ι S a w h hw
 |o::os,σ,ι,S,a,w,h,hw,hf=>by
  have hfo:=hf o (List.mem_cons_self ..)
  have hfs: ∀o∈os,∀d,o.dst=some d→d<cx.N:=fun o ho=>hf o (List.mem_cons_of_mem _ ho)
  unfold wpList
  simp only[goE] at h
  split at h
  · rename_i hg
    obtain⟨σ1,hwk,R,Ws,h1,h2,h3⟩:=ro hT h
    rw[if_pos (by simp[Region.wanted,hg])]
    obtain⟨ι1,S1,hw1⟩:=hwk _ cx ι S a w hio hw
    refine .inl (h1 cx σ1 ι1 S1 a w h2 hw1 hfo _ Q fun W hW ι' S' a' w' hw'=> ?_)
    have h3:=h3 W hW
    rw[kX] at h3
    exact ol hT hio hk os _ ι' S' a' w' h3 hw' hfs
  · rename_i j want hg
    split at h<;>try(exact h.elim)
    rename_i s d hs hd
    split at h<;>try(exact h.elim)
    rename_i g hl
    have hs': (ops[j]?).bind (·.dst)=some s:=by simpa using hs
    obtain⟨R,X,h1,h2⟩:=cm hT hg hs' hd hl h
    rw[pA] at h2
    exact h1 cx σ ι S a w zD hw hfo _ Q fun ι' S' a' w' hw'=>ol hT hio hk os _ ι' S' a' w' (by simpa[iN] using h2) hw' hfs
section
variable {P:Program} {io:List Nat} {Q:Ex→St→Prop} {σ:St}
theorem SW.regE {T:hO} (hT:dQ P T) (ks:List Nat) {id:Nat} {ops:Array Oper} (h:goE P T io ops.toList ops.toList σ fun σ'=>rQ ks σ' (Q .norm)):SW P io (.region id ops false) Q σ:=by
 intro cx ι S a w hio hw hf
 have hfit: ∀o∈ops.toList,∀d,o.dst=some d→d<cx.N:=fun o ho=>yT (by simpa[tN] using hf) ho
 refine wp_region_list (ol hT hio (fun σ' ι' S' a' w' h4 hw'=> ?_) ops.toList σ ι S a w h hw hfit)
 rw[nG] at h4
 exact⟨_,ι',S',h4,hw'.keep ks⟩
end
section
variable {P:Program} {T:hO} {io:List Nat} {f:FuncId} {n:Nat} {σin:St} {o:Oper} {c:Call} {d:Nat} {σ σ1:St} {Xs:List V} {Ra:List (dH×Option K)}
theorem cP {Qo:St→Prop} {rl:List (Nat×Nat)} {bor news:List Nat} {robj:List (Nat×K)} {k:St→Prop} (hs:SpecE P f n σin Qo) (ho:o.op= .call c) (hc:c.callee= .value (.func f)) (hx:evA σ c.args.toList=some (Xs,Ra)) (hn:Xs.length=n)
 (hm:oY (eV 0 Xs++rP robj) σin rl bor) (hq: ∀σout,Qo σout→kQ rl σin σout=true∧(bor=[]∨nR σout)∧ ∀j∈kN σin σout,j∈news) (h1: ∀p∈robj,aT σ (.o p.1)=some p.2) (h2: ∀j∈news,aT σ (.o (kL rl j))=none)
 (h: ∀σout,Qo σout→nS σ (uA rl σin σout o.dst) k): ∃σ1,vn io σ σ1∧ ∃R Ws,OpE P o R Ws∧bT R σ1∧ ∀W,Ws W→nS σ1 W k:=by
 refine⟨σ,vn.rfl,_,_,aBq hs ho hc hx hn hm hq,fun p hp=> ?_,fun W ⟨σout,hQ,e⟩=>e▸h σout hQ⟩
 rcases List.mem_append.1 hp with hp|hp
 · rcases List.mem_append.1 hp with hp|hp
   · exact uW hx p hp
   · obtain⟨q,hq,rfl⟩:=aXk.1 hp
     exact h1 q hq
 · obtain⟨j,hj,rfl⟩:=aXk.1 hp
   exact h2 j hj
theorem zF {k:St→Prop} (s o':Nat) {m:Nat} {e:TypeId} {es:Nat} {rows:List (List D)} (hs:aT σ (.t s)=some (.v (.e (.c (.own o' m))))) (ho:aT σ (.o o')=some (.row e es rows)) (hn:rows.length=m) (hk:iO o' io=false)
 (h:tf σ (.o o') .dead fun σ'=>tf σ' (.t s) (.v (Dv (.sl rows))) fun σ2=> ∃σ1,vn io σ2 σ1∧ ∃R Ws,OpE P o R Ws∧bT R σ1∧ ∀W,Ws W→nS σ1 W k): ∃σ1,vn io σ σ1∧ ∃R Ws,OpE P o R Ws∧bT R σ1∧ ∀W,Ws W→nS σ1 W k:=by
 rw[pA,pA] at h
 obtain⟨σ1,h1,h2⟩:=h
 exact⟨σ1,(vn.frz hs ho hn hk).trans h1,h2⟩
theorem iD {k:St→Prop} (h: ∃R W,xR P o R W∧bT R σ∧nS σ W k): ∃σ1,vn io σ σ1∧ ∃R Ws,OpE P o R Ws∧bT R σ1∧ ∀W,Ws W→nS σ1 W k:=by
 obtain⟨R,W,h1,h2,h3⟩:=h
 exact⟨σ,vn.rfl,R,_,h1.toE,h2,fun W' e=>by subst e;exact h3⟩
end
theorem cW {T:hO} {io:List Nat} {rs:List ResultVar} {Qo:St→Prop} {s:St} (σout:St) (hq:Qo σout) (h:be T io rs σout s): ∃σout,Qo σout∧be T io rs σout s:=⟨σout,hq,h⟩
def vo (p v:Value):Prop:= ∃vs,p= .tuple vs∧v∈vs.toList
abbrev tg (b tot:Nat):Value:= .slice (some ⟨b,0,none⟩) tot tot
def kl (w:World) (S:Nat→Prop) (e:TypeId) (es:Nat) (Pr:List D→Prop) (b tot:Nat):Prop:=
 ∃(cur:Array Value) (fz:Nat×Nat),w.heap[b]? =some (.cells cur e fz)∧aNn fz cur.size∧cur.size=tot*es∧ ∀i,i<tot→ ∃r:List D,r.length=es∧Pr r∧ ∀(k:Nat) d,r[k]? =some d→ ∃u,cur[i*es+k]? =some u∧DR w S d u
theorem kl.mono {w w':World} {S S':Nat→Prop} {e:TypeId} {es:Nat} {Pr:List D→Prop} {b tot:Nat} (hS: ∀b,S b→S' b) (hw: ∀b,S b→w'.heap[b]? =w.heap[b]?) (hb:w'.heap[b]? =w.heap[b]?) (h:kl w S e es Pr b tot):kl w' S' e es Pr b tot:=by
 obtain⟨cur,fz,hh,hf,hs,hr⟩:=h
 refine⟨cur,fz,by rw[hb];exact hh,hf,hs,fun i hi=> ?_⟩
 obtain⟨r,q1,q2,q3⟩:=hr i hi
 exact⟨r,q1,q2,fun k d hk=>by obtain⟨u,hu,hd⟩:=q3 k d hk;exact⟨u,hu,DR.mono hS hw hd⟩⟩
def aOh (e:TypeId) (es:Nat) (Pr:List D→Prop):gw where
 le p q:= ∀v,vo p v→vo q v
 R w S p:=(∃vs,p= .tuple vs)∧ ∀v,vo p v→ ∃b tot,v=tg b tot∧kl w S e es Pr b tot
 refl _ _ h:=h
 trans h k v hv:=k v (h v hv)
 mono:=by
  intro w w' S S' p hS hw hb ⟨h1,h2⟩
  refine⟨h1,fun v hv=> ?_⟩
  obtain⟨b,tot,rfl,hp⟩:=h2 v hv
  obtain⟨vs,rfl,hm⟩:=hv
  exact⟨b,tot,rfl,hp.mono hS hw (hb b ⟨_,hm,rfl⟩)⟩
 lt:=by
  intro w S p b ⟨⟨vs,hp⟩,h2⟩ hb
  subst hp
  obtain⟨v,hv,hbv⟩:=hb
  obtain⟨b',tot,rfl,cur,fz,hh,_⟩:=h2 v ⟨vs,rfl,hv⟩
  simp[blk] at hbv;subst hbv
  exact(Array.getElem?_eq_some_iff.1 hh).1
abbrev aK (e:TypeId) (es:Nat) (Pr:List D→Prop):K:= .zone (aOh e es Pr)
def slQ (es n:Nat) (p v:Value):Prop:=(v= .slice none 0 0∧n=0)∨ ∃b i0 cap tot,v= .slice (some ⟨b,i0*es,none⟩) n cap∧n≤cap∧cap≤maxLen∧i0+cap≤tot∧vo p (tg b tot)
def ptQ (es k:Nat) (p v:Value):Prop:= ∃b i tot,v= .pointer (some ⟨b,i*es+k,none⟩)∧i<tot∧vo p (tg b tot)
abbrev ps (j es n:Nat):C:= .z j (slQ es n)
theorem slQ.mono {es n:Nat} {p p' v:Value} (h: ∀v,vo p v→vo p' v) (hq:slQ es n p v):slQ es n p' v:=by
 rcases hq with hq|⟨b,i0,cap,tot,q1,q2,q3,q4,q5⟩
 · exact .inl hq
 · exact .inr ⟨b,i0,cap,tot,q1,q2,q3,q4,h _ q5⟩
theorem ptQ.mono {es n:Nat} {p p' v:Value} (h: ∀v,vo p v→vo p' v) (hq:ptQ es n p v):ptQ es n p' v:=by
 obtain⟨b,i,tot,q1,q2,q3⟩:=hq
 exact⟨b,i,tot,q1,q2,h _ q3⟩
theorem slQ.one {es n:Nat} {p v:Value} (h:slQ es n p v):v.oneCell'=true:=by
 rcases h with⟨rfl,_⟩|⟨b,i0,cap,tot,rfl,_⟩<;>rfl
section
variable {P:Program} {T:hO} {cx:Cx P} {σ:St} {ι:Nat→Value} {S:Nat→Prop} {a:Act} {w:World} {j es n:Nat} {e:TypeId} {Pr:List D→Prop} {Z:gw} {Q:Value→Value→Prop} {v:Value}
theorem sZ (h:CR σ ι w S (.z j Q) v) (hl:aT σ (.o j)=some (.zone Z)):Q (ι j) v:=by
 rcases h.2 with⟨Z',hl',hq⟩|hd
 · rw[hl] at hl';cases hl';exact hq _ (Z.refl _)
 · rw[hl] at hd;cases hd
theorem aKd (hl:aT σ (.o j)=some (aK e es Pr)) (hq:slQ es n (ι j) v):CR σ ι w S (ps j es n) v:=⟨hq.one,.inl ⟨_,hl,fun p hp=>hq.mono hp⟩⟩
theorem aTc {k:Nat} (hl:aT σ (.o j)=some (aK e es Pr)) (hq:ptQ es k (ι j) v):CR σ ι w S (.z j (ptQ es k)) v:=
 ⟨by obtain⟨b,i,tot,rfl,_⟩:=hq;rfl,.inl ⟨_,hl,fun p hp=>hq.mono hp⟩⟩
theorem km (hv:OR σ ι w S (ι j) (aK e es Pr)) (hl:aT σ (.o j)=some (aK e es Pr)) {b tot:Nat} (hb:vo (ι j) (tg b tot)):kl w S e es Pr b tot∧lC σ ι j b:=by
 obtain⟨h1,h2⟩:=hv
 obtain⟨b',tot',he,hp⟩:=h2 _ hb
 cases he
 exact⟨hp,⟨_,hl,trivial⟩,by obtain⟨vs,e,hm⟩:=hb;rw[e];exact⟨_,hm,rfl⟩⟩
end
section
variable {P:Program} {T:hO} {o:Oper} {σ:St} {x y:Operand} {t e:TypeId} {s1 s2 d j es n:Nat} {s3:List C} {Z:gw} {R R2:List (dH×Option K)} {k:List (dH×Option K)→List (dH×K)→Prop} {Pr:List D→Prop} {ti:TI}
theorem ij (hT:dQ P T) (ho:o.op= .call {callee:= .builtin .len,args:= #[x],argTypes:= #[t]}) (hd:o.dst=some d) (ht:T t=some ⟨.sl e,s1,s2,s3⟩) (hx:ev σ x=some (.e (.c (ps j es n)),R)) (hl:aT σ (.o j)=some (.zone Z))
 (h:k (R++[(.o j,some (.zone Z))]) [(.t d,.v (I n))]): ∃R W,xR P o R W∧bT R σ∧k R W:=by
 have hu:=(hT t _ ht).kind
 simp only[mD] at hu
 refine⟨_,_,oH hd fun cx σ' ι S a w hr hw=> ?_,(dE hx).append (bT.one hl),h⟩
 have hl':=hr.right (.o j,some (.zone Z)) (by simp)
 dsimp only at hl'
 have hq:slQ es n (ι j) (a.eval x):=sZ (S:=S) (w:=w) (dK hx hr.left hw) hl'
 rcases hq with⟨hv,rfl⟩|⟨b,i0,cap,tot,hv,_⟩
 · exact⟨_,by simp[execOp,ho,hv,resolve,invoke,builtin,Builtin.len_,run_underlying hu]<;>rfl,.i _⟩
 · exact⟨_,by simp[execOp,ho,hv,resolve,invoke,builtin,Builtin.len_,run_underlying hu]<;>rfl,.i _⟩
theorem aIg {m:Int} (hT:dQ P T) (ho:o.op= .indexAddr t x y) (hd:o.dst=some d) (ht:T t=some ⟨.sl e,s1,s2,s3⟩) (hte:T e=some ti) (hes:ti.size=es) (hx:ev σ x=some (.e (.c (ps j es n)),R)) (hy:ev σ y=some (I m,R2)) {e':TypeId} (hl:aT σ (.o j)=some (aK e' es Pr))
 (hm:0≤m∧m<n) (h:k (R++R2++[(.o j,some (aK e' es Pr))]) [(.t d,.v (.e (.c (.z j (ptQ es 0)))))]): ∃R W,xR P o R W∧bT R σ∧k R W:=by
 have hu:=(hT t _ ht).kind
 simp only[mD] at hu
 refine⟨_,_,oH hd fun cx σ' ι S a w hr hw=> ?_,((dE hx).append (dE hy)).append (bT.one hl),h⟩
 have hl':=hr.right (.o j,some (aK e' es Pr)) (by simp)
 dsimp only at hl'
 have hq:slQ es n (ι j) (a.eval x):=sZ (S:=S) (w:=w) (dK hx hr.left.left hw) hl'
 have hY:=dK hy hr.left.right hw
 simp only[lZ,ER,CR] at hY
 cases hv2:a.eval y<;>rw[hv2] at hY<;>cases hY
 rcases hq with⟨hv,rfl⟩|⟨b,i0,cap,tot,hv,q2,q3,q4,q5⟩
 · have:=hm.1;have:=hm.2;omega
 · refine⟨.pointer (some ⟨b,(i0+m.toNat)*es+0,none⟩),?_,aTc (S:=S) (w:=w) hl' ⟨b,i0+m.toNat,tot,rfl,by have:=hm.1;have:=hm.2;omega,q5⟩⟩
   simp[execOp,ho,hv,hv2,vA hu (hT e ti hte) ⟨b,i0*es,none⟩ n cap m hm.1 hm.2,lK,hes,aXp]
theorem aOi {s f off k0:Nat} (hT:dQ P T) (ho:o.op= .fieldAddr s x f) (hd:o.dst=some d) (hf:uD T s f=some (off,ti)) (hx:ev σ x=some (.e (.c (.z j (ptQ es k0))),R)) (hl:aT σ (.o j)=some (aK e es Pr))
 (h:k (R++[(.o j,some (aK e es Pr))]) [(.t d,.v (.e (.c (.z j (ptQ es (k0+off))))))]): ∃R W,xR P o R W∧bT R σ∧k R W:=by
 refine⟨_,_,oH hd fun cx σ' ι S a w hr hw=> ?_,(dE hx).append (bT.one hl),h⟩
 have hl':=hr.right (.o j,some (aK e es Pr)) (by simp)
 dsimp only at hl'
 obtain⟨b,i,tot,hv,q2,q3⟩:ptQ es k0 (ι j) (a.eval x):=sZ (S:=S) (w:=w) (dK hx hr.left hw) hl'
 exact⟨.pointer (some ⟨b,i*es+(k0+off),none⟩),by simp[execOp,ho,hv,vV hT hf,lK];omega,aTc (S:=S) (w:=w) hl' ⟨b,i,tot,rfl,q2,q3⟩⟩
theorem aOj {cx:Cx P} {ι:Nat→Value} {S:Nat→Prop} {a:Act} {w:World} (hw:RW cx σ ι S a w) {k0:Nat} {v:Value} (hl:aT σ (.o j)=some (aK e es Pr)) (hq:ptQ es k0 (ι j) v):
 ∃(b i tot:Nat) (r:List D),v= .pointer (some ⟨b,i*es+k0,none⟩)∧i<tot∧vo (ι j) (tg b tot)∧r.length=es∧Pr r∧ ∀(q:Nat) d,r[q]? =some d→ ∃u,w.cell? ⟨b,i*es+q,none⟩=some u∧DR w S d u:=by
 obtain⟨b,i,tot,hv,q2,q3⟩:=hq
 obtain⟨⟨cur,fz,hh,hf,hs,hr⟩,hm⟩:=km (hw.vr.objs j _ hl) hl q3
 obtain⟨r,p1,p2,p3⟩:=hr i q2
 refine⟨b,i,tot,r,hv,q2,q3,p1,p2,fun q d hd=> ?_⟩
 obtain⟨u,hu,hdr⟩:=p3 q d hd
 exact⟨u,by rw[cell_of_row w b _ cur e fz hh];exact hu,hdr⟩
theorem aRf {Ws:V→Prop} (hd:o.dst=some d)
 (h: ∀(cx:Cx P) (σ:St) (ι:Nat→Value) (S:Nat→Prop) (a:Act) (w:World),bT R σ→RW cx σ ι S a w→ ∃v x,(execOp a.eval o).run P w= .ok (.value v) w∧lZ σ ι w S x v∧Ws x):
 OpE P o R fun W=> ∃x,Ws x∧W=[(.t d,.v x)]:=by
 intro cx σ ι S a w hr hw hb next Q hn
 obtain⟨v,x,he,hx,hs⟩:=h cx σ ι S a w hr hw
 unfold Oper.wp
 rw[he]
 simp only[Oper.upon,hd]
 exact hn _ ⟨x,hs,rfl⟩ ι S _ w (hw.put (hb d hd) hx)
theorem aOk {io:List Nat} {k0:Nat} {k:St→Prop} (hT:dQ P T) (ho:o.op= .load t x) (hd:o.dst=some d) (hti:T t=some ti) (hag:ti.kind.agg=true) (hx:ev σ x=some (.e (.c (.z j (ptQ es k0))),R)) (hl:aT σ (.o j)=some (aK e es Pr)) (hk:k0+ti.size≤es)
 (h: ∀r:List D,r.length=es→Pr r→nS σ [(.t d,.v (.e (.agg (((r.drop k0).take ti.size).map C.d))))] k): ∃σ1,vn io σ σ1∧ ∃R Ws,OpE P o R Ws∧bT R σ1∧ ∀W,Ws W→nS σ1 W k:=by
 refine⟨σ,vn.rfl,_,_,aRf (Ws:=fun X=> ∃r:List D,r.length=es∧Pr r∧X= .e (.agg (((r.drop k0).take ti.size).map C.d))) hd (fun cx σ' ι S a w hr hw=> ?_),(dE hx).append (bT.one hl),fun W ⟨X,⟨r,h1,h2,h3⟩,h4⟩=>by subst h3;subst h4;exact h r h1 h2⟩
 have hl':=hr.right (.o j,some (aK e es Pr)) (by simp)
 dsimp only at hl'
 have hok:=hT t ti hti
 obtain⟨b,i,tot,r,hv,q1,q2,hrl,hpr,hcell⟩:=aOj hw hl' (sZ (S:=S) (w:=w) (dK hx hr.left hw) hl')
 have hex: ∃vs:List Value,vs.length=ti.size∧(∀(q:Nat) v,vs[q]? =some v→w.cell? ⟨b,i*es+k0+q,none⟩=some v)∧ ∀(q:Nat) d u,((r.drop k0).take ti.size)[q]? =some d→vs[q]? =some u→DR w S d u:=by
  refine⟨(aXj ti.size).map fun q=>(w.cell? ⟨b,i*es+k0+q,none⟩).getD undef,by simp,fun q v hq=> ?_,fun q d u h1 h2=> ?_⟩
  · have hql:q<ti.size:=by have:=(aXh.1 hq).1;simpa using this
    simp[hql] at hq
    have hlt:k0+q<r.length:=by omega
    obtain⟨u,hu,_⟩:=hcell (k0+q) _ (aXg hlt)
    rw[← Nat.add_assoc] at hu
    rw[hu] at hq ⊢
    simpa using hq
  · have hql:q<ti.size:=by have:=(aXh.1 h2).1;simpa using this
    rw[List.getElem?_take,if_pos hql,List.getElem?_drop] at h1
    obtain⟨u',hu,hdr⟩:=hcell (k0+q) d h1
    rw[← Nat.add_assoc] at hu
    simp[hql,hu] at h2
    subst h2;exact hdr
 obtain⟨vs,hvl,hvc,hvd⟩:=hex
 refine⟨.agg vs.toArray,.e (.agg (((r.drop k0).take ti.size).map C.d)),?_,⟨vs,rfl,by rw[List.length_map,aXc,aXf,hvl];omega,fun q c u h1 h2=> ?_⟩,r,hrl,hpr,rfl⟩
 · have:=mP (w:=w) hok hag ⟨b,i*es+k0,none⟩ vs hvl (fun q v hq=>by rw[lK];exact hvc q v hq)
   simp[execOp,ho,hv,Instr.loadAt,Instr.sureAddr,this]
 · rw[List.getElem?_map] at h1
   cases hq: ((r.drop k0).take ti.size)[q]? with
   |none=>rw[hq] at h1;cases h1
   |some d=>rw[hq] at h1;cases h1;exact hvd q d u hq h2
end
structure vp (σ:St) (ι:Nat→Value) (S:Nat→Prop) (w:World) (id:Nat) (k:K) (p:Value) (w':World):Prop where
 os:w'.os=w.os
 tape:w'.tape=w.tape
 output:w'.output=w.output
 size:w.heap.size≤w'.heap.size
 block: ∀b,b<w.heap.size→ ¬lC σ ι id b→w'.heap[b]? =w.heap[b]?
 evo:aT σ (.o id)=none∨ ∃k0,aT σ (.o id)=some k0∧nQ (ι id) p k0 k
 new: ∀b,uZ p b→lC σ ι id b∨w.heap.size≤b
 or_:OR (qB σ (.o id) k) (fun o=>if o=id then p else ι o) w' S p k
section
variable {σ:St} {ι:Nat→Value} {S:Nat→Prop} {w:World}
theorem aOl {ν:Nat→Value} (h:VR σ ι ν S w) {id:Nat} {k:K} {p:Value} {w':World} (block: ∀b,b<w.heap.size→ ¬lC σ ι id b→w'.heap[b]? =w.heap[b]?) (evo:aT σ (.o id)=none∨ ∃k0,aT σ (.o id)=some k0∧nQ (ι id) p k0 k):
 rM σ ι S w (qB σ (.o id) k) (fun o=>if o=id then p else ι o) S w':=by
 refine⟨fun _ h=>h,fun b hb=>block b (h.sz b hb) (fun hm=>h.mutS id b hm hb),fun o k0 hk=> ?_⟩
 by_cases e:o=id
 · subst e
   refine⟨k,cX _ _ _,?_⟩
   rcases evo with hn|⟨k1,hk1,hev⟩
   · rw[hn] at hk;cases hk
   · rw[hk1] at hk;cases hk;rw[if_pos rfl];exact hev
 · refine⟨k0,by rw[cN _ _ (by simpa using fun h=>e h.symm)];exact hk,?_⟩
   rw[if_neg e];exact nQ.refl' _ _
theorem VR.turnZ {ν:Nat→Value} (h:VR σ ι ν S w) {id:Nat} {k:K} {p:Value} {w':World} (t:vp σ ι S w id k p w'):
 VR (qB σ (.o id) k) (fun o=>if o=id then p else ι o) ν S w':=by
 have st:=aOl h t.block t.evo
 have mut_ne: ∀o b,o≠id→lC (qB σ (.o id) k) (fun o=>if o=id then p else ι o) o b→lC σ ι o b:=by
  intro o b ne hm
  obtain⟨⟨k0,hk,hl⟩,hb⟩:=hm
  rw[cN _ _ (by simpa using fun h=>ne h.symm)] at hk
  dsimp only at hb
  rw[if_neg ne] at hb
  exact⟨⟨k0,hk,hl⟩,hb⟩
 have mlt: ∀o b,lC σ ι o b→b<w.heap.size:=fun o b ⟨⟨k0,hk,hl⟩,hb⟩=>OR.lt (h.objs o k0 hk) hl hb
 have mid: ∀b,lC (qB σ (.o id) k) (fun o=>if o=id then p else ι o) id b→lC σ ι id b∨w.heap.size≤b:=by
  intro b hm
  have hb:=hm.2
  dsimp only at hb
  rw[if_pos rfl] at hb
  exact t.new b hb
 refine⟨fun s x hx=> ?_,fun o k0 hk=> ?_,fun o b hm hS=> ?_,fun o o' b hm hm'=> ?_,fun b hb=>Nat.lt_of_lt_of_le (h.sz b hb) t.size⟩
 · rw[cN _ _ (by simp)] at hx
   exact rN.step st (h.slots s x hx)
 · by_cases e:o=id
   · subst e
     rw[cX] at hk;cases hk
     rw[if_pos rfl]
     exact t.or_
   · rw[cN _ _ (by simpa using fun h=>e h.symm)] at hk
     rw[if_neg e]
     have ho:=h.objs o k0 hk
     by_cases hl:k0.live
     · refine OR.step st (fun b hb=> ?_) ho
       have hmut:lC σ ι o b:=⟨⟨k0,hk,hl⟩,hb⟩
       exact t.block b (mlt o b hmut) (fun e2=>e (h.inj o id b hmut e2))
     · cases k0<;>simp[K.live] at hl<;>trivial
 · by_cases e:o=id
   · subst e
     rcases mid b hm with h1|h1
     · exact h.mutS o b h1 hS
     · have:=h.sz b hS;omega
   · exact h.mutS o b (mut_ne o b e hm) hS
 · by_cases e:o=id
   · by_cases e':o'=id
     · rw[e,e']
     · subst e
       have h2:=mut_ne o' b e' hm'
       rcases mid b hm with h1|h1
       · exact absurd (h.inj o' o b h2 h1) e'
       · have:=mlt o' b h2;omega
   · by_cases e':o'=id
     · subst e'
       have h2:=mut_ne o b e hm
       rcases mid b hm' with h1|h1
       · exact absurd (h.inj o o' b h2 h1) e
       · have:=mlt o b h2;omega
     · exact h.inj o o' b (mut_ne o b e hm) (mut_ne o' b e' hm')
theorem RW.turnZ {P:Program} {cx:Cx P} {a:Act} (h:RW cx σ ι S a w) {id:Nat} {k:K} {p:Value} {w':World} (t:vp σ ι S w id k p w'):
 RW cx (qB σ (.o id) k) (fun o=>if o=id then p else ι o) S a w':=by
 refine⟨h.vr.turnZ t,h.size,h.defers,⟨t.os.trans h.fr.os,t.tape.trans h.fr.tape,t.output.trans h.fr.output,Nat.le_trans h.fr.size t.size,fun b hb hm=> ?_⟩,fun o b hm=> ?_,h.rd,fun o k1 ho=> ?_⟩
 · rw[t.block b (Nat.lt_of_lt_of_le hb h.fr.size) (fun e=> ?_)]
   · exact h.fr.block b hb hm
   · rcases h.own id b e with h1|h1
     · omega
     · exact hm h1
 · by_cases e:o=id
   · subst e
     have hb:=hm.2
     dsimp only at hb
     rw[if_pos rfl] at hb
     rcases t.new b hb with h1|h1
     · exact h.own o b h1
     · exact .inl (Nat.le_trans h.fr.size h1)
   · obtain⟨⟨k0,hk,hl⟩,hb⟩:=hm
     rw[cN _ _ (by simpa using fun h=>e h.symm)] at hk
     dsimp only at hb
     rw[if_neg e] at hb
     exact h.own o b ⟨⟨k0,hk,hl⟩,hb⟩
 · obtain⟨k',hk',hev⟩:=h.io o k1 ho
   by_cases e:o=id
   · subst e
     refine⟨k,cX _ _ _,?_⟩
     rw[if_pos rfl]
     rcases t.evo with hn|⟨k2,hk2,hev2⟩
     · rw[hn] at hk';cases hk'
     · rw[hk2] at hk';cases hk';exact hev.trans hev2
   · refine⟨k',by rw[cN _ _ (by simpa using fun h=>e h.symm)];exact hk',?_⟩
     rw[if_neg e];exact hev
end
section
variable {P:Program} {T:hO} {o:Oper} {σ:St} {x y:Operand} {t e:TypeId} {s1 s2 d j es n:Nat} {s3:List C} {Z:gw} {R R2:List (dH×Option K)} {k:List (dH×Option K)→List (dH×K)→Prop} {Pr:List D→Prop} {ti:TI}
theorem aBs {cx:Cx P} {ι:Nat→Value} {S:Nat→Prop} {a:Act} {w w':World} (hw:RW cx σ ι S a w) (hl:aT σ (.o j)=some (aK e es Pr)) {b tot:Nat} (hb:vo (ι j) (tg b tot)) {cur cur':Array Value} {fz:Nat×Nat}
 (hos:w'.os=w.os∧w'.tape=w.tape∧w'.output=w.output∧w'.heap.size=w.heap.size) (hc:w.heap[b]? =some (.cells cur e fz)) (hh:w'.heap[b]? =some (.cells cur' e fz)) (hs:cur'.size=cur.size) (ho: ∀b',b'≠b→w'.heap[b']? =w.heap[b']?)
 (hr: (∀b,S b→w'.heap[b]? =w.heap[b]?)→ ∀i,(i+1)*es≤cur.size→(∃r:List D,r.length=es∧Pr r∧ ∀(q:Nat) d,r[q]? =some d→ ∃u,cur[i*es+q]? =some u∧DR w S d u)→ ∃r:List D,r.length=es∧Pr r∧ ∀(q:Nat) d,r[q]? =some d→ ∃u,cur'[i*es+q]? =some u∧DR w' S d u):
 vp σ ι S w j (aK e es Pr) (ι j) w'∧rM σ ι S w (qB σ (.o j) (aK e es Pr)) (fun o=>if o=j then ι j else ι o) S w':=by
 obtain⟨hblk,hmut⟩:=km (hw.vr.objs j _ hl) hl hb
 have hblock: ∀b',b'<w.heap.size→ ¬lC σ ι j b'→w'.heap[b']? =w.heap[b']?:=fun b' _ hne=>ho b' (fun h=>hne (by rw[h];exact hmut))
 have hevo:aT σ (.o j)=none∨ ∃k0,aT σ (.o j)=some k0∧nQ (ι j) (ι j) k0 (aK e es Pr):= .inr ⟨_,hl,rfl,fun _ h=>h⟩
 have st:=aOl hw.vr (p:=ι j) hblock hevo
 refine⟨⟨hos.1,hos.2.1,hos.2.2.1,by rw[hos.2.2.2];exact aXi _,hblock,hevo,fun b' hb'=> .inl ⟨⟨_,hl,trivial⟩,hb'⟩,?_⟩,st⟩
 obtain⟨h1,h2⟩:=hw.vr.objs j _ hl
 refine⟨h1,fun v hv=> ?_⟩
 obtain⟨b',tot',rfl,hp⟩:=h2 v hv
 refine⟨b',tot',rfl,?_⟩
 by_cases e1:b'=b
 · subst e1
   obtain⟨cur0,fz0,q1,q2,q3,q4⟩:=hp
   rw[hc] at q1;cases q1
   exact⟨cur',fz,hh,by rw[hs];exact q2,by rw[hs];exact q3,fun i hi=>hr st.keep i (by rw[q3];exact Nat.mul_le_mul_right _ hi) (q4 i hi)⟩
 · exact hp.mono st.sub st.keep (ho b' e1)
theorem aLs (hd:o.dst=none)
 (h: ∀(cx:Cx P) (σ:St) (ι:Nat→Value) (S:Nat→Prop) (a:Act) (w:World),bT R σ→RW cx σ ι S a w→ ∃p w',(execOp a.eval o).run P w= .ok .skip w'∧vp σ ι S w j (.zone Z) p w'):
 xR P o R [(.o j,.zone Z)]:=by
 intro cx σ ι S a w hr hw hb next Q hn
 obtain⟨p,w',he,ht⟩:=h cx σ ι S a w hr hw
 unfold Oper.wp
 rw[he]
 simp only[Oper.upon,hd,aEx]
 exact hn _ S _ w' (hw.turnZ ht)
theorem vt {X:V} (hd:o.dst=some d)
 (h: ∀(cx:Cx P) (σ:St) (ι:Nat→Value) (S:Nat→Prop) (a:Act) (w:World),bT R σ→RW cx σ ι S a w→ ∃v p w',(execOp a.eval o).run P w= .ok (.value v) w'∧vp σ ι S w j (.zone Z) p w'∧lZ (qB σ (.o j) (.zone Z)) (fun o=>if o=j then p else ι o) w' S X v):
 xR P o R [(.o j,.zone Z),(.t d,.v X)]:=by
 intro cx σ ι S a w hr hw hb next Q hn
 obtain⟨v,p,w',he,ht,hx⟩:=h cx σ ι S a w hr hw
 unfold Oper.wp
 rw[he]
 simp only[Oper.upon,hd]
 exact hn _ S _ w' ((hw.turnZ ht).put (hb d hd) hx)
theorem aFl {k0:Nat} {Y:V} {ccs:List C} {vs:List D} (hT:dQ P T) (ho:o.op= .store t x y) (hd:o.dst=none) (hti:T t=some ti) (hx:ev σ x=some (.e (.c (.z j (ptQ es k0))),R)) (hy:ev σ y=some (Y,R2)) (hc:cellsOf Y=some ccs) (hv:nw ccs=some vs) (hl:aT σ (.o j)=some (aK e es Pr))
 (hvl:vs.length=ti.size) (hk:k0+vs.length≤es) (hPr: ∀r:List D,r.length=es→Pr r→Pr (dI r k0 vs)) (h:k (R++R2++[(.o j,some (aK e es Pr))]) [(.o j,aK e es Pr)]): ∃R W,xR P o R W∧bT R σ∧k R W:=by
 refine⟨_,_,aLs hd fun cx σ' ι S a w hr hw=> ?_,((dE hx).append (dE hy)).append (bT.one hl),h⟩
 have hl':=hr.right (.o j,some (aK e es Pr)) (by simp)
 dsimp only at hl'
 have hok:=hT t ti hti
 obtain⟨b,i,tot,hvx,q2,q3⟩:ptQ es k0 (ι j) (a.eval x):=sZ (S:=S) (w:=w) (dK hx hr.left.left hw) hl'
 obtain⟨⟨cur,fz,hh,hf,hs,hrows⟩,hm⟩:=km (hw.vr.objs j _ hl') hl' q3
 obtain⟨us,hu,hul,huk⟩:=nE hc (dK hy hr.left.right hw)
 have hvl2:=pU hv
 have hdr: ∀(q:Nat) d u,vs[q]? =some d→us[q]? =some u→DR w S d u:=fun q d u hj hu'=>by
  obtain⟨c,hc,htd⟩:=xV hv q d hj
  exact xU htd (huk q c u hc hu')
 have hone: ∀u∈us,u.oneCell'=true:=fun u hu'=>by
  obtain⟨q,hj⟩:=aXq.1 hu'
  have hlt:q<ccs.length:=by rw[← hul];exact(aXh.1 hj).1
  exact CR.one (huk q _ u (aXg hlt) hj)
 have hin: (i+1)*es≤tot*es:=Nat.mul_le_mul_right _ q2
 rw[aXp,Nat.one_mul] at hin
 have hfit:i*es+k0+us.length≤cur.size:=by rw[hul,← hvl2,hs];omega
 have hrun:=rV (P:=P) hok b (i*es+k0) cur hf hh (a.eval y) us hu (by rw[hul,← hvl2];exact hvl) hfit hone
 have h9:cur.toList.length=cur.size:=Array.length_toList
 obtain⟨ht,_⟩:=aBs (w':=w.setRow b (dI cur.toList (i*es+k0) us).toArray) (cur':=(dI cur.toList (i*es+k0) us).toArray) hw hl' q3 ⟨rfl,rfl,rfl,by simp⟩ hh (setRow_heap w b cur _ e _ hh) (by rw[List.size_toArray,fO (by omega),h9]) (fun b' hne=>setRow_other w b b' _ hne) (fun hkeep i2 hi2 ⟨r,p1,p2,p3⟩=>by
  have get: ∀q,(dI cur.toList (i*es+k0) us).toArray[q]? =if q<i*es+k0 then cur[q]? else if q<i*es+k0+us.length then us[q - (i*es+k0)]? else cur[q]?:=fun q=>by
   rw[← Array.getElem?_toList,List.toList_toArray,iZ (by omega)]
   simp
  by_cases hii:i2=i
  · subst hii
    refine⟨dI r k0 vs,by rw[fO (by omega)];exact p1,hPr r p1 p2,fun q d hd=> ?_⟩
    rw[iZ (by omega)] at hd
    rw[get]
    split at hd
    · obtain⟨u,hu1,hu2⟩:=p3 q d hd
      exact⟨u,by rw[if_pos (by omega)];exact hu1,DR.mono (fun _ h=>h) hkeep hu2⟩
    · split at hd
      · have hjl:q - k0<us.length:=by omega
        refine⟨us[q - k0],?_,DR.mono (fun _ h=>h) hkeep (hdr _ d _ hd (aXg hjl))⟩
        rw[if_neg (by omega),if_pos (by omega),show i2*es+q - (i2*es+k0)=q - k0 by omega]
        exact aXg hjl
      · obtain⟨u,hu1,hu2⟩:=p3 q d hd
        exact⟨u,by rw[if_neg (by omega),if_neg (by omega)];exact hu1,DR.mono (fun _ h=>h) hkeep hu2⟩
  · refine⟨r,p1,p2,fun q d hd=> ?_⟩
    obtain⟨u,hu1,hu2⟩:=p3 q d hd
    refine⟨u,?_,DR.mono (fun _ h=>h) hkeep hu2⟩
    rw[get]
    have hq:q<es:=by rw[← p1];exact(aXh.1 hd).1
    rcases Nat.lt_or_gt_of_ne hii with h1|h1
    · have: (i2+1)*es≤i*es:=Nat.mul_le_mul_right _ h1
      rw[aXp,Nat.one_mul] at this
      rw[if_pos (by omega)];exact hu1
    · have: (i+1)*es≤i2*es:=Nat.mul_le_mul_right _ h1
      rw[aXp,Nat.one_mul] at this
      rw[if_neg (by omega),if_neg (by omega)];exact hu1)
 exact⟨ι j,_,by simp[execOp,ho,hvx,Instr.storeAt,Instr.sureAddr,hrun],ht⟩
theorem aFm {lo hi:Option Operand} {lo' hi':Option Int} {R3:List (dH×Option K)} {e':TypeId} (hT:dQ P T) (ho:o.op= .slice t x lo hi none) (hd:o.dst=some d) (ht:T t=some ⟨.sl e,s1,s2,s3⟩) (hte:T e=some ti) (hes:ti.size=es) (hx:ev σ x=some (.e (.c (ps j es n)),R)) (hlo:evI σ lo=some (lo',R2)) (hhi:evI σ hi=some (hi',R3)) (hl:aT σ (.o j)=some (aK e' es Pr))
 (hb:te lo' hi' n) {m:Nat} (hm:m=gH hi' n - fE lo') (h:k (R++R2++R3++[(.o j,some (aK e' es Pr))]) [(.t d,.v (.e (.c (ps j es m))))]): ∃R W,xR P o R W∧bT R σ∧k R W:=by
 subst hm
 have hu:=(hT t _ ht).kind
 simp only[mD] at hu
 have hok:=hT e ti hte
 refine⟨_,_,oH hd fun cx σ' ι S a w hr hw=> ?_,(((dE hx).append (uU hlo)).append (uU hhi)).append (bT.one hl),h⟩
 have hl':=hr.right (.o j,some (aK e' es Pr)) (by simp)
 dsimp only at hl'
 have h1:=uV hlo hr.left.left.right hw
 have h2:=uV hhi hr.left.right hw
 have hq:slQ es n (ι j) (a.eval x):=sZ (S:=S) (w:=w) (dK hx hr.left.left.left hw) hl'
 rcases hq with⟨hv,rfl⟩|⟨b,i0,cap,tot,hv,q2,q3,q4,q5⟩
 · have hb2:=yY (P:=P) (w:=w) (isSl:=true) (len:=0) (cap:=0) (aXi _) hb
   have e1:fE lo'=0:=by obtain⟨p1,p2,p3⟩:=hb;unfold fE;omega
   have e2:gH hi' 0=0:=by obtain⟨p1,p2,p3⟩:=hb;unfold gH;omega
   rw[e1,e2] at hb2 ⊢
   exact⟨.slice none 0 0,by simp[execOp,ho,hv,Instr.sliceAt,run_underlying hu,Instr.slice,h1,h2,hb2,fQ hok],aKd (S:=S) (w:=w) hl' (.inl ⟨rfl,rfl⟩)⟩
 · have hb2:=yY (P:=P) (w:=w) (isSl:=true) (len:=n) (cap:=cap) q2 hb
   have e1:fE lo'≤cap:=by obtain⟨p1,p2,p3⟩:=hb;unfold fE;omega
   have e2:gH hi' n≤n:=by obtain⟨p1,p2,p3⟩:=hb;unfold gH;omega
   refine⟨.slice (if cap=fE lo' then some ⟨b,i0*es,none⟩ else(some (⟨b,i0*es,none⟩:Addr)).map (·.add (fE lo'*ti.size))) (gH hi' n - fE lo') (cap - fE lo'),by simp[execOp,ho,hv,Instr.sliceAt,run_underlying hu,Instr.slice,h1,h2,hb2,fQ hok],aKd (S:=S) (w:=w) hl' ?_⟩
   by_cases hc:cap=fE lo'
   · exact .inr ⟨b,i0,cap - fE lo',tot,by rw[if_pos hc],by omega,by omega,by omega,q5⟩
   · exact .inr ⟨b,i0+fE lo',cap - fE lo',tot,by rw[if_neg hc,Option.map_some,lK,hes,aXp],by omega,by omega,by omega,q5⟩
end
structure Src (P:Program) (σ:St) (y:Operand) (t2:TypeId) (es m:Nat) (Pr:List D→Prop) (R:List (dH×Option K)):Prop where
 rd:bT R σ
 ty: ∃d2,P.underlying t2=some d2∧ ∀k,d2≠ .int k
 run: ∀(cx:Cx P) (σ':St) (ι:Nat→Value) (S:Nat→Prop) (a:Act) (w:World),bT R σ'→RW cx σ' ι S a w→ ∃rows nv,rows.length=m∧(∀r∈rows,r.length=es∧Pr r)∧ka P w S es rows (a.eval y) nv
section
variable {P:Program} {T:hO} {o:Oper} {σ:St} {x y:Operand} {t t2 e:TypeId} {s1 s2 d j es n m:Nat} {s3:List C} {Z:gw} {R R2 R3:List (dH×Option K)} {k:List (dH×Option K)→List (dH×K)→Prop} {Pr:List D→Prop} {ti:TI}
theorem ko (hT:dQ P T) {Y:V} {q:Prop} {rows:List (List D)} (hes:0<es) (hy:ev σ y=some (Y,R)) (h:sM T σ t2 Y=some (q,rows,R2)) (hq:q) (hr: ∀r∈rows,r.length=es∧Pr r) (hm:m=rows.length):Src P σ y t2 es m Pr (R++R2):=
 ⟨(dE hy).append (sN h),yS hT h,fun cx σ' ι S a w hrd hw=>by
  obtain⟨nv,hs⟩:=eg hT h hq hes (fun r hr'=>(hr r hr').1) hrd.right hw (dK hy hrd.left hw)
  exact⟨rows,nv,hm.symm,hr,hs⟩⟩
theorem aLt {w:World} {S:Nat→Prop} {g off cap:Nat} {cur:Array Value} {fz:Nat×Nat} {vx:Value} {rows:List (List D)} (hes:0<es) (hv:vx= .slice (some ⟨g,off,none⟩) rows.length cap) (hh:w.heap[g]? =some (.cells cur e fz)) (hle:off+rows.length*es≤cur.size)
 (hrows: ∀(i:Nat) r,rows[i]? =some r→r.length=es∧ ∀(k:Nat) d,r[k]? =some d→ ∃u,cur[off+i*es+k]? =some u∧DR w S d u): ∃nv,ka P w S es rows vx nv:=by
 have h9:cur.toList.length=cur.size:=Array.length_toList
 have hget: ∀j,j<rows.length*es→((cur.toList.drop off).take (rows.length*es))[j]? =cur[off+j]?:=by
  intro j hj
  rw[List.getElem?_take,if_pos hj,List.getElem?_drop];simp
 refine⟨(cur.toList.drop off).take (rows.length*es),⟨by rw[hv];simp[Builtin.lenOf],fun w1=>by rw[hv];simp[Builtin.lenOf],fun w1 m h1 hm=> ?_,by simp;omega,?_,fun i r hri k d hk=> ?_⟩⟩
 · rw[hv]
   have hle2:m*es≤rows.length*es:=Nat.mul_le_mul_right _ hm
   refine run_firstCells_some (P:=P) w1 es m ⟨g,off,none⟩ rows.length cap _ (by rw[aXc,aXc,aXf];omega) (fun j v hj=> ?_)
   have hjl:j<m*es:=by have:=(aXh.1 hj).1;rw[aXc] at this;omega
   rw[List.getElem?_take,if_pos hjl] at hj
   have hjl:j<rows.length*es:=by omega
   rw[hget j hjl] at hj
   rw[vB h1,lK,cell_of_row w g _ cur e fz hh];exact hj
 · intro v hv2
   obtain⟨j,hj⟩:=aXq.1 hv2
   have hjl:j<rows.length*es:=by have:=(aXh.1 hj).1;simp at this;omega
   rw[hget j hjl] at hj
   have h1:j / es<rows.length:=(Nat.div_lt_iff_lt_mul hes).2 hjl
   have h2:j % es<es:=Nat.mod_lt _ hes
   have hrr:=hrows (j / es) _ (aXg h1)
   have h3:j % es< (rows[j / es]).length:=by rw[hrr.1];exact h2
   obtain⟨u,hu,hdr⟩:=hrr.2 (j % es) _ (aXg h3)
   rw[Nat.add_assoc,Nat.div_add_mod'] at hu
   rw[hu] at hj;cases hj
   exact DR.oneCell hdr
 · have hil:i<rows.length:=(aXh.1 hri).1
   have hr:=hrows i r hri
   have hkl:k<es:=by rw[← hr.1];exact(aXh.1 hk).1
   obtain⟨u,hu,hdr⟩:=hr.2 k d hk
   exact⟨u,by rw[hget _ (lL hil hkl),← Nat.add_assoc];exact hu,hdr⟩
theorem aFn {α:Type} {n:Nat} {p:Nat→α→Prop} (h: ∀i,i<n→ ∃a,p i a): ∃l:List α,l.length=n∧ ∀(i:Nat) a,l[i]? =some a→p i a:=by
 induction n with
 |zero=>exact⟨[],rfl,by simp⟩
 |succ n ih=>
  obtain⟨l,h1,h2⟩:=ih fun i hi=>h i (by omega)
  obtain⟨a,ha⟩:=h n (by omega)
  refine⟨l++[a],by simp[h1],fun i b hb=> ?_⟩
  by_cases hi:i<l.length
  · rw[List.getElem?_append_left hi] at hb;exact h2 i b hb
  · rw[List.getElem?_append_right (by omega)] at hb
    have:i=n:=by
     have:=(aXh.1 hb).1
     simp at this;omega
    subst this
    rw[h1,Nat.sub_self] at hb;cases hb;exact ha
theorem aFo (hT:dQ P T) (hes:0<es) (hy:ev σ y=some (.e (.c (ps j es m)),R)) (hl:aT σ (.o j)=some (aK e es Pr)) {e2:TypeId} (ht2:T t2=some ⟨.sl e2,s1,s2,s3⟩):Src P σ y t2 es m Pr (R++[(.o j,some (aK e es Pr))]):=
 ⟨(dE hy).append (bT.one hl),⟨_,(hT t2 _ ht2).kind,fun k h=>by cases h⟩,fun cx σ' ι S a w hr hw=>by
  have hl':=hr.right (.o j,some (aK e es Pr)) (by simp)
  dsimp only at hl'
  have hq:slQ es m (ι j) (a.eval y):=sZ (S:=S) (w:=w) (dK hy hr.left hw) hl'
  rcases hq with⟨hv,rfl⟩|⟨b,i0,cap,tot,hv,q2,q3,q4,q5⟩
  · exact⟨[],[],rfl,by simp,by rw[hv];simp[Builtin.lenOf],fun w1=>by rw[hv];simp[Builtin.lenOf],fun w1 m h1 hm=>by(obtain rfl:m=0:=by simpa using hm);rw[hv];simp[Builtin.firstCells],by simp,by simp,by simp⟩
  · obtain⟨⟨cur,fz,hh,hf,hs,hrows⟩,hm⟩:=km (hw.vr.objs j _ hl') hl' q5
    obtain⟨rows,h1,h2⟩:=aFn (n:=m) fun i hi=>hrows (i0+i) (by omega)
    have hle: (i0+m)*es≤tot*es:=Nat.mul_le_mul_right _ (by omega)
    rw[aXp] at hle
    obtain⟨nv,hs2⟩:=aLt (P:=P) (rows:=rows) (off:=i0*es) (vx:=a.eval y) (cap:=cap) hes (by rw[hv,h1]) hh (by rw[h1,hs];exact hle) fun i r hi=>by
     obtain⟨p1,p2,p3⟩:=h2 i r hi
     exact⟨p1,fun k d hd=>by rw[← aXp];exact p3 k d hd⟩
    exact⟨rows,nv,h1,fun r hr=>by obtain⟨i,hi⟩:=aXq.1 hr;exact⟨(h2 i r hi).1,(h2 i r hi).2.1⟩,hs2⟩⟩
theorem kr {w:World} {ty:TypeId} {d2:TypeDesc} (hu:P.underlying t=some (.slice e)) (hok:fA P e ti) (hu2:P.underlying t2=some d2) (hd2: ∀k,d2≠ .int k)
 {S:Nat→Prop} {rows:List (List D)} {vx:Value} {news:List Value} (hs:ka P w S ti.size rows vx news) (base:Option Addr) (sLen sCap:Nat) (olds:List Value)
 (hold: ∀w1,w1.heap=w.heap→(Builtin.firstCells ti.size sLen (.slice base sLen sCap)).run P w1= .ok olds.toArray w1)
 (hgrow:sCap<sLen+rows.length) (hbytes: (sLen+rows.length)*ti.bytes≤140737488355328) {z:List D} (hz0:nw ti.zero=some z):
 ∃cap zs,(Builtin.append_ #[t,t2] ty #[.slice base sLen sCap,vx]).run P w= .ok (.slice (some ⟨w.heap.size,0,none⟩) (sLen+rows.length) cap) (w.drew.alloc (.cells (olds++news++zs).toArray e))∧sLen+rows.length≤cap∧cap≤maxLen∧
  zs.length=(cap - (sLen+rows.length))*ti.size∧ ∀(i:Nat),i<cap - (sLen+rows.length)→ ∀(q:Nat) d,z[q]? =some d→ ∃u,zs[i*ti.size+q]? =some u∧ ∀w' S',DR w' S' d u:=by
 have hz: (match d2 with| .int _=>true|_=>false)=false:=by cases d2<;>first|rfl|exact absurd rfl (hd2 _)
 obtain⟨i,zz,hi,hsz,hby,hzero,hzc⟩:=hok.info
 have hb:=hok.bpos
 have hle:sLen+rows.length≤(sLen+rows.length)*ti.bytes:=Nat.le_mul_of_pos_right _ hb
 have hfit: ¬(281474976710656<Builtin.nextslicecap (sLen+rows.length) sCap*ti.bytes):=by
  have:=growslice_fits hgrow hbytes;omega
 have hcl:=grownCap_ge w (sLen+rows.length) sCap e
 have hcm:=grownCap_le_maxLen w (sLen+rows.length) sCap e (by simp only[maxLen];omega)
 have hzl:zz.cells.size=ti.size:=by rw[← Array.length_toList,hzc,List.length_map,hok.zlen]
 refine⟨grownCap w (sLen+rows.length) sCap e,(Builtin.zeroCells zz.cells (grownCap w (sLen+rows.length) sCap e - (sLen+rows.length))).toList,?_,hcl,hcm,?_,fun i hil q d hq=> ?_⟩
 · have hn: ¬(sLen+rows.length≤sCap):=by omega
   have h63: ¬(9223372036854775807< ((sLen:Int)+(rows.length:Int))):=by omega
   have ho:=hold w.drew rfl
   have hf:=hs.first w.drew rfl
   simp[Builtin.append_,run_underlying hu,run_underlying hu2,fQ hok,hs.len,hn,h63,typeInfo,hi,hby,hfit,hz,Question.forced,zeroValue,hzero,newRow,grownCap]
   rw[ho,Result.andThen_ok,hf,Result.andThen_ok]
   simp
   congr 2
   apply Array.toList_inj.1
   simp
 · simp[size_zeroCells,hzl]
 · obtain⟨c,hc,htd⟩:=xV hz0 q d hq
   have hkl:q<ti.size:=by rw[← hok.zlen];exact(aXh.1 hc).1
   have hlt:=lL hil hkl
   have hzk:zz.cells[q]? =some (zv c):=by rw[← Array.getElem?_toList,hzc,List.getElem?_map,hc];rfl
   refine⟨zv c,?_,fun w' S'=>xU (σ:=[]) (ι:=fun _=>undef) htd (uC (aXl.1 hok.zok c (List.mem_of_getElem? hc)))⟩
   have hm: (i*ti.size+q) % zz.cells.size=q:=by rw[hzl,Nat.mul_comm,Nat.mul_add_mod,Nat.mod_eq_of_lt hkl]
   have hk2:q<zz.cells.size:=by rw[hzl];exact hkl
   have e1:zz.cells[q]! =zv c:=by rw[getElem!_pos zz.cells q hk2];rw[Array.getElem?_eq_getElem hk2] at hzk;exact Option.some.inj hzk
   have hlt':i*ti.size+q< (grownCap w (sLen+rows.length) sCap e - (sLen+rows.length))*zz.cells.size:=by rw[hzl];exact hlt
   simp only[Builtin.zeroCells,Array.toList_map,List.getElem?_map,Array.getElem?_toList,Array.getElem?_range,hlt',if_true,Option.map_some,hm,e1]
theorem aBt {cx:Cx P} {ι:Nat→Value} {S:Nat→Prop} {a:Act} {w w0:World} (hw:RW cx σ ι S a w) (hl:aT σ (.o j)=some (aK e es Pr)) {cells:Array Value} {tot:Nat} (hw0:w0.heap=w.heap∧w0.os=w.os∧w0.tape=w.tape∧w0.output=w.output)
 (hs:cells.size=tot*es) (hr: (∀b,S b→(w0.alloc (.cells cells e)).heap[b]? =w.heap[b]?)→ ∀i,i<tot→ ∃r:List D,r.length=es∧Pr r∧ ∀(q:Nat) d,r[q]? =some d→ ∃u,cells[i*es+q]? =some u∧DR (w0.alloc (.cells cells e)) S d u):
 ∃p',vp σ ι S w j (aK e es Pr) p' (w0.alloc (.cells cells e))∧(∀v,vo (ι j) v→vo p' v)∧vo p' (tg w.heap.size tot):=by
 obtain⟨⟨vs,hp⟩,h2⟩:=hw.vr.objs j _ hl
 have hold: ∀b,b<w.heap.size→(w0.alloc (.cells cells e)).heap[b]? =w.heap[b]?:=fun b hb=>by rw[heap_alloc_old w0 _ b (by rw[hw0.1];exact hb),hw0.1]
 have hnew: (w0.alloc (.cells cells e)).heap[w.heap.size]? =some (.cells cells e (0,0)):=by
  have:=heap_alloc_new w0 (.cells cells e)
  rw[hw0.1] at this;exact this
 have hsub: ∀v,vo (ι j) v→vo (.tuple (vs.push (tg w.heap.size tot))) v:=fun v ⟨vs',h3,h4⟩=>by
  rw[hp] at h3;cases h3
  exact⟨_,rfl,by simp[h4]⟩
 have hevo:aT σ (.o j)=none∨ ∃k0,aT σ (.o j)=some k0∧nQ (ι j) (.tuple (vs.push (tg w.heap.size tot))) k0 (aK e es Pr):= .inr ⟨_,hl,rfl,hsub⟩
 have hblock: ∀b,b<w.heap.size→ ¬lC σ ι j b→(w0.alloc (.cells cells e)).heap[b]? =w.heap[b]?:=fun b hb _=>hold b hb
 have st:=aOl hw.vr hblock hevo
 refine⟨.tuple (vs.push (tg w.heap.size tot)),⟨hw0.2.1,hw0.2.2.1,hw0.2.2.2,by simp[hw0.1],hblock,hevo,fun b hb=> ?_,⟨_,rfl⟩,fun v hv=> ?_⟩,hsub,⟨_,rfl,by simp⟩⟩
 · obtain⟨v,hv,hb⟩:=hb
   have hv:v∈vs.toList∨v=tg w.heap.size tot:=by simpa using hv
   rcases hv with hv|rfl
   · exact .inl ⟨⟨_,hl,trivial⟩,by rw[hp];exact⟨v,hv,hb⟩⟩
   · simp[blk] at hb;exact .inr (by omega)
 · obtain⟨vs',h3,h4⟩:=hv
   cases h3
   have h4:v∈vs.toList∨v=tg w.heap.size tot:=by simpa using h4
   rcases h4 with h4|rfl
   · obtain⟨b,tot',rfl,hpb⟩:=h2 v (by rw[hp];exact⟨vs,rfl,h4⟩)
     refine⟨b,tot',rfl,hpb.mono st.sub st.keep (hold b ?_)⟩
     obtain⟨cur,fz,hh,_⟩:=hpb
     exact(Array.getElem?_eq_some_iff.1 hh).1
   · exact⟨_,tot,rfl,cells,(0,0),hnew,.inl rfl,hs,hr st.keep⟩
theorem om {z:List D} (hT:dQ P T) (ho:o.op= .call {callee:= .builtin .append,args:= #[x,y],argTypes:= #[t,t2]}) (hd:o.dst=some d) (ht:T t=some ⟨.sl e,s1,s2,s3⟩) (hte:T e=some ti) (hes:ti.size=es) (hx:ev σ x=some (.e (.c (ps j es n)),R)) (hl:aT σ (.o j)=some (aK e es Pr))
 (hz:nw ti.zero=some z) (hPz:Pr z) (hs:Src P σ y t2 es m Pr R2) (hb: (n+m)*ti.bytes≤140737488355328) (h:k (R++R2++[(.o j,some (aK e es Pr))]) [(.o j,aK e es Pr),(.t d,.v (.e (.c (ps j es (n+m)))))]): ∃R W,xR P o R W∧bT R σ∧k R W:=by
 subst hes
 have hu:=(hT t _ ht).kind
 simp only[mD] at hu
 have hok:=hT e ti hte
 have hes:=hok.pos
 obtain⟨d2,hu2,hd2⟩:=hs.ty
 refine⟨_,_,vt hd fun cx σ' ι S a w hr hw=> ?_,((dE hx).append hs.rd).append (bT.one hl),h⟩
 have hl':=hr.right (.o j,some (aK e ti.size Pr)) (by simp)
 dsimp only at hl'
 obtain⟨rows,nv,rfl,hrows,hsr⟩:=hs.run cx σ' ι S a w hr.left.right hw
 have hq:slQ ti.size n (ι j) (a.eval x):=sZ (S:=S) (w:=w) (dK hx hr.left.left hw) hl'
 have hzl:z.length=ti.size:=by rw[pU hz,hok.zlen]
 have fin: ∀{w' p v},slQ ti.size (n+rows.length) p v→lZ (qB σ' (.o j) (aK e ti.size Pr)) (fun o=>if o=j then p else ι o) w' S (.e (.c (ps j ti.size (n+rows.length)))) v:=fun{w' p v} hq=>(aKd (cX σ' (.o j) (aK e ti.size Pr)) (by show slQ _ _ (if j=j then p else ι j) v;rw[if_pos rfl];exact hq):CR (qB σ' (.o j) (aK e ti.size Pr)) (fun o=>if o=j then p else ι o) w' S (ps j ti.size (n+rows.length)) v)
 have grow: ∀(base:Option Addr) (cap:Nat) (olds:List Value),a.eval x= .slice base n cap→cap<n+rows.length→olds.length=n*ti.size→(∀w1,w1.heap=w.heap→(Builtin.firstCells ti.size n (.slice base n cap)).run P w1= .ok olds.toArray w1)→
  (∀i,i<n→ ∃r:List D,r.length=ti.size∧Pr r∧ ∀(q:Nat) d,r[q]? =some d→ ∃u,olds[i*ti.size+q]? =some u∧DR w S d u)→
  ∃v p w',(execOp a.eval o).run P w= .ok (.value v) w'∧vp σ' ι S w j (aK e ti.size Pr) p w'∧lZ (qB σ' (.o j) (aK e ti.size Pr)) (fun o=>if o=j then p else ι o) w' S (.e (.c (ps j ti.size (n+rows.length)))) v:=by
  intro base cap olds hv hlt hol hold hor
  obtain⟨cap',zs,hrun,hle,hm,hzsl,hzs⟩:=kr (w:=w) (ty:=o.type) hu hok hu2 hd2 hsr base n cap olds hold hlt hb hz
  obtain⟨p',ht',hsub,hnew⟩:=aBt (w0:=w.drew) (cells:=(olds++nv++zs).toArray) (tot:=cap') hw hl' ⟨rfl,rfl,rfl,rfl⟩ (by rw[List.size_toArray,aW7,aW7,hsr.size,hzsl,hol,← aXp,← aXp,Nat.add_sub_cancel' hle]) (fun hkeep i hi=>by
   simp only[List.getElem?_toArray]
   by_cases h1:i<n
   · obtain⟨r,q1,q2,q3⟩:=hor i h1
     refine⟨r,q1,q2,fun q d hd=> ?_⟩
     obtain⟨u,hu1,hu2⟩:=q3 q d hd
     have hlt:=(aXh.1 hu1).1
     exact⟨u,by rw[List.append_assoc,List.getElem?_append_left hlt];exact hu1,DR.mono (fun _ h=>h) hkeep hu2⟩
   · by_cases h2:i<n+rows.length
     · have hil:i - n<rows.length:=by omega
       obtain⟨r1,r2⟩:=hrows _ (List.getElem_mem hil)
       refine⟨rows[i - n],r1,r2,fun q d hd=> ?_⟩
       obtain⟨u,hu1,hu2⟩:=hsr.rel (i - n) _ (aXg hil) q d hd
       have hlt:=(aXh.1 hu1).1
       have hmul:i*ti.size=n*ti.size+(i - n)*ti.size:=by rw[← aXp];congr 1;omega
       exact⟨u,by rw[List.append_assoc,List.getElem?_append_right (by omega),show i*ti.size+q - olds.length=(i - n)*ti.size+q by omega,List.getElem?_append_left hlt];exact hu1,DR.mono (fun _ h=>h) hkeep hu2⟩
     · refine⟨z,hzl,hPz,fun q d hd=> ?_⟩
       obtain⟨u,hu1,hu2⟩:=hzs (i - (n+rows.length)) (by omega) q d hd
       have hmul:i*ti.size=(n+rows.length)*ti.size+(i - (n+rows.length))*ti.size:=by rw[← aXp];congr 1;omega
       have hsz: (olds++nv).length=(n+rows.length)*ti.size:=by rw[aW7,hsr.size,hol,aXp]
       exact⟨u,by rw[List.getElem?_append_right (by omega),show i*ti.size+q - (olds++nv).length=(i - (n+rows.length))*ti.size+q by omega];exact hu1,hu2 _ _⟩)
  refine⟨_,p',_,?_,ht',fin (.inr ⟨w.heap.size,0,cap',cap',by rw[Nat.zero_mul],hle,hm,by omega,hnew⟩)⟩
  simp[execOp,ho,resolve,invoke,builtin,hv,hrun]
 rcases hq with⟨hv,rfl⟩|⟨b,i0,cap,tot,hv,q2,q3,q4,q5⟩
 · by_cases hnz:rows=[]
   · subst hnz
     have hrun:=tM (w:=w) (ty:=o.type) hu hok hu2 hd2 hsr
     refine⟨.slice none 0 0,ι j,w,by simp[execOp,ho,resolve,invoke,builtin,hv,hrun],⟨rfl,rfl,rfl,aXi _,fun _ _ _=>rfl,.inr ⟨_,hl',rfl,fun _ h=>h⟩,fun b hb=> .inl ⟨⟨_,hl',trivial⟩,hb⟩,hw.vr.objs j _ hl'⟩,fin (.inl ⟨rfl,rfl⟩)⟩
   · have hnpos:0<rows.length:=List.length_pos_iff.2 hnz
     exact grow none 0 [] hv (by omega) (by simp) (fun w1 _=>by simp[Builtin.firstCells]) (fun i hi=>by omega)
 · obtain⟨⟨cur,fz,hh,hf,hcs,hrs⟩,hmu⟩:=km (hw.vr.objs j _ hl') hl' q5
   have h9:cur.toList.length=cur.size:=Array.length_toList
   have hcap: (i0+cap)*ti.size≤tot*ti.size:=Nat.mul_le_mul_right _ q4
   rw[aXp] at hcap
   by_cases hroom:n+rows.length≤cap
   · have hrun:=bb (w:=w) (ty:=o.type) hu hok hu2 hd2 hsr b (i0*ti.size) n cap cur e hf hh hroom (by rw[hcs];exact hcap)
     have hmul: (n+rows.length)*ti.size≤cap*ti.size:=Nat.mul_le_mul_right _ hroom
     rw[aXp,← hsr.size] at hmul
     obtain⟨htt,_⟩:=aBs (w':=w.setRow b (dI cur.toList (i0*ti.size+n*ti.size) nv).toArray) (cur':=(dI cur.toList (i0*ti.size+n*ti.size) nv).toArray) hw hl' q5 ⟨rfl,rfl,rfl,by simp⟩ hh (setRow_heap w b cur _ e _ hh) (by rw[List.size_toArray,fO (by omega),h9]) (fun b' hne=>setRow_other w b b' _ hne) (fun hkeep i hi ⟨r,p1,p2,p3⟩=>by
      have get: ∀q,(dI cur.toList (i0*ti.size+n*ti.size) nv).toArray[q]? =if q<i0*ti.size+n*ti.size then cur[q]? else if q<i0*ti.size+n*ti.size+nv.length then nv[q - (i0*ti.size+n*ti.size)]? else cur[q]?:=fun q=>by
       rw[← Array.getElem?_toList,List.toList_toArray,iZ (by omega)]
       simp
      have hnv:=hsr.size
      by_cases h1:i<i0+n
      · refine⟨r,p1,p2,fun q d hd=> ?_⟩
        obtain⟨u,hu1,hu2⟩:=p3 q d hd
        have hql:q<ti.size:=by rw[← p1];exact(aXh.1 hd).1
        have:=lL h1 hql
        rw[aXp] at this
        exact⟨u,by rw[get,if_pos (by omega)];exact hu1,DR.mono (fun _ h=>h) hkeep hu2⟩
      · by_cases h2:i<i0+n+rows.length
        · have hil:i - (i0+n)<rows.length:=by omega
          obtain⟨r1,r2⟩:=hrows _ (List.getElem_mem hil)
          refine⟨rows[i - (i0+n)],r1,r2,fun q d hd=> ?_⟩
          obtain⟨u,hu1,hu2⟩:=hsr.rel _ _ (aXg hil) q d hd
          have hlt:=(aXh.1 hu1).1
          have hmul:i*ti.size=i0*ti.size+n*ti.size+(i - (i0+n))*ti.size:=by rw[← aXp,← aXp];congr 1;omega
          exact⟨u,by rw[get,if_neg (by omega),if_pos (by omega),show i*ti.size+q - (i0*ti.size+n*ti.size)=(i - (i0+n))*ti.size+q by omega];exact hu1,DR.mono (fun _ h=>h) hkeep hu2⟩
        · refine⟨r,p1,p2,fun q d hd=> ?_⟩
          obtain⟨u,hu1,hu2⟩:=p3 q d hd
          have: (i0+n+rows.length)*ti.size≤i*ti.size:=Nat.mul_le_mul_right _ (by omega)
          rw[aXp,aXp] at this
          exact⟨u,by rw[get,if_neg (by omega),if_neg (by omega)];exact hu1,DR.mono (fun _ h=>h) hkeep hu2⟩)
     refine⟨_,ι j,_,?_,htt,fin (.inr ⟨b,i0,cap,tot,rfl,hroom,q3,q4,q5⟩)⟩
     simp[execOp,ho,resolve,invoke,builtin,hv,hrun]
   · have hle9:n*ti.size≤cap*ti.size:=Nat.mul_le_mul_right _ q2
     obtain⟨olds,hold⟩: ∃olds,olds=(cur.toList.drop (i0*ti.size)).take (n*ti.size):=⟨_,rfl⟩
     have holdl:olds.length=n*ti.size:=by rw[hold];simp;omega
     have hget: ∀q,q<n*ti.size→olds[q]? =cur[i0*ti.size+q]?:=by
      intro q hq
      rw[hold,List.getElem?_take,if_pos hq,List.getElem?_drop];simp
     refine grow (some ⟨b,i0*ti.size,none⟩) cap olds hv (by omega) holdl (fun w1 h1=>by
      refine run_firstCells_some (P:=P) w1 ti.size n ⟨b,i0*ti.size,none⟩ n cap _ holdl (fun q v hq=> ?_)
      have hql:q<n*ti.size:=by rw[← holdl];exact(aXh.1 hq).1
      rw[hget q hql] at hq
      rw[vB h1,lK,cell_of_row w b _ cur e fz hh];exact hq) (fun i hi=> ?_)
     obtain⟨r,p1,p2,p3⟩:=hrs (i0+i) (by omega)
     refine⟨r,p1,p2,fun q d hd=> ?_⟩
     obtain⟨u,hu1,hu2⟩:=p3 q d hd
     have hql:q<ti.size:=by rw[← p1];exact(aXh.1 hd).1
     exact⟨u,by rw[hget _ (lL hi hql),← Nat.add_assoc,← aXp];exact hu1,hu2⟩
end
section
variable {P:Program} {ops:Array Oper} {cx:Cx P} {Q:Exit→Act→World→Prop} {σ:St}
theorem aDh (hedge:sO 0 ops.toList=true) {listed:Array Bool} (hcl: ∀k o,ops[k]? =some o→listed.getD k false=true→ ∀i∈kT o,listed.getD i false=true): ∀(k:Nat),∀o,ops[k]? =some o→(∀i∈kT o,listed.getD i false=true)→ ∀i∈(mS ops.toList []).getD k [],listed.getD i false=true:=by
 have hedge': ∀(j:Nat) o,ops[j]? =some o→ ∀i∈kT o,i<j:=fun j o ho i hi=>by
  have:=qF 0 ops.toList hedge j o (by simpa using ho) i hi;omega
 have hpl: ∀(j:Nat) o,ops[j]? =some o→(mS ops.toList [])[j]? =some ((kT o).flatMap fun i=>i::(mS ops.toList []).getD i []):=fun j o ho=>by
  have:=kb ops.toList [] j o (by simpa using ho) hedge
  simpa using this
 intro k
 induction k using Nat.strongRecOn with
 |_ k ih=>
  intro o ho hp i hi
  rw[aXe,hpl k o ho] at hi
  simp only[Option.getD_some,List.mem_flatMap] at hi
  obtain⟨i',hi',hi⟩:=hi
  rcases aXr.1 hi with rfl|hi
  · exact hp i hi'
  · have hlt:=hedge' k o ho i' hi'
    have hsz':k<ops.size:=(Array.getElem?_eq_some_iff.1 ho).1
    have ho':ops[i']? =some ops[i']:=Array.getElem?_eq_getElem (by omega)
    exact ih i' hlt _ ho' (hcl i' _ ho' (hp i' hi')) i hi
theorem vu {ts:List mR} (hlen:ts.length=ops.size) (hr:kM ts σ) (hok:qD ops.toList ts=true):
 ∀(fuel:Nat) (listed:Array Bool) (σL:St) (ι:Nat→Value) (S:Nat→Prop) (a:Act) (w:World),listed.size=ops.size→(∀l,aT σL l=part ts (fun i=>listed.getD i false) σ l ts.length)→RW cx σL ι S a w→
  (∀k o,ops[k]? =some o→listed.getD k false=true→ ∀i∈kT o,listed.getD i false=true)→
  (Region.ready .any ops listed=[]→RW cx (fJ ts σ) ι S a w)∧ ∀i∈Region.ready .any ops listed,∃o t,ops[i]? =some o∧ts[i]? =some t∧i<ops.size∧listed.getD i false=false∧bT t.1 σL∧
   (∀k o,ops[k]? =some o→(listed.setIfInBounds i true).getD k false=true→ ∀i'∈kT o,(listed.setIfInBounds i true).getD i' false=true)∧(∀j,(listed.setIfInBounds i true).getD j false=if j=i then true else listed.getD j false)∧
   ∀l,aT (iN σL t.2) l=part ts (fun j=>(listed.setIfInBounds i true).getD j false) σ l ts.length:=by
 simp only[qD,aXb] at hok
 obtain⟨hedge,hpair⟩:=hok
 have hedge': ∀(j:Nat) o,ops[j]? =some o→ ∀i∈kT o,i<j:=fun j o ho i hi=>by
  have:=qF 0 ops.toList hedge j o (by simpa using ho) i hi;omega
 have hpl: ∀(j:Nat) o,ops[j]? =some o→(mS ops.toList [])[j]? =some ((kT o).flatMap fun i=>i::(mS ops.toList []).getD i []):=fun j o ho=>by
  have:=kb ops.toList [] j o (by simpa using ho) hedge
  simpa using this
 intro fuel listed σL ι S a w hsz hlook hw hcl
 have hclosed: ∀(k:Nat),∀o,ops[k]? =some o→(∀i∈kT o,listed.getD i false=true)→ ∀i∈(mS ops.toList []).getD k [],listed.getD i false=true:=by
  intro k
  induction k using Nat.strongRecOn with
  |_ k ih=>
   intro o ho hp i hi
   rw[aXe,hpl k o ho] at hi
   simp only[Option.getD_some,List.mem_flatMap] at hi
   obtain⟨i',hi',hi⟩:=hi
   rcases aXr.1 hi with rfl|hi
   · exact hp i hi'
   · have hlt:=hedge' k o ho i' hi'
     have hsz':k<ops.size:=(Array.getElem?_eq_some_iff.1 ho).1
     have ho':ops[i']? =some ops[i']:=Array.getElem?_eq_getElem (by omega)
     exact ih i' hlt _ ho' (hcl i' _ ho' (hp i' hi')) i hi
 refine⟨fun hnil=> ?_,fun i hi=> ?_⟩
 · have hall: ∀k,k<ops.size→listed.getD k false=true:=by
    intro k
    induction k using Nat.strongRecOn with
    |_ k ih=>
     intro hk
     cases hL:listed.getD k false with
     |true=>rfl
     |false=>
      have ho:ops[k]? =some ops[k]:=Array.getElem?_eq_getElem hk
      have:k∈Region.ready .any ops listed:=mem_ready.2 ⟨pG.2 ⟨by omega,hL⟩,_,ho,fun e he hb=>by
       have hm:e.on∈kT ops[k]:=aXk.2 ⟨e,List.mem_filter.2 ⟨by simpa using he,hb⟩,rfl⟩
       have:=hedge' k _ ho _ hm
       exact ih e.on this (by omega)⟩
      rw[hnil] at this;cases this
   refine hw.congr fun l=> ?_
   rw[hlook l,ca ts σ l _ ts.length (aXi _) (fun i hi=>hall i (by omega)),aXn]
 · obtain⟨hun,o,ho,hall⟩:=mem_ready.1 hi
   obtain⟨hisz,hLi⟩:=pG.1 hun
   have hit':i<ts.length:=by omega
   have hti:ts[i]? =some ts[i]:=aXg hit'
   have hpreds: ∀i'∈kT o,listed.getD i' false=true:=by
    intro i' hi'
    obtain⟨e,he,rfl⟩:=aXk.1 hi'
    obtain⟨he1,he2⟩:=List.mem_filter.1 he
    exact hall e (by simpa using he1) he2
   have hset: ∀j,(listed.setIfInBounds i true).getD j false=if j=i then true else listed.getD j false:=by
    intro j
    rw[Array.getD_eq_getD_getElem?,Array.getD_eq_getD_getElem?]
    by_cases e:j=i
    · subst e;simp[hisz]
    · rw[if_neg e,Array.getElem?_setIfInBounds_ne (fun h=>e h.symm)]
   have later: ∀j u,i<j→listed.getD j false=true→ts[j]? =some u→pN (pV ts[i]) (pV u)=true:=by
    intro j u hij hLj hu
    have hjl:j<ts.length:=(aXh.1 hu).1
    have hoj:ops[j]? =some ops[j]:=Array.getElem?_eq_getElem (by omega)
    rcases qG hpair j i hjl hij (pV ts[i]) (pV u) _ (by simp[hti]) (by simp[hu]) (hpl j _ hoj) with h|h
    · have:=hclosed j _ hoj (hcl j _ hoj hLj) i (by rw[aXe,hpl j _ hoj];exact h)
      rw[hLi] at this;cases this
    · exact h
   have earlier: ∀j u,j<i→listed.getD j false=false→ts[j]? =some u→pN (pV u) (pV ts[i])=true:=by
    intro j u hij hLj hu
    rcases qG hpair i j hit' hij (pV u) (pV ts[i]) _ (by simp[hu]) (by simp[hti]) (hpl i _ ho) with h|h
    · have:=hclosed i _ ho hpreds j (by rw[aXe,hpl i _ ho];exact h)
      rw[hLj] at this;cases this
    · exact h
   have hreads:bT ts[i].1 σL:=by
    intro p hp
    rw[hlook p.1,ib hLi (fun j u hj hLj hu=>by
     have:=earlier j u hj hLj hu
     simp only[pN,aXb] at this
     exact aE6 this.1.2 hp) (fun j u hj hLj hu=>by
     have:=later j u hj hLj hu
     simp only[pN,aXb] at this
     exact aE5 this.2 hp),show min ts.length i=i by omega,ca ts σ p.1 _ i (by omega) (fun _ _=>rfl)]
    exact cc ts σ hr i _ hti p hp
   refine⟨o,ts[i],ho,hti,by omega,hLi,hreads,fun k o' ho' hk i' hi'=> ?_,hset,fun l=> ?_⟩
   · rw[hset] at hk ⊢
     by_cases e:i'=i
     · rw[if_pos e]
     · rw[if_neg e]
       by_cases e2:k=i
       · subst e2;rw[ho] at ho';cases ho';exact hpreds i' hi'
       · rw[if_neg e2] at hk;exact hcl k o' ho' hk i' hi'
   · rw[lS,ut hti hLi hset (fun j u hj hLj hu hne=>by
      have:=later j u hj hLj hu
      simp only[pN,aXb] at this
      exact aE4 this.1.1 hne) ts.length,if_pos hit',hlook l]
     all_goals(cases wr ts[i].2 l<;>rfl)
theorem aIh {κ:Type} {ts:κ→List mR} {i0:Nat} {o0:Oper} {R0:List (dH×Option K)} {Ws:List (dH×K)→Prop} (hlen: ∀c,(ts c).length=ops.size) (ho0:ops[i0]? =some o0) (hg0:o0.guard=none) (h0:OpE P o0 R0 Ws) (hR0: ∀c t,(ts c)[i0]? =some t→t.1=R0) (hW0: ∀W,Ws W→ ∃c,(ts c)[i0]? =some (R0,W))
 (hit: ∀c (i:Nat) o t,i≠i0→ops[i]? =some o→(ts c)[i]? =some t→ItT P ops o t) (hind: ∀c c' (j:Nat),j≠i0→i0∉ (mS ops.toList []).getD j []→(ts c)[j]? =(ts c')[j]?) (hr: ∀c,kM (ts c) σ) (hok: ∀c,qD ops.toList (ts c)=true) (hf: ∀o∈ops.toList,∀d,o.dst=some d→d<cx.N)
 (hq: ∀c ι' S' a' w',RW cx (fJ (ts c) σ) ι' S' a' w'→Q .normal a' w'):
 ∀(fuel:Nat) (c:κ) (listed:Array Bool) (σL:St) (ι:Nat→Value) (S:Nat→Prop) (a:Act) (w:World),listed.size=ops.size→(∀l,aT σL l=part (ts c) (fun i=>listed.getD i false) σ l (ts c).length)→RW cx σL ι S a w→
  (∀k o,ops[k]? =some o→listed.getD k false=true→ ∀i∈kT o,listed.getD i false=true)→((aXj ops.size).filter fun i=> !listed.getD i false).length≤fuel→wpAny P .any ops Q fuel listed a w:=by
 have hedge: ∀c,sO 0 ops.toList=true:=fun c=>by have:=hok c;simp only[qD,aXb] at this;exact this.1
 intro fuel
 induction fuel with
 |zero=>
  intro c listed σL ι S a w hsz hlook hw hcl hcount
  obtain⟨h1,h2⟩:=vu (hlen c) (hr c) (hok c) 0 listed σL ι S a w hsz hlook hw hcl
  have hnil:Region.ready .any ops listed=[]:=by
   apply List.eq_nil_iff_forall_not_mem.2
   intro i hi
   obtain⟨o,t,ho,ht,hlt,hLi,_⟩:=h2 i hi
   have:i∈(aXj ops.size).filter fun i=> !listed.getD i false:=List.mem_filter.2 ⟨List.mem_range.2 hlt,by rw[hLi];rfl⟩
   rw[List.eq_nil_of_length_eq_zero (by omega: ((aXj ops.size).filter fun i=> !listed.getD i false).length=0)] at this
   cases this
  exact⟨hnil,hq c _ _ _ _ (h1 hnil)⟩
 |succ fuel ih=>
  intro c listed σL ι S a w hsz hlook hw hcl hcount
  obtain⟨h1,h2⟩:=vu (hlen c) (hr c) (hok c) 0 listed σL ι S a w hsz hlook hw hcl
  refine⟨fun hn=>hq c _ _ _ _ (h1 hn),fun i hi=> ?_⟩
  obtain⟨o,t,ho,ht,hlt,hLi,hreads,hcl',hset,hlook'⟩:=h2 i hi
  unfold wpOp
  rw[ho]
  have hfo:=hf o (by have:=Array.mem_of_getElem? ho;simpa using this)
  have hdrop:=qv (N:=ops.size) (L:=fun j=>listed.getD j false) (L':=fun j=>(listed.setIfInBounds i true).getD j false) hlt hLi hset
  by_cases hi0:i=i0
  · subst hi0
    rw[ho0] at ho;cases ho
    have hRt:=hR0 c t ht
    dsimp only
    rw[if_pos (by simp[Region.wanted,hg0])]
    refine .inl (h0 cx σL ι S a w (by rw[← hRt];exact hreads) hw hfo _ Q fun W hW ι' S' a' w' hw'=> ?_)
    obtain⟨c',hc'⟩:=hW0 W hW
    have hsame: ∀l,aT σL l=part (ts c') (fun i=>listed.getD i false) σ l (ts c').length:=fun l=>by
     rw[hlook l,hlen c,hlen c']
     have hclosed:=aDh (hedge c) hcl
     have: ∀n,n≤ops.size→part (ts c) (fun i=>listed.getD i false) σ l n=part (ts c') (fun i=>listed.getD i false) σ l n:=by
      intro n
      induction n with
      |zero=>intro _;rfl
      |succ n ihn=>
       intro hn
       rw[nF,nF,ihn (by omega)]
       by_cases hLn:listed.getD n false=true
       · have hon:ops[n]? =some ops[n]:=Array.getElem?_eq_getElem (by omega)
         have hne:n≠i:=fun e=>by rw[e,hLi] at hLn;cases hLn
         have hni:i∉ (mS ops.toList []).getD n []:=fun hm=>by
          have:=hclosed n _ hon (hcl n _ hon hLn) i hm
          rw[hLi] at this;cases this
         rw[hind c c' n hne hni]
       · rw[if_neg hLn,if_neg hLn]
     exact this _ (aXi _)
    obtain⟨_,h2'⟩:=vu (hlen c') (hr c') (hok c') 0 listed σL ι S a w hsz hsame hw hcl
    obtain⟨o2,t2,ho2,ht2,_,_,_,_,_,hlook2⟩:=h2' i hi
    rw[hc'] at ht2;cases ht2
    exact ih c' (listed.setIfInBounds i true) (iN σL W) ι' S' a' w' (by simpa using hsz) hlook2 hw' hcl' (by omega)
  · refine hit c i o t hi0 ho ht cx σL ι S a w hreads hw hfo _ Q fun ι' S' a' w' hw'=> ?_
    exact ih c (listed.setIfInBounds i true) (iN σL t.2) ι' S' a' w' (by simpa using hsz) hlook' hw' hcl' (by omega)
end
def aUy:Option mR→mR→Prop
 |none,_=>True
 |some t,t'=>t'=t
def aOm (P:Program) (T:hO) (fx:Nat→Option mR):List Oper→Nat→St→List fu→(St→List fu→Prop)→Prop
 | [],_,σ,acc,k=>k σ acc
 |o::os,i,σ,acc,k=>match o.guard with
  |none=>aKc P T o σ fun R W=>aUy (fx i) (R,W)∧nS σ W fun σ'=>aOm P T fx os (i+1) σ' (acc++[pV (R,W)]) k
  |some _=>False
theorem vv {P:Program} {T:hO} (hT:dQ P T) {ops:Array Oper} {fx:Nat→Option mR} {k:St→List fu→Prop}: ∀(l:List Oper) (i:Nat) (σ:St) (acc:List fu),aOm P T fx l i σ acc k→
 ∃ts:List mR,bc P ops l ts∧kM ts σ∧(∀j t,ts[j]? =some t→aUy (fx (i+j)) t)∧k (fJ ts σ) (acc++ts.map pV)
 | [],i,σ,acc,h=>⟨[],trivial,trivial,by simp,by simpa[aOm,fJ] using h⟩
 |o::os,i,σ,acc,h=>by
  simp only[aOm] at h
  split at h
  · rename_i hg
    obtain⟨R,W,h1,h2,h3,h4⟩:=rn hT h
    rw[kX] at h4
    obtain⟨ts,q1,q2,q3,q4⟩:=vv hT os _ _ _ h4
    refine⟨(R,W)::ts,⟨bz hg h1,q1⟩,⟨h2,q2⟩,fun j t hj=> ?_,by simpa[fJ] using q4⟩
    cases j with
    |zero=>simp at hj;subst hj;exact h3
    |succ j=>rw[show i+(j+1)=i+1+j by omega];exact q3 j t (by simpa using hj)
  · exact h.elim
def aUz (i0:Nat) (fx:Nat→Option mR) (ops:Array Oper):Bool:=(aXj ops.size).all fun j=>decide (j≤i0)||(fx j).isSome||iO i0 ((mS ops.toList []).getD j [])
theorem cn {P:Program} {ops:Array Oper}: ∀(l:List Oper) (ts:List mR),bc P ops l ts→ts.length=l.length∧ ∀(i:Nat) o t,l[i]? =some o→ts[i]? =some t→ItT P ops o t:=by
 intro l
 induction l with
 |nil=>intro ts h;cases ts with
  |nil=>exact⟨rfl,by simp⟩
  |cons t ts=>exact h.elim
 |cons o os ih=>intro ts h;cases ts with
  |nil=>exact h.elim
  |cons t ts=>
   obtain⟨q1,q2⟩:=ih ts h.2
   refine⟨by simp[q1],fun i o' t' ho ht=> ?_⟩
   cases i with
   |zero=>simp at ho ht;subst ho;subst ht;exact h.1
   |succ i=>exact q2 i o' t' (by simpa using ho) (by simpa using ht)
theorem bg: ∀(ts us:List mR) (σ:St),kM ts σ→kM us (fJ ts σ)→kM (ts++us) σ
 | [],us,σ,_,h=>h
 |t::ts,us,σ,h1,h2=>⟨h1.1,bg ts us _ h1.2 h2⟩
theorem SW.regDE {P:Program} {T:hO} {io:List Nat} {Q:Ex→St→Prop} {σ:St} (hT:dQ P T) (hm:P.follows .mixedOrders=true) (ks:List Nat) (i0:Nat) (fx:Nat→Option mR) {id:Nat} {ops:Array Oper} {o0:Oper} (ho:ops.toList[i0]? =some o0) (hg:o0.guard=none) (hfx:aUz i0 fx ops=true)
 (h:goC P T ops.toList true (ops.toList.take i0) σ [] fun σ1 acc=> ∃R0 Ws,OpE P o0 R0 Ws∧bT R0 σ1∧(∃W,Ws W)∧ ∀W,Ws W→nS σ1 W fun σ2=>aOm P T fx (ops.toList.drop (i0+1)) (i0+1) σ2 (acc++[pV (R0,W)]) fun σ' ns=>ck ops.toList ns=true∧rQ ks σ' (Q .norm)):
 SW P io (.region id ops true) Q σ:=by
 intro cx ι S a w hio hw hf
 have hfit: ∀o∈ops.toList,∀d,o.dst=some d→d<cx.N:=fun o ho=>yT (by simpa[tN] using hf) ho
 obtain⟨tA,h1,h2,acc,h3,R0,Ws,h4,h5,⟨W0,hW0⟩,h6⟩:=xY hT (ops.toList.take i0) σ [] h
 have h3:=h3 rfl
 rw[List.nil_append] at h3
 subst h3
 have hi0:i0<ops.toList.length:=(aXh.1 ho).1
 have hsz:ops.toList.length=ops.size:=Array.length_toList
 have hAl:tA.length=i0:=by rw[(cn _ _ h1).1,aXc];omega
 have h7: ∀W: {W // Ws W},∃tB:List mR,bc P ops (ops.toList.drop (i0+1)) tB∧kM tB (iN (fJ tA σ) W.1)∧(∀j t,tB[j]? =some t→aUy (fx (i0+1+j)) t)∧ck ops.toList ((tA.map pV++[pV (R0,W.1)])++tB.map pV)=true∧Q .norm (Ab.keep ks (fJ tB (iN (fJ tA σ) W.1))):=fun⟨W,hW⟩=>by
  have h8:=h6 W hW
  rw[kX] at h8
  obtain⟨tB,q1,q2,q3,q4,q5⟩:=vv (ops:=ops) hT _ _ _ _ h8
  rw[nG] at q5
  exact⟨tB,q1,q2,q3,q4,q5⟩
 let tB:=fun W: {W // Ws W}=>Classical.choose (h7 W)
 have hB:=fun W: {W // Ws W}=>Classical.choose_spec (h7 W)
 let ts:=fun W: {W // Ws W}=>tA++(R0,W.1)::tB W
 have hBl: ∀W,(tB W).length=ops.size - (i0+1):=fun W=>by have:=(cn _ _ (hB W).1).1;rw[aXf,hsz] at this;exact this
 have hrun: ∀W,fJ (ts W) σ=fJ (tB W) (iN (fJ tA σ) W.1):=fun W=>by
  show fJ (tA++(R0,W.1)::tB W) σ=_
  rw[wX];rfl
 have hget: ∀W j,(ts W)[j]? =if j<i0 then tA[j]? else if j=i0 then some (R0,W.1) else(tB W)[j - (i0+1)]?:=fun W j=>by
  show(tA++(R0,W.1)::tB W)[j]? =_
  by_cases c1:j<i0
  · rw[if_pos c1,List.getElem?_append_left (by omega)]
  · rw[if_neg c1,List.getElem?_append_right (by omega),hAl]
    by_cases c2:j=i0
    · rw[if_pos c2,c2,Nat.sub_self];rfl
    · rw[if_neg c2,show j - i0=(j - (i0+1))+1 by omega,List.getElem?_cons_succ]
 have hlen: ∀W,(ts W).length=ops.size:=fun W=>by
  show(tA++(R0,W.1)::tB W).length=_
  rw[aW7,aW9,hBl,hAl];omega
 have ho':ops[i0]? =some o0:=by simpa using ho
 refine wp_region_any hm (aIh (κ:={W // Ws W}) (cx:=cx) (σ:=σ) (ts:=ts) (i0:=i0) hlen ho' hg h4 (fun W t ht=>by rw[hget,if_neg (by omega),if_pos rfl] at ht;cases ht;rfl) (fun W hW=>⟨⟨W,hW⟩,by rw[hget,if_neg (by omega),if_pos rfl]⟩)
  (fun W i o t hne ho2 ht=> ?_) (fun W W' j hne hni=> ?_) (fun W=>bg _ _ _ h2 ⟨h5,(hB W).2.1⟩) (fun W=> ?_) hfit (fun W ι' S' a' w' hw'=>⟨_,ι',S',(hB W).2.2.2.2,by rw[hrun] at hw';exact hw'.keep ks⟩)
  ops.size ⟨W0,hW0⟩ (Array.replicate ops.size false) σ ι S a _ (by simp) (fun l=> ?_) hw.drew (fun k o ho hk=> ?_) ?_)
 · rw[hget] at ht
   by_cases c1:i<i0
   · rw[if_pos c1] at ht
     exact(cn _ _ h1).2 i o t (by rw[List.getElem?_take,if_pos c1];simpa using ho2) ht
   · rw[if_neg c1,if_neg hne] at ht
     exact(cn _ _ (hB W).1).2 (i - (i0+1)) o t (by rw[List.getElem?_drop,show i0+1+(i - (i0+1))=i by omega];simpa using ho2) ht
 · rw[hget,hget]
   by_cases c1:j<i0
   · rw[if_pos c1,if_pos c1]
   · rw[if_neg c1,if_neg c1,if_neg hne,if_neg hne]
     by_cases c3:j<ops.size
     · have hd:=aXl.1 hfx j (List.mem_range.2 c3)
       simp only[Bool.or_eq_true,decide_eq_true_eq] at hd
       rcases hd with(hd|hd)|hd
       · omega
       · obtain⟨t,ht⟩:=Option.isSome_iff_exists.1 hd
         have e: ∀W,(tB W)[j - (i0+1)]? =some t:=fun W=>by
          have hl:j - (i0+1)< (tB W).length:=by rw[hBl];omega
          have:=(hB W).2.2.1 (j - (i0+1)) _ (aXg hl)
          rw[show i0+1+(j - (i0+1))=j by omega,ht] at this
          rw[aXg hl]
          exact congrArg some this
         rw[e W,e W']
       · exact absurd (hP.1 hd) hni
     · rw[List.getElem?_eq_none (by rw[hBl];omega),List.getElem?_eq_none (by rw[hBl];omega)]
 · have:=cl (hB W).2.2.2.1
   have e: (tA.map pV++[pV (R0,W.1)])++(tB W).map pV=(ts W).map pV:=by
    show _=(tA++(R0,W.1)::tB W).map pV
    simp
   have this:wY ops.toList ((tA.map pV++[pV (R0,W.1)])++(tB W).map pV)=true:=this
   rw[e] at this
   simpa[qD,wY] using this
 · have hL: ∀i,(Array.replicate ops.size false).getD i false=false:=fun i=>by
    rw[Array.getD_eq_getD_getElem?,Array.getElem?_replicate];split<;>rfl
   have: ∀n,part (ts ⟨W0,hW0⟩) (fun i=>(Array.replicate ops.size false).getD i false) σ l n=aT σ l:=by
    intro n
    induction n with
    |zero=>rfl
    |succ n ih=>rw[nF,if_neg (by rw[hL];simp),ih]
   rw[this]
 · rw[Array.getD_eq_getD_getElem?,Array.getElem?_replicate] at hk;split at hk<;>cases hk
 · exact Nat.le_trans (List.length_filter_le _ _) (by simp)
section
variable {P:Program} {T:hO} {io:List Nat} {f:FuncId} {n:Nat} {σin:St} {o:Oper} {c:Call} {d:Nat} {σ σ1:St} {Xs:List V} {Ra:List (dH×Option K)}
theorem ek {Qo:St→Prop} {rl:List (Nat×Nat)} {bor news:List Nat} {robj:List (Nat×K)} {k:List (dH×Option K)→List (dH×K)→Prop} (hs:SpecE P f n σin Qo) (ho:o.op= .call c) (hc:c.callee= .value (.func f)) (hx:evA σ c.args.toList=some (Xs,Ra)) (hn:Xs.length=n)
 (hm:oY (eV 0 Xs++rP robj) σin rl bor) (hq: ∀σout,Qo σout→kQ rl σin σout=true∧(bor=[]∨nR σout)∧ ∀j∈kN σin σout,j∈news) (h1: ∀p∈robj,aT σ (.o p.1)=some p.2) (h2: ∀j∈news,aT σ (.o (kL rl j))=none) (hne: ∃σout,Qo σout)
 (h: ∀σout,Qo σout→k (aOg Ra robj rl news) (uA rl σin σout o.dst)): ∃R Ws,OpE P o R Ws∧bT R σ∧(∃W,Ws W)∧ ∀W,Ws W→k R W:=by
 refine⟨_,_,aBq hs ho hc hx hn hm hq,fun p hp=> ?_,?_,fun W ⟨σout,hQ,e⟩=>e▸h σout hQ⟩
 · rcases List.mem_append.1 hp with hp|hp
   · rcases List.mem_append.1 hp with hp|hp
     · exact uW hx p hp
     · obtain⟨q,hq,rfl⟩:=aXk.1 hp
       exact h1 q hq
   · obtain⟨j,hj,rfl⟩:=aXk.1 hp
     exact h2 j hj
 · obtain⟨σout,hQ⟩:=hne
   exact⟨_,σout,hQ,rfl⟩
end
section
variable {P:Program} {T:hO} {o:Oper} {σ:St} {t e:TypeId} {s1 s2 d j es:Nat} {s3:List C} {k:List (dH×Option K)→List (dH×K)→Prop} {Pr:List D→Prop} {ti:TI}
theorem aRg (hT:dQ P T) (ho:o.op= .buildSlice t 0 #[]) (hd:o.dst=some d) (ht:T t=some ⟨.sl e,s1,s2,s3⟩) (hte:T e=some ti) (hes:ti.size=es) (hl:aT σ (.o j)=some (aK e es Pr))
 (h:k [(.o j,some (aK e es Pr))] [(.o j,aK e es Pr),(.t d,.v (.e (.c (ps j es 0))))]): ∃R W,xR P o R W∧bT R σ∧k R W:=by
 have hu:=(hT t _ ht).kind
 simp only[mD] at hu
 have hok:=hT e ti hte
 refine⟨_,_,vt hd fun cx σ' ι S a w hr hw=> ?_,bT.one hl,h⟩
 have hl':=hr (.o j,some (aK e es Pr)) (by simp)
 dsimp only at hl'
 obtain⟨p',ht',hsub,hnew⟩:=aBt (w0:=w) (cells:= #[]) (tot:=0) hw hl' ⟨rfl,rfl,rfl,rfl⟩ (by simp) (fun _ i hi=>by omega)
 refine⟨.slice (some ⟨w.heap.size,0,none⟩) 0 0,p',w.alloc (.cells #[] e),?_,ht',show CR (qB σ' (.o j) (aK e es Pr)) (fun o=>if o=j then p' else ι o) (w.alloc (.cells #[] e)) S (ps j es 0) _ from aKd (cX σ' (.o j) (aK e es Pr)) ?_⟩
 · have hrun: (Instr.buildSlice t 0 #[]).run P w= .ok (.slice (some ⟨w.heap.size,0,none⟩) 0 0) (w.alloc (.cells #[] e)):=by
    simp only[Instr.buildSlice,Sem.run_bind,run_underlying hu,Result.andThen_ok,fQ hok]
    rw[if_neg (by omega)]
    simp[Instr.fill,newRow,Array.range_zero']
   simp[execOp,ho]
   rw[hrun];rfl
 · show slQ es 0 (if j=j then p' else ι j) _
   rw[if_pos rfl]
   exact .inr ⟨w.heap.size,0,0,0,by rw[Nat.zero_mul],aXi _,by simp only[maxLen];omega,aXi _,hnew⟩
end
theorem RW.newPool {P:Program} {cx:Cx P} {σ:St} {ι:Nat→Value} {S:Nat→Prop} {a:Act} {w:World} (h:RW cx σ ι S a w) {j:Nat} (e:TypeId) (es:Nat) (Pr:List D→Prop) (hj:aT σ (.o j)=none):
 RW cx (qB σ (.o j) (aK e es Pr)) (fun o=>if o=j then .tuple #[] else ι o) S a w:=
 h.turnZ ⟨rfl,rfl,rfl,aXi _,fun _ _ _=>rfl,.inl hj,fun b hb=>by obtain⟨v,hv,_⟩:=hb;simp at hv,⟨_,rfl⟩,fun v hv=>by obtain⟨vs,h1,h2⟩:=hv;cases h1;simp at h2⟩
theorem SW.newPool {P:Program} {io:List Nat} {Q:Ex→St→Prop} {σ:St} {c:Code} (j:Nat) (e:TypeId) (es:Nat) (Pr:List D→Prop) (hj:aT σ (.o j)=none) (h:tf σ (.o j) (aK e es Pr) (SW P io c Q)):SW P io c Q σ:=by
 rw[pA] at h
 intro cx ι S a w hio hw hf
 exact h cx _ S a w hio (hw.newPool e es Pr hj) hf
section
variable {τ σ':St} {rl:List (Nat×Nat)} {bor:List Nat} {r:List (dH×K)}
theorem aOn {s o es n j m:Nat} {Z:gw} (h:aT τ (.t s)=some (.v (.e (.c (ps o es n))))) (ho:o=kL rl j) (e:n=m) (hj:aT σ' (.o j)=some (.zone Z)) (hr:mL τ σ' rl bor r):mL τ σ' rl bor ((.t s,.v (.e (.c (ps j es m))))::r):=
 ⟨⟨_,h,ho,fun p v hv=>by rw[← e];exact hv,Z,hj⟩,hr⟩
theorem aW {j:Nat} {Z Z':gw} (h:aT τ (.o (kL rl j))=some (.zone Z)) (e:Z=Z') (hr:mL τ σ' rl bor r):mL τ σ' rl bor ((.o j,.zone Z')::r):=⟨⟨_,h,by rw[← e];exact⟨rfl,fun _ _ _ h=>h⟩⟩,hr⟩
theorem bF {o es n j m:Nat} {Z:gw} {cs ds:List C} (ho:o=kL rl j) (e:n=m) (hj:aT σ' (.o j)=some (.zone Z)) (h:zx τ σ' rl bor cs ds):zx τ σ' rl bor (ps o es n::cs) (ps j es m::ds):=⟨⟨ho,fun p v hv=>by rw[← e];exact hv,Z,hj⟩,h⟩
end
def goX (P:Program):List Oper→St→List fu→(St→List fu→Prop)→Prop
 | [],σ,acc,k=>k σ acc
 |o::os,σ,acc,k=>match o.guard with
  |none=> ∃R W,xR P o R W∧bT R σ∧nS σ W fun σ'=>goX P os σ' (acc++[pV (R,W)]) k
  |some _=>False
theorem sx {P:Program} {T:hO} (hT:dQ P T) {o:Oper} {σ:St} {p:Prop} {R:List (dH×Option K)} {W:List (dH×K)} {k:List (dH×Option K)→List (dH×K)→Prop} (h:oi T o σ=some (p,R,W)) (hp:p) (hk:k R W): ∃R W,xR P o R W∧bT R σ∧k R W:=by
 obtain⟨h1,h2⟩:=wA hT o σ p R W h hp
 exact⟨R,W,h1,h2,hk⟩
theorem aBu {P:Program} {ops:Array Oper} {k:St→List fu→Prop}: ∀(l:List Oper) (σ:St) (acc:List fu),goX P l σ acc k→ ∃ts:List mR,bc P ops l ts∧kM ts σ∧k (fJ ts σ) (acc++ts.map pV)
 | [],σ,acc,h=>⟨[],trivial,trivial,by simpa[goX,fJ] using h⟩
 |o::os,σ,acc,h=>by
  simp only[goX] at h
  split at h
  · rename_i hg
    obtain⟨R,W,h1,h2,h3⟩:=h
    rw[kX] at h3
    obtain⟨ts,q1,q2,q4⟩:=aBu os _ _ h3
    exact⟨(R,W)::ts,⟨bz hg h1,q1⟩,⟨h2,q2⟩,by simpa[fJ] using q4⟩
  · exact h.elim
theorem SW.regX {P:Program} {io:List Nat} {Q:Ex→St→Prop} {σ:St} (hm:P.follows .mixedOrders=true) (ks:List Nat) {id:Nat} {ops:Array Oper} (h:goX P ops.toList σ [] fun σ' ns=>ck ops.toList ns=true∧rQ ks σ' (Q .norm)):SW P io (.region id ops true) Q σ:=by
 intro cx ι S a w hio hw hf
 have hfit: ∀o∈ops.toList,∀d,o.dst=some d→d<cx.N:=fun o ho=>yT (by simpa[tN] using hf) ho
 obtain⟨ts,h1,h2,h4,h5⟩:=aBu (ops:=ops) ops.toList σ [] h
 rw[List.nil_append] at h4
 rw[nG] at h5
 obtain⟨q1,q2⟩:=cn _ _ h1
 refine wp_region_any hm (eh (cx:=cx) (σ:=σ) (ts:=ts) (by simpa using q1) (fun i o t ho ht=>q2 i o t (by simpa using ho) ht) h2 (by have:=cl h4;simpa[qD,wY] using this) hfit (fun ι' S' a' w' hw'=>⟨_,ι',S',h5,hw'.keep ks⟩)
  ops.size (Array.replicate ops.size false) σ ι S a _ (by simp) (fun l=> ?_) hw.drew (fun k o ho hk=> ?_) ?_)
 · have hL: ∀i,(Array.replicate ops.size false).getD i false=false:=fun i=>by
    rw[Array.getD_eq_getD_getElem?,Array.getElem?_replicate];split<;>rfl
   have: ∀n,part ts (fun i=>(Array.replicate ops.size false).getD i false) σ l n=aT σ l:=by
    intro n
    induction n with
    |zero=>rfl
    |succ n ih=>rw[nF,if_neg (by rw[hL];simp),ih]
   rw[this]
 · rw[Array.getD_eq_getD_getElem?,Array.getElem?_replicate] at hk;split at hk<;>cases hk
 · exact Nat.le_trans (List.length_filter_le _ _) (by simp)
def aOo:Option K→Bool
 |some (.row ..)=>true
 |_=>false
def aOp:Option K→Bool
 |some (.box ..)=>true
 |_=>false
def aDi:Option K→Bool
 |some (.zone ..)=>true
 |_=>false
def qC (τ σ':St) (rl:List (Nat×Nat)) (bor:List Nat):C→C→Prop→Prop
 | .d x,.d y,p=>x=y∧p
 | .nil,.nil,p=>p
 | .nil,.d y,p=>y= .sl []∧p
 | .own o n,.d y,p=>match iO o bor,aT τ (.o o) with
  |true,some (.row e es rows)=>rows.length=n∧y= .sl rows∧p
  |_,_=>False
 | .own o n,.own j m,p=>match Nat.beq o (kL rl j)&&aOo (aT σ' (.o j)) with
  |true=>n=m∧p
  |false=>False
 | .pt o k,.pt j m,p=>match Nat.beq o (kL rl j)&&(Nat.beq k m&&aOp (aT σ' (.o j))) with
  |true=>p
  |false=>False
 | .rp cs,.rp cs',p=>cs=cs'∧p
 | .nil,.z j Q',p=>match aDi (aT σ' (.o j)) with
  |true=>(∀p,Q' p (.slice none 0 0))∧p
  |false=>False
 | .z o Q,.z j Q',p=>match Nat.beq o (kL rl j)&&aDi (aT σ' (.o j)) with
  |true=>Q=Q'∧p
  |false=>False
 |_,_,_=>False
def qCs (τ σ':St) (rl:List (Nat×Nat)) (bor:List Nat):List C→List C→Prop→Prop
 | [],[],p=>p
 |c::cs,d::ds,p=>qC τ σ' rl bor c d (qCs τ σ' rl bor cs ds p)
 |_,_,_=>False
def qE (τ σ':St) (rl:List (Nat×Nat)) (bor:List Nat):E→E→Prop→Prop
 | .c x,.c y,p=>qC τ σ' rl bor x y p
 | .agg cs,.agg ds,p=>qCs τ σ' rl bor cs ds p
 |_,_,_=>False
def qEs (τ σ':St) (rl:List (Nat×Nat)) (bor:List Nat):List E→List E→Prop→Prop
 | [],[],p=>p
 |c::cs,d::ds,p=>qE τ σ' rl bor c d (qEs τ σ' rl bor cs ds p)
 |_,_,_=>False
def qV (τ σ':St) (rl:List (Nat×Nat)) (bor:List Nat):V→V→Prop→Prop
 | .e x,.e y,p=>qE τ σ' rl bor x y p
 | .tup xs,.tup ys,p=>qEs τ σ' rl bor xs ys p
 |_,_,_=>False
def qK (τ σ':St) (rl:List (Nat×Nat)) (bor:List Nat):K→K→Prop→Prop
 | .box ty cs,.box ty' ds,p=>match Nat.beq ty ty' with
  |true=>qCs τ σ' rl bor cs ds p
  |false=>False
 | .row e es rows,.row e' es' rows',p=>match Nat.beq e e'&&Nat.beq es es' with
  |true=>rows=rows'∧p
  |false=>False
 | .zone Z,.zone Z',p=>Z=Z'∧p
 |_,_,_=>False
def qL (τ σ':St) (rl:List (Nat×Nat)) (bor:List Nat):List (dH×K)→Prop
 | []=>True
 |(.t s,.v X')::r=>match aT τ (.t s) with
  |some (.v X)=>qV τ σ' rl bor X X' (qL τ σ' rl bor r)
  |_=>False
 |(.o j,k')::r=>match aT τ (.o (kL rl j)) with
  |some k=>qK τ σ' rl bor k k' (qL τ σ' rl bor r)
  |_=>False
 |_::_=>False
section
variable {τ σ':St} {rl:List (Nat×Nat)} {bor:List Nat} {p:Prop}
theorem aFp {k:Option K} (h:aOo k=true): ∃e es rows,k=some (.row e es rows):=by
 cases k with
 |none=>cases h
 |some k=>cases k<;>first|exact⟨_,_,_,rfl⟩|cases h
theorem aFq {k:Option K} (h:aOp k=true): ∃e es,k=some (.box e es):=by
 cases k with
 |none=>cases h
 |some k=>cases k<;>first|exact⟨_,_,rfl⟩|cases h
theorem kt {k:Option K} (h:aDi k=true): ∃e,k=some (.zone e):=by
 cases k with
 |none=>cases h
 |some k=>cases k<;>first|exact⟨_,rfl⟩|cases h
theorem aFr: ∀{c d:C},qC τ σ' rl bor c d p→mC τ σ' rl bor c d∧p:=by
 intro c d h
 cases c<;>cases d<;>simp only[qC] at h<;>try exact h.elim
 · exact h
 · exact h
 · exact⟨trivial,h⟩
 · split at h
   · rename_i hz
     exact⟨⟨h.1,kt hz⟩,h.2⟩
   · exact h.elim
 · split at h
   · rename_i hb hl
     exact⟨⟨hP.1 hb,_,_,_,hl,h.1,.inl h.2.1⟩,h.2.2⟩
   · exact h.elim
 · split at h
   · rename_i hb
     simp only[aXb] at hb
     exact⟨⟨Nat.eq_of_beq_eq_true hb.1,h.1,aFp hb.2⟩,h.2⟩
   · exact h.elim
 · split at h
   · rename_i hb
     simp only[aXb] at hb
     exact⟨⟨Nat.eq_of_beq_eq_true hb.1,Nat.eq_of_beq_eq_true hb.2.1,aFq hb.2.2⟩,h⟩
   · exact h.elim
 · exact h
 · split at h
   · rename_i hb
     simp only[aXb] at hb
     exact⟨⟨Nat.eq_of_beq_eq_true hb.1,fun p v hv=>by rw[← h.1];exact hv,kt hb.2⟩,h.2⟩
   · exact h.elim
theorem oq: ∀{cs ds:List C},qCs τ σ' rl bor cs ds p→zx τ σ' rl bor cs ds∧p
 | [],[],h=>⟨trivial,h⟩
 |c::cs,d::ds,h=>by
  obtain⟨h1,h2⟩:=aFr h
  obtain⟨h3,h4⟩:=oq h2
  exact⟨⟨h1,h3⟩,h4⟩
 | [],_::_,h=>h.elim
 |_::_,[],h=>h.elim
theorem aFs {x y:E} (h:qE τ σ' rl bor x y p):mE τ σ' rl bor x y∧p:=by
 cases x<;>cases y<;>simp only[qE] at h<;>first|exact h.elim|exact aFr h|exact oq h
theorem aBv: ∀{cs ds:List E},qEs τ σ' rl bor cs ds p→mEs τ σ' rl bor cs ds∧p
 | [],[],h=>⟨trivial,h⟩
 |c::cs,d::ds,h=>by
  obtain⟨h1,h2⟩:=aFs h
  obtain⟨h3,h4⟩:=aBv h2
  exact⟨⟨h1,h3⟩,h4⟩
 | [],_::_,h=>h.elim
 |_::_,[],h=>h.elim
theorem aOq {x y:V} (h:qV τ σ' rl bor x y p):mV τ σ' rl bor x y∧p:=by
 cases x<;>cases y<;>simp only[qV] at h<;>first|exact h.elim|exact aFs h|exact aBv h
theorem aOr {x y:K} (h:qK τ σ' rl bor x y p):mK τ σ' rl bor x y∧p:=by
 cases x<;>cases y<;>simp only[qK] at h<;>try exact h.elim
 · split at h
   · rename_i hb
     obtain⟨h1,h2⟩:=oq h
     exact⟨⟨Nat.eq_of_beq_eq_true hb,h1⟩,h2⟩
   · exact h.elim
 · split at h
   · rename_i hb
     simp only[aXb] at hb
     exact⟨⟨Nat.eq_of_beq_eq_true hb.1,Nat.eq_of_beq_eq_true hb.2,h.1⟩,h.2⟩
   · exact h.elim
 · obtain⟨rfl,h2⟩:=h
   exact⟨⟨rfl,fun _ _ _ h=>h⟩,h2⟩
theorem qs: ∀{L:List (dH×K)},qL τ σ' rl bor L→mL τ σ' rl bor L
 | [],_=>trivial
 |(.t s,.v X')::r,h=>by
  simp only[qL] at h
  split at h
  · rename_i X hl
    obtain⟨h1,h2⟩:=aOq h
    exact⟨⟨X,hl,h1⟩,qs h2⟩
  · exact h.elim
 |(.o j,k')::r,h=>by
  have h: (match aT τ (.o (kL rl j)) with
   |some k=>qK τ σ' rl bor k k' (qL τ σ' rl bor r)
   |_=>False):=by cases k'<;>exact h
  split at h
  · rename_i k hl
    obtain⟨h1,h2⟩:=aOr h
    have h3: (∃k,aT τ (.o (kL rl j))=some k∧mK τ σ' rl bor k k')∧mL τ σ' rl bor r:=⟨⟨k,hl,h1⟩,qs h2⟩
    cases k'<;>exact h3
  · exact h.elim
 |(.t s,.box ..)::r,h=>h.elim
 |(.t s,.row ..)::r,h=>h.elim
 |(.t s,.dead)::r,h=>h.elim
 |(.t s,.cv ..)::r,h=>h.elim
 |(.t s,.zone ..)::r,h=>h.elim
end
theorem aWu {es:Nat}: ∀p,slQ es 0 p (.slice none 0 0):=fun p=> .inl ⟨rfl,rfl⟩
def iK (n lo hi:Int):Bool:=decide (lo≤n)&&decide (n≤hi)
def eR (n:Int):Bool:=iK n 0 3
def iX (at_ to:Int):Int:=if !eR at_|| !eR to||at_==to then -1 else if at_<to then at_+1 else at_ - 1
theorem aB {n:Int} (h: -9223372036854775808≤n∧n<9223372036854775808):wrap64 n=n:=by
 unfold wrap64;omega
structure cF where
 kind:Int
 src:Int
 dst:Int
 frm:Int
 num:Int
 to:Int
 til:Int
 size:Int
 mix:Int
 data:List UInt8
def cF.row (f:cF):List D:=[.i f.kind,.i f.src,.i f.dst,.i f.frm,.i f.num,.i f.to,.i f.til,.i f.size,.i f.mix,.s f.data]
abbrev cF.V (f:cF):V:= .e (.agg [.d (.i f.kind),.d (.i f.src),.d (.i f.dst),.d (.i f.frm),.d (.i f.num),.d (.i f.to),.d (.i f.til),.d (.i f.size),.d (.i f.mix),.d (.s f.data)])
def eO (f:cF):Bool:=
 eR f.src&&eR f.dst&&eR f.frm&&eR f.to&&iK f.num 1 99&&iK f.til 1 999&&
 (if f.kind=1 then iK f.size 1 24&&iK f.mix 0 999&&decide (f.data.length=4)&&decide (f.dst=iX f.src f.to)
  else if f.kind=2∨f.kind=3 then decide (f.size=0)&&decide (f.mix=0)&&decide (f.data=[])&&decide (f.src=iX f.dst f.to) else false)
theorem bG {T:hO} {io:List Nat} {rs:List ResultVar} {s:St} {X Y:V} (h1:aHt T s rs=some X) (hp:oX Y=true) (e:X=Y):be T io rs [(.t 0,.v Y)] s:=by
 subst e
 exact⟨X,[],[],h1,⟨⟨⟨X,rfl,aFh hp⟩,trivial⟩,rfl⟩,by simp[uy,cD,pM];exact fun x _=> .inl rfl⟩
theorem jL {l:List UInt8} {i:Nat} (h:i<l.length): (aA l).getD i []=[.u (l.getD i 0).toNat]:=by
 rw[aXe,aXe]
 simp[aA,h]
theorem gU (l m:List UInt8):aA l++aA m=aA (l++m):=by simp[aA]
theorem aOs (b:UInt8):b.toNat<256:=b.toNat_lt
def fo (l:List UInt8):Nat→Nat
 |0=>0
 |n+1=>(fo l n+(l.getD n 0).toNat*(n % 1000+1)) % 65521
theorem aDj (l:List UInt8) (n:Nat):fo l n<65521:=by
 cases n with
 |zero=>simp[fo]
 |succ n=>exact Nat.mod_lt _ (by decide)
theorem aLu (l:List UInt8) (n:Nat):wrap64 ((fo l n:Int)+wrap64 (((l.getD n 0).toNat:Int)*wrap64 ((n:Int) % 1000+1))) % 65521=(fo l (n+1):Int):=by
 show _=(((fo l n+(l.getD n 0).toNat*(n % 1000+1)) % 65521:Nat):Int)
 have h1:=aDj l n
 have h2:=aOs (l.getD n 0)
 generalize (l.getD n 0).toNat=b at*
 have h3: (n:Int) % 1000<1000:=Int.emod_lt_of_pos _ (by decide)
 have h4:0≤(n:Int) % 1000:=Int.emod_nonneg _ (by decide)
 rw[aB (n:=(n:Int) % 1000+1) (by omega)]
 have h5: (b:Int)*((n:Int) % 1000+1)≤255*1000:=Int.mul_le_mul (by omega) (by omega) (by omega) (by omega)
 have h6:0≤(b:Int)*((n:Int) % 1000+1):=Int.mul_nonneg (by omega) (by omega)
 rw[aB (n:=(b:Int)*((n:Int) % 1000+1)) (by omega),aB (by omega)]
 have e: ((b*(n % 1000+1):Nat):Int)=(b:Int)*((n:Int) % 1000+1):=by rw[Int.natCast_mul,Int.natCast_add,Int.natCast_emod];rfl
 rw[← e]
 generalize b*(n % 1000+1)=q
 omega
theorem aIi (l:List UInt8) (n:Nat): (wrap64 ((fo l n:Int)+wrap64 (wrap64 ((l.getD n 0).toNat:Int)*wrap64 (aXm (n:Int) 1000+1)))).tmod 65521=(fo l (n+1):Int):=by
 have h2:=aOs (l.getD n 0)
 have h1:=aDj l n
 have h3: (n:Int) % 1000<1000:=Int.emod_lt_of_pos _ (by decide)
 have h4:0≤(n:Int) % 1000:=Int.emod_nonneg _ (by decide)
 have h:=aLu l n
 rw[aB (n:=((l.getD n 0).toNat:Int)) (by omega),Int.tmod_eq_emod_of_nonneg (by omega:0≤(n:Int)),Int.tmod_eq_emod_of_nonneg]
 · exact h
 · rw[aB (n:=(n:Int) % 1000+1) (by omega)]
   have h5: ((l.getD n 0).toNat:Int)*((n:Int) % 1000+1)≤255*1000:=Int.mul_le_mul (by omega) (by omega) (by omega) (by omega)
   have h6:0≤((l.getD n 0).toNat:Int)*((n:Int) % 1000+1):=Int.mul_nonneg (by omega) (by omega)
   rw[aB (n:=((l.getD n 0).toNat:Int)*((n:Int) % 1000+1)) (by omega),aB (by omega)]
   omega
theorem vw (l:List UInt8) (n:Nat): (wrap64 ((fo l n:Int)+wrap64 (wrap64 (aXm (n:Int) 1000+1)*wrap64 ((l.getD n 0).toNat:Int)))).tmod 65521=(fo l (n+1):Int):=by
 rw[Int.mul_comm];exact aIi l n
def b8 (x:Int):UInt8:=UInt8.ofNat x.toNat
def two (n:Int):List UInt8:=[b8 (n / 256),b8 (n % 256)]
def pX (f:cF):List UInt8:=
 if eO f then
  let body:=[b8 f.kind,b8 f.src,b8 f.dst,b8 f.frm,b8 f.num,b8 f.to]++two f.til++(if f.kind=1 then [b8 f.size]++two f.mix++f.data else [])
  body++two (fo body body.length)
 else []
theorem vz {x:Int} (h:0≤x∧x<256): ((b8 x).toNat:Int)=x:=by
 unfold b8
 rw[UInt8.toNat_ofNat']
 omega
theorem wb {x:Int} (h:0≤x∧x<256):iW x=x:=by unfold iW;omega
theorem ik {x:Int} (h:0≤x∧x<256): [D.u (iW x)]=[D.u (b8 x).toNat]:=by rw[wb h,vz h]
theorem aOt {n:Int} (h:0≤n∧n<65536): [[D.u (iW (wrap64 (n.tdiv 256)))],[D.u (iW (n.tmod 256))]]=aA (two n):=by
 rw[Int.tdiv_eq_ediv_of_nonneg h.1,Int.tmod_eq_emod_of_nonneg h.1,aB (by omega),wb (by omega),wb (by omega)]
 simp only[aA,two,List.map_cons,List.map_nil]
 rw[vz (by omega),vz (by omega)]
theorem wc (n:Int):nR [(.t 0,.v (I n))]:=by
 intro p hp
 simp at hp
 subst hp;trivial
def lF (f:cF):List UInt8:=[b8 f.kind,b8 f.src,b8 f.dst,b8 f.frm,b8 f.num,b8 f.to]++two f.til
def fH (f:cF):List UInt8:=lF f++(if f.kind=1 then [b8 f.size]++two f.mix++f.data else [])
theorem qO (f:cF):pX f=if eO f then fH f++two (fo (fH f) (fH f).length) else []:=by
 unfold pX fH lF
 rfl
theorem mF {f:cF} (h:eO f=true): (0≤f.src∧f.src≤3)∧(0≤f.dst∧f.dst≤3)∧(0≤f.frm∧f.frm≤3)∧(0≤f.to∧f.to≤3)∧(1≤f.num∧f.num≤99)∧(1≤f.til∧f.til≤999)∧(1≤f.kind∧f.kind≤3)∧(f.kind=1→(1≤f.size∧f.size≤24)∧(0≤f.mix∧f.mix≤999)∧f.data.length=4):=by
 simp only[eO,eR,iK,aXb,decide_eq_true_eq] at h
 obtain⟨⟨⟨⟨⟨⟨h1,h2⟩,h3⟩,h4⟩,h5⟩,h6⟩,h7⟩:=h
 split at h7
 · rename_i hk
   simp only[aXb,decide_eq_true_eq] at h7
   exact⟨h1,h2,h3,h4,h5,h6,by omega,fun _=>⟨h7.1.1.1,h7.1.1.2,h7.1.2⟩⟩
 · split at h7
   · rename_i hk hk2
     exact⟨h1,h2,h3,h4,h5,h6,by omega,fun h=>absurd h hk⟩
   · cases h7
theorem ku {f:cF} (h:eO f=true): (fH f).length≤15:=by
 have:=(mF h).2.2.2.2.2.2.2
 unfold fH lF two
 split
 · rename_i hk;simp[(this hk).2.2]
 · simp
theorem co {f:cF} (hk: ¬f.kind=1):fH f=lF f:=by simp[fH,hk]
def el (f:cF):List UInt8:=[b8 f.kind,b8 f.src,b8 f.dst,b8 f.frm,b8 f.num,b8 f.to]
theorem aDk {f:cF} (h:eO f=true): []++[[D.u (iW f.kind)],[.u (iW f.src)],[.u (iW f.dst)],[.u (iW f.frm)],[.u (iW f.num)],[.u (iW f.to)]]=aA (el f):=by
 obtain⟨k1,k2,k3,k4,k5,k6,k7,k8⟩:=mF h
 simp only[el,aA,List.map_cons,List.map_nil,List.nil_append]
 rw[ik (x:=f.kind) (by omega),ik (x:=f.src) (by omega),ik (x:=f.dst) (by omega),ik (x:=f.frm) (by omega),ik (x:=f.num) (by omega),ik (x:=f.to) (by omega)]
def aTd (k:Int) (n:Nat):List UInt8:=(aXj n).map fun i=>UInt8.ofNat (k.toNat+i)
theorem aDl (k:Int) (n:Nat): (aTd k n).length=n:=by simp[aTd]
theorem aAf (f:cF): (pX f).length≤17:=by
 rw[qO]
 split
 · rename_i h
   have:=ku h
   simp[two];omega
 · simp
def aOu (σ:St):List (Nat×K)→Prop
 | []=>True
 |p::r=>aT σ (.o p.1)=some p.2∧aOu σ r
theorem aI {σ:St}: ∀{l:List (Nat×K)},aOu σ l→ ∀p∈l,aT σ (.o p.1)=some p.2
 |q::r,h,p,hp=>by
  rcases aXr.1 hp with rfl|hp
  · exact h.1
  · exact aI h.2 p hp
section
variable {P:Program} {f:FuncId} {n:Nat} {σin σout:St} {o:Oper} {c:Call} {σ:St} {Xs:List V} {Ra:List (dH×Option K)}
theorem kv {k:List (dH×Option K)→List (dH×K)→Prop} (rl:List (Nat×Nat)) (hs:Spec P f n σin σout) (ho:o.op= .call c) (hc:c.callee= .value (.func f)) (hx:evA σ c.args.toList=some (Xs,Ra)) (hn:Xs.length=n) (hin:σin=eV 0 Xs) (hp:Xs.all oX=true)
 (hk:kQ rl σin σout=true) (h2: ∀j∈kN σin σout,aT σ (.o (kL rl j))=none) (h:k (re Ra [] rl σin σout) (uA rl σin σout o.dst)): ∃R W,xR P o R W∧bT R σ∧k R W:=by
 subst hin
 refine bK (robj:=[]) (rl:=rl) (bor:=[]) hs ho hc hx hn ⟨vm (fun j Y hj=> ?_) hp,?_⟩ hk (.inl rfl) (by simp) h2 h
 · have hlt:=(aXh.1 hj).1
   rw[Nat.zero_add,pO 0 Xs _ j (aXd _) (by omega),Nat.sub_zero,hj];rfl
 · simp[bd,qN,vD,pM]
end
theorem ixB {l:List UInt8} {j:Int} (h0:0≤j) (h:j<l.length): (0≤j∧j< (aA l).length)∧((aA l).getD j.toNat []).length=1:=by
 refine⟨⟨h0,by rw[aU];exact h⟩,?_⟩
 rw[jL (by omega)];rfl
theorem ldB {l:List UInt8} {j:Int} (h0:0≤j) (h:j<l.length):1≤((aA l).getD j.toNat []).length∧((aA l).getD j.toNat []).take 1=lE [.d (.u 0)] ((aA l).getD j.toNat []) 0:=by
 rw[jL (by omega)];exact⟨aXi _,rfl⟩
theorem valB {l:List UInt8} {j:Int} (h0:0≤j) (h:j<l.length):toU (((aA l).getD j.toNat []).getD 0 (.i 0))=((l.getD j.toNat 0).toNat:Int):=by
 rw[jL (by omega)];rfl
theorem xA (l:List UInt8) (a b:Nat):jR (((aA l).take b).drop a)=(l.take b).drop a:=by
 have:=cG ((l.take b).drop a)
 rw[← this]
 congr 1
 simp[aA]
theorem xB (l:List UInt8) (a b:Nat): ((aA l).take b).drop a=aA ((l.take b).drop a):=by simp[aA]
def aU0:D→Bool
 | .sl rows=>rows.isEmpty
 |_=>true
def aIj:C→Bool
 | .d x=>aU0 x
 | .rp _=>false
 |_=>true
def aIk:E→Bool
 | .c x=>aIj x
 | .agg cs=>cs.all aIj
def aOv:V→Bool
 | .e x=>aIk x
 | .tup xs=>xs.all aIk
theorem rr {c:C} (h:aIj c=true):kd c:=by
 cases c with
 |d x=>cases x<;>first|trivial|exact List.isEmpty_iff.1 h
 |rp _=>cases h
 |_=>trivial
theorem ru {c:E} (h:aIk c=true):ud c:=by
 cases c with
 |c x=>exact rr h
 |agg cs=>exact fun c hc=>rr (aXl.1 h c hc)
theorem aFt {c:V} (h:aOv c=true):ue c:=by
 cases c with
 |e x=>exact ru h
 |tup cs=>exact fun c hc=>ru (aXl.1 h c hc)
theorem aIl {X:V} (h:aOv X=true):nR [(.t 0,.v X)]:=by
 intro p hp
 simp at hp
 subst hp
 exact aFt h
def jF (l:List UInt8) (i:Nat):Int:=(l.getD i 0).toNat
theorem kI (l:List UInt8) (i:Nat):0≤jF l i∧jF l i<256:=by
 have:=aOs (l.getD i 0)
 unfold jF;omega
theorem aDm {l:List UInt8} {j:Int} (h0:0≤j) (h:j.toNat<l.length):wrap64 (toU (((aA l).getD j.toNat []).getD 0 (.i 0)))=jF l j.toNat:=by
 rw[valB h0 (by omega)]
 have:=kI l j.toNat
 exact aB (by unfold jF at this;omega)
theorem aBw {x y:Int} (h:0≤x∧x<256) (k:0≤y∧y<256):wrap64 (wrap64 (x*256)+y)=x*256+y∧wrap64 (wrap64 (256*x)+y)=x*256+y:=by
 constructor
 · rw[aB (n:=x*256) (by omega),aB (by omega)]
 · rw[aB (n:=256*x) (by omega),aB (by omega)];omega
def em:cF:=⟨0,0,0,0,0,0,0,0,0,[]⟩
def cR (l:List UInt8):cF:=
 ⟨jF l 0,jF l 1,jF l 2,jF l 3,jF l 4,jF l 5,jF l 6*256+jF l 7,
  if l.length=17 then jF l 8 else 0,if l.length=17 then jF l 9*256+jF l 10 else 0,if l.length=17 then(l.take 15).drop 11 else []⟩
def mT (l:List UInt8):Bool:=(l.length==10||l.length==17)&&pX (cR l)==l
def hD (l:List UInt8):cF:=if mT l then cR l else em
theorem aOw {m:Int} (hm:0≤m):BitVec.ofInt 64 m=BitVec.ofNat 64 m.toNat:=by
 obtain⟨k,rfl⟩:=Int.eq_ofNat_of_zero_le hm
 exact BitVec.ofInt_natCast ..
theorem aLv {m n:Int} (hm:0≤m∧m<4611686018427387904) (hn:0≤n∧n<4611686018427387904):aBb m n=((m.toNat ^^^ n.toNat:Nat):Int):=by
 have hlt:m.toNat ^^^ n.toNat<2 ^ 62:=Nat.xor_lt_two_pow (by omega) (by omega)
 show IntKind.i64.wrap ((BitVec.ofInt 64 m ^^^ BitVec.ofInt 64 n).toNat:Int)=_
 rw[aOw hm.1,aOw hn.1,BitVec.toNat_xor,BitVec.toNat_ofNat,BitVec.toNat_ofNat,Nat.mod_eq_of_lt (by omega),Nat.mod_eq_of_lt (by omega),xS]
 exact aB (by omega)
theorem aDn {m n:Int} (hm:0≤m∧m<4611686018427387904) (hn:0≤n∧n<4611686018427387904):0≤aBb m n:=by
 rw[aLv hm hn];omega
theorem nV {x n:Int} (hx:0≤x) (hn:1≤n):0≤aXm x n∧aXm x n<n:=
 ⟨Int.tmod_nonneg n hx,Int.tmod_lt_of_pos x (by omega)⟩
theorem pP {x n:Int} (hx:0≤x) (hn:1≤n):0≤Int.tdiv x n∧Int.tdiv x n≤x:=by
 rw[Int.tdiv_eq_ediv_of_nonneg hx]
 exact⟨Int.ediv_nonneg hx (by omega),Int.ediv_le_self n hx⟩
theorem aWv {a b k q:Int} (ha:0≤a∧a<256) (hb:0≤b∧b<256) (hk:0≤k∧k≤1000000) (hq:0≤q∧q≤k):
 0≤wrap64 (wrap64 (wrap64 (wrap64 (a*131)+wrap64 (b*1117))+wrap64 (k*29))+wrap64 (wrap64 q*53))∧wrap64 (wrap64 (wrap64 (wrap64 (a*131)+wrap64 (b*1117))+wrap64 (k*29))+wrap64 (wrap64 q*53))<4611686018427387904:=by
 rw[aB (n:=a*131) (by omega),aB (n:=b*1117) (by omega),aB (n:=k*29) (by omega),aB (n:=q) (by omega),aB (n:=q*53) (by omega),aB (n:=a*131+b*1117) (by omega),aB (n:=a*131+b*1117+k*29) (by omega),aB (by omega)]
 omega
theorem aRh {x:Int} (h:0≤x∧x<4611686018427387904):0≤aBb x (wrap64 (Int.tdiv x 64)):=by
 have:=pP (x:=x) (n:=64) h.1 (by omega)
 rw[aB (by omega)]
 exact aDn h ⟨this.1,by omega⟩
end Go.Ab
namespace Go.Ab
open Int renaming toNat_natCast→aW6,tmod→aXm
open List renaming length_append→aW7,length_cons→aW9,length_nil→aXa,length_take→aXc,getD_eq_getElem?_getD→aXe,length_drop→aXf,getElem?_eq_getElem→aXg,getElem?_eq_some_iff→aXh,range→aXj,mem_map→aXk,all_eq_true→aXl,take_length→aXn,mem_singleton→aXo,mem_iff_getElem?→aXq,mem_cons→aXr
open Nat renaming le_of_ble_eq_true→aW8,zero_le→aXd,le_refl→aXi,add_mul→aXp
open Bool renaming and_eq_true→aXb
open Go Go.RowKit
def bO (l:List UInt8) (p n:Int):Int:=
 if n<1∨l.length=0 then 0
 else if p<l.length then aXm (jF l p.toNat) n
 else aXm (aBb (wrap64 (wrap64 (wrap64 (wrap64 (jF l (aXm p l.length).toNat*131)+wrap64 (jF l (aXm (wrap64 (wrap64 (p*7)+3)) l.length).toNat*1117))+wrap64 (p*29))+wrap64 (wrap64 (Int.tdiv p l.length)*53)))
  (wrap64 (Int.tdiv (wrap64 (wrap64 (wrap64 (wrap64 (jF l (aXm p l.length).toNat*131)+wrap64 (jF l (aXm (wrap64 (wrap64 (p*7)+3)) l.length).toNat*1117))+wrap64 (p*29))+wrap64 (wrap64 (Int.tdiv p l.length)*53))) 64))) n
theorem cC (l:List UInt8) {p n:Int} (hp:0≤p∧p≤1000000) (hn:1≤n):0≤bO l p n∧bO l p n<n:=by
 unfold bO
 split
 · omega
 · rename_i h
   have hl: ¬l.length=0:=fun e=>h (.inr e)
   split
   · exact nV (kI _ _).1 hn
   · exact nV (aRh (aWv (kI _ _) (kI _ _) hp (pP hp.1 (by omega)))) hn
set_option linter.unusedVariables false
def u8 (x:Int):UInt8:=UInt8.ofNat (iW x).toNat
theorem aFu (x:Int): ((u8 x).toNat:Int)=iW x:=by
 unfold u8 iW
 rw[UInt8.toNat_ofNat']
 omega
theorem aDo (x:Int): [D.u (iW x)]=[D.u (u8 x).toNat]:=by rw[aFu]
theorem aBx (b:List UInt8) (x:Int):aA b++[[D.u (iW x)]]=aA (b++[u8 x]):=by rw[aDo,← gU];rfl
theorem aOx {b:List UInt8} {i:Nat} {x:Int} (hi:i<b.length) (hx:x=iW x):
 (aA b).set i (dI ((aA b).getD i []) 0 [D.u x])=aA (b.set i (u8 x)):=by
 rw[jL hi]
 have e:dI [D.u (b.getD i 0).toNat] 0 [D.u x]=[D.u (u8 x).toNat]:=by rw[← aDo,← hx];rfl
 rw[e,aA,aA,← List.map_set (f:=fun b:UInt8=>[D.u (b.toNat:Int)])]
theorem aFv (x:Int):iW x=iW (iW x):=by unfold iW;omega
theorem weights: ∀d,1≤d→d≤255→ ∀w,1≤w→w≤1000→d*w≠65521∧d*w≠131042∧d*w≠196563:=by
 intro d h1 h2 w h3 h4
 have key: ∀d,d≤255→d≠0→(65521 % d=0→1000<65521 / d)∧(131042 % d=0→1000<131042 / d)∧(196563 % d=0→1000<196563 / d):=by
  decide+kernel
 obtain⟨k1,k2,k3⟩:=key d h2 (by omega)
 · have hd:0<d:=by omega
   refine⟨fun e=> ?_,fun e=> ?_,fun e=> ?_⟩
   · have:=k1 (by rw[← e];exact Nat.mul_mod_right d w)
     rw[← e,Nat.mul_div_cancel_left w hd] at this;omega
   · have:=k2 (by rw[← e];exact Nat.mul_mod_right d w)
     rw[← e,Nat.mul_div_cancel_left w hd] at this;omega
   · have:=k3 (by rw[← e];exact Nat.mul_mod_right d w)
     rw[← e,Nat.mul_div_cancel_left w hd] at this;omega
set_option linter.unusedVariables false
def cZ (l:List Int):List (List D):=l.map fun x=>[.i x]
def aM (l:List Bool):List (List D):=l.map fun x=>[.b x]
def bB (l:List (List UInt8)):List (List D):=l.map fun x=>[.s x]
theorem cH (l:List Int): (cZ l).length=l.length:=by simp[cZ]
theorem cS (l:List Bool): (aM l).length=l.length:=by simp[aM]
theorem aL (l:List (List UInt8)): (bB l).length=l.length:=by simp[bB]
theorem zG (l:List (List UInt8)): ∀r∈bB l,r.length=1:=by
 intro r hr
 obtain⟨b,_,rfl⟩:=aXk.1 hr
 rfl
theorem gV {l:List Int} {i:Nat} (h:i<l.length): (cZ l).getD i []=[.i (l.getD i 0)]:=by
 rw[aXe,aXe]
 simp[cZ,h]
theorem lM {l:List Bool} {i:Nat} (h:i<l.length): (aM l).getD i []=[.b (l.getD i false)]:=by
 rw[aXe,aXe]
 simp[aM,h]
theorem fV {l:List (List UInt8)} {i:Nat} (h:i<l.length): (bB l).getD i []=[.s (l.getD i [])]:=by
 rw[aXe,aXe]
 simp[bB,h]
theorem kw {l:List Int} {j:Int} (h0:0≤j) (h:j<l.length): (0≤j∧j< (cZ l).length)∧((cZ l).getD j.toNat []).length=1:=by
 refine⟨⟨h0,by rw[cH];exact h⟩,?_⟩
 rw[gV (by omega)];rfl
theorem ixS {l:List (List UInt8)} {j:Int} (h0:0≤j) (h:j<l.length): (0≤j∧j< (bB l).length)∧((bB l).getD j.toNat []).length=1:=by
 refine⟨⟨h0,by rw[aL];exact h⟩,?_⟩
 rw[fV (by omega)];rfl
theorem ldS {l:List (List UInt8)} {j:Int} (h0:0≤j) (h:j<l.length):1≤((bB l).getD j.toNat []).length∧((bB l).getD j.toNat []).take 1=lE [.d (.s [])] ((bB l).getD j.toNat []) 0:=by
 rw[fV (by omega)];exact⟨aXi _,rfl⟩
theorem aRi {l:List (List UInt8)} {j:Int} (h0:0≤j) (h:j<l.length):toS (((bB l).getD j.toNat []).getD 0 (.i 0))=l.getD j.toNat []:=by
 rw[fV (by omega)];rfl
theorem aWy {l:List UInt8} {j:Int} {n:Nat} (h0:0≤j) (h:j<l.length) (e:l.length=n): (aA l).length=n∧0≤j∧j<n:=⟨by rw[aU];exact e,h0,by omega⟩
theorem aFw {l:List Int} {j n:Nat} (h:j<l.length) (e:l.length=n): ((cZ l).length=n∧j<n)∧0+1≤((cZ l).getD j []).length∧(((cZ l).getD j []).drop 0).take 1=lE [.d (.i 0)] ((cZ l).getD j []) 0:=by
 rw[gV h,cH];exact⟨⟨e,by omega⟩,aXi _,rfl⟩
theorem oldS {l:List (List UInt8)} {j n:Nat} (h:j<l.length) (e:l.length=n): ((bB l).length=n∧j<n)∧0+1≤((bB l).getD j []).length∧(((bB l).getD j []).drop 0).take 1=lE [.d (.s [])] ((bB l).getD j []) 0:=by
 rw[fV h,aL];exact⟨⟨e,by omega⟩,aXi _,rfl⟩
theorem aLw {l:List Bool} {i:Nat} {x:Bool} (hi:i<l.length): (aM l).set i (dI ((aM l).getD i []) 0 [D.b x])=aM (l.set i x):=by
 rw[lM hi]
 show(aM l).set i [D.b x]=_
 rw[aM,aM,← List.map_set (f:=fun b:Bool=>[D.b b])]
theorem oJ (l:List Int) (x:Int):cZ l++[[D.i x]]=cZ (l++[x]):=by simp[cZ]
theorem fC (l:List (List UInt8)) (x:List UInt8):bB l++[[D.s x]]=bB (l++[x]):=by simp[bB]
theorem repT (n:Nat):List.replicate n [D.b false]=aM (List.replicate n false):=by simp[aM]
def eX (x:Int):Int:=if iK x 0 65535 then aXm (wrap64 (wrap64 (x*25173)+13849)) 65536 else 0
theorem cp (x:Int):0≤eX x∧eX x<65536:=by
 unfold eX
 split
 · rename_i h
   simp[iK] at h
   rw[aB (n:=x*25173) (by omega),aB (by omega)]
   exact nV (by omega) (by omega)
 · omega
def tQ (b n:Int):Bool:=iK b 1 6&&iK n 0 999
theorem xZ {b n:Int} (h:tQ b n=true): (1≤b∧b≤6)∧0≤n∧n≤999:=by
 simp[tQ,iK] at h;omega
def nW (b d:Int):Int:=if d=1 then wrap64 (wrap64 (Int.tdiv 60 b)+10) else wrap64 (Int.tdiv 60 (wrap64 (d*wrap64 (d - 1))))
theorem vI {b d:Int} (hb:1≤b∧b≤6) (hd:1≤d∧d≤6):0≤nW b d∧nW b d≤70∧(d=1→10≤nW b d):=by
 obtain⟨hb1,hb2⟩:=hb
 obtain⟨hd1,hd2⟩:=hd
 have key: ∀b:Fin 7,∀d:Fin 7,1≤b.val→1≤d.val→0≤nW b.val d.val∧nW b.val d.val≤70∧((d.val:Int)=1→10≤nW b.val d.val):=by decide+kernel
 obtain⟨m,rfl⟩:=Int.eq_ofNat_of_zero_le (show 0≤b by omega)
 obtain⟨n,rfl⟩:=Int.eq_ofNat_of_zero_le (show 0≤d by omega)
 exact key ⟨m,by omega⟩ ⟨n,by omega⟩ (by simp;omega) (by simp;omega)
theorem aIm {b f at_:Int} (hb:1≤b∧b≤6) (hf:0≤f∧f<b) (ha:0≤at_∧at_<b) (hne:at_≠f):
 ((f+b - aXm (wrap64 (at_+1)) b) % b).toNat< ((f+b - at_) % b).toNat∧0≤aXm (wrap64 (at_+1)) b∧aXm (wrap64 (at_+1)) b<b:=by
 rw[aB (by omega)]
 have h:=nV (x:=at_+1) (n:=b) (by omega) hb.1
 refine⟨?_,h⟩
 rw[Int.tmod_eq_emod_of_nonneg (by omega)]
 obtain⟨h1,h2⟩:=hb
 have:b=1∨b=2∨b=3∨b=4∨b=5∨b=6:=by omega
 rcases this with rfl|rfl|rfl|rfl|rfl|rfl<;>omega
theorem aFx {u:List Bool} (h:u.count true<u.length): ∃f,f<u.length∧u.getD f false=false:=by
 induction u with
 |nil=>simp at h
 |cons x u ih=>
  cases x with
  |false=>exact⟨0,by simp,rfl⟩
  |true=>
   simp at h
   obtain⟨f,h1,h2⟩:=ih h
   exact⟨f+1,by simpa using h1,by simpa using h2⟩
theorem aLx {u:List Bool} {i:Nat} (hi:i<u.length) (h:u.getD i false=false): (u.set i true).count true=u.count true+1:=by
 induction u generalizing i with
 |nil=>simp at hi
 |cons x u ih=>
  cases i with
  |zero=>simp at h;subst h;simp
  |succ i=>
   simp at hi
   have:=ih hi (by simpa using h)
   simp only[List.set_cons_succ,List.count_cons,this]
   omega
theorem il (m n:Int):nq m n=iW (nq m n):=by
 unfold nq
 rw[jw]
 exact aFv _
theorem aLy (b:List UInt8) (m n:Int):aA b++[[D.u (nq m n)]]=aA (b++[u8 (nq m n)]):=by
 rw[il]
 rw[aBx,← il]
set_option linter.unusedVariables false
theorem rv {f:cF} (h:eO f=true): (f.kind=1→f.dst=iX f.src f.to)∧(f.kind≠1→f.src=iX f.dst f.to∧f.size=0∧f.mix=0∧f.data=[]):=by
 simp only[eO,aXb] at h
 obtain⟨_,h7⟩:=h
 split at h7
 · rename_i hk
   simp only[aXb,decide_eq_true_eq] at h7
   exact⟨fun _=>h7.2,fun h=>absurd hk h⟩
 · rename_i hk
   split at h7
   · simp only[aXb,decide_eq_true_eq] at h7
     exact⟨fun h=>absurd h hk,fun _=>⟨h7.2,h7.1.1.1,h7.1.1.2,h7.1.2⟩⟩
   · cases h7
theorem fv {a b n:Int} (h:n=iX a b) (hn:0≤n):a - n=1∨n - a=1:=by
 unfold iX at h
 split at h
 · omega
 · split at h<;>omega
theorem aLz {f:cF} (h:eO f=true) (hk:f.kind=1):iX f.src f.to=f.dst∧(f.src - f.dst=1∨f.dst - f.src=1):=by
 obtain⟨k1,k2,_⟩:=mF h
 have:=(rv h).1 hk
 exact⟨this.symm,fv this (by omega)⟩
theorem aL0 {f:cF} (h:eO f=true) (hk:f.kind≠1):iX f.dst f.to=f.src∧(f.src - f.dst=1∨f.dst - f.src=1):=by
 obtain⟨k1,k2,_⟩:=mF h
 have:=((rv h).2 hk).1
 exact⟨this.symm,(fv this (by omega)).symm⟩
set_option linter.unusedVariables false
set_option linter.unusedSimpArgs false
def eqD:D→D→Bool
 | .i m,.i n=>m==n
 | .b m,.b n=>m==n
 | .s l,.s r=>l==r
 |_,_=>false
def xC:List D→List D→Bool
 |x::xs,y::ys=>eqD x y&&xC xs ys
 |_,_=>true
def aBy:TK→D→D→Bool
 | .int _,.i _,.i _=>true
 | .bool,.b _,.b _=>true
 | .str,.s _,.s _=>true
 |_,_,_=>false
def kx (T:hO):List Field→Nat→List D→List D→Bool
 | [],_,[],[]=>true
 |f::fs,k,x::xs,y::ys=>(f.name != "_")&&Nat.beq f.offset k&&(match T f.type with|some ti=>aBy ti.kind x y|none=>false)&&kx T fs (k+1) xs ys
 |_,_,_,_=>false
theorem aKg {P:Program} {T:hO} (hT:dQ P T) {w:World} {S:Nat→Prop} {va vb:Array Value} (d:Nat): ∀(fs:List Field) (k:Nat) (xs ys:List D),kx T fs k xs ys=true→(∀(j:Nat) x,xs[j]? =some x→ ∃v,va[k+j]? =some v∧DR w S x v)→(∀(j:Nat) x,ys[j]? =some x→ ∃v,vb[k+j]? =some v∧DR w S x v)→
 (Op.eqFields (d+1) va vb fs).run P w= .ok (xC xs ys) w
 | [],k,xs,ys,h,_,_=>by
  cases xs<;>cases ys<;>first|rfl|(simp[kx] at h)
 |f::fs,k,[],ys,h,_,_=>by simp[kx] at h
 |f::fs,k,x::xs,[],h,_,_=>by simp[kx] at h
 |f::fs,k,x::xs,y::ys,h,hx,hy=>by
  simp only[kx,aXb] at h
  obtain⟨⟨⟨h1,h2⟩,h3⟩,h4⟩:=h
  have h2:=Nat.eq_of_beq_eq_true h2
  split at h3<;>try(cases h3;done)
  rename_i ti hti
  have ok:=hT _ _ hti
  obtain⟨u,hu,hxu⟩:=hx 0 x rfl
  obtain⟨v,hv,hyv⟩:=hy 0 y rfl
  have ih:=aKg hT d fs (k+1) xs ys h4 (fun j z hj=>by rw[Nat.add_assoc,Nat.add_comm 1 j];exact hx (j+1) z hj) (fun j z hj=>by rw[Nat.add_assoc,Nat.add_comm 1 j];exact hy (j+1) z hj)
  have hag:ti.kind.agg=false:=by
   cases hk:ti.kind<;>rw[hk] at h3<;>first|rfl|(simp[aBy] at h3)
  have pu: (Go.part f.type va f.offset).run P w= .ok u w:=by
   rw[h2];simp only[Go.part,Sem.run_bind,rR ok,hag,Result.andThen_ok]
   simp only[Nat.add_zero] at hu
   simp[hu]
  have pv: (Go.part f.type vb f.offset).run P w= .ok v w:=by
   rw[h2];simp only[Go.part,Sem.run_bind,rR ok,hag,Result.andThen_ok]
   simp only[Nat.add_zero] at hv
   simp[hv]
  have heq: (Op.equalIn (d+1) f.type u v).run P w= .ok (eqD x y) w:=by
   have hkd:=ok.kind
   cases hk:ti.kind with
   |int k'=>
    rw[hk] at h3 hkd
    cases x<;>cases y<;>simp[aBy] at h3
    cases hxu;cases hyv
    exact run_equalIn_int w d f.type .i64 k' _ _ hkd
   |bool=>
    rw[hk] at h3 hkd
    cases x<;>cases y<;>simp[aBy] at h3
    cases hxu;cases hyv
    exact run_equalIn_bool w d f.type _ _ hkd
   |str=>
    rw[hk] at h3 hkd
    cases x<;>cases y<;>simp[aBy] at h3
    rename_i l r
    cases hxu;cases hyv
    rw[run_equalIn_string w d f.type _ _ hkd]
    simp[eqD,ByteArray.toList_eq]
   |_=>rw[hk] at h3;simp[aBy] at h3
  simp only[Op.eqFields,if_pos (by simpa using h1),Sem.run_bind,pu,pv,heq,Result.andThen_ok]
  cases hxy:eqD x y
  · simp[xC,hxy]
  · simp[xC,hxy,ih]
theorem aKh {P:Program} {T:hO} (hT:dQ P T) {o:Oper} {op:BinOp} {t u:TypeId} {x y:Operand} {d:Nat} {σ0:St} {xs ys:List D} {Rx Ry:List (dH×Option K)} (ho:o.op= .binOp op t x y u) (hd:o.dst=some d) (hop: (match op with| .eql=>true| .neq=>true|_=>false)=true)
 (ht:P.underlying t=some (.struct (P.fieldsOf t))) (hp:P.stoodInHeld t=false) (hm:P.eqGuardType P.depth t=false) (hf:kx T (P.fieldsOf t).toList 0 xs ys=true)
 (hx:ev σ0 x=some (.e (.agg (xs.map .d)),Rx)) (hy:ev σ0 y=some (.e (.agg (ys.map .d)),Ry)):
 xR P o (Rx++Ry) [(.t d,.v (B (match op with| .neq=> !xC xs ys|_=>xC xs ys)))]:=by
 refine oH hd fun cx σ ι S a w hr hw=> ?_
 obtain⟨va,ea,la,ha⟩:=(show ER σ ι w S (.agg (xs.map .d)) _ from dK hx hr.left hw)
 obtain⟨vb,eb,lb,hb⟩:=(show ER σ ι w S (.agg (ys.map .d)) _ from dK hy hr.right hw)
 have hA: ∀(j:Nat) z,xs[j]? =some z→ ∃v,va.toArray[0+j]? =some v∧DR w S z v:=fun j z hj=>by
  have hj': (xs.map C.d)[j]? =some (.d z):=by simp[hj]
  have hlt:j<va.length:=by rw[la];exact(aXh.1 hj').1
  refine⟨va[j],by simp[hlt],ha j _ _ hj' (by simp[hlt])⟩
 have hB: ∀(j:Nat) z,ys[j]? =some z→ ∃v,vb.toArray[0+j]? =some v∧DR w S z v:=fun j z hj=>by
  have hj': (ys.map C.d)[j]? =some (.d z):=by simp[hj]
  have hlt:j<vb.length:=by rw[lb];exact(aXh.1 hj').1
  refine⟨vb[j],by simp[hlt],hb j _ _ hj' (by simp[hlt])⟩
 have key:=aKg hT 9998 (P.fieldsOf t).toList 0 xs ys hf hA hB
 have key2: (Op.equalIn 10000 t (.agg va.toArray) (.agg vb.toArray)).run P w= .ok (xC xs ys) w:=by
  rw[show(10000:Nat)=9999+1 from rfl,run_equalIn_struct w 9999 t _ _ ht hp];exact key
 cases op<;>simp at hop
 · refine⟨.bool (xC xs ys),?_,.b _⟩
   unfold execOp
   simp only[ho,Act.eval] at*
   simp only[ea,eb]
   rw[Sem.run_bind,Sem.run_bind,run_eqGuard_agg w .eql t x y _ _ hm,Result.andThen_ok,run_eql_struct,key2]
   rfl
 · refine⟨.bool (!xC xs ys),?_,.b _⟩
   unfold execOp
   simp only[ho,Act.eval] at*
   simp only[ea,eb]
   rw[Sem.run_bind,Sem.run_bind,run_eqGuard_agg w .neq t x y _ _ hm,Result.andThen_ok,run_neq_struct,key2]
   rfl
theorem aOy {P:Program} {T:hO} (hT:dQ P T) {o:Oper} {op:BinOp} {t u:TypeId} {x y:Operand} {d:Nat} {σ:St} (xs ys:List D) {Rx Ry:List (dH×Option K)} {k:List (dH×Option K)→List (dH×K)→Prop} (ho:o.op= .binOp op t x y u) (hd:o.dst=some d) (hop: (match op with| .eql=>true| .neq=>true|_=>false)=true)
 (ht:P.underlying t=some (.struct (P.fieldsOf t))) (hp:P.stoodInHeld t=false) (hm:P.eqGuardType P.depth t=false) (hf:kx T (P.fieldsOf t).toList 0 xs ys=true)
 (hx:ev σ x=some (.e (.agg (xs.map .d)),Rx)) (hy:ev σ y=some (.e (.agg (ys.map .d)),Ry)) (h:k (Rx++Ry) [(.t d,.v (B (match op with| .neq=> !xC xs ys|_=>xC xs ys)))]): ∃R W,xR P o R W∧bT R σ∧k R W:=
 ⟨_,_,aKh hT ho hd hop ht hp hm hf hx hy,(fun p hp=>by
  rcases List.mem_append.1 hp with hp|hp
  · exact dE hx p hp
  · exact dE hy p hp),h⟩
theorem aDp {P:Program} {T:hO} (hT:dQ P T) {o:Oper} {op:BinOp} {t u:TypeId} {x y:Operand} {d:Nat} {σ σ1:St} {g:Bool} (xs ys:List D) {Rx Ry:List (dH×Option K)} {k:List (dH×Option K)→V→Prop} (ho:o.op= .binOp op t x y u) (hd:o.dst=some d) (hop: (match op with| .eql=>true| .neq=>true|_=>false)=true)
 (ht:P.underlying t=some (.struct (P.fieldsOf t))) (hp:P.stoodInHeld t=false) (hm:P.eqGuardType P.depth t=false) (hf:kx T (P.fieldsOf t).toList 0 xs ys=true)
 (hx:ev σ1 x=some (.e (.agg (xs.map .d)),Rx)) (hy:ev σ1 y=some (.e (.agg (ys.map .d)),Ry)) (hr:g=true→oW σ (Rx++Ry)) (h:k (Rx++Ry) (B (match op with| .neq=> !xC xs ys|_=>xC xs ys))):
 ∃R X,(g=true→xR P o R [(.t d,.v X)]∧bT R σ1)∧(g=true→oW σ R)∧k R X:=
 ⟨_,_,fun _=>⟨aKh hT ho hd hop ht hp hm hf hx hy,(fun p hp=>by
  rcases List.mem_append.1 hp with hp|hp
  · exact dE hx p hp
  · exact dE hy p hp)⟩,hr,h⟩
set_option linter.unusedVariables false
set_option linter.unusedSimpArgs false
theorem Spec.freeze {P:Program} {f:FuncId} {n m:Nat} {σin:St} {e:TypeId} {es:Nat} {rows:List (List D)} (h:Spec P f n σin [(.t 0,.v (.e (.c (.own 0 m)))),(.o 0,.row e es rows)]) (hm:rows.length=m) (h0:cD σin=[]):Spec P f n σin [(.t 0,.v (Dv (.sl rows)))]:=by
 have hno: ∀o k,aT σin (.o o)=some k→False:=fun o k hk=>by have:=fM hk;rw[h0] at this;cases this
 refine⟨h.1,fun ι ν S w args hg h1 h2 h3=>nU (fun ex w'=> ?_) (h.2 ι ν S w args hg h1 h2 h3)⟩
 rintro⟨v,ι',S',rfl,hp⟩
 have hrow:=hp.vr.objs 0 (.row e es rows) rfl
 have hv:v=ι' 0:=by
  obtain⟨_,h2⟩:=(show CR _ ι' w' S' (.own 0 m) v from hp.vr.slots 0 _ rfl)
  rcases h2 with⟨e2,es2,rows2,hl,_,hv⟩|hd
  · cases hl;exact hv hm
  · cases hd
 have hmut: ∀b,uZ (ι' 0) b→lC [(dH.t 0,K.v (.e (.c (.own 0 m)))),(.o 0,.row e es rows)] ι' 0 b:=fun b hb=>⟨⟨_,rfl,trivial⟩,hb⟩
 refine⟨v,ι',fun b=>S' b∨uZ (ι' 0) b,rfl,hp.fr,⟨fun s k hk=> ?_,fun o k hk=> ?_,fun o b hm2=> ?_,fun o o' b hm2=> ?_,fun b hb=> ?_⟩,fun b hb=> ?_,fun o b hm2=> ?_,fun o k k' hk hk'=> ?_⟩
 · simp only[aT] at hk
   split at hk
   · rename_i e3;cases e3;cases hk
     show DR w' _ (.sl rows) v
     rw[hv];exact od hrow (fun b h=> .inl h) (fun b h=> .inr h)
   · cases hk
 · simp[aT] at hk
 · obtain⟨⟨k,hk,_⟩,_⟩:=hm2;simp[aT] at hk
 · obtain⟨⟨k,hk,_⟩,_⟩:=hm2;simp[aT] at hk
 · rcases hb with hb|hb
   · exact hp.vr.sz b hb
   · exact OR.lt hrow trivial hb
 · rcases hb with hb|hb
   · exact hp.rd b hb
   · exact .inr (hp.own 0 b (hmut b hb))
 · obtain⟨⟨k,hk,_⟩,_⟩:=hm2;simp[aT] at hk
 · exact(hno o k hk).elim
def goF (P:Program) (T:hO) (io:List Nat) (ops:List Oper):List Oper→St→(St→Prop)→Prop
 | [],σ,k=>k σ
 |o::os,σ,k=>match o.guard with
  |none=>aBr P T io o σ fun σ'=>goF P T io ops os σ' k
  |some (j,want)=>match(ops[j]?).bind (·.dst),o.dst with
   |some s,some d=>match gOf want (aT σ (.t s)) with
    |some g=>(g=true→aBr P T io o σ fun σ'=>goF P T io ops os σ' k)∧(g=false→ ∃X,tf σ (.t d) (.cv s want false X) fun σ'=>goF P T io ops os σ' k)
    |none=>False
   |_,_=>False
theorem ot {P:Program} {T:hO} (hT:dQ P T) {io:List Nat} {ops:Array Oper} {cx:Cx P} (hio: ∀o k,cx.kio o=some k→o∈io) {Q:Exit→Act→World→Prop} {k:St→Prop} (hk: ∀σ ι S a w,k σ→RW cx σ ι S a w→Q .normal a w): ∀(l:List Oper) (σ:St) (ι:Nat→Value) (S:Nat→Prop) (a:Act) (w:World),goF P T io ops.toList l σ k→RW cx σ ι S a w→(∀o∈l,∀d,o.dst=some d→d<cx.N)→wpList P ops Q l a w
 | [],σ,ι,S,a,w,h,hw,hf=>hk σ ι S a w h hw
 |o::os,σ,ι,S,a,w,h,hw,hf=>by
  have hfo:=hf o (List.mem_cons_self ..)
  have hfs: ∀o∈os,∀d,o.dst=some d→d<cx.N:=fun o ho=>hf o (List.mem_cons_of_mem _ ho)
  have run: (aBr P T io o σ fun σ'=>goF P T io ops.toList os σ' k)→o.wp P a w (fun a w=>wpList P ops Q os a w) Q:=fun h=>by
   obtain⟨σ1,hwk,R,Ws,h1,h2,h3⟩:=ro hT h
   obtain⟨ι1,S1,hw1⟩:=hwk _ cx ι S a w hio hw
   refine h1 cx σ1 ι1 S1 a w h2 hw1 hfo _ Q fun W hW ι' S' a' w' hw'=> ?_
   have h3:=h3 W hW
   rw[kX] at h3
   exact ot hT hio hk os _ ι' S' a' w' h3 hw' hfs
  unfold wpList
  simp only[goF] at h
  split at h
  · rename_i hg
    rw[if_pos (by simp[Region.wanted,hg])]
    exact .inl (run h)
  · rename_i j want hg
    split at h<;>try(exact h.elim)
    rename_i s d hs hd
    split at h<;>try(exact h.elim)
    rename_i g hl
    have hs': (ops[j]?).bind (·.dst)=some s:=by simpa using hs
    cases g with
    |true=>
     rw[vf hw hg hs' hl,if_pos rfl]
     exact .inl (run (h.1 rfl))
    |false=>
     obtain⟨X,h2⟩:=h.2 rfl
     rw[pA] at h2
     exact aDf (R:=[]) (X:=X) hg hs' hd hl (by simp) (by simp) cx σ ι S a w zD hw hfo _ Q fun ι' S' a' w' hw'=>ot hT hio hk os _ ι' S' a' w' (by simpa[iN] using h2) hw' hfs
theorem SW.regF {P:Program} {io:List Nat} {Q:Ex→St→Prop} {σ:St} {T:hO} (hT:dQ P T) (ks:List Nat) {id:Nat} {ops:Array Oper} (h:goF P T io ops.toList ops.toList σ fun σ'=>rQ ks σ' (Q .norm)):SW P io (.region id ops false) Q σ:=by
 intro cx ι S a w hio hw hf
 have hfit: ∀o∈ops.toList,∀d,o.dst=some d→d<cx.N:=fun o ho=>yT (by simpa[tN] using hf) ho
 refine wp_region_list (ot hT hio (fun σ' ι' S' a' w' h4 hw'=> ?_) ops.toList σ ι S a w h hw hfit)
 rw[nG] at h4
 exact⟨_,ι',S',h4,hw'.keep ks⟩
set_option linter.unusedVariables false
theorem aOz {R:List (List D)} {i:Nat} {r:List D} (hi:i<R.length) (h:R.getD i []=r):R.set i r=R:=by
 rw[← h,aXe,aXg hi]
 simp
set_option linter.unusedVariables false
structure bA where
 frm:Int
 num:Int
 to:Int
 til:Int
 text:List UInt8
 deriving DecidableEq
structure cA where
 frm:Int
 num:Int
 til:Int
 deriving DecidableEq
def bA.row (n:bA):List D:=[.i n.frm,.i n.num,.i n.to,.i n.til,.s n.text]
def cA.row (n:cA):List D:=[.i n.frm,.i n.num,.i n.til]
abbrev bA.V (n:bA):V:= .e (.agg [.d (.i n.frm),.d (.i n.num),.d (.i n.to),.d (.i n.til),.d (.s n.text)])
abbrev cA.V (n:cA):V:= .e (.agg [.d (.i n.frm),.d (.i n.num),.d (.i n.til)])
def bA.zero:bA:=⟨0,0,0,0,[]⟩
def cA.zero:cA:=⟨0,0,0⟩
def aE (l:List bA):List (List D):=l.map bA.row
def aP (l:List cA):List (List D):=l.map cA.row
theorem aC (l:List bA): (aE l).length=l.length:=by simp[aE]
theorem aN (l:List cA): (aP l).length=l.length:=by simp[aP]
theorem gD (l:List bA): ∀r∈aE l,r.length=5:=by
 intro r hr
 obtain⟨b,_,rfl⟩:=aXk.1 hr
 rfl
theorem lN (l:List cA): ∀r∈aP l,r.length=3:=by
 intro r hr
 obtain⟨b,_,rfl⟩:=aXk.1 hr
 rfl
theorem aQ {l:List bA} {i:Nat} (h:i<l.length): (aE l).getD i []=(l.getD i .zero).row:=by
 rw[aXe,aXe]
 simp[aE,h]
theorem bX {l:List cA} {i:Nat} (h:i<l.length): (aP l).getD i []=(l.getD i .zero).row:=by
 rw[aXe,aXe]
 simp[aP,h]
def vJ (s:List UInt8) (i:Nat):Bool:=iK (jF s i) 32 126
def zH (s:List UInt8):Bool:=(aXj s.length).all (vJ s)&&iK s.length 1 24
def eL (n:bA):Bool:=eR n.frm&&eR n.to&&iK n.num 1 99&&iK n.til 1 999&&zH n.text
def kB (m:cA):Bool:=eR m.frm&&iK m.num 1 99&&iK m.til 1 999
def cE (a b c d:Int):Bool:=decide (a<c)||a==c&&decide (b<d)
def lU (l:List bA) (i:Nat):Bool:=eL (l.getD i .zero)&&(i==0||cE (l.getD (i - 1) .zero).frm (l.getD (i - 1) .zero).num (l.getD i .zero).frm (l.getD i .zero).num)
def kC (l:List bA):Bool:=(aXj l.length).all (lU l)
def mU (l:List cA) (i:Nat):Bool:=kB (l.getD i .zero)&&(i==0||cE (l.getD (i - 1) .zero).frm (l.getD (i - 1) .zero).num (l.getD i .zero).frm (l.getD i .zero).num)
def oK (l:List cA):Bool:=(aXj l.length).all (mU l)
theorem iP {p:Nat→Bool} {n:Nat} (h: ∀k,k<n→p k=true): (aXj n).all p=true:=by
 rw[aXl];intro k hk;exact h k (List.mem_range.1 hk)
theorem fS {p:Nat→Bool} {n k:Nat} (hk:k<n) (h:p k=false): (aXj n).all p=false:=by
 rw[List.all_eq_false];exact⟨k,List.mem_range.2 hk,by simp[h]⟩
def lG (p:Nat→Bool):Nat→Nat→Int
 |_,0=> -1
 |i,n+1=>if p i then i else lG p (i+1) n
theorem mB {p:Nat→Bool}: ∀{n i k:Nat},i≤k→k<i+n→(∀j,i≤j→j<k→p j=false)→p k=true→lG p i n=k
 |0,i,k,h1,h2,_,_=>by omega
 |n+1,i,k,h1,h2,h,hp=>by
  unfold lG
  by_cases e:i=k
  · subst e;rw[if_pos hp]
  · rw[if_neg (by rw[h i (aXi _) (by omega)];simp),mB (n:=n) (i:=i+1) (k:=k) (by omega) (by omega) (fun j h3 h4=>h j (by omega) h4) hp]
theorem mG {p:Nat→Bool}: ∀{n i:Nat},(∀j,i≤j→j<i+n→p j=false)→lG p i n= -1
 |0,i,_=>rfl
 |n+1,i,h=>by
  unfold lG
  rw[if_neg (by rw[h i (aXi _) (by omega)];simp),mG (n:=n) (i:=i+1) fun j h3 h4=>h j (by omega) (by omega)]
theorem gR (p:Nat→Bool): ∀(n i:Nat),lG p i n= -1∨ ∃k:Nat,lG p i n=k∧i≤k∧k<i+n∧p k=true∧ ∀j,i≤j→j<k→p j=false
 |0,i=> .inl rfl
 |n+1,i=>by
  unfold lG
  by_cases h:p i=true
  · rw[if_pos h];exact .inr ⟨i,rfl,aXi _,by omega,h,fun j h1 h2=>by omega⟩
  · rw[if_neg h]
    rcases gR p n (i+1) with h1|⟨k,h1,h2,h3,h4,h5⟩
    · exact .inl h1
    · refine .inr ⟨k,h1,by omega,by omega,h4,fun j h6 h7=> ?_⟩
      by_cases e:j=i
      · subst e;simpa using h
      · exact h5 j (by omega) h7
def nJ (l:List bA) (f n:Int) (i:Nat):Bool:=(l.getD i .zero).frm==f&&(l.getD i .zero).num==n
def rY (l:List cA) (f n:Int) (i:Nat):Bool:=(l.getD i .zero).frm==f&&(l.getD i .zero).num==n
def aS (l:List bA) (f n:Int):Int:=lG (nJ l f n) 0 l.length
def gN (l:List cA) (f n:Int):Int:=lG (rY l f n) 0 l.length
def cq (id:Int) (n:bA):Bool:=id != n.to&&(iK id n.frm n.to||iK id n.to n.frm)
structure bC where
 id:Int
 time:Int
 next:Int
 held:List bA
 marks:List cA
 inbox:List bA
 deriving DecidableEq
def tR (k:bC) (i:Nat):Bool:=
 let n:=k.held.getD i .zero
 !(n.frm==k.id&&decide (k.next≤n.num))&&decide (k.time<n.til)&&cq k.id n&&decide (gN k.marks n.frm n.num<0)
def xD (k:bC) (i:Nat):Bool:=
 let m:=k.marks.getD i .zero
 !(m.frm==k.id&&decide (k.next≤m.num))&&decide (k.time<m.til)
def sQ (k:bC) (i:Nat):Bool:=
 let n:=k.inbox.getD i .zero
 !(n.frm==k.id&&decide (k.next≤n.num))&&n.to==k.id&& !(decide (k.time<n.til)&&decide (gN k.marks n.frm n.num<0))
def dC (k:bC):Bool:=
 eR k.id&&iK k.time 0 999&&iK k.next 1 100&&decide (k.held.length≤6)&&decide (k.marks.length≤12)&&decide (k.inbox.length≤6)&&
 kC k.held&&oK k.marks&&kC k.inbox&&(aXj k.held.length).all (tR k)&&(aXj k.marks.length).all (xD k)&&(aXj k.inbox.length).all (sQ k)
set_option linter.unusedVariables false
def aIn:Nat→Nat→List UInt8
 |0,n=>[UInt8.ofNat (48+n % 10)]
 |f+1,n=>if n<10 then [UInt8.ofNat (48+n)] else aIn f (n / 10)++[UInt8.ofNat (48+n % 10)]
def jZ (n:Nat):List UInt8:=aIn n n
theorem aFy: ∀{f g n:Nat},n≤f→n≤g→aIn f n=aIn g n
 |0,0,n,_,_=>rfl
 |0,g+1,n,h,_=>by
  obtain rfl:n=0:=by omega
  rfl
 |f+1,0,n,_,h=>by
  obtain rfl:n=0:=by omega
  rfl
 |f+1,g+1,n,h1,h2=>by
  unfold aIn
  split
  · rfl
  · rw[aFy (f:=f) (g:=g) (n:=n / 10) (by omega) (by omega)]
theorem nH {n:Nat} (h:n<10):jZ n=[UInt8.ofNat (48+n)]:=by
 unfold jZ
 cases n with
 |zero=>rfl
 |succ k=>unfold aIn;rw[if_pos h]
theorem uG {n:Nat} (h:10≤n):jZ n=jZ (n / 10)++[UInt8.ofNat (48+n % 10)]:=by
 unfold jZ
 cases n with
 |zero=>omega
 |succ k=>
  conv=>lhs;unfold aIn
  rw[if_neg (by omega),aFy (f:=k) (g:=(k+1) / 10) (by omega) (aXi _)]
def gM (b:UInt8):Bool:=decide (48≤b.toNat)&&decide (b.toNat≤57)
def pQ:List UInt8→Nat:=fun l=>l.foldl (fun n b=>n*10+(b.toNat - 48)) 0
theorem en (l:List UInt8) (b:UInt8):pQ (l++[b])=pQ l*10+(b.toNat - 48):=by simp[pQ]
theorem tC {d:Nat} (h:d<10): (UInt8.ofNat (48+d)).toNat=48+d:=by
 rw[UInt8.toNat_ofNat'];omega
theorem wd {d:Nat} (h:d<10):gM (UInt8.ofNat (48+d))=true:=by
 unfold gM
 rw[tC h,aXb,decide_eq_true_eq,decide_eq_true_eq];omega
theorem ky (n:Nat):pQ (jZ n)=n:=by
 induction n using Nat.strongRecOn with
 |_ n ih=>
  by_cases h:n<10
  · rw[nH h]
    show 0*10+((UInt8.ofNat (48+n)).toNat - 48)=n
    rw[tC h];omega
  · rw[uG (by omega),en,ih (n / 10) (by omega),tC (by omega)]
    omega
theorem zI (n:Nat): ∀b∈jZ n,gM b=true:=by
 induction n using Nat.strongRecOn with
 |_ n ih=>
  intro b hb
  by_cases h:n<10
  · rw[nH h] at hb
    rw[aXo] at hb;subst hb
    exact wd h
  · rw[uG (by omega)] at hb
    rcases List.mem_append.1 hb with hb|hb
    · exact ih (n / 10) (by omega) b hb
    · rw[aXo] at hb;subst hb
      exact wd (Nat.mod_lt _ (by decide))
theorem aDq (n:Nat):jZ n≠[]:=by
 by_cases h:n<10
 · rw[nH h];simp
 · rw[uG (by omega)];simp
theorem aO0 (n:Nat): (jZ n).getD 0 0=48→n=0:=by
 induction n using Nat.strongRecOn with
 |_ n ih=>
  intro hb
  by_cases h:n<10
  · rw[nH h] at hb
    have h1:=congrArg UInt8.toNat hb
    simp only[List.getD_cons_zero] at h1
    rw[tC h] at h1
    have: (48:UInt8).toNat=48:=rfl
    omega
  · rw[uG (by omega),aXe,List.getElem?_append_left (List.length_pos_iff.2 (aDq _)),← aXe] at hb
    have:=ih (n / 10) (by omega) hb
    omega
theorem aFz: ∀(n:Nat) (l:List UInt8),l.length=n→l≠[]→(∀b∈l,gM b=true)→(l.getD 0 0=48→l.length=1)→jZ (pQ l)=l
 |0,l,hn,h,_,_=>absurd (List.eq_nil_of_length_eq_zero hn) h
 |n+1,l0,hn,hne,hd,hz=>by
  obtain⟨l,b,rfl⟩: ∃l b,l0=l++[b]:=by
   rcases List.eq_nil_or_concat l0 with h|⟨L,b,h⟩
   · exact absurd h hne
   · exact⟨L,b,by rw[h,List.concat_eq_append]⟩
  have hb:=hd b (by simp)
  simp only[gM,aXb,decide_eq_true_eq] at hb
  have hbb:UInt8.ofNat (48+(b.toNat - 48))=b:=by
   apply UInt8.toNat_inj.1
   rw[UInt8.toNat_ofNat'];omega
  by_cases hl:l=[]
  · subst hl
    show jZ (0*10+(b.toNat - 48))=[b]
    rw[Nat.zero_mul,Nat.zero_add,nH (by omega),hbb]
  · have hlen:0<l.length:=List.length_pos_iff.2 hl
    have hh: (l++[b]).getD 0 0=l.getD 0 0:=by
     rw[aXe,aXe,List.getElem?_append_left hlen]
    have hz2:l.getD 0 0≠48:=fun e=>by
     have:=hz (hh.trans e)
     rw[aW7] at this
     have h9:l.length+1=1:=this
     omega
    have ih2:=aFz n l (by simpa using hn) hl (fun x hx=>hd x (List.mem_append_left _ hx)) (fun e=>absurd e hz2)
    have hv:1≤pQ l:=by
     by_cases h0:pQ l=0
     · rw[h0] at ih2
       rw[← ih2] at hz2
       exact absurd rfl hz2
     · omega
    rw[en,uG (by omega),show(pQ l*10+(b.toNat - 48)) / 10=pQ l by omega,show(pQ l*10+(b.toNat - 48)) % 10=b.toNat - 48 by omega,ih2,hbb]
set_option linter.unusedVariables false
def cr (s:List UInt8):Bool:=s.all gM
def jP (s:List UInt8):Option Nat:=if(1≤s.length∧s.length≤5)∧ ¬(s.getD 0 0=48∧1<s.length)∧cr s=true then some (pQ s) else none
def gW (s:List UInt8):Int:=if(1≤s.length∧s.length≤4)∧cr s=true∧jZ (pQ s)=s then pQ s else -1
theorem wB {s:List UInt8} (h1:1≤s.length) (hd:cr s=true):jZ (pQ s)=s↔ ¬(s.getD 0 0=48∧1<s.length):=by
 have hne:s≠[]:=fun e=>by subst e;simp at h1
 have hd': ∀b∈s,gM b=true:=aXl.1 hd
 constructor
 · rintro e ⟨h2,h3⟩
   have h4:pQ s=0:=aO0 (pQ s) (by rw[e];exact h2)
   rw[h4] at e
   have:s.length=1:=by rw[← e];rfl
   omega
 · intro h
   exact aFz s.length s rfl hne hd' fun h2=>by
    by_cases h3:1<s.length
    · exact absurd ⟨h2,h3⟩ h
    · omega
theorem yA {s:List UInt8} (h:s.length≤4):gW s=match jP s with|some n=>(n:Int)|none=> -1:=by
 unfold gW jP
 by_cases h1:1≤s.length
 · by_cases hd:cr s=true
   · by_cases hw: ¬(s.getD 0 0=48∧1<s.length)
     · rw[if_pos ⟨⟨h1,h⟩,hd,(wB h1 hd).2 hw⟩,if_pos ⟨⟨h1,by omega⟩,hw,hd⟩]
     · rw[if_neg (fun e=>hw ((wB h1 hd).1 e.2.2)),if_neg (fun e=>hw e.2.1)]
   · rw[if_neg (fun e=>hd e.2.1),if_neg (fun e=>hd e.2.2)]
 · rw[if_neg (fun e=>h1 e.1.1),if_neg (fun e=>h1 e.1.1)]
theorem ug: ∀(n:Nat) (s:List UInt8),s.length=n→(∀b∈s,gM b=true)→pQ s<10 ^ n
 |0,s,hn,_=>by rw[List.eq_nil_of_length_eq_zero hn];decide
 |n+1,s0,hn,hd=>by
  obtain⟨s,b,rfl⟩: ∃l b,s0=l++[b]:=by
   rcases List.eq_nil_or_concat s0 with h|⟨L,b,h⟩
   · rw[h] at hn;simp at hn
   · exact⟨L,b,by rw[h,List.concat_eq_append]⟩
  have hb:=hd b (by simp)
  simp only[gM,aXb,decide_eq_true_eq] at hb
  have ih:=ug n s (by simpa using hn) fun x hx=>hd x (List.mem_append_left _ hx)
  rw[en,Nat.pow_succ]
  omega
theorem aL1 {s:List UInt8} {i:Nat} (h:i<s.length):pQ (s.take (i+1))=pQ (s.take i)*10+((s.getD i 0).toNat - 48):=by
 rw[List.take_add_one,aXg h]
 rw[show s[i]=s.getD i 0 by rw[aXe,aXg h];rfl]
 exact en _ _
set_option linter.unusedVariables false
def ct (s:List UInt8):Nat→Nat→Option Nat
 |0,_=>none
 |f+1,i=>if i<s.length then(if s.getD i 0=58 then some i else ct s f (i+1)) else none
def uH (s:List UInt8):Option Nat:=ct s 3 0
def hF (s:List UInt8):Option (List UInt8×Nat):=
 match uH s with
 |none=>none
 |some i=>match jP (s.take i) with
  |none=>none
  |some n=>if 1≤n∧n≤60∧i+2+n≤s.length∧s.getD (i+1+n) 0=59 then some ((s.take (i+1+n)).drop (i+1),i+2+n) else none
theorem wC {s:List UInt8}: ∀{f i k:Nat},ct s f i=some k→i≤k∧k<i+f∧k<s.length∧s.getD k 0=58∧ ∀j,i≤j→j<k→s.getD j 0≠58
 |0,i,k,h=>by cases h
 |f+1,i,k,h=>by
  unfold ct at h
  split at h
  · rename_i h1
    split at h
    · rename_i h2
      cases h
      exact⟨aXi _,by omega,h1,h2,fun j h3 h4=>by omega⟩
    · rename_i h2
      obtain⟨q1,q2,q3,q4,q5⟩:=wC h
      refine⟨by omega,by omega,q3,q4,fun j h3 h4=> ?_⟩
      by_cases e:j=i
      · subst e;exact h2
      · exact q5 j (by omega) h4
  · cases h
theorem ep {s:List UInt8}: ∀{f i k:Nat},i≤k→k<i+f→k<s.length→s.getD k 0=58→(∀j,i≤j→j<k→s.getD j 0≠58)→ct s f i=some k
 |0,i,k,h1,h2,_,_,_=>by omega
 |f+1,i,k,h1,h2,h3,h4,h5=>by
  unfold ct
  rw[if_pos (by omega)]
  by_cases e:i=k
  · subst e;rw[if_pos h4]
  · rw[if_neg (h5 i (aXi _) (by omega))]
    exact ep (by omega) (by omega) h3 h4 fun j h6 h7=>h5 j (by omega) h7
theorem aBz {s:List UInt8}: ∀{f i:Nat},(∀j,i≤j→j<i+f→j<s.length→s.getD j 0≠58)→ct s f i=none
 |0,i,_=>rfl
 |f+1,i,h=>by
  unfold ct
  split
  · rename_i h1
    rw[if_neg (h i (aXi _) (by omega) h1)]
    exact aBz fun j h2 h3=>h j (by omega) (by omega)
  · rfl
theorem nX {s r:List UInt8} {n:Nat} (h:hF s=some (r,n)):3≤n∧n≤s.length∧n≤64∧r.length≤60∧1≤r.length:=by
 unfold hF at h
 split at h
 · cases h
 · rename_i i hi
   obtain⟨q1,q2,q3,q4,q5⟩:=wC hi
   split at h
   · cases h
   · rename_i m hm
     split at h
     · rename_i hc
       cases h
       have h1:1≤(s.take i).length:=by
        unfold jP at hm
        split at hm
        · rename_i h9;exact h9.1.1
        · cases hm
       rw[aXc] at h1
       refine⟨by omega,by omega,by omega,?_,?_⟩<;>rw[aXf,aXc]<;>omega
     · cases h
def fw:Nat→List UInt8→List (List UInt8)×Nat
 |0,_=>([],0)
 |f+1,s=>match hF s with
  |none=>([],0)
  |some (r,n)=>(r::(fw f (s.drop n)).1,n+(fw f (s.drop n)).2)
def bM (s:List UInt8):List (List UInt8)×Nat:=fw s.length s
theorem kY:hF []=none:=rfl
theorem ou: ∀{f g:Nat} {s:List UInt8},s.length≤f→s.length≤g→fw f s=fw g s
 |0,0,s,_,_=>rfl
 |0,g+1,s,h,_=>by
  obtain rfl:s=[]:=List.eq_nil_of_length_eq_zero (by omega)
  simp[fw,kY]
 |f+1,0,s,_,h=>by
  obtain rfl:s=[]:=List.eq_nil_of_length_eq_zero (by omega)
  simp[fw,kY]
 |f+1,g+1,s,h1,h2=>by
  unfold fw
  cases hr:hF s with
  |none=>rfl
  |some p=>
   obtain⟨r,n⟩:=p
   have:=nX hr
   have e:=ou (f:=f) (g:=g) (s:=s.drop n) (by rw[aXf];omega) (by rw[aXf];omega)
   simp only[e]
theorem eG {s:List UInt8} (h:hF s=none):bM s=([],0):=by
 unfold bM
 cases s with
 |nil=>rfl
 |cons b t=>simp[fw,h]
theorem hZ {s r:List UInt8} {n:Nat} (h:hF s=some (r,n)):bM s=(r::(bM (s.drop n)).1,n+(bM (s.drop n)).2):=by
 have h1:=nX h
 unfold bM
 rw[ou (f:=s.length) (g:=(s.length - 1)+1) (aXi _) (by omega)]
 conv=>lhs;unfold fw
 rw[h]
 simp only
 rw[ou (f:=s.length - 1) (g:=(s.drop n).length) (by rw[aXf];omega) (aXi _)]
theorem qP: ∀(k:Nat) (s:List UInt8),s.length≤k→(bM s).2≤s.length∧(bM s).1.length≤s.length
 |0,s,h=>by
  obtain rfl:s=[]:=List.eq_nil_of_length_eq_zero (by omega)
  rw[eG kY];simp
 |k+1,s,h=>by
  cases hr:hF s with
  |none=>rw[eG hr];simp
  |some p=>
   obtain⟨r,n⟩:=p
   have h1:=nX hr
   have ih:=qP k (s.drop n) (by rw[aXf];omega)
   rw[aXf] at ih
   rw[hZ hr]
   simp only[aW9]
   omega
def dA (log:List UInt8) (forced:Int):Bool:=
 decide (log.length≤2400)&&iK forced 0 log.length&&decide ((bM log).2=log.length)&&decide (((bM (log.take forced.toNat)).2:Int)=forced)
set_option linter.unusedVariables false
theorem uI {l:List bA} {i:Nat} {E c:Bool} (h: (!eL (l.getD i .zero)||decide ((i:Int)>0)&& !E)=c) (hE:0<i→E=cE (l.getD (i - 1) .zero).frm (l.getD (i - 1) .zero).num (l.getD i .zero).frm (l.getD i .zero).num):lU l i= !c:=by
 subst h
 unfold lU
 by_cases h0:i=0
 · subst h0;simp
 · rw[hE (by omega)]
   have h1:decide ((i:Int)>0)=true:=decide_eq_true (by omega)
   have h2: (i==0)=false:=by simpa using h0
   rw[h1,h2,Bool.true_and,Bool.false_or,Bool.not_or,Bool.not_not,Bool.not_not]
theorem uJ {l:List cA} {i:Nat} {E c:Bool} (h: (!kB (l.getD i .zero)||decide ((i:Int)>0)&& !E)=c) (hE:0<i→E=cE (l.getD (i - 1) .zero).frm (l.getD (i - 1) .zero).num (l.getD i .zero).frm (l.getD i .zero).num):mU l i= !c:=by
 subst h
 unfold mU
 by_cases h0:i=0
 · subst h0;simp
 · rw[hE (by omega)]
   have h1:decide ((i:Int)>0)=true:=decide_eq_true (by omega)
   have h2: (i==0)=false:=by simpa using h0
   rw[h1,h2,Bool.true_and,Bool.false_or,Bool.not_or,Bool.not_not,Bool.not_not]
theorem fG {i:Nat} (h:0<i) (hl:i≤1000000):wrap64 ((i:Int) - 1)=((i - 1:Nat):Int):=by
 rw[aB (by omega)];omega
end Go.Ab
namespace Go.Ab
open Int renaming toNat_natCast→aW6,tmod→aXm
open List renaming length_append→aW7,length_cons→aW9,length_nil→aXa,length_take→aXc,getD_eq_getElem?_getD→aXe,length_drop→aXf,getElem?_eq_getElem→aXg,getElem?_eq_some_iff→aXh,range→aXj,mem_map→aXk,all_eq_true→aXl,take_length→aXn,mem_singleton→aXo,mem_iff_getElem?→aXq,mem_cons→aXr
open Nat renaming le_of_ble_eq_true→aW8,zero_le→aXd,le_refl→aXi,add_mul→aXp
open Bool renaming and_eq_true→aXb
open Go Go.RowKit
abbrev bC.V (k:bC):V:= .e (.agg [.d (.i k.id),.d (.i k.time),.d (.i k.next),.d (.sl (aE k.held)),.d (.sl (aP k.marks)),.d (.sl (aE k.inbox))])
theorem aB0 (a b:Int):decide (a≥b)= !decide (a<b):=by
 by_cases h:a<b
 · simp[h,Int.not_le.2 h]
 · simp[h,Int.not_lt.1 h]
theorem zJ {k:bC} {i:Nat} {c:Bool} (h: ((k.held.getD i .zero).frm==k.id&&decide ((k.held.getD i .zero).num≥k.next)||decide ((k.held.getD i .zero).til≤k.time)|| !cq k.id (k.held.getD i .zero)||decide (gN k.marks (k.held.getD i .zero).frm (k.held.getD i .zero).num≥0))=c):tR k i= !c:=by
 subst h
 unfold tR
 simp only[aB0,Bool.not_or,Bool.not_not]
theorem zK {k:bC} {i:Nat} {c:Bool} (h: ((k.marks.getD i .zero).frm==k.id&&decide ((k.marks.getD i .zero).num≥k.next)||decide ((k.marks.getD i .zero).til≤k.time))=c):xD k i= !c:=by
 subst h
 unfold xD
 simp only[aB0,Bool.not_or,Bool.not_not]
theorem wD {k:bC} {i:Nat} {c:Bool} (h: ((k.inbox.getD i .zero).frm==k.id&&decide ((k.inbox.getD i .zero).num≥k.next)||(k.inbox.getD i .zero).to != k.id||decide ((k.inbox.getD i .zero).til>k.time)&&decide (gN k.marks (k.inbox.getD i .zero).frm (k.inbox.getD i .zero).num<0))=c):sQ k i= !c:=by
 subst h
 unfold sQ
 simp only[aB0,Bool.not_or,Bool.not_not,bne,gt_iff_lt]
theorem cB (k:bC):dC k=true↔(eR k.id=true∧(0≤k.time∧k.time≤999)∧(1≤k.next∧k.next≤100)∧k.held.length≤6∧k.marks.length≤12∧k.inbox.length≤6)∧(kC k.held=true∧oK k.marks=true∧kC k.inbox=true)∧
 (aXj k.held.length).all (tR k)=true∧(aXj k.marks.length).all (xD k)=true∧(aXj k.inbox.length).all (sQ k)=true:=by
 simp only[dC,iK,aXb,decide_eq_true_eq]
 constructor
 · rintro⟨⟨⟨⟨⟨⟨⟨⟨⟨⟨⟨h1,h2⟩,h3⟩,h4⟩,h5⟩,h6⟩,h7⟩,h8⟩,h9⟩,h10⟩,h11⟩,h12⟩
   exact⟨⟨h1,h2,h3,h4,h5,h6⟩,⟨h7,h8,h9⟩,h10,h11,h12⟩
 · rintro⟨⟨h1,h2,h3,h4,h5,h6⟩,⟨h7,h8,h9⟩,h10,h11,h12⟩
   exact⟨⟨⟨⟨⟨⟨⟨⟨⟨⟨⟨h1,h2⟩,h3⟩,h4⟩,h5⟩,h6⟩,h7⟩,h8⟩,h9⟩,h10⟩,h11⟩,h12⟩
theorem oL {k:bC} (h: ¬dC k=true):dC k=false:=by simpa using h
set_option linter.unusedVariables false
theorem aKi (n:Nat): (jZ n).length≤n+1:=by
 induction n using Nat.strongRecOn with
 |_ n ih=>
  by_cases h:n<10
  · rw[nH h];simp
  · rw[uG (by omega),aW7]
    have:=ih (n / 10) (by omega)
    simp only[aW9,aXa];omega
theorem aF0 {d:Nat} (h:d<10):u8 (wrap64 (48+(d:Int)))=UInt8.ofNat (48+d):=by
 rw[aB (by omega)]
 apply UInt8.toNat_inj.1
 have h1:=aFu (48+(d:Int))
 rw[tC h]
 unfold iW at h1
 omega
theorem rx {s:List UInt8} {i:Nat} (h: ∀k,k<i→gM (s.getD k 0)=true) (hi:i≤s.length): ∀b∈s.take i,gM b=true:=by
 intro b hb
 obtain⟨k,hk⟩:=aXq.1 hb
 have hlt:k<i:=by
  have:=(aXh.1 hk).1
  rw[aXc] at this;omega
 rw[List.getElem?_take_of_lt hlt] at hk
 have:=h k hlt
 rw[aXe,hk] at this
 exact this
theorem aB1 {s:List UInt8} (h: ∀k,k<s.length→gM (s.getD k 0)=true):cr s=true:=by
 have:=rx h (aXi _)
 rw[aXn] at this
 exact aXl.2 this
theorem we {s:List UInt8} {k:Nat} (hk:k<s.length) (h:gM (s.getD k 0)=false):cr s=false:=by
 unfold cr
 rw[List.all_eq_false]
 refine⟨s.getD k 0,?_,by rw[h];decide⟩
 rw[aXe,aXg hk]
 exact List.getElem_mem _
theorem wg (s:List UInt8) (i:Nat):gM (s.getD i 0)=iK (jF s i) 48 57:=by
 unfold gM iK jF
 congr 1<;>(apply decide_eq_decide.2;omega)
theorem aF1 {s:List UInt8} {i a:Nat} (hi:i<s.length) (hd:gM (s.getD i 0)=true) (ha:pQ (s.take i)=a) (hb:a<1000000):
 wrap64 (wrap64 (10*(a:Int))+wrap64 (iW (((s.getD i 0).toNat:Int) - 48)))=(pQ (s.take (i+1)):Nat)∧wrap64 (wrap64 ((a:Int)*10)+wrap64 (iW (((s.getD i 0).toNat:Int) - 48)))=(pQ (s.take (i+1)):Nat):=by
 rw[aL1 hi,ha]
 simp only[gM,aXb,decide_eq_true_eq] at hd
 have h8:iW (((s.getD i 0).toNat:Int) - 48)=((s.getD i 0).toNat:Int) - 48:=by unfold iW;omega
 rw[h8,aB (n:=((s.getD i 0).toNat:Int) - 48) (by omega),aB (n:=10*(a:Int)) (by omega),aB (n:=(a:Int)*10) (by omega),aB (by omega),aB (by omega)]
 omega
theorem ov {s:List UInt8} {i:Nat} (h: ∀k,k<i→gM (s.getD k 0)=true) (hi:i≤s.length) (h5:i≤5):pQ (s.take i)<100000:=
 Nat.lt_of_lt_of_le (ug i (s.take i) (by rw[aXc];omega) (rx h hi)) (Nat.pow_le_pow_right (by decide) h5)
set_option linter.unusedVariables false
theorem zL (t:List UInt8): -1≤gW t∧gW t≤9999:=by
 unfold gW
 split
 · rename_i h
   have h1:=ug t.length t rfl (aXl.1 h.2.1)
   have h2:10 ^ t.length≤10 ^ 4:=Nat.pow_le_pow_right (by decide) h.1.2
   have h3: (10:Nat) ^ 4=10000:=rfl
   omega
 · omega
theorem aO1 {s:List UInt8} {i:Nat} (hc:uH s=some i):
 hF s=if 1≤gW (s.take i)∧gW (s.take i)≤60∧i+2+(gW (s.take i)).toNat≤s.length∧s.getD (i+1+(gW (s.take i)).toNat) 0=59 then some ((s.take (i+1+(gW (s.take i)).toNat)).drop (i+1),i+2+(gW (s.take i)).toNat) else none:=by
 obtain⟨q1,q2,q3,q4,q5⟩:=wC hc
 have hd:=yA (s:=s.take i) (by rw[aXc];omega)
 unfold hF
 rw[hc]
 simp only
 cases hn:jP (s.take i) with
 |none=>
  rw[hn] at hd
  simp only at hd
  rw[if_neg (by omega)]
 |some n=>
  rw[hn] at hd
  simp only at hd
  rw[hd]
  simp only[aW6]
  by_cases h:1≤n∧n≤60∧i+2+n≤s.length∧s.getD (i+1+n) 0=59
  · rw[if_pos h,if_pos ⟨by omega,by omega,h.2.2.1,h.2.2.2⟩]
  · rw[if_neg h,if_neg (fun e=>h ⟨by omega,by omega,e.2.2.1,e.2.2.2⟩)]
def aL2 (s:List UInt8):List UInt8:=match hF s with|some p=>p.1|none=>[]
def aDr (s:List UInt8):Nat:=match hF s with|some p=>p.2|none=>0
theorem aB2 {s:List UInt8}:aDr s=0↔hF s=none:=by
 unfold aDr
 cases h:hF s with
 |none=>simp
 |some p=>
  obtain⟨r,n⟩:=p
  have:=nX h
  simp;omega
theorem kz {s:List UInt8} (h: ∀j,j<3→j<s.length→s.getD j 0≠58):uH s=none:=aBz fun j _ h2 h3=>h j (by omega) h3
theorem wh {s:List UInt8} {i:Nat} (h3:i<3) (hi:i<s.length) (hc:s.getD i 0=58) (h: ∀j,j<i→s.getD j 0≠58):uH s=some i:=ep (aXd _) (by omega) hi hc fun j _ h2=>h j h2
theorem fy {s:List UInt8} (h:uH s=none):hF s=none:=by unfold hF;rw[h]
set_option linter.unusedVariables false
def jB (t:List UInt8):Int:=match jP t with|some n=>(n:Int)|none=>0
theorem aIo (t:List UInt8):0≤jB t∧jB t≤99999:=by
 unfold jB jP
 split
 · rename_i n h
   split at h
   · rename_i hc
     cases h
     have h1:=ug t.length t rfl (aXl.1 hc.2.2)
     have h2:10 ^ t.length≤10 ^ 5:=Nat.pow_le_pow_right (by decide) hc.1.2
     have h3: (10:Nat) ^ 5=100000:=rfl
     omega
   · cases h
 · omega
theorem aO2 (s:List UInt8) (a i:Nat): (s.take (a+i)).drop a=(s.drop a).take i:=by
 rw[List.drop_take];congr 1;omega
theorem yB (s:List UInt8) (a j:Nat): (s.drop a).getD j 0=s.getD (a+j) 0:=by
 rw[aXe,aXe,List.getElem?_drop]
theorem aL3 {t:List UInt8} (h3:t.length=3) {n:Nat} (h:jP t=some n):100≤n:=by
 unfold jP at h
 split at h
 · rename_i hc
   cases h
   match t,h3 with
   | [x,y,z],_=>
    have hd:=aXl.1 hc.2.2
    have hx:=hd x (by simp)
    simp only[gM,aXb,decide_eq_true_eq] at hx
    have hx0:x≠48:=fun e=>hc.2.1 ⟨e,by simp⟩
    have hx1:x.toNat≠48:=fun e=>hx0 (UInt8.toNat_inj.1 e)
    show 100≤((0*10+(x.toNat - 48))*10+(y.toNat - 48))*10+(z.toNat - 48)
    omega
 · cases h
section
variable {s:List UInt8} {a c:Nat}
theorem yC (hk: ∀j,a≤j→j<c→s.getD j 0≠58) (h:s.length≤c∨a+3≤c):hF (s.drop a)=none:=by
 refine fy (kz fun j h3 hj=> ?_)
 rw[aXf] at hj
 rw[yB]
 exact hk (a+j) (by omega) (by omega)
theorem aRk (ha:a≤c) (hk: ∀j,a≤j→j<c→s.getD j 0≠58) (h3:c<a+3) (hc:c<s.length) (h58:s.getD c 0=58):uH (s.drop a)=some (c - a):=by
 refine wh (by omega) (by rw[aXf];omega) (by rw[yB,show a+(c - a)=c by omega];exact h58) fun j hj=> ?_
 rw[yB]
 exact hk (a+j) (by omega) (by omega)
def aU1 (s:List UInt8) (a c:Nat):Prop:= ∃n,jP ((s.take c).drop a)=some n∧1≤n∧n≤60∧c+1+n<s.length∧s.getD (c+1+n) 0=59
theorem aO3 (ha:a≤c) (hk: ∀j,a≤j→j<c→s.getD j 0≠58) (h3:c≤a+3) (hc:c<s.length) (h58:s.getD c 0=58):
 (¬aU1 s a c→hF (s.drop a)=none)∧(∀n,jP ((s.take c).drop a)=some n→1≤n→n≤60→c+1+n<s.length→s.getD (c+1+n) 0=59→hF (s.drop a)=some ((s.take (c+1+n)).drop (c+1),c+2+n - a)):=by
 have hcut: (s.take c).drop a=(s.drop a).take (c - a):=by rw[← aO2,show a+(c - a)=c by omega]
 have hlen: ((s.take c).drop a).length=c - a:=by rw[aXf,aXc];omega
 by_cases h4:c=a+3
 · have hno:hF (s.drop a)=none:=yC hk (.inr (by omega))
   refine⟨fun _=>hno,fun n h1 h2 h5 h6 h7=> ?_⟩
   have:=aL3 (by rw[hlen];omega) h1
   omega
 · have hcol:=aRk ha hk (by omega) hc h58
   have key: ∀n,jP ((s.take c).drop a)=some n→1≤n→n≤60→c+1+n<s.length→s.getD (c+1+n) 0=59→hF (s.drop a)=some ((s.take (c+1+n)).drop (c+1),c+2+n - a):=by
    intro n h1 h2 h5 h6 h7
    unfold hF
    rw[hcol]
    simp only
    rw[← hcut,h1]
    simp only
    rw[if_pos ⟨h2,h5,by rw[aXf];omega,by rw[yB,show a+(c - a+1+n)=c+1+n by omega];exact h7⟩]
    congr 2
    · rw[← aO2,List.drop_drop,show a+(c - a+1+n)=c+1+n by omega,show a+(c - a+1)=c+1 by omega]
    · omega
   refine⟨fun hno=> ?_,key⟩
   unfold hF
   rw[hcol]
   simp only
   rw[← hcut]
   cases hn:jP ((s.take c).drop a) with
   |none=>rfl
   |some n=>
    simp only
    rw[if_neg]
    rintro⟨h1,h2,h5,h6⟩
    rw[aXf] at h5
    rw[yB,show a+(c - a+1+n)=c+1+n by omega] at h6
    exact hno ⟨n,hn,h1,h2,by omega,h6⟩
end
open Go Go.RowKit Go.Sort
set_option linter.unusedVariables false
set_option linter.unusedSimpArgs false
theorem lc {P:Program} {f:FuncId} {ds:List D} {X:V} (hc:ie P f) (h: ∀(S:Nat→Prop) (w:World) (args:Array Value),aK3 P w→args.size=ds.length→(∀(i:Nat) d v,ds[i]? =some d→args[i]? =some v→DR w S d v)→
 Calls P f args w fun e w'=> ∃v S',e= .returned v∧Fr (fun _=>False) w w'∧(∀σ ι,lZ σ ι w' S' X v)∧ ∀b,S' b→w.heap.size≤b∧b<w'.heap.size):Spec P f ds.length (eV 0 (ds.map Dv)) [(.t 0,.v X)]:=by
 refine⟨hc,fun ι ν S w args hgb hvr hsz hargs=>nU (fun e w'=> ?_) (h S w args (hgb w (Fr.refl _ _)) hsz fun i d v hi hv=> ?_)⟩
 · rintro⟨v,S',rfl,hfr,hx,hS⟩
   refine⟨v,fun _=>undef,S',rfl,hfr.weak (fun _ h=>h.elim),⟨fun s k hk=> ?_,fun o k hk=> ?_,fun o b hm2=> ?_,fun o o' b hm2=> ?_,fun b hb=>(hS b hb).2⟩,fun b hb=> .inr (.inl (hS b hb).1),fun o b hm2=> ?_,fun o k k' hk hk'=> ?_⟩
   · simp only[aT] at hk
     split at hk
     · rename_i e3;cases e3;cases hk;exact hx _ _
     · cases hk
   · simp[aT] at hk
   · obtain⟨⟨k,hk,_⟩,_⟩:=hm2;simp[aT] at hk
   · obtain⟨⟨k,hk,_⟩,_⟩:=hm2;simp[aT] at hk
   · obtain⟨⟨k,hk,_⟩,_⟩:=hm2;simp[aT] at hk
   · simp[aT] at hk'
 · have hlt:i<ds.length:=(aXh.1 hi).1
   have hv2:=hargs i hlt
   rw[hv] at hv2
   cases hv2
   have hl:aT (eV 0 (ds.map Dv)) (.t i)=some (.v (Dv d)):=by
    have:=pO 0 (ds.map Dv) [] i (aXd _) (by simpa using hlt)
    rw[List.append_nil] at this
    rw[this];simp[hi]
   exact hvr.slots i _ hl
theorem aKj (w:World) (k:Nat):Fr (fun _=>False) w (w.drewN k):=⟨rfl,rfl,rfl,aXi _,fun _ _ _=>rfl⟩
theorem aDs (w:World) (os:Array Obj):Fr (fun _=>False) w (grow w os):=
 ⟨rfl,rfl,rfl,by simp[grow],fun b hb _=>by simp[grow,Array.getElem?_append_left hb]⟩
theorem ow {P:Program} {w:World} (h:aK3 P w) {g:Nat} (hg:P.globalNamed "internal/bytealg.MaxLen" =some g): ∃m,w.cell? ⟨g,0,none⟩=some (.int .i64 m):=by
 obtain⟨_,m,hm⟩:=h
 refine⟨m,?_⟩
 unfold World.var? at hm
 rw[hg] at hm
 simp only[Option.bind_some] at hm
 split at hm
 · rename_i cs t fz hh
   cases hm
   unfold World.cell?
   simp[hh]
 · cases hm
theorem bytesOf (l:List UInt8): (⟨l.toArray⟩:ByteArray).data.toList=l:=rfl
theorem DR.s_inv {w:World} {S:Nat→Prop} {l:List UInt8} {v:Value} (h:DR w S (.s l) v):v= .string ⟨l.toArray⟩:=by cases h;rfl
theorem DR.i_inv {w:World} {S:Nat→Prop} {n:Int} {v:Value} (h:DR w S (.i n) v):v= .int .i64 n:=by cases h;rfl
theorem aRl (n:Nat):Lib.decDigits n=jZ n:=by
 induction n using Nat.strongRecOn with
 |_ n ih=>
  unfold Lib.decDigits
  by_cases h:n<10
  · rw[dif_pos h,nH h]
  · rw[dif_neg h,uG (by omega),ih (n / 10) (by omega)]
theorem aL4 {P:Program} {f:FuncId} (hc:ie P f) (n:Nat) (hn:n≤1000000)
 (h: ∀(w:World),Lib.TabIs P w "internal/strconv.uint64pow10" .u64 Lib.pow10Tab→Calls P f #[.int .i64 n] w fun e w'=>e= .returned (.string ⟨(Lib.itoa n).toArray⟩)∧ ∃k os,w'=grow (w.drewN k) os):
 Spec P f 1 [(.t 0,.v (I n))] [(.t 0,.v (Dv (.s (jZ n))))]:=by
 refine lc (ds:=[.i n]) hc fun S w args hg hsz ha=> ?_
 have ha0:=ha 0 (.i n) (args[0]'(by rw[hsz];simp)) rfl (Array.getElem?_eq_getElem (by rw[hsz];simp))
 have e:args= #[.int .i64 n]:=by
  apply Array.ext
  · rw[hsz];rfl
  · intro i h1 h2
    have:i=0:=by have:i<1:=by simpa using h2
                 omega
    subst this
    exact ha0.i_inv
 subst e
 refine nU (fun e w'=> ?_) (h w hg.1)
 rintro⟨rfl,k,os,rfl⟩
 have e2:Lib.itoa (n:Int)=jZ n:=by
  unfold Lib.itoa
  rw[if_neg (by omega),aW6,aRl]
 exact⟨_,fun _=>False,rfl,(aKj w k).trans (aDs _ os) (fun _ _ h=>h),fun σ ι=>by rw[e2];exact DR.s _,fun b hb=>hb.elim⟩
def bH (s:List UInt8):List UInt8:=s.takeWhile (· != 32)
def aO (s:List UInt8):List UInt8:=(s.dropWhile (· != 32)).drop 1
def fX (s:List UInt8):Bool:=s.any (· ==32)
def iU:Nat→List UInt8→List (List UInt8)
 |0,s=>[s]
 |n+1,s=>if fX s then bH s::iU n (aO s) else [s]
theorem fY: ∀(s:List UInt8),(fX s=true→Lib.indexByte s 32=(bH s).length∧s.take (bH s).length=bH s∧s.drop ((bH s).length+1)=aO s∧(bH s).length<s.length)∧(fX s=false→Lib.indexByte s 32= -1∧bH s=s∧aO s=[])
 | []=>⟨fun h=>by simp[fX] at h,fun _=>⟨rfl,rfl,rfl⟩⟩
 |b::l=>by
  obtain⟨h1,h2⟩:=fY l
  unfold Lib.indexByte
  by_cases hb:b=32
  · subst hb
    refine⟨fun _=> ?_,fun h=>by simp[fX] at h⟩
    simp[bH,aO]
  · have e1:fX (b::l)=fX l:=by simp[fX,hb]
    have e2:bH (b::l)=b::bH l:=by simp[bH,hb]
    have e3:aO (b::l)=aO l:=by simp[aO,hb]
    rw[if_neg (by simpa using hb),e1,e2,e3]
    refine⟨fun h=> ?_,fun h=> ?_⟩
    · obtain⟨q1,q2,q3,q4⟩:=h1 h
      rw[q1,if_neg (by simp)]
      refine⟨by simp,by simp[q2],by simpa using q3,by simpa using q4⟩
    · obtain⟨q1,q2,q3⟩:=h2 h
      rw[q1,if_pos (by decide)]
      exact⟨rfl,by rw[q2],q3⟩
theorem aRm (s:List UInt8):Lib.cut s [32]=(bH s,aO s,fX s):=by
 obtain⟨h1,h2⟩:=fY s
 unfold Lib.cut
 rw[Lib.index_one]
 cases h:fX s with
 |true=>
  obtain⟨q1,q2,q3,q4⟩:=h1 h
  rw[q1,if_pos (by omega),aW6,q2]
  show(_,List.drop ((bH s).length+1) s,_)=_
  rw[q3]
 |false=>
  obtain⟨q1,q2,q3⟩:=h2 h
  rw[q1,if_neg (by decide),q2,q3]
theorem aB3: ∀(n:Nat) (s:List UInt8),Lib.splitK [32] 0 n s=iU n s
 |0,s=>rfl
 |n+1,s=>by
  obtain⟨h1,h2⟩:=fY s
  unfold Lib.splitK iU
  rw[Lib.index_one]
  cases h:fX s with
  |true=>
   obtain⟨q1,q2,q3,q4⟩:=h1 h
   rw[q1,if_neg (by simp),if_pos rfl,aW6,Nat.add_zero,q2]
   show _::Lib.splitK [32] 0 n (List.drop ((bH s).length+1) s)=_
   rw[q3,aB3 n]
  |false=>
   obtain⟨q1,q2,q3⟩:=h2 h
   rw[q1,if_pos (by decide),if_neg (by simp)]
theorem aO4 {P:Program} {f:FuncId} (hc:ie P f) (s:List UInt8) (hs:s.length≤1000000)
 (h: ∀(w:World),aK3 P w→Calls P f #[.string ⟨s.toArray⟩,.string ⟨#[32]⟩] w fun e w'=>e= .returned (.tuple #[.string ⟨(Lib.cut s [32]).1.toArray⟩,.string ⟨(Lib.cut s [32]).2.1.toArray⟩,.bool (Lib.cut s [32]).2.2])∧ ∃n,w'=w.drewN n):
 Spec P f 2 [(.t 0,.v (Dv (.s s))),(.t 1,.v (Dv (.s [32])))] [(.t 0,.v (.tup [.c (.d (.s (bH s))),.c (.d (.s (aO s))),.c (.d (.b (fX s)))]))]:=by
 refine lc (ds:=[.s s,.s [32]]) hc fun S w args hg hsz ha=> ?_
 have ha0:=ha 0 (.s s) (args[0]'(by rw[hsz];simp)) rfl (Array.getElem?_eq_getElem (by rw[hsz];simp))
 have ha1:=ha 1 (.s [32]) (args[1]'(by rw[hsz];simp)) rfl (Array.getElem?_eq_getElem (by rw[hsz];simp))
 have e:args= #[.string ⟨s.toArray⟩,.string ⟨#[32]⟩]:=by
  apply Array.ext
  · rw[hsz];rfl
  · intro i h1 h2
    have:i=0∨i=1:=by have:i<2:=by simpa using h2
                     omega
    rcases this with rfl|rfl
    · exact ha0.s_inv
    · exact ha1.s_inv
 subst e
 refine nU (fun e w'=> ?_) (h w hg)
 rintro⟨rfl,n,rfl⟩
 rw[aRm]
 refine⟨_,fun _=>False,rfl,aKj w n,fun σ ι=>⟨[.string ⟨(bH s).toArray⟩,.string ⟨(aO s).toArray⟩,.bool (fX s)],rfl,rfl,fun k x u hx hu=> ?_⟩,fun b hb=>hb.elim⟩
 match k,hx,hu with
 |0,hx,hu=>cases hx;cases hu;exact DR.s _
 |1,hx,hu=>cases hx;cases hu;exact DR.s _
 |2,hx,hu=>cases hx;cases hu;exact DR.b _
 |k+3,hx,hu=>simp at hx
theorem aKk (w:World) (l:List (List UInt8)) (cs:Array Value) (e:TypeId) (cap:Nat) (hl:l.length≤cap) (hm:cap≤maxLen) (hcs: ∀(i:Nat) x,l[i]? =some x→cs[i]? =some (.string ⟨x.toArray⟩)):
 DR (w.alloc (.cells cs e)) (fun b=>b=w.heap.size) (.sl (bB l)) (.slice (some ⟨w.heap.size,0,none⟩) l.length cap):=by
 have hh: (w.alloc (.cells cs e)).heap[w.heap.size]? =some (.cells cs e (0,0)):=heap_alloc_new w _
 have:=DR.sl (w:=w.alloc (.cells cs e)) (S:=fun b=>b=w.heap.size) (bB l) (some ⟨w.heap.size,0,none⟩) cap 1 ⟨w.heap.size,0,none⟩ (fun i k=> .string ⟨(l.getD i []).toArray⟩)
  (by rw[aL];exact hl) hm (zG l) (fun _=>rfl) (fun i r k d hi hk=> ?_) (fun i r k d hi hk=> ?_)
 · rw[aL] at this;exact this
 · have hi2:i<l.length:=by have:=(aXh.1 hi).1;rwa [aL] at this
   have hr:r=[.s (l.getD i [])]:=by
    have h1:=fV hi2
    rw[aXe,hi] at h1
    exact h1
   subst hr
   have hk0:k=0:=by have:=(aXh.1 hk).1;simp at this;exact this
   subst hk0
   refine⟨rfl,?_⟩
   rw[lK,cell_of_row _ _ _ cs e (0,0) hh]
   rw[show 0+(i*1+0)=i by omega]
   exact hcs i (l.getD i []) (by rw[aXe,aXg hi2];rfl)
 · have hi2:i<l.length:=by have:=(aXh.1 hi).1;rwa [aL] at this
   have hr:r=[.s (l.getD i [])]:=by
    have h1:=fV hi2
    rw[aXe,hi] at h1
    exact h1
   subst hr
   have hk0:k=0:=by have:=(aXh.1 hk).1;simp at this;exact this
   subst hk0
   cases hk
   exact DR.s _
theorem oz {s:List UInt8} (h:fX s=true): (aO s).length<s.length:=by
 obtain⟨q1,q2,q3,q4⟩:=(fY s).1 h
 rw[← q3,aXf];omega
theorem tE (s:List UInt8):Lib.count s [32]=if fX s=true then 1+Lib.count (aO s) [32] else 0:=by
 obtain⟨h1,h2⟩:=fY s
 cases h:fX s with
 |true=>
  obtain⟨q1,q2,q3,q4⟩:=h1 h
  rw[if_pos rfl,Lib.count_hit (i:=(bH s).length) (by simp) (by rw[Lib.index_one,q1])]
  show 1+Lib.count (List.drop ((bH s).length+1) s) _=_
  rw[q3]
 |false=>
  rw[if_neg (by simp),Lib.count_miss (by rw[Lib.index_one,(h2 h).1])]
theorem wj: ∀(n:Nat) (s:List UInt8),Lib.count s [32]=n→(iU n s).length=n+1
 |0,s,h=>rfl
 |n+1,s,h=>by
  rw[tE] at h
  unfold iU
  by_cases hs:fX s=true
  · rw[if_pos hs] at h
    rw[if_pos hs,aW9,wj n (aO s) (by omega)]
  · rw[if_neg hs] at h;omega
theorem wl: ∀(n:Nat) (s:List UInt8),(iU n s).length≤n+1∧1≤(iU n s).length
 |0,s=>⟨aXi _,aXi _⟩
 |n+1,s=>by
  unfold iU
  split
  · have:=wl n (aO s)
    rw[aW9];omega
  · simp
theorem aF2: ∀(n m:Nat) (s:List UInt8),s.length≤n→s.length≤m→iU n s=iU m s
 |0,0,s,_,_=>rfl
 |0,m+1,s,h,_=>by
  rw[List.eq_nil_of_length_eq_zero (Nat.le_zero.1 h)];rfl
 |n+1,0,s,_,h=>by
  rw[List.eq_nil_of_length_eq_zero (Nat.le_zero.1 h)];rfl
 |n+1,m+1,s,h1,h2=>by
  unfold iU
  by_cases hs:fX s=true
  · have:=oz hs
    rw[if_pos hs,if_pos hs,aF2 n m (aO s) (by omega) (by omega)]
  · rw[if_neg hs,if_neg hs]
theorem aO5 (n:Nat) (s:List UInt8):iU (min (n+1) (s.length+1) - 1) s=iU n s:=by
 by_cases h:n≤s.length
 · rw[show min (n+1) (s.length+1) - 1=n by omega]
 · exact aF2 _ _ s (by omega) (by omega)
def dG (s:List UInt8):List (List UInt8):=iU (Lib.count s [32]) s
theorem aTf {args:Array Value} {w:World} {S:Nat→Prop} {s:List UInt8} {rest:List D} {vs:List Value} (hsz:args.size=vs.length) (h: ∀(i:Nat) d v,rest[i]? =some d→args[i]? =some v→DR w S d v) (hl:rest.length=vs.length) (hd: ∀(i:Nat) d v,rest[i]? =some d→DR w S d v→vs[i]? =some v):args=vs.toArray:=by
 apply Array.ext
 · rw[hsz];simp
 · intro i h1 h2
   have hi:i<rest.length:=by rw[hl,← hsz];exact h1
   have h3:=hd i rest[i] args[i] (aXg hi) (h i rest[i] args[i] (aXg hi) (Array.getElem?_eq_getElem h1))
   rw[List.getElem_toArray]
   rw[aXg (by simpa using h2)] at h3
   exact(Option.some.inj h3).symm
theorem ry (n:Nat) (s:List UInt8): (Lib.splitB ⟨#[32]⟩ 0 n ⟨s.toArray⟩).map (·.data.toList)=iU n s:=by
 rw[Lib.splitB_data];exact aB3 n s
theorem aB4 {n:Nat} {s:List UInt8} {i:Nat} {x:List UInt8} (h: (iU n s)[i]? =some x): ((Lib.splitB ⟨#[32]⟩ 0 n ⟨s.toArray⟩).map Value.string)[i]? =some (.string ⟨x.toArray⟩):=by
 rw[← ry,List.getElem?_map] at h
 rw[List.getElem?_map]
 cases hq: (Lib.splitB ⟨#[32]⟩ 0 n ⟨s.toArray⟩)[i]? with
 |none=>rw[hq] at h;cases h
 |some b=>rw[hq] at h;cases h;rfl
theorem aIp (n:Nat) (s:List UInt8): (Lib.splitB ⟨#[32]⟩ 0 n ⟨s.toArray⟩).length=(iU n s).length:=by rw[← ry,List.length_map]
theorem aIq {P:Program} {f:FuncId} {e:TypeId} (hc:ie P f) (s:List UInt8) (hs:s.length≤1000000)
 (h: ∀(w:World),aK3 P w→Calls P f #[.string ⟨s.toArray⟩,.string ⟨#[32]⟩] w fun ex w'=>ex= .returned (.slice (some ⟨w.heap.size,0,none⟩) (Lib.count s [32]+1) (Lib.count s [32]+1))∧w'=w.alloc (.cells ((Lib.splitB ⟨#[32]⟩ 0 (Lib.count s [32]) ⟨s.toArray⟩).map Value.string).toArray e)):
 Spec P f 2 [(.t 0,.v (Dv (.s s))),(.t 1,.v (Dv (.s [32])))] [(.t 0,.v (Dv (.sl (bB (dG s)))))]:=by
 refine lc (ds:=[.s s,.s [32]]) hc fun S w args hg hsz ha=> ?_
 obtain rfl:args= #[.string ⟨s.toArray⟩,.string ⟨#[32]⟩]:=by
  refine aTf (s:=s) (vs:=[.string ⟨s.toArray⟩,.string ⟨#[32]⟩]) hsz ha rfl fun i d v hi hd=> ?_
  match i,hi with
  |0,hi=>cases hi;rw[hd.s_inv];rfl
  |1,hi=>cases hi;rw[hd.s_inv];rfl
  |k+2,hi=>simp at hi
 refine nU (fun ex w'=> ?_) (h w hg)
 rintro⟨rfl,rfl⟩
 have hl: (dG s).length=Lib.count s [32]+1:=wj _ s rfl
 have hcl:=Lib.count_le s [32]
 refine⟨_,fun b=>b=w.heap.size,rfl,by rw[alloc_eq_grow];exact aDs w _,fun σ ι=> ?_,fun b hb=> ?_⟩
 · have:=aKk w (dG s) ((Lib.splitB ⟨#[32]⟩ 0 (Lib.count s [32]) ⟨s.toArray⟩).map Value.string).toArray e (Lib.count s [32]+1) (by omega) (by unfold maxLen;omega) fun i x hx=>by
    rw[List.getElem?_toArray];exact aB4 hx
   rw[hl] at this
   exact this
 · subst hb
   refine⟨aXi _,?_⟩
   rw[alloc_eq_grow];simp[grow]
theorem aF3 {P:Program} {f:FuncId} {e:TypeId} (hc:ie P f) (n:Nat) (s:List UInt8) (hs:s.length≤1000000) (hn:n≤1000)
 (h: ∀(w:World),aK3 P w→Calls P f #[.string ⟨s.toArray⟩,.string ⟨#[32]⟩,.int .i64 ((n+1:Nat):Int)] w fun ex w'=>ex= .returned (.slice (some ⟨w.heap.size,0,none⟩) (Lib.splitB ⟨#[32]⟩ 0 (min (n+1) (s.length+1) - 1) ⟨s.toArray⟩).length (min (n+1) (s.length+1)))∧w'=w.alloc (.cells (Lib.cellsOf (Lib.splitB ⟨#[32]⟩ 0 (min (n+1) (s.length+1) - 1) ⟨s.toArray⟩) (min (n+1) (s.length+1))) e)):
 Spec P f 3 [(.t 0,.v (Dv (.s s))),(.t 1,.v (Dv (.s [32]))),(.t 2,.v (I ((n+1:Nat):Int)))] [(.t 0,.v (Dv (.sl (bB (iU n s)))))]:=by
 refine lc (ds:=[.s s,.s [32],.i ((n+1:Nat):Int)]) hc fun S w args hg hsz ha=> ?_
 obtain rfl:args= #[.string ⟨s.toArray⟩,.string ⟨#[32]⟩,.int .i64 ((n+1:Nat):Int)]:=by
  refine aTf (s:=s) (vs:=[.string ⟨s.toArray⟩,.string ⟨#[32]⟩,.int .i64 ((n+1:Nat):Int)]) hsz ha rfl fun i d v hi hd=> ?_
  match i,hi with
  |0,hi=>cases hi;rw[hd.s_inv];rfl
  |1,hi=>cases hi;rw[hd.s_inv];rfl
  |2,hi=>cases hi;rw[hd.i_inv];rfl
  |k+3,hi=>simp at hi
 refine nU (fun ex w'=> ?_) (h w hg)
 rintro⟨rfl,rfl⟩
 have hcl:=wl (min (n+1) (s.length+1) - 1) s
 refine⟨_,fun b=>b=w.heap.size,rfl,by rw[alloc_eq_grow];exact aDs w _,fun σ ι=> ?_,fun b hb=> ?_⟩
 · have:=aKk w (iU (min (n+1) (s.length+1) - 1) s) (Lib.cellsOf (Lib.splitB ⟨#[32]⟩ 0 (min (n+1) (s.length+1) - 1) ⟨s.toArray⟩) (min (n+1) (s.length+1))) e (min (n+1) (s.length+1)) (by omega) (by unfold maxLen;omega) fun i x hx=>by
    have h1:=aB4 hx
    unfold Lib.cellsOf
    rw[List.getElem?_toArray,List.getElem?_append_left (aXh.1 h1).1]
    exact h1
   rw[← aIp,aO5] at this
   exact this
 · subst hb
   refine⟨aXi _,?_⟩
   rw[alloc_eq_grow];simp[grow]
set_option linter.unusedVariables false
set_option linter.unusedSimpArgs false
def kO (n:bA):List UInt8:=jZ n.frm.toNat++[32]++jZ n.num.toNat++[32]++jZ n.to.toNat++[32]++jZ n.til.toNat++[32]++n.text
def fZ (n:bA):List UInt8:=if eL n then kO n else []
def mW:Nat→List UInt8→List UInt8
 |0,s=>s
 |n+1,s=>aO (mW n s)
def dO (s:List UInt8) (i:Nat):Int:=gW (bH (mW i s))
def fD (n:Nat) (s:List UInt8):List Int:=(aXj n).map (dO s)
theorem bP (n:Nat) (s:List UInt8): (fD n s).length=n:=by simp[fD]
theorem aIr (n:Nat) (s:List UInt8):fD (n+1) s=fD n s++[dO s n]:=by simp[fD,List.range_succ]
theorem uX (s:List UInt8): (aO s).length≤s.length:=by
 cases h:fX s with
 |true=>exact Nat.le_of_lt (oz h)
 |false=>rw[((fY s).2 h).2.2];exact aXd _
theorem wm (n:Nat) (s:List UInt8): (mW n s).length≤s.length:=by
 induction n with
 |zero=>exact aXi _
 |succ n ih=>exact Nat.le_trans (uX _) ih
theorem eu (s:List UInt8): (bH s).length≤s.length:=by
 cases h:fX s with
 |true=>exact Nat.le_of_lt ((fY s).1 h).2.2.2
 |false=>rw[((fY s).2 h).2.1];exact aXi _
def iQ (l:List (List UInt8)):Bool:=l.all fun w=>(jP w).isSome
def kU (l:List (List UInt8)):List Int:=if iQ l then l.map jB else []
def cu (t:List UInt8):bA:=⟨dO t 0,dO t 1,dO t 2,dO t 3,mW 4 t⟩
def eB (t:List UInt8):bA×Bool:=if t=[]∨fZ (cu t)≠t then(.zero,false) else(cu t,true)
def pB (t:List UInt8):bA:=⟨jB ((iU 4 t).getD 0 []),jB ((iU 4 t).getD 1 []),jB ((iU 4 t).getD 2 []),jB ((iU 4 t).getD 3 []),(iU 4 t).getD 4 []⟩
def rz (t:List UInt8):bA×Bool:=if(iU 4 t).length≠5∨iQ ((iU 4 t).take 4)=false∨eL (pB t)=false∨fZ (pB t)≠t then(.zero,false) else(pB t,true)
theorem mX {w r:List UInt8} (h: ∀b∈w,b≠32):bH (w++32::r)=w∧aO (w++32::r)=r∧fX (w++32::r)=true:=by
 induction w with
 |nil=>exact⟨by simp[bH],by simp[aO],by simp[fX]⟩
 |cons b w ih=>
  have hb:b≠32:=h b (List.mem_cons_self ..)
  obtain⟨h1,h2,h3⟩:=ih fun x hx=>h x (List.mem_cons_of_mem _ hx)
  refine⟨?_,?_,?_⟩
  · rw[List.cons_append]
    have:bH (b::(w++32::r))=b::bH (w++32::r):=by simp[bH,hb]
    rw[this,h1]
  · rw[List.cons_append]
    have:aO (b::(w++32::r))=aO (w++32::r):=by simp[aO,hb]
    rw[this,h2]
  · simp[fX]
theorem vK (n:Nat): ∀b∈jZ n,b≠32:=by
 intro b hb e
 have:=zI n b hb
 subst e
 exact absurd this (by decide)
theorem bS {k:Nat}: ∀{n:Nat},n<10 ^ (k+1)→(jZ n).length≤k+1:=by
 induction k with
 |zero=>
  intro n h
  rw[nH (by simpa using h)];simp
 |succ k ih=>
  intro n h
  by_cases hs:n<10
  · rw[nH hs];simp
  · rw[uG (by omega),aW7]
    have:=ih (n:=n / 10) (by rw[Nat.pow_succ] at h;omega)
    simp;omega
theorem mY {n:Nat} (h:n<100000):jP (jZ n)=some n:=by
 have hl: (jZ n).length≤5:=bS (k:=4) (by simpa using h)
 have h1:1≤(jZ n).length:=List.length_pos_iff.2 (aDq n)
 have hd:cr (jZ n)=true:=aXl.2 (zI n)
 unfold jP
 rw[if_pos ⟨⟨h1,hl⟩,(wB h1 hd).1 (by rw[ky]),hd⟩,ky]
theorem vL {n:Nat} (h:n<10000):gW (jZ n)=n:=by
 have hl: (jZ n).length≤4:=bS (k:=3) (by simpa using h)
 have h1:1≤(jZ n).length:=List.length_pos_iff.2 (aDq n)
 unfold gW
 rw[if_pos ⟨⟨h1,hl⟩,aXl.2 (zI n),by rw[ky]⟩,ky]
theorem mH {n:bA} (h:eL n=true): (0≤n.frm∧n.frm≤3)∧(0≤n.to∧n.to≤3)∧(1≤n.num∧n.num≤99)∧(1≤n.til∧n.til≤999)∧(1≤n.text.length∧n.text.length≤24):=by
 simp only[eL,eR,iK,zH,aXb,decide_eq_true_eq] at h
 omega
theorem im (n:bA):kO n=jZ n.frm.toNat++32::(jZ n.num.toNat++32::(jZ n.to.toNat++32::(jZ n.til.toNat++32::n.text))):=by simp[kO]
theorem aB5 {n:bA} (h:eL n=true):cu (kO n)=n∧(iU 4 (kO n)).length=5∧iQ ((iU 4 (kO n)).take 4)=true∧pB (kO n)=n:=by
 obtain⟨p1,p2,p3,p4,p5⟩:=mH h
 obtain⟨a1,a2,a3⟩:=mX (r:=jZ n.num.toNat++32::(jZ n.to.toNat++32::(jZ n.til.toNat++32::n.text))) (vK n.frm.toNat)
 obtain⟨b1,b2,b3⟩:=mX (r:=jZ n.to.toNat++32::(jZ n.til.toNat++32::n.text)) (vK n.num.toNat)
 obtain⟨c1,c2,c3⟩:=mX (r:=jZ n.til.toNat++32::n.text) (vK n.to.toNat)
 obtain⟨d1,d2,d3⟩:=mX (r:=n.text) (vK n.til.toNat)
 have hc:iU 4 (kO n)=[jZ n.frm.toNat,jZ n.num.toNat,jZ n.to.toNat,jZ n.til.toNat,n.text]:=by
  rw[im]
  simp only[iU,a1,a2,a3,b1,b2,b3,c1,c2,c3,d1,d2,d3,if_true]
 have e: ∀{x:Int},0≤x→((x.toNat:Nat):Int)=x:=fun h=>by omega
 have v1:gW (jZ n.frm.toNat)=n.frm:=by rw[vL (by omega),e (by omega)]
 have v2:gW (jZ n.num.toNat)=n.num:=by rw[vL (by omega),e (by omega)]
 have v3:gW (jZ n.to.toNat)=n.to:=by rw[vL (by omega),e (by omega)]
 have v4:gW (jZ n.til.toNat)=n.til:=by rw[vL (by omega),e (by omega)]
 have w1:jP (jZ n.frm.toNat)=some n.frm.toNat:=mY (by omega)
 have w2:jP (jZ n.num.toNat)=some n.num.toNat:=mY (by omega)
 have w3:jP (jZ n.to.toNat)=some n.to.toNat:=mY (by omega)
 have w4:jP (jZ n.til.toNat)=some n.til.toNat:=mY (by omega)
 have u1:jB (jZ n.frm.toNat)=n.frm:=by rw[jB,w1];exact e (by omega)
 have u2:jB (jZ n.num.toNat)=n.num:=by rw[jB,w2];exact e (by omega)
 have u3:jB (jZ n.to.toNat)=n.to:=by rw[jB,w3];exact e (by omega)
 have u4:jB (jZ n.til.toNat)=n.til:=by rw[jB,w4];exact e (by omega)
 refine⟨?_,by rw[hc];rfl,?_,?_⟩
 · rw[im]
   simp only[cu,dO,mW,a1,a2,b1,b2,c1,c2,d1,d2,v1,v2,v3,v4]
 · rw[hc]
   simp[iQ,w1,w2,w3,w4]
 · simp only[pB,hc,List.getD_cons_zero,List.getD_cons_succ,u1,u2,u3,u4]
theorem aRn (n:bA):kO n≠[]:=by
 rw[im];simp
theorem aB6 (t:List UInt8) (x:bA) (h:eL x=true) (e:kO x=t):eB t=(x,true):=by
 subst e
 unfold eB
 rw[(aB5 h).1,if_neg]
 rintro(h1|h1)
 · exact aRn x h1
 · exact h1 (if_pos h)
theorem aL5 (t:List UInt8) (x:bA) (h:eL x=true) (e:kO x=t):rz t=(x,true):=by
 subst e
 obtain⟨h1,h2,h3,h4⟩:=aB5 h
 unfold rz
 rw[h4,if_neg]
 rintro(h5|h5|h5|h5)
 · exact h5 h2
 · rw[h3] at h5;cases h5
 · rw[h] at h5;cases h5
 · exact h5 (if_pos h)
theorem aRo (t:List UInt8): (∃x,eL x=true∧kO x=t∧eB t=(x,true)∧rz t=(x,true))∨(eB t=(.zero,false)∧rz t=(.zero,false)):=by
 by_cases h: ∃x,eL x=true∧kO x=t
 · obtain⟨x,h1,h2⟩:=h
   exact .inl ⟨x,h1,h2,aB6 t x h1 h2,aL5 t x h1 h2⟩
 · refine .inr ⟨?_,?_⟩
   · unfold eB
     rw[if_pos]
     by_cases h1:t=[]
     · exact .inl h1
     · refine .inr fun h2=> ?_
       unfold fZ at h2
       split at h2
       · rename_i h3;exact h ⟨_,h3,h2⟩
       · exact h1 h2.symm
   · unfold rz
     rw[if_pos]
     by_cases h1:eL (pB t)=true
     · refine .inr (.inr (.inr fun h2=> ?_))
       rw[fZ,if_pos h1] at h2
       exact h ⟨_,h1,h2⟩
     · exact .inr (.inr (.inl (by simpa using h1)))
theorem aF4 (t:List UInt8):rz t=eB t:=by
 rcases aRo t with⟨x,_,_,h1,h2⟩|⟨h1,h2⟩<;>rw[h1,h2]
set_option linter.unusedVariables false
set_option linter.unusedSimpArgs false
theorem aO6 {s:List UInt8} {i:Nat} (hk: ∀j,j<i→s.getD j 0≠32) (hi:i<s.length) (h:s.getD i 0=32):bH s=s.take i∧aO s=s.drop (i+1)∧fX s=true:=by
 have e:s=s.take i++32::s.drop (i+1):=by
  rw[← h,aXe,aXg hi]
  show s=List.take i s++s[i]::List.drop (i+1) s
  rw[← List.drop_eq_getElem_cons hi,List.take_append_drop]
 have hw: ∀b∈s.take i,b≠32:=by
  intro b hb
  obtain⟨j,hj⟩:=aXq.1 hb
  have hlt:j<i:=by
   have:=(aXh.1 hj).1
   rw[aXc] at this;omega
  rw[List.getElem?_take_of_lt hlt] at hj
  have:=hk j hlt
  rw[aXe,hj] at this
  exact this
 obtain⟨h1,h2,h3⟩:=mX (r:=s.drop (i+1)) hw
 rw[← e] at h1 h2 h3
 exact⟨h1,h2,h3⟩
theorem aL6 {s:List UInt8} (hk: ∀j,j<s.length→s.getD j 0≠32):bH s=s∧aO s=[]∧fX s=false:=by
 have hn:fX s=false:=by
  unfold fX
  rw[List.any_eq_false]
  intro b hb
  obtain⟨j,hj⟩:=aXq.1 hb
  have:=hk j (aXh.1 hj).1
  rw[aXe,hj] at this
  simpa using this
 obtain⟨q1,q2,q3⟩:=(fY s).2 hn
 exact⟨q2,q3,hn⟩
theorem aL7 {l:List (List UInt8)} {i:Nat} (hi:i<l.length) (h: (jP (l.getD i [])).isSome=false):iQ l=false:=by
 unfold iQ
 rw[List.all_eq_false]
 refine⟨l.getD i [],?_,by rw[h];decide⟩
 rw[aXe,aXg hi]
 exact List.getElem_mem _
theorem aIs {l:List (List UInt8)} (h: ∀i,i<l.length→(jP (l.getD i [])).isSome=true):iQ l=true:=by
 unfold iQ
 rw[aXl]
 intro x hx
 obtain⟨j,hj⟩:=aXq.1 hx
 have:=h j (aXh.1 hj).1
 rw[aXe,hj] at this
 exact this
theorem aAg {l:List (List UInt8)} {i:Nat} (h:i<l.length): (l.take (i+1)).map jB=(l.take i).map jB++[jB (l.getD i [])]:=by
 rw[List.take_add_one,aXg h,aXe,aXg h,List.map_append]
 rfl
def pa (n:Int):List UInt8:=if n<0 then 45::jZ (-n).toNat else jZ n.toNat
theorem dB {α:Type} {l:List α} {i:Nat} {z:α} (h:i<l.length):l.getD i z∈l:=by
 rw[aXe,aXg h]
 exact List.getElem_mem _
set_option linter.unusedVariables false
set_option linter.unusedSimpArgs false
theorem ld: ∀(n:Nat) (s:List UInt8),∀x∈iU n s,x.length≤s.length
 |0,s,x,h=>by
  rw[aXo.1 h];exact aXi _
 |n+1,s,x,h=>by
  unfold iU at h
  by_cases hs:fX s=true
  · rw[if_pos hs] at h
    rcases aXr.1 h with rfl|h
    · exact eu s
    · exact Nat.le_trans (ld n _ x h) (uX s)
  · rw[if_neg hs] at h
    rw[aXo.1 h];exact aXi _
theorem yD {α:Type} {l:List α} {n i:Nat} {z:α} (h:i<n): (l.take n).getD i z=l.getD i z:=by
 rw[aXe,List.getElem?_take_of_lt h,← aXe]
theorem iH {l:List (List UInt8)} (h:iQ l=true): (kU l).length=l.length:=by rw[kU,if_pos h,List.length_map]
theorem aF5 {l:List (List UInt8)} (h:iQ l=true) {i:Nat} (hi:i<l.length): (kU l).getD i 0=jB (l.getD i []):=by
 rw[kU,if_pos h,aXe,List.getElem?_map,aXg hi,aXe,aXg hi]
 rfl
theorem iR {l:List Int} {i:Nat} (h:i<l.length): (cZ l).getD (i:Int).toNat []=[.i (l.getD i 0)]:=by
 rw[aW6,gV h]
theorem aDt (l:List (List UInt8)) (n:Nat): (bB l).take n=bB (l.take n):=by simp[bB,List.map_take]
theorem aF6 {n:Nat} {s:List UInt8} {i:Nat} (h:i<n): (fD n s).getD i 0=dO s i:=by
 unfold fD
 rw[aXe,List.getElem?_map,List.getElem?_range h]
 rfl
theorem wn {t:List UInt8} (h: (iU 4 t).length≠5∨iQ ((iU 4 t).take 4)=false∨eL (pB t)=false∨fZ (pB t)≠t):eB t=(.zero,false):=by
 rw[← aF4,rz,if_pos h]
theorem aL8 {t:List UInt8} (h1: (iU 4 t).length=5) (h2:iQ ((iU 4 t).take 4)=true) (h3:eL (pB t)=true) (h4:fZ (pB t)=t):eB t=(pB t,true):=by
 rw[← aF4,rz,if_neg]
 rintro(h|h|h|h)
 · exact h h1
 · rw[h2] at h;cases h
 · rw[h3] at h;cases h
 · exact h h4
theorem aDu {l:List (List UInt8)} (h:iQ (l.take 4)=true) (h5:l.length=5) {i:Nat} (hi:i<4):zy (((cZ (kU (l.take 4))).getD i []).getD 0 (.i 0))=jB (l.getD i []):=by
 have hl:i< (l.take 4).length:=by rw[aXc];omega
 rw[gV (by rw[iH h];exact hl)]
 show(kU (l.take 4)).getD i 0=_
 rw[aF5 h hl,yD hi]
theorem uh {s:List UInt8} {i:Nat} (hi:i<4):zy (((cZ (fD 4 s)).getD i []).getD 0 (.i 0))=dO s i:=by
 rw[gV (by rw[bP];exact hi)]
 exact aF6 hi
set_option linter.unusedVariables false
set_option linter.unusedSimpArgs false
def bC.zero:bC:=⟨0,0,0,[],[],[]⟩
def dU (id:Int):bC:=if eR id then⟨id,0,1,[],[],[]⟩ else .zero
def kD (l:List bA) (n:bA):List bA:=l.takeWhile (fun x=>cE x.frm x.num n.frm n.num)++n::l.dropWhile (fun x=>cE x.frm x.num n.frm n.num)
def pR (l:List cA) (n:cA):List cA:=l.takeWhile (fun x=>cE x.frm x.num n.frm n.num)++n::l.dropWhile (fun x=>cE x.frm x.num n.frm n.num)
def kE (l:List bA) (n:bA):List bA:=l.takeWhile (fun x=> !cE n.frm n.num x.frm x.num)++n::l.dropWhile (fun x=> !cE n.frm n.num x.frm x.num)
def oM (l:List cA) (n:cA):List cA:=l.takeWhile (fun x=> !cE n.frm n.num x.frm x.num)++n::l.dropWhile (fun x=> !cE n.frm n.num x.frm x.num)
def gK {α:Type} (l:List α) (i:Nat):List α:=l.take i++l.drop (i+1)
def kR (k:bC) (t:Int):bC:={k with time:=t,held:=k.held.filter (fun n=>decide (t<n.til)),marks:=k.marks.filter (fun n=>decide (t<n.til))}
def uB (k:bC) (n:bA):Bool:=eL n&&decide (k.time<n.til)&&decide (aS k.held n.frm n.num<0)&&decide (aS k.inbox n.frm n.num<0)&&decide (gN k.marks n.frm n.num<0)
def fF (k:bC) (n:bA):bC×Bool:=
 if uB k n&&decide ((k.held.length:Int)+k.marks.length+1≤12) then
  (if n.to==k.id then{k with inbox:=kD k.inbox n,marks:=pR k.marks ⟨n.frm,n.num,n.til⟩} else{k with held:=kD k.held n},true)
 else(k,false)
def jG:List UInt8:=[116,105,109,101]
def jM:List UInt8:=[110,101,120,116]
def iG:List UInt8:=[111,119,110]
def fL:List UInt8:=[116,97,107,101]
def hG:List UInt8:=[104,101,108,100]
def fP:List UInt8:=[105,110,98,111,120]
def nP:List UInt8:=[108,101,116]
def jY:List UInt8:=[101,97,116]
def iF:List UInt8:=[109,97,114,107]
def lH (k:bC) (w:List UInt8) (n:Int):bC×Bool:=
 if w==jG&&decide (k.time<n) then(kR k n,true)
 else if w==jM&&decide (k.next<n) then({k with next:=n},true)
 else(k,false)
def fN (k:bC) (w:List UInt8) (n:bA):bC×Bool:=
 if w==iG&&n.frm==k.id&&n.num==k.next then fF {k with next:=wrap64 (k.next+1)} n
 else if w==fL&&n.frm != k.id then fF k n
 else if decide (0≤aS k.held n.frm n.num)||decide (0≤aS k.inbox n.frm n.num) then(k,false)
 else if w==hG then({k with held:=kD k.held n},true)
 else if w==fP then({k with inbox:=kD k.inbox n},true)
 else(k,false)
def iL (k:bC) (w:List UInt8) (m:cA):bC×Bool:=
 if w==nP&&decide (0≤aS k.held m.frm m.num)&&(k.held.getD (aS k.held m.frm m.num).toNat .zero).til==m.til then
  ({k with held:=gK k.held (aS k.held m.frm m.num).toNat,marks:=pR k.marks m},true)
 else if w==jY&&decide (0≤aS k.inbox m.frm m.num)&&(k.inbox.getD (aS k.inbox m.frm m.num).toNat .zero).til==m.til then
  ({k with inbox:=gK k.inbox (aS k.inbox m.frm m.num).toNat},true)
 else if w==iF&&decide (gN k.marks m.frm m.num<0) then({k with marks:=pR k.marks m},true)
 else(k,false)
def three (l:List (List UInt8)):cA:=⟨jB (l.getD 0 []),jB (l.getD 1 []),jB (l.getD 2 [])⟩
def eM (k:bC) (rec:List UInt8):bC×Bool:=
 if fX rec then
  if bH rec==jG||bH rec==jM then(if(jP (aO rec)).isSome then lH k (bH rec) (jB (aO rec)) else(k,false))
  else if bH rec==iG||bH rec==fL||bH rec==hG||bH rec==fP then(if(eB (aO rec)).2 then fN k (bH rec) (eB (aO rec)).1 else(k,false))
  else if bH rec==nP||bH rec==jY||bH rec==iF then(if iQ (dG (aO rec))&&(dG (aO rec)).length==3 then iL k (bH rec) (three (dG (aO rec))) else(k,false))
  else(k,false)
 else(k,false)
def kW (k:bC) (x:bC×Bool):bC×Bool:=if x.2&&dC x.1 then(x.1,true) else(k,false)
def cL (k:bC) (rec:List UInt8):bC×Bool:=if dC k then kW k (eM k rec) else(.zero,false)
def ip (k:bC) (n:bA):Bool:=eL n&&decide (k.time<n.til)&&decide (aS k.held n.frm n.num<0)&&decide (gN k.marks n.frm n.num<0)&&decide (aS k.inbox n.frm n.num<0)
def mZ (k:bC) (n:bA):bC×Bool:=
 if ip k n then
  if n.to != k.id then({k with held:=kE k.held n},decide (((kE k.held n).length:Int)+k.marks.length≤12))
  else({k with inbox:=kE k.inbox n,marks:=oM k.marks ⟨n.frm,n.num,n.til⟩},decide ((k.held.length:Int)+(oM k.marks ⟨n.frm,n.num,n.til⟩).length≤12))
 else(k,false)
def lf (k:bC) (f m:Int):bC×Bool:=
 if 0≤aS k.held f m then({k with held:=gK k.held (aS k.held f m).toNat,marks:=oM k.marks ⟨f,m,(k.held.getD (aS k.held f m).toNat .zero).til⟩},true) else(k,false)
def li (k:bC) (f m:Int):bC×Bool:=
 if 0≤aS k.inbox f m then({k with inbox:=gK k.inbox (aS k.inbox f m).toNat},true) else(k,false)
def iA (r:List UInt8):cA:=⟨dO r 0,dO r 1,dO r 2⟩
def ga (m:cA):List UInt8:=pa m.frm++[32]++pa m.num++[32]++pa m.til
def gO (k:bC) (rec:List UInt8):bC×Bool:=
 if bH rec==jG then(if gW (aO rec)≤k.time then(k,false) else(kR k (gW (aO rec)),true))
 else if bH rec==iG then
  (if !(eB (aO rec)).2||(eB (aO rec)).1.frm != k.id||(eB (aO rec)).1.num != k.next then(k,false) else mZ {k with next:=wrap64 (k.next+1)} (eB (aO rec)).1)
 else if bH rec==fL then(if !(eB (aO rec)).2||(eB (aO rec)).1.frm==k.id then(k,false) else mZ k (eB (aO rec)).1)
 else if bH rec==jM then(if gW (aO rec)≤k.next then(k,false) else({k with next:=gW (aO rec)},true))
 else if bH rec==hG||bH rec==fP then
  (if !(eB (aO rec)).2||decide (aS k.held (eB (aO rec)).1.frm (eB (aO rec)).1.num≥0)||decide (aS k.inbox (eB (aO rec)).1.frm (eB (aO rec)).1.num≥0) then(k,false)
   else if bH rec==hG then({k with held:=kE k.held (eB (aO rec)).1},true) else({k with inbox:=kE k.inbox (eB (aO rec)).1},true))
 else if !(mW 3 (aO rec)==[])|| !(aO rec==ga (iA (aO rec))) then(k,false)
 else if bH rec==nP then
  (if decide (aS k.held (iA (aO rec)).frm (iA (aO rec)).num<0)||(k.held.getD (aS k.held (iA (aO rec)).frm (iA (aO rec)).num).toNat .zero).til != (iA (aO rec)).til then(k,false)
   else lf k (iA (aO rec)).frm (iA (aO rec)).num)
 else if bH rec==jY then
  (if decide (aS k.inbox (iA (aO rec)).frm (iA (aO rec)).num<0)||(k.inbox.getD (aS k.inbox (iA (aO rec)).frm (iA (aO rec)).num).toNat .zero).til != (iA (aO rec)).til then(k,false)
   else li k (iA (aO rec)).frm (iA (aO rec)).num)
 else if bH rec==iF then(if gN k.marks (iA (aO rec)).frm (iA (aO rec)).num≥0 then(k,false) else({k with marks:=oM k.marks (iA (aO rec))},true))
 else(k,false)
def pI (k:bC) (rec:List UInt8):bC×Bool:=if dC k then kW k (gO k rec) else(.zero,false)
def gX:bC→List (List UInt8)→bC×Bool
 |k,[]=>(k,true)
 |k,r::rs=>if(cL k r).2 then gX (cL k r).1 rs else(.zero,false)
def eU (id:Int) (recs:List (List UInt8)):bC×Bool:=if eR id then gX (dU id) recs else(.zero,false)
set_option linter.unusedVariables false
set_option linter.unusedSimpArgs false
section
variable {α:Type} {l:List α} {z:α} {i:Nat}
theorem eP (h:i<l.length):l.take (i+1)=l.take i++[l.getD i z]:=by
 rw[List.take_add_one,aXg h,aXe,aXg h]
 rfl
theorem aDv {p:α→Bool} (hi:i≤l.length) (hk: ∀j,j<i→p (l.getD j z)=true) (h:i=l.length∨p (l.getD i z)=false):l.takeWhile p=l.take i∧l.dropWhile p=l.drop i:=by
 induction l generalizing i with
 |nil=>simp at hi;subst hi;simp
 |cons x l ih=>
  cases i with
  |zero=>
   have hx:p x=false:=by
    rcases h with h|h
    · simp at h
    · simpa using h
   simp[List.takeWhile,List.dropWhile,hx]
  |succ i=>
   have hx:p x=true:=by simpa using hk 0 (by omega)
   obtain⟨h1,h2⟩:=ih (i:=i) (by simpa using hi) (fun j hj=>by simpa using hk (j+1) (by omega)) (by
    rcases h with h|h
    · left;simpa using h
    · right;simpa using h)
   simp[List.takeWhile,List.dropWhile,hx,h1,h2]
def qQ (p:α→Bool) (n:α) (l:List α):List α:=l.takeWhile p++n::l.dropWhile p
theorem aKl {p:α→Bool} {n:α} (hi:i≤l.length) (hk: ∀j,j<i→p (l.getD j z)=true) (h:i=l.length∨p (l.getD i z)=false):qQ p n l=l.take i++n::l.drop i:=by
 obtain⟨h1,h2⟩:=aDv hi hk h
 rw[qQ,h1,h2]
theorem fR {p:α→Bool} {n:α}: (qQ p n l).length=l.length+1:=by
 have h:=congrArg List.length (List.takeWhile_append_dropWhile (p:=p) (l:=l))
 rw[aW7] at h
 rw[qQ,aW7,aW9];omega
theorem yE {p:α→Bool} {n x:α}:x∈qQ p n l↔x=n∨x∈l:=by
 have h:x∈l↔x∈l.takeWhile p∨x∈l.dropWhile p:=by
  conv=>lhs;rw[← List.takeWhile_append_dropWhile (p:=p) (l:=l)]
  exact List.mem_append
 rw[qQ,List.mem_append,aXr,h]
 constructor
 · rintro(h|h|h)
   · exact .inr (.inl h)
   · exact .inl h
   · exact .inr (.inr h)
 · rintro(h|h|h)
   · exact .inr (.inl h)
   · exact .inl h
   · exact .inr (.inr h)
def midW (q:α→Bool) (n:α) (l:List α):List α:=if l.any q then qQ (fun x=> !q x) n l else l
theorem aL9 {q:α→Bool} {n x:α} (h:l.any q=true):qQ (fun x=> !q x) n (l++[x])=qQ (fun x=> !q x) n l++[x]:=by
 induction l with
 |nil=>simp at h
 |cons y l ih=>
  by_cases hy:q y=true
  · simp[qQ,hy]
  · have hy':q y=false:=by simpa using hy
    have h2:l.any q=true:=by simpa[hy'] using h
    have:=ih h2
    simp only[qQ] at this ⊢
    simp[hy',this]
theorem aMa {q:α→Bool} {n:α} (h:l.any q=false):qQ (fun x=> !q x) n l=l++[n]:=by
 induction l with
 |nil=>simp[qQ]
 |cons y l ih=>
  have hy:q y=false:=by
   cases hq:q y with
   |false=>rfl
   |true=>simp[hq] at h
  have h2:l.any q=false:=by simpa[hy] using h
  have:=ih h2
  simp only[qQ] at this ⊢
  simp[hy,this]
theorem aF7 {q:α→Bool} {n x:α} (h:l.any q=false) (hx:q x=true):midW q n (l++[x])=midW q n l++[n]++[x]:=by
 have e1: (l++[x]).any q=true:=by simp[hx]
 have e2:midW q n l=l:=by rw[midW,h];rfl
 rw[e2,midW,if_pos e1]
 induction l with
 |nil=>simp[qQ,hx]
 |cons y l ih=>
  have hy:q y=false:=by
   cases hq:q y with
   |false=>rfl
   |true=>simp[hq] at h
  have h2:l.any q=false:=by simpa[hy] using h
  have:=ih h2 (by simp[hx]) (by rw[midW,h2];rfl)
  simp only[qQ] at this ⊢
  simp[hy] at this ⊢
  exact this
theorem aKm {q:α→Bool} {n x:α} (h:l.any q=true∨q x=false):midW q n (l++[x])=midW q n l++[x]:=by
 cases ha:l.any q with
 |true=>
  have e1: (l++[x]).any q=true:=by rw[List.any_append,ha];rfl
  rw[midW,if_pos e1,midW,ha,if_pos rfl,aL9 ha]
 |false=>
  have hx:q x=false:=by
   rcases h with h|h
   · rw[ha] at h;cases h
   · exact h
  have e1: (l++[x]).any q=false:=by rw[List.any_append,ha];simp[hx]
  rw[midW,midW,e1,ha];rfl
theorem lj {q:α→Bool} {x:α}: (l++[x]).any q=(l.any q||q x):=by simp
theorem lk {q:α→Bool} {n:α}:qQ (fun x=> !q x) n l=if l.any q then midW q n l else midW q n l++[n]:=by
 cases ha:l.any q with
 |true=>rw[if_pos rfl,midW,ha,if_pos rfl]
 |false=>rw[if_neg (by simp),midW,ha,aMa ha];rfl
theorem sa {p:α→Bool} (h:i<l.length): (l.take (i+1)).filter p=(l.take i).filter p++(if p (l.getD i z) then [l.getD i z] else []):=by
 rw[eP (z:=z) h,List.filter_append]
 congr 1
 by_cases hp:p (l.getD i z)=true
 · rw[if_pos hp,List.filter_cons_of_pos hp];rfl
 · rw[if_neg hp,List.filter_cons_of_neg hp];rfl
theorem zM {p:α→Bool} (h:i<l.length) (hp:p (l.getD i z)=true): (l.take (i+1)).filter p=(l.take i).filter p++[l.getD i z]:=by
 rw[sa (z:=z) h,if_pos hp]
theorem ew {p:α→Bool} (h:i<l.length) (hp:p (l.getD i z)=false): (l.take (i+1)).filter p=(l.take i).filter p:=by
 rw[sa (z:=z) h,hp];simp
theorem ey {x:α} (h:x∈gK l i):x∈l:=by
 rcases List.mem_append.1 h with h|h
 · exact List.mem_of_mem_take h
 · exact List.mem_of_mem_drop h
end
theorem yF (l:List bA) (n:bA):kD l n=qQ (fun x=>cE x.frm x.num n.frm n.num) n l:=rfl
theorem ez (l:List cA) (n:cA):pR l n=qQ (fun x=>cE x.frm x.num n.frm n.num) n l:=rfl
theorem zN (l:List bA) (n:bA):kE l n=qQ (fun x=> !cE n.frm n.num x.frm x.num) n l:=rfl
theorem vM (l:List cA) (n:cA):oM l n=qQ (fun x=> !cE n.frm n.num x.frm x.num) n l:=rfl
theorem bn {b:Bool} (h:b=false): ¬b=true:=by simp[h]
theorem wo {k:bC} {n:bA} {c:Bool} (hb:k.held.length≤100000∧k.marks.length≤100000∧k.inbox.length≤100000)
 (h: (!eL n||decide (n.til≤k.time)||decide (aS k.held n.frm n.num≥0)||decide (aS k.inbox n.frm n.num≥0)||decide (gN k.marks n.frm n.num≥0)||decide (wrap64 (wrap64 ((aE k.held).length+(aP k.marks).length)+1)>12))=c):
 (uB k n&&decide ((k.held.length:Int)+k.marks.length+1≤12))= !c:=by
 subst h
 rw[aC,aN,aB (n:=(k.held.length:Int)+k.marks.length) (by omega),aB (by omega)]
 unfold uB
 simp only[aB0,Bool.not_or,Bool.not_not,gt_iff_lt]
theorem fT (l:List bA) (f m:Int): -1≤aS l f m∧aS l f m<l.length:=by
 rcases gR (nJ l f m) l.length 0 with h|⟨k,h,_,h2,_⟩<;>rw[aS,h]<;>omega
theorem aB7 {k:bC} {n:bA} (ha: (uB k n&&decide ((k.held.length:Int)+k.marks.length+1≤12))=true) (hto: (n.to==k.id)=true):fF k n=({k with inbox:=kD k.inbox n,marks:=pR k.marks ⟨n.frm,n.num,n.til⟩},true):=by
 unfold fF
 rw[if_pos ha,if_pos hto]
theorem aB8 {k:bC} {n:bA} (ha: (uB k n&&decide ((k.held.length:Int)+k.marks.length+1≤12))=true) (hto: (n.to==k.id)=false):fF k n=({k with held:=kD k.held n},true):=by
 unfold fF
 rw[if_pos ha,hto]
 rfl
theorem gc (l:List bA) (x:bA):aE l++[x.row]=aE (l++[x]):=by simp[aE]
theorem gd (l:List cA) (x:cA):aP l++[x.row]=aP (l++[x]):=by simp[aP]
theorem kF (l:List bA) (a b:Nat): ∀r∈((aE l).take a).drop b,r.length=5:=fun r hr=>gD l r (List.mem_of_mem_take (List.mem_of_mem_drop hr))
theorem zO (l:List cA) (a b:Nat): ∀r∈((aP l).take a).drop b,r.length=3:=fun r hr=>lN l r (List.mem_of_mem_take (List.mem_of_mem_drop hr))
theorem vN (L:List (List D)) (i:Nat): (L.take (gH none L.length)).drop (fE (some (i:Int)))=L.drop i:=by
 simp[gH,fE]
theorem zP (L:List (List D)) (i n:Nat): (L.take (gH (some (i:Int)) n)).drop (fE none)=L.take i:=by
 simp[gH,fE]
theorem jT (n:Nat):gH none n=n:=by simp[gH]
theorem jU (i n:Nat):gH (some (i:Int)) n=i:=by simp[gH]
theorem jV:fE none=0:=rfl
theorem jW (i:Nat):fE (some (i:Int))=i:=by simp[fE]
section
variable {τ σ':St} {rl:List (Nat×Nat)} {bor:List Nat} {r:List (dH×K)}
theorem aU2 {s:Nat} {xs ys:List E} (h:aT τ (.t s)=some (.v (.tup xs))) (e:mEs τ σ' rl bor xs ys) (hr:mL τ σ' rl bor r):mL τ σ' rl bor ((.t s,.v (.tup ys))::r):=⟨⟨_,h,e⟩,hr⟩
theorem aO7:mEs τ σ' rl bor [] []:=trivial
theorem aRp {cs ds:List C} {xs ys:List E} (e:zx τ σ' rl bor cs ds) (h:mEs τ σ' rl bor xs ys):mEs τ σ' rl bor (.agg cs::xs) (.agg ds::ys):=⟨e,h⟩
theorem aWz {x y:D} {xs ys:List E} (e:x=y) (h:mEs τ σ' rl bor xs ys):mEs τ σ' rl bor (.c (.d x)::xs) (.c (.d y)::ys):=⟨e,h⟩
end
theorem RW.nilBox {P:Program} {cx:Cx P} {σ:St} {ι:Nat→Value} {S:Nat→Prop} {a:Act} {w:World} (h:RW cx σ ι S a w) {b j q:Nat} {ty:TypeId} {cs:List C} (e:TypeId) (es:Nat) (hs:aT σ (.o b)=some (.box ty cs)) (hq:cs[q]? =some .nil) (hj:aT σ (.o j)=none):
 ∃ι',RW cx (qB (qB σ (.o j) (.row e es [])) (.o b) (.box ty (cs.set q (.own j 0)))) ι' S a w:=by
 have hblk: ∀b,uZ (.slice none 0 0) b→some b=(none:Option Nat)∨w.heap.size≤b:=fun b hb=>by simp[uZ] at hb
 have h1:=h.turn (id:=j) (old:=none) (k:= .row e es []) (p:= .slice none 0 0) (w':=w) ⟨rfl,rfl,rfl,aXi _,(fun _ _ _=>rfl),(fun b hb=>by cases hb),.inl hj,hblk,.inl ⟨rfl,rfl⟩⟩
 have hbj:b≠j:=fun e=>by subst e;rw[hj] at hs;cases hs
 have hs1:aT (qB σ (.o j) (.row e es [])) (.o b)=some (.box ty cs):=by rw[cN _ _ (by simpa using fun h=>hbj h.symm)];exact hs
 obtain⟨blk0,vs,hp,hh,hsz,hc⟩:=h1.vr.objs b _ hs1
 refine⟨_,h1.turn (id:=b) (old:=some blk0) (k:= .box ty (cs.set q (.own j 0))) (p:= .pointer (some ⟨blk0,0,none⟩)) (w':=w) ⟨rfl,rfl,rfl,aXi _,(fun _ _ _=>rfl),(fun b' hb'=> ?_),.inr ⟨_,hs1,?_⟩,(fun b' hb'=> ?_),?_⟩⟩
 · cases hb'
   refine⟨⟨_,hs1,trivial⟩,?_⟩
   show uZ (if b=j then Value.slice none 0 0 else ι b) _
   rw[hp];rfl
 · show nQ (if b=j then Value.slice none 0 0 else ι b) _ _ _
   rw[hp];rfl
 · simp[uZ] at hb';exact .inl (by rw[hb'])
 · refine⟨blk0,vs,rfl,hh,by rw[List.length_set];exact hsz,fun k c u hk hu=> ?_⟩
   have hjj:aT (qB (qB σ (.o j) (.row e es [])) (.o b) (.box ty (cs.set q (.own j 0)))) (.o j)=some (.row e es []):=by
    rw[cN _ _ (by simpa using hbj),cX]
   by_cases hkq:k=q
   · subst hkq
     have hlt:k<cs.length:=(aXh.1 hq).1
     rw[List.getElem?_set_self hlt] at hk
     cases hk
     have hv:u= .slice none 0 0:=hc k .nil u hq hu
     subst hv
     refine⟨rfl,.inl ⟨e,es,[],hjj,aXi _,fun _=> ?_⟩⟩
     simp[hbj.symm]
   · rw[List.getElem?_set_ne (fun h=>hkq h.symm)] at hk
     refine CR.step ?_ (hc k c u hk hu)
     refine⟨fun _ h=>h,fun _ _=>rfl,fun o k0 ho=> ?_⟩
     by_cases eo:o=b
     · subst eo
       rw[hs1] at ho;cases ho
       refine⟨_,cX _ _ _,?_⟩
       simp only[if_true]
       rw[hp]
       simp[nQ]
     · refine⟨k0,by rw[cN _ _ (by simpa using fun h=>eo h.symm)];exact ho,?_⟩
       simp only[if_neg eo]
       exact nQ.refl' _ _
theorem SW.nilBox {P:Program} {io:List Nat} {Q:Ex→St→Prop} {σ:St} {c:Code} (b j q:Nat) {ty:TypeId} {cs:List C} (e:TypeId) (es:Nat) (hs:aT σ (.o b)=some (.box ty cs)) (hq:cs[q]? =some .nil) (hj:aT σ (.o j)=none)
 (h:nS σ [(.o j,.row e es []),(.o b,.box ty (cs.set q (.own j 0)))] (SW P io c Q)):SW P io c Q σ:=by
 rw[kX] at h
 intro cx ι S a w hio hw hf
 obtain⟨ι',hw'⟩:=hw.nilBox e es hs hq hj
 exact h cx ι' S a w hio hw' hf
set_option linter.unusedVariables false
set_option linter.unusedSimpArgs false
theorem Spec.told {P:Program} {f:FuncId} {n:Nat} {σin σout σ':St} {rl:List (Nat×Nat)} {bor:List Nat} (h:Spec P f n σin σout) (hm:mL σout σ' rl bor σ') (hm2:bd σ' rl bor=true) (h0:cD σin=[]):Spec P f n σin σ':=by
 have hno: ∀o k,aT σin (.o o)=some k→False:=fun o k hk=>by have:=fM hk;rw[h0] at this;cases this
 refine⟨h.1,fun ι ν S w args hg h1 h2 h3=>nU (fun ex w'=> ?_) (h.2 ι ν S w args hg h1 h2 h3)⟩
 rintro⟨v,ι',S',rfl,hp⟩
 have hM:oY σout σ' rl bor:=⟨hm,hm2⟩
 refine⟨v,fun j=>ι' (kL rl j),qI σout ι' bor S',rfl,hp.fr,vE hM (fun _ _ h=>h) hp.vr,fun b hb=> ?_,fun o b hmu=> ?_,fun o k k' hk hk'=>(hno o k hk).elim⟩
 · rcases hb with hb|⟨o,_,hb⟩
   · exact hp.rd b hb
   · exact .inr (hp.own o b hb)
 · obtain⟨⟨k',hk',hl'⟩,hb⟩:=hmu
   obtain⟨k,hk,hmk⟩:=hM.ids o k' hk'
   exact hp.own (kL rl o) b ⟨⟨k,hk,(aJ7 hmk).1⟩,hb⟩
theorem aW0 {X Y:V} {a a' b b' c c':Int} (e0:a=a') (e1:b=b') (e2:c=c'): [(dH.t 0,K.v X),(.t 1,.v Y),(.t 2,.v (.e (.agg [.d (.i a'),.d (.i b'),.d (.i c')])))]=eV 0 [X,Y,.e (.agg [.d (.i a),.d (.i b),.d (.i c)])]:=by
 subst e0;subst e1;subst e2;rfl
theorem aDw {l:List (List UInt8)} (h:iQ l=true) {i:Nat} (hi:i<l.length):zy (((cZ (kU l)).getD i []).getD 0 (.i 0))=jB (l.getD i []):=by
 rw[gV (by rw[iH h];exact hi)]
 show(kU l).getD i 0=_
 rw[aF5 h hi]
theorem zQ (t:List UInt8): (eB t).1.text.length≤t.length:=by
 unfold eB
 split
 · exact aXd _
 · exact wm 4 t
theorem count_le: ∀(n:Nat) (s:List UInt8),s.length≤n→Lib.count s [32]≤s.length
 |0,s,h=>by
  rw[List.eq_nil_of_length_eq_zero (Nat.le_zero.1 h),tE];exact aXi _
 |n+1,s,h=>by
  rw[tE]
  by_cases hs:fX s=true
  · have:=oz hs
    have:=count_le n (aO s) (by omega)
    rw[if_pos hs];omega
  · rw[if_neg hs];exact aXd _
theorem aMb (s:List UInt8): (dG s).length≤s.length+1:=by
 have:=count_le s.length s (aXi _)
 have:=(wl (Lib.count s [32]) s).1
 unfold dG;omega
theorem aO8 (s:List UInt8): ∀x∈dG s,x.length≤s.length:=ld _ s
section
variable {k:bC} {rec:List UInt8}
theorem aMc (h:fX rec=false):eM k rec=(k,false):=if_neg (bn h)
theorem wt (h:fX rec=true) (hw: (bH rec==jG||bH rec==jM)=true) (hn: (jP (aO rec)).isSome=true):eM k rec=lH k (bH rec) (jB (aO rec)):=(if_pos h).trans ((if_pos hw).trans (if_pos hn))
theorem fa (h:fX rec=true) (hw: (bH rec==jG||bH rec==jM)=true) (hn: (jP (aO rec)).isSome=false):eM k rec=(k,false):=(if_pos h).trans ((if_pos hw).trans (if_neg (bn hn)))
theorem aB9 (h:fX rec=true) (hw: (bH rec==jG||bH rec==jM)=false) (hw2: (bH rec==iG||bH rec==fL||bH rec==hG||bH rec==fP)=true) (hn: (eB (aO rec)).2=true):eM k rec=fN k (bH rec) (eB (aO rec)).1:=(if_pos h).trans ((if_neg (bn hw)).trans ((if_pos hw2).trans (if_pos hn)))
theorem rZ (h:fX rec=true) (hw: (bH rec==jG||bH rec==jM)=false) (hw2: (bH rec==iG||bH rec==fL||bH rec==hG||bH rec==fP)=true) (hn: (eB (aO rec)).2=false):eM k rec=(k,false):=(if_pos h).trans ((if_neg (bn hw)).trans ((if_pos hw2).trans (if_neg (bn hn))))
theorem aCa (h:fX rec=true) (hw: (bH rec==jG||bH rec==jM)=false) (hw2: (bH rec==iG||bH rec==fL||bH rec==hG||bH rec==fP)=false) (hw3: (bH rec==nP||bH rec==jY||bH rec==iF)=true) (hn: (iQ (dG (aO rec))&&(dG (aO rec)).length==3)=true):
 eM k rec=iL k (bH rec) (three (dG (aO rec))):=(if_pos h).trans ((if_neg (bn hw)).trans ((if_neg (bn hw2)).trans ((if_pos hw3).trans (if_pos hn))))
theorem zR (h:fX rec=true) (hw: (bH rec==jG||bH rec==jM)=false) (hw2: (bH rec==iG||bH rec==fL||bH rec==hG||bH rec==fP)=false) (hw3: (bH rec==nP||bH rec==jY||bH rec==iF)=true) (hn: (iQ (dG (aO rec))&&(dG (aO rec)).length==3)=false):
 eM k rec=(k,false):=(if_pos h).trans ((if_neg (bn hw)).trans ((if_neg (bn hw2)).trans ((if_pos hw3).trans (if_neg (bn hn)))))
theorem ll (h:fX rec=true) (hw: (bH rec==jG||bH rec==jM)=false) (hw2: (bH rec==iG||bH rec==fL||bH rec==hG||bH rec==fP)=false) (hw3: (bH rec==nP||bH rec==jY||bH rec==iF)=false):
 eM k rec=(k,false):=(if_pos h).trans ((if_neg (bn hw)).trans ((if_neg (bn hw2)).trans (if_neg (bn hw3))))
theorem aCb {l:List (List UInt8)} {c:Bool} (h: (iQ l&&((cZ (kU l)).length:Int)==3)=c): (iQ l&&l.length==3)=c:=by
 subst h
 cases hn:iQ l with
 |false=>rfl
 |true=>
  rw[cH,iH hn,Bool.true_and,Bool.true_and]
  by_cases h:l.length=3
  · rw[h];rfl
  · rw[show(l.length==3)=false by simpa using h]
    symm
    rw[beq_eq_false_iff_ne]
    omega
end
def KB (k:bC):Prop:=(k.held.length≤100000∧k.marks.length≤100000∧k.inbox.length≤100000)∧(∀x∈k.held,x.text.length≤140737488355328)∧(∀x∈k.inbox,x.text.length≤140737488355328)
theorem KB.zero:KB .zero:=⟨⟨aXd _,aXd _,aXd _⟩,fun x h=>(by cases h),fun x h=>(by cases h)⟩
theorem tF {l:List bA} (h:kC l=true) {x:bA} (hx:x∈l):eL x=true:=by
 obtain⟨i,hi⟩:=aXq.1 hx
 have hlt:=(aXh.1 hi).1
 have h1:=aXl.1 h i (List.mem_range.2 hlt)
 unfold lU at h1
 rw[aXb] at h1
 have h2:=h1.1
 rw[aXe,hi] at h2
 exact h2
theorem sc {n:bA} (h:eL n=true):n.text.length≤140737488355328:=by
 have:=mH h;omega
def KS (k:bC):Prop:=(k.held.length≤7∧k.marks.length≤13∧k.inbox.length≤7)∧(∀x∈k.held,x.text.length≤140737488355328)∧(∀x∈k.inbox,x.text.length≤140737488355328)
theorem KS.big {k:bC} (h:KS k):KB k:=⟨⟨by have:=h.1;omega,by have:=h.1;omega,by have:=h.1;omega⟩,h.2⟩
def K6 (k:bC):Prop:=(k.held.length≤6∧k.marks.length≤12∧k.inbox.length≤6)∧(∀x∈k.held,x.text.length≤140737488355328)∧(∀x∈k.inbox,x.text.length≤140737488355328)
theorem eZ {k:bC} (h:dC k=true):K6 k:=by
 obtain⟨⟨_,_,_,h1,h2,h3⟩,⟨h4,h5,h6⟩,_⟩:=(cB k).1 h
 exact⟨⟨h1,h2,h3⟩,fun x hx=>sc (tF h4 hx),fun x hx=>sc (tF h6 hx)⟩
theorem K6.seven {k:bC} (h:K6 k):KS k:=⟨⟨by have:=h.1;omega,by have:=h.1;omega,by have:=h.1;omega⟩,h.2⟩
theorem yG {α:Type} (l:List α) (i:Nat): (gK l i).length≤l.length:=by
 rw[gK,aW7,aXc,aXf];omega
theorem aCc {k:bC} {n:bA} (h:K6 k) (hn:n.text.length≤140737488355328):KS (fF k n).1:=by
 unfold fF
 split
 · simp only
   split
   · refine⟨⟨by have:=h.1;simp only;omega,?_,?_⟩,h.2.1,?_⟩
     · have:=h.1;rw[ez,fR];omega
     · have:=h.1;rw[yF,fR];omega
     · intro x hx
       rw[yF,yE] at hx
       rcases hx with rfl|hx
       · exact hn
       · exact h.2.2 x hx
   · refine⟨⟨?_,by have:=h.1;simp only;omega,by have:=h.1;simp only;omega⟩,?_,h.2.2⟩
     · have:=h.1;rw[yF,fR];omega
     · intro x hx
       rw[yF,yE] at hx
       rcases hx with rfl|hx
       · exact hn
       · exact h.2.1 x hx
 · exact h.seven
theorem wu {k:bC} {t:Int} (h:K6 k):KS (kR k t):=by
 have h1:=List.length_filter_le (fun n:bA=>decide (t<n.til)) k.held
 have h2:=List.length_filter_le (fun n:cA=>decide (t<n.til)) k.marks
 exact⟨⟨by have:=h.1;simp only[kR];omega,by have:=h.1;simp only[kR];omega,by have:=h.1;simp only[kR];omega⟩,fun x hx=>h.2.1 x (List.mem_filter.1 hx).1,h.2.2⟩
theorem aDx {k:bC} {n:bA} (h:K6 k) (hn:n.text.length≤140737488355328) {p:bA→Bool}:KS {k with held:=qQ p n k.held}:=
 ⟨⟨by have:=h.1;simp only[fR];omega,by have:=h.1;simp only;omega,by have:=h.1;simp only;omega⟩,fun x hx=>by rcases yE.1 hx with rfl|hx;exact hn;exact h.2.1 x hx,h.2.2⟩
theorem aF8 {k:bC} {n:bA} (h:K6 k) (hn:n.text.length≤140737488355328) {p:bA→Bool}:KS {k with inbox:=qQ p n k.inbox}:=
 ⟨⟨by have:=h.1;simp only;omega,by have:=h.1;simp only;omega,by have:=h.1;simp only[fR];omega⟩,h.2.1,fun x hx=>by rcases yE.1 hx with rfl|hx;exact hn;exact h.2.2 x hx⟩
theorem aO9 {k:bC} {w:List UInt8} {n:Int} (h:K6 k):KS (lH k w n).1:=by
 unfold lH
 split
 · exact wu h
 · split
   · exact h.seven
   · exact h.seven
theorem aMd {k:bC} {w:List UInt8} {n:bA} (h:K6 k) (hn:n.text.length≤140737488355328):KS (fN k w n).1:=by
 unfold fN
 split
 · exact aCc (k:={k with next:=wrap64 (k.next+1)}) h hn
 · split
   · exact aCc h hn
   · split
     · exact h.seven
     · split
       · exact aDx h hn
       · split
         · exact aF8 h hn
         · exact h.seven
theorem aMe {k:bC} {w:List UInt8} {m:cA} (h:K6 k):KS (iL k w m).1:=by
 unfold iL
 split
 · refine⟨⟨?_,?_,by have:=h.1;simp only;omega⟩,fun x hx=>h.2.1 x (ey hx),h.2.2⟩
   · have:=h.1;have h1:=yG k.held (aS k.held m.frm m.num).toNat;simp only;omega
   · have:=h.1;rw[ez,fR];omega
 · split
   · refine⟨⟨by have:=h.1;simp only;omega,by have:=h.1;simp only;omega,?_⟩,h.2.1,fun x hx=>h.2.2 x (ey hx)⟩
     have:=h.1;have h1:=yG k.inbox (aS k.inbox m.frm m.num).toNat;simp only;omega
   · split
     · exact⟨⟨by have:=h.1;simp only;omega,by have:=h.1;rw[ez,fR];omega,by have:=h.1;simp only;omega⟩,h.2⟩
     · exact h.seven
theorem pb {k:bC} {rec:List UInt8} (h:K6 k) (hr:rec.length≤1000000):KS (eM k rec).1:=by
 have ht: (eB (aO rec)).1.text.length≤140737488355328:=by
  have h1:=zQ (aO rec)
  have h2:=uX rec
  omega
 unfold eM
 repeat' split
 all_goals first|exact h.seven|exact aO9 h|exact aMd h ht|exact aMe h
theorem aCd {k:bC} {rec:List UInt8}:K6 (cL k rec).1:=by
 unfold cL
 split
 · rename_i hk
   unfold kW
   split
   · rename_i h
     rw[aXb] at h
     exact eZ h.2
   · exact eZ hk
 · exact⟨⟨aXd _,aXd _,aXd _⟩,fun x h=>(by cases h),fun x h=>(by cases h)⟩
theorem lm (id:Int):K6 (dU id):=by
 unfold dU
 split<;>exact⟨⟨aXd _,aXd _,aXd _⟩,fun x h=>(by cases h),fun x h=>(by cases h)⟩
set_option linter.unusedVariables false
set_option linter.unusedSimpArgs false
theorem aKn {a a':Int} (e:a=a'): [(dH.t 0,K.v (I a'))]=eV 0 [I a]:=by subst e;rfl
theorem wv {X:V} {a a' b b':Int} (e0:a=a') (e1:b=b'): [(dH.t 0,K.v X),(.t 1,.v (I a')),(.t 2,.v (I b'))]=eV 0 [X,I a,I b]:=by subst e0;subst e1;rfl
theorem aPa {X:V} {a a' b b' c c':Int} (e0:a=a') (e1:b=b') (e2:c=c'): [(dH.t 0,K.v X),(.t 1,.v (.e (.agg [.d (.i a'),.d (.i b'),.d (.i c')])))]=eV 0 [X,.e (.agg [.d (.i a),.d (.i b),.d (.i c)])]:=by subst e0;subst e1;subst e2;rfl
theorem ww {n:Nat} {s:List UInt8} {i:Nat} (hi:i<n):zy (((cZ (fD n s)).getD i []).getD 0 (.i 0))=dO s i:=by
 rw[gV (by rw[bP];exact hi)]
 exact aF6 hi
theorem nA {n:Int} (h: -1≤n∧n≤9999): (pa n).length≤6:=by
 unfold pa
 by_cases h0:n<0
 · rw[if_pos h0]
   have:=bS (k:=3) (n:=(-n).toNat) (by simp;omega)
   simp;omega
 · rw[if_neg h0]
   have:=bS (k:=3) (n:=n.toNat) (by simp;omega)
   omega
theorem gP (s:List UInt8) (i:Nat): -1≤dO s i∧dO s i≤9999:=zL _
theorem fb {a:Int} {x y c:Bool} (h: (decide (a<0)||x)=c) (hx:0≤a→x=y): (decide (a<0)||y)=c:=by
 by_cases h0:0≤a
 · rw[← hx h0];exact h
 · rw[show decide (a<0)=true from decide_eq_true (by omega),Bool.true_or] at h ⊢; exact h
theorem aPb {k:bC} {n:bA} (h: (!ip k n)=true):mZ k n=(k,false):=if_neg (by simpa using h)
theorem aPc {k:bC} {n:bA} (hb:k.held.length≤100000∧k.marks.length≤100000∧k.inbox.length≤100000) (h: (!ip k n)=false) (ht: (n.to != k.id)=true):
 mZ k n=({k with held:=kE k.held n},decide (wrap64 ((aE (kE k.held n)).length+(aP k.marks).length)≤12)):=by
 have hl: (kE k.held n).length=k.held.length+1:=fR
 rw[aC,aN,aB (by omega)]
 exact(if_pos (by simpa using h)).trans (if_pos ht)
theorem aPd {k:bC} {n:bA} (hb:k.held.length≤100000∧k.marks.length≤100000∧k.inbox.length≤100000) (h: (!ip k n)=false) (ht: (n.to != k.id)=false):
 mZ k n=({k with inbox:=kE k.inbox n,marks:=oM k.marks ⟨n.frm,n.num,n.til⟩},decide (wrap64 ((aE k.held).length+(aP (oM k.marks ⟨n.frm,n.num,n.til⟩)).length)≤12)):=by
 have hl: (oM k.marks ⟨n.frm,n.num,n.til⟩).length=k.marks.length+1:=fR
 rw[aC,aN,aB (by omega)]
 exact(if_pos (by simpa using h)).trans (if_neg (bn ht))
theorem aRq {k:bC} {a b:Int} (h:K6 k):KS (lf k a b).1:=by
 unfold lf
 split
 · refine⟨⟨?_,?_,by have:=h.1;simp only;omega⟩,fun x hx=>h.2.1 x (ey hx),h.2.2⟩
   · have:=h.1;have h1:=yG k.held (aS k.held a b).toNat;simp only;omega
   · have:=h.1;rw[vM,fR];omega
 · exact h.seven
theorem aRr {k:bC} {a b:Int} (h:K6 k):KS (li k a b).1:=by
 unfold li
 split
 · refine⟨⟨by have:=h.1;simp only;omega,by have:=h.1;simp only;omega,?_⟩,h.2.1,fun x hx=>h.2.2 x (ey hx)⟩
   have:=h.1;have h1:=yG k.inbox (aS k.inbox a b).toNat;simp only;omega
 · exact h.seven
theorem aF9 {k:bC} {n:bA} (h:K6 k) (hn:n.text.length≤140737488355328):KS (mZ k n).1:=by
 unfold mZ
 split
 · split
   · exact aDx h hn
   · refine⟨⟨by have:=h.1;simp only;omega,?_,?_⟩,h.2.1,?_⟩
     · have:=h.1;rw[vM,fR];omega
     · have:=h.1;rw[zN,fR];omega
     · intro x hx
       rw[zN,yE] at hx
       rcases hx with rfl|hx
       · exact hn
       · exact h.2.2 x hx
 · exact h.seven
theorem nK {c:Prop} [Decidable c] {a b:bC×Bool} (ha:KS a.1) (hb:KS b.1):KS (if c then a else b).1:=by
 split
 · exact ha
 · exact hb
theorem fd {k:bC} {rec:List UInt8} (h:K6 k) (hr:rec.length≤1000000):KS (gO k rec).1:=by
 have ht: (eB (aO rec)).1.text.length≤140737488355328:=by
  have h1:=zQ (aO rec)
  have h2:=uX rec
  omega
 have hm:KS {k with marks:=oM k.marks (iA (aO rec))}:=⟨⟨by have:=h.1;simp only;omega,by have:=h.1;simp only[vM,fR];omega,by have:=h.1;simp only;omega⟩,h.2⟩
 unfold gO
 exact nK (nK h.seven (wu h)) (nK (nK h.seven (aF9 (k:={k with next:=wrap64 (k.next+1)}) h ht)) (nK (nK h.seven (aF9 h ht)) (nK (nK h.seven h.seven)
  (nK (nK h.seven (nK (aDx h ht) (aF8 h ht))) (nK h.seven (nK (nK h.seven (aRq h)) (nK (nK h.seven (aRr h)) (nK (nK h.seven hm) h.seven))))))))
set_option linter.unusedVariables false
set_option linter.unusedSimpArgs false
theorem aW1 {X:V} {a a':List UInt8} (e:a=a'): [(dH.t 0,K.v X),(.t 1,.v (Dv (.s a')))]=eV 0 [X,Dv (.s a)]:=by subst e;rfl
theorem ln {a b c d:Int} (h: ¬(a=c∧b=d)):cE a b c d= !cE c d a b:=by
 unfold cE
 by_cases h1:a=c
 · subst h1
   have h2: ¬b=d:=fun e=>h ⟨rfl,e⟩
   by_cases h3:b<d
   · simp[h3,Int.not_lt.2 (Int.le_of_lt h3)]
   · simp[h3,show d<b by omega]
 · by_cases h3:a<c
   · simp[h3,Int.not_lt.2 (Int.le_of_lt h3)]
     exact .inl fun e=>h1 e.symm
   · simp[h3,h1,show c<a by omega]
theorem tS {α:Type} {p q:α→Bool}: ∀{l:List α},(∀x∈l,p x=q x)→l.takeWhile p=l.takeWhile q∧l.dropWhile p=l.dropWhile q
 | [],_=>⟨rfl,rfl⟩
 |x::l,h=>by
  have hx:=h x (List.mem_cons_self ..)
  obtain⟨h1,h2⟩:=tS (l:=l) fun y hy=>h y (List.mem_cons_of_mem _ hy)
  simp only[List.takeWhile,List.dropWhile,hx,h1,h2,and_self]
theorem zS {l:List bA} {f m:Int} (h:aS l f m<0) {x:bA} (hx:x∈l): ¬(x.frm=f∧x.num=m):=by
 rintro⟨e1,e2⟩
 obtain⟨i,hi⟩:=aXq.1 hx
 have hlt:=(aXh.1 hi).1
 rcases gR (nJ l f m) l.length 0 with h1|⟨k,h1,_,h2,_⟩
 · have h3:nJ l f m i=true:=by
    unfold nJ
    rw[aXe,hi]
    simp[e1,e2]
   have: ∀n j,j≤i→i<j+n→lG (nJ l f m) j n≠ -1:=by
    intro n
    induction n with
    |zero=>intro j h4 h5;omega
    |succ n ih=>
     intro j h4 h5
     unfold lG
     split
     · omega
     · rename_i h6
       by_cases e:j=i
       · subst e;exact absurd h3 h6
       · exact ih (j+1) (by omega) (by omega)
   exact this l.length 0 (aXd _) (by omega) h1
 · rw[aS,h1] at h;omega
theorem iq {l:List cA} {f m:Int} (h:gN l f m<0) {x:cA} (hx:x∈l): ¬(x.frm=f∧x.num=m):=by
 rintro⟨e1,e2⟩
 obtain⟨i,hi⟩:=aXq.1 hx
 have hlt:=(aXh.1 hi).1
 rcases gR (rY l f m) l.length 0 with h1|⟨k,h1,_,h2,_⟩
 · have h3:rY l f m i=true:=by
    unfold rY
    rw[aXe,hi]
    simp[e1,e2]
   have: ∀n j,j≤i→i<j+n→lG (rY l f m) j n≠ -1:=by
    intro n
    induction n with
    |zero=>intro j h4 h5;omega
    |succ n ih=>
     intro j h4 h5
     unfold lG
     split
     · omega
     · rename_i h6
       by_cases e:j=i
       · subst e;exact absurd h3 h6
       · exact ih (j+1) (by omega) (by omega)
   exact this l.length 0 (aXd _) (by omega) h1
 · rw[gN,h1] at h;omega
theorem zT {l:List bA} {n:bA} (h:aS l n.frm n.num<0):kE l n=kD l n:=by
 obtain⟨h1,h2⟩:=tS (p:=fun x:bA=> !cE n.frm n.num x.frm x.num) (q:=fun x=>cE x.frm x.num n.frm n.num) (l:=l) fun x hx=>(ln (zS h hx)).symm
 unfold kE kD
 rw[h1,h2]
theorem ir {l:List cA} {n:cA} (h:gN l n.frm n.num<0):oM l n=pR l n:=by
 obtain⟨h1,h2⟩:=tS (p:=fun x:cA=> !cE n.frm n.num x.frm x.num) (q:=fun x=>cE x.frm x.num n.frm n.num) (l:=l) fun x hx=>(ln (iq h hx)).symm
 unfold oM pR
 rw[h1,h2]
theorem aMf (k:bC) (n:bA):ip k n=uB k n:=by
 unfold ip uB
 cases decide (aS k.inbox n.frm n.num<0)<;>cases decide (gN k.marks n.frm n.num<0)<;>simp
def qR (k:bC) (x y:bC×Bool):Prop:=kW k x=kW k y
theorem qR.rfl {k:bC} {x:bC×Bool}:qR k x x:=Eq.refl _
theorem qR.of {k:bC} {x y:bC×Bool} (h:x=y):qR k x y:=h▸qR.rfl
theorem qS {k:bC} {x:bC×Bool} (h:x.2=false∨dC x.1=false):kW k x=(k,false):=by
 unfold kW
 rw[if_neg]
 rcases h with h|h<;>simp[h]
theorem qR.no {k:bC} {x y:bC×Bool} (h:x.2=false∨dC x.1=false) (h':y.2=false∨dC y.1=false):qR k x y:=(qS h).trans (qS h').symm
theorem wx {k0 k:bC} (n:bA):qR k0 (fF k n) (mZ k n):=by
 unfold fF mZ
 rw[aMf]
 cases hf:uB k n with
 |false=>exact .of (by simp)
 |true=>
  have h2:=hf
  simp only[uB,aXb,decide_eq_true_eq] at h2
  obtain⟨⟨⟨⟨_,_⟩,q1⟩,q2⟩,q3⟩:=h2
  have hm: (pR k.marks ⟨n.frm,n.num,n.til⟩).length=k.marks.length+1:=fR
  have hh: (kD k.held n).length=k.held.length+1:=fR
  rw[zT q1,zT q2,ir (n:=⟨n.frm,n.num,n.til⟩) q3,hm,hh]
  by_cases hl: (k.held.length:Int)+k.marks.length+1≤12
  · have e1:decide ((k.held.length:Int)+k.marks.length+1≤12)=true:=decide_eq_true hl
    have e2:decide (((k.held.length+1:Nat):Int)+k.marks.length≤12)=true:=decide_eq_true (by omega)
    have e3:decide ((k.held.length:Int)+((k.marks.length+1:Nat):Int)≤12)=true:=decide_eq_true (by omega)
    rw[e1,e2,e3]
    by_cases ht:n.to=k.id
    · simp[ht];exact .rfl
    · simp[ht];exact .rfl
  · have e1:decide ((k.held.length:Int)+k.marks.length+1≤12)=false:=decide_eq_false hl
    have e2:decide (((k.held.length+1:Nat):Int)+k.marks.length≤12)=false:=decide_eq_false (by omega)
    have e3:decide ((k.held.length:Int)+((k.marks.length+1:Nat):Int)≤12)=false:=decide_eq_false (by omega)
    rw[e1,e2,e3]
    refine .no (.inl (by simp)) (.inl ?_)
    by_cases ht:n.to=k.id<;>simp[ht]
theorem uY {s:List UInt8} {n:Nat} (h:jP s=some n):jZ n=s∧1≤s.length∧s.length≤5:=by
 unfold jP at h
 split at h
 · rename_i hc
   cases h
   exact⟨(wB hc.1.1 hc.2.2).2 hc.2.1,hc.1.1,hc.1.2⟩
 · cases h
theorem aPe {s:List UInt8} {n:Nat} (h:jP s=some n) (h5:4<s.length):10000≤n:=by
 obtain⟨h1,_,_⟩:=uY h
 by_cases hn:n<10 ^ (3+1)
 · have:=bS hn
   rw[h1] at this;omega
 · simpa using hn
theorem wy {s:List UInt8} {n:Nat} (h:jP s=some n) (hn:n<10000):gW s=n:=by
 have hl:s.length≤4:=by
  by_cases h5:4<s.length
  · have:=aPe h h5;omega
  · omega
 rw[yA hl,h]
theorem aCe {s:List UInt8} (h:jP s=none):gW s= -1:=by
 by_cases hl:s.length≤4
 · rw[yA hl,h]
 · unfold gW
   rw[if_neg (by omega)]
theorem aCf {s:List UInt8} (h:4<s.length):gW s= -1:=by
 unfold gW
 rw[if_neg (by omega)]
theorem aGa {k:bC} {n:Int} (h:999<n):dC (kR k n)=false:=by
 cases hk:dC (kR k n) with
 |false=>rfl
 |true=>
  obtain⟨⟨_,⟨_,h2⟩,_⟩,_⟩:=(cB _).1 hk
  simp only[kR] at h2
  omega
theorem aPf {k:bC} {n:Int} (h:100<n):dC {k with next:=n}=false:=by
 cases hk:dC {k with next:=n} with
 |false=>rfl
 |true=>
  obtain⟨⟨_,_,⟨_,h2⟩,_⟩,_⟩:=(cB _).1 hk
  simp only at h2
  omega
theorem sA {s:List UInt8} {n:Nat} (h:jP s=some n):jB s=n:=by rw[jB,h]
theorem aIt {k:bC} (hk:dC k=true) (r:List UInt8):qR k (if(jP r).isSome then lH k jG (jB r) else(k,false)) (if gW r≤k.time then(k,false) else(kR k (gW r),true)):=by
 obtain⟨⟨_,⟨t0,t1⟩,_⟩,_⟩:=(cB _).1 hk
 cases h:jP r with
 |none=>
  rw[aCe h,if_neg (show ¬((none:Option Nat).isSome=true) by simp),if_pos (show(-1:Int)≤k.time by omega)]
  exact .rfl
 |some n=>
  rw[sA h,if_pos (show(some n).isSome=true from rfl)]
  by_cases hn:n<10000
  · rw[wy h hn]
    by_cases ht:k.time<n
    · rw[if_neg (by omega)]
      exact .of (if_pos (by simp[ht]))
    · rw[if_pos (by omega)]
      exact .of ((if_neg (by simp[ht])).trans (if_neg (by simp[jG,jM])))
  · have hl:gW r= -1:=aCf (by
     by_cases h5:4<r.length
     · exact h5
     · have:=uY h
       have h6:=yA (s:=r) (by omega)
       rw[h] at h6
       have h7:=zL r
       simp only at h6
       omega)
    rw[hl,if_pos (by omega),lH,if_pos (by simp;omega)]
    exact .no (.inr (aGa (by omega))) (.inl rfl)
theorem aIu {k:bC} (hk:dC k=true) (r:List UInt8):qR k (if(jP r).isSome then lH k jM (jB r) else(k,false)) (if gW r≤k.next then(k,false) else({k with next:=gW r},true)):=by
 obtain⟨⟨_,_,⟨t0,t1⟩,_⟩,_⟩:=(cB _).1 hk
 cases h:jP r with
 |none=>
  rw[aCe h,if_neg (show ¬((none:Option Nat).isSome=true) by simp),if_pos (show(-1:Int)≤k.next by omega)]
  exact .rfl
 |some n=>
  rw[sA h,if_pos (show(some n).isSome=true from rfl)]
  have e1: (jM==jG)=false:=by decide
  by_cases hn:n<10000
  · rw[wy h hn]
    by_cases ht:k.next<n
    · rw[if_neg (by omega)]
      exact .of ((if_neg (by simp[e1])).trans (if_pos (by simp[ht])))
    · rw[if_pos (by omega)]
      exact .of ((if_neg (by simp[e1])).trans (if_neg (by simp[ht])))
  · have hl:gW r= -1:=aCf (by
     by_cases h5:4<r.length
     · exact h5
     · have:=uY h
       have h6:=yA (s:=r) (by omega)
       rw[h] at h6
       have h7:=zL r
       simp only at h6
       omega)
    rw[hl,if_pos (by omega),lH,if_neg (by simp[e1]),if_pos (by simp;omega)]
    exact .no (.inr (aPf (by omega))) (.inl rfl)
theorem aMg {k:bC} (x:bA×Bool):qR k (if x.2 then fN k iG x.1 else(k,false)) (if !x.2||x.1.frm != k.id||x.1.num != k.next then(k,false) else mZ {k with next:=wrap64 (k.next+1)} x.1):=by
 obtain⟨n,b⟩:=x
 cases b with
 |false=>exact .of (by simp)
 |true=>
  rw[if_pos (show(n,true).2=true from rfl)]
  show qR k (fN k iG n) (if(!true)||n.frm != k.id||n.num != k.next then(k,false) else mZ {k with next:=wrap64 (k.next+1)} n)
  by_cases h:n.frm=k.id∧n.num=k.next
  · have hL:fN k iG n=fF {k with next:=wrap64 (k.next+1)} n:=if_pos (by simp[h])
    rw[hL,if_neg (by simp[h])]
    exact wx n
  · have hL:fN k iG n=(k,false):=by
     refine(if_neg (by simp;exact fun a b=>h ⟨a,b⟩)).trans ((if_neg (by simp[iG,fL])).trans ?_)
     split
     · rfl
     · simp[iG,hG,fP]
    have hR: ((!true)||n.frm != k.id||n.num != k.next)=true:=by
     by_cases h1:n.frm=k.id
     · have h2: ¬n.num=k.next:=fun h2=>h ⟨h1,h2⟩
       simp[h2]
     · simp[h1]
    rw[hL,if_pos hR]
    exact .rfl
theorem aGb {k:bC} (x:bA×Bool):qR k (if x.2 then fN k fL x.1 else(k,false)) (if !x.2||x.1.frm==k.id then(k,false) else mZ k x.1):=by
 obtain⟨n,b⟩:=x
 cases b with
 |false=>exact .of (by simp)
 |true=>
  rw[if_pos (show(n,true).2=true from rfl)]
  show qR k (fN k fL n) (if(!true)||n.frm==k.id then(k,false) else mZ k n)
  by_cases h:n.frm=k.id
  · have hL:fN k fL n=(k,false):=by
     refine(if_neg (by simp[fL,iG])).trans ((if_neg (by simp[h])).trans ?_)
     split
     · rfl
     · simp[fL,hG,fP]
    rw[hL,if_pos (by simp[h])]
    exact .rfl
  · have hL:fN k fL n=fF k n:=(if_neg (by simp[fL,iG])).trans (if_pos (by simp[h]))
    rw[hL,if_neg (by simp[h])]
    exact wx n
theorem aIv {k:bC} (w:List UInt8) (hw:w=hG∨w=fP) (x:bA×Bool):qR k (if x.2 then fN k w x.1 else(k,false))
 (if !x.2||decide (aS k.held x.1.frm x.1.num≥0)||decide (aS k.inbox x.1.frm x.1.num≥0) then(k,false)
  else if w==hG then({k with held:=kE k.held x.1},true) else({k with inbox:=kE k.inbox x.1},true)):=by
 obtain⟨n,b⟩:=x
 cases b with
 |false=>exact .of (by simp)
 |true=>
  have e1: (w==iG)=false:=by rcases hw with rfl|rfl<;>decide
  have e2: (w==fL)=false:=by rcases hw with rfl|rfl<;>decide
  rw[if_pos (show(n,true).2=true from rfl)]
  show qR k (fN k w n) (if(!true)||decide (aS k.held n.frm n.num≥0)||decide (aS k.inbox n.frm n.num≥0) then(k,false)
   else if w==hG then({k with held:=kE k.held n},true) else({k with inbox:=kE k.inbox n},true))
  by_cases h:0≤aS k.held n.frm n.num∨0≤aS k.inbox n.frm n.num
  · have hL:fN k w n=(k,false):=(if_neg (by simp[e1])).trans ((if_neg (by simp[e2])).trans (if_pos (by simpa using h)))
    rw[hL,if_pos (by simpa using h)]
    exact .rfl
  · have h1:aS k.held n.frm n.num<0:=by omega
    have h2:aS k.inbox n.frm n.num<0:=by omega
    have h3: ¬(decide (0≤aS k.held n.frm n.num)||decide (0≤aS k.inbox n.frm n.num))=true:=by simpa using h
    have h4: ¬((!true)||decide (aS k.held n.frm n.num≥0)||decide (aS k.inbox n.frm n.num≥0))=true:=by simpa using h
    rw[if_neg h4]
    rcases hw with rfl|rfl
    · have hL:fN k hG n=({k with held:=kD k.held n},true):=(if_neg (by simp[e1])).trans ((if_neg (by simp[e2])).trans ((if_neg h3).trans (if_pos (by decide))))
      rw[hL,if_pos (by decide),zT h1]
      exact .rfl
    · have hL:fN k fP n=({k with inbox:=kD k.inbox n},true):=(if_neg (by simp[e1])).trans ((if_neg (by simp[e2])).trans ((if_neg h3).trans ((if_neg (by decide)).trans (if_pos (by decide)))))
      rw[hL,if_neg (by decide),zT h2]
      exact .rfl
end Go.Ab
