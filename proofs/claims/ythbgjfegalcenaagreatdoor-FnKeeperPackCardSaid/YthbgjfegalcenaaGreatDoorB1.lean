/- Plain functions, and contracts of the functions that the law reaches. -/
import Derived.Laws.StructEq
import Derived.Sort.Grow
import Derived.Deep.Draws
import Derived.Lib.Split
import Derived.Lib.IndexMore
import Derived.Lib.IndexBytes
import Derived.Lib.CountLaws
import Derived.Test.YthbgjfegalcenaaGreatDoorB0
namespace Go.Ab
open Int renaming toNat_natCast→aWz
open List renaming length_append→aW0,length_nil→aW2,length_cons→aW3,length_take→aW5,getD_eq_getElem?_getD→aW7,getElem?_eq_getElem→aW8,length_drop→aW9,getElem?_eq_some_iff→aXb,range→aXc,mem_map→aXd,all_eq_true→aXe,take_length→aXf
open Nat renaming le_of_ble_eq_true→aW1,zero_le→aW6,le_refl→aXa
open Bool renaming and_eq_true→aW4
open Go Go.RowKit
set_option linter.unusedVariables false
set_option linter.unusedSimpArgs false
def zr:D→Int| .i n=>n|_=>0
def toU:D→Int| .u n=>n|_=>0
def toB:D→Bool| .b x=>x|_=>false
def toS:D→List UInt8| .s l=>l|_=>[]
def aQ9:D→List (List D)| .sl r=>r|_=>[]
def aC7 (z:C) (d:D):D:=match z with
 | .d (.i _)=> .i (zr d)
 | .d (.u _)=> .u (toU d)
 | .d (.b _)=> .b (toB d)
 | .d (.s _)=> .s (toS d)
 | .nil=> .sl (aQ9 d)
 |_=>d
def kT:List C→List D→Nat→List D
 | [],_,_=>[]
 |z::zs,cs,k=>aC7 z (cs.getD k (.i 0))::kT zs cs (k+1)
def kd (ti:TI) (l:List D):Option V:=if ti.kind.agg then some (.e (.agg (l.map C.d))) else match l with|d::_=>some (Dv d)| []=>none
def aH2 (T:hD) (σ:St) (t:TypeId):V→Option (Prop×List (dH×Option K)×V)
 | .e (.c (.pe ob n i k))=>match T t,aQ σ (.o ob) with
  |some ti,some (.row e es rows)=>match kd ti (kT ti.zero (rows.getD i []) k) with
   |some X=>some ((rows.length=n∧i<n)∧k+ti.size≤(rows.getD i []).length∧((rows.getD i []).drop k).take ti.size=kT ti.zero (rows.getD i []) k,[(.o ob,some (.row e es rows))],X)
   |none=>none
  |_,_=>none
 | .e (.c (.rp cs))=>match T t with
  |some ti=>match kd ti (kT ti.zero cs 0) with
   |some X=>some (ti.size≤cs.length∧cs.take ti.size=kT ti.zero cs 0,[],X)
   |none=>none
  |none=>none
 |X=>tz T σ t X
theorem qv {ti:TI} {l:List D} {X:V} (h:kd ti l=some X): (ti.kind.agg=true∧X= .e (.agg (l.map C.d)))∨(ti.kind.agg=false∧ ∃d r,l=d::r∧X=Dv d):=by
 unfold kd at h
 split at h
 · rename_i ha;cases h;exact .inl ⟨ha,rfl⟩
 · rename_i ha
   split at h
   · cases h;exact .inr ⟨by simpa using ha,_,_,rfl,rfl⟩
   · cases h
theorem aH3 {P:Program} {T:hD} (hT:dR P T) {σ:St} {t:TypeId} {X:V} {p:Prop} {R:List (dH×Option K)} {Y:V} (h:aH2 T σ t X=some (p,R,Y)) (hp:p): ∃q,tz T σ t X=some (q,R,Y)∧q:=by
 have hd: ∀(l:List D) (k n:Nat) (m:List D) (d:D) (r:List D),0<n→k+n≤l.length→(l.drop k).take n=m→m=d::r→l.getD k (.i 0)=d∧k<l.length:=by
  intro l k n m d r hn hk h1 h2
  subst h1
  cases n with
  |zero=>omega
  |succ n=>
   have hk':k<l.length:=by omega
   rw[List.drop_eq_getElem_cons hk',List.take_succ_cons] at h2
   cases h2
   exact⟨by rw[aW7,aW8 hk'];rfl,hk'⟩
 unfold aH2 at h
 split at h
 · rename_i ob n i k
   split at h<;>try(cases h;done)
   rename_i ti e es rows ht hl
   split at h<;>try(cases h;done)
   rename_i Z hz
   cases h
   obtain⟨⟨h1,h2⟩,h3,h4⟩:=hp
   simp only[tz,ht,hl]
   rcases qv hz with⟨ha,rfl⟩|⟨ha,d,r,hm,rfl⟩
   · rw[if_pos ha]
     refine⟨_,by rw[h4],?_⟩;exact⟨h1,h2,h3⟩
   · rw[if_neg (by simp[ha])]
     obtain⟨q1,q2⟩:=hd _ _ _ _ d r (hT t ti ht).pos h3 h4 hm
     refine⟨_,by rw[q1],?_⟩;exact⟨h1,h2,q2⟩
 · rename_i cs
   split at h<;>try(cases h;done)
   rename_i ti ht
   split at h<;>try(cases h;done)
   rename_i Z hz
   cases h
   obtain⟨h3,h4⟩:=hp
   simp only[tz,ht]
   rcases qv hz with⟨ha,rfl⟩|⟨ha,d,r,hm,rfl⟩
   · rw[if_pos ha]
     refine⟨_,by rw[h4],?_⟩;exact h3
   · rw[if_neg (by simp[ha])]
     obtain⟨q1,q2⟩:=hd cs 0 _ _ d r (hT t ti ht).pos (by simpa using h3) (by simpa using h4) hm
     refine⟨_,by rw[q1],?_⟩;exact q2
 · exact⟨p,h,hp⟩
theorem aLh {P:Program} {o:Oper} {σ:St} {x:Operand} {d:Option Tmp} {f g:V→Option (Prop×List (dH×Option K)×V)} (hfg: ∀X p R Y,g X=some (p,R,Y)→p→ ∃q,f X=some (q,R,Y)∧q)
 (h:lU P o σ (kW σ x d f)):lU P o σ (kW σ x d g):=by
 intro p R W hg hp
 unfold kW at hg
 split at hg<;>try(cases hg;done)
 rename_i X Rx d hx
 split at hg<;>try(cases hg;done)
 rename_i p' R' Y hgx
 cases hg
 obtain⟨q,h1,h2⟩:=hfg _ _ _ _ hgx hp
 exact h q _ _ (by simp only[kW,hx,h1]) h2
theorem cm {P:Program} {w:World} {t:TypeId} (hu:P.underlying t=some .bool) (x y:Bool): (Op.equal t (.bool x) (.bool y)).run P w= .ok (x==y) w:=by
 unfold Op.equal
 rw[show Op.maxDepth=(Op.maxDepth - 1)+1 from rfl]
 unfold Op.equalIn
 rw[Sem.run_bind,run_underlying hu];rfl
theorem cn {P:Program} {w:World} {t:TypeId} (hu:P.underlying t=some .bool) (x y:Bool) (ox oy:Operand):
 (do eqGuard .eql t ox oy (.bool x) (.bool y);binOp .eql t (.bool x) (.bool y):Sem Value).run P w= .ok (.bool (x==y)) w∧
 (do eqGuard .neq t ox oy (.bool x) (.bool y);binOp .neq t (.bool x) (.bool y):Sem Value).run P w= .ok (.bool (!(x==y))) w:=by
 constructor
 · rw[Sem.run_bind,xU,Result.andThen_ok]
   show(do pure (.bool (← Op.equal t (.bool x) (.bool y))):Sem Value).run P w=_
   rw[Sem.run_bind,cm hu];rfl
 · rw[Sem.run_bind,xU,Result.andThen_ok]
   show(do pure (.bool (!(← Op.equal t (.bool x) (.bool y)))):Sem Value).run P w=_
   rw[Sem.run_bind,cm hu];rfl
def aN4 (T:hD) (t:TypeId) (op:BinOp):V→V→Option (Prop×List (dH×Option K)×V)
 | .e (.c (.d (.b x))),.e (.c (.d (.b y)))=>match T t with
  |some ti=>match ti.kind,op with
   | .bool,.eql=>some (True,[],B (x==y))
   | .bool,.neq=>some (True,[],B (!(x==y)))
   |_,_=>none
  |none=>none
 |X,Y=>aP4 op X Y
def aN5 (T:hD) (t:TypeId) (op:BinOp):V→V→Option (Prop×List (dH×Option K)×V)
 | .e (.c (.d (.b x))),.e (.c (.d (.b y)))=>match T t with
  |some ti=>match ti.kind,op with
   | .bool,.eql=>some (True,[],B (x==y))
   | .bool,.neq=>some (True,[],B (!(x==y)))
   |_,_=>none
  |none=>none
 |X,Y=>none
theorem aLi {P:Program} {T:hD} (hT:dR P T) {o:Oper} {σ0:St} {op:BinOp} {t u:TypeId} {x y:Operand} (ho:o.op= .binOp op t x y u):lU P o σ0 (rP σ0 x y o.dst (aN5 T t op)):=by
 refine rU fun X Y p R Z h hp=> ?_
 unfold aN5 at h
 split at h
 · rename_i a b
   split at h<;>try(cases h;done)
   rename_i ti ht
   have hk: (ti.kind= .bool∧op= .eql∧R=[]∧Z=B (a==b))∨(ti.kind= .bool∧op= .neq∧R=[]∧Z=B (!(a==b))):=by
    split at h
    · rename_i hk;cases h;exact .inl ⟨hk,rfl,rfl,rfl⟩
    · rename_i hk;cases h;exact .inr ⟨hk,rfl,rfl,rfl⟩
    · cases h
   have hu:=(hT t ti ht).kind
   have hkk:ti.kind= .bool:=by rcases hk with h|h<;>exact h.1
   rw[hkk] at hu;simp only[lW] at hu
   rcases hk with⟨_,rfl,rfl,rfl⟩|⟨_,rfl,rfl,rfl⟩
   all_goals
    refine⟨bQ.nil,fun cx σ ι S ac w _ _ hx hy=> ?_⟩
    simp only[lT,ER,CR] at hx hy
    cases hv:ac.eval x<;>rw[hv] at hx<;>cases hx
    cases hv2:ac.eval y<;>rw[hv2] at hy<;>cases hy
   · refine⟨_,?_,.b _⟩
     have:=(cn (w:=w) hu a b x y).1
     unfold execOp;simp only[ho,hv,hv2];rw[Sem.run_bind,this];rfl
   · refine⟨_,?_,.b _⟩
     have:=(cn (w:=w) hu a b x y).2
     unfold execOp;simp only[ho,hv,hv2];rw[Sem.run_bind,this];rfl
 · cases h
theorem aLj {P:Program} {T:hD} (hT:dR P T) {o:Oper} {σ0:St} {op:BinOp} {t u:TypeId} {x y:Operand} (ho:o.op= .binOp op t x y u):lU P o σ0 (rP σ0 x y o.dst (aN4 T t op)):=by
 intro p R W h hp
 unfold rP at h
 split at h<;>try(cases h;done)
 rename_i X Rx Y Ry d hd hx hy
 split at h<;>try(cases h;done)
 rename_i p' R' Z hf
 cases h
 unfold aN4 at hf
 split at hf
 · exact aLi (P:=P) (σ0:=σ0) hT ho p _ _ (by simp only[rP,hx,hy,hd,aN5];simp only[hf]) hp
 · exact aEv (P:=P) (σ:=σ0) ho p _ _ (by simp only[rP,hx,hy,hf,hd]) hp
def aH4 (T:hD) (o:Oper) (σ:St) (s d:TypeId) (x:Operand):zu:=
 match T s,T d with
 |some si,some di=>match si.kind,di.kind with
  | .sl e,.str=>match T e with
   |some ei=>match ei.kind with
    | .int .u8=>kW σ x o.dst (aTj σ)
    |_=>none
   |none=>none
  | .str,.sl e=>match T e with
   |some ei=>match ei.kind with
    | .int .u8=>aTk σ x e o.dst
    |_=>none
   |none=>none
  |_,_=>aBb T o σ
 |_,_=>none
def aH5 (T:hD) (o:Oper) (σ:St) (c:Call):zu:=
 match c.callee,c.args.toList,c.argTypes.toList with
 | .builtin .copy,[x,y],[t,t2]=>aNx T σ t t2 x y o.dst
 |_,_,_=>aBb T o σ
def aC8 (T:hD) (o:Oper) (σ:St):zu:=
 match o.op with
 | .load t x=>kW σ x o.dst (aH2 T σ t)
 | .binOp op t x y u=>rP σ x y o.dst (aN4 T t op)
 | .convert s d x=>aH4 T o σ s d x
 | .call c=>aH5 T o σ c
 |_=>aBb T o σ
theorem aH6 {P:Program} {T:hD} (hT:dR P T) {o:Oper} {σ:St} {s d:TypeId} {x:Operand} (ho:o.op= .convert s d x):lU P o σ (aH4 T o σ s d x):=by
 unfold aH4
 split
 · rename_i si di hs hd
   split
   · rename_i e hk1 hk2
     split
     · rename_i ei he
       split
       · rename_i hek
         exact aNv hT ho hs hk1 he hek hd hk2
       · exact nZ
     · exact nZ
   · rename_i e hk1 hk2
     split
     · rename_i ei he
       split
       · rename_i hek
         exact aNw hT ho hs hk1 he hek hd hk2
       · exact nZ
     · exact nZ
   · exact yZ hT o σ
 · exact nZ
theorem aH7 {P:Program} {T:hD} (hT:dR P T) {o:Oper} {σ:St} {c:Call} (ho:o.op= .call c):lU P o σ (aH5 T o σ c):=by
 obtain⟨callee,args,argTypes⟩:=c
 unfold aH5
 dsimp only
 split
 · rename_i x y t t2 ha hat
   obtain rfl:args= #[x,y]:=Array.toList_inj.1 (by simpa using ha)
   obtain rfl:argTypes= #[t,t2]:=Array.toList_inj.1 (by simpa using hat)
   exact aK9 hT ho
 · exact yZ hT o σ
theorem qw {P:Program} {T:hD} (hT:dR P T) (o:Oper) (σ:St):lU P o σ (aC8 T o σ):=by
 unfold aC8
 split
 · rename_i ho;exact aLh (fun X p R Y h hp=>aH3 hT h hp) (aA7 hT ho)
 · rename_i ho;exact aLj hT ho
 · rename_i ho;exact aH6 hT ho
 · rename_i ho;exact aH7 hT ho
 · exact yZ hT o σ
def aJ8:dH→dH→Bool
 | .t a,.t b=>Nat.beq a b
 | .o a,.o b=>Nat.beq a b
 |_,_=>false
theorem aBe {a b:dH}:aJ8 a b=true↔a=b:=by
 cases a<;>cases b<;>simp[aJ8]
def sr:St→dH→K→(St→Prop)→Prop
 | [],m,k,c=>c [(m,k)]
 |p::r,m,k,c=>match aJ8 p.1 m with
  |true=>c ((m,k)::r)
  |false=>sr r m k fun r'=>c (p::r')
theorem oU: ∀{σ:St} {m:dH} {k:K} {c:St→Prop},sr σ m k c↔c (pY σ m k)
 | [],m,k,c=>Iff.rfl
 |p::r,m,k,c=>by
  unfold sr pY
  by_cases h:p.1=m
  · rw[aBe.2 h,if_pos h]
  · have:aJ8 p.1 m=false:=by rw[← Bool.not_eq_true,aBe];exact h
    rw[this,if_neg h]
    exact oU
def aC9:List C→(List C→Prop)→Prop
 | [],c=>c []
 |x::r,c=>aC9 r fun r'=>c (x::r')
theorem uk: ∀{l:List C} {c:List C→Prop},aC9 l c↔c l
 | [],c=>Iff.rfl
 |x::r,c=>by unfold aC9;exact uk
def aH8:K→(K→Prop)→Prop
 | .box ty cs,c=>aC9 cs fun cs'=>c (.box ty cs')
 |k,c=>c k
theorem aH9 {k:K} {c:K→Prop}:aH8 k c↔c k:=by
 cases k<;>simp only[aH8]
 exact uk
def nK:St→List (dH×K)→(St→Prop)→Prop
 |σ,[],c=>c σ
 |σ,p::r,c=>aH8 p.2 fun k=>sr σ p.1 k fun σ'=>nK σ' r c
theorem kZ: ∀{W:List (dH×K)} {σ:St} {c:St→Prop},nK σ W c↔c (iO σ W)
 | [],σ,c=>Iff.rfl
 |p::r,σ,c=>by unfold nK iO;rw[aH9,oU];exact kZ
def aJ9 (P:Program) (T:hD) (o:Oper) (σ:St) (k:List (dH×Option K)→List (dH×K)→Prop):Prop:=
 match aC8 T o σ with
 |some (p,R,W)=>p∧k R W
 |none=> ∃R W,xS P o R W∧bQ R σ∧k R W
theorem qy {P:Program} {T:hD} (hT:dR P T) {o:Oper} {σ:St} {k:List (dH×Option K)→List (dH×K)→Prop} (h:aJ9 P T o σ k): ∃R W,xS P o R W∧bQ R σ∧k R W:=by
 unfold aJ9 at h
 split at h
 · rename_i p R W he
   obtain⟨h1,h2⟩:=qw hT o σ p R W he h.1
   exact⟨R,W,h1,h2,h.2⟩
 · exact h
def goS (P:Program) (T:hD) (ops:List Oper) (dr:Bool):List Oper→St→List gc→(St→List gc→Prop)→Prop
 | [],σ,acc,k=>k σ acc
 |o::os,σ,acc,k=>match o.guard with
  |none=>aJ9 P T o σ fun R W=>nK σ W fun σ'=>goS P T ops dr os σ' (match dr with|true=>acc++[pQ (R,W)]|false=>[]) k
  |some (j,want)=>match(ops[j]?).bind (·.dst) with
   |some s=>match aQ σ (.t s) with
    |some (.v (.e (.c (.d (.b x)))))=>
     (x=want→aJ9 P T o σ fun R W=>nK σ W fun σ'=>goS P T ops dr os σ' (match dr with|true=>acc++[pQ ((.t s,none)::R,W)]|false=>[]) k)∧
     (x= !want→nK σ (aBc o) fun σ'=>goS P T ops dr os σ' (match dr with|true=>acc++[pQ ([(.t s,none)],aBc o)]|false=>[]) k)
    |_=>False
   |none=>False
theorem xY {P:Program} {T:hD} (hT:dR P T) {ops:Array Oper} {dr:Bool} {k:St→List gc→Prop}: ∀(l:List Oper) (σ:St) (acc:List gc),goS P T ops.toList dr l σ acc k→
 ∃ts:List mI,ba P ops l ts∧kP ts σ∧ ∃acc',(dr=true→acc'=acc++ts.map pQ)∧k (fI ts σ) acc'
 | [],σ,acc,h=>⟨[],trivial,trivial,acc,fun _=>by simp,by simpa[goS,fI] using h⟩
 |o::os,σ,acc,h=>by
  simp only[goS] at h
  split at h
  · rename_i hg
    obtain⟨R,W,h1,h2,h3⟩:=qy hT h
    rw[kZ] at h3
    obtain⟨ts,q1,q2,acc',q3,q4⟩:=xY hT os _ _ h3
    refine⟨(R,W)::ts,⟨cg hg h1,q1⟩,⟨h2,q2⟩,acc',fun hd=> ?_,by simpa[fI] using q4⟩
    rw[q3 hd];subst hd;simp
  · rename_i j want hg
    split at h<;>try(exact h.elim)
    rename_i s hs
    split at h<;>try(exact h.elim)
    rename_i x hl
    have hs': (ops[j]?).bind (·.dst)=some s:=by simpa using hs
    by_cases hx:x=want
    · subst hx
      obtain⟨R,W,h1,h2,h3⟩:=qy hT (h.1 rfl)
      rw[kZ] at h3
      obtain⟨ts,q1,q2,acc',q3,q4⟩:=xY hT os _ _ h3
      refine⟨((.t s,some (.v (B x)))::R,W)::ts,⟨aE0 hg hs' h1,q1⟩,⟨fun p hp=> ?_,q2⟩,acc',fun hd=> ?_,by simpa[fI] using q4⟩
      · rcases List.mem_cons.1 hp with rfl|hp
        · exact hl
        · exact h2 p hp
      · rw[q3 hd];subst hd;simp[pQ]
    · have hx':x= !want:=by cases x<;>cases want<;>simp_all
      have h3:=h.2 hx'
      rw[kZ] at h3
      obtain⟨ts,q1,q2,acc',q3,q4⟩:=xY hT os _ _ h3
      subst hx'
      refine⟨([(.t s,some (.v (B (!want))))],aBc o)::ts,⟨aJ1 hg hs' rfl,q1⟩,⟨bQ.one hl,q2⟩,acc',fun hd=> ?_,by simpa[fI] using q4⟩
      rw[q3 hd];subst hd;simp[pQ]
section
variable {P:Program} {io:List Nat} {Q:Ex→St→Prop} {σ:St}
theorem SW.text {T:hD} (hT:dR P T) (hm:P.follows .mixedOrders=true) {id:Nat} {ops:Array Oper} (h:goS P T ops.toList false ops.toList σ [] fun σ' _=>Q .norm σ'):SW P io (.region id ops false) Q σ:=by
 intro cx ι S a w hio hw hf
 have hfit: ∀o∈ops.toList,∀d,o.dst=some d→d<cx.N:=fun o ho=>yT (by simpa[tQ] using hf) ho
 obtain⟨ts,h1,h2,acc,_,h4⟩:=xY hT ops.toList σ [] h
 exact wp_region_list (yU ops.toList ts σ ι S a w h1 h2 hw hfit fun ι' S' a' w' hw'=>⟨_,ι',S',h4,hw'⟩)
theorem SW.drawn {T:hD} (hT:dR P T) (hm:P.follows .mixedOrders=true) {id:Nat} {ops:Array Oper} (h:goS P T ops.toList true ops.toList σ [] fun σ' ns=>xC ops.toList ns=true∧Q .norm σ'):SW P io (.region id ops true) Q σ:=by
 intro cx ι S a w hio hw hf
 have hfit: ∀o∈ops.toList,∀d,o.dst=some d→d<cx.N:=fun o ho=>yT (by simpa[tQ] using hf) ho
 obtain⟨ts,h1,h2,acc,h3,h4,h5⟩:=xY hT ops.toList σ [] h
 have h3:=h3 rfl
 rw[List.nil_append] at h3
 subst h3
 have hlen: ∀(l:List Oper) (ts:List mI),ba P ops l ts→ts.length=l.length∧ ∀(i:Nat) o t,l[i]? =some o→ts[i]? =some t→ItT P ops o t:=by
  intro l
  induction l with
  |nil=>intro ts h;cases ts with
   |nil=>exact⟨rfl,by simp⟩
   |cons t ts=>exact h.elim
  |cons o os ih=>intro ts h;cases ts with
   |nil=>exact h.elim
   |cons t ts=>
    obtain⟨q1,q2⟩:=ih ts h.2
    refine⟨by simp[q1],fun i o' t' ho ht=> ?_⟩
    cases i with
    |zero=>simp at ho ht;subst ho;subst ht;exact h.1
    |succ i=>exact q2 i o' t' (by simpa using ho) (by simpa using ht)
 obtain⟨q1,q2⟩:=hlen _ _ h1
 refine wp_region_any hm (em (cx:=cx) (σ:=σ) (ts:=ts) (by simpa using q1) (fun i o t ho ht=>q2 i o t (by simpa using ho) ht) h2 (by simpa[pZ,xC] using h4) hfit (fun ι' S' a' w' hw'=>⟨_,ι',S',h5,hw'⟩)
  ops.size (Array.replicate ops.size false) σ ι S a _ (by simp) (fun l=> ?_) hw.drew (fun k o ho hk=> ?_) ?_)
 · have hL: ∀i,(Array.replicate ops.size false).getD i false=false:=fun i=>by
    rw[Array.getD_eq_getD_getElem?,Array.getElem?_replicate];split<;>rfl
   have: ∀n,part ts (fun i=>(Array.replicate ops.size false).getD i false) σ l n=aQ σ l:=by
    intro n
    induction n with
    |zero=>rfl
    |succ n ih=>rw[nA,if_neg (by rw[hL];simp),ih]
   rw[this]
 · rw[Array.getD_eq_getD_getElem?,Array.getElem?_replicate] at hk;split at hk<;>cases hk
 · exact Nat.le_trans (List.length_filter_le _ _) (by simp)
end
def keep (ks:List Nat):St→St
 | []=>[]
 |(.t s,k)::r=>match iH s ks with|true=>(.t s,k)::keep ks r|false=>keep ks r
 |(.o n,k)::r=>(.o n,k)::keep ks r
def rR (ks:List Nat):St→(St→Prop)→Prop
 | [],c=>c []
 |(.t s,k)::r,c=>match iH s ks with|true=>rR ks r fun r'=>c ((.t s,k)::r')|false=>rR ks r c
 |(.o n,k)::r,c=>rR ks r fun r'=>c ((.o n,k)::r')
theorem nB {ks:List Nat}: ∀{σ:St} {c:St→Prop},rR ks σ c↔c (keep ks σ)
 | [],c=>Iff.rfl
 |(.t s,k)::r,c=>by
  unfold rR keep
  cases iH s ks
  · exact nB
  · exact nB
 |(.o n,k)::r,c=>by unfold rR keep;exact nB
theorem nL (ks:List Nat): ∀(σ:St) (o:Nat),aQ (keep ks σ) (.o o)=aQ σ (.o o)
 | [],o=>rfl
 |(.t s,k)::r,o=>by
  unfold keep
  cases iH s ks
  · simp only[aQ];rw[if_neg (by simp)];exact nL ks r o
  · simp only[aQ];rw[if_neg (by simp),if_neg (by simp)];exact nL ks r o
 |(.o n,k)::r,o=>by
  unfold keep
  simp only[aQ]
  rw[nL ks r o]
theorem wE (ks:List Nat): ∀(σ:St) (s:Nat) (k:K),aQ (keep ks σ) (.t s)=some k→aQ σ (.t s)=some k
 | [],s,k,h=>h
 |(.t a,x)::r,s,k,h=>by
  unfold keep at h
  cases hm:iH a ks with
  |false=>
   rw[hm] at h
   simp only[aQ]
   by_cases e:a=s
   ·
    have hno: ∀(r:St),aQ (keep ks r) (.t a)=none:=by
     intro r
     induction r with
     |nil=>rfl
     |cons p r ih=>
      obtain⟨l,y⟩:=p
      cases l with
      |o n=>unfold keep;simp only[aQ];rw[if_neg (by simp)];exact ih
      |t b=>
       unfold keep
       cases hb:iH b ks with
       |false=>exact ih
       |true=>
        simp only[aQ]
        by_cases e2:b=a
        · subst e2;rw[hm] at hb;cases hb
        · rw[if_neg (by simpa using e2)];exact ih
    subst e
    have h:aQ (keep ks r) (.t a)=some k:=h
    rw[hno r] at h;cases h
   · rw[if_neg (by simpa using e)];exact wE ks r s k h
  |true=>
   rw[hm] at h
   simp only[aQ] at h ⊢
   by_cases e:dH.t a=dH.t s
   · rw[if_pos e] at h ⊢; exact h
   · rw[if_neg e] at h ⊢; exact wE ks r s k h
 |(.o n,x)::r,s,k,h=>by
  unfold keep at h
  simp only[aQ] at h ⊢
  rw[if_neg (by simp)] at h ⊢
  exact wE ks r s k h
theorem RW.keep (ks:List Nat) {P:Program} {cx:Cx P} {σ:St} {ι:Nat→Value} {S:Nat→Prop} {a:Act} {w:World} (h:RW cx σ ι S a w):RW cx (keep ks σ) ι S a w:=by
 have st:rN σ ι S w (Ab.keep ks σ) ι S w:=⟨fun _ h=>h,fun _ _=>rfl,fun o k hk=>⟨k,by rw[nL];exact hk,nJ.refl' _ _⟩⟩
 have hmut: ∀o b,lB (Ab.keep ks σ) ι o b↔lB σ ι o b:=fun o b=>by unfold lB;rw[nL]
 refine⟨⟨fun s x hx=>rO.step st (h.vr.slots s x (wE ks σ s _ hx)),fun o k hk=>OR.step st (fun _ _=>rfl) (h.vr.objs o k (by rw[← nL ks];exact hk)),fun o b q=>h.vr.mutS o b ((hmut o b).1 q),fun o o' b q q'=>h.vr.inj o o' b ((hmut o b).1 q) ((hmut o' b).1 q'),h.vr.sz⟩,
  h.size,h.defers,h.fr,fun o b q=>h.own o b ((hmut o b).1 q),h.rd,fun o k hk=>by rw[nL];exact h.io o k hk⟩
section
variable {P:Program} {io:List Nat} {Q:Ex→St→Prop} {σ:St}
theorem SW.keep (ks:List Nat) {c:Code} (h:rR ks σ (SW P io c Q)):SW P io c Q σ:=by
 rw[nB] at h
 intro cx ι S a w hio hw hf
 exact h cx ι S a w hio (hw.keep ks) hf
theorem SW.mid (J:St→Prop) {x y:Code} (h:SW P io x (ka J Q) σ) (hy: ∀s,J s→SW P io y Q s):SW P io (.seq x y) Q σ:=
 SW.seq (h.mono fun e s hq=>by
  cases e with
  |norm=>exact hy s hq
  |exit id=>exact hq
  |ret=>exact hq)
end
theorem eC {T:hD} {io:List Nat} {rs:List ResultVar} {σout s:St} (X:V) (rl:List (Nat×Nat)) (bor:List Nat) (h1:aHu T s rs=some X) (h2:mL ((.t 0,.v X)::eF s) σout rl bor σout) (h3:bb σout rl bor=true) (h4:ui io σout rl bor=true):bc T io rs σout s:=
 ⟨X,rl,bor,h1,⟨h2,h3⟩,h4⟩
theorem bJ {T:hD} {io:List Nat} {rs:List ResultVar} {s:St} {x y:D} (h1:aHu T s rs=some (Dv x)) (h2:x=y):bc T io rs [(.t 0,.v (Dv y))] s:=
 ⟨Dv x,[],[],h1,⟨⟨⟨Dv x,rfl,h2⟩,trivial⟩,rfl⟩,by simp[ui,cA];exact fun x _=> .inl rfl⟩
def gb (want x:Bool):Bool:=match want with|true=>x|false=> !x
def gOf (want:Bool):Option K→Option Bool
 |some (.v (.e (.c (.d (.b x)))))=>some (gb want x)
 |some (.cv _ _ b (.e (.c (.d (.b x)))))=>some (b&&gb want x)
 |_=>none
def kA (s:Nat) (want:Bool):St→St
 | []=>[]
 |(.t t,.cv s' want' b X)::r=>match Nat.beq s' s&&(want'==want) with
  |true=>(.t t,.v X)::kA s want r
  |false=>(.t t,.cv s' want' b X)::kA s want r
 |p::r=>p::kA s want r
def oO (σ:St):List (dH×Option K)→Prop
 | []=>True
 |p::r=>match aQ σ p.1,p.2 with
  |some (.cv _ _ b _),some (.v _)=>b=true∧oO σ r
  |_,_=>oO σ r
def nz (σ:St) (R:List (dH×Option K)):List (dH×Option K):=R.map fun p=>(p.1,aQ σ p.1)
theorem kH (s:Nat) (want:Bool): ∀(σ:St) (l:dH),aQ (kA s want σ) l=aQ σ l∨ ∃s' w' b X,aQ σ l=some (.cv s' w' b X)∧aQ (kA s want σ) l=some (.v X)
 | [],l=> .inl rfl
 |(.t t,.v X)::r,l=>by
  simp only[kA,aQ]
  by_cases e:dH.t t=l
  · rw[if_pos e,if_pos e];exact .inl rfl
  · rw[if_neg e,if_neg e];exact kH s want r l
 |(.t t,.box a b)::r,l=>by
  simp only[kA,aQ]
  by_cases e:dH.t t=l
  · rw[if_pos e,if_pos e];exact .inl rfl
  · rw[if_neg e,if_neg e];exact kH s want r l
 |(.t t,.row a b c)::r,l=>by
  simp only[kA,aQ]
  by_cases e:dH.t t=l
  · rw[if_pos e,if_pos e];exact .inl rfl
  · rw[if_neg e,if_neg e];exact kH s want r l
 |(.t t,.dead)::r,l=>by
  simp only[kA,aQ]
  by_cases e:dH.t t=l
  · rw[if_pos e,if_pos e];exact .inl rfl
  · rw[if_neg e,if_neg e];exact kH s want r l
 |(.t t,.zone a)::r,l=>by
  simp only[kA,aQ]
  by_cases e:dH.t t=l
  · rw[if_pos e,if_pos e];exact .inl rfl
  · rw[if_neg e,if_neg e];exact kH s want r l
 |(.o t,k)::r,l=>by
  simp only[kA,aQ]
  by_cases e:dH.o t=l
  · rw[if_pos e,if_pos e];exact .inl rfl
  · rw[if_neg e,if_neg e];exact kH s want r l
 |(.t t,.cv s' w' b X)::r,l=>by
  simp only[kA]
  cases Nat.beq s' s&&(w'==want) with
  |true=>
   simp only[aQ]
   by_cases e:dH.t t=l
   · rw[if_pos e,if_pos e];exact .inr ⟨s',w',b,X,rfl,rfl⟩
   · rw[if_neg e,if_neg e];exact kH s want r l
  |false=>
   simp only[aQ]
   by_cases e:dH.t t=l
   · rw[if_pos e,if_pos e];exact .inl rfl
   · rw[if_neg e,if_neg e];exact kH s want r l
theorem RW.reslot {P:Program} {cx:Cx P} {σ σ2:St} {ι:Nat→Value} {S:Nat→Prop} {a:Act} {w:World} (h:RW cx σ ι S a w) (ho: ∀o,aQ σ2 (.o o)=aQ σ (.o o)) (hs: ∀t k,aQ σ2 (.t t)=some k→rO σ ι w S k (iW a t)):RW cx σ2 ι S a w:=by
 have st:rN σ ι S w σ2 ι S w:=⟨fun _ h=>h,fun _ _=>rfl,fun o k hk=>⟨k,by rw[ho];exact hk,nJ.refl' _ _⟩⟩
 have hmut: ∀o b,lB σ2 ι o b↔lB σ ι o b:=fun o b=>by unfold lB;rw[ho]
 exact⟨⟨fun s x hx=>rO.step st (hs s x hx),fun o k hk=>OR.step st (fun _ _=>rfl) (h.vr.objs o k (by rw[← ho];exact hk)),fun o b q=>h.vr.mutS o b ((hmut o b).1 q),fun o o' b q q'=>h.vr.inj o o' b ((hmut o b).1 q) ((hmut o' b).1 q'),h.vr.sz⟩,
  h.size,h.defers,h.fr,fun o b q=>h.own o b ((hmut o b).1 q),h.rd,fun o k hk=>by rw[ho];exact h.io o k hk⟩
theorem ul {σ:St}: ∀{R:List (dH×Option K)},oO σ R→ ∀p∈R,∀s w b X Y,aQ σ p.1=some (.cv s w b X)→p.2=some (.v Y)→b=true
 | [],_,p,hp=>by cases hp
 |q::r,h,p,hp=>by
  intro s w b X Y hl hy
  rcases List.mem_cons.1 hp with rfl|hp
  · simp only[oO,hl,hy] at h;exact h.1
  · refine ul (R:=r) ?_ p hp s w b X Y hl hy
    simp only[oO] at h
    split at h
    · exact h.2
    · exact h
theorem um {P:Program} {cx:Cx P} {σ:St} {ι:Nat→Value} {S:Nat→Prop} {a:Act} {w:World} (hw:RW cx σ ι S a w) {ops:Array Oper} {o:Oper} {j s:Nat} {want g:Bool} (hg:o.guard=some (j,want)) (hs: (ops[j]?).bind (·.dst)=some s) (hl:gOf want (aQ σ (.t s))=some g):
 Region.wanted o (yielded ops a.tmps)=g:=by
 have key: ∀x,iW a s= .bool x→yielded ops a.tmps j=some x:=by
  intro x h2
  have h3:a.tmps[s]? =some (.bool x):=by
   unfold iW at h2
   rw[Array.getD_eq_getD_getElem?] at h2
   cases hq:a.tmps[s]? with
   |none=>rw[hq] at h2;simp[undef] at h2
   |some v=>rw[hq] at h2;simp at h2;rw[h2]
  simp[yielded,hs,h3]
 have keyu:iW a s=undef→yielded ops a.tmps j=none:=by
  intro h2
  unfold iW at h2
  rw[Array.getD_eq_getD_getElem?] at h2
  cases hq:a.tmps[s]? with
  |none=>simp[yielded,hs,hq]
  |some v=>rw[hq] at h2;simp at h2;simp[yielded,hs,hq,h2,undef]
 unfold gOf at hl
 split at hl
 · rename_i x hx
   cases hl
   have h1:=hw.vr.slots s _ hx
   simp only[rO,lT,ER,CR] at h1
   have h2:iW a s= .bool x:=by generalize iW a s=v at h1;cases h1;rfl
   cases want<;>cases x<;>simp[Region.wanted,hg,key _ h2,gb]
 · rename_i s' w' b x hx
   cases hl
   have h1:=hw.vr.slots s _ hx
   cases b with
   |true=>
    have h1:=h1.1 rfl
    simp only[lT,ER,CR] at h1
    have h2:iW a s= .bool x:=by generalize iW a s=v at h1;cases h1;rfl
    cases want<;>cases x<;>simp[Region.wanted,hg,key _ h2,gb]
   |false=>
    have h2:=h1.2 rfl
    simp[Region.wanted,hg,keyu h2]
 · cases hl
theorem kI (s:Nat) (want:Bool): ∀(σ:St) (o:Nat),aQ (kA s want σ) (.o o)=aQ σ (.o o)
 | [],l=>rfl
 |(.o t,k)::r,l=>by
  simp only[kA,aQ]
  rw[kI s want r l]
 |(.t t,.v X)::r,l=>by simp only[kA,aQ];rw[if_neg (by simp),if_neg (by simp)];exact kI s want r l
 |(.t t,.box a b)::r,l=>by simp only[kA,aQ];rw[if_neg (by simp),if_neg (by simp)];exact kI s want r l
 |(.t t,.row a b c)::r,l=>by simp only[kA,aQ];rw[if_neg (by simp),if_neg (by simp)];exact kI s want r l
 |(.t t,.dead)::r,l=>by simp only[kA,aQ];rw[if_neg (by simp),if_neg (by simp)];exact kI s want r l
 |(.t t,.zone a)::r,l=>by simp only[kA,aQ];rw[if_neg (by simp),if_neg (by simp)];exact kI s want r l
 |(.t t,.cv s' w' b X)::r,l=>by
  simp only[kA]
  cases Nat.beq s' s&&(w'==want)<;>(simp only[aQ];rw[if_neg (by simp),if_neg (by simp)];exact kI s want r l)
theorem tj: ∀{W:List (dH×K)} {l:dH} {k:K},wr W l=some k→(l,k)∈W
 | [],l,k,h=>by cases h
 |p::r,l,k,h=>by
  unfold wr at h
  cases hq:wr r l with
  |some k'=>rw[hq] at h;cases h;exact List.mem_cons_of_mem _ (tj hq)
  |none=>
   rw[hq] at h
   simp only at h
   split at h
   · rename_i e;cases h;rw[← e];exact List.mem_cons_self ..
   · cases h
def aUs (p:dH×Option K):Option (dH×K):=match p.2 with
 |some (.v X)=>some (p.1,.v X)
 |_=>none
theorem aDa {P:Program} {ops:Array Oper} {o:Oper} {σ:St} {R:List (dH×Option K)} {X:V} {d j s:Nat} {want g:Bool} (hg:o.guard=some (j,want)) (hs: (ops[j]?).bind (·.dst)=some s) (hd:o.dst=some d) (hl:gOf want (aQ σ (.t s))=some g)
 (hop:g=true→xS P o R [(.t d,.v X)]∧bQ R (kA s want σ)) (hok:g=true→oO σ R):ItT P ops o ((.t s,aQ σ (.t s))::nz σ R,[(.t d,.cv s want g X)]):=by
 intro cx σ1 ι S a w hr hw hb next Q hn
 have hls:aQ σ1 (.t s)=aQ σ (.t s):=hr (.t s,aQ σ (.t s)) (List.mem_cons_self ..)
 have hact: ∀p∈R,aQ σ1 p.1=aQ σ p.1:=fun p hp=>hr (p.1,aQ σ p.1) (List.mem_cons_of_mem _ (aXd.2 ⟨p,hp,rfl⟩))
 rw[um hw hg hs (by rw[hls];exact hl)]
 have hdN:=hb d hd
 cases g with
 |false=>
  rw[if_neg (by simp)]
  rw[hd]
  have h1:=hw.putDead hdN undef
  refine hn ι S _ w (h1.reslot (fun o=>by simp only[iO];rw[cP _ _ (by simp),cP _ _ (by simp)]) fun t k hk=> ?_)
  simp only[iO] at hk
  rw[lM] at hk
  split at hk
  · rename_i e;cases e;cases hk
    refine⟨(by simp),fun _=> ?_⟩
    rw[ib (by rw[hw.size];exact hdN),if_pos rfl]
  · rename_i e
    exact h1.vr.slots t k (by rw[cP _ _ e];exact hk)
 |true=>
  rw[if_pos rfl]
  left
  obtain⟨hop,hrd⟩:=hop rfl
  have hok:=hok rfl
  let L:List (dH×K):=R.filterMap aUs
  have hL: ∀l k,(l,k)∈L→ ∃Y,k= .v Y∧aQ (kA s want σ) l=some (.v Y)∧aQ σ1 l=aQ σ l∧(aQ σ l=some (.v Y)∨ ∃s' w',aQ σ l=some (.cv s' w' true Y)):=by
   intro l k hm
   obtain⟨p,hp,hpe⟩:=List.mem_filterMap.1 hm
   obtain⟨pl,pk⟩:=p
   unfold aUs at hpe
   split at hpe
   · rename_i e1 Y e2
     cases hpe
     simp only at e2 ⊢
     have h1:=hrd _ hp
     simp only at h1
     refine⟨Y,rfl,h1.trans e2,hact _ hp,?_⟩
     rcases kH s want σ pl with h3|⟨s2,w2,b2,X2,h3,h4⟩
     · left;rw[← h3,h1,e2]
     · rw[h4,e2] at h1;cases h1
       have:=ul hok _ hp _ _ _ _ _ h3 e2
       subst this
       exact .inr ⟨_,_,h3⟩
   · cases hpe
  have hσ2: ∀l,aQ (iO σ1 L) l=aQ σ1 l∨ ∃Y s' w',aQ (iO σ1 L) l=some (.v Y)∧aQ σ1 l=some (.cv s' w' true Y):=by
   intro l
   rw[lN]
   cases hq:wr L l with
   |none=>exact .inl rfl
   |some k=>
    obtain⟨Y,rfl,h1,h2,h3⟩:=hL l k (tj hq)
    rcases h3 with h3|⟨s',w',h3⟩
    · left;rw[h2,h3]
    · right;exact⟨Y,s',w',rfl,by rw[h2,h3]⟩
  have hσ2o: ∀o,aQ (iO σ1 L) (.o o)=aQ σ1 (.o o):=by
   intro o'
   rw[lN]
   cases hq:wr L (.o o') with
   |none=>rfl
   |some k=>
    obtain⟨Y,rfl,h1,h2,h3⟩:=hL _ k (tj hq)
    rw[kI] at h1
    rw[h2,h1]
  have hrw2:RW cx (iO σ1 L) ι S a w:=hw.reslot hσ2o fun t k hk=>by
   rcases hσ2 (.t t) with h|⟨Y,s',w',h1,h2⟩
   · rw[h] at hk;exact hw.vr.slots t k hk
   · rw[h1] at hk;cases hk
     exact(hw.vr.slots t _ h2).1 rfl
  have hrd2:bQ R (iO σ1 L):=by
   intro p hp
   have h1:=hrd p hp
   rw[lN]
   cases hq:wr L p.1 with
   |some k=>
    obtain⟨Y,rfl,h2,_,_⟩:=hL _ k (tj hq)
    rw[← h1,h2]
   |none=>
    show aQ σ1 p.1=p.2
    rw[hact p hp]
    rcases kH s want σ p.1 with h3|⟨s2,w2,b2,X2,h3,h4⟩
    · rw[← h3];exact h1
    · exfalso
      have: (p.1,K.v X2)∈L:=List.mem_filterMap.2 ⟨p,hp,by unfold aUs;rw[← h1,h4]⟩
      obtain⟨k,hk⟩:=aP6 (W:=L) (l:=p.1) (aXd.2 ⟨_,this,rfl⟩)
      rw[hk] at hq;cases hq
  refine hop cx (iO σ1 L) ι S a w hrd2 hrw2 hb next Q fun ι' S' a' w' hw'=>hn ι' S' a' w' ?_
  simp only[iO] at hw' ⊢
  refine hw'.reslot (fun o'=>by rw[cP _ _ (by simp),cP _ _ (by simp),hσ2o]) fun t k hk=> ?_
  rw[lM] at hk
  by_cases e:d=t
  · subst e
    rw[if_pos rfl] at hk;cases hk
    exact⟨fun _=>hw'.vr.slots d _ (cY _ _ _),by simp⟩
  · rw[if_neg (by simpa using e)] at hk
    rcases hσ2 (.t t) with h|⟨Y,s',w',h1,h2⟩
    · exact hw'.vr.slots t k (by rw[cP _ _ (by simpa using e),h];exact hk)
    · rw[h2] at hk;cases hk
      exact⟨fun _=>hw'.vr.slots t (.v Y) (by rw[cP _ _ (by simpa using e)];exact h1),by simp⟩
def evc (σ:St):Operand→Option (V×List (dH×Option K)×Option Bool)
 | .tmp t=>match aQ σ (.t t) with
  |some (.v X)=>some (X,[(.t t,some (.v X))],none)
  |some (.cv s w b X)=>some (X,[(.t t,some (.cv s w b X))],some b)
  |_=>none
 | .const v=>if v.oneCell' then some (.e (.c (aCw v)),[],none) else none
 |_=>none
def vH:Option Bool→Prop
 |none=>True
 |some b=>b=true
theorem aBf {σ:St} {x:Operand} {X:V} {R:List (dH×Option K)} {c:Option Bool} (h:evc σ x=some (X,R,c)):bQ R σ:=by
 cases x with
 |tmp t=>
  simp only[evc] at h
  split at h
  · rename_i X' hl;cases h;exact bQ.one hl
  · rename_i hl;cases h;exact bQ.one hl
  · cases h
 |const v=>
  simp only[evc] at h
  split at h
  · cases h;exact bQ.nil
  · cases h
 |global g=>simp[evc] at h
 |func f=>simp[evc] at h
theorem aBg {σ0:St} {x:Operand} {X:V} {R:List (dH×Option K)} {c:Option Bool} (h:evc σ0 x=some (X,R,c)) (hc:vH c) {P:Program} {cx:Cx P} {σ:St} {ι:Nat→Value} {S:Nat→Prop} {a:Act} {w:World}
 (hr:bQ R σ) (hw:RW cx σ ι S a w):lT σ ι w S X (a.eval x):=by
 cases x with
 |tmp t=>
  simp only[evc] at h
  split at h
  · rename_i X' hl;cases h;exact hw.vr.slots t _ (hr (.t t,some (.v X)) (by simp))
  · rename_i s w' b X' hl
    cases h
    exact(hw.vr.slots t (.cv s w' b X) (hr (.t t,some (.cv s w' b X)) (by simp))).1 hc
  · cases h
 |const v=>
  simp only[evc] at h
  split at h
  · rename_i hv;cases h;exact jt hv
  · cases h
 |global g=>simp[evc] at h
 |func f=>simp[evc] at h
def aIa (b:Bool):D→D→Option D
 | .i m,.i n=>some (.i (bif b then m else n))
 | .u m,.u n=>some (.u (bif b then m else n))
 | .b m,.b n=>some (.b (bif b then m else n))
 | .s m,.s n=>some (.s (bif b then m else n))
 |_,_=>none
def aN6 (x y:Operand) (b:Bool) (X Y:D):Option D:=match x,y with
 |_,.const (.bool false)=>match X with| .b m=>some (.b (b&&m))|_=>none
 | .const (.bool true),_=>match Y with| .b n=>some (.b (b||n))|_=>none
 |_,_=>aIa b X Y
def aIb (σ:St) (c x y:Operand) (d:Option Tmp):zu:=
 match ev σ c,evc σ x,evc σ y,d with
 |some (.e (.c (.d (.b b))),R),some (.e (.c (.d X)),R1,c1),some (.e (.c (.d Y)),R2,c2),some d=>match aN6 x y b X Y with
  |some Z=>some ((b=true→vH c1)∧(b=false→vH c2),R++R1++R2,[(.t d,.v (Dv Z))])
  |none=>none
 |_,_,_,_=>none
theorem aDb {b:Bool} {X Y Z:D} {w:World} {S:Nat→Prop} {vx vy:Value} (h:aIa b X Y=some Z) (hx:b=true→DR w S X vx) (hy:b=false→DR w S Y vy):DR w S Z (if b then vx else vy):=by
 cases X<;>cases Y<;>simp only[aIa] at h<;>cases h
 all_goals
  cases b with
  |true=>have:=hx rfl;cases this;first|exact .i _|exact .u _|exact .b _|exact .s _
  |false=>have:=hy rfl;cases this;first|exact .i _|exact .u _|exact .b _|exact .s _
theorem aIc {P:Program} {o:Oper} {σ0:St} {c x y:Operand} (ho:o.op= .pick c x y):lU P o σ0 (aIb σ0 c x y o.dst):=by
 intro p R W h hp
 unfold aIb at h
 split at h<;>try(cases h;done)
 rename_i b Rc X R1 c1 Y R2 c2 d hc hx hy hd
 split at h<;>try(cases h;done)
 rename_i Z hz
 cases h
 refine⟨nY hd fun cx σ ι S a w hr hw=> ?_,((dB hc).append (aBf hx)).append (aBf hy)⟩
 have hC:=dL hc hr.left.left hw
 have hX:b=true→lT σ ι w S (Dv X) (a.eval x):=fun hb=>aBg hx (hp.1 hb) hr.left.right hw
 have hY:b=false→lT σ ι w S (Dv Y) (a.eval y):=fun hb=>aBg hy (hp.2 hb) hr.right hw
 have hcv:a.eval c= .bool b:=by
  simp only[lT,ER,CR] at hC
  generalize a.eval c=v at hC;cases hC;rfl
 have hX:b=true→DR w S X (a.eval x):=hX
 have hY:b=false→DR w S Y (a.eval y):=hY
 refine⟨if b then a.eval x else a.eval y,?_,?_⟩
 · cases b<;>simp[execOp,ho,hcv,asBool]
 · show DR w S Z (if b then a.eval x else a.eval y)
   unfold aN6 at hz
   split at hz
   · split at hz
     · cases hz
       cases b with
       |true=>have:=hX rfl;simpa using this
       |false=>simp[Act.eval];exact .b _
     · cases hz
   · split at hz
     · cases hz
       cases b with
       |true=>simp[Act.eval];exact .b _
       |false=>have:=hY rfl;simpa using this
     · cases hz
   · exact aDb hz hX hY
def oa (T:hD) (o:Oper) (σ:St):zu:=
 match o.op with
 | .pick c x y=>match aIb σ c x y o.dst with
  |some r=>some r
  |none=>aJz σ c x y o.dst
 |_=>aC8 T o σ
theorem wF {P:Program} {T:hD} (hT:dR P T) (o:Oper) (σ:St):lU P o σ (oa T o σ):=by
 unfold oa
 split
 · rename_i ho
   split
   · rename_i r hr
     have:=aIc (P:=P) (σ0:=σ) ho
     rw[hr] at this;exact this
   · exact aA8 ho
 · exact qw hT o σ
def aN7 (m i:Nat):Bool:=Nat.beq (Nat.land (Nat.shiftRight m i) 1) 1
theorem aN8 (m i:Nat):aN7 m i=m.testBit i:=by
 have h:aN7 m i=decide ((m >>> i) % 2=1):=by
  show Nat.beq ((m >>> i) &&& 1) 1=_
  rw[Nat.and_one_is_mod,Bool.eq_iff_iff,Nat.beq_eq,decide_eq_true_eq]
 rw[h,Nat.testBit,Nat.one_and_eq_mod_two,Bool.eq_iff_iff,decide_eq_true_eq,bne_iff_ne]
 omega
def bits:List Nat→Nat
 | []=>0
 |x::r=>Nat.lor (Nat.shiftLeft 1 x) (bits r)
theorem vI {b:Nat}: ∀{l:List Nat},(bits l).testBit b=true↔b∈l
 | []=>by simp[bits]
 |x::r=>by
  show((1 <<< x) ||| bits r).testBit b=true↔_
  rw[Nat.testBit_or,Bool.or_eq_true,vI (l:=r),List.mem_cons,Nat.shiftLeft_eq,Nat.one_mul,Nat.testBit_two_pow,decide_eq_true_eq]
  exact⟨fun h=>h.imp Eq.symm id,fun h=>h.imp Eq.symm id⟩
def un (acc:List Nat):List Nat→Nat
 | []=>0
 |i::r=>Nat.lor (Nat.lor (Nat.shiftLeft 1 i) (acc.getD i 0)) (un acc r)
def uo:List Oper→List Nat→List Nat
 | [],acc=>acc
 |o::os,acc=>uo os (acc++[un acc (kX o)])
def aId (accM:List Nat) (accP:List (List Nat)):Prop:=accM.length=accP.length∧ ∀i b,(accM.getD i 0).testBit b=true→b∈accP.getD i []
theorem re {accM:List Nat} {accP:List (List Nat)} (h:aId accM accP) {b:Nat}: ∀{l:List Nat},(un accM l).testBit b=true→b∈l.flatMap fun i=>i::accP.getD i []
 | [],hb=>by simp[un] at hb
 |i::r,hb=>by
  have hb: (((1 <<< i) ||| accM.getD i 0) ||| un accM r).testBit b=true:=hb
  rw[Nat.testBit_or,Nat.testBit_or,Bool.or_eq_true,Bool.or_eq_true,Nat.shiftLeft_eq,Nat.one_mul,Nat.testBit_two_pow,decide_eq_true_eq] at hb
  rw[List.flatMap_cons,List.mem_append,List.mem_cons]
  rcases hb with(hb|hb)|hb
  · exact .inl (.inl hb.symm)
  · exact .inl (.inr (h.2 i b hb))
  · exact .inr (re h hb)
theorem uq: ∀(l:List Oper) {accM:List Nat} {accP:List (List Nat)},aId accM accP→aId (uo l accM) (mJ l accP)
 | [],accM,accP,h=>h
 |o::os,accM,accP,h=>by
  unfold uo mJ
  refine uq os ⟨by simp[h.1],fun i b hb=> ?_⟩
  rw[aW7] at hb ⊢
  by_cases hi:i<accM.length
  · rw[List.getElem?_append_left hi] at hb
    rw[List.getElem?_append_left (by rw[← h.1];exact hi)]
    have:=h.2 i b (by rw[aW7];exact hb)
    rwa [aW7] at this
  · rw[List.getElem?_append_right (by omega)] at hb
    rw[List.getElem?_append_right (by rw[← h.1];omega),← h.1]
    by_cases e:i - accM.length=0
    · rw[e] at hb ⊢
      exact re h hb
    · rw[List.getElem?_eq_none (by simp;omega)] at hb
      simp at hb
abbrev RWM:=Nat×Nat
def rwM (x:gc):RWM:=(bits x.1,bits x.2)
def aFb (x y:RWM):Bool:=Nat.beq (Nat.land x.2 (Nat.lor y.1 y.2)) 0&&Nat.beq (Nat.land x.1 y.2) 0
theorem xD {xs ys:List Nat} (h: ∀b,b∈xs→b∈ys→False):pG xs ys=true:=by
 induction xs with
 |nil=>rfl
 |cons x r ih=>
  simp only[pG,aW4,Bool.not_eq_true']
  refine⟨?_,ih fun b hb=>h b (List.mem_cons_of_mem _ hb)⟩
  rw[← Bool.not_eq_true,hF]
  exact h x (List.mem_cons_self ..)
theorem oc {m n b:Nat} (h:Nat.beq (Nat.land m n) 0=true) (hm:m.testBit b=true) (hn:n.testBit b=true):False:=by
 have h:m &&& n=0:=Nat.eq_of_beq_eq_true h
 have: (m &&& n).testBit b=true:=by rw[Nat.testBit_and,hm,hn];rfl
 rw[h] at this;simp at this
theorem aIe {x y:gc} (h:aFb (rwM x) (rwM y)=true):pH x y=true:=by
 simp only[aFb,rwM,aW4] at h
 simp only[pH,aW4]
 have hor: ∀b,(b∈y.1∨b∈y.2)→(Nat.lor (bits y.1) (bits y.2)).testBit b=true:=fun b hb=>by
  show(bits y.1 ||| bits y.2).testBit b=true
  rw[Nat.testBit_or,Bool.or_eq_true,vI,vI];exact hb
 exact⟨⟨xD fun b h1 h2=>oc h.1 (vI.2 h1) (hor b (.inr h2)),xD fun b h1 h2=>oc h.1 (vI.2 h1) (hor b (.inl h2))⟩,xD fun b h1 h2=>oc h.2 (vI.2 h1) (vI.2 h2)⟩
def aRa (pm:Nat) (y:RWM):Nat→List RWM→Bool
 |_,[]=>true
 |i,x::r=>(aN7 pm i||aFb x y)&&aRa pm y (i+1) r
def aN9:List RWM→List Nat→List RWM→Bool
 | [],_,_=>true
 |y::ys,pm::pms,done=>aRa pm y 0 done&&aN9 ys pms (done++[y])
 |_::_,[],_=>false
theorem aBh {pm:Nat} {y:RWM}: ∀{l:List RWM} {i:Nat},aRa pm y i l=true→ ∀(k:Nat) x,l[k]? =some x→pm.testBit (i+k)=true∨aFb x y=true
 | [],i,_,k,x,hx=>by simp at hx
 |z::r,i,h,k,x,hx=>by
  simp only[aRa,aW4,Bool.or_eq_true] at h
  cases k with
  |zero=>simp at hx;subst hx;rw[← aN8];exact h.1
  |succ k=>
   have:=aBh h.2 k x (by simpa using hx)
   rwa [show i+1+k=i+(k+1) by omega] at this
theorem aBi: ∀{ys:List RWM} {pms:List Nat} {done:List RWM},aN9 ys pms done=true→ ∀(k:Nat) y pm,ys[k]? =some y→pms[k]? =some pm→ ∀(i:Nat) x,i<done.length+k→(done++ys)[i]? =some x→pm.testBit i=true∨aFb x y=true
 | [],pms,done,_,k,y,pm,hy,_,i,x,_,_=>by simp at hy
 |z::ys,[],done,h,k,y,pm,hy,hp,i,x,_,_=>by simp[aN9] at h
 |z::ys,p::pms,done,h,k,y,pm,hy,hp,i,x,hi,hx=>by
  simp only[aN9,aW4] at h
  cases k with
  |zero=>
   simp at hy hp;subst hy;subst hp
   have:=aBh h.1 i x (by rw[List.getElem?_append_left (by omega)] at hx;exact hx)
   rwa [Nat.zero_add] at this
  |succ k=>exact aBi h.2 k y pm (by simpa using hy) (by simpa using hp) i x (by simp;omega) (by simpa using hx)
theorem ur {ns:List gc} {pl:List (List Nat)}: ∀(n:Nat),(∀k,k<n→ ∀i,i<k→ ∀x y pk,ns[i]? =some x→ns[k]? =some y→pl[k]? =some pk→i∈pk∨pH x y=true)→yW ns pl n=true
 |0,_=>rfl
 |n+1,h=>by
  simp only[yW,aW4]
  refine⟨?_,ur n fun k hk=>h k (by omega)⟩
  split
  · rename_i y pk hy hp
    rw[aXe]
    intro i hi
    rw[Bool.or_eq_true]
    cases hx:ns[i]? with
    |none=>exact .inr rfl
    |some x=>exact(h n (by omega) i (List.mem_range.1 hi) x y pk hx hy hp).imp hF.2 id
  · rfl
def co (l:List Oper) (ns:List gc):Bool:=sO 0 l&&aN9 (ns.map rwM) (uo l []) []
theorem cp {l:List Oper} {ns:List gc} (h:co l ns=true):xC l ns=true:=by
 simp only[co,aW4] at h
 simp only[xC,aW4]
 refine⟨h.1,ur _ fun k hk i hi x y pk hx hy hp=> ?_⟩
 have hm:=uq l (accM:=[]) (accP:=[]) ⟨rfl,by simp⟩
 have hpl:k< (mJ l []).length:=(aXb.1 hp).1
 have hml:k< (uo l []).length:=by rw[hm.1];exact hpl
 have hpm: (uo l [])[k]? =some (uo l [])[k]:=aW8 hml
 rcases aBi h.2 k (rwM y) _ (by simp[hy]) hpm i (rwM x) (by simpa using hi) (by simp[hx]) with h1|h1
 · left
   have:=hm.2 k i (by rw[aW7,hpm];exact h1)
   rwa [aW7,hp] at this
 · exact .inr (aIe h1)
def aKa (P:Program) (T:hD) (o:Oper) (σ:St) (k:List (dH×Option K)→List (dH×K)→Prop):Prop:=
 match oa T o σ with
 |some (p,R,W)=>p∧k R W
 |none=> ∃R W,xS P o R W∧bQ R σ∧k R W
theorem rg {P:Program} {T:hD} (hT:dR P T) {o:Oper} {σ:St} {k:List (dH×Option K)→List (dH×K)→Prop} (h:aKa P T o σ k): ∃R W,xS P o R W∧bQ R σ∧k R W:=by
 unfold aKa at h
 split at h
 · rename_i p R W he
   obtain⟨h1,h2⟩:=wF hT o σ p R W he h.1
   exact⟨R,W,h1,h2,h.2⟩
 · exact h
def aRb (dr:Bool) (acc:List gc) (R:List (dH×Option K)) (W:List (dH×K)):List gc:=match dr with
 |true=>acc++[pQ (R,W)]
 |false=>[]
def ke (P:Program) (T:hD) (o:Oper) (σ:St) (s:Nat) (want g:Bool) (d:Nat) (k:List (dH×Option K)→V→Prop):Prop:=
 match oa T o (kA s want σ) with
 |some (p,R,[(.t d',.v X)])=>match Nat.beq d' d with
  |true=>(g=true→p)∧(g=true→oO σ R)∧k R X
  |false=>False
 |some _=>False
 |none=> ∃R X,(g=true→xS P o R [(.t d,.v X)]∧bQ R (kA s want σ))∧(g=true→oO σ R)∧k R X
def goC (P:Program) (T:hD) (ops:List Oper) (dr:Bool):List Oper→St→List gc→(St→List gc→Prop)→Prop
 | [],σ,acc,k=>k σ acc
 |o::os,σ,acc,k=>match o.guard with
  |none=>aKa P T o σ fun R W=>nK σ W fun σ'=>goC P T ops dr os σ' (aRb dr acc R W) k
  |some (j,want)=>match(ops[j]?).bind (·.dst),o.dst with
   |some s,some d=>match gOf want (aQ σ (.t s)) with
    |some g=>ke P T o σ s want g d fun R X=>sr σ (.t d) (.cv s want g X) fun σ'=>goC P T ops dr os σ' (aRb dr acc ((.t s,none)::R) [(.t d,.dead)]) k
    |none=>False
   |_,_=>False
theorem cq {P:Program} {T:hD} (hT:dR P T) {ops:Array Oper} {o:Oper} {σ:St} {j s d:Nat} {want g:Bool} {k:List (dH×Option K)→V→Prop} (hg:o.guard=some (j,want)) (hs: (ops[j]?).bind (·.dst)=some s) (hd:o.dst=some d) (hl:gOf want (aQ σ (.t s))=some g)
 (h:ke P T o σ s want g d k): ∃R X,ItT P ops o ((.t s,aQ σ (.t s))::nz σ R,[(.t d,.cv s want g X)])∧k R X:=by
 unfold ke at h
 split at h
 · rename_i p R d' X he
   split at h
   · rename_i hdd
     have hdd:=Nat.eq_of_beq_eq_true hdd
     subst hdd
     obtain⟨h1,h2,h3⟩:=h
     exact⟨R,X,aDa hg hs hd hl (fun hgt=>wF hT o _ p R _ he (h1 hgt)) h2,h3⟩
   · exact h.elim
 · exact h.elim
 · obtain⟨R,X,h1,h2,h3⟩:=h
   exact⟨R,X,aDa hg hs hd hl h1 h2,h3⟩
theorem zD {σ:St} {s:Nat} {R:List (dH×Option K)}:bQ ((.t s,aQ σ (.t s))::nz σ R) σ:=by
 intro p hp
 rcases List.mem_cons.1 hp with rfl|hp
 · rfl
 · obtain⟨q,hq,rfl⟩:=aXd.1 hp;rfl
theorem aIf {σ:St} {s d:Nat} {R:List (dH×Option K)} {k:K} {o:Option K} {k':K}:pQ ((.t s,o)::R,[(.t d,k)])=pQ ((.t s,aQ σ (.t s))::nz σ R,[(.t d,k')]):=by
 simp[pQ,nz,Function.comp_def]
theorem xZ {P:Program} {T:hD} (hT:dR P T) {ops:Array Oper} {dr:Bool} {k:St→List gc→Prop}: ∀(l:List Oper) (σ:St) (acc:List gc),goC P T ops.toList dr l σ acc k→
 ∃ts:List mI,ba P ops l ts∧kP ts σ∧ ∃acc',(dr=true→acc'=acc++ts.map pQ)∧k (fI ts σ) acc'
 | [],σ,acc,h=>⟨[],trivial,trivial,acc,fun _=>by simp,by simpa[goC,fI] using h⟩
 |o::os,σ,acc,h=>by
  simp only[goC] at h
  split at h
  · rename_i hg
    obtain⟨R,W,h1,h2,h3⟩:=rg hT h
    rw[kZ] at h3
    obtain⟨ts,q1,q2,acc',q3,q4⟩:=xZ hT os _ _ h3
    refine⟨(R,W)::ts,⟨cg hg h1,q1⟩,⟨h2,q2⟩,acc',fun hd=> ?_,by simpa[fI] using q4⟩
    rw[q3 hd];subst hd;simp[aRb]
  · rename_i j want hg
    split at h<;>try(exact h.elim)
    rename_i s d hs hd
    split at h<;>try(exact h.elim)
    rename_i g hl
    have hs': (ops[j]?).bind (·.dst)=some s:=by simpa using hs
    obtain⟨R,X,h1,h2⟩:=cq hT hg hs' hd hl h
    rw[oU] at h2
    obtain⟨ts,q1,q2,acc',q3,q4⟩:=xZ hT os _ _ h2
    refine⟨((.t s,aQ σ (.t s))::nz σ R,[(.t d,.cv s want g X)])::ts,⟨h1,q1⟩,⟨zD,q2⟩,acc',fun hdr=> ?_,by simpa[fI,iO] using q4⟩
    rw[q3 hdr];subst hdr
    simp only[aRb,List.map_cons,List.append_assoc,List.singleton_append]
    rw[aIf (σ:=σ) (k':= .cv s want g X)]
section
variable {P:Program} {io:List Nat} {Q:Ex→St→Prop} {σ:St}
theorem SW.regT {T:hD} (hT:dR P T) (ks:List Nat) {id:Nat} {ops:Array Oper} (h:goC P T ops.toList false ops.toList σ [] fun σ' _=>rR ks σ' (Q .norm)):SW P io (.region id ops false) Q σ:=by
 intro cx ι S a w hio hw hf
 have hfit: ∀o∈ops.toList,∀d,o.dst=some d→d<cx.N:=fun o ho=>yT (by simpa[tQ] using hf) ho
 obtain⟨ts,h1,h2,acc,_,h4⟩:=xZ hT ops.toList σ [] h
 rw[nB] at h4
 exact wp_region_list (yU ops.toList ts σ ι S a w h1 h2 hw hfit fun ι' S' a' w' hw'=>⟨_,ι',S',h4,hw'.keep ks⟩)
theorem SW.regD {T:hD} (hT:dR P T) (hm:P.follows .mixedOrders=true) (ks:List Nat) {id:Nat} {ops:Array Oper} (h:goC P T ops.toList true ops.toList σ [] fun σ' ns=>co ops.toList ns=true∧rR ks σ' (Q .norm)):SW P io (.region id ops true) Q σ:=by
 intro cx ι S a w hio hw hf
 have hfit: ∀o∈ops.toList,∀d,o.dst=some d→d<cx.N:=fun o ho=>yT (by simpa[tQ] using hf) ho
 obtain⟨ts,h1,h2,acc,h3,h4,h5⟩:=xZ hT ops.toList σ [] h
 have h3:=h3 rfl
 rw[List.nil_append] at h3
 subst h3
 rw[nB] at h5
 have hlen: ∀(l:List Oper) (ts:List mI),ba P ops l ts→ts.length=l.length∧ ∀(i:Nat) o t,l[i]? =some o→ts[i]? =some t→ItT P ops o t:=by
  intro l
  induction l with
  |nil=>intro ts h;cases ts with
   |nil=>exact⟨rfl,by simp⟩
   |cons t ts=>exact h.elim
  |cons o os ih=>intro ts h;cases ts with
   |nil=>exact h.elim
   |cons t ts=>
    obtain⟨q1,q2⟩:=ih ts h.2
    refine⟨by simp[q1],fun i o' t' ho ht=> ?_⟩
    cases i with
    |zero=>simp at ho ht;subst ho;subst ht;exact h.1
    |succ i=>exact q2 i o' t' (by simpa using ho) (by simpa using ht)
 obtain⟨q1,q2⟩:=hlen _ _ h1
 refine wp_region_any hm (em (cx:=cx) (σ:=σ) (ts:=ts) (by simpa using q1) (fun i o t ho ht=>q2 i o t (by simpa using ho) ht) h2 (by have:=cp h4;simpa[pZ,xC] using this) hfit (fun ι' S' a' w' hw'=>⟨_,ι',S',h5,hw'.keep ks⟩)
  ops.size (Array.replicate ops.size false) σ ι S a _ (by simp) (fun l=> ?_) hw.drew (fun k o ho hk=> ?_) ?_)
 · have hL: ∀i,(Array.replicate ops.size false).getD i false=false:=fun i=>by
    rw[Array.getD_eq_getD_getElem?,Array.getElem?_replicate];split<;>rfl
   have: ∀n,part ts (fun i=>(Array.replicate ops.size false).getD i false) σ l n=aQ σ l:=by
    intro n
    induction n with
    |zero=>rfl
    |succ n ih=>rw[nA,if_neg (by rw[hL];simp),ih]
   rw[this]
 · rw[Array.getD_eq_getD_getElem?,Array.getElem?_replicate] at hk;split at hk<;>cases hk
 · exact Nat.le_trans (List.length_filter_le _ _) (by simp)
end
def zE:C→Bool
 | .d _=>true
 | .nil=>true
 | .rp _=>true
 |_=>false
def im:E→Bool
 | .c x=>zE x
 | .agg cs=>cs.all zE
def oP:V→Bool
 | .e x=>im x
 | .tup xs=>xs.all im
section
variable {τ σ':St} {rl:List (Nat×Nat)} {bor:List Nat}
theorem aFc {c:C} (h:zE c=true):mC τ σ' rl bor c c:=by cases c<;>simp_all[zE,mC]
theorem aBj: ∀{cs:List C},cs.all zE=true→zq τ σ' rl bor cs cs
 | [],_=>trivial
 |c::cs,h=>by
  simp only[List.all_cons,aW4] at h
  exact⟨aFc h.1,aBj h.2⟩
theorem aFd {c:E} (h:im c=true):mE τ σ' rl bor c c:=by
 cases c with
 |c x=>exact aFc h
 |agg cs=>exact aBj h
theorem aBk: ∀{cs:List E},cs.all im=true→mEs τ σ' rl bor cs cs
 | [],_=>trivial
 |c::cs,h=>by
  simp only[List.all_cons,aW4] at h
  exact⟨aFd h.1,aBk h.2⟩
theorem aFe {c:V} (h:oP c=true):mV τ σ' rl bor c c:=by
 cases c with
 |e x=>exact aFd h
 |tup cs=>exact aBk h
theorem ut {c:C} (h:zE c=true):aHw rl c=c:=by cases c<;>simp_all[zE,aHw]
theorem aFf {cs:List C} (h:cs.all zE=true):cs.map (aHw rl)=cs:=by
 rw[aXe] at h
 exact(List.map_congr_left fun c hc=>ut (h c hc)).trans (List.map_id cs)
theorem uu {c:E} (h:im c=true):aLd rl c=c:=by
 cases c with
 |c x=>simp[aLd,ut (show zE x=true from h)]
 |agg cs=>simp only[aLd];rw[aFf h]
theorem aIg {c:V} (h:oP c=true):aHx rl c=c:=by
 cases c with
 |e x=>simp[aHx,uu (show im x=true from h)]
 |tup cs=>
  simp only[aHx]
  have h:cs.all im=true:=h
  rw[aXe] at h
  rw[(List.map_congr_left fun c hc=>uu (h c hc)).trans (List.map_id cs)]
theorem uv: ∀{Ys:List V} {i:Nat},(∀j Y,Ys[j]? =some Y→aQ τ (.t (i+j))=some (.v Y))→Ys.all oP=true→mL τ σ' rl bor (eV i Ys)
 | [],i,_,_=>trivial
 |Y::Ys,i,h,hp=>by
  simp only[List.all_cons,aW4] at hp
  refine⟨⟨Y,h 0 Y rfl,aFe hp.1⟩,uv (fun j Z hj=> ?_) hp.2⟩
  rw[show i+1+j=i+(j+1) by omega]
  exact h (j+1) Z hj
theorem qI: ∀(Ys:List V) (i:Nat),cA (eV i Ys)=[]
 | [],i=>rfl
 |Y::Ys,i=>qI Ys (i+1)
theorem aFg {Xs:List V} (h:Xs.all oP=true):oS (eV 0 Xs++rQ []) (eV 0 Xs) [] []:=by
 refine⟨uv (fun j Y hj=> ?_) h,?_⟩
 · have hlt:=(aXb.1 hj).1
   rw[Nat.zero_add,pI 0 Xs _ j (aW6 _) (by omega),Nat.sub_zero,hj];rfl
 · simp[bb,qI,vE,pG]
end
section
variable {P:Program} {T:hD} {f:FuncId} {n:Nat} {σin:St} {X:V} {o:Oper} {c:Call} {d:Nat} {σ:St} {Xs:List V} {Ra:List (dH×Option K)}
theorem aFh (hs:Spec P f n σin [(.t 0,.v X)]) (ho:o.op= .call c) (hc:c.callee= .value (.func f)) (hd:o.dst=some d) (hx:evA σ c.args.toList=some (Xs,Ra)) (hn:Xs.length=n) (hin:σin=eV 0 Xs) (hp:Xs.all oP=true) (hX:oP X=true):
 xS P o Ra [(.t d,.v X)]:=by
 subst hin
 have:=aFa (robj:=[]) (rl:=[]) (bor:=[]) hs ho hc hx hn (aFg hp) (by simp[kS,cA,pB,qI,vE,sP]) (.inl rfl)
 have e1:qt Ra [] [] (eV 0 Xs) [(.t 0,.v X)]=Ra:=by simp[qt,jV,cA]
 have e2:uB [] (eV 0 Xs) [(.t 0,.v X)] o.dst=[(.t d,.v X)]:=by
  simp[uB,zB,wC,pB,qI,hd,zx,aQ,aIg hX]
 rw[e1,e2] at this
 exact this
theorem kf {k:List (dH×Option K)→List (dH×K)→Prop} (hs:Spec P f n σin [(.t 0,.v X)]) (ho:o.op= .call c) (hc:c.callee= .value (.func f)) (hd:o.dst=some d) (hx:evA σ c.args.toList=some (Xs,Ra)) (hn:Xs.length=n) (hin:σin=eV 0 Xs) (hp:Xs.all oP=true) (hX:oP X=true)
 (h:k Ra [(.t d,.v X)]): ∃R W,xS P o R W∧bQ R σ∧k R W:=
 ⟨Ra,_,aFh hs ho hc hd hx hn hin hp hX,uX hx,h⟩
theorem aOa {σ1:St} {g:Bool} {k:List (dH×Option K)→V→Prop} (hs:g=true→Spec P f n σin [(.t 0,.v X)]) (ho:o.op= .call c) (hc:c.callee= .value (.func f)) (hd:o.dst=some d) (hx:evA σ1 c.args.toList=some (Xs,Ra)) (hn:Xs.length=n) (hin:σin=eV 0 Xs) (hp:Xs.all oP=true) (hX:oP X=true)
 (hr:g=true→oO σ Ra) (h:k Ra X): ∃R X,(g=true→xS P o R [(.t d,.v X)]∧bQ R σ1)∧(g=true→oO σ R)∧k R X:=
 ⟨Ra,X,fun hg=>⟨aFh (hs hg) ho hc hd hx hn hin hp hX,uX hx⟩,hr,h⟩
theorem bE {σout:St} {rl:List (Nat×Nat)} {bor:List Nat} {robj:List (Nat×K)} {k:List (dH×Option K)→List (dH×K)→Prop} (hs:Spec P f n σin σout) (ho:o.op= .call c) (hc:c.callee= .value (.func f)) (hx:evA σ c.args.toList=some (Xs,Ra)) (hn:Xs.length=n)
 (hm:oS (eV 0 Xs++rQ robj) σin rl bor) (hk:kS rl σin σout=true) (hb:bor=[]∨mM σout) (h1: ∀p∈robj,aQ σ (.o p.1)=some p.2) (h2: ∀j∈jV σin σout,aQ σ (.o (kO rl j))=none)
 (h:k (qt Ra robj rl σin σout) (uB rl σin σout o.dst)): ∃R W,xS P o R W∧bQ R σ∧k R W:=
 ⟨_,_,aFa hs ho hc hx hn hm hk hb,aH0 hx h1 h2,h⟩
end
def WK (io:List Nat) (J:St→Prop) (s:St):Prop:= ∃σ' rl bor,J σ'∧oS s σ' rl bor∧zA io σ' rl bor=true
theorem wk {io:List Nat} {J:St→Prop} {s:St} (σ':St) (rl:List (Nat×Nat)) (bor:List Nat) (h:J σ') (h1:mL s σ' rl bor σ') (h2:bb σ' rl bor=true) (h3:zA io σ' rl bor=true):WK io J s:=⟨σ',rl,bor,h,⟨h1,h2⟩,h3⟩
section
variable {P:Program} {io:List Nat} {Q:Ex→St→Prop} {σ:St}
theorem SW.wk {c:Code} {J:St→Prop} (h:WK io J σ) (hJ: ∀s,J s→SW P io c Q s):SW P io c Q σ:=by
 obtain⟨σ',rl,bor,h1,h2,h3⟩:=h
 exact SW.weaken σ' rl bor h2 h3 (hJ σ' h1)
theorem SW.loopW {c:Code} (I:Nat→St→Prop) {n:Nat} (h0:WK io (I n) σ) (hr: ∀n s,I n s→SW P io c (ka (fun s'=>WK io (fun s2=> ∃m,m<n∧I m s2) s') Q) s):SW P io (.loop c) Q σ:=by
 refine SW.loop (fun n s=>WK io (I n) s) h0 fun n s hs=>SW.wk hs fun s2 h2=>SW.mono (fun e s3 h3=> ?_) (hr n s2 h2)
 cases e with
 |norm=>
  obtain⟨σ',rl,bor,⟨m,hm,h1⟩,h2,h4⟩:=h3
  exact⟨m,hm,σ',rl,bor,h1,h2,h4⟩
 |exit id=>exact h3
 |ret=>exact h3
theorem SW.midW (J:St→Prop) {x y:Code} (h:SW P io x (ka (fun s=>WK io J s) Q) σ) (hy: ∀s,J s→SW P io y Q s):SW P io (.seq x y) Q σ:=
 SW.seq (h.mono fun e s hq=>by
  cases e with
  |norm=>exact SW.wk hq hy
  |exit id=>exact hq
  |ret=>exact hq)
end
section
variable {τ σ':St} {rl:List (Nat×Nat)} {bor:List Nat} {r:List (dH×K)}
theorem cJ {s:Nat} {x y:D} (h:aQ τ (.t s)=some (.v (Dv x))) (e:x=y) (hr:mL τ σ' rl bor r):mL τ σ' rl bor ((.t s,.v (Dv y))::r):=⟨⟨_,h,e⟩,hr⟩
theorem lO {s:Nat} (h:aQ τ (.t s)=some (.v (.e (.c .nil)))) (hr:mL τ σ' rl bor r):mL τ σ' rl bor ((.t s,.v (.e (.c .nil)))::r):=⟨⟨_,h,trivial⟩,hr⟩
theorem kh {s:Nat} {y:D} (h:aQ τ (.t s)=some (.v (.e (.c .nil)))) (e:y= .sl []) (hr:mL τ σ' rl bor r):mL τ σ' rl bor ((.t s,.v (Dv y))::r):=⟨⟨_,h,e⟩,hr⟩
theorem jD {s o n j m:Nat} {e:TypeId} {es:Nat} {rows:List (List D)} (h:aQ τ (.t s)=some (.v (.e (.c (.own o n))))) (ho:o=kO rl j) (e1:n=m) (hj:aQ σ' (.o j)=some (.row e es rows)) (hr:mL τ σ' rl bor r):mL τ σ' rl bor ((.t s,.v (.e (.c (.own j m))))::r):=
 ⟨⟨_,h,ho,e1,e,es,rows,hj⟩,hr⟩
theorem eW {s o n:Nat} {y:D} {e:TypeId} {es:Nat} {rows:List (List D)} (h:aQ τ (.t s)=some (.v (.e (.c (.own o n))))) (hb:iH o bor=true) (hj:aQ τ (.o o)=some (.row e es rows)) (e1:rows.length=n) (e2:y= .sl rows) (hr:mL τ σ' rl bor r):mL τ σ' rl bor ((.t s,.v (Dv y))::r):=
 ⟨⟨_,h,hF.1 hb,e,es,rows,hj,e1,.inl e2⟩,hr⟩
theorem bR {s o k j m:Nat} {ty:TypeId} {cs:List C} (h:aQ τ (.t s)=some (.v (.e (.c (.pt o k))))) (ho:o=kO rl j) (e1:k=m) (hj:aQ σ' (.o j)=some (.box ty cs)) (hr:mL τ σ' rl bor r):mL τ σ' rl bor ((.t s,.v (.e (.c (.pt j m))))::r):=
 ⟨⟨_,h,ho,e1,ty,cs,hj⟩,hr⟩
theorem dN {s:Nat} {cs ds:List C} (h:aQ τ (.t s)=some (.v (.e (.agg cs)))) (e:zq τ σ' rl bor cs ds) (hr:mL τ σ' rl bor r):mL τ σ' rl bor ((.t s,.v (.e (.agg ds)))::r):=⟨⟨_,h,e⟩,hr⟩
theorem bV {j:Nat} {e:TypeId} {es:Nat} {rows rows':List (List D)} (h:aQ τ (.o (kO rl j))=some (.row e es rows)) (e1:rows=rows') (hr:mL τ σ' rl bor r):mL τ σ' rl bor ((.o j,.row e es rows')::r):=⟨⟨_,h,rfl,rfl,e1⟩,hr⟩
theorem aU {j:Nat} {ty:TypeId} {cs ds:List C} (h:aQ τ (.o (kO rl j))=some (.box ty cs)) (e1:zq τ σ' rl bor cs ds) (hr:mL τ σ' rl bor r):mL τ σ' rl bor ((.o j,.box ty ds)::r):=⟨⟨_,h,rfl,e1⟩,hr⟩
theorem aL:zq τ σ' rl bor [] []:=trivial
theorem aD {x y:D} {cs ds:List C} (e:x=y) (h:zq τ σ' rl bor cs ds):zq τ σ' rl bor (.d x::cs) (.d y::ds):=⟨e,h⟩
theorem jQ {cs ds:List C} (h:zq τ σ' rl bor cs ds):zq τ σ' rl bor (.nil::cs) (.nil::ds):=⟨trivial,h⟩
theorem bP {o n j m:Nat} {e:TypeId} {es:Nat} {rows:List (List D)} {cs ds:List C} (ho:o=kO rl j) (e1:n=m) (hj:aQ σ' (.o j)=some (.row e es rows)) (h:zq τ σ' rl bor cs ds):zq τ σ' rl bor (.own o n::cs) (.own j m::ds):=⟨⟨ho,e1,e,es,rows,hj⟩,h⟩
theorem rZ {o n:Nat} {y:D} {e:TypeId} {es:Nat} {rows:List (List D)} {cs ds:List C} (hb:iH o bor=true) (hj:aQ τ (.o o)=some (.row e es rows)) (e1:rows.length=n) (e2:y= .sl rows) (h:zq τ σ' rl bor cs ds):zq τ σ' rl bor (.own o n::cs) (.d y::ds):=⟨⟨hF.1 hb,e,es,rows,hj,e1,.inl e2⟩,h⟩
theorem eJ {o k j m:Nat} {ty:TypeId} {xs cs ds:List C} (ho:o=kO rl j) (e1:k=m) (hj:aQ σ' (.o j)=some (.box ty xs)) (h:zq τ σ' rl bor cs ds):zq τ σ' rl bor (.pt o k::cs) (.pt j m::ds):=⟨⟨ho,e1,ty,xs,hj⟩,h⟩
end
theorem RW.nilOwn {P:Program} {cx:Cx P} {σ:St} {ι:Nat→Value} {S:Nat→Prop} {a:Act} {w:World} (h:RW cx σ ι S a w) {s j:Nat} (e:TypeId) (es:Nat) (hs:aQ σ (.t s)=some (.v (.e (.c .nil)))) (hj:aQ σ (.o j)=none):
 RW cx (pY (pY σ (.o j) (.row e es [])) (.t s) (.v (.e (.c (.own j 0))))) (fun o=>if o=j then .slice none 0 0 else ι o) S a w:=by
 have hblk: ∀b,vA (.slice none 0 0) b→some b=(none:Option Nat)∨w.heap.size≤b:=fun b hb=>by simp[vA] at hb
 have h1:=h.turn (id:=j) (old:=none) (k:= .row e es []) (p:= .slice none 0 0) (w':=w) ⟨rfl,rfl,rfl,aXa _,(fun _ _ _=>rfl),(fun b hb=>by cases hb),.inl hj,hblk,.inl ⟨rfl,rfl⟩⟩
 have hv:iW a s= .slice none 0 0:=h.vr.slots s _ hs
 refine h1.reslot (fun o=>cP _ _ (by simp)) fun t k hk=> ?_
 rw[lM] at hk
 by_cases e1:s=t
 · subst e1
   rw[if_pos rfl] at hk;cases hk
   show CR (pY σ (.o j) (.row e es [])) (fun o=>if o=j then .slice none 0 0 else ι o) w S (.own j 0) (iW a s)
   rw[hv]
   exact⟨rfl,.inl ⟨e,es,[],cY _ _ _,aXa _,fun _=>by simp⟩⟩
 · rw[if_neg (by simpa using e1)] at hk
   exact h1.vr.slots t k hk
theorem SW.nilOwn {P:Program} {io:List Nat} {Q:Ex→St→Prop} {σ:St} {c:Code} (s j:Nat) (e:TypeId) (es:Nat) (hs:aQ σ (.t s)=some (.v (.e (.c .nil)))) (hj:aQ σ (.o j)=none)
 (h:nK σ [(.o j,.row e es []),(.t s,.v (.e (.c (.own j 0))))] (SW P io c Q)):SW P io c Q σ:=by
 rw[kZ] at h
 intro cx ι S a w hio hw hf
 exact h cx _ S a w hio (hw.nilOwn e es hs hj) hf
theorem ai {a b:Prop} (x:a) (y:b):a∧b:=⟨x,y⟩
theorem vc {p:Prop} (h:p:=by first|trivial|exact aW1 rfl|exact⟨rfl,aW1 rfl⟩|omega|((repeat' apply And.intro)<;>first|trivial|rfl|exact aW1 rfl|omega)|(simp;done)|(simp;omega)):p:=h
theorem rk {p:Prop} (h:p:=by intro h;(repeat' apply And.intro)<;>first|exact h|trivial):p:=h
theorem pk {p:Prop} (h:p:=by constructor<;>intro h<;>first|trivial|exact h|(simp[gb,vH];done)|(simpa[gb,vH] using h)|(simp only[gb,vH] at *; grind)|(simp_all[gb,vH];done)):p:=h
def OpE (P:Program) (o:Oper) (R:List (dH×Option K)) (Ws:List (dH×K)→Prop):Prop:=
 ∀(cx:Cx P) (σ:St) (ι:Nat→Value) (S:Nat→Prop) (a:Act) (w:World),bQ R σ→RW cx σ ι S a w→(∀d,o.dst=some d→d<cx.N)→
  ∀(next:Act→World→Prop) (Q:Exit→Act→World→Prop),(∀W,Ws W→ ∀ι' S' a' w',RW cx (iO σ W) ι' S' a' w'→next a' w')→o.wp P a w next Q
theorem xS.toE {P:Program} {o:Oper} {R:List (dH×Option K)} {W:List (dH×K)} (h:xS P o R W):OpE P o R (· =W):=
 fun cx σ ι S a w hr hw hd next Q hn=>h cx σ ι S a w hr hw hd next Q fun ι' S' a' w' hw'=>hn W rfl ι' S' a' w' hw'
def SpecE (P:Program) (f:FuncId) (n:Nat) (σin:St) (Qo:St→Prop):Prop:=
 ik P f∧ ∀(ι ν:Nat→Value) (S:Nat→Prop) (w:World) (args:Array Value),(GB P w fun b=> ∃o,lB σin ι o b)→VR σin ι ν S w→args.size=n→(∀i,i<n→args[i]? =some (ν i))→
  Calls P f args w fun e w'=> ∃v ι' S' σout,Qo σout∧e= .returned v∧aN1 σin ι S w σout ι' S' w' v
theorem nM {P:Program} {f:FuncId} {args:Array Value} {w:World} {Q Q':Ending→World→Prop} (hq: ∀e w',Q e w'→Q' e w') (h:Calls P f args w Q):Calls P f args w Q':=by
 intro cs
 obtain⟨e,w',fr,h1,h2⟩:=h cs
 exact⟨e,w',fr,hq e w' h1,h2⟩
theorem Spec.toE {P:Program} {f:FuncId} {n:Nat} {σin σout:St} {Qo:St→Prop} (h:Spec P f n σin σout) (hq:Qo σout):SpecE P f n σin Qo:=by
 refine⟨h.1,fun ι ν S w args h0 h1 h2 h3=>nM (fun e w'=> ?_) (h.2 ι ν S w args h0 h1 h2 h3)⟩
 rintro⟨v,ι',S',rfl,hp⟩
 exact⟨v,ι',S',σout,hq,rfl,hp⟩
def aOb (T:hD) (io:List Nat) (rs:List ResultVar) (Qo:St→Prop):Ex→St→Prop
 | .norm,s=> ∃σout,Qo σout∧bc T io rs σout s
 | .ret,s=> ∃σout,Qo σout∧bc T io rs σout s
 | .exit _,_=>False
theorem zy {P:Program} {T:hD} (hT:dR P T) {f:FuncId} {fn:Func} {c:Code} {n:Nat} {σin:St} {Qo:St→Prop} (hf:P.funcs[f]? =some fn) (hb:fn.body=some c) (hname: (fn.name== "runtime.NumGoroutine")=false) (hn:n≤fn.ntmps) (hfit:tQ fn.ntmps c=true)
 (hsl:sP n σin=true) (h:SW P (cA σin) c (aOb T (cA σin) fn.results.toList Qo) σin):SpecE P f n σin Qo:=by
 refine⟨⟨fn,hf,by rw[hb];rfl,hname⟩,fun ι ν S w args hgb hvr hsz hargs=> ?_⟩
 have hnu: ∀s,s<n→(args++Array.replicate (fn.ntmps - args.size) undef).getD s undef=ν s:=by
  intro s hs
  rw[Array.getD_eq_getD_getElem?,Array.getElem?_append_left (by omega),hargs s hs];rfl
 let cx:Cx P:={N:=fn.ntmps,w0:=w,S0:=S,k0:=fun o=>aQ σin (.o o),kio:=fun o=>aQ σin (.o o),ι0:=ι,gb:=hgb.weak fun b ⟨o,k,q1,q2,q3⟩=>⟨o,⟨k,q1,q2⟩,q3⟩}
 have hM: ∀b,cx.M b↔ ∃o,lB σin ι o b:=fun b=>⟨fun⟨o,k,q1,q2,q3⟩=>⟨o,⟨k,q1,q2⟩,q3⟩,fun⟨o,⟨k,q1,q2⟩,q3⟩=>⟨o,k,q1,q2,q3⟩⟩
 have hw:RW cx σin ι S {tmps:=args++Array.replicate (fn.ntmps - args.size) undef,defers:=[]} w:=by
  refine⟨⟨fun s x hx=> ?_,hvr.objs,hvr.mutS,hvr.inj,hvr.sz⟩,?_,rfl,Fr.refl _ _,fun o b ⟨⟨k,q1,q2⟩,q3⟩=> .inr ⟨o,k,q1,q2,q3⟩,fun b hb=> .inl hb,fun o k hk=>⟨k,hk,nJ.refl' _ _⟩⟩
  · have hs:=uF hsl s _ hx
    have:iW {tmps:=args++Array.replicate (fn.ntmps - args.size) undef,defers:=[]} s=ν s:=hnu s hs
    rw[this];exact hvr.slots s x hx
  · show(args++Array.replicate (fn.ntmps - args.size) undef).size=fn.ntmps
    simp;omega
 refine calls_of_wp hf hb (wp_mono (h cx ι S _ w (fun o k hk=>fK hk) hw hfit) fun e a' w' hq=> ?_)
 have fin: (∃σ' ι' S',(∃σout,Qo σout∧bc T (cA σin) fn.results.toList σout σ')∧RW cx σ' ι' S' a' w')→a'.defers=[]∧ ∃v,(results fn a'.tmps).run P w'= .ok v w'∧ ∃v_1 ι' S' σout,Qo σout∧Ending.returned v= .returned v_1∧aN1 σin ι S w σout ι' S' w' v_1:=by
  rintro⟨σ',ι',S',⟨σout,hQo,X,rl,bor,hX,hm,hio⟩,hw'⟩
  obtain⟨v,hr,hv⟩:=uh hT hw' hX
  refine⟨hw'.defers,v,hr,v,fun j=>ι' (kO rl j),qF σ' ι' bor S',σout,hQo,rfl,?_⟩
  have hlo: ∀o,aQ ((dH.t 0,K.v X)::eF σ') (.o o)=aQ σ' (.o o):=fun o=>by simp only[aQ];rw[if_neg (by simp),qG]
  have st:rN σ' ι' S' w' ((dH.t 0,K.v X)::eF σ') ι' S' w':=⟨fun _ h=>h,fun _ _=>rfl,fun o k hk=>⟨k,by rw[hlo];exact hk,nJ.refl' _ _⟩⟩
  have hmut: ∀o b,lB ((dH.t 0,K.v X)::eF σ') ι' o b↔lB σ' ι' o b:=fun o b=>by unfold lB;rw[hlo]
  have hlt: ∀(r:St) s k,aQ (eF r) (.t s)=some k→False:=by
   intro r s k
   induction r with
   |nil=>intro h;cases h
   |cons p r ih=>
    obtain⟨l,k'⟩:=p
    cases l with
    |t n=>exact ih
    |o n=>simp only[eF,aQ];rw[if_neg (by simp)];exact ih
  have hvr0:VR ((dH.t 0,K.v X)::eF σ') ι' (fun _=>v) S' w':=by
   refine⟨fun s x hx=> ?_,fun o k hk=>OR.step st (fun _ _=>rfl) (hw'.vr.objs o k (by rw[← hlo];exact hk)),fun o b q=>hw'.vr.mutS o b ((hmut o b).1 q),fun o o' b q q'=>hw'.vr.inj o o' b ((hmut o b).1 q) ((hmut o' b).1 q'),hw'.vr.sz⟩
   simp only[aQ] at hx
   split at hx
   · cases hx;exact lT.step st hv
   · exact(hlt σ' s _ hx).elim
  have hvr1:=vF hm (fun _ _ h=>h) hvr0
  have hio2: ∀o∈cA σin,iH o (cA σout)=false∨Nat.beq (kO rl o) o=true:=by simpa only[ui,aXe,Bool.or_eq_true,Bool.not_eq_true'] using hio
  have hgive: ∀b,qF ((dH.t 0,K.v X)::eF σ') ι' bor S' b→qF σ' ι' bor S' b:=fun b hb=>hb.imp id fun⟨o,ho,q⟩=>⟨o,ho,(hmut o b).1 q⟩
  refine⟨⟨hw'.fr.os,hw'.fr.tape,hw'.fr.output,hw'.fr.size,fun b hb hnm=>hw'.fr.block b hb (fun h=>hnm ((hM b).1 h))⟩,?_,fun b hb=> ?_,fun j b hmu=> ?_,fun o k k' hk hk'=> ?_⟩
  · have e:qF ((dH.t 0,K.v X)::eF σ') ι' bor S'=qF σ' ι' bor S':=by
     funext b;apply propext;exact⟨hgive b,fun hb=>hb.imp id fun⟨o,ho,q⟩=>⟨o,ho,(hmut o b).2 q⟩⟩
    rw[← e];exact hvr1
  · rcases hb with hb|⟨o,ho,hmo⟩
    · exact(hw'.rd b hb).imp id fun h=>h.imp id fun h=>(hM b).1 h
    · exact .inr ((hw'.own o b hmo).imp id fun h=>(hM b).1 h)
  · exact(hw'.own _ b ((hmut _ b).1 (hm.mut (fun _ _ h=>h) hmu))).imp id fun h=>(hM b).1 h
  · have hren:kO rl o=o:=by
     rcases hio2 o (fK hk) with h4|h4
     · rw[hF.2 (fK hk')] at h4;cases h4
     · exact Nat.eq_of_beq_eq_true h4
    obtain⟨k1,hk1,hev⟩:=hw'.io o k hk
    have hev:nJ (ι o) (ι' o) k k1:=hev
    obtain⟨k2,hk2,hmk⟩:=hm.ids o k' hk'
    rw[hren,hlo,hk1] at hk2;cases hk2
    rw[hren]
    exact aC3 hev hmk
 cases e with
 |normal=>
  obtain⟨σ',ι',S',h1,h2⟩:=hq
  exact fin ⟨σ',ι',S',h1,h2⟩
 |ret=>
  obtain⟨σ',ι',S',h1,h2⟩:=hq
  exact fin ⟨σ',ι',S',h1,h2⟩
 |exit id=>obtain⟨σ',ι',S',h1,h2⟩:=hq;exact h1.elim
 |goto l=>exact hq.elim
 |panic ch=>exact hq.elim
 |outgrown=>exact hq.elim
section
variable {P:Program} {f:FuncId} {n:Nat} {σin:St} {Qo:St→Prop} {rl:List (Nat×Nat)} {bor:List Nat} {σ0:St} {Xs:List V} {Ra:List (dH×Option K)} {robj:List (Nat×K)} {news:List Nat}
def aOc (Ra:List (dH×Option K)) (robj:List (Nat×K)) (rl:List (Nat×Nat)) (news:List Nat):List (dH×Option K):=
 Ra++robj.map (fun p=>(.o p.1,some p.2))++news.map fun j=>(.o (kO rl j),none)
theorem aBl (hs:SpecE P f n σin Qo) {o:Oper} {c:Call} (ho:o.op= .call c) (hc:c.callee= .value (.func f)) (hx:evA σ0 c.args.toList=some (Xs,Ra)) (hn:Xs.length=n)
 (hm:oS (eV 0 Xs++rQ robj) σin rl bor) (hq: ∀σout,Qo σout→kS rl σin σout=true∧(bor=[]∨mM σout)∧ ∀j∈jV σin σout,j∈news):
 OpE P o (aOc Ra robj rl news) fun W=> ∃σout,Qo σout∧W=uB rl σin σout o.dst:=by
 intro cx σ ι S a w hr hw hd next Q hnext
 obtain⟨⟨fn,hf,hbody,hname⟩,hcall⟩:=hs
 obtain⟨hlen,hargs⟩:=nx hw hx hr.left.left
 let args:Array Value:=c.args.map a.eval
 let ν:Nat→Value:=fun i=>(args[i]?).getD undef
 have hsz:args.size=n:=by show(c.args.map a.eval).size=n;rw[Array.size_map,← hn,hlen,Array.length_toList]
 have hargν: ∀i,i<n→args[i]? =some (ν i):=fun i hi=>by
  show args[i]? =some ((args[i]?).getD undef)
  rw[Array.getElem?_eq_getElem (by omega)];rfl
 have hνr: ∀s X,Xs[s]? =some X→lT σ ι w S X (ν s):=fun s X hX=>by
  obtain⟨x,h1,h2⟩:=hargs s X hX
  have:ν s=a.eval x:=by
   show((c.args.map a.eval)[s]?).getD undef=a.eval x
   rw[Array.getElem?_toList] at h1
   rw[Array.getElem?_map,h1];rfl
  rw[this];exact h2
 have hlo: ∀o,aQ (eV 0 Xs++eF σ) (.o o)=aQ σ (.o o):=fun o=>by rw[lC,qG]
 have st:rN σ ι S w (eV 0 Xs++eF σ) ι S w:=⟨fun _ h=>h,fun _ _=>rfl,fun o k hk=>⟨k,by rw[hlo];exact hk,nJ.refl' _ _⟩⟩
 have hmut: ∀o b,lB (eV 0 Xs++eF σ) ι o b↔lB σ ι o b:=fun o b=>by unfold lB;rw[hlo]
 have hvr0:VR (eV 0 Xs++eF σ) ι ν S w:=by
  refine⟨fun s x hx=> ?_,fun o k hk=>OR.step st (fun _ _=>rfl) (hw.vr.objs o k (by rw[← hlo];exact hk)),fun o b q=>hw.vr.mutS o b ((hmut o b).1 q),fun o o' b q q'=>hw.vr.inj o o' b ((hmut o b).1 q) ((hmut o' b).1 q'),hw.vr.sz⟩
  obtain⟨X,h1,h2⟩:=bd hx
  cases h2
  exact lT.step st (hνr s _ h1)
 have hsub: ∀l k,aQ (eV 0 Xs++rQ robj) l=some k→aQ (eV 0 Xs++eF σ) l=some k:=fun l k h=>by
  cases l with
  |o o=>
   rw[hlo]
   rw[lC] at h
   exact hr (.o o,some k) (List.mem_append_left _ (List.mem_append_right _ (aXd.2 ⟨(o,k),il h,rfl⟩)))
  |t s=>
   obtain⟨X,h1,rfl⟩:=vG h
   have hs:=(aXb.1 h1).1
   rw[pI 0 Xs _ s (aW6 _) (by omega)];simp[h1]
 have hvr1:=vF hm hsub hvr0
 have hgb:GB P w fun b=> ∃o,lB σin (fun j=>ι (kO rl j)) o b:=fun w2 h2=>cx.gb w2 (hw.fr.trans h2 fun x hx ⟨o,ho⟩=>by
  rcases hw.own _ x ((hmut _ _).1 (hm.mut hsub ho)) with h3|h3
  · omega
  · exact h3)
 have hcl:=hcall _ ν _ w args hgb hvr1 hsz hargν
 obtain⟨callee,cargs,argTypes⟩:=c
 dsimp only at hc
 subst hc
 have hbd: ∃cd,fn.body=some cd:=by
  cases hq:fn.body with
  |none=>rw[hq] at hbody;cases hbody
  |some cd=>exact⟨cd,rfl⟩
 obtain⟨cd,hbd⟩:=hbd
 have hrun: (execOp a.eval o).run P w= .ok (.enter f args) w:=by
  have h1:=MuLone.run_callFunc_enter (P:=P) hf hname hbd args w
  have e: (execOp a.eval o).run P w=(callFunc f (args++ #[])).run P w:=by
   simp[execOp,ho,resolve,invoke,Deferred.ofValue,args,Act.eval]
  rw[e,Array.append_empty];exact h1
 unfold Oper.wp
 rw[hrun,Oper.upon_enter]
 intro cs
 obtain⟨e,w',fr,⟨v,ι',S',σout,hQo,rfl,hpost⟩,hcomes⟩:=hcl cs
 refine⟨_,w',fr,?_,hcomes⟩
 dsimp only
 obtain⟨hk,hb,hnw⟩:=hq σout hQo
 have hr':bQ (qt Ra robj rl σin σout) σ:=by
  intro p hp
  rcases List.mem_append.1 hp with hp|hp
  · exact hr p (List.mem_append_left _ hp)
  · obtain⟨j,hj,rfl⟩:=aXd.1 hp
    exact hr (.o (kO rl j),none) (List.mem_append_right _ (aXd.2 ⟨j,hnw j hj,rfl⟩))
 have hrw:=aJ6 (Ra:=Ra) hm hk hb hr' hw hνr hpost
 have hSK: ∀{l:dH} {k:K},aQ σout l=some k→(∀b,S' b→(S b∨(bor=[]∧S' b)))∨wD k:=fun{l k} h=>by
  rcases hb with e|hs
  · exact .inl fun b hb=> .inr ⟨e,hb⟩
  · exact .inr (hs (l,k) (vD h))
 have hnext:=hnext _ ⟨σout,hQo,rfl⟩
 cases hdst:o.dst with
 |none=>
  refine hnext (oT rl σout ι' ι) (fun b=>S b∨(bor=[]∧S' b)) _ w' ?_
  rw[hdst]
  simp only[uB,zx,List.append_nil]
  exact hrw
 |some d=>
  have hd':=hd d hdst
  cases hq:aQ σout (.t 0) with
  |none=>
   refine hnext (oT rl σout ι' ι) (fun b=>S b∨(bor=[]∧S' b)) _ w' ?_
   rw[hdst]
   simp only[uB,zx,pR,hq,iO]
   exact hrw.putDead hd' v
  |some k=>
   cases k with
   |v X=>
    refine hnext (oT rl σout ι' ι) (fun b=>S b∨(bor=[]∧S' b)) _ w' ?_
    rw[hdst]
    simp only[uB,zx,pR,hq,iO]
    exact hrw.put hd' (aJ5 hk (hSK hq) (hpost.vr.slots 0 (.v X) hq))
   |_=>
    refine hnext (oT rl σout ι' ι) (fun b=>S b∨(bor=[]∧S' b)) _ w' ?_
    rw[hdst]
    simp only[uB,zx,pR,hq,iO]
    exact hrw.putDead hd' v
end
theorem RW.weaken {P:Program} {cx:Cx P} {io:List Nat} {σ:St} {ι:Nat→Value} {S:Nat→Prop} {a:Act} {w:World} (σ':St) (rl:List (Nat×Nat)) (bor:List Nat) (hm:oS σ σ' rl bor) (hk:zA io σ' rl bor=true) (hio: ∀o k,cx.kio o=some k→o∈io) (hw:RW cx σ ι S a w):RW cx σ' (fun j=>ι (kO rl j)) (qF σ ι bor S) a w:=by
 have hkk: ∀o k,cx.kio o=some k→kO rl o=o∧o∈cA σ'∧o∉bor:=fun o k ho=>by
  have:=aXe.1 hk o (hio o k ho)
  simp only[aW4,Bool.not_eq_true'] at this
  refine⟨Nat.eq_of_beq_eq_true this.1.1,hF.1 this.1.2,fun hb=> ?_⟩
  rw[hF.2 hb] at this;cases this.2
 have hvr:=vF hm (fun _ _ h=>h) hw.vr
 refine⟨hvr,hw.size,hw.defers,hw.fr,fun j b hmu=> ?_,fun b hb=> ?_,fun o k ho=> ?_⟩
 · exact hw.own _ b (hm.mut (fun _ _ h=>h) hmu)
 · rcases hb with hb|⟨o,ho,hmo⟩
   · exact hw.rd b hb
   · exact .inr (hw.own o b hmo)
 · obtain⟨q1,q2,q3⟩:=hkk o k ho
   obtain⟨k1,hk1,hev⟩:=hw.io o k ho
   obtain⟨p,hp⟩:=qD q2
   obtain⟨k2,hk2,hmk⟩:=hm.ids o p hp
   rw[q1] at hk2
   rw[hk1] at hk2;cases hk2
   refine⟨p,hp,?_⟩
   rw[q1]
   exact aC3 hev hmk
theorem RW.freeze {P:Program} {cx:Cx P} {σ:St} {ι:Nat→Value} {S:Nat→Prop} {a:Act} {w:World} (hw:RW cx σ ι S a w) {s o n:Nat} {e:TypeId} {es:Nat} {rows:List (List D)} (hs:aQ σ (.t s)=some (.v (.e (.c (.own o n))))) (ho:aQ σ (.o o)=some (.row e es rows)) (hn:rows.length=n):
 RW cx (pY (pY σ (.o o) .dead) (.t s) (.v (Dv (.sl rows)))) ι (fun b=>S b∨vA (ι o) b) a w:=by
 have hlo: ∀o',aQ (pY (pY σ (.o o) .dead) (.t s) (.v (Dv (.sl rows)))) (.o o')=if o'=o then some .dead else aQ σ (.o o'):=fun o'=>by
  rw[cP _ _ (by simp),lM]
  by_cases h:o'=o
  · subst h;simp
  · rw[if_neg (by simpa using fun e=>h e.symm),if_neg h]
 have hmut: ∀o' b,lB (pY (pY σ (.o o) .dead) (.t s) (.v (Dv (.sl rows)))) ι o' b→o'≠o∧lB σ ι o' b:=fun o' b ⟨⟨k,hk,hl⟩,hb⟩=>by
  rw[hlo] at hk
  by_cases h:o'=o
  · rw[if_pos h] at hk;cases hk;exact hl.elim
  · rw[if_neg h] at hk;exact⟨h,⟨k,hk,hl⟩,hb⟩
 have hmo: ∀b,vA (ι o) b→lB σ ι o b:=fun b hb=>⟨⟨_,ho,trivial⟩,hb⟩
 have st:rN σ ι S w (pY (pY σ (.o o) .dead) (.t s) (.v (Dv (.sl rows)))) ι (fun b=>S b∨vA (ι o) b) w:=by
  refine⟨fun b h=> .inl h,fun _ _=>rfl,fun o' k hk=> ?_⟩
  by_cases h:o'=o
  · exact⟨.dead,by rw[hlo,if_pos h],by cases k<;>simp[nJ]⟩
  · exact⟨k,by rw[hlo,if_neg h];exact hk,nJ.refl' _ _⟩
 have hrow:=hw.vr.objs o _ ho
 have hv:iW a s=ι o:=by
  obtain⟨_,h2⟩:=(show CR σ ι w S (.own o n) (iW a s) from hw.vr.slots s _ hs)
  rcases h2 with⟨e2,es2,rows2,hl,_,hv⟩|hd
  · rw[ho] at hl;cases hl;exact hv hn
  · rw[ho] at hd;cases hd
 refine⟨⟨fun t k hkt=> ?_,fun o' k hk=> ?_,fun o' b hm hS=> ?_,fun o1 o2 b h1 h2=> ?_,fun b hb=> ?_⟩,hw.size,hw.defers,hw.fr,fun o' b hm=>hw.own o' b (hmut o' b hm).2,fun b hb=> ?_,fun o' k hk'=> ?_⟩
 · rw[lM] at hkt
   by_cases e2:s=t
   · subst e2
     rw[if_pos rfl] at hkt;cases hkt
     show DR w _ (.sl rows) (iW a s)
     rw[hv]
     rcases hrow with⟨h1,h2⟩|⟨g,off,cap,cur,fz,h1,hh,hfz,h2,h3,h4,h5⟩
     · rw[h1,h2]
       exact DR.sl [] none 0 es ⟨0,0,none⟩ (fun _ _=>undef) (aXa _) (by decide) (by simp) (by simp) (by simp) (by simp)
     · rw[h1]
       let u:Nat→Nat→Value:=fun i k=>(cur[off+i*es+k]?).getD undef
       refine DR.sl rows (some ⟨g,off,none⟩) cap es ⟨g,off,none⟩ u h2 h3 (fun r hr=> ?_) (fun _=>rfl) (fun i r k d hi hd=> ?_) (fun i r k d hi hd=> ?_)
       · obtain⟨i,hi⟩:=List.mem_iff_getElem?.1 hr
         exact(h5 i r hi).1
       · obtain⟨v,hv1,_⟩:=(h5 i r hi).2 k d hd
         refine⟨.inr rfl,?_⟩
         rw[lH,cell_of_row w g _ cur e fz hh,← Nat.add_assoc]
         show cur[off+i*es+k]? =some ((cur[off+i*es+k]?).getD undef)
         rw[hv1];rfl
       · obtain⟨v,hv1,hv2⟩:=(h5 i r hi).2 k d hd
         have:u i k=v:=by show(cur[off+i*es+k]?).getD undef=v;rw[hv1];rfl
         rw[this]
         exact DR.mono (fun b h=> .inl h) (fun _ _=>rfl) hv2
   · rw[if_neg (by simpa using e2),cP _ _ (by simp)] at hkt
     exact rO.step st (hw.vr.slots t k hkt)
 · rw[hlo] at hk
   by_cases h:o'=o
   · rw[if_pos h] at hk;cases hk;trivial
   · rw[if_neg h] at hk
     exact OR.step st (fun _ _=>rfl) (hw.vr.objs o' k hk)
 · obtain⟨hne,hm⟩:=hmut o' b hm
   rcases hS with hS|hS
   · exact hw.vr.mutS o' b hm hS
   · exact hne (hw.vr.inj o' o b hm (hmo b hS))
 · exact hw.vr.inj o1 o2 b (hmut o1 b h1).2 (hmut o2 b h2).2
 · rcases hb with hb|hb
   · exact hw.vr.sz b hb
   · exact OR.lt hrow trivial hb
 · rcases hb with hb|hb
   · exact hw.rd b hb
   · exact .inr (hw.own o b (hmo b hb))
 · obtain⟨k2,q1,q2⟩:=hw.io o' k hk'
   by_cases hne:o'=o
   · exact⟨.dead,by rw[hlo,if_pos hne],by cases k<;>trivial⟩
   · exact⟨k2,by rw[hlo,if_neg hne];exact q1,q2⟩
def uw (io:List Nat) (σ σ1:St):Prop:= ∀(P:Program) (cx:Cx P) (ι:Nat→Value) (S:Nat→Prop) (a:Act) (w:World),(∀o k,cx.kio o=some k→o∈io)→RW cx σ ι S a w→ ∃ι' S',RW cx σ1 ι' S' a w
theorem uw.rfl {io:List Nat} {σ:St}:uw io σ σ:=fun _ cx ι S a w _ h=>⟨ι,S,h⟩
theorem uw.trans {io:List Nat} {σ σ1 σ2:St} (h:uw io σ σ1) (k:uw io σ1 σ2):uw io σ σ2:=fun _ cx ι S a w hio hw=>by
 obtain⟨ι1,S1,h1⟩:=h _ cx ι S a w hio hw
 exact k _ cx ι1 S1 a w hio h1
theorem uw.weak {io:List Nat} {σ σ1:St} (rl:List (Nat×Nat)) (bor:List Nat) (hm:mL σ σ1 rl bor σ1) (hm2:bb σ1 rl bor=true) (hk:zA io σ1 rl bor=true):uw io σ σ1:=fun _ cx ι S a w hio hw=>⟨_,_,RW.weaken σ1 rl bor ⟨hm,hm2⟩ hk hio hw⟩
theorem uw.frz {io:List Nat} {σ:St} {s o n:Nat} {e:TypeId} {es:Nat} {rows:List (List D)} (hs:aQ σ (.t s)=some (.v (.e (.c (.own o n))))) (ho:aQ σ (.o o)=some (.row e es rows)) (hn:rows.length=n) (hk:iH o io=false):uw io σ (pY (pY σ (.o o) .dead) (.t s) (.v (Dv (.sl rows)))):=fun _ cx ι S a w hio hw=>
 ⟨_,_,hw.freeze hs ho hn⟩
theorem SW.frz {P:Program} {io:List Nat} {Q:Ex→St→Prop} {σ:St} {c:Code} (s o:Nat) {n:Nat} {e:TypeId} {es:Nat} {rows:List (List D)} (hs:aQ σ (.t s)=some (.v (.e (.c (.own o n))))) (ho:aQ σ (.o o)=some (.row e es rows)) (hn:rows.length=n) (hk:iH o io=false)
 (h:sr σ (.o o) .dead fun σ'=>sr σ' (.t s) (.v (Dv (.sl rows))) fun σ2=>SW P io c Q σ2):SW P io c Q σ:=fun cx ι S a w hio hw hf=>by
 rw[oU,oU] at h
 obtain⟨ι1,S1,h1⟩:=uw.frz hs ho hn hk _ cx ι S a w hio hw
 exact h cx ι1 S1 a w hio h1 hf
def aBm (P:Program) (T:hD) (io:List Nat) (o:Oper) (σ:St) (k:St→Prop):Prop:=
 match oa T o σ with
 |some (p,_,W)=>p∧nK σ W k
 |none=> ∃σ1,uw io σ σ1∧ ∃R Ws,OpE P o R Ws∧bQ R σ1∧ ∀W,Ws W→nK σ1 W k
theorem rh {P:Program} {T:hD} (hT:dR P T) {io:List Nat} {o:Oper} {σ:St} {k:St→Prop} (h:aBm P T io o σ k): ∃σ1,uw io σ σ1∧ ∃R Ws,OpE P o R Ws∧bQ R σ1∧ ∀W,Ws W→nK σ1 W k:=by
 unfold aBm at h
 split at h
 · rename_i p R W he
   obtain⟨h1,h2⟩:=wF hT o σ p R W he h.1
   exact⟨σ,uw.rfl,R,_,h1.toE,h2,fun W' e=>by subst e;exact h.2⟩
 · exact h
def goE (P:Program) (T:hD) (io:List Nat) (ops:List Oper):List Oper→St→(St→Prop)→Prop
 | [],σ,k=>k σ
 |o::os,σ,k=>match o.guard with
  |none=>aBm P T io o σ fun σ'=>goE P T io ops os σ' k
  |some (j,want)=>match(ops[j]?).bind (·.dst),o.dst with
   |some s,some d=>match gOf want (aQ σ (.t s)) with
    |some g=>ke P T o σ s want g d fun R X=>sr σ (.t d) (.cv s want g X) fun σ'=>goE P T io ops os σ' k
    |none=>False
   |_,_=>False
theorem od {P:Program} {T:hD} (hT:dR P T) {io:List Nat} {ops:Array Oper} {cx:Cx P} (hio: ∀o k,cx.kio o=some k→o∈io) {Q:Exit→Act→World→Prop} {k:St→Prop} (hk: ∀σ ι S a w,k σ→RW cx σ ι S a w→Q .normal a w): ∀(l:List Oper) (σ:St) (ι:Nat→Value) (S:Nat→Prop) (a:Act) (w:World),goE P T io ops.toList l σ k→RW cx σ ι S a w→(∀o∈l,∀d,o.dst=some d→d<cx.N)→wpList P ops Q l a w
 | [],σ,ι,S,a,w,h,hw,hf=>hk σ ι S a w h hw
 |o::os,σ,ι,S,a,w,h,hw,hf=>by
  have hfo:=hf o (List.mem_cons_self ..)
  have hfs: ∀o∈os,∀d,o.dst=some d→d<cx.N:=fun o ho=>hf o (List.mem_cons_of_mem _ ho)
  unfold wpList
  simp only[goE] at h
  split at h
  · rename_i hg
    obtain⟨σ1,hwk,R,Ws,h1,h2,h3⟩:=rh hT h
    rw[if_pos (by simp[Region.wanted,hg])]
    obtain⟨ι1,S1,hw1⟩:=hwk _ cx ι S a w hio hw
    refine .inl (h1 cx σ1 ι1 S1 a w h2 hw1 hfo _ Q fun W hW ι' S' a' w' hw'=> ?_)
    have h3:=h3 W hW
    rw[kZ] at h3
    exact od hT hio hk os _ ι' S' a' w' h3 hw' hfs
  · rename_i j want hg
    split at h<;>try(exact h.elim)
    rename_i s d hs hd
    split at h<;>try(exact h.elim)
    rename_i g hl
    have hs': (ops[j]?).bind (·.dst)=some s:=by simpa using hs
    obtain⟨R,X,h1,h2⟩:=cq hT hg hs' hd hl h
    rw[oU] at h2
    exact h1 cx σ ι S a w zD hw hfo _ Q fun ι' S' a' w' hw'=>od hT hio hk os _ ι' S' a' w' (by simpa[iO] using h2) hw' hfs
section
variable {P:Program} {io:List Nat} {Q:Ex→St→Prop} {σ:St}
theorem SW.regE {T:hD} (hT:dR P T) (ks:List Nat) {id:Nat} {ops:Array Oper} (h:goE P T io ops.toList ops.toList σ fun σ'=>rR ks σ' (Q .norm)):SW P io (.region id ops false) Q σ:=by
 intro cx ι S a w hio hw hf
 have hfit: ∀o∈ops.toList,∀d,o.dst=some d→d<cx.N:=fun o ho=>yT (by simpa[tQ] using hf) ho
 refine wp_region_list (od hT hio (fun σ' ι' S' a' w' h4 hw'=> ?_) ops.toList σ ι S a w h hw hfit)
 rw[nB] at h4
 exact⟨_,ι',S',h4,hw'.keep ks⟩
end
section
variable {P:Program} {T:hD} {io:List Nat} {f:FuncId} {n:Nat} {σin:St} {o:Oper} {c:Call} {d:Nat} {σ σ1:St} {Xs:List V} {Ra:List (dH×Option K)}
theorem cQ {Qo:St→Prop} {rl:List (Nat×Nat)} {bor news:List Nat} {robj:List (Nat×K)} {k:St→Prop} (hs:SpecE P f n σin Qo) (ho:o.op= .call c) (hc:c.callee= .value (.func f)) (hx:evA σ c.args.toList=some (Xs,Ra)) (hn:Xs.length=n)
 (hm:oS (eV 0 Xs++rQ robj) σin rl bor) (hq: ∀σout,Qo σout→kS rl σin σout=true∧(bor=[]∨mM σout)∧ ∀j∈jV σin σout,j∈news) (h1: ∀p∈robj,aQ σ (.o p.1)=some p.2) (h2: ∀j∈news,aQ σ (.o (kO rl j))=none)
 (h: ∀σout,Qo σout→nK σ (uB rl σin σout o.dst) k): ∃σ1,uw io σ σ1∧ ∃R Ws,OpE P o R Ws∧bQ R σ1∧ ∀W,Ws W→nK σ1 W k:=by
 refine⟨σ,uw.rfl,_,_,aBl hs ho hc hx hn hm hq,fun p hp=> ?_,fun W ⟨σout,hQ,e⟩=>e▸h σout hQ⟩
 rcases List.mem_append.1 hp with hp|hp
 · rcases List.mem_append.1 hp with hp|hp
   · exact uX hx p hp
   · obtain⟨q,hq,rfl⟩:=aXd.1 hp
     exact h1 q hq
 · obtain⟨j,hj,rfl⟩:=aXd.1 hp
   exact h2 j hj
theorem zF {k:St→Prop} (s o':Nat) {m:Nat} {e:TypeId} {es:Nat} {rows:List (List D)} (hs:aQ σ (.t s)=some (.v (.e (.c (.own o' m))))) (ho:aQ σ (.o o')=some (.row e es rows)) (hn:rows.length=m) (hk:iH o' io=false)
 (h:sr σ (.o o') .dead fun σ'=>sr σ' (.t s) (.v (Dv (.sl rows))) fun σ2=> ∃σ1,uw io σ2 σ1∧ ∃R Ws,OpE P o R Ws∧bQ R σ1∧ ∀W,Ws W→nK σ1 W k): ∃σ1,uw io σ σ1∧ ∃R Ws,OpE P o R Ws∧bQ R σ1∧ ∀W,Ws W→nK σ1 W k:=by
 rw[oU,oU] at h
 obtain⟨σ1,h1,h2⟩:=h
 exact⟨σ1,(uw.frz hs ho hn hk).trans h1,h2⟩
theorem iA {k:St→Prop} (h: ∃R W,xS P o R W∧bQ R σ∧nK σ W k): ∃σ1,uw io σ σ1∧ ∃R Ws,OpE P o R Ws∧bQ R σ1∧ ∀W,Ws W→nK σ1 W k:=by
 obtain⟨R,W,h1,h2,h3⟩:=h
 exact⟨σ,uw.rfl,R,_,h1.toE,h2,fun W' e=>by subst e;exact h3⟩
end
theorem cU {T:hD} {io:List Nat} {rs:List ResultVar} {Qo:St→Prop} {s:St} (σout:St) (hq:Qo σout) (h:bc T io rs σout s): ∃σout,Qo σout∧bc T io rs σout s:=⟨σout,hq,h⟩
def ux (p v:Value):Prop:= ∃vs,p= .tuple vs∧v∈vs.toList
abbrev ss (b tot:Nat):Value:= .slice (some ⟨b,0,none⟩) tot tot
def ki (w:World) (S:Nat→Prop) (e:TypeId) (es:Nat) (Pr:List D→Prop) (b tot:Nat):Prop:=
 ∃(cur:Array Value) (fz:Nat×Nat),w.heap[b]? =some (.cells cur e fz)∧aNj fz cur.size∧cur.size=tot*es∧ ∀i,i<tot→ ∃r:List D,r.length=es∧Pr r∧ ∀(k:Nat) d,r[k]? =some d→ ∃u,cur[i*es+k]? =some u∧DR w S d u
theorem ki.mono {w w':World} {S S':Nat→Prop} {e:TypeId} {es:Nat} {Pr:List D→Prop} {b tot:Nat} (hS: ∀b,S b→S' b) (hw: ∀b,S b→w'.heap[b]? =w.heap[b]?) (hb:w'.heap[b]? =w.heap[b]?) (h:ki w S e es Pr b tot):ki w' S' e es Pr b tot:=by
 obtain⟨cur,fz,hh,hf,hs,hr⟩:=h
 refine⟨cur,fz,by rw[hb];exact hh,hf,hs,fun i hi=> ?_⟩
 obtain⟨r,q1,q2,q3⟩:=hr i hi
 exact⟨r,q1,q2,fun k d hk=>by obtain⟨u,hu,hd⟩:=q3 k d hk;exact⟨u,hu,DR.mono hS hw hd⟩⟩
def aOd (e:TypeId) (es:Nat) (Pr:List D→Prop):ia where
 le p q:= ∀v,ux p v→ux q v
 R w S p:=(∃vs,p= .tuple vs)∧ ∀v,ux p v→ ∃b tot,v=ss b tot∧ki w S e es Pr b tot
 refl _ _ h:=h
 trans h k v hv:=k v (h v hv)
 mono:=by
  intro w w' S S' p hS hw hb ⟨h1,h2⟩
  refine⟨h1,fun v hv=> ?_⟩
  obtain⟨b,tot,rfl,hp⟩:=h2 v hv
  obtain⟨vs,rfl,hm⟩:=hv
  exact⟨b,tot,rfl,hp.mono hS hw (hb b ⟨_,hm,rfl⟩)⟩
 lt:=by
  intro w S p b ⟨⟨vs,hp⟩,h2⟩ hb
  subst hp
  obtain⟨v,hv,hbv⟩:=hb
  obtain⟨b',tot,rfl,cur,fz,hh,_⟩:=h2 v ⟨vs,rfl,hv⟩
  simp[blk] at hbv;subst hbv
  exact(Array.getElem?_eq_some_iff.1 hh).1
abbrev aM (e:TypeId) (es:Nat) (Pr:List D→Prop):K:= .zone (aOd e es Pr)
def slQ (es n:Nat) (p v:Value):Prop:=(v= .slice none 0 0∧n=0)∨ ∃b i0 cap tot,v= .slice (some ⟨b,i0*es,none⟩) n cap∧n≤cap∧cap≤maxLen∧i0+cap≤tot∧ux p (ss b tot)
def ptQ (es k:Nat) (p v:Value):Prop:= ∃b i tot,v= .pointer (some ⟨b,i*es+k,none⟩)∧i<tot∧ux p (ss b tot)
abbrev ps (j es n:Nat):C:= .z j (slQ es n)
theorem slQ.mono {es n:Nat} {p p' v:Value} (h: ∀v,ux p v→ux p' v) (hq:slQ es n p v):slQ es n p' v:=by
 rcases hq with hq|⟨b,i0,cap,tot,q1,q2,q3,q4,q5⟩
 · exact .inl hq
 · exact .inr ⟨b,i0,cap,tot,q1,q2,q3,q4,h _ q5⟩
theorem ptQ.mono {es n:Nat} {p p' v:Value} (h: ∀v,ux p v→ux p' v) (hq:ptQ es n p v):ptQ es n p' v:=by
 obtain⟨b,i,tot,q1,q2,q3⟩:=hq
 exact⟨b,i,tot,q1,q2,h _ q3⟩
theorem slQ.one {es n:Nat} {p v:Value} (h:slQ es n p v):v.oneCell'=true:=by
 rcases h with⟨rfl,_⟩|⟨b,i0,cap,tot,rfl,_⟩<;>rfl
section
variable {P:Program} {T:hD} {cx:Cx P} {σ:St} {ι:Nat→Value} {S:Nat→Prop} {a:Act} {w:World} {j es n:Nat} {e:TypeId} {Pr:List D→Prop} {Z:ia} {Q:Value→Value→Prop} {v:Value}
theorem tC (h:CR σ ι w S (.z j Q) v) (hl:aQ σ (.o j)=some (.zone Z)):Q (ι j) v:=by
 rcases h.2 with⟨Z',hl',hq⟩|hd
 · rw[hl] at hl';cases hl';exact hq _ (Z.refl _)
 · rw[hl] at hd;cases hd
theorem aKb (hl:aQ σ (.o j)=some (aM e es Pr)) (hq:slQ es n (ι j) v):CR σ ι w S (ps j es n) v:=⟨hq.one,.inl ⟨_,hl,fun p hp=>hq.mono hp⟩⟩
theorem aS6 {k:Nat} (hl:aQ σ (.o j)=some (aM e es Pr)) (hq:ptQ es k (ι j) v):CR σ ι w S (.z j (ptQ es k)) v:=
 ⟨by obtain⟨b,i,tot,rfl,_⟩:=hq;rfl,.inl ⟨_,hl,fun p hp=>hq.mono hp⟩⟩
theorem kj (hv:OR σ ι w S (ι j) (aM e es Pr)) (hl:aQ σ (.o j)=some (aM e es Pr)) {b tot:Nat} (hb:ux (ι j) (ss b tot)):ki w S e es Pr b tot∧lB σ ι j b:=by
 obtain⟨h1,h2⟩:=hv
 obtain⟨b',tot',he,hp⟩:=h2 _ hb
 cases he
 exact⟨hp,⟨_,hl,trivial⟩,by obtain⟨vs,e,hm⟩:=hb;rw[e];exact⟨_,hm,rfl⟩⟩
end
section
variable {P:Program} {T:hD} {o:Oper} {σ:St} {x y:Operand} {t e:TypeId} {s1 s2 d j es n:Nat} {s3:List C} {Z:ia} {R R2:List (dH×Option K)} {k:List (dH×Option K)→List (dH×K)→Prop} {Pr:List D→Prop} {ti:TI}
theorem ip (hT:dR P T) (ho:o.op= .call {callee:= .builtin .len,args:= #[x],argTypes:= #[t]}) (hd:o.dst=some d) (ht:T t=some ⟨.sl e,s1,s2,s3⟩) (hx:ev σ x=some (.e (.c (ps j es n)),R)) (hl:aQ σ (.o j)=some (.zone Z))
 (h:k (R++[(.o j,some (.zone Z))]) [(.t d,.v (I n))]): ∃R W,xS P o R W∧bQ R σ∧k R W:=by
 have hu:=(hT t _ ht).kind
 simp only[lW] at hu
 refine⟨_,_,nY hd fun cx σ' ι S a w hr hw=> ?_,(dB hx).append (bQ.one hl),h⟩
 have hl':=hr.right (.o j,some (.zone Z)) (by simp)
 dsimp only at hl'
 have hq:slQ es n (ι j) (a.eval x):=tC (S:=S) (w:=w) (dL hx hr.left hw) hl'
 rcases hq with⟨hv,rfl⟩|⟨b,i0,cap,tot,hv,_⟩
 · exact⟨_,by simp[execOp,ho,hv,resolve,invoke,builtin,Builtin.len_,run_underlying hu]<;>rfl,.i _⟩
 · exact⟨_,by simp[execOp,ho,hv,resolve,invoke,builtin,Builtin.len_,run_underlying hu]<;>rfl,.i _⟩
theorem aIh {m:Int} (hT:dR P T) (ho:o.op= .indexAddr t x y) (hd:o.dst=some d) (ht:T t=some ⟨.sl e,s1,s2,s3⟩) (hte:T e=some ti) (hes:ti.size=es) (hx:ev σ x=some (.e (.c (ps j es n)),R)) (hy:ev σ y=some (I m,R2)) {e':TypeId} (hl:aQ σ (.o j)=some (aM e' es Pr))
 (hm:0≤m∧m<n) (h:k (R++R2++[(.o j,some (aM e' es Pr))]) [(.t d,.v (.e (.c (.z j (ptQ es 0)))))]): ∃R W,xS P o R W∧bQ R σ∧k R W:=by
 have hu:=(hT t _ ht).kind
 simp only[lW] at hu
 refine⟨_,_,nY hd fun cx σ' ι S a w hr hw=> ?_,((dB hx).append (dB hy)).append (bQ.one hl),h⟩
 have hl':=hr.right (.o j,some (aM e' es Pr)) (by simp)
 dsimp only at hl'
 have hq:slQ es n (ι j) (a.eval x):=tC (S:=S) (w:=w) (dL hx hr.left.left hw) hl'
 have hY:=dL hy hr.left.right hw
 simp only[lT,ER,CR] at hY
 cases hv2:a.eval y<;>rw[hv2] at hY<;>cases hY
 rcases hq with⟨hv,rfl⟩|⟨b,i0,cap,tot,hv,q2,q3,q4,q5⟩
 · have:=hm.1;have:=hm.2;omega
 · refine⟨.pointer (some ⟨b,(i0+m.toNat)*es+0,none⟩),?_,aS6 (S:=S) (w:=w) hl' ⟨b,i0+m.toNat,tot,rfl,by have:=hm.1;have:=hm.2;omega,q5⟩⟩
   simp[execOp,ho,hv,hv2,vB hu (hT e ti hte) ⟨b,i0*es,none⟩ n cap m hm.1 hm.2,lH,hes,Nat.add_mul]
theorem aOe {s f off k0:Nat} (hT:dR P T) (ho:o.op= .fieldAddr s x f) (hd:o.dst=some d) (hf:uE T s f=some (off,ti)) (hx:ev σ x=some (.e (.c (.z j (ptQ es k0))),R)) (hl:aQ σ (.o j)=some (aM e es Pr))
 (h:k (R++[(.o j,some (aM e es Pr))]) [(.t d,.v (.e (.c (.z j (ptQ es (k0+off))))))]): ∃R W,xS P o R W∧bQ R σ∧k R W:=by
 refine⟨_,_,nY hd fun cx σ' ι S a w hr hw=> ?_,(dB hx).append (bQ.one hl),h⟩
 have hl':=hr.right (.o j,some (aM e es Pr)) (by simp)
 dsimp only at hl'
 obtain⟨b,i,tot,hv,q2,q3⟩:ptQ es k0 (ι j) (a.eval x):=tC (S:=S) (w:=w) (dL hx hr.left hw) hl'
 exact⟨.pointer (some ⟨b,i*es+(k0+off),none⟩),by simp[execOp,ho,hv,vZ hT hf,lH];omega,aS6 (S:=S) (w:=w) hl' ⟨b,i,tot,rfl,q2,q3⟩⟩
theorem aOf {cx:Cx P} {ι:Nat→Value} {S:Nat→Prop} {a:Act} {w:World} (hw:RW cx σ ι S a w) {k0:Nat} {v:Value} (hl:aQ σ (.o j)=some (aM e es Pr)) (hq:ptQ es k0 (ι j) v):
 ∃(b i tot:Nat) (r:List D),v= .pointer (some ⟨b,i*es+k0,none⟩)∧i<tot∧ux (ι j) (ss b tot)∧r.length=es∧Pr r∧ ∀(q:Nat) d,r[q]? =some d→ ∃u,w.cell? ⟨b,i*es+q,none⟩=some u∧DR w S d u:=by
 obtain⟨b,i,tot,hv,q2,q3⟩:=hq
 obtain⟨⟨cur,fz,hh,hf,hs,hr⟩,hm⟩:=kj (hw.vr.objs j _ hl) hl q3
 obtain⟨r,p1,p2,p3⟩:=hr i q2
 refine⟨b,i,tot,r,hv,q2,q3,p1,p2,fun q d hd=> ?_⟩
 obtain⟨u,hu,hdr⟩:=p3 q d hd
 exact⟨u,by rw[cell_of_row w b _ cur e fz hh];exact hu,hdr⟩
theorem aRc {Ws:V→Prop} (hd:o.dst=some d)
 (h: ∀(cx:Cx P) (σ:St) (ι:Nat→Value) (S:Nat→Prop) (a:Act) (w:World),bQ R σ→RW cx σ ι S a w→ ∃v x,(execOp a.eval o).run P w= .ok (.value v) w∧lT σ ι w S x v∧Ws x):
 OpE P o R fun W=> ∃x,Ws x∧W=[(.t d,.v x)]:=by
 intro cx σ ι S a w hr hw hb next Q hn
 obtain⟨v,x,he,hx,hs⟩:=h cx σ ι S a w hr hw
 unfold Oper.wp
 rw[he]
 simp only[Oper.upon,hd]
 exact hn _ ⟨x,hs,rfl⟩ ι S _ w (hw.put (hb d hd) hx)
theorem aOg {io:List Nat} {k0:Nat} {k:St→Prop} (hT:dR P T) (ho:o.op= .load t x) (hd:o.dst=some d) (hti:T t=some ti) (hag:ti.kind.agg=true) (hx:ev σ x=some (.e (.c (.z j (ptQ es k0))),R)) (hl:aQ σ (.o j)=some (aM e es Pr)) (hk:k0+ti.size≤es)
 (h: ∀r:List D,r.length=es→Pr r→nK σ [(.t d,.v (.e (.agg (((r.drop k0).take ti.size).map C.d))))] k): ∃σ1,uw io σ σ1∧ ∃R Ws,OpE P o R Ws∧bQ R σ1∧ ∀W,Ws W→nK σ1 W k:=by
 refine⟨σ,uw.rfl,_,_,aRc (Ws:=fun X=> ∃r:List D,r.length=es∧Pr r∧X= .e (.agg (((r.drop k0).take ti.size).map C.d))) hd (fun cx σ' ι S a w hr hw=> ?_),(dB hx).append (bQ.one hl),fun W ⟨X,⟨r,h1,h2,h3⟩,h4⟩=>by subst h3;subst h4;exact h r h1 h2⟩
 have hl':=hr.right (.o j,some (aM e es Pr)) (by simp)
 dsimp only at hl'
 have hok:=hT t ti hti
 obtain⟨b,i,tot,r,hv,q1,q2,hrl,hpr,hcell⟩:=aOf hw hl' (tC (S:=S) (w:=w) (dL hx hr.left hw) hl')
 have hex: ∃vs:List Value,vs.length=ti.size∧(∀(q:Nat) v,vs[q]? =some v→w.cell? ⟨b,i*es+k0+q,none⟩=some v)∧ ∀(q:Nat) d u,((r.drop k0).take ti.size)[q]? =some d→vs[q]? =some u→DR w S d u:=by
  refine⟨(aXc ti.size).map fun q=>(w.cell? ⟨b,i*es+k0+q,none⟩).getD undef,by simp,fun q v hq=> ?_,fun q d u h1 h2=> ?_⟩
  · have hql:q<ti.size:=by have:=(aXb.1 hq).1;simpa using this
    simp[hql] at hq
    have hlt:k0+q<r.length:=by omega
    obtain⟨u,hu,_⟩:=hcell (k0+q) _ (aW8 hlt)
    rw[← Nat.add_assoc] at hu
    rw[hu] at hq ⊢
    simpa using hq
  · have hql:q<ti.size:=by have:=(aXb.1 h2).1;simpa using this
    rw[List.getElem?_take,if_pos hql,List.getElem?_drop] at h1
    obtain⟨u',hu,hdr⟩:=hcell (k0+q) d h1
    rw[← Nat.add_assoc] at hu
    simp[hql,hu] at h2
    subst h2;exact hdr
 obtain⟨vs,hvl,hvc,hvd⟩:=hex
 refine⟨.agg vs.toArray,.e (.agg (((r.drop k0).take ti.size).map C.d)),?_,⟨vs,rfl,by rw[List.length_map,aW5,aW9,hvl];omega,fun q c u h1 h2=> ?_⟩,r,hrl,hpr,rfl⟩
 · have:=mG (w:=w) hok hag ⟨b,i*es+k0,none⟩ vs hvl (fun q v hq=>by rw[lH];exact hvc q v hq)
   simp[execOp,ho,hv,Instr.loadAt,Instr.sureAddr,this]
 · rw[List.getElem?_map] at h1
   cases hq: ((r.drop k0).take ti.size)[q]? with
   |none=>rw[hq] at h1;cases h1
   |some d=>rw[hq] at h1;cases h1;exact hvd q d u hq h2
end
structure uy (σ:St) (ι:Nat→Value) (S:Nat→Prop) (w:World) (id:Nat) (k:K) (p:Value) (w':World):Prop where
 os:w'.os=w.os
 tape:w'.tape=w.tape
 output:w'.output=w.output
 size:w.heap.size≤w'.heap.size
 block: ∀b,b<w.heap.size→ ¬lB σ ι id b→w'.heap[b]? =w.heap[b]?
 evo:aQ σ (.o id)=none∨ ∃k0,aQ σ (.o id)=some k0∧nJ (ι id) p k0 k
 new: ∀b,vA p b→lB σ ι id b∨w.heap.size≤b
 or_:OR (pY σ (.o id) k) (fun o=>if o=id then p else ι o) w' S p k
section
variable {σ:St} {ι:Nat→Value} {S:Nat→Prop} {w:World}
theorem aOh {ν:Nat→Value} (h:VR σ ι ν S w) {id:Nat} {k:K} {p:Value} {w':World} (block: ∀b,b<w.heap.size→ ¬lB σ ι id b→w'.heap[b]? =w.heap[b]?) (evo:aQ σ (.o id)=none∨ ∃k0,aQ σ (.o id)=some k0∧nJ (ι id) p k0 k):
 rN σ ι S w (pY σ (.o id) k) (fun o=>if o=id then p else ι o) S w':=by
 refine⟨fun _ h=>h,fun b hb=>block b (h.sz b hb) (fun hm=>h.mutS id b hm hb),fun o k0 hk=> ?_⟩
 by_cases e:o=id
 · subst e
   refine⟨k,cY _ _ _,?_⟩
   rcases evo with hn|⟨k1,hk1,hev⟩
   · rw[hn] at hk;cases hk
   · rw[hk1] at hk;cases hk;rw[if_pos rfl];exact hev
 · refine⟨k0,by rw[cP _ _ (by simpa using fun h=>e h.symm)];exact hk,?_⟩
   rw[if_neg e];exact nJ.refl' _ _
theorem VR.turnZ {ν:Nat→Value} (h:VR σ ι ν S w) {id:Nat} {k:K} {p:Value} {w':World} (t:uy σ ι S w id k p w'):
 VR (pY σ (.o id) k) (fun o=>if o=id then p else ι o) ν S w':=by
 have st:=aOh h t.block t.evo
 have mut_ne: ∀o b,o≠id→lB (pY σ (.o id) k) (fun o=>if o=id then p else ι o) o b→lB σ ι o b:=by
  intro o b ne hm
  obtain⟨⟨k0,hk,hl⟩,hb⟩:=hm
  rw[cP _ _ (by simpa using fun h=>ne h.symm)] at hk
  dsimp only at hb
  rw[if_neg ne] at hb
  exact⟨⟨k0,hk,hl⟩,hb⟩
 have mlt: ∀o b,lB σ ι o b→b<w.heap.size:=fun o b ⟨⟨k0,hk,hl⟩,hb⟩=>OR.lt (h.objs o k0 hk) hl hb
 have mid: ∀b,lB (pY σ (.o id) k) (fun o=>if o=id then p else ι o) id b→lB σ ι id b∨w.heap.size≤b:=by
  intro b hm
  have hb:=hm.2
  dsimp only at hb
  rw[if_pos rfl] at hb
  exact t.new b hb
 refine⟨fun s x hx=> ?_,fun o k0 hk=> ?_,fun o b hm hS=> ?_,fun o o' b hm hm'=> ?_,fun b hb=>Nat.lt_of_lt_of_le (h.sz b hb) t.size⟩
 · rw[cP _ _ (by simp)] at hx
   exact rO.step st (h.slots s x hx)
 · by_cases e:o=id
   · subst e
     rw[cY] at hk;cases hk
     rw[if_pos rfl]
     exact t.or_
   · rw[cP _ _ (by simpa using fun h=>e h.symm)] at hk
     rw[if_neg e]
     have ho:=h.objs o k0 hk
     by_cases hl:k0.live
     · refine OR.step st (fun b hb=> ?_) ho
       have hmut:lB σ ι o b:=⟨⟨k0,hk,hl⟩,hb⟩
       exact t.block b (mlt o b hmut) (fun e2=>e (h.inj o id b hmut e2))
     · cases k0<;>simp[K.live] at hl<;>trivial
 · by_cases e:o=id
   · subst e
     rcases mid b hm with h1|h1
     · exact h.mutS o b h1 hS
     · have:=h.sz b hS;omega
   · exact h.mutS o b (mut_ne o b e hm) hS
 · by_cases e:o=id
   · by_cases e':o'=id
     · rw[e,e']
     · subst e
       have h2:=mut_ne o' b e' hm'
       rcases mid b hm with h1|h1
       · exact absurd (h.inj o' o b h2 h1) e'
       · have:=mlt o' b h2;omega
   · by_cases e':o'=id
     · subst e'
       have h2:=mut_ne o b e hm
       rcases mid b hm' with h1|h1
       · exact absurd (h.inj o o' b h2 h1) e
       · have:=mlt o b h2;omega
     · exact h.inj o o' b (mut_ne o b e hm) (mut_ne o' b e' hm')
theorem RW.turnZ {P:Program} {cx:Cx P} {a:Act} (h:RW cx σ ι S a w) {id:Nat} {k:K} {p:Value} {w':World} (t:uy σ ι S w id k p w'):
 RW cx (pY σ (.o id) k) (fun o=>if o=id then p else ι o) S a w':=by
 refine⟨h.vr.turnZ t,h.size,h.defers,⟨t.os.trans h.fr.os,t.tape.trans h.fr.tape,t.output.trans h.fr.output,Nat.le_trans h.fr.size t.size,fun b hb hm=> ?_⟩,fun o b hm=> ?_,h.rd,fun o k1 ho=> ?_⟩
 · rw[t.block b (Nat.lt_of_lt_of_le hb h.fr.size) (fun e=> ?_)]
   · exact h.fr.block b hb hm
   · rcases h.own id b e with h1|h1
     · omega
     · exact hm h1
 · by_cases e:o=id
   · subst e
     have hb:=hm.2
     dsimp only at hb
     rw[if_pos rfl] at hb
     rcases t.new b hb with h1|h1
     · exact h.own o b h1
     · exact .inl (Nat.le_trans h.fr.size h1)
   · obtain⟨⟨k0,hk,hl⟩,hb⟩:=hm
     rw[cP _ _ (by simpa using fun h=>e h.symm)] at hk
     dsimp only at hb
     rw[if_neg e] at hb
     exact h.own o b ⟨⟨k0,hk,hl⟩,hb⟩
 · obtain⟨k',hk',hev⟩:=h.io o k1 ho
   by_cases e:o=id
   · subst e
     refine⟨k,cY _ _ _,?_⟩
     rw[if_pos rfl]
     rcases t.evo with hn|⟨k2,hk2,hev2⟩
     · rw[hn] at hk';cases hk'
     · rw[hk2] at hk';cases hk';exact hev.trans hev2
   · refine⟨k',by rw[cP _ _ (by simpa using fun h=>e h.symm)];exact hk',?_⟩
     rw[if_neg e];exact hev
end
section
variable {P:Program} {T:hD} {o:Oper} {σ:St} {x y:Operand} {t e:TypeId} {s1 s2 d j es n:Nat} {s3:List C} {Z:ia} {R R2:List (dH×Option K)} {k:List (dH×Option K)→List (dH×K)→Prop} {Pr:List D→Prop} {ti:TI}
theorem aBn {cx:Cx P} {ι:Nat→Value} {S:Nat→Prop} {a:Act} {w w':World} (hw:RW cx σ ι S a w) (hl:aQ σ (.o j)=some (aM e es Pr)) {b tot:Nat} (hb:ux (ι j) (ss b tot)) {cur cur':Array Value} {fz:Nat×Nat}
 (hos:w'.os=w.os∧w'.tape=w.tape∧w'.output=w.output∧w'.heap.size=w.heap.size) (hc:w.heap[b]? =some (.cells cur e fz)) (hh:w'.heap[b]? =some (.cells cur' e fz)) (hs:cur'.size=cur.size) (ho: ∀b',b'≠b→w'.heap[b']? =w.heap[b']?)
 (hr: (∀b,S b→w'.heap[b]? =w.heap[b]?)→ ∀i,(i+1)*es≤cur.size→(∃r:List D,r.length=es∧Pr r∧ ∀(q:Nat) d,r[q]? =some d→ ∃u,cur[i*es+q]? =some u∧DR w S d u)→ ∃r:List D,r.length=es∧Pr r∧ ∀(q:Nat) d,r[q]? =some d→ ∃u,cur'[i*es+q]? =some u∧DR w' S d u):
 uy σ ι S w j (aM e es Pr) (ι j) w'∧rN σ ι S w (pY σ (.o j) (aM e es Pr)) (fun o=>if o=j then ι j else ι o) S w':=by
 obtain⟨hblk,hmut⟩:=kj (hw.vr.objs j _ hl) hl hb
 have hblock: ∀b',b'<w.heap.size→ ¬lB σ ι j b'→w'.heap[b']? =w.heap[b']?:=fun b' _ hne=>ho b' (fun h=>hne (by rw[h];exact hmut))
 have hevo:aQ σ (.o j)=none∨ ∃k0,aQ σ (.o j)=some k0∧nJ (ι j) (ι j) k0 (aM e es Pr):= .inr ⟨_,hl,rfl,fun _ h=>h⟩
 have st:=aOh hw.vr (p:=ι j) hblock hevo
 refine⟨⟨hos.1,hos.2.1,hos.2.2.1,by rw[hos.2.2.2];exact aXa _,hblock,hevo,fun b' hb'=> .inl ⟨⟨_,hl,trivial⟩,hb'⟩,?_⟩,st⟩
 obtain⟨h1,h2⟩:=hw.vr.objs j _ hl
 refine⟨h1,fun v hv=> ?_⟩
 obtain⟨b',tot',rfl,hp⟩:=h2 v hv
 refine⟨b',tot',rfl,?_⟩
 by_cases e1:b'=b
 · subst e1
   obtain⟨cur0,fz0,q1,q2,q3,q4⟩:=hp
   rw[hc] at q1;cases q1
   exact⟨cur',fz,hh,by rw[hs];exact q2,by rw[hs];exact q3,fun i hi=>hr st.keep i (by rw[q3];exact Nat.mul_le_mul_right _ hi) (q4 i hi)⟩
 · exact hp.mono st.sub st.keep (ho b' e1)
theorem aLm (hd:o.dst=none)
 (h: ∀(cx:Cx P) (σ:St) (ι:Nat→Value) (S:Nat→Prop) (a:Act) (w:World),bQ R σ→RW cx σ ι S a w→ ∃p w',(execOp a.eval o).run P w= .ok .skip w'∧uy σ ι S w j (.zone Z) p w'):
 xS P o R [(.o j,.zone Z)]:=by
 intro cx σ ι S a w hr hw hb next Q hn
 obtain⟨p,w',he,ht⟩:=h cx σ ι S a w hr hw
 unfold Oper.wp
 rw[he]
 simp only[Oper.upon,hd,aEu]
 exact hn _ S _ w' (hw.turnZ ht)
theorem uz {X:V} (hd:o.dst=some d)
 (h: ∀(cx:Cx P) (σ:St) (ι:Nat→Value) (S:Nat→Prop) (a:Act) (w:World),bQ R σ→RW cx σ ι S a w→ ∃v p w',(execOp a.eval o).run P w= .ok (.value v) w'∧uy σ ι S w j (.zone Z) p w'∧lT (pY σ (.o j) (.zone Z)) (fun o=>if o=j then p else ι o) w' S X v):
 xS P o R [(.o j,.zone Z),(.t d,.v X)]:=by
 intro cx σ ι S a w hr hw hb next Q hn
 obtain⟨v,p,w',he,ht,hx⟩:=h cx σ ι S a w hr hw
 unfold Oper.wp
 rw[he]
 simp only[Oper.upon,hd]
 exact hn _ S _ w' ((hw.turnZ ht).put (hb d hd) hx)
theorem aFi {k0:Nat} {Y:V} {ccs:List C} {vs:List D} (hT:dR P T) (ho:o.op= .store t x y) (hd:o.dst=none) (hti:T t=some ti) (hx:ev σ x=some (.e (.c (.z j (ptQ es k0))),R)) (hy:ev σ y=some (Y,R2)) (hc:cellsOf Y=some ccs) (hv:nn ccs=some vs) (hl:aQ σ (.o j)=some (aM e es Pr))
 (hvl:vs.length=ti.size) (hk:k0+vs.length≤es) (hPr: ∀r:List D,r.length=es→Pr r→Pr (dI r k0 vs)) (h:k (R++R2++[(.o j,some (aM e es Pr))]) [(.o j,aM e es Pr)]): ∃R W,xS P o R W∧bQ R σ∧k R W:=by
 refine⟨_,_,aLm hd fun cx σ' ι S a w hr hw=> ?_,((dB hx).append (dB hy)).append (bQ.one hl),h⟩
 have hl':=hr.right (.o j,some (aM e es Pr)) (by simp)
 dsimp only at hl'
 have hok:=hT t ti hti
 obtain⟨b,i,tot,hvx,q2,q3⟩:ptQ es k0 (ι j) (a.eval x):=tC (S:=S) (w:=w) (dL hx hr.left.left hw) hl'
 obtain⟨⟨cur,fz,hh,hf,hs,hrows⟩,hm⟩:=kj (hw.vr.objs j _ hl') hl' q3
 obtain⟨us,hu,hul,huk⟩:=mZ hc (dL hy hr.left.right hw)
 have hvl2:=pP hv
 have hdr: ∀(q:Nat) d u,vs[q]? =some d→us[q]? =some u→DR w S d u:=fun q d u hj hu'=>by
  obtain⟨c,hc,htd⟩:=xW hv q d hj
  exact xV htd (huk q c u hc hu')
 have hone: ∀u∈us,u.oneCell'=true:=fun u hu'=>by
  obtain⟨q,hj⟩:=List.mem_iff_getElem?.1 hu'
  have hlt:q<ccs.length:=by rw[← hul];exact(aXb.1 hj).1
  exact CR.one (huk q _ u (aW8 hlt) hj)
 have hin: (i+1)*es≤tot*es:=Nat.mul_le_mul_right _ q2
 rw[Nat.add_mul,Nat.one_mul] at hin
 have hfit:i*es+k0+us.length≤cur.size:=by rw[hul,← hvl2,hs];omega
 have hrun:=rW (P:=P) hok b (i*es+k0) cur hf hh (a.eval y) us hu (by rw[hul,← hvl2];exact hvl) hfit hone
 have h9:cur.toList.length=cur.size:=Array.length_toList
 obtain⟨ht,_⟩:=aBn (w':=w.setRow b (dI cur.toList (i*es+k0) us).toArray) (cur':=(dI cur.toList (i*es+k0) us).toArray) hw hl' q3 ⟨rfl,rfl,rfl,by simp⟩ hh (setRow_heap w b cur _ e _ hh) (by rw[List.size_toArray,fP (by omega),h9]) (fun b' hne=>setRow_other w b b' _ hne) (fun hkeep i2 hi2 ⟨r,p1,p2,p3⟩=>by
  have get: ∀q,(dI cur.toList (i*es+k0) us).toArray[q]? =if q<i*es+k0 then cur[q]? else if q<i*es+k0+us.length then us[q - (i*es+k0)]? else cur[q]?:=fun q=>by
   rw[← Array.getElem?_toList,List.toList_toArray,jC (by omega)]
   simp
  by_cases hii:i2=i
  · subst hii
    refine⟨dI r k0 vs,by rw[fP (by omega)];exact p1,hPr r p1 p2,fun q d hd=> ?_⟩
    rw[jC (by omega)] at hd
    rw[get]
    split at hd
    · obtain⟨u,hu1,hu2⟩:=p3 q d hd
      exact⟨u,by rw[if_pos (by omega)];exact hu1,DR.mono (fun _ h=>h) hkeep hu2⟩
    · split at hd
      · have hjl:q - k0<us.length:=by omega
        refine⟨us[q - k0],?_,DR.mono (fun _ h=>h) hkeep (hdr _ d _ hd (aW8 hjl))⟩
        rw[if_neg (by omega),if_pos (by omega),show i2*es+q - (i2*es+k0)=q - k0 by omega]
        exact aW8 hjl
      · obtain⟨u,hu1,hu2⟩:=p3 q d hd
        exact⟨u,by rw[if_neg (by omega),if_neg (by omega)];exact hu1,DR.mono (fun _ h=>h) hkeep hu2⟩
  · refine⟨r,p1,p2,fun q d hd=> ?_⟩
    obtain⟨u,hu1,hu2⟩:=p3 q d hd
    refine⟨u,?_,DR.mono (fun _ h=>h) hkeep hu2⟩
    rw[get]
    have hq:q<es:=by rw[← p1];exact(aXb.1 hd).1
    rcases Nat.lt_or_gt_of_ne hii with h1|h1
    · have: (i2+1)*es≤i*es:=Nat.mul_le_mul_right _ h1
      rw[Nat.add_mul,Nat.one_mul] at this
      rw[if_pos (by omega)];exact hu1
    · have: (i+1)*es≤i2*es:=Nat.mul_le_mul_right _ h1
      rw[Nat.add_mul,Nat.one_mul] at this
      rw[if_neg (by omega),if_neg (by omega)];exact hu1)
 exact⟨ι j,_,by simp[execOp,ho,hvx,Instr.storeAt,Instr.sureAddr,hrun],ht⟩
theorem aFj {lo hi:Option Operand} {lo' hi':Option Int} {R3:List (dH×Option K)} {e':TypeId} (hT:dR P T) (ho:o.op= .slice t x lo hi none) (hd:o.dst=some d) (ht:T t=some ⟨.sl e,s1,s2,s3⟩) (hte:T e=some ti) (hes:ti.size=es) (hx:ev σ x=some (.e (.c (ps j es n)),R)) (hlo:evI σ lo=some (lo',R2)) (hhi:evI σ hi=some (hi',R3)) (hl:aQ σ (.o j)=some (aM e' es Pr))
 (hb:qp lo' hi' n) {m:Nat} (hm:m=gI hi' n - eY lo') (h:k (R++R2++R3++[(.o j,some (aM e' es Pr))]) [(.t d,.v (.e (.c (ps j es m))))]): ∃R W,xS P o R W∧bQ R σ∧k R W:=by
 subst hm
 have hu:=(hT t _ ht).kind
 simp only[lW] at hu
 have hok:=hT e ti hte
 refine⟨_,_,nY hd fun cx σ' ι S a w hr hw=> ?_,(((dB hx).append (uV hlo)).append (uV hhi)).append (bQ.one hl),h⟩
 have hl':=hr.right (.o j,some (aM e' es Pr)) (by simp)
 dsimp only at hl'
 have h1:=uW hlo hr.left.left.right hw
 have h2:=uW hhi hr.left.right hw
 have hq:slQ es n (ι j) (a.eval x):=tC (S:=S) (w:=w) (dL hx hr.left.left.left hw) hl'
 rcases hq with⟨hv,rfl⟩|⟨b,i0,cap,tot,hv,q2,q3,q4,q5⟩
 · have hb2:=yY (P:=P) (w:=w) (isSl:=true) (len:=0) (cap:=0) (aXa _) hb
   have e1:eY lo'=0:=by obtain⟨p1,p2,p3⟩:=hb;unfold eY;omega
   have e2:gI hi' 0=0:=by obtain⟨p1,p2,p3⟩:=hb;unfold gI;omega
   rw[e1,e2] at hb2 ⊢
   exact⟨.slice none 0 0,by simp[execOp,ho,hv,Instr.sliceAt,run_underlying hu,Instr.slice,h1,h2,hb2,fS hok],aKb (S:=S) (w:=w) hl' (.inl ⟨rfl,rfl⟩)⟩
 · have hb2:=yY (P:=P) (w:=w) (isSl:=true) (len:=n) (cap:=cap) q2 hb
   have e1:eY lo'≤cap:=by obtain⟨p1,p2,p3⟩:=hb;unfold eY;omega
   have e2:gI hi' n≤n:=by obtain⟨p1,p2,p3⟩:=hb;unfold gI;omega
   refine⟨.slice (if cap=eY lo' then some ⟨b,i0*es,none⟩ else(some (⟨b,i0*es,none⟩:Addr)).map (·.add (eY lo'*ti.size))) (gI hi' n - eY lo') (cap - eY lo'),by simp[execOp,ho,hv,Instr.sliceAt,run_underlying hu,Instr.slice,h1,h2,hb2,fS hok],aKb (S:=S) (w:=w) hl' ?_⟩
   by_cases hc:cap=eY lo'
   · exact .inr ⟨b,i0,cap - eY lo',tot,by rw[if_pos hc],by omega,by omega,by omega,q5⟩
   · exact .inr ⟨b,i0+eY lo',cap - eY lo',tot,by rw[if_neg hc,Option.map_some,lH,hes,Nat.add_mul],by omega,by omega,by omega,q5⟩
end
structure Src (P:Program) (σ:St) (y:Operand) (t2:TypeId) (es m:Nat) (Pr:List D→Prop) (R:List (dH×Option K)):Prop where
 rd:bQ R σ
 ty: ∃d2,P.underlying t2=some d2∧ ∀k,d2≠ .int k
 run: ∀(cx:Cx P) (σ':St) (ι:Nat→Value) (S:Nat→Prop) (a:Act) (w:World),bQ R σ'→RW cx σ' ι S a w→ ∃rows nv,rows.length=m∧(∀r∈rows,r.length=es∧Pr r)∧jy P w S es rows (a.eval y) nv
section
variable {P:Program} {T:hD} {o:Oper} {σ:St} {x y:Operand} {t t2 e:TypeId} {s1 s2 d j es n m:Nat} {s3:List C} {Z:ia} {R R2 R3:List (dH×Option K)} {k:List (dH×Option K)→List (dH×K)→Prop} {Pr:List D→Prop} {ti:TI}
theorem kl (hT:dR P T) {Y:V} {q:Prop} {rows:List (List D)} (hes:0<es) (hy:ev σ y=some (Y,R)) (h:sM T σ t2 Y=some (q,rows,R2)) (hq:q) (hr: ∀r∈rows,r.length=es∧Pr r) (hm:m=rows.length):Src P σ y t2 es m Pr (R++R2):=
 ⟨(dB hy).append (sN h),yS hT h,fun cx σ' ι S a w hrd hw=>by
  obtain⟨nv,hs⟩:=el hT h hq hes (fun r hr'=>(hr r hr').1) hrd.right hw (dL hy hrd.left hw)
  exact⟨rows,nv,hm.symm,hr,hs⟩⟩
theorem aLn {w:World} {S:Nat→Prop} {g off cap:Nat} {cur:Array Value} {fz:Nat×Nat} {vx:Value} {rows:List (List D)} (hes:0<es) (hv:vx= .slice (some ⟨g,off,none⟩) rows.length cap) (hh:w.heap[g]? =some (.cells cur e fz)) (hle:off+rows.length*es≤cur.size)
 (hrows: ∀(i:Nat) r,rows[i]? =some r→r.length=es∧ ∀(k:Nat) d,r[k]? =some d→ ∃u,cur[off+i*es+k]? =some u∧DR w S d u): ∃nv,jy P w S es rows vx nv:=by
 have h9:cur.toList.length=cur.size:=Array.length_toList
 have hget: ∀j,j<rows.length*es→((cur.toList.drop off).take (rows.length*es))[j]? =cur[off+j]?:=by
  intro j hj
  rw[List.getElem?_take,if_pos hj,List.getElem?_drop];simp
 refine⟨(cur.toList.drop off).take (rows.length*es),⟨by rw[hv];simp[Builtin.lenOf],fun w1=>by rw[hv];simp[Builtin.lenOf],fun w1 m h1 hm=> ?_,by simp;omega,?_,fun i r hri k d hk=> ?_⟩⟩
 · rw[hv]
   have hle2:m*es≤rows.length*es:=Nat.mul_le_mul_right _ hm
   refine run_firstCells_some (P:=P) w1 es m ⟨g,off,none⟩ rows.length cap _ (by rw[aW5,aW5,aW9];omega) (fun j v hj=> ?_)
   have hjl:j<m*es:=by have:=(aXb.1 hj).1;rw[aW5] at this;omega
   rw[List.getElem?_take,if_pos hjl] at hj
   have hjl:j<rows.length*es:=by omega
   rw[hget j hjl] at hj
   rw[vC h1,lH,cell_of_row w g _ cur e fz hh];exact hj
 · intro v hv2
   obtain⟨j,hj⟩:=List.mem_iff_getElem?.1 hv2
   have hjl:j<rows.length*es:=by have:=(aXb.1 hj).1;simp at this;omega
   rw[hget j hjl] at hj
   have h1:j / es<rows.length:=(Nat.div_lt_iff_lt_mul hes).2 hjl
   have h2:j % es<es:=Nat.mod_lt _ hes
   have hrr:=hrows (j / es) _ (aW8 h1)
   have h3:j % es< (rows[j / es]).length:=by rw[hrr.1];exact h2
   obtain⟨u,hu,hdr⟩:=hrr.2 (j % es) _ (aW8 h3)
   rw[Nat.add_assoc,Nat.div_add_mod'] at hu
   rw[hu] at hj;cases hj
   exact DR.oneCell hdr
 · have hil:i<rows.length:=(aXb.1 hri).1
   have hr:=hrows i r hri
   have hkl:k<es:=by rw[← hr.1];exact(aXb.1 hk).1
   obtain⟨u,hu,hdr⟩:=hr.2 k d hk
   exact⟨u,by rw[hget _ (lI hil hkl),← Nat.add_assoc];exact hu,hdr⟩
theorem aFk {α:Type} {n:Nat} {p:Nat→α→Prop} (h: ∀i,i<n→ ∃a,p i a): ∃l:List α,l.length=n∧ ∀(i:Nat) a,l[i]? =some a→p i a:=by
 induction n with
 |zero=>exact⟨[],rfl,by simp⟩
 |succ n ih=>
  obtain⟨l,h1,h2⟩:=ih fun i hi=>h i (by omega)
  obtain⟨a,ha⟩:=h n (by omega)
  refine⟨l++[a],by simp[h1],fun i b hb=> ?_⟩
  by_cases hi:i<l.length
  · rw[List.getElem?_append_left hi] at hb;exact h2 i b hb
  · rw[List.getElem?_append_right (by omega)] at hb
    have:i=n:=by
     have:=(aXb.1 hb).1
     simp at this;omega
    subst this
    rw[h1,Nat.sub_self] at hb;cases hb;exact ha
theorem aFl (hT:dR P T) (hes:0<es) (hy:ev σ y=some (.e (.c (ps j es m)),R)) (hl:aQ σ (.o j)=some (aM e es Pr)) {e2:TypeId} (ht2:T t2=some ⟨.sl e2,s1,s2,s3⟩):Src P σ y t2 es m Pr (R++[(.o j,some (aM e es Pr))]):=
 ⟨(dB hy).append (bQ.one hl),⟨_,(hT t2 _ ht2).kind,fun k h=>by cases h⟩,fun cx σ' ι S a w hr hw=>by
  have hl':=hr.right (.o j,some (aM e es Pr)) (by simp)
  dsimp only at hl'
  have hq:slQ es m (ι j) (a.eval y):=tC (S:=S) (w:=w) (dL hy hr.left hw) hl'
  rcases hq with⟨hv,rfl⟩|⟨b,i0,cap,tot,hv,q2,q3,q4,q5⟩
  · exact⟨[],[],rfl,by simp,by rw[hv];simp[Builtin.lenOf],fun w1=>by rw[hv];simp[Builtin.lenOf],fun w1 m h1 hm=>by(obtain rfl:m=0:=by simpa using hm);rw[hv];simp[Builtin.firstCells],by simp,by simp,by simp⟩
  · obtain⟨⟨cur,fz,hh,hf,hs,hrows⟩,hm⟩:=kj (hw.vr.objs j _ hl') hl' q5
    obtain⟨rows,h1,h2⟩:=aFk (n:=m) fun i hi=>hrows (i0+i) (by omega)
    have hle: (i0+m)*es≤tot*es:=Nat.mul_le_mul_right _ (by omega)
    rw[Nat.add_mul] at hle
    obtain⟨nv,hs2⟩:=aLn (P:=P) (rows:=rows) (off:=i0*es) (vx:=a.eval y) (cap:=cap) hes (by rw[hv,h1]) hh (by rw[h1,hs];exact hle) fun i r hi=>by
     obtain⟨p1,p2,p3⟩:=h2 i r hi
     exact⟨p1,fun k d hd=>by rw[← Nat.add_mul];exact p3 k d hd⟩
    exact⟨rows,nv,h1,fun r hr=>by obtain⟨i,hi⟩:=List.mem_iff_getElem?.1 hr;exact⟨(h2 i r hi).1,(h2 i r hi).2.1⟩,hs2⟩⟩
theorem km {w:World} {ty:TypeId} {d2:TypeDesc} (hu:P.underlying t=some (.slice e)) (hok:eZ P e ti) (hu2:P.underlying t2=some d2) (hd2: ∀k,d2≠ .int k)
 {S:Nat→Prop} {rows:List (List D)} {vx:Value} {news:List Value} (hs:jy P w S ti.size rows vx news) (base:Option Addr) (sLen sCap:Nat) (olds:List Value)
 (hold: ∀w1,w1.heap=w.heap→(Builtin.firstCells ti.size sLen (.slice base sLen sCap)).run P w1= .ok olds.toArray w1)
 (hgrow:sCap<sLen+rows.length) (hbytes: (sLen+rows.length)*ti.bytes≤140737488355328) {z:List D} (hz0:nn ti.zero=some z):
 ∃cap zs,(Builtin.append_ #[t,t2] ty #[.slice base sLen sCap,vx]).run P w= .ok (.slice (some ⟨w.heap.size,0,none⟩) (sLen+rows.length) cap) (w.drew.alloc (.cells (olds++news++zs).toArray e))∧sLen+rows.length≤cap∧cap≤maxLen∧
  zs.length=(cap - (sLen+rows.length))*ti.size∧ ∀(i:Nat),i<cap - (sLen+rows.length)→ ∀(q:Nat) d,z[q]? =some d→ ∃u,zs[i*ti.size+q]? =some u∧ ∀w' S',DR w' S' d u:=by
 have hz: (match d2 with| .int _=>true|_=>false)=false:=by cases d2<;>first|rfl|exact absurd rfl (hd2 _)
 obtain⟨i,zz,hi,hsz,hby,hzero,hzc⟩:=hok.info
 have hb:=hok.bpos
 have hle:sLen+rows.length≤(sLen+rows.length)*ti.bytes:=Nat.le_mul_of_pos_right _ hb
 have hfit: ¬(281474976710656<Builtin.nextslicecap (sLen+rows.length) sCap*ti.bytes):=by
  have:=growslice_fits hgrow hbytes;omega
 have hcl:=grownCap_ge w (sLen+rows.length) sCap e
 have hcm:=grownCap_le_maxLen w (sLen+rows.length) sCap e (by simp only[maxLen];omega)
 have hzl:zz.cells.size=ti.size:=by rw[← Array.length_toList,hzc,List.length_map,hok.zlen]
 refine⟨grownCap w (sLen+rows.length) sCap e,(Builtin.zeroCells zz.cells (grownCap w (sLen+rows.length) sCap e - (sLen+rows.length))).toList,?_,hcl,hcm,?_,fun i hil q d hq=> ?_⟩
 · have hn: ¬(sLen+rows.length≤sCap):=by omega
   have h63: ¬(9223372036854775807< ((sLen:Int)+(rows.length:Int))):=by omega
   have ho:=hold w.drew rfl
   have hf:=hs.first w.drew rfl
   simp[Builtin.append_,run_underlying hu,run_underlying hu2,fS hok,hs.len,hn,h63,typeInfo,hi,hby,hfit,hz,Question.forced,zeroValue,hzero,newRow,grownCap]
   rw[ho,Result.andThen_ok,hf,Result.andThen_ok]
   simp
   congr 2
   apply Array.toList_inj.1
   simp
 · simp[size_zeroCells,hzl]
 · obtain⟨c,hc,htd⟩:=xW hz0 q d hq
   have hkl:q<ti.size:=by rw[← hok.zlen];exact(aXb.1 hc).1
   have hlt:=lI hil hkl
   have hzk:zz.cells[q]? =some (zv c):=by rw[← Array.getElem?_toList,hzc,List.getElem?_map,hc];rfl
   refine⟨zv c,?_,fun w' S'=>xV (σ:=[]) (ι:=fun _=>undef) htd (uD (aXe.1 hok.zok c (List.mem_of_getElem? hc)))⟩
   have hm: (i*ti.size+q) % zz.cells.size=q:=by rw[hzl,Nat.mul_comm,Nat.mul_add_mod,Nat.mod_eq_of_lt hkl]
   have hk2:q<zz.cells.size:=by rw[hzl];exact hkl
   have e1:zz.cells[q]! =zv c:=by rw[getElem!_pos zz.cells q hk2];rw[Array.getElem?_eq_getElem hk2] at hzk;exact Option.some.inj hzk
   have hlt':i*ti.size+q< (grownCap w (sLen+rows.length) sCap e - (sLen+rows.length))*zz.cells.size:=by rw[hzl];exact hlt
   simp only[Builtin.zeroCells,Array.toList_map,List.getElem?_map,Array.getElem?_toList,Array.getElem?_range,hlt',if_true,Option.map_some,hm,e1]
theorem aBo {cx:Cx P} {ι:Nat→Value} {S:Nat→Prop} {a:Act} {w w0:World} (hw:RW cx σ ι S a w) (hl:aQ σ (.o j)=some (aM e es Pr)) {cells:Array Value} {tot:Nat} (hw0:w0.heap=w.heap∧w0.os=w.os∧w0.tape=w.tape∧w0.output=w.output)
 (hs:cells.size=tot*es) (hr: (∀b,S b→(w0.alloc (.cells cells e)).heap[b]? =w.heap[b]?)→ ∀i,i<tot→ ∃r:List D,r.length=es∧Pr r∧ ∀(q:Nat) d,r[q]? =some d→ ∃u,cells[i*es+q]? =some u∧DR (w0.alloc (.cells cells e)) S d u):
 ∃p',uy σ ι S w j (aM e es Pr) p' (w0.alloc (.cells cells e))∧(∀v,ux (ι j) v→ux p' v)∧ux p' (ss w.heap.size tot):=by
 obtain⟨⟨vs,hp⟩,h2⟩:=hw.vr.objs j _ hl
 have hold: ∀b,b<w.heap.size→(w0.alloc (.cells cells e)).heap[b]? =w.heap[b]?:=fun b hb=>by rw[heap_alloc_old w0 _ b (by rw[hw0.1];exact hb),hw0.1]
 have hnew: (w0.alloc (.cells cells e)).heap[w.heap.size]? =some (.cells cells e (0,0)):=by
  have:=heap_alloc_new w0 (.cells cells e)
  rw[hw0.1] at this;exact this
 have hsub: ∀v,ux (ι j) v→ux (.tuple (vs.push (ss w.heap.size tot))) v:=fun v ⟨vs',h3,h4⟩=>by
  rw[hp] at h3;cases h3
  exact⟨_,rfl,by simp[h4]⟩
 have hevo:aQ σ (.o j)=none∨ ∃k0,aQ σ (.o j)=some k0∧nJ (ι j) (.tuple (vs.push (ss w.heap.size tot))) k0 (aM e es Pr):= .inr ⟨_,hl,rfl,hsub⟩
 have hblock: ∀b,b<w.heap.size→ ¬lB σ ι j b→(w0.alloc (.cells cells e)).heap[b]? =w.heap[b]?:=fun b hb _=>hold b hb
 have st:=aOh hw.vr hblock hevo
 refine⟨.tuple (vs.push (ss w.heap.size tot)),⟨hw0.2.1,hw0.2.2.1,hw0.2.2.2,by simp[hw0.1],hblock,hevo,fun b hb=> ?_,⟨_,rfl⟩,fun v hv=> ?_⟩,hsub,⟨_,rfl,by simp⟩⟩
 · obtain⟨v,hv,hb⟩:=hb
   have hv:v∈vs.toList∨v=ss w.heap.size tot:=by simpa using hv
   rcases hv with hv|rfl
   · exact .inl ⟨⟨_,hl,trivial⟩,by rw[hp];exact⟨v,hv,hb⟩⟩
   · simp[blk] at hb;exact .inr (by omega)
 · obtain⟨vs',h3,h4⟩:=hv
   cases h3
   have h4:v∈vs.toList∨v=ss w.heap.size tot:=by simpa using h4
   rcases h4 with h4|rfl
   · obtain⟨b,tot',rfl,hpb⟩:=h2 v (by rw[hp];exact⟨vs,rfl,h4⟩)
     refine⟨b,tot',rfl,hpb.mono st.sub st.keep (hold b ?_)⟩
     obtain⟨cur,fz,hh,_⟩:=hpb
     exact(Array.getElem?_eq_some_iff.1 hh).1
   · exact⟨_,tot,rfl,cells,(0,0),hnew,.inl rfl,hs,hr st.keep⟩
theorem oe {z:List D} (hT:dR P T) (ho:o.op= .call {callee:= .builtin .append,args:= #[x,y],argTypes:= #[t,t2]}) (hd:o.dst=some d) (ht:T t=some ⟨.sl e,s1,s2,s3⟩) (hte:T e=some ti) (hes:ti.size=es) (hx:ev σ x=some (.e (.c (ps j es n)),R)) (hl:aQ σ (.o j)=some (aM e es Pr))
 (hz:nn ti.zero=some z) (hPz:Pr z) (hs:Src P σ y t2 es m Pr R2) (hb: (n+m)*ti.bytes≤140737488355328) (h:k (R++R2++[(.o j,some (aM e es Pr))]) [(.o j,aM e es Pr),(.t d,.v (.e (.c (ps j es (n+m)))))]): ∃R W,xS P o R W∧bQ R σ∧k R W:=by
 subst hes
 have hu:=(hT t _ ht).kind
 simp only[lW] at hu
 have hok:=hT e ti hte
 have hes:=hok.pos
 obtain⟨d2,hu2,hd2⟩:=hs.ty
 refine⟨_,_,uz hd fun cx σ' ι S a w hr hw=> ?_,((dB hx).append hs.rd).append (bQ.one hl),h⟩
 have hl':=hr.right (.o j,some (aM e ti.size Pr)) (by simp)
 dsimp only at hl'
 obtain⟨rows,nv,rfl,hrows,hsr⟩:=hs.run cx σ' ι S a w hr.left.right hw
 have hq:slQ ti.size n (ι j) (a.eval x):=tC (S:=S) (w:=w) (dL hx hr.left.left hw) hl'
 have hzl:z.length=ti.size:=by rw[pP hz,hok.zlen]
 have fin: ∀{w' p v},slQ ti.size (n+rows.length) p v→lT (pY σ' (.o j) (aM e ti.size Pr)) (fun o=>if o=j then p else ι o) w' S (.e (.c (ps j ti.size (n+rows.length)))) v:=fun{w' p v} hq=>(aKb (cY σ' (.o j) (aM e ti.size Pr)) (by show slQ _ _ (if j=j then p else ι j) v;rw[if_pos rfl];exact hq):CR (pY σ' (.o j) (aM e ti.size Pr)) (fun o=>if o=j then p else ι o) w' S (ps j ti.size (n+rows.length)) v)
 have grow: ∀(base:Option Addr) (cap:Nat) (olds:List Value),a.eval x= .slice base n cap→cap<n+rows.length→olds.length=n*ti.size→(∀w1,w1.heap=w.heap→(Builtin.firstCells ti.size n (.slice base n cap)).run P w1= .ok olds.toArray w1)→
  (∀i,i<n→ ∃r:List D,r.length=ti.size∧Pr r∧ ∀(q:Nat) d,r[q]? =some d→ ∃u,olds[i*ti.size+q]? =some u∧DR w S d u)→
  ∃v p w',(execOp a.eval o).run P w= .ok (.value v) w'∧uy σ' ι S w j (aM e ti.size Pr) p w'∧lT (pY σ' (.o j) (aM e ti.size Pr)) (fun o=>if o=j then p else ι o) w' S (.e (.c (ps j ti.size (n+rows.length)))) v:=by
  intro base cap olds hv hlt hol hold hor
  obtain⟨cap',zs,hrun,hle,hm,hzsl,hzs⟩:=km (w:=w) (ty:=o.type) hu hok hu2 hd2 hsr base n cap olds hold hlt hb hz
  obtain⟨p',ht',hsub,hnew⟩:=aBo (w0:=w.drew) (cells:=(olds++nv++zs).toArray) (tot:=cap') hw hl' ⟨rfl,rfl,rfl,rfl⟩ (by rw[List.size_toArray,aW0,aW0,hsr.size,hzsl,hol,← Nat.add_mul,← Nat.add_mul,Nat.add_sub_cancel' hle]) (fun hkeep i hi=>by
   simp only[List.getElem?_toArray]
   by_cases h1:i<n
   · obtain⟨r,q1,q2,q3⟩:=hor i h1
     refine⟨r,q1,q2,fun q d hd=> ?_⟩
     obtain⟨u,hu1,hu2⟩:=q3 q d hd
     have hlt:=(aXb.1 hu1).1
     exact⟨u,by rw[List.append_assoc,List.getElem?_append_left hlt];exact hu1,DR.mono (fun _ h=>h) hkeep hu2⟩
   · by_cases h2:i<n+rows.length
     · have hil:i - n<rows.length:=by omega
       obtain⟨r1,r2⟩:=hrows _ (List.getElem_mem hil)
       refine⟨rows[i - n],r1,r2,fun q d hd=> ?_⟩
       obtain⟨u,hu1,hu2⟩:=hsr.rel (i - n) _ (aW8 hil) q d hd
       have hlt:=(aXb.1 hu1).1
       have hmul:i*ti.size=n*ti.size+(i - n)*ti.size:=by rw[← Nat.add_mul];congr 1;omega
       exact⟨u,by rw[List.append_assoc,List.getElem?_append_right (by omega),show i*ti.size+q - olds.length=(i - n)*ti.size+q by omega,List.getElem?_append_left hlt];exact hu1,DR.mono (fun _ h=>h) hkeep hu2⟩
     · refine⟨z,hzl,hPz,fun q d hd=> ?_⟩
       obtain⟨u,hu1,hu2⟩:=hzs (i - (n+rows.length)) (by omega) q d hd
       have hmul:i*ti.size=(n+rows.length)*ti.size+(i - (n+rows.length))*ti.size:=by rw[← Nat.add_mul];congr 1;omega
       have hsz: (olds++nv).length=(n+rows.length)*ti.size:=by rw[aW0,hsr.size,hol,Nat.add_mul]
       exact⟨u,by rw[List.getElem?_append_right (by omega),show i*ti.size+q - (olds++nv).length=(i - (n+rows.length))*ti.size+q by omega];exact hu1,hu2 _ _⟩)
  refine⟨_,p',_,?_,ht',fin (.inr ⟨w.heap.size,0,cap',cap',by rw[Nat.zero_mul],hle,hm,by omega,hnew⟩)⟩
  simp[execOp,ho,resolve,invoke,builtin,hv,hrun]
 rcases hq with⟨hv,rfl⟩|⟨b,i0,cap,tot,hv,q2,q3,q4,q5⟩
 · by_cases hnz:rows=[]
   · subst hnz
     have hrun:=tN (w:=w) (ty:=o.type) hu hok hu2 hd2 hsr
     refine⟨.slice none 0 0,ι j,w,by simp[execOp,ho,resolve,invoke,builtin,hv,hrun],⟨rfl,rfl,rfl,aXa _,fun _ _ _=>rfl,.inr ⟨_,hl',rfl,fun _ h=>h⟩,fun b hb=> .inl ⟨⟨_,hl',trivial⟩,hb⟩,hw.vr.objs j _ hl'⟩,fin (.inl ⟨rfl,rfl⟩)⟩
   · have hnpos:0<rows.length:=List.length_pos_iff.2 hnz
     exact grow none 0 [] hv (by omega) (by simp) (fun w1 _=>by simp[Builtin.firstCells]) (fun i hi=>by omega)
 · obtain⟨⟨cur,fz,hh,hf,hcs,hrs⟩,hmu⟩:=kj (hw.vr.objs j _ hl') hl' q5
   have h9:cur.toList.length=cur.size:=Array.length_toList
   have hcap: (i0+cap)*ti.size≤tot*ti.size:=Nat.mul_le_mul_right _ q4
   rw[Nat.add_mul] at hcap
   by_cases hroom:n+rows.length≤cap
   · have hrun:=az (w:=w) (ty:=o.type) hu hok hu2 hd2 hsr b (i0*ti.size) n cap cur e hf hh hroom (by rw[hcs];exact hcap)
     have hmul: (n+rows.length)*ti.size≤cap*ti.size:=Nat.mul_le_mul_right _ hroom
     rw[Nat.add_mul,← hsr.size] at hmul
     obtain⟨htt,_⟩:=aBn (w':=w.setRow b (dI cur.toList (i0*ti.size+n*ti.size) nv).toArray) (cur':=(dI cur.toList (i0*ti.size+n*ti.size) nv).toArray) hw hl' q5 ⟨rfl,rfl,rfl,by simp⟩ hh (setRow_heap w b cur _ e _ hh) (by rw[List.size_toArray,fP (by omega),h9]) (fun b' hne=>setRow_other w b b' _ hne) (fun hkeep i hi ⟨r,p1,p2,p3⟩=>by
      have get: ∀q,(dI cur.toList (i0*ti.size+n*ti.size) nv).toArray[q]? =if q<i0*ti.size+n*ti.size then cur[q]? else if q<i0*ti.size+n*ti.size+nv.length then nv[q - (i0*ti.size+n*ti.size)]? else cur[q]?:=fun q=>by
       rw[← Array.getElem?_toList,List.toList_toArray,jC (by omega)]
       simp
      have hnv:=hsr.size
      by_cases h1:i<i0+n
      · refine⟨r,p1,p2,fun q d hd=> ?_⟩
        obtain⟨u,hu1,hu2⟩:=p3 q d hd
        have hql:q<ti.size:=by rw[← p1];exact(aXb.1 hd).1
        have:=lI h1 hql
        rw[Nat.add_mul] at this
        exact⟨u,by rw[get,if_pos (by omega)];exact hu1,DR.mono (fun _ h=>h) hkeep hu2⟩
      · by_cases h2:i<i0+n+rows.length
        · have hil:i - (i0+n)<rows.length:=by omega
          obtain⟨r1,r2⟩:=hrows _ (List.getElem_mem hil)
          refine⟨rows[i - (i0+n)],r1,r2,fun q d hd=> ?_⟩
          obtain⟨u,hu1,hu2⟩:=hsr.rel _ _ (aW8 hil) q d hd
          have hlt:=(aXb.1 hu1).1
          have hmul:i*ti.size=i0*ti.size+n*ti.size+(i - (i0+n))*ti.size:=by rw[← Nat.add_mul,← Nat.add_mul];congr 1;omega
          exact⟨u,by rw[get,if_neg (by omega),if_pos (by omega),show i*ti.size+q - (i0*ti.size+n*ti.size)=(i - (i0+n))*ti.size+q by omega];exact hu1,DR.mono (fun _ h=>h) hkeep hu2⟩
        · refine⟨r,p1,p2,fun q d hd=> ?_⟩
          obtain⟨u,hu1,hu2⟩:=p3 q d hd
          have: (i0+n+rows.length)*ti.size≤i*ti.size:=Nat.mul_le_mul_right _ (by omega)
          rw[Nat.add_mul,Nat.add_mul] at this
          exact⟨u,by rw[get,if_neg (by omega),if_neg (by omega)];exact hu1,DR.mono (fun _ h=>h) hkeep hu2⟩)
     refine⟨_,ι j,_,?_,htt,fin (.inr ⟨b,i0,cap,tot,rfl,hroom,q3,q4,q5⟩)⟩
     simp[execOp,ho,resolve,invoke,builtin,hv,hrun]
   · have hle9:n*ti.size≤cap*ti.size:=Nat.mul_le_mul_right _ q2
     obtain⟨olds,hold⟩: ∃olds,olds=(cur.toList.drop (i0*ti.size)).take (n*ti.size):=⟨_,rfl⟩
     have holdl:olds.length=n*ti.size:=by rw[hold];simp;omega
     have hget: ∀q,q<n*ti.size→olds[q]? =cur[i0*ti.size+q]?:=by
      intro q hq
      rw[hold,List.getElem?_take,if_pos hq,List.getElem?_drop];simp
     refine grow (some ⟨b,i0*ti.size,none⟩) cap olds hv (by omega) holdl (fun w1 h1=>by
      refine run_firstCells_some (P:=P) w1 ti.size n ⟨b,i0*ti.size,none⟩ n cap _ holdl (fun q v hq=> ?_)
      have hql:q<n*ti.size:=by rw[← holdl];exact(aXb.1 hq).1
      rw[hget q hql] at hq
      rw[vC h1,lH,cell_of_row w b _ cur e fz hh];exact hq) (fun i hi=> ?_)
     obtain⟨r,p1,p2,p3⟩:=hrs (i0+i) (by omega)
     refine⟨r,p1,p2,fun q d hd=> ?_⟩
     obtain⟨u,hu1,hu2⟩:=p3 q d hd
     have hql:q<ti.size:=by rw[← p1];exact(aXb.1 hd).1
     exact⟨u,by rw[hget _ (lI hi hql),← Nat.add_assoc,← Nat.add_mul];exact hu1,hu2⟩
end
section
variable {P:Program} {ops:Array Oper} {cx:Cx P} {Q:Exit→Act→World→Prop} {σ:St}
theorem aDc (hedge:sO 0 ops.toList=true) {listed:Array Bool} (hcl: ∀k o,ops[k]? =some o→listed.getD k false=true→ ∀i∈kX o,listed.getD i false=true): ∀(k:Nat),∀o,ops[k]? =some o→(∀i∈kX o,listed.getD i false=true)→ ∀i∈(mJ ops.toList []).getD k [],listed.getD i false=true:=by
 have hedge': ∀(j:Nat) o,ops[j]? =some o→ ∀i∈kX o,i<j:=fun j o ho i hi=>by
  have:=qA 0 ops.toList hedge j o (by simpa using ho) i hi;omega
 have hpl: ∀(j:Nat) o,ops[j]? =some o→(mJ ops.toList [])[j]? =some ((kX o).flatMap fun i=>i::(mJ ops.toList []).getD i []):=fun j o ho=>by
  have:=jz ops.toList [] j o (by simpa using ho) hedge
  simpa using this
 intro k
 induction k using Nat.strongRecOn with
 |_ k ih=>
  intro o ho hp i hi
  rw[aW7,hpl k o ho] at hi
  simp only[Option.getD_some,List.mem_flatMap] at hi
  obtain⟨i',hi',hi⟩:=hi
  rcases List.mem_cons.1 hi with rfl|hi
  · exact hp i hi'
  · have hlt:=hedge' k o ho i' hi'
    have hsz':k<ops.size:=(Array.getElem?_eq_some_iff.1 ho).1
    have ho':ops[i']? =some ops[i']:=Array.getElem?_eq_getElem (by omega)
    exact ih i' hlt _ ho' (hcl i' _ ho' (hp i' hi')) i hi
theorem vd {ts:List mI} (hlen:ts.length=ops.size) (hr:kP ts σ) (hok:pZ ops.toList ts=true):
 ∀(fuel:Nat) (listed:Array Bool) (σL:St) (ι:Nat→Value) (S:Nat→Prop) (a:Act) (w:World),listed.size=ops.size→(∀l,aQ σL l=part ts (fun i=>listed.getD i false) σ l ts.length)→RW cx σL ι S a w→
  (∀k o,ops[k]? =some o→listed.getD k false=true→ ∀i∈kX o,listed.getD i false=true)→
  (Region.ready .any ops listed=[]→RW cx (fI ts σ) ι S a w)∧ ∀i∈Region.ready .any ops listed,∃o t,ops[i]? =some o∧ts[i]? =some t∧i<ops.size∧listed.getD i false=false∧bQ t.1 σL∧
   (∀k o,ops[k]? =some o→(listed.setIfInBounds i true).getD k false=true→ ∀i'∈kX o,(listed.setIfInBounds i true).getD i' false=true)∧(∀j,(listed.setIfInBounds i true).getD j false=if j=i then true else listed.getD j false)∧
   ∀l,aQ (iO σL t.2) l=part ts (fun j=>(listed.setIfInBounds i true).getD j false) σ l ts.length:=by
 simp only[pZ,aW4] at hok
 obtain⟨hedge,hpair⟩:=hok
 have hedge': ∀(j:Nat) o,ops[j]? =some o→ ∀i∈kX o,i<j:=fun j o ho i hi=>by
  have:=qA 0 ops.toList hedge j o (by simpa using ho) i hi;omega
 have hpl: ∀(j:Nat) o,ops[j]? =some o→(mJ ops.toList [])[j]? =some ((kX o).flatMap fun i=>i::(mJ ops.toList []).getD i []):=fun j o ho=>by
  have:=jz ops.toList [] j o (by simpa using ho) hedge
  simpa using this
 intro fuel listed σL ι S a w hsz hlook hw hcl
 have hclosed: ∀(k:Nat),∀o,ops[k]? =some o→(∀i∈kX o,listed.getD i false=true)→ ∀i∈(mJ ops.toList []).getD k [],listed.getD i false=true:=by
  intro k
  induction k using Nat.strongRecOn with
  |_ k ih=>
   intro o ho hp i hi
   rw[aW7,hpl k o ho] at hi
   simp only[Option.getD_some,List.mem_flatMap] at hi
   obtain⟨i',hi',hi⟩:=hi
   rcases List.mem_cons.1 hi with rfl|hi
   · exact hp i hi'
   · have hlt:=hedge' k o ho i' hi'
     have hsz':k<ops.size:=(Array.getElem?_eq_some_iff.1 ho).1
     have ho':ops[i']? =some ops[i']:=Array.getElem?_eq_getElem (by omega)
     exact ih i' hlt _ ho' (hcl i' _ ho' (hp i' hi')) i hi
 refine⟨fun hnil=> ?_,fun i hi=> ?_⟩
 · have hall: ∀k,k<ops.size→listed.getD k false=true:=by
    intro k
    induction k using Nat.strongRecOn with
    |_ k ih=>
     intro hk
     cases hL:listed.getD k false with
     |true=>rfl
     |false=>
      have ho:ops[k]? =some ops[k]:=Array.getElem?_eq_getElem hk
      have:k∈Region.ready .any ops listed:=mem_ready.2 ⟨pA.2 ⟨by omega,hL⟩,_,ho,fun e he hb=>by
       have hm:e.on∈kX ops[k]:=aXd.2 ⟨e,List.mem_filter.2 ⟨by simpa using he,hb⟩,rfl⟩
       have:=hedge' k _ ho _ hm
       exact ih e.on this (by omega)⟩
      rw[hnil] at this;cases this
   refine hw.congr fun l=> ?_
   rw[hlook l,ci ts σ l _ ts.length (aXa _) (fun i hi=>hall i (by omega)),aXf]
 · obtain⟨hun,o,ho,hall⟩:=mem_ready.1 hi
   obtain⟨hisz,hLi⟩:=pA.1 hun
   have hit':i<ts.length:=by omega
   have hti:ts[i]? =some ts[i]:=aW8 hit'
   have hpreds: ∀i'∈kX o,listed.getD i' false=true:=by
    intro i' hi'
    obtain⟨e,he,rfl⟩:=aXd.1 hi'
    obtain⟨he1,he2⟩:=List.mem_filter.1 he
    exact hall e (by simpa using he1) he2
   have hset: ∀j,(listed.setIfInBounds i true).getD j false=if j=i then true else listed.getD j false:=by
    intro j
    rw[Array.getD_eq_getD_getElem?,Array.getD_eq_getD_getElem?]
    by_cases e:j=i
    · subst e;simp[hisz]
    · rw[if_neg e,Array.getElem?_setIfInBounds_ne (fun h=>e h.symm)]
   have later: ∀j u,i<j→listed.getD j false=true→ts[j]? =some u→pH (pQ ts[i]) (pQ u)=true:=by
    intro j u hij hLj hu
    have hjl:j<ts.length:=(aXb.1 hu).1
    have hoj:ops[j]? =some ops[j]:=Array.getElem?_eq_getElem (by omega)
    rcases qB hpair j i hjl hij (pQ ts[i]) (pQ u) _ (by simp[hti]) (by simp[hu]) (hpl j _ hoj) with h|h
    · have:=hclosed j _ hoj (hcl j _ hoj hLj) i (by rw[aW7,hpl j _ hoj];exact h)
      rw[hLi] at this;cases this
    · exact h
   have earlier: ∀j u,j<i→listed.getD j false=false→ts[j]? =some u→pH (pQ u) (pQ ts[i])=true:=by
    intro j u hij hLj hu
    rcases qB hpair i j hit' hij (pQ u) (pQ ts[i]) _ (by simp[hu]) (by simp[hti]) (hpl i _ ho) with h|h
    · have:=hclosed i _ ho hpreds j (by rw[aW7,hpl i _ ho];exact h)
      rw[hLj] at this;cases this
    · exact h
   have hreads:bQ ts[i].1 σL:=by
    intro p hp
    rw[hlook p.1,ii hLi (fun j u hj hLj hu=>by
     have:=earlier j u hj hLj hu
     simp only[pH,aW4] at this
     exact aE3 this.1.2 hp) (fun j u hj hLj hu=>by
     have:=later j u hj hLj hu
     simp only[pH,aW4] at this
     exact aE2 this.2 hp),show min ts.length i=i by omega,ci ts σ p.1 _ i (by omega) (fun _ _=>rfl)]
    exact cj ts σ hr i _ hti p hp
   refine⟨o,ts[i],ho,hti,by omega,hLi,hreads,fun k o' ho' hk i' hi'=> ?_,hset,fun l=> ?_⟩
   · rw[hset] at hk ⊢
     by_cases e:i'=i
     · rw[if_pos e]
     · rw[if_neg e]
       by_cases e2:k=i
       · subst e2;rw[ho] at ho';cases ho';exact hpreds i' hi'
       · rw[if_neg e2] at hk;exact hcl k o' ho' hk i' hi'
   · rw[lN,ud hti hLi hset (fun j u hj hLj hu hne=>by
      have:=later j u hj hLj hu
      simp only[pH,aW4] at this
      exact aE1 this.1.1 hne) ts.length,if_pos hit',hlook l]
     all_goals(cases wr ts[i].2 l<;>rfl)
theorem aIi {κ:Type} {ts:κ→List mI} {i0:Nat} {o0:Oper} {R0:List (dH×Option K)} {Ws:List (dH×K)→Prop} (hlen: ∀c,(ts c).length=ops.size) (ho0:ops[i0]? =some o0) (hg0:o0.guard=none) (h0:OpE P o0 R0 Ws) (hR0: ∀c t,(ts c)[i0]? =some t→t.1=R0) (hW0: ∀W,Ws W→ ∃c,(ts c)[i0]? =some (R0,W))
 (hit: ∀c (i:Nat) o t,i≠i0→ops[i]? =some o→(ts c)[i]? =some t→ItT P ops o t) (hind: ∀c c' (j:Nat),j≠i0→i0∉ (mJ ops.toList []).getD j []→(ts c)[j]? =(ts c')[j]?) (hr: ∀c,kP (ts c) σ) (hok: ∀c,pZ ops.toList (ts c)=true) (hf: ∀o∈ops.toList,∀d,o.dst=some d→d<cx.N)
 (hq: ∀c ι' S' a' w',RW cx (fI (ts c) σ) ι' S' a' w'→Q .normal a' w'):
 ∀(fuel:Nat) (c:κ) (listed:Array Bool) (σL:St) (ι:Nat→Value) (S:Nat→Prop) (a:Act) (w:World),listed.size=ops.size→(∀l,aQ σL l=part (ts c) (fun i=>listed.getD i false) σ l (ts c).length)→RW cx σL ι S a w→
  (∀k o,ops[k]? =some o→listed.getD k false=true→ ∀i∈kX o,listed.getD i false=true)→((aXc ops.size).filter fun i=> !listed.getD i false).length≤fuel→wpAny P .any ops Q fuel listed a w:=by
 have hedge: ∀c,sO 0 ops.toList=true:=fun c=>by have:=hok c;simp only[pZ,aW4] at this;exact this.1
 intro fuel
 induction fuel with
 |zero=>
  intro c listed σL ι S a w hsz hlook hw hcl hcount
  obtain⟨h1,h2⟩:=vd (hlen c) (hr c) (hok c) 0 listed σL ι S a w hsz hlook hw hcl
  have hnil:Region.ready .any ops listed=[]:=by
   apply List.eq_nil_iff_forall_not_mem.2
   intro i hi
   obtain⟨o,t,ho,ht,hlt,hLi,_⟩:=h2 i hi
   have:i∈(aXc ops.size).filter fun i=> !listed.getD i false:=List.mem_filter.2 ⟨List.mem_range.2 hlt,by rw[hLi];rfl⟩
   rw[List.eq_nil_of_length_eq_zero (by omega: ((aXc ops.size).filter fun i=> !listed.getD i false).length=0)] at this
   cases this
  exact⟨hnil,hq c _ _ _ _ (h1 hnil)⟩
 |succ fuel ih=>
  intro c listed σL ι S a w hsz hlook hw hcl hcount
  obtain⟨h1,h2⟩:=vd (hlen c) (hr c) (hok c) 0 listed σL ι S a w hsz hlook hw hcl
  refine⟨fun hn=>hq c _ _ _ _ (h1 hn),fun i hi=> ?_⟩
  obtain⟨o,t,ho,ht,hlt,hLi,hreads,hcl',hset,hlook'⟩:=h2 i hi
  unfold wpOp
  rw[ho]
  have hfo:=hf o (by have:=Array.mem_of_getElem? ho;simpa using this)
  have hdrop:=qo (N:=ops.size) (L:=fun j=>listed.getD j false) (L':=fun j=>(listed.setIfInBounds i true).getD j false) hlt hLi hset
  by_cases hi0:i=i0
  · subst hi0
    rw[ho0] at ho;cases ho
    have hRt:=hR0 c t ht
    dsimp only
    rw[if_pos (by simp[Region.wanted,hg0])]
    refine .inl (h0 cx σL ι S a w (by rw[← hRt];exact hreads) hw hfo _ Q fun W hW ι' S' a' w' hw'=> ?_)
    obtain⟨c',hc'⟩:=hW0 W hW
    have hsame: ∀l,aQ σL l=part (ts c') (fun i=>listed.getD i false) σ l (ts c').length:=fun l=>by
     rw[hlook l,hlen c,hlen c']
     have hclosed:=aDc (hedge c) hcl
     have: ∀n,n≤ops.size→part (ts c) (fun i=>listed.getD i false) σ l n=part (ts c') (fun i=>listed.getD i false) σ l n:=by
      intro n
      induction n with
      |zero=>intro _;rfl
      |succ n ihn=>
       intro hn
       rw[nA,nA,ihn (by omega)]
       by_cases hLn:listed.getD n false=true
       · have hon:ops[n]? =some ops[n]:=Array.getElem?_eq_getElem (by omega)
         have hne:n≠i:=fun e=>by rw[e,hLi] at hLn;cases hLn
         have hni:i∉ (mJ ops.toList []).getD n []:=fun hm=>by
          have:=hclosed n _ hon (hcl n _ hon hLn) i hm
          rw[hLi] at this;cases this
         rw[hind c c' n hne hni]
       · rw[if_neg hLn,if_neg hLn]
     exact this _ (aXa _)
    obtain⟨_,h2'⟩:=vd (hlen c') (hr c') (hok c') 0 listed σL ι S a w hsz hsame hw hcl
    obtain⟨o2,t2,ho2,ht2,_,_,_,_,_,hlook2⟩:=h2' i hi
    rw[hc'] at ht2;cases ht2
    exact ih c' (listed.setIfInBounds i true) (iO σL W) ι' S' a' w' (by simpa using hsz) hlook2 hw' hcl' (by omega)
  · refine hit c i o t hi0 ho ht cx σL ι S a w hreads hw hfo _ Q fun ι' S' a' w' hw'=> ?_
    exact ih c (listed.setIfInBounds i true) (iO σL t.2) ι' S' a' w' (by simpa using hsz) hlook' hw' hcl' (by omega)
end
def aUt:Option mI→mI→Prop
 |none,_=>True
 |some t,t'=>t'=t
def aOi (P:Program) (T:hD) (fx:Nat→Option mI):List Oper→Nat→St→List gc→(St→List gc→Prop)→Prop
 | [],_,σ,acc,k=>k σ acc
 |o::os,i,σ,acc,k=>match o.guard with
  |none=>aKa P T o σ fun R W=>aUt (fx i) (R,W)∧nK σ W fun σ'=>aOi P T fx os (i+1) σ' (acc++[pQ (R,W)]) k
  |some _=>False
theorem ve {P:Program} {T:hD} (hT:dR P T) {ops:Array Oper} {fx:Nat→Option mI} {k:St→List gc→Prop}: ∀(l:List Oper) (i:Nat) (σ:St) (acc:List gc),aOi P T fx l i σ acc k→
 ∃ts:List mI,ba P ops l ts∧kP ts σ∧(∀j t,ts[j]? =some t→aUt (fx (i+j)) t)∧k (fI ts σ) (acc++ts.map pQ)
 | [],i,σ,acc,h=>⟨[],trivial,trivial,by simp,by simpa[aOi,fI] using h⟩
 |o::os,i,σ,acc,h=>by
  simp only[aOi] at h
  split at h
  · rename_i hg
    obtain⟨R,W,h1,h2,h3,h4⟩:=rg hT h
    rw[kZ] at h4
    obtain⟨ts,q1,q2,q3,q4⟩:=ve hT os _ _ _ h4
    refine⟨(R,W)::ts,⟨cg hg h1,q1⟩,⟨h2,q2⟩,fun j t hj=> ?_,by simpa[fI] using q4⟩
    cases j with
    |zero=>simp at hj;subst hj;exact h3
    |succ j=>rw[show i+(j+1)=i+1+j by omega];exact q3 j t (by simpa using hj)
  · exact h.elim
def aUu (i0:Nat) (fx:Nat→Option mI) (ops:Array Oper):Bool:=(aXc ops.size).all fun j=>decide (j≤i0)||(fx j).isSome||iH i0 ((mJ ops.toList []).getD j [])
theorem cr {P:Program} {ops:Array Oper}: ∀(l:List Oper) (ts:List mI),ba P ops l ts→ts.length=l.length∧ ∀(i:Nat) o t,l[i]? =some o→ts[i]? =some t→ItT P ops o t:=by
 intro l
 induction l with
 |nil=>intro ts h;cases ts with
  |nil=>exact⟨rfl,by simp⟩
  |cons t ts=>exact h.elim
 |cons o os ih=>intro ts h;cases ts with
  |nil=>exact h.elim
  |cons t ts=>
   obtain⟨q1,q2⟩:=ih ts h.2
   refine⟨by simp[q1],fun i o' t' ho ht=> ?_⟩
   cases i with
   |zero=>simp at ho ht;subst ho;subst ht;exact h.1
   |succ i=>exact q2 i o' t' (by simpa using ho) (by simpa using ht)
theorem be: ∀(ts us:List mI) (σ:St),kP ts σ→kP us (fI ts σ)→kP (ts++us) σ
 | [],us,σ,_,h=>h
 |t::ts,us,σ,h1,h2=>⟨h1.1,be ts us _ h1.2 h2⟩
theorem SW.regDE {P:Program} {T:hD} {io:List Nat} {Q:Ex→St→Prop} {σ:St} (hT:dR P T) (hm:P.follows .mixedOrders=true) (ks:List Nat) (i0:Nat) (fx:Nat→Option mI) {id:Nat} {ops:Array Oper} {o0:Oper} (ho:ops.toList[i0]? =some o0) (hg:o0.guard=none) (hfx:aUu i0 fx ops=true)
 (h:goC P T ops.toList true (ops.toList.take i0) σ [] fun σ1 acc=> ∃R0 Ws,OpE P o0 R0 Ws∧bQ R0 σ1∧(∃W,Ws W)∧ ∀W,Ws W→nK σ1 W fun σ2=>aOi P T fx (ops.toList.drop (i0+1)) (i0+1) σ2 (acc++[pQ (R0,W)]) fun σ' ns=>co ops.toList ns=true∧rR ks σ' (Q .norm)):
 SW P io (.region id ops true) Q σ:=by
 intro cx ι S a w hio hw hf
 have hfit: ∀o∈ops.toList,∀d,o.dst=some d→d<cx.N:=fun o ho=>yT (by simpa[tQ] using hf) ho
 obtain⟨tA,h1,h2,acc,h3,R0,Ws,h4,h5,⟨W0,hW0⟩,h6⟩:=xZ hT (ops.toList.take i0) σ [] h
 have h3:=h3 rfl
 rw[List.nil_append] at h3
 subst h3
 have hi0:i0<ops.toList.length:=(aXb.1 ho).1
 have hsz:ops.toList.length=ops.size:=Array.length_toList
 have hAl:tA.length=i0:=by rw[(cr _ _ h1).1,aW5];omega
 have h7: ∀W: {W // Ws W},∃tB:List mI,ba P ops (ops.toList.drop (i0+1)) tB∧kP tB (iO (fI tA σ) W.1)∧(∀j t,tB[j]? =some t→aUt (fx (i0+1+j)) t)∧co ops.toList ((tA.map pQ++[pQ (R0,W.1)])++tB.map pQ)=true∧Q .norm (Ab.keep ks (fI tB (iO (fI tA σ) W.1))):=fun⟨W,hW⟩=>by
  have h8:=h6 W hW
  rw[kZ] at h8
  obtain⟨tB,q1,q2,q3,q4,q5⟩:=ve (ops:=ops) hT _ _ _ _ h8
  rw[nB] at q5
  exact⟨tB,q1,q2,q3,q4,q5⟩
 let tB:=fun W: {W // Ws W}=>Classical.choose (h7 W)
 have hB:=fun W: {W // Ws W}=>Classical.choose_spec (h7 W)
 let ts:=fun W: {W // Ws W}=>tA++(R0,W.1)::tB W
 have hBl: ∀W,(tB W).length=ops.size - (i0+1):=fun W=>by have:=(cr _ _ (hB W).1).1;rw[aW9,hsz] at this;exact this
 have hrun: ∀W,fI (ts W) σ=fI (tB W) (iO (fI tA σ) W.1):=fun W=>by
  show fI (tA++(R0,W.1)::tB W) σ=_
  rw[xB];rfl
 have hget: ∀W j,(ts W)[j]? =if j<i0 then tA[j]? else if j=i0 then some (R0,W.1) else(tB W)[j - (i0+1)]?:=fun W j=>by
  show(tA++(R0,W.1)::tB W)[j]? =_
  by_cases c1:j<i0
  · rw[if_pos c1,List.getElem?_append_left (by omega)]
  · rw[if_neg c1,List.getElem?_append_right (by omega),hAl]
    by_cases c2:j=i0
    · rw[if_pos c2,c2,Nat.sub_self];rfl
    · rw[if_neg c2,show j - i0=(j - (i0+1))+1 by omega,List.getElem?_cons_succ]
 have hlen: ∀W,(ts W).length=ops.size:=fun W=>by
  show(tA++(R0,W.1)::tB W).length=_
  rw[aW0,aW3,hBl,hAl];omega
 have ho':ops[i0]? =some o0:=by simpa using ho
 refine wp_region_any hm (aIi (κ:={W // Ws W}) (cx:=cx) (σ:=σ) (ts:=ts) (i0:=i0) hlen ho' hg h4 (fun W t ht=>by rw[hget,if_neg (by omega),if_pos rfl] at ht;cases ht;rfl) (fun W hW=>⟨⟨W,hW⟩,by rw[hget,if_neg (by omega),if_pos rfl]⟩)
  (fun W i o t hne ho2 ht=> ?_) (fun W W' j hne hni=> ?_) (fun W=>be _ _ _ h2 ⟨h5,(hB W).2.1⟩) (fun W=> ?_) hfit (fun W ι' S' a' w' hw'=>⟨_,ι',S',(hB W).2.2.2.2,by rw[hrun] at hw';exact hw'.keep ks⟩)
  ops.size ⟨W0,hW0⟩ (Array.replicate ops.size false) σ ι S a _ (by simp) (fun l=> ?_) hw.drew (fun k o ho hk=> ?_) ?_)
 · rw[hget] at ht
   by_cases c1:i<i0
   · rw[if_pos c1] at ht
     exact(cr _ _ h1).2 i o t (by rw[List.getElem?_take,if_pos c1];simpa using ho2) ht
   · rw[if_neg c1,if_neg hne] at ht
     exact(cr _ _ (hB W).1).2 (i - (i0+1)) o t (by rw[List.getElem?_drop,show i0+1+(i - (i0+1))=i by omega];simpa using ho2) ht
 · rw[hget,hget]
   by_cases c1:j<i0
   · rw[if_pos c1,if_pos c1]
   · rw[if_neg c1,if_neg c1,if_neg hne,if_neg hne]
     by_cases c3:j<ops.size
     · have hd:=aXe.1 hfx j (List.mem_range.2 c3)
       simp only[Bool.or_eq_true,decide_eq_true_eq] at hd
       rcases hd with(hd|hd)|hd
       · omega
       · obtain⟨t,ht⟩:=Option.isSome_iff_exists.1 hd
         have e: ∀W,(tB W)[j - (i0+1)]? =some t:=fun W=>by
          have hl:j - (i0+1)< (tB W).length:=by rw[hBl];omega
          have:=(hB W).2.2.1 (j - (i0+1)) _ (aW8 hl)
          rw[show i0+1+(j - (i0+1))=j by omega,ht] at this
          rw[aW8 hl]
          exact congrArg some this
         rw[e W,e W']
       · exact absurd (hF.1 hd) hni
     · rw[List.getElem?_eq_none (by rw[hBl];omega),List.getElem?_eq_none (by rw[hBl];omega)]
 · have:=cp (hB W).2.2.2.1
   have e: (tA.map pQ++[pQ (R0,W.1)])++(tB W).map pQ=(ts W).map pQ:=by
    show _=(tA++(R0,W.1)::tB W).map pQ
    simp
   have this:xC ops.toList ((tA.map pQ++[pQ (R0,W.1)])++(tB W).map pQ)=true:=this
   rw[e] at this
   simpa[pZ,xC] using this
 · have hL: ∀i,(Array.replicate ops.size false).getD i false=false:=fun i=>by
    rw[Array.getD_eq_getD_getElem?,Array.getElem?_replicate];split<;>rfl
   have: ∀n,part (ts ⟨W0,hW0⟩) (fun i=>(Array.replicate ops.size false).getD i false) σ l n=aQ σ l:=by
    intro n
    induction n with
    |zero=>rfl
    |succ n ih=>rw[nA,if_neg (by rw[hL];simp),ih]
   rw[this]
 · rw[Array.getD_eq_getD_getElem?,Array.getElem?_replicate] at hk;split at hk<;>cases hk
 · exact Nat.le_trans (List.length_filter_le _ _) (by simp)
section
variable {P:Program} {T:hD} {io:List Nat} {f:FuncId} {n:Nat} {σin:St} {o:Oper} {c:Call} {d:Nat} {σ σ1:St} {Xs:List V} {Ra:List (dH×Option K)}
theorem er {Qo:St→Prop} {rl:List (Nat×Nat)} {bor news:List Nat} {robj:List (Nat×K)} {k:List (dH×Option K)→List (dH×K)→Prop} (hs:SpecE P f n σin Qo) (ho:o.op= .call c) (hc:c.callee= .value (.func f)) (hx:evA σ c.args.toList=some (Xs,Ra)) (hn:Xs.length=n)
 (hm:oS (eV 0 Xs++rQ robj) σin rl bor) (hq: ∀σout,Qo σout→kS rl σin σout=true∧(bor=[]∨mM σout)∧ ∀j∈jV σin σout,j∈news) (h1: ∀p∈robj,aQ σ (.o p.1)=some p.2) (h2: ∀j∈news,aQ σ (.o (kO rl j))=none) (hne: ∃σout,Qo σout)
 (h: ∀σout,Qo σout→k (aOc Ra robj rl news) (uB rl σin σout o.dst)): ∃R Ws,OpE P o R Ws∧bQ R σ∧(∃W,Ws W)∧ ∀W,Ws W→k R W:=by
 refine⟨_,_,aBl hs ho hc hx hn hm hq,fun p hp=> ?_,?_,fun W ⟨σout,hQ,e⟩=>e▸h σout hQ⟩
 · rcases List.mem_append.1 hp with hp|hp
   · rcases List.mem_append.1 hp with hp|hp
     · exact uX hx p hp
     · obtain⟨q,hq,rfl⟩:=aXd.1 hp
       exact h1 q hq
   · obtain⟨j,hj,rfl⟩:=aXd.1 hp
     exact h2 j hj
 · obtain⟨σout,hQ⟩:=hne
   exact⟨_,σout,hQ,rfl⟩
end
section
variable {P:Program} {T:hD} {o:Oper} {σ:St} {t e:TypeId} {s1 s2 d j es:Nat} {s3:List C} {k:List (dH×Option K)→List (dH×K)→Prop} {Pr:List D→Prop} {ti:TI}
theorem aRd (hT:dR P T) (ho:o.op= .buildSlice t 0 #[]) (hd:o.dst=some d) (ht:T t=some ⟨.sl e,s1,s2,s3⟩) (hte:T e=some ti) (hes:ti.size=es) (hl:aQ σ (.o j)=some (aM e es Pr))
 (h:k [(.o j,some (aM e es Pr))] [(.o j,aM e es Pr),(.t d,.v (.e (.c (ps j es 0))))]): ∃R W,xS P o R W∧bQ R σ∧k R W:=by
 have hu:=(hT t _ ht).kind
 simp only[lW] at hu
 have hok:=hT e ti hte
 refine⟨_,_,uz hd fun cx σ' ι S a w hr hw=> ?_,bQ.one hl,h⟩
 have hl':=hr (.o j,some (aM e es Pr)) (by simp)
 dsimp only at hl'
 obtain⟨p',ht',hsub,hnew⟩:=aBo (w0:=w) (cells:= #[]) (tot:=0) hw hl' ⟨rfl,rfl,rfl,rfl⟩ (by simp) (fun _ i hi=>by omega)
 refine⟨.slice (some ⟨w.heap.size,0,none⟩) 0 0,p',w.alloc (.cells #[] e),?_,ht',show CR (pY σ' (.o j) (aM e es Pr)) (fun o=>if o=j then p' else ι o) (w.alloc (.cells #[] e)) S (ps j es 0) _ from aKb (cY σ' (.o j) (aM e es Pr)) ?_⟩
 · have hrun: (Instr.buildSlice t 0 #[]).run P w= .ok (.slice (some ⟨w.heap.size,0,none⟩) 0 0) (w.alloc (.cells #[] e)):=by
    simp only[Instr.buildSlice,Sem.run_bind,run_underlying hu,Result.andThen_ok,fS hok]
    rw[if_neg (by omega)]
    simp[Instr.fill,newRow,Array.range_zero']
   simp[execOp,ho]
   rw[hrun];rfl
 · show slQ es 0 (if j=j then p' else ι j) _
   rw[if_pos rfl]
   exact .inr ⟨w.heap.size,0,0,0,by rw[Nat.zero_mul],aXa _,by simp only[maxLen];omega,aXa _,hnew⟩
end
theorem RW.newPool {P:Program} {cx:Cx P} {σ:St} {ι:Nat→Value} {S:Nat→Prop} {a:Act} {w:World} (h:RW cx σ ι S a w) {j:Nat} (e:TypeId) (es:Nat) (Pr:List D→Prop) (hj:aQ σ (.o j)=none):
 RW cx (pY σ (.o j) (aM e es Pr)) (fun o=>if o=j then .tuple #[] else ι o) S a w:=
 h.turnZ ⟨rfl,rfl,rfl,aXa _,fun _ _ _=>rfl,.inl hj,fun b hb=>by obtain⟨v,hv,_⟩:=hb;simp at hv,⟨_,rfl⟩,fun v hv=>by obtain⟨vs,h1,h2⟩:=hv;cases h1;simp at h2⟩
theorem SW.newPool {P:Program} {io:List Nat} {Q:Ex→St→Prop} {σ:St} {c:Code} (j:Nat) (e:TypeId) (es:Nat) (Pr:List D→Prop) (hj:aQ σ (.o j)=none) (h:sr σ (.o j) (aM e es Pr) (SW P io c Q)):SW P io c Q σ:=by
 rw[oU] at h
 intro cx ι S a w hio hw hf
 exact h cx _ S a w hio (hw.newPool e es Pr hj) hf
section
variable {τ σ':St} {rl:List (Nat×Nat)} {bor:List Nat} {r:List (dH×K)}
theorem aOj {s o es n j m:Nat} {Z:ia} (h:aQ τ (.t s)=some (.v (.e (.c (ps o es n))))) (ho:o=kO rl j) (e:n=m) (hj:aQ σ' (.o j)=some (.zone Z)) (hr:mL τ σ' rl bor r):mL τ σ' rl bor ((.t s,.v (.e (.c (ps j es m))))::r):=
 ⟨⟨_,h,ho,fun p v hv=>by rw[← e];exact hv,Z,hj⟩,hr⟩
theorem aY {j:Nat} {Z Z':ia} (h:aQ τ (.o (kO rl j))=some (.zone Z)) (e:Z=Z') (hr:mL τ σ' rl bor r):mL τ σ' rl bor ((.o j,.zone Z')::r):=⟨⟨_,h,by rw[← e];exact⟨rfl,fun _ _ _ h=>h⟩⟩,hr⟩
theorem bH {o es n j m:Nat} {Z:ia} {cs ds:List C} (ho:o=kO rl j) (e:n=m) (hj:aQ σ' (.o j)=some (.zone Z)) (h:zq τ σ' rl bor cs ds):zq τ σ' rl bor (ps o es n::cs) (ps j es m::ds):=⟨⟨ho,fun p v hv=>by rw[← e];exact hv,Z,hj⟩,h⟩
end
def goX (P:Program):List Oper→St→List gc→(St→List gc→Prop)→Prop
 | [],σ,acc,k=>k σ acc
 |o::os,σ,acc,k=>match o.guard with
  |none=> ∃R W,xS P o R W∧bQ R σ∧nK σ W fun σ'=>goX P os σ' (acc++[pQ (R,W)]) k
  |some _=>False
theorem sx {P:Program} {T:hD} (hT:dR P T) {o:Oper} {σ:St} {p:Prop} {R:List (dH×Option K)} {W:List (dH×K)} {k:List (dH×Option K)→List (dH×K)→Prop} (h:oa T o σ=some (p,R,W)) (hp:p) (hk:k R W): ∃R W,xS P o R W∧bQ R σ∧k R W:=by
 obtain⟨h1,h2⟩:=wF hT o σ p R W h hp
 exact⟨R,W,h1,h2,hk⟩
theorem aBp {P:Program} {ops:Array Oper} {k:St→List gc→Prop}: ∀(l:List Oper) (σ:St) (acc:List gc),goX P l σ acc k→ ∃ts:List mI,ba P ops l ts∧kP ts σ∧k (fI ts σ) (acc++ts.map pQ)
 | [],σ,acc,h=>⟨[],trivial,trivial,by simpa[goX,fI] using h⟩
 |o::os,σ,acc,h=>by
  simp only[goX] at h
  split at h
  · rename_i hg
    obtain⟨R,W,h1,h2,h3⟩:=h
    rw[kZ] at h3
    obtain⟨ts,q1,q2,q4⟩:=aBp os _ _ h3
    exact⟨(R,W)::ts,⟨cg hg h1,q1⟩,⟨h2,q2⟩,by simpa[fI] using q4⟩
  · exact h.elim
theorem SW.regX {P:Program} {io:List Nat} {Q:Ex→St→Prop} {σ:St} (hm:P.follows .mixedOrders=true) (ks:List Nat) {id:Nat} {ops:Array Oper} (h:goX P ops.toList σ [] fun σ' ns=>co ops.toList ns=true∧rR ks σ' (Q .norm)):SW P io (.region id ops true) Q σ:=by
 intro cx ι S a w hio hw hf
 have hfit: ∀o∈ops.toList,∀d,o.dst=some d→d<cx.N:=fun o ho=>yT (by simpa[tQ] using hf) ho
 obtain⟨ts,h1,h2,h4,h5⟩:=aBp (ops:=ops) ops.toList σ [] h
 rw[List.nil_append] at h4
 rw[nB] at h5
 obtain⟨q1,q2⟩:=cr _ _ h1
 refine wp_region_any hm (em (cx:=cx) (σ:=σ) (ts:=ts) (by simpa using q1) (fun i o t ho ht=>q2 i o t (by simpa using ho) ht) h2 (by have:=cp h4;simpa[pZ,xC] using this) hfit (fun ι' S' a' w' hw'=>⟨_,ι',S',h5,hw'.keep ks⟩)
  ops.size (Array.replicate ops.size false) σ ι S a _ (by simp) (fun l=> ?_) hw.drew (fun k o ho hk=> ?_) ?_)
 · have hL: ∀i,(Array.replicate ops.size false).getD i false=false:=fun i=>by
    rw[Array.getD_eq_getD_getElem?,Array.getElem?_replicate];split<;>rfl
   have: ∀n,part ts (fun i=>(Array.replicate ops.size false).getD i false) σ l n=aQ σ l:=by
    intro n
    induction n with
    |zero=>rfl
    |succ n ih=>rw[nA,if_neg (by rw[hL];simp),ih]
   rw[this]
 · rw[Array.getD_eq_getD_getElem?,Array.getElem?_replicate] at hk;split at hk<;>cases hk
 · exact Nat.le_trans (List.length_filter_le _ _) (by simp)
def aOk:Option K→Bool
 |some (.row ..)=>true
 |_=>false
def aOl:Option K→Bool
 |some (.box ..)=>true
 |_=>false
def aDd:Option K→Bool
 |some (.zone ..)=>true
 |_=>false
def qC (τ σ':St) (rl:List (Nat×Nat)) (bor:List Nat):C→C→Prop→Prop
 | .d x,.d y,p=>x=y∧p
 | .nil,.nil,p=>p
 | .nil,.d y,p=>y= .sl []∧p
 | .own o n,.d y,p=>match iH o bor,aQ τ (.o o) with
  |true,some (.row e es rows)=>rows.length=n∧y= .sl rows∧p
  |_,_=>False
 | .own o n,.own j m,p=>match Nat.beq o (kO rl j)&&aOk (aQ σ' (.o j)) with
  |true=>n=m∧p
  |false=>False
 | .pt o k,.pt j m,p=>match Nat.beq o (kO rl j)&&(Nat.beq k m&&aOl (aQ σ' (.o j))) with
  |true=>p
  |false=>False
 | .rp cs,.rp cs',p=>cs=cs'∧p
 | .nil,.z j Q',p=>match aDd (aQ σ' (.o j)) with
  |true=>(∀p,Q' p (.slice none 0 0))∧p
  |false=>False
 | .z o Q,.z j Q',p=>match Nat.beq o (kO rl j)&&aDd (aQ σ' (.o j)) with
  |true=>Q=Q'∧p
  |false=>False
 |_,_,_=>False
def qCs (τ σ':St) (rl:List (Nat×Nat)) (bor:List Nat):List C→List C→Prop→Prop
 | [],[],p=>p
 |c::cs,d::ds,p=>qC τ σ' rl bor c d (qCs τ σ' rl bor cs ds p)
 |_,_,_=>False
def qE (τ σ':St) (rl:List (Nat×Nat)) (bor:List Nat):E→E→Prop→Prop
 | .c x,.c y,p=>qC τ σ' rl bor x y p
 | .agg cs,.agg ds,p=>qCs τ σ' rl bor cs ds p
 |_,_,_=>False
def qEs (τ σ':St) (rl:List (Nat×Nat)) (bor:List Nat):List E→List E→Prop→Prop
 | [],[],p=>p
 |c::cs,d::ds,p=>qE τ σ' rl bor c d (qEs τ σ' rl bor cs ds p)
 |_,_,_=>False
def qV (τ σ':St) (rl:List (Nat×Nat)) (bor:List Nat):V→V→Prop→Prop
 | .e x,.e y,p=>qE τ σ' rl bor x y p
 | .tup xs,.tup ys,p=>qEs τ σ' rl bor xs ys p
 |_,_,_=>False
def qK (τ σ':St) (rl:List (Nat×Nat)) (bor:List Nat):K→K→Prop→Prop
 | .box ty cs,.box ty' ds,p=>match Nat.beq ty ty' with
  |true=>qCs τ σ' rl bor cs ds p
  |false=>False
 | .row e es rows,.row e' es' rows',p=>match Nat.beq e e'&&Nat.beq es es' with
  |true=>rows=rows'∧p
  |false=>False
 | .zone Z,.zone Z',p=>Z=Z'∧p
 |_,_,_=>False
def qL (τ σ':St) (rl:List (Nat×Nat)) (bor:List Nat):List (dH×K)→Prop
 | []=>True
 |(.t s,.v X')::r=>match aQ τ (.t s) with
  |some (.v X)=>qV τ σ' rl bor X X' (qL τ σ' rl bor r)
  |_=>False
 |(.o j,k')::r=>match aQ τ (.o (kO rl j)) with
  |some k=>qK τ σ' rl bor k k' (qL τ σ' rl bor r)
  |_=>False
 |_::_=>False
section
variable {τ σ':St} {rl:List (Nat×Nat)} {bor:List Nat} {p:Prop}
theorem aFm {k:Option K} (h:aOk k=true): ∃e es rows,k=some (.row e es rows):=by
 cases k with
 |none=>cases h
 |some k=>cases k<;>first|exact⟨_,_,_,rfl⟩|cases h
theorem aFn {k:Option K} (h:aOl k=true): ∃e es,k=some (.box e es):=by
 cases k with
 |none=>cases h
 |some k=>cases k<;>first|exact⟨_,_,rfl⟩|cases h
theorem ko {k:Option K} (h:aDd k=true): ∃e,k=some (.zone e):=by
 cases k with
 |none=>cases h
 |some k=>cases k<;>first|exact⟨_,rfl⟩|cases h
theorem aFo: ∀{c d:C},qC τ σ' rl bor c d p→mC τ σ' rl bor c d∧p:=by
 intro c d h
 cases c<;>cases d<;>simp only[qC] at h<;>try exact h.elim
 · exact h
 · exact h
 · exact⟨trivial,h⟩
 · split at h
   · rename_i hz
     exact⟨⟨h.1,ko hz⟩,h.2⟩
   · exact h.elim
 · split at h
   · rename_i hb hl
     exact⟨⟨hF.1 hb,_,_,_,hl,h.1,.inl h.2.1⟩,h.2.2⟩
   · exact h.elim
 · split at h
   · rename_i hb
     simp only[aW4] at hb
     exact⟨⟨Nat.eq_of_beq_eq_true hb.1,h.1,aFm hb.2⟩,h.2⟩
   · exact h.elim
 · split at h
   · rename_i hb
     simp only[aW4] at hb
     exact⟨⟨Nat.eq_of_beq_eq_true hb.1,Nat.eq_of_beq_eq_true hb.2.1,aFn hb.2.2⟩,h⟩
   · exact h.elim
 · exact h
 · split at h
   · rename_i hb
     simp only[aW4] at hb
     exact⟨⟨Nat.eq_of_beq_eq_true hb.1,fun p v hv=>by rw[← h.1];exact hv,ko hb.2⟩,h.2⟩
   · exact h.elim
theorem og: ∀{cs ds:List C},qCs τ σ' rl bor cs ds p→zq τ σ' rl bor cs ds∧p
 | [],[],h=>⟨trivial,h⟩
 |c::cs,d::ds,h=>by
  obtain⟨h1,h2⟩:=aFo h
  obtain⟨h3,h4⟩:=og h2
  exact⟨⟨h1,h3⟩,h4⟩
 | [],_::_,h=>h.elim
 |_::_,[],h=>h.elim
theorem aFp {x y:E} (h:qE τ σ' rl bor x y p):mE τ σ' rl bor x y∧p:=by
 cases x<;>cases y<;>simp only[qE] at h<;>first|exact h.elim|exact aFo h|exact og h
theorem aBq: ∀{cs ds:List E},qEs τ σ' rl bor cs ds p→mEs τ σ' rl bor cs ds∧p
 | [],[],h=>⟨trivial,h⟩
 |c::cs,d::ds,h=>by
  obtain⟨h1,h2⟩:=aFp h
  obtain⟨h3,h4⟩:=aBq h2
  exact⟨⟨h1,h3⟩,h4⟩
 | [],_::_,h=>h.elim
 |_::_,[],h=>h.elim
theorem aOm {x y:V} (h:qV τ σ' rl bor x y p):mV τ σ' rl bor x y∧p:=by
 cases x<;>cases y<;>simp only[qV] at h<;>first|exact h.elim|exact aFp h|exact aBq h
theorem aOn {x y:K} (h:qK τ σ' rl bor x y p):mK τ σ' rl bor x y∧p:=by
 cases x<;>cases y<;>simp only[qK] at h<;>try exact h.elim
 · split at h
   · rename_i hb
     obtain⟨h1,h2⟩:=og h
     exact⟨⟨Nat.eq_of_beq_eq_true hb,h1⟩,h2⟩
   · exact h.elim
 · split at h
   · rename_i hb
     simp only[aW4] at hb
     exact⟨⟨Nat.eq_of_beq_eq_true hb.1,Nat.eq_of_beq_eq_true hb.2,h.1⟩,h.2⟩
   · exact h.elim
 · obtain⟨rfl,h2⟩:=h
   exact⟨⟨rfl,fun _ _ _ h=>h⟩,h2⟩
theorem qs: ∀{L:List (dH×K)},qL τ σ' rl bor L→mL τ σ' rl bor L
 | [],_=>trivial
 |(.t s,.v X')::r,h=>by
  simp only[qL] at h
  split at h
  · rename_i X hl
    obtain⟨h1,h2⟩:=aOm h
    exact⟨⟨X,hl,h1⟩,qs h2⟩
  · exact h.elim
 |(.o j,k')::r,h=>by
  have h: (match aQ τ (.o (kO rl j)) with
   |some k=>qK τ σ' rl bor k k' (qL τ σ' rl bor r)
   |_=>False):=by cases k'<;>exact h
  split at h
  · rename_i k hl
    obtain⟨h1,h2⟩:=aOn h
    have h3: (∃k,aQ τ (.o (kO rl j))=some k∧mK τ σ' rl bor k k')∧mL τ σ' rl bor r:=⟨⟨k,hl,h1⟩,qs h2⟩
    cases k'<;>exact h3
  · exact h.elim
 |(.t s,.box ..)::r,h=>h.elim
 |(.t s,.row ..)::r,h=>h.elim
 |(.t s,.dead)::r,h=>h.elim
 |(.t s,.cv ..)::r,h=>h.elim
 |(.t s,.zone ..)::r,h=>h.elim
end
theorem aWp {es:Nat}: ∀p,slQ es 0 p (.slice none 0 0):=fun p=> .inl ⟨rfl,rfl⟩
def iK (n lo hi:Int):Bool:=decide (lo≤n)&&decide (n≤hi)
def eN (n:Int):Bool:=iK n 0 3
def jB (at_ to:Int):Int:=if !eN at_|| !eN to||at_==to then -1 else if at_<to then at_+1 else at_ - 1
theorem aC {n:Int} (h: -9223372036854775808≤n∧n<9223372036854775808):wrap64 n=n:=by
 unfold wrap64;omega
structure cH where
 kind:Int
 src:Int
 dst:Int
 frm:Int
 num:Int
 to:Int
 til:Int
 size:Int
 mix:Int
 data:List UInt8
def cH.row (f:cH):List D:=[.i f.kind,.i f.src,.i f.dst,.i f.frm,.i f.num,.i f.to,.i f.til,.i f.size,.i f.mix,.s f.data]
abbrev cH.V (f:cH):V:= .e (.agg [.d (.i f.kind),.d (.i f.src),.d (.i f.dst),.d (.i f.frm),.d (.i f.num),.d (.i f.to),.d (.i f.til),.d (.i f.size),.d (.i f.mix),.d (.s f.data)])
def eM (f:cH):Bool:=
 eN f.src&&eN f.dst&&eN f.frm&&eN f.to&&iK f.num 1 99&&iK f.til 1 999&&
 (if f.kind=1 then iK f.size 1 24&&iK f.mix 0 999&&decide (f.data.length=4)&&decide (f.dst=jB f.src f.to)
  else if f.kind=2∨f.kind=3 then decide (f.size=0)&&decide (f.mix=0)&&decide (f.data=[])&&decide (f.src=jB f.dst f.to) else false)
theorem bO {T:hD} {io:List Nat} {rs:List ResultVar} {s:St} {X Y:V} (h1:aHu T s rs=some X) (hp:oP Y=true) (e:X=Y):bc T io rs [(.t 0,.v Y)] s:=by
 subst e
 exact⟨X,[],[],h1,⟨⟨⟨X,rfl,aFe hp⟩,trivial⟩,rfl⟩,by simp[ui,cA,pG];exact fun x _=> .inl rfl⟩
theorem jJ {l:List UInt8} {i:Nat} (h:i<l.length): (aA l).getD i []=[.u (l.getD i 0).toNat]:=by
 rw[aW7,aW7]
 simp[aA,h]
theorem gQ (l m:List UInt8):aA l++aA m=aA (l++m):=by simp[aA]
theorem aOo (b:UInt8):b.toNat<256:=b.toNat_lt
def fq (l:List UInt8):Nat→Nat
 |0=>0
 |n+1=>(fq l n+(l.getD n 0).toNat*(n % 1000+1)) % 65521
theorem aDe (l:List UInt8) (n:Nat):fq l n<65521:=by
 cases n with
 |zero=>simp[fq]
 |succ n=>exact Nat.mod_lt _ (by decide)
theorem aLo (l:List UInt8) (n:Nat):wrap64 ((fq l n:Int)+wrap64 (((l.getD n 0).toNat:Int)*wrap64 ((n:Int) % 1000+1))) % 65521=(fq l (n+1):Int):=by
 show _=(((fq l n+(l.getD n 0).toNat*(n % 1000+1)) % 65521:Nat):Int)
 have h1:=aDe l n
 have h2:=aOo (l.getD n 0)
 generalize (l.getD n 0).toNat=b at*
 have h3: (n:Int) % 1000<1000:=Int.emod_lt_of_pos _ (by decide)
 have h4:0≤(n:Int) % 1000:=Int.emod_nonneg _ (by decide)
 rw[aC (n:=(n:Int) % 1000+1) (by omega)]
 have h5: (b:Int)*((n:Int) % 1000+1)≤255*1000:=Int.mul_le_mul (by omega) (by omega) (by omega) (by omega)
 have h6:0≤(b:Int)*((n:Int) % 1000+1):=Int.mul_nonneg (by omega) (by omega)
 rw[aC (n:=(b:Int)*((n:Int) % 1000+1)) (by omega),aC (by omega)]
 have e: ((b*(n % 1000+1):Nat):Int)=(b:Int)*((n:Int) % 1000+1):=by rw[Int.natCast_mul,Int.natCast_add,Int.natCast_emod];rfl
 rw[← e]
 generalize b*(n % 1000+1)=q
 omega
theorem aIj (l:List UInt8) (n:Nat): (wrap64 ((fq l n:Int)+wrap64 (wrap64 ((l.getD n 0).toNat:Int)*wrap64 (Int.tmod (n:Int) 1000+1)))).tmod 65521=(fq l (n+1):Int):=by
 have h2:=aOo (l.getD n 0)
 have h1:=aDe l n
 have h3: (n:Int) % 1000<1000:=Int.emod_lt_of_pos _ (by decide)
 have h4:0≤(n:Int) % 1000:=Int.emod_nonneg _ (by decide)
 have h:=aLo l n
 rw[aC (n:=((l.getD n 0).toNat:Int)) (by omega),Int.tmod_eq_emod_of_nonneg (by omega:0≤(n:Int)),Int.tmod_eq_emod_of_nonneg]
 · exact h
 · rw[aC (n:=(n:Int) % 1000+1) (by omega)]
   have h5: ((l.getD n 0).toNat:Int)*((n:Int) % 1000+1)≤255*1000:=Int.mul_le_mul (by omega) (by omega) (by omega) (by omega)
   have h6:0≤((l.getD n 0).toNat:Int)*((n:Int) % 1000+1):=Int.mul_nonneg (by omega) (by omega)
   rw[aC (n:=((l.getD n 0).toNat:Int)*((n:Int) % 1000+1)) (by omega),aC (by omega)]
   omega
theorem vf (l:List UInt8) (n:Nat): (wrap64 ((fq l n:Int)+wrap64 (wrap64 (Int.tmod (n:Int) 1000+1)*wrap64 ((l.getD n 0).toNat:Int)))).tmod 65521=(fq l (n+1):Int):=by
 rw[Int.mul_comm];exact aIj l n
def b8 (x:Int):UInt8:=UInt8.ofNat x.toNat
def two (n:Int):List UInt8:=[b8 (n / 256),b8 (n % 256)]
def pS (f:cH):List UInt8:=
 if eM f then
  let body:=[b8 f.kind,b8 f.src,b8 f.dst,b8 f.frm,b8 f.num,b8 f.to]++two f.til++(if f.kind=1 then [b8 f.size]++two f.mix++f.data else [])
  body++two (fq body body.length)
 else []
theorem vg {x:Int} (h:0≤x∧x<256): ((b8 x).toNat:Int)=x:=by
 unfold b8
 rw[UInt8.toNat_ofNat']
 omega
theorem vh {x:Int} (h:0≤x∧x<256):jA x=x:=by unfold jA;omega
theorem iq {x:Int} (h:0≤x∧x<256): [D.u (jA x)]=[D.u (b8 x).toNat]:=by rw[vh h,vg h]
theorem aOp {n:Int} (h:0≤n∧n<65536): [[D.u (jA (wrap64 (n.tdiv 256)))],[D.u (jA (n.tmod 256))]]=aA (two n):=by
 rw[Int.tdiv_eq_ediv_of_nonneg h.1,Int.tmod_eq_emod_of_nonneg h.1,aC (by omega),vh (by omega),vh (by omega)]
 simp only[aA,two,List.map_cons,List.map_nil]
 rw[vg (by omega),vg (by omega)]
theorem vi (n:Int):mM [(.t 0,.v (I n))]:=by
 intro p hp
 simp at hp
 subst hp;trivial
def lD (f:cH):List UInt8:=[b8 f.kind,b8 f.src,b8 f.dst,b8 f.frm,b8 f.num,b8 f.to]++two f.til
def fH (f:cH):List UInt8:=lD f++(if f.kind=1 then [b8 f.size]++two f.mix++f.data else [])
theorem qJ (f:cH):pS f=if eM f then fH f++two (fq (fH f) (fH f).length) else []:=by
 unfold pS fH lD
 rfl
theorem lX {f:cH} (h:eM f=true): (0≤f.src∧f.src≤3)∧(0≤f.dst∧f.dst≤3)∧(0≤f.frm∧f.frm≤3)∧(0≤f.to∧f.to≤3)∧(1≤f.num∧f.num≤99)∧(1≤f.til∧f.til≤999)∧(1≤f.kind∧f.kind≤3)∧(f.kind=1→(1≤f.size∧f.size≤24)∧(0≤f.mix∧f.mix≤999)∧f.data.length=4):=by
 simp only[eM,eN,iK,aW4,decide_eq_true_eq] at h
 obtain⟨⟨⟨⟨⟨⟨h1,h2⟩,h3⟩,h4⟩,h5⟩,h6⟩,h7⟩:=h
 split at h7
 · rename_i hk
   simp only[aW4,decide_eq_true_eq] at h7
   exact⟨h1,h2,h3,h4,h5,h6,by omega,fun _=>⟨h7.1.1.1,h7.1.1.2,h7.1.2⟩⟩
 · split at h7
   · rename_i hk hk2
     exact⟨h1,h2,h3,h4,h5,h6,by omega,fun h=>absurd h hk⟩
   · cases h7
theorem kr {f:cH} (h:eM f=true): (fH f).length≤15:=by
 have:=(lX h).2.2.2.2.2.2.2
 unfold fH lD two
 split
 · rename_i hk;simp[(this hk).2.2]
 · simp
theorem ct {f:cH} (hk: ¬f.kind=1):fH f=lD f:=by simp[fH,hk]
def eu (f:cH):List UInt8:=[b8 f.kind,b8 f.src,b8 f.dst,b8 f.frm,b8 f.num,b8 f.to]
theorem aDf {f:cH} (h:eM f=true): []++[[D.u (jA f.kind)],[.u (jA f.src)],[.u (jA f.dst)],[.u (jA f.frm)],[.u (jA f.num)],[.u (jA f.to)]]=aA (eu f):=by
 obtain⟨k1,k2,k3,k4,k5,k6,k7,k8⟩:=lX h
 simp only[eu,aA,List.map_cons,List.map_nil,List.nil_append]
 rw[iq (x:=f.kind) (by omega),iq (x:=f.src) (by omega),iq (x:=f.dst) (by omega),iq (x:=f.frm) (by omega),iq (x:=f.num) (by omega),iq (x:=f.to) (by omega)]
def aS7 (k:Int) (n:Nat):List UInt8:=(aXc n).map fun i=>UInt8.ofNat (k.toNat+i)
theorem aDg (k:Int) (n:Nat): (aS7 k n).length=n:=by simp[aS7]
theorem aAa (f:cH): (pS f).length≤17:=by
 rw[qJ]
 split
 · rename_i h
   have:=kr h
   simp[two];omega
 · simp
def aOq (σ:St):List (Nat×K)→Prop
 | []=>True
 |p::r=>aQ σ (.o p.1)=some p.2∧aOq σ r
theorem aK {σ:St}: ∀{l:List (Nat×K)},aOq σ l→ ∀p∈l,aQ σ (.o p.1)=some p.2
 |q::r,h,p,hp=>by
  rcases List.mem_cons.1 hp with rfl|hp
  · exact h.1
  · exact aK h.2 p hp
section
variable {P:Program} {f:FuncId} {n:Nat} {σin σout:St} {o:Oper} {c:Call} {σ:St} {Xs:List V} {Ra:List (dH×Option K)}
theorem yA {k:List (dH×Option K)→List (dH×K)→Prop} (rl:List (Nat×Nat)) (hs:Spec P f n σin σout) (ho:o.op= .call c) (hc:c.callee= .value (.func f)) (hx:evA σ c.args.toList=some (Xs,Ra)) (hn:Xs.length=n) (hin:σin=eV 0 Xs) (hp:Xs.all oP=true)
 (hk:kS rl σin σout=true) (h2: ∀j∈jV σin σout,aQ σ (.o (kO rl j))=none) (h:k (qt Ra [] rl σin σout) (uB rl σin σout o.dst)): ∃R W,xS P o R W∧bQ R σ∧k R W:=by
 subst hin
 refine bE (robj:=[]) (rl:=rl) (bor:=[]) hs ho hc hx hn ⟨uv (fun j Y hj=> ?_) hp,?_⟩ hk (.inl rfl) (by simp) h2 h
 · have hlt:=(aXb.1 hj).1
   rw[Nat.zero_add,pI 0 Xs _ j (aW6 _) (by omega),Nat.sub_zero,hj];rfl
 · simp[bb,qI,vE,pG]
end
theorem ixB {l:List UInt8} {j:Int} (h0:0≤j) (h:j<l.length): (0≤j∧j< (aA l).length)∧((aA l).getD j.toNat []).length=1:=by
 refine⟨⟨h0,by rw[aS];exact h⟩,?_⟩
 rw[jJ (by omega)];rfl
theorem ldB {l:List UInt8} {j:Int} (h0:0≤j) (h:j<l.length):1≤((aA l).getD j.toNat []).length∧((aA l).getD j.toNat []).take 1=kT [.d (.u 0)] ((aA l).getD j.toNat []) 0:=by
 rw[jJ (by omega)];exact⟨aXa _,rfl⟩
theorem valB {l:List UInt8} {j:Int} (h0:0≤j) (h:j<l.length):toU (((aA l).getD j.toNat []).getD 0 (.i 0))=((l.getD j.toNat 0).toNat:Int):=by
 rw[jJ (by omega)];rfl
theorem xE (l:List UInt8) (a b:Nat):jP (((aA l).take b).drop a)=(l.take b).drop a:=by
 have:=cI ((l.take b).drop a)
 rw[← this]
 congr 1
 simp[aA]
theorem xF (l:List UInt8) (a b:Nat): ((aA l).take b).drop a=aA ((l.take b).drop a):=by simp[aA]
def aUv:D→Bool
 | .sl rows=>rows.isEmpty
 |_=>true
def aIk:C→Bool
 | .d x=>aUv x
 | .rp _=>false
 |_=>true
def aIl:E→Bool
 | .c x=>aIk x
 | .agg cs=>cs.all aIk
def aOr:V→Bool
 | .e x=>aIl x
 | .tup xs=>xs.all aIl
theorem ri {c:C} (h:aIk c=true):ep c:=by
 cases c with
 |d x=>cases x<;>first|trivial|exact List.isEmpty_iff.1 h
 |rp _=>cases h
 |_=>trivial
theorem rj {c:E} (h:aIl c=true):kb c:=by
 cases c with
 |c x=>exact ri h
 |agg cs=>exact fun c hc=>ri (aXe.1 h c hc)
theorem aFq {c:V} (h:aOr c=true):kc c:=by
 cases c with
 |e x=>exact rj h
 |tup cs=>exact fun c hc=>rj (aXe.1 h c hc)
theorem aIm {X:V} (h:aOr X=true):mM [(.t 0,.v X)]:=by
 intro p hp
 simp at hp
 subst hp
 exact aFq h
def jG (l:List UInt8) (i:Nat):Int:=(l.getD i 0).toNat
theorem kJ (l:List UInt8) (i:Nat):0≤jG l i∧jG l i<256:=by
 have:=aOo (l.getD i 0)
 unfold jG;omega
theorem aDh {l:List UInt8} {j:Int} (h0:0≤j) (h:j.toNat<l.length):wrap64 (toU (((aA l).getD j.toNat []).getD 0 (.i 0)))=jG l j.toNat:=by
 rw[valB h0 (by omega)]
 have:=kJ l j.toNat
 exact aC (by unfold jG at this;omega)
theorem aBr {x y:Int} (h:0≤x∧x<256) (k:0≤y∧y<256):wrap64 (wrap64 (x*256)+y)=x*256+y∧wrap64 (wrap64 (256*x)+y)=x*256+y:=by
 constructor
 · rw[aC (n:=x*256) (by omega),aC (by omega)]
 · rw[aC (n:=256*x) (by omega),aC (by omega)];omega
def ew:cH:=⟨0,0,0,0,0,0,0,0,0,[]⟩
def cV (l:List UInt8):cH:=
 ⟨jG l 0,jG l 1,jG l 2,jG l 3,jG l 4,jG l 5,jG l 6*256+jG l 7,
  if l.length=17 then jG l 8 else 0,if l.length=17 then jG l 9*256+jG l 10 else 0,if l.length=17 then(l.take 15).drop 11 else []⟩
def mN (l:List UInt8):Bool:=(l.length==10||l.length==17)&&pS (cV l)==l
def gW (l:List UInt8):cH:=if mN l then cV l else ew
theorem aOs {m:Int} (hm:0≤m):BitVec.ofInt 64 m=BitVec.ofNat 64 m.toNat:=by
 obtain⟨k,rfl⟩:=Int.eq_ofNat_of_zero_le hm
 exact BitVec.ofInt_natCast ..
theorem aLp {m n:Int} (hm:0≤m∧m<4611686018427387904) (hn:0≤n∧n<4611686018427387904):aA6 m n=((m.toNat ^^^ n.toNat:Nat):Int):=by
 have hlt:m.toNat ^^^ n.toNat<2 ^ 62:=Nat.xor_lt_two_pow (by omega) (by omega)
 show IntKind.i64.wrap ((BitVec.ofInt 64 m ^^^ BitVec.ofInt 64 n).toNat:Int)=_
 rw[aOs hm.1,aOs hn.1,BitVec.toNat_xor,BitVec.toNat_ofNat,BitVec.toNat_ofNat,Nat.mod_eq_of_lt (by omega),Nat.mod_eq_of_lt (by omega),xT]
 exact aC (by omega)
theorem aDi {m n:Int} (hm:0≤m∧m<4611686018427387904) (hn:0≤n∧n<4611686018427387904):0≤aA6 m n:=by
 rw[aLp hm hn];omega
theorem nN {x n:Int} (hx:0≤x) (hn:1≤n):0≤Int.tmod x n∧Int.tmod x n<n:=
 ⟨Int.tmod_nonneg n hx,Int.tmod_lt_of_pos x (by omega)⟩
theorem pJ {x n:Int} (hx:0≤x) (hn:1≤n):0≤Int.tdiv x n∧Int.tdiv x n≤x:=by
 rw[Int.tdiv_eq_ediv_of_nonneg hx]
 exact⟨Int.ediv_nonneg hx (by omega),Int.ediv_le_self n hx⟩
theorem aWq {a b k q:Int} (ha:0≤a∧a<256) (hb:0≤b∧b<256) (hk:0≤k∧k≤1000000) (hq:0≤q∧q≤k):
 0≤wrap64 (wrap64 (wrap64 (wrap64 (a*131)+wrap64 (b*1117))+wrap64 (k*29))+wrap64 (wrap64 q*53))∧wrap64 (wrap64 (wrap64 (wrap64 (a*131)+wrap64 (b*1117))+wrap64 (k*29))+wrap64 (wrap64 q*53))<4611686018427387904:=by
 rw[aC (n:=a*131) (by omega),aC (n:=b*1117) (by omega),aC (n:=k*29) (by omega),aC (n:=q) (by omega),aC (n:=q*53) (by omega),aC (n:=a*131+b*1117) (by omega),aC (n:=a*131+b*1117+k*29) (by omega),aC (by omega)]
 omega
theorem aRe {x:Int} (h:0≤x∧x<4611686018427387904):0≤aA6 x (wrap64 (Int.tdiv x 64)):=by
 have:=pJ (x:=x) (n:=64) h.1 (by omega)
 rw[aC (by omega)]
 exact aDi h ⟨this.1,by omega⟩
end Go.Ab
namespace Go.Ab
open Int renaming toNat_natCast→aWz
open List renaming length_append→aW0,length_nil→aW2,length_cons→aW3,length_take→aW5,getD_eq_getElem?_getD→aW7,getElem?_eq_getElem→aW8,length_drop→aW9,getElem?_eq_some_iff→aXb,range→aXc,mem_map→aXd,all_eq_true→aXe,take_length→aXf
open Nat renaming le_of_ble_eq_true→aW1,zero_le→aW6,le_refl→aXa
open Bool renaming and_eq_true→aW4
open Go Go.RowKit
def bL (l:List UInt8) (p n:Int):Int:=
 if n<1∨l.length=0 then 0
 else if p<l.length then Int.tmod (jG l p.toNat) n
 else Int.tmod (aA6 (wrap64 (wrap64 (wrap64 (wrap64 (jG l (Int.tmod p l.length).toNat*131)+wrap64 (jG l (Int.tmod (wrap64 (wrap64 (p*7)+3)) l.length).toNat*1117))+wrap64 (p*29))+wrap64 (wrap64 (Int.tdiv p l.length)*53)))
  (wrap64 (Int.tdiv (wrap64 (wrap64 (wrap64 (wrap64 (jG l (Int.tmod p l.length).toNat*131)+wrap64 (jG l (Int.tmod (wrap64 (wrap64 (p*7)+3)) l.length).toNat*1117))+wrap64 (p*29))+wrap64 (wrap64 (Int.tdiv p l.length)*53))) 64))) n
theorem cD (l:List UInt8) {p n:Int} (hp:0≤p∧p≤1000000) (hn:1≤n):0≤bL l p n∧bL l p n<n:=by
 unfold bL
 split
 · omega
 · rename_i h
   have hl: ¬l.length=0:=fun e=>h (.inr e)
   split
   · exact nN (kJ _ _).1 hn
   · exact nN (aRe (aWq (kJ _ _) (kJ _ _) hp (pJ hp.1 (by omega)))) hn
set_option linter.unusedVariables false
def u8 (x:Int):UInt8:=UInt8.ofNat (jA x).toNat
theorem aFr (x:Int): ((u8 x).toNat:Int)=jA x:=by
 unfold u8 jA
 rw[UInt8.toNat_ofNat']
 omega
theorem aDj (x:Int): [D.u (jA x)]=[D.u (u8 x).toNat]:=by rw[aFr]
theorem aBs (b:List UInt8) (x:Int):aA b++[[D.u (jA x)]]=aA (b++[u8 x]):=by rw[aDj,← gQ];rfl
theorem aOt {b:List UInt8} {i:Nat} {x:Int} (hi:i<b.length) (hx:x=jA x):
 (aA b).set i (dI ((aA b).getD i []) 0 [D.u x])=aA (b.set i (u8 x)):=by
 rw[jJ hi]
 have e:dI [D.u (b.getD i 0).toNat] 0 [D.u x]=[D.u (u8 x).toNat]:=by rw[← aDj,← hx];rfl
 rw[e,aA,aA,← List.map_set (f:=fun b:UInt8=>[D.u (b.toNat:Int)])]
theorem aFs (x:Int):jA x=jA (jA x):=by unfold jA;omega
theorem weights: ∀d,1≤d→d≤255→ ∀w,1≤w→w≤1000→d*w≠65521∧d*w≠131042∧d*w≠196563:=by
 intro d h1 h2 w h3 h4
 have key: ∀d,d≤255→d≠0→(65521 % d=0→1000<65521 / d)∧(131042 % d=0→1000<131042 / d)∧(196563 % d=0→1000<196563 / d):=by
  decide+kernel
 obtain⟨k1,k2,k3⟩:=key d h2 (by omega)
 · have hd:0<d:=by omega
   refine⟨fun e=> ?_,fun e=> ?_,fun e=> ?_⟩
   · have:=k1 (by rw[← e];exact Nat.mul_mod_right d w)
     rw[← e,Nat.mul_div_cancel_left w hd] at this;omega
   · have:=k2 (by rw[← e];exact Nat.mul_mod_right d w)
     rw[← e,Nat.mul_div_cancel_left w hd] at this;omega
   · have:=k3 (by rw[← e];exact Nat.mul_mod_right d w)
     rw[← e,Nat.mul_div_cancel_left w hd] at this;omega
set_option linter.unusedVariables false
def cZ (l:List Int):List (List D):=l.map fun x=>[.i x]
def aN (l:List Bool):List (List D):=l.map fun x=>[.b x]
def aV (l:List (List UInt8)):List (List D):=l.map fun x=>[.s x]
theorem cK (l:List Int): (cZ l).length=l.length:=by simp[cZ]
theorem cW (l:List Bool): (aN l).length=l.length:=by simp[aN]
theorem aJ (l:List (List UInt8)): (aV l).length=l.length:=by simp[aV]
theorem uH (l:List (List UInt8)): ∀r∈aV l,r.length=1:=by
 intro r hr
 obtain⟨b,_,rfl⟩:=aXd.1 hr
 rfl
theorem gL {l:List Int} {i:Nat} (h:i<l.length): (cZ l).getD i []=[.i (l.getD i 0)]:=by
 rw[aW7,aW7]
 simp[cZ,h]
theorem lJ {l:List Bool} {i:Nat} (h:i<l.length): (aN l).getD i []=[.b (l.getD i false)]:=by
 rw[aW7,aW7]
 simp[aN,h]
theorem fB {l:List (List UInt8)} {i:Nat} (h:i<l.length): (aV l).getD i []=[.s (l.getD i [])]:=by
 rw[aW7,aW7]
 simp[aV,h]
theorem kt {l:List Int} {j:Int} (h0:0≤j) (h:j<l.length): (0≤j∧j< (cZ l).length)∧((cZ l).getD j.toNat []).length=1:=by
 refine⟨⟨h0,by rw[cK];exact h⟩,?_⟩
 rw[gL (by omega)];rfl
theorem ixS {l:List (List UInt8)} {j:Int} (h0:0≤j) (h:j<l.length): (0≤j∧j< (aV l).length)∧((aV l).getD j.toNat []).length=1:=by
 refine⟨⟨h0,by rw[aJ];exact h⟩,?_⟩
 rw[fB (by omega)];rfl
theorem ldS {l:List (List UInt8)} {j:Int} (h0:0≤j) (h:j<l.length):1≤((aV l).getD j.toNat []).length∧((aV l).getD j.toNat []).take 1=kT [.d (.s [])] ((aV l).getD j.toNat []) 0:=by
 rw[fB (by omega)];exact⟨aXa _,rfl⟩
theorem aRf {l:List (List UInt8)} {j:Int} (h0:0≤j) (h:j<l.length):toS (((aV l).getD j.toNat []).getD 0 (.i 0))=l.getD j.toNat []:=by
 rw[fB (by omega)];rfl
theorem aWt {l:List UInt8} {j:Int} {n:Nat} (h0:0≤j) (h:j<l.length) (e:l.length=n): (aA l).length=n∧0≤j∧j<n:=⟨by rw[aS];exact e,h0,by omega⟩
theorem aDk {l:List Int} {j n:Nat} (h:j<l.length) (e:l.length=n): ((cZ l).length=n∧j<n)∧0+1≤((cZ l).getD j []).length∧(((cZ l).getD j []).drop 0).take 1=kT [.d (.i 0)] ((cZ l).getD j []) 0:=by
 rw[gL h,cK];exact⟨⟨e,by omega⟩,aXa _,rfl⟩
theorem oldS {l:List (List UInt8)} {j n:Nat} (h:j<l.length) (e:l.length=n): ((aV l).length=n∧j<n)∧0+1≤((aV l).getD j []).length∧(((aV l).getD j []).drop 0).take 1=kT [.d (.s [])] ((aV l).getD j []) 0:=by
 rw[fB h,aJ];exact⟨⟨e,by omega⟩,aXa _,rfl⟩
theorem aLq {l:List Bool} {i:Nat} {x:Bool} (hi:i<l.length): (aN l).set i (dI ((aN l).getD i []) 0 [D.b x])=aN (l.set i x):=by
 rw[lJ hi]
 show(aN l).set i [D.b x]=_
 rw[aN,aN,← List.map_set (f:=fun b:Bool=>[D.b b])]
theorem oA (l:List Int) (x:Int):cZ l++[[D.i x]]=cZ (l++[x]):=by simp[cZ]
theorem fC (l:List (List UInt8)) (x:List UInt8):aV l++[[D.s x]]=aV (l++[x]):=by simp[aV]
theorem repT (n:Nat):List.replicate n [D.b false]=aN (List.replicate n false):=by simp[aN]
def eX (x:Int):Int:=if iK x 0 65535 then Int.tmod (wrap64 (wrap64 (x*25173)+13849)) 65536 else 0
theorem cu (x:Int):0≤eX x∧eX x<65536:=by
 unfold eX
 split
 · rename_i h
   simp[iK] at h
   rw[aC (n:=x*25173) (by omega),aC (by omega)]
   exact nN (by omega) (by omega)
 · omega
def tR (b n:Int):Bool:=iK b 1 6&&iK n 0 999
theorem yB {b n:Int} (h:tR b n=true): (1≤b∧b≤6)∧0≤n∧n≤999:=by
 simp[tR,iK] at h;omega
def nO (b d:Int):Int:=if d=1 then wrap64 (wrap64 (Int.tdiv 60 b)+10) else wrap64 (Int.tdiv 60 (wrap64 (d*wrap64 (d - 1))))
theorem vJ {b d:Int} (hb:1≤b∧b≤6) (hd:1≤d∧d≤6):0≤nO b d∧nO b d≤70∧(d=1→10≤nO b d):=by
 obtain⟨hb1,hb2⟩:=hb
 obtain⟨hd1,hd2⟩:=hd
 have key: ∀b:Fin 7,∀d:Fin 7,1≤b.val→1≤d.val→0≤nO b.val d.val∧nO b.val d.val≤70∧((d.val:Int)=1→10≤nO b.val d.val):=by decide+kernel
 obtain⟨m,rfl⟩:=Int.eq_ofNat_of_zero_le (show 0≤b by omega)
 obtain⟨n,rfl⟩:=Int.eq_ofNat_of_zero_le (show 0≤d by omega)
 exact key ⟨m,by omega⟩ ⟨n,by omega⟩ (by simp;omega) (by simp;omega)
theorem aIn {b f at_:Int} (hb:1≤b∧b≤6) (hf:0≤f∧f<b) (ha:0≤at_∧at_<b) (hne:at_≠f):
 ((f+b - Int.tmod (wrap64 (at_+1)) b) % b).toNat< ((f+b - at_) % b).toNat∧0≤Int.tmod (wrap64 (at_+1)) b∧Int.tmod (wrap64 (at_+1)) b<b:=by
 rw[aC (by omega)]
 have h:=nN (x:=at_+1) (n:=b) (by omega) hb.1
 refine⟨?_,h⟩
 rw[Int.tmod_eq_emod_of_nonneg (by omega)]
 obtain⟨h1,h2⟩:=hb
 have:b=1∨b=2∨b=3∨b=4∨b=5∨b=6:=by omega
 rcases this with rfl|rfl|rfl|rfl|rfl|rfl<;>omega
theorem aFt {u:List Bool} (h:u.count true<u.length): ∃f,f<u.length∧u.getD f false=false:=by
 induction u with
 |nil=>simp at h
 |cons x u ih=>
  cases x with
  |false=>exact⟨0,by simp,rfl⟩
  |true=>
   simp at h
   obtain⟨f,h1,h2⟩:=ih h
   exact⟨f+1,by simpa using h1,by simpa using h2⟩
theorem aLr {u:List Bool} {i:Nat} (hi:i<u.length) (h:u.getD i false=false): (u.set i true).count true=u.count true+1:=by
 induction u generalizing i with
 |nil=>simp at hi
 |cons x u ih=>
  cases i with
  |zero=>simp at h;subst h;simp
  |succ i=>
   simp at hi
   have:=ih hi (by simpa using h)
   simp only[List.set_cons_succ,List.count_cons,this]
   omega
theorem ir (m n:Int):nk m n=jA (nk m n):=by
 unfold nk
 rw[ju]
 exact aFs _
theorem aLs (b:List UInt8) (m n:Int):aA b++[[D.u (nk m n)]]=aA (b++[u8 (nk m n)]):=by
 rw[ir]
 rw[aBs,← ir]
set_option linter.unusedVariables false
theorem rm {f:cH} (h:eM f=true): (f.kind=1→f.dst=jB f.src f.to)∧(f.kind≠1→f.src=jB f.dst f.to∧f.size=0∧f.mix=0∧f.data=[]):=by
 simp only[eM,aW4] at h
 obtain⟨_,h7⟩:=h
 split at h7
 · rename_i hk
   simp only[aW4,decide_eq_true_eq] at h7
   exact⟨fun _=>h7.2,fun h=>absurd hk h⟩
 · rename_i hk
   split at h7
   · simp only[aW4,decide_eq_true_eq] at h7
     exact⟨fun h=>absurd h hk,fun _=>⟨h7.2,h7.1.1.1,h7.1.1.2,h7.1.2⟩⟩
   · cases h7
theorem gd {a b n:Int} (h:n=jB a b) (hn:0≤n):a - n=1∨n - a=1:=by
 unfold jB at h
 split at h
 · omega
 · split at h<;>omega
theorem aLt {f:cH} (h:eM f=true) (hk:f.kind=1):jB f.src f.to=f.dst∧(f.src - f.dst=1∨f.dst - f.src=1):=by
 obtain⟨k1,k2,_⟩:=lX h
 have:=(rm h).1 hk
 exact⟨this.symm,gd this (by omega)⟩
theorem aLu {f:cH} (h:eM f=true) (hk:f.kind≠1):jB f.dst f.to=f.src∧(f.src - f.dst=1∨f.dst - f.src=1):=by
 obtain⟨k1,k2,_⟩:=lX h
 have:=((rm h).2 hk).1
 exact⟨this.symm,(gd this (by omega)).symm⟩
set_option linter.unusedVariables false
set_option linter.unusedSimpArgs false
def eqD:D→D→Bool
 | .i m,.i n=>m==n
 | .b m,.b n=>m==n
 | .s l,.s r=>l==r
 |_,_=>false
def bu:List D→List D→Bool
 |x::xs,y::ys=>eqD x y&&bu xs ys
 |_,_=>true
def aBt:TK→D→D→Bool
 | .int _,.i _,.i _=>true
 | .bool,.b _,.b _=>true
 | .str,.s _,.s _=>true
 |_,_,_=>false
def ku (T:hD):List Field→Nat→List D→List D→Bool
 | [],_,[],[]=>true
 |f::fs,k,x::xs,y::ys=>(f.name != "_")&&Nat.beq f.offset k&&(match T f.type with|some ti=>aBt ti.kind x y|none=>false)&&ku T fs (k+1) xs ys
 |_,_,_,_=>false
theorem aKe {P:Program} {T:hD} (hT:dR P T) {w:World} {S:Nat→Prop} {va vb:Array Value} (d:Nat): ∀(fs:List Field) (k:Nat) (xs ys:List D),ku T fs k xs ys=true→(∀(j:Nat) x,xs[j]? =some x→ ∃v,va[k+j]? =some v∧DR w S x v)→(∀(j:Nat) x,ys[j]? =some x→ ∃v,vb[k+j]? =some v∧DR w S x v)→
 (Op.eqFields (d+1) va vb fs).run P w= .ok (bu xs ys) w
 | [],k,xs,ys,h,_,_=>by
  cases xs<;>cases ys<;>first|rfl|(simp[ku] at h)
 |f::fs,k,[],ys,h,_,_=>by simp[ku] at h
 |f::fs,k,x::xs,[],h,_,_=>by simp[ku] at h
 |f::fs,k,x::xs,y::ys,h,hx,hy=>by
  simp only[ku,aW4] at h
  obtain⟨⟨⟨h1,h2⟩,h3⟩,h4⟩:=h
  have h2:=Nat.eq_of_beq_eq_true h2
  split at h3<;>try(cases h3;done)
  rename_i ti hti
  have ok:=hT _ _ hti
  obtain⟨u,hu,hxu⟩:=hx 0 x rfl
  obtain⟨v,hv,hyv⟩:=hy 0 y rfl
  have ih:=aKe hT d fs (k+1) xs ys h4 (fun j z hj=>by rw[Nat.add_assoc,Nat.add_comm 1 j];exact hx (j+1) z hj) (fun j z hj=>by rw[Nat.add_assoc,Nat.add_comm 1 j];exact hy (j+1) z hj)
  have hag:ti.kind.agg=false:=by
   cases hk:ti.kind<;>rw[hk] at h3<;>first|rfl|(simp[aBt] at h3)
  have pu: (Go.part f.type va f.offset).run P w= .ok u w:=by
   rw[h2];simp only[Go.part,Sem.run_bind,rS ok,hag,Result.andThen_ok]
   simp only[Nat.add_zero] at hu
   simp[hu]
  have pv: (Go.part f.type vb f.offset).run P w= .ok v w:=by
   rw[h2];simp only[Go.part,Sem.run_bind,rS ok,hag,Result.andThen_ok]
   simp only[Nat.add_zero] at hv
   simp[hv]
  have heq: (Op.equalIn (d+1) f.type u v).run P w= .ok (eqD x y) w:=by
   have hkd:=ok.kind
   cases hk:ti.kind with
   |int k'=>
    rw[hk] at h3 hkd
    cases x<;>cases y<;>simp[aBt] at h3
    cases hxu;cases hyv
    exact run_equalIn_int w d f.type .i64 k' _ _ hkd
   |bool=>
    rw[hk] at h3 hkd
    cases x<;>cases y<;>simp[aBt] at h3
    cases hxu;cases hyv
    exact run_equalIn_bool w d f.type _ _ hkd
   |str=>
    rw[hk] at h3 hkd
    cases x<;>cases y<;>simp[aBt] at h3
    rename_i l r
    cases hxu;cases hyv
    rw[run_equalIn_string w d f.type _ _ hkd]
    simp[eqD,ByteArray.toList_eq]
   |_=>rw[hk] at h3;simp[aBt] at h3
  simp only[Op.eqFields,if_pos (by simpa using h1),Sem.run_bind,pu,pv,heq,Result.andThen_ok]
  cases hxy:eqD x y
  · simp[bu,hxy]
  · simp[bu,hxy,ih]
theorem aKf {P:Program} {T:hD} (hT:dR P T) {o:Oper} {op:BinOp} {t u:TypeId} {x y:Operand} {d:Nat} {σ0:St} {xs ys:List D} {Rx Ry:List (dH×Option K)} (ho:o.op= .binOp op t x y u) (hd:o.dst=some d) (hop: (match op with| .eql=>true| .neq=>true|_=>false)=true)
 (ht:P.underlying t=some (.struct (P.fieldsOf t))) (hp:P.stoodInHeld t=false) (hm:P.eqGuardType P.depth t=false) (hf:ku T (P.fieldsOf t).toList 0 xs ys=true)
 (hx:ev σ0 x=some (.e (.agg (xs.map .d)),Rx)) (hy:ev σ0 y=some (.e (.agg (ys.map .d)),Ry)):
 xS P o (Rx++Ry) [(.t d,.v (B (match op with| .neq=> !bu xs ys|_=>bu xs ys)))]:=by
 refine nY hd fun cx σ ι S a w hr hw=> ?_
 obtain⟨va,ea,la,ha⟩:=(show ER σ ι w S (.agg (xs.map .d)) _ from dL hx hr.left hw)
 obtain⟨vb,eb,lb,hb⟩:=(show ER σ ι w S (.agg (ys.map .d)) _ from dL hy hr.right hw)
 have hA: ∀(j:Nat) z,xs[j]? =some z→ ∃v,va.toArray[0+j]? =some v∧DR w S z v:=fun j z hj=>by
  have hj': (xs.map C.d)[j]? =some (.d z):=by simp[hj]
  have hlt:j<va.length:=by rw[la];exact(aXb.1 hj').1
  refine⟨va[j],by simp[hlt],ha j _ _ hj' (by simp[hlt])⟩
 have hB: ∀(j:Nat) z,ys[j]? =some z→ ∃v,vb.toArray[0+j]? =some v∧DR w S z v:=fun j z hj=>by
  have hj': (ys.map C.d)[j]? =some (.d z):=by simp[hj]
  have hlt:j<vb.length:=by rw[lb];exact(aXb.1 hj').1
  refine⟨vb[j],by simp[hlt],hb j _ _ hj' (by simp[hlt])⟩
 have key:=aKe hT 9998 (P.fieldsOf t).toList 0 xs ys hf hA hB
 have key2: (Op.equalIn 10000 t (.agg va.toArray) (.agg vb.toArray)).run P w= .ok (bu xs ys) w:=by
  rw[show(10000:Nat)=9999+1 from rfl,run_equalIn_struct w 9999 t _ _ ht hp];exact key
 cases op<;>simp at hop
 · refine⟨.bool (bu xs ys),?_,.b _⟩
   unfold execOp
   simp only[ho,Act.eval] at*
   simp only[ea,eb]
   rw[Sem.run_bind,Sem.run_bind,run_eqGuard_agg w .eql t x y _ _ hm,Result.andThen_ok,run_eql_struct,key2]
   rfl
 · refine⟨.bool (!bu xs ys),?_,.b _⟩
   unfold execOp
   simp only[ho,Act.eval] at*
   simp only[ea,eb]
   rw[Sem.run_bind,Sem.run_bind,run_eqGuard_agg w .neq t x y _ _ hm,Result.andThen_ok,run_neq_struct,key2]
   rfl
theorem aIo {P:Program} {T:hD} (hT:dR P T) {o:Oper} {op:BinOp} {t u:TypeId} {x y:Operand} {d:Nat} {σ:St} (xs ys:List D) {Rx Ry:List (dH×Option K)} {k:List (dH×Option K)→List (dH×K)→Prop} (ho:o.op= .binOp op t x y u) (hd:o.dst=some d) (hop: (match op with| .eql=>true| .neq=>true|_=>false)=true)
 (ht:P.underlying t=some (.struct (P.fieldsOf t))) (hp:P.stoodInHeld t=false) (hm:P.eqGuardType P.depth t=false) (hf:ku T (P.fieldsOf t).toList 0 xs ys=true)
 (hx:ev σ x=some (.e (.agg (xs.map .d)),Rx)) (hy:ev σ y=some (.e (.agg (ys.map .d)),Ry)) (h:k (Rx++Ry) [(.t d,.v (B (match op with| .neq=> !bu xs ys|_=>bu xs ys)))]): ∃R W,xS P o R W∧bQ R σ∧k R W:=
 ⟨_,_,aKf hT ho hd hop ht hp hm hf hx hy,(fun p hp=>by
  rcases List.mem_append.1 hp with hp|hp
  · exact dB hx p hp
  · exact dB hy p hp),h⟩
theorem aKg {P:Program} {T:hD} (hT:dR P T) {o:Oper} {op:BinOp} {t u:TypeId} {x y:Operand} {d:Nat} {σ σ1:St} {g:Bool} (xs ys:List D) {Rx Ry:List (dH×Option K)} {k:List (dH×Option K)→V→Prop} (ho:o.op= .binOp op t x y u) (hd:o.dst=some d) (hop: (match op with| .eql=>true| .neq=>true|_=>false)=true)
 (ht:P.underlying t=some (.struct (P.fieldsOf t))) (hp:P.stoodInHeld t=false) (hm:P.eqGuardType P.depth t=false) (hf:ku T (P.fieldsOf t).toList 0 xs ys=true)
 (hx:ev σ1 x=some (.e (.agg (xs.map .d)),Rx)) (hy:ev σ1 y=some (.e (.agg (ys.map .d)),Ry)) (hr:g=true→oO σ (Rx++Ry)) (h:k (Rx++Ry) (B (match op with| .neq=> !bu xs ys|_=>bu xs ys))):
 ∃R X,(g=true→xS P o R [(.t d,.v X)]∧bQ R σ1)∧(g=true→oO σ R)∧k R X:=
 ⟨_,_,fun _=>⟨aKf hT ho hd hop ht hp hm hf hx hy,(fun p hp=>by
  rcases List.mem_append.1 hp with hp|hp
  · exact dB hx p hp
  · exact dB hy p hp)⟩,hr,h⟩
set_option linter.unusedVariables false
set_option linter.unusedSimpArgs false
theorem Spec.freeze {P:Program} {f:FuncId} {n m:Nat} {σin:St} {e:TypeId} {es:Nat} {rows:List (List D)} (h:Spec P f n σin [(.t 0,.v (.e (.c (.own 0 m)))),(.o 0,.row e es rows)]) (hm:rows.length=m) (h0:cA σin=[]):Spec P f n σin [(.t 0,.v (Dv (.sl rows)))]:=by
 have hno: ∀o k,aQ σin (.o o)=some k→False:=fun o k hk=>by have:=fK hk;rw[h0] at this;cases this
 refine⟨h.1,fun ι ν S w args hg h1 h2 h3=>nM (fun ex w'=> ?_) (h.2 ι ν S w args hg h1 h2 h3)⟩
 rintro⟨v,ι',S',rfl,hp⟩
 have hrow:=hp.vr.objs 0 (.row e es rows) rfl
 have hv:v=ι' 0:=by
  obtain⟨_,h2⟩:=(show CR _ ι' w' S' (.own 0 m) v from hp.vr.slots 0 _ rfl)
  rcases h2 with⟨e2,es2,rows2,hl,_,hv⟩|hd
  · cases hl;exact hv hm
  · cases hd
 have hmut: ∀b,vA (ι' 0) b→lB [(dH.t 0,K.v (.e (.c (.own 0 m)))),(.o 0,.row e es rows)] ι' 0 b:=fun b hb=>⟨⟨_,rfl,trivial⟩,hb⟩
 refine⟨v,ι',fun b=>S' b∨vA (ι' 0) b,rfl,hp.fr,⟨fun s k hk=> ?_,fun o k hk=> ?_,fun o b hm2=> ?_,fun o o' b hm2=> ?_,fun b hb=> ?_⟩,fun b hb=> ?_,fun o b hm2=> ?_,fun o k k' hk hk'=> ?_⟩
 · simp only[aQ] at hk
   split at hk
   · rename_i e3;cases e3;cases hk
     show DR w' _ (.sl rows) v
     rw[hv];exact nw hrow (fun b h=> .inl h) (fun b h=> .inr h)
   · cases hk
 · simp[aQ] at hk
 · obtain⟨⟨k,hk,_⟩,_⟩:=hm2;simp[aQ] at hk
 · obtain⟨⟨k,hk,_⟩,_⟩:=hm2;simp[aQ] at hk
 · rcases hb with hb|hb
   · exact hp.vr.sz b hb
   · exact OR.lt hrow trivial hb
 · rcases hb with hb|hb
   · exact hp.rd b hb
   · exact .inr (hp.own 0 b (hmut b hb))
 · obtain⟨⟨k,hk,_⟩,_⟩:=hm2;simp[aQ] at hk
 · exact(hno o k hk).elim
def goF (P:Program) (T:hD) (io:List Nat) (ops:List Oper):List Oper→St→(St→Prop)→Prop
 | [],σ,k=>k σ
 |o::os,σ,k=>match o.guard with
  |none=>aBm P T io o σ fun σ'=>goF P T io ops os σ' k
  |some (j,want)=>match(ops[j]?).bind (·.dst),o.dst with
   |some s,some d=>match gOf want (aQ σ (.t s)) with
    |some g=>(g=true→aBm P T io o σ fun σ'=>goF P T io ops os σ' k)∧(g=false→ ∃X,sr σ (.t d) (.cv s want false X) fun σ'=>goF P T io ops os σ' k)
    |none=>False
   |_,_=>False
theorem oh {P:Program} {T:hD} (hT:dR P T) {io:List Nat} {ops:Array Oper} {cx:Cx P} (hio: ∀o k,cx.kio o=some k→o∈io) {Q:Exit→Act→World→Prop} {k:St→Prop} (hk: ∀σ ι S a w,k σ→RW cx σ ι S a w→Q .normal a w): ∀(l:List Oper) (σ:St) (ι:Nat→Value) (S:Nat→Prop) (a:Act) (w:World),goF P T io ops.toList l σ k→RW cx σ ι S a w→(∀o∈l,∀d,o.dst=some d→d<cx.N)→wpList P ops Q l a w
 | [],σ,ι,S,a,w,h,hw,hf=>hk σ ι S a w h hw
 |o::os,σ,ι,S,a,w,h,hw,hf=>by
  have hfo:=hf o (List.mem_cons_self ..)
  have hfs: ∀o∈os,∀d,o.dst=some d→d<cx.N:=fun o ho=>hf o (List.mem_cons_of_mem _ ho)
  have run: (aBm P T io o σ fun σ'=>goF P T io ops.toList os σ' k)→o.wp P a w (fun a w=>wpList P ops Q os a w) Q:=fun h=>by
   obtain⟨σ1,hwk,R,Ws,h1,h2,h3⟩:=rh hT h
   obtain⟨ι1,S1,hw1⟩:=hwk _ cx ι S a w hio hw
   refine h1 cx σ1 ι1 S1 a w h2 hw1 hfo _ Q fun W hW ι' S' a' w' hw'=> ?_
   have h3:=h3 W hW
   rw[kZ] at h3
   exact oh hT hio hk os _ ι' S' a' w' h3 hw' hfs
  unfold wpList
  simp only[goF] at h
  split at h
  · rename_i hg
    rw[if_pos (by simp[Region.wanted,hg])]
    exact .inl (run h)
  · rename_i j want hg
    split at h<;>try(exact h.elim)
    rename_i s d hs hd
    split at h<;>try(exact h.elim)
    rename_i g hl
    have hs': (ops[j]?).bind (·.dst)=some s:=by simpa using hs
    cases g with
    |true=>
     rw[um hw hg hs' hl,if_pos rfl]
     exact .inl (run (h.1 rfl))
    |false=>
     obtain⟨X,h2⟩:=h.2 rfl
     rw[oU] at h2
     exact aDa (R:=[]) (X:=X) hg hs' hd hl (by simp) (by simp) cx σ ι S a w zD hw hfo _ Q fun ι' S' a' w' hw'=>oh hT hio hk os _ ι' S' a' w' (by simpa[iO] using h2) hw' hfs
theorem SW.regF {P:Program} {io:List Nat} {Q:Ex→St→Prop} {σ:St} {T:hD} (hT:dR P T) (ks:List Nat) {id:Nat} {ops:Array Oper} (h:goF P T io ops.toList ops.toList σ fun σ'=>rR ks σ' (Q .norm)):SW P io (.region id ops false) Q σ:=by
 intro cx ι S a w hio hw hf
 have hfit: ∀o∈ops.toList,∀d,o.dst=some d→d<cx.N:=fun o ho=>yT (by simpa[tQ] using hf) ho
 refine wp_region_list (oh hT hio (fun σ' ι' S' a' w' h4 hw'=> ?_) ops.toList σ ι S a w h hw hfit)
 rw[nB] at h4
 exact⟨_,ι',S',h4,hw'.keep ks⟩
set_option linter.unusedVariables false
theorem aOu {R:List (List D)} {i:Nat} {r:List D} (hi:i<R.length) (h:R.getD i []=r):R.set i r=R:=by
 rw[← h,aW7,aW8 hi]
 simp
set_option linter.unusedVariables false
structure bA where
 frm:Int
 num:Int
 to:Int
 til:Int
 text:List UInt8
 deriving DecidableEq
structure cB where
 frm:Int
 num:Int
 til:Int
 deriving DecidableEq
def bA.row (n:bA):List D:=[.i n.frm,.i n.num,.i n.to,.i n.til,.s n.text]
def cB.row (n:cB):List D:=[.i n.frm,.i n.num,.i n.til]
abbrev bA.V (n:bA):V:= .e (.agg [.d (.i n.frm),.d (.i n.num),.d (.i n.to),.d (.i n.til),.d (.s n.text)])
abbrev cB.V (n:cB):V:= .e (.agg [.d (.i n.frm),.d (.i n.num),.d (.i n.til)])
def bA.zero:bA:=⟨0,0,0,0,[]⟩
def cB.zero:cB:=⟨0,0,0⟩
def aE (l:List bA):List (List D):=l.map bA.row
def aO (l:List cB):List (List D):=l.map cB.row
theorem aB (l:List bA): (aE l).length=l.length:=by simp[aE]
theorem aF (l:List cB): (aO l).length=l.length:=by simp[aO]
theorem eU (l:List bA): ∀r∈aE l,r.length=5:=by
 intro r hr
 obtain⟨b,_,rfl⟩:=aXd.1 hr
 rfl
theorem iL (l:List cB): ∀r∈aO l,r.length=3:=by
 intro r hr
 obtain⟨b,_,rfl⟩:=aXd.1 hr
 rfl
theorem aR {l:List bA} {i:Nat} (h:i<l.length): (aE l).getD i []=(l.getD i .zero).row:=by
 rw[aW7,aW7]
 simp[aE,h]
theorem bW {l:List cB} {i:Nat} (h:i<l.length): (aO l).getD i []=(l.getD i .zero).row:=by
 rw[aW7,aW7]
 simp[aO,h]
def vK (s:List UInt8) (i:Nat):Bool:=iK (jG s i) 32 126
def zG (s:List UInt8):Bool:=(aXc s.length).all (vK s)&&iK s.length 1 24
def eP (n:bA):Bool:=eN n.frm&&eN n.to&&iK n.num 1 99&&iK n.til 1 999&&zG n.text
def lK (m:cB):Bool:=eN m.frm&&iK m.num 1 99&&iK m.til 1 999
def cF (a b c d:Int):Bool:=decide (a<c)||a==c&&decide (b<d)
def lP (l:List bA) (i:Nat):Bool:=eP (l.getD i .zero)&&(i==0||cF (l.getD (i - 1) .zero).frm (l.getD (i - 1) .zero).num (l.getD i .zero).frm (l.getD i .zero).num)
def kB (l:List bA):Bool:=(aXc l.length).all (lP l)
def mO (l:List cB) (i:Nat):Bool:=lK (l.getD i .zero)&&(i==0||cF (l.getD (i - 1) .zero).frm (l.getD (i - 1) .zero).num (l.getD i .zero).frm (l.getD i .zero).num)
def oC (l:List cB):Bool:=(aXc l.length).all (mO l)
theorem iP {p:Nat→Bool} {n:Nat} (h: ∀k,k<n→p k=true): (aXc n).all p=true:=by
 rw[aXe];intro k hk;exact h k (List.mem_range.1 hk)
theorem fU {p:Nat→Bool} {n k:Nat} (hk:k<n) (h:p k=false): (aXc n).all p=false:=by
 rw[List.all_eq_false];exact⟨k,List.mem_range.2 hk,by simp[h]⟩
def lE (p:Nat→Bool):Nat→Nat→Int
 |_,0=> -1
 |i,n+1=>if p i then i else lE p (i+1) n
theorem lV {p:Nat→Bool}: ∀{n i k:Nat},i≤k→k<i+n→(∀j,i≤j→j<k→p j=false)→p k=true→lE p i n=k
 |0,i,k,h1,h2,_,_=>by omega
 |n+1,i,k,h1,h2,h,hp=>by
  unfold lE
  by_cases e:i=k
  · subst e;rw[if_pos hp]
  · rw[if_neg (by rw[h i (aXa _) (by omega)];simp),lV (n:=n) (i:=i+1) (k:=k) (by omega) (by omega) (fun j h3 h4=>h j (by omega) h4) hp]
theorem lY {p:Nat→Bool}: ∀{n i:Nat},(∀j,i≤j→j<i+n→p j=false)→lE p i n= -1
 |0,i,_=>rfl
 |n+1,i,h=>by
  unfold lE
  rw[if_neg (by rw[h i (aXa _) (by omega)];simp),lY (n:=n) (i:=i+1) fun j h3 h4=>h j (by omega) (by omega)]
theorem hG (p:Nat→Bool): ∀(n i:Nat),lE p i n= -1∨ ∃k:Nat,lE p i n=k∧i≤k∧k<i+n∧p k=true∧ ∀j,i≤j→j<k→p j=false
 |0,i=> .inl rfl
 |n+1,i=>by
  unfold lE
  by_cases h:p i=true
  · rw[if_pos h];exact .inr ⟨i,rfl,aXa _,by omega,h,fun j h1 h2=>by omega⟩
  · rw[if_neg h]
    rcases hG p n (i+1) with h1|⟨k,h1,h2,h3,h4,h5⟩
    · exact .inl h1
    · refine .inr ⟨k,h1,by omega,by omega,h4,fun j h6 h7=> ?_⟩
      by_cases e:j=i
      · subst e;simpa using h
      · exact h5 j (by omega) h7
def oQ (l:List bA) (f n:Int) (i:Nat):Bool:=(l.getD i .zero).frm==f&&(l.getD i .zero).num==n
def sA (l:List cB) (f n:Int) (i:Nat):Bool:=(l.getD i .zero).frm==f&&(l.getD i .zero).num==n
def aW (l:List bA) (f n:Int):Int:=lE (oQ l f n) 0 l.length
def gR (l:List cB) (f n:Int):Int:=lE (sA l f n) 0 l.length
def cw (id:Int) (n:bA):Bool:=id != n.to&&(iK id n.frm n.to||iK id n.to n.frm)
structure bB where
 id:Int
 time:Int
 next:Int
 held:List bA
 marks:List cB
 inbox:List bA
 deriving DecidableEq
def tS (k:bB) (i:Nat):Bool:=
 let n:=k.held.getD i .zero
 !(n.frm==k.id&&decide (k.next≤n.num))&&decide (k.time<n.til)&&cw k.id n&&decide (gR k.marks n.frm n.num<0)
def xG (k:bB) (i:Nat):Bool:=
 let m:=k.marks.getD i .zero
 !(m.frm==k.id&&decide (k.next≤m.num))&&decide (k.time<m.til)
def sQ (k:bB) (i:Nat):Bool:=
 let n:=k.inbox.getD i .zero
 !(n.frm==k.id&&decide (k.next≤n.num))&&n.to==k.id&& !(decide (k.time<n.til)&&decide (gR k.marks n.frm n.num<0))
def dJ (k:bB):Bool:=
 eN k.id&&iK k.time 0 999&&iK k.next 1 100&&decide (k.held.length≤6)&&decide (k.marks.length≤12)&&decide (k.inbox.length≤6)&&
 kB k.held&&oC k.marks&&kB k.inbox&&(aXc k.held.length).all (tS k)&&(aXc k.marks.length).all (xG k)&&(aXc k.inbox.length).all (sQ k)
set_option linter.unusedVariables false
def aIp:Nat→Nat→List UInt8
 |0,n=>[UInt8.ofNat (48+n % 10)]
 |f+1,n=>if n<10 then [UInt8.ofNat (48+n)] else aIp f (n / 10)++[UInt8.ofNat (48+n % 10)]
def jZ (n:Nat):List UInt8:=aIp n n
theorem aFu: ∀{f g n:Nat},n≤f→n≤g→aIp f n=aIp g n
 |0,0,n,_,_=>rfl
 |0,g+1,n,h,_=>by
  obtain rfl:n=0:=by omega
  rfl
 |f+1,0,n,_,h=>by
  obtain rfl:n=0:=by omega
  rfl
 |f+1,g+1,n,h1,h2=>by
  unfold aIp
  split
  · rfl
  · rw[aFu (f:=f) (g:=g) (n:=n / 10) (by omega) (by omega)]
theorem nC {n:Nat} (h:n<10):jZ n=[UInt8.ofNat (48+n)]:=by
 unfold jZ
 cases n with
 |zero=>rfl
 |succ k=>unfold aIp;rw[if_pos h]
theorem uI {n:Nat} (h:10≤n):jZ n=jZ (n / 10)++[UInt8.ofNat (48+n % 10)]:=by
 unfold jZ
 cases n with
 |zero=>omega
 |succ k=>
  conv=>lhs;unfold aIp
  rw[if_neg (by omega),aFu (f:=k) (g:=(k+1) / 10) (by omega) (aXa _)]
def gN (b:UInt8):Bool:=decide (48≤b.toNat)&&decide (b.toNat≤57)
def pK:List UInt8→Nat:=fun l=>l.foldl (fun n b=>n*10+(b.toNat - 48)) 0
theorem ey (l:List UInt8) (b:UInt8):pK (l++[b])=pK l*10+(b.toNat - 48):=by simp[pK]
theorem tE {d:Nat} (h:d<10): (UInt8.ofNat (48+d)).toNat=48+d:=by
 rw[UInt8.toNat_ofNat'];omega
theorem vj {d:Nat} (h:d<10):gN (UInt8.ofNat (48+d))=true:=by
 unfold gN
 rw[tE h,aW4,decide_eq_true_eq,decide_eq_true_eq];omega
theorem kv (n:Nat):pK (jZ n)=n:=by
 induction n using Nat.strongRecOn with
 |_ n ih=>
  by_cases h:n<10
  · rw[nC h]
    show 0*10+((UInt8.ofNat (48+n)).toNat - 48)=n
    rw[tE h];omega
  · rw[uI (by omega),ey,ih (n / 10) (by omega),tE (by omega)]
    omega
theorem zH (n:Nat): ∀b∈jZ n,gN b=true:=by
 induction n using Nat.strongRecOn with
 |_ n ih=>
  intro b hb
  by_cases h:n<10
  · rw[nC h] at hb
    rw[List.mem_singleton] at hb;subst hb
    exact vj h
  · rw[uI (by omega)] at hb
    rcases List.mem_append.1 hb with hb|hb
    · exact ih (n / 10) (by omega) b hb
    · rw[List.mem_singleton] at hb;subst hb
      exact vj (Nat.mod_lt _ (by decide))
theorem aDl (n:Nat):jZ n≠[]:=by
 by_cases h:n<10
 · rw[nC h];simp
 · rw[uI (by omega)];simp
theorem aOv (n:Nat): (jZ n).getD 0 0=48→n=0:=by
 induction n using Nat.strongRecOn with
 |_ n ih=>
  intro hb
  by_cases h:n<10
  · rw[nC h] at hb
    have h1:=congrArg UInt8.toNat hb
    simp only[List.getD_cons_zero] at h1
    rw[tE h] at h1
    have: (48:UInt8).toNat=48:=rfl
    omega
  · rw[uI (by omega),aW7,List.getElem?_append_left (List.length_pos_iff.2 (aDl _)),← aW7] at hb
    have:=ih (n / 10) (by omega) hb
    omega
theorem aFv: ∀(n:Nat) (l:List UInt8),l.length=n→l≠[]→(∀b∈l,gN b=true)→(l.getD 0 0=48→l.length=1)→jZ (pK l)=l
 |0,l,hn,h,_,_=>absurd (List.eq_nil_of_length_eq_zero hn) h
 |n+1,l0,hn,hne,hd,hz=>by
  obtain⟨l,b,rfl⟩: ∃l b,l0=l++[b]:=by
   rcases List.eq_nil_or_concat l0 with h|⟨L,b,h⟩
   · exact absurd h hne
   · exact⟨L,b,by rw[h,List.concat_eq_append]⟩
  have hb:=hd b (by simp)
  simp only[gN,aW4,decide_eq_true_eq] at hb
  have hbb:UInt8.ofNat (48+(b.toNat - 48))=b:=by
   apply UInt8.toNat_inj.1
   rw[UInt8.toNat_ofNat'];omega
  by_cases hl:l=[]
  · subst hl
    show jZ (0*10+(b.toNat - 48))=[b]
    rw[Nat.zero_mul,Nat.zero_add,nC (by omega),hbb]
  · have hlen:0<l.length:=List.length_pos_iff.2 hl
    have hh: (l++[b]).getD 0 0=l.getD 0 0:=by
     rw[aW7,aW7,List.getElem?_append_left hlen]
    have hz2:l.getD 0 0≠48:=fun e=>by
     have:=hz (hh.trans e)
     rw[aW0] at this
     have h9:l.length+1=1:=this
     omega
    have ih2:=aFv n l (by simpa using hn) hl (fun x hx=>hd x (List.mem_append_left _ hx)) (fun e=>absurd e hz2)
    have hv:1≤pK l:=by
     by_cases h0:pK l=0
     · rw[h0] at ih2
       rw[← ih2] at hz2
       exact absurd rfl hz2
     · omega
    rw[ey,uI (by omega),show(pK l*10+(b.toNat - 48)) / 10=pK l by omega,show(pK l*10+(b.toNat - 48)) % 10=b.toNat - 48 by omega,ih2,hbb]
set_option linter.unusedVariables false
def cy (s:List UInt8):Bool:=s.all gN
def jN (s:List UInt8):Option Nat:=if(1≤s.length∧s.length≤5)∧ ¬(s.getD 0 0=48∧1<s.length)∧cy s=true then some (pK s) else none
def gS (s:List UInt8):Int:=if(1≤s.length∧s.length≤4)∧cy s=true∧jZ (pK s)=s then pK s else -1
theorem wG {s:List UInt8} (h1:1≤s.length) (hd:cy s=true):jZ (pK s)=s↔ ¬(s.getD 0 0=48∧1<s.length):=by
 have hne:s≠[]:=fun e=>by subst e;simp at h1
 have hd': ∀b∈s,gN b=true:=aXe.1 hd
 constructor
 · rintro e ⟨h2,h3⟩
   have h4:pK s=0:=aOv (pK s) (by rw[e];exact h2)
   rw[h4] at e
   have:s.length=1:=by rw[← e];rfl
   omega
 · intro h
   exact aFv s.length s rfl hne hd' fun h2=>by
    by_cases h3:1<s.length
    · exact absurd ⟨h2,h3⟩ h
    · omega
theorem yC {s:List UInt8} (h:s.length≤4):gS s=match jN s with|some n=>(n:Int)|none=> -1:=by
 unfold gS jN
 by_cases h1:1≤s.length
 · by_cases hd:cy s=true
   · by_cases hw: ¬(s.getD 0 0=48∧1<s.length)
     · rw[if_pos ⟨⟨h1,h⟩,hd,(wG h1 hd).2 hw⟩,if_pos ⟨⟨h1,by omega⟩,hw,hd⟩]
     · rw[if_neg (fun e=>hw ((wG h1 hd).1 e.2.2)),if_neg (fun e=>hw e.2.1)]
   · rw[if_neg (fun e=>hd e.2.1),if_neg (fun e=>hd e.2.2)]
 · rw[if_neg (fun e=>h1 e.1.1),if_neg (fun e=>h1 e.1.1)]
theorem tk: ∀(n:Nat) (s:List UInt8),s.length=n→(∀b∈s,gN b=true)→pK s<10 ^ n
 |0,s,hn,_=>by rw[List.eq_nil_of_length_eq_zero hn];decide
 |n+1,s0,hn,hd=>by
  obtain⟨s,b,rfl⟩: ∃l b,s0=l++[b]:=by
   rcases List.eq_nil_or_concat s0 with h|⟨L,b,h⟩
   · rw[h] at hn;simp at hn
   · exact⟨L,b,by rw[h,List.concat_eq_append]⟩
  have hb:=hd b (by simp)
  simp only[gN,aW4,decide_eq_true_eq] at hb
  have ih:=tk n s (by simpa using hn) fun x hx=>hd x (List.mem_append_left _ hx)
  rw[ey,Nat.pow_succ]
  omega
theorem aLv {s:List UInt8} {i:Nat} (h:i<s.length):pK (s.take (i+1))=pK (s.take i)*10+((s.getD i 0).toNat - 48):=by
 rw[List.take_add_one,aW8 h]
 rw[show s[i]=s.getD i 0 by rw[aW7,aW8 h];rfl]
 exact ey _ _
set_option linter.unusedVariables false
def cz (s:List UInt8):Nat→Nat→Option Nat
 |0,_=>none
 |f+1,i=>if i<s.length then(if s.getD i 0=58 then some i else cz s f (i+1)) else none
def uJ (s:List UInt8):Option Nat:=cz s 3 0
def iC (s:List UInt8):Option (List UInt8×Nat):=
 match uJ s with
 |none=>none
 |some i=>match jN (s.take i) with
  |none=>none
  |some n=>if 1≤n∧n≤60∧i+2+n≤s.length∧s.getD (i+1+n) 0=59 then some ((s.take (i+1+n)).drop (i+1),i+2+n) else none
theorem wH {s:List UInt8}: ∀{f i k:Nat},cz s f i=some k→i≤k∧k<i+f∧k<s.length∧s.getD k 0=58∧ ∀j,i≤j→j<k→s.getD j 0≠58
 |0,i,k,h=>by cases h
 |f+1,i,k,h=>by
  unfold cz at h
  split at h
  · rename_i h1
    split at h
    · rename_i h2
      cases h
      exact⟨aXa _,by omega,h1,h2,fun j h3 h4=>by omega⟩
    · rename_i h2
      obtain⟨q1,q2,q3,q4,q5⟩:=wH h
      refine⟨by omega,by omega,q3,q4,fun j h3 h4=> ?_⟩
      by_cases e:j=i
      · subst e;exact h2
      · exact q5 j (by omega) h4
  · cases h
theorem ez {s:List UInt8}: ∀{f i k:Nat},i≤k→k<i+f→k<s.length→s.getD k 0=58→(∀j,i≤j→j<k→s.getD j 0≠58)→cz s f i=some k
 |0,i,k,h1,h2,_,_,_=>by omega
 |f+1,i,k,h1,h2,h3,h4,h5=>by
  unfold cz
  rw[if_pos (by omega)]
  by_cases e:i=k
  · subst e;rw[if_pos h4]
  · rw[if_neg (h5 i (aXa _) (by omega))]
    exact ez (by omega) (by omega) h3 h4 fun j h6 h7=>h5 j (by omega) h7
theorem aBu {s:List UInt8}: ∀{f i:Nat},(∀j,i≤j→j<i+f→j<s.length→s.getD j 0≠58)→cz s f i=none
 |0,i,_=>rfl
 |f+1,i,h=>by
  unfold cz
  split
  · rename_i h1
    rw[if_neg (h i (aXa _) (by omega) h1)]
    exact aBu fun j h2 h3=>h j (by omega) (by omega)
  · rfl
theorem pL {s r:List UInt8} {n:Nat} (h:iC s=some (r,n)):3≤n∧n≤s.length∧n≤64∧r.length≤60∧1≤r.length:=by
 unfold iC at h
 split at h
 · cases h
 · rename_i i hi
   obtain⟨q1,q2,q3,q4,q5⟩:=wH hi
   split at h
   · cases h
   · rename_i m hm
     split at h
     · rename_i hc
       cases h
       have h1:1≤(s.take i).length:=by
        unfold jN at hm
        split at hm
        · rename_i h9;exact h9.1.1
        · cases hm
       rw[aW5] at h1
       refine⟨by omega,by omega,by omega,?_,?_⟩<;>rw[aW9,aW5]<;>omega
     · cases h
def gf:Nat→List UInt8→List (List UInt8)×Nat
 |0,_=>([],0)
 |f+1,s=>match iC s with
  |none=>([],0)
  |some (r,n)=>(r::(gf f (s.drop n)).1,n+(gf f (s.drop n)).2)
def bD (s:List UInt8):List (List UInt8)×Nat:=gf s.length s
theorem nD:iC []=none:=rfl
theorem oi: ∀{f g:Nat} {s:List UInt8},s.length≤f→s.length≤g→gf f s=gf g s
 |0,0,s,_,_=>rfl
 |0,g+1,s,h,_=>by
  obtain rfl:s=[]:=List.eq_nil_of_length_eq_zero (by omega)
  simp[gf,nD]
 |f+1,0,s,_,h=>by
  obtain rfl:s=[]:=List.eq_nil_of_length_eq_zero (by omega)
  simp[gf,nD]
 |f+1,g+1,s,h1,h2=>by
  unfold gf
  cases hr:iC s with
  |none=>rfl
  |some p=>
   obtain⟨r,n⟩:=p
   have:=pL hr
   have e:=oi (f:=f) (g:=g) (s:=s.drop n) (by rw[aW9];omega) (by rw[aW9];omega)
   simp only[e]
theorem fD {s:List UInt8} (h:iC s=none):bD s=([],0):=by
 unfold bD
 cases s with
 |nil=>rfl
 |cons b t=>simp[gf,h]
theorem jK {s r:List UInt8} {n:Nat} (h:iC s=some (r,n)):bD s=(r::(bD (s.drop n)).1,n+(bD (s.drop n)).2):=by
 have h1:=pL h
 unfold bD
 rw[oi (f:=s.length) (g:=(s.length - 1)+1) (aXa _) (by omega)]
 conv=>lhs;unfold gf
 rw[h]
 simp only
 rw[oi (f:=s.length - 1) (g:=(s.drop n).length) (by rw[aW9];omega) (aXa _)]
theorem qM: ∀(k:Nat) (s:List UInt8),s.length≤k→(bD s).2≤s.length∧(bD s).1.length≤s.length
 |0,s,h=>by
  obtain rfl:s=[]:=List.eq_nil_of_length_eq_zero (by omega)
  rw[fD nD];simp
 |k+1,s,h=>by
  cases hr:iC s with
  |none=>rw[fD hr];simp
  |some p=>
   obtain⟨r,n⟩:=p
   have h1:=pL hr
   have ih:=qM k (s.drop n) (by rw[aW9];omega)
   rw[aW9] at ih
   rw[jK hr]
   simp only[aW3]
   omega
def dP (log:List UInt8) (forced:Int):Bool:=
 decide (log.length≤2400)&&iK forced 0 log.length&&decide ((bD log).2=log.length)&&decide (((bD (log.take forced.toNat)).2:Int)=forced)
set_option linter.unusedVariables false
theorem uK {l:List bA} {i:Nat} {E c:Bool} (h: (!eP (l.getD i .zero)||decide ((i:Int)>0)&& !E)=c) (hE:0<i→E=cF (l.getD (i - 1) .zero).frm (l.getD (i - 1) .zero).num (l.getD i .zero).frm (l.getD i .zero).num):lP l i= !c:=by
 subst h
 unfold lP
 by_cases h0:i=0
 · subst h0;simp
 · rw[hE (by omega)]
   have h1:decide ((i:Int)>0)=true:=decide_eq_true (by omega)
   have h2: (i==0)=false:=by simpa using h0
   rw[h1,h2,Bool.true_and,Bool.false_or,Bool.not_or,Bool.not_not,Bool.not_not]
theorem uL {l:List cB} {i:Nat} {E c:Bool} (h: (!lK (l.getD i .zero)||decide ((i:Int)>0)&& !E)=c) (hE:0<i→E=cF (l.getD (i - 1) .zero).frm (l.getD (i - 1) .zero).num (l.getD i .zero).frm (l.getD i .zero).num):mO l i= !c:=by
 subst h
 unfold mO
 by_cases h0:i=0
 · subst h0;simp
 · rw[hE (by omega)]
   have h1:decide ((i:Int)>0)=true:=decide_eq_true (by omega)
   have h2: (i==0)=false:=by simpa using h0
   rw[h1,h2,Bool.true_and,Bool.false_or,Bool.not_or,Bool.not_not,Bool.not_not]
theorem fF {i:Nat} (h:0<i) (hl:i≤1000000):wrap64 ((i:Int) - 1)=((i - 1:Nat):Int):=by
 rw[aC (by omega)];omega
end Go.Ab
namespace Go.Ab
open Int renaming toNat_natCast→aWz
open List renaming length_append→aW0,length_nil→aW2,length_cons→aW3,length_take→aW5,getD_eq_getElem?_getD→aW7,getElem?_eq_getElem→aW8,length_drop→aW9,getElem?_eq_some_iff→aXb,range→aXc,mem_map→aXd,all_eq_true→aXe,take_length→aXf
open Nat renaming le_of_ble_eq_true→aW1,zero_le→aW6,le_refl→aXa
open Bool renaming and_eq_true→aW4
open Go Go.RowKit
abbrev bB.V (k:bB):V:= .e (.agg [.d (.i k.id),.d (.i k.time),.d (.i k.next),.d (.sl (aE k.held)),.d (.sl (aO k.marks)),.d (.sl (aE k.inbox))])
theorem aBv (a b:Int):decide (a≥b)= !decide (a<b):=by
 by_cases h:a<b
 · simp[h,Int.not_le.2 h]
 · simp[h,Int.not_lt.1 h]
theorem zI {k:bB} {i:Nat} {c:Bool} (h: ((k.held.getD i .zero).frm==k.id&&decide ((k.held.getD i .zero).num≥k.next)||decide ((k.held.getD i .zero).til≤k.time)|| !cw k.id (k.held.getD i .zero)||decide (gR k.marks (k.held.getD i .zero).frm (k.held.getD i .zero).num≥0))=c):tS k i= !c:=by
 subst h
 unfold tS
 simp only[aBv,Bool.not_or,Bool.not_not]
theorem zJ {k:bB} {i:Nat} {c:Bool} (h: ((k.marks.getD i .zero).frm==k.id&&decide ((k.marks.getD i .zero).num≥k.next)||decide ((k.marks.getD i .zero).til≤k.time))=c):xG k i= !c:=by
 subst h
 unfold xG
 simp only[aBv,Bool.not_or,Bool.not_not]
theorem wI {k:bB} {i:Nat} {c:Bool} (h: ((k.inbox.getD i .zero).frm==k.id&&decide ((k.inbox.getD i .zero).num≥k.next)||(k.inbox.getD i .zero).to != k.id||decide ((k.inbox.getD i .zero).til>k.time)&&decide (gR k.marks (k.inbox.getD i .zero).frm (k.inbox.getD i .zero).num<0))=c):sQ k i= !c:=by
 subst h
 unfold sQ
 simp only[aBv,Bool.not_or,Bool.not_not,bne,gt_iff_lt]
theorem cC (k:bB):dJ k=true↔(eN k.id=true∧(0≤k.time∧k.time≤999)∧(1≤k.next∧k.next≤100)∧k.held.length≤6∧k.marks.length≤12∧k.inbox.length≤6)∧(kB k.held=true∧oC k.marks=true∧kB k.inbox=true)∧
 (aXc k.held.length).all (tS k)=true∧(aXc k.marks.length).all (xG k)=true∧(aXc k.inbox.length).all (sQ k)=true:=by
 simp only[dJ,iK,aW4,decide_eq_true_eq]
 constructor
 · rintro⟨⟨⟨⟨⟨⟨⟨⟨⟨⟨⟨h1,h2⟩,h3⟩,h4⟩,h5⟩,h6⟩,h7⟩,h8⟩,h9⟩,h10⟩,h11⟩,h12⟩
   exact⟨⟨h1,h2,h3,h4,h5,h6⟩,⟨h7,h8,h9⟩,h10,h11,h12⟩
 · rintro⟨⟨h1,h2,h3,h4,h5,h6⟩,⟨h7,h8,h9⟩,h10,h11,h12⟩
   exact⟨⟨⟨⟨⟨⟨⟨⟨⟨⟨⟨h1,h2⟩,h3⟩,h4⟩,h5⟩,h6⟩,h7⟩,h8⟩,h9⟩,h10⟩,h11⟩,h12⟩
theorem oD {k:bB} (h: ¬dJ k=true):dJ k=false:=by simpa using h
set_option linter.unusedVariables false
theorem aKh (n:Nat): (jZ n).length≤n+1:=by
 induction n using Nat.strongRecOn with
 |_ n ih=>
  by_cases h:n<10
  · rw[nC h];simp
  · rw[uI (by omega),aW0]
    have:=ih (n / 10) (by omega)
    simp only[aW3,aW2];omega
theorem aFw {d:Nat} (h:d<10):u8 (wrap64 (48+(d:Int)))=UInt8.ofNat (48+d):=by
 rw[aC (by omega)]
 apply UInt8.toNat_inj.1
 have h1:=aFr (48+(d:Int))
 rw[tE h]
 unfold jA at h1
 omega
theorem rn {s:List UInt8} {i:Nat} (h: ∀k,k<i→gN (s.getD k 0)=true) (hi:i≤s.length): ∀b∈s.take i,gN b=true:=by
 intro b hb
 obtain⟨k,hk⟩:=List.mem_iff_getElem?.1 hb
 have hlt:k<i:=by
  have:=(aXb.1 hk).1
  rw[aW5] at this;omega
 rw[List.getElem?_take_of_lt hlt] at hk
 have:=h k hlt
 rw[aW7,hk] at this
 exact this
theorem aBw {s:List UInt8} (h: ∀k,k<s.length→gN (s.getD k 0)=true):cy s=true:=by
 have:=rn h (aXa _)
 rw[aXf] at this
 exact aXe.2 this
theorem vk {s:List UInt8} {k:Nat} (hk:k<s.length) (h:gN (s.getD k 0)=false):cy s=false:=by
 unfold cy
 rw[List.all_eq_false]
 refine⟨s.getD k 0,?_,by rw[h];decide⟩
 rw[aW7,aW8 hk]
 exact List.getElem_mem _
theorem vl (s:List UInt8) (i:Nat):gN (s.getD i 0)=iK (jG s i) 48 57:=by
 unfold gN iK jG
 congr 1<;>(apply decide_eq_decide.2;omega)
theorem aFx {s:List UInt8} {i a:Nat} (hi:i<s.length) (hd:gN (s.getD i 0)=true) (ha:pK (s.take i)=a) (hb:a<1000000):
 wrap64 (wrap64 (10*(a:Int))+wrap64 (jA (((s.getD i 0).toNat:Int) - 48)))=(pK (s.take (i+1)):Nat)∧wrap64 (wrap64 ((a:Int)*10)+wrap64 (jA (((s.getD i 0).toNat:Int) - 48)))=(pK (s.take (i+1)):Nat):=by
 rw[aLv hi,ha]
 simp only[gN,aW4,decide_eq_true_eq] at hd
 have h8:jA (((s.getD i 0).toNat:Int) - 48)=((s.getD i 0).toNat:Int) - 48:=by unfold jA;omega
 rw[h8,aC (n:=((s.getD i 0).toNat:Int) - 48) (by omega),aC (n:=10*(a:Int)) (by omega),aC (n:=(a:Int)*10) (by omega),aC (by omega),aC (by omega)]
 omega
theorem oj {s:List UInt8} {i:Nat} (h: ∀k,k<i→gN (s.getD k 0)=true) (hi:i≤s.length) (h5:i≤5):pK (s.take i)<100000:=
 Nat.lt_of_lt_of_le (tk i (s.take i) (by rw[aW5];omega) (rn h hi)) (Nat.pow_le_pow_right (by decide) h5)
set_option linter.unusedVariables false
theorem zK (t:List UInt8): -1≤gS t∧gS t≤9999:=by
 unfold gS
 split
 · rename_i h
   have h1:=tk t.length t rfl (aXe.1 h.2.1)
   have h2:10 ^ t.length≤10 ^ 4:=Nat.pow_le_pow_right (by decide) h.1.2
   have h3: (10:Nat) ^ 4=10000:=rfl
   omega
 · omega
theorem aOw {s:List UInt8} {i:Nat} (hc:uJ s=some i):
 iC s=if 1≤gS (s.take i)∧gS (s.take i)≤60∧i+2+(gS (s.take i)).toNat≤s.length∧s.getD (i+1+(gS (s.take i)).toNat) 0=59 then some ((s.take (i+1+(gS (s.take i)).toNat)).drop (i+1),i+2+(gS (s.take i)).toNat) else none:=by
 obtain⟨q1,q2,q3,q4,q5⟩:=wH hc
 have hd:=yC (s:=s.take i) (by rw[aW5];omega)
 unfold iC
 rw[hc]
 simp only
 cases hn:jN (s.take i) with
 |none=>
  rw[hn] at hd
  simp only at hd
  rw[if_neg (by omega)]
 |some n=>
  rw[hn] at hd
  simp only at hd
  rw[hd]
  simp only[aWz]
  by_cases h:1≤n∧n≤60∧i+2+n≤s.length∧s.getD (i+1+n) 0=59
  · rw[if_pos h,if_pos ⟨by omega,by omega,h.2.2.1,h.2.2.2⟩]
  · rw[if_neg h,if_neg (fun e=>h ⟨by omega,by omega,e.2.2.1,e.2.2.2⟩)]
def aLw (s:List UInt8):List UInt8:=match iC s with|some p=>p.1|none=>[]
def aDm (s:List UInt8):Nat:=match iC s with|some p=>p.2|none=>0
theorem aBx {s:List UInt8}:aDm s=0↔iC s=none:=by
 unfold aDm
 cases h:iC s with
 |none=>simp
 |some p=>
  obtain⟨r,n⟩:=p
  have:=pL h
  simp;omega
theorem kw {s:List UInt8} (h: ∀j,j<3→j<s.length→s.getD j 0≠58):uJ s=none:=aBu fun j _ h2 h3=>h j (by omega) h3
theorem vm {s:List UInt8} {i:Nat} (h3:i<3) (hi:i<s.length) (hc:s.getD i 0=58) (h: ∀j,j<i→s.getD j 0≠58):uJ s=some i:=ez (aW6 _) (by omega) hi hc fun j _ h2=>h j h2
theorem gg {s:List UInt8} (h:uJ s=none):iC s=none:=by unfold iC;rw[h]
set_option linter.unusedVariables false
def jE (t:List UInt8):Int:=match jN t with|some n=>(n:Int)|none=>0
theorem aIq (t:List UInt8):0≤jE t∧jE t≤99999:=by
 unfold jE jN
 split
 · rename_i n h
   split at h
   · rename_i hc
     cases h
     have h1:=tk t.length t rfl (aXe.1 hc.2.2)
     have h2:10 ^ t.length≤10 ^ 5:=Nat.pow_le_pow_right (by decide) hc.1.2
     have h3: (10:Nat) ^ 5=100000:=rfl
     omega
   · cases h
 · omega
theorem aOx (s:List UInt8) (a i:Nat): (s.take (a+i)).drop a=(s.drop a).take i:=by
 rw[List.drop_take];congr 1;omega
theorem yD (s:List UInt8) (a j:Nat): (s.drop a).getD j 0=s.getD (a+j) 0:=by
 rw[aW7,aW7,List.getElem?_drop]
theorem aLx {t:List UInt8} (h3:t.length=3) {n:Nat} (h:jN t=some n):100≤n:=by
 unfold jN at h
 split at h
 · rename_i hc
   cases h
   match t,h3 with
   | [x,y,z],_=>
    have hd:=aXe.1 hc.2.2
    have hx:=hd x (by simp)
    simp only[gN,aW4,decide_eq_true_eq] at hx
    have hx0:x≠48:=fun e=>hc.2.1 ⟨e,by simp⟩
    have hx1:x.toNat≠48:=fun e=>hx0 (UInt8.toNat_inj.1 e)
    show 100≤((0*10+(x.toNat - 48))*10+(y.toNat - 48))*10+(z.toNat - 48)
    omega
 · cases h
section
variable {s:List UInt8} {a c:Nat}
theorem yE (hk: ∀j,a≤j→j<c→s.getD j 0≠58) (h:s.length≤c∨a+3≤c):iC (s.drop a)=none:=by
 refine gg (kw fun j h3 hj=> ?_)
 rw[aW9] at hj
 rw[yD]
 exact hk (a+j) (by omega) (by omega)
theorem aRh (ha:a≤c) (hk: ∀j,a≤j→j<c→s.getD j 0≠58) (h3:c<a+3) (hc:c<s.length) (h58:s.getD c 0=58):uJ (s.drop a)=some (c - a):=by
 refine vm (by omega) (by rw[aW9];omega) (by rw[yD,show a+(c - a)=c by omega];exact h58) fun j hj=> ?_
 rw[yD]
 exact hk (a+j) (by omega) (by omega)
def aUw (s:List UInt8) (a c:Nat):Prop:= ∃n,jN ((s.take c).drop a)=some n∧1≤n∧n≤60∧c+1+n<s.length∧s.getD (c+1+n) 0=59
theorem aOy (ha:a≤c) (hk: ∀j,a≤j→j<c→s.getD j 0≠58) (h3:c≤a+3) (hc:c<s.length) (h58:s.getD c 0=58):
 (¬aUw s a c→iC (s.drop a)=none)∧(∀n,jN ((s.take c).drop a)=some n→1≤n→n≤60→c+1+n<s.length→s.getD (c+1+n) 0=59→iC (s.drop a)=some ((s.take (c+1+n)).drop (c+1),c+2+n - a)):=by
 have hcut: (s.take c).drop a=(s.drop a).take (c - a):=by rw[← aOx,show a+(c - a)=c by omega]
 have hlen: ((s.take c).drop a).length=c - a:=by rw[aW9,aW5];omega
 by_cases h4:c=a+3
 · have hno:iC (s.drop a)=none:=yE hk (.inr (by omega))
   refine⟨fun _=>hno,fun n h1 h2 h5 h6 h7=> ?_⟩
   have:=aLx (by rw[hlen];omega) h1
   omega
 · have hcol:=aRh ha hk (by omega) hc h58
   have key: ∀n,jN ((s.take c).drop a)=some n→1≤n→n≤60→c+1+n<s.length→s.getD (c+1+n) 0=59→iC (s.drop a)=some ((s.take (c+1+n)).drop (c+1),c+2+n - a):=by
    intro n h1 h2 h5 h6 h7
    unfold iC
    rw[hcol]
    simp only
    rw[← hcut,h1]
    simp only
    rw[if_pos ⟨h2,h5,by rw[aW9];omega,by rw[yD,show a+(c - a+1+n)=c+1+n by omega];exact h7⟩]
    congr 2
    · rw[← aOx,List.drop_drop,show a+(c - a+1+n)=c+1+n by omega,show a+(c - a+1)=c+1 by omega]
    · omega
   refine⟨fun hno=> ?_,key⟩
   unfold iC
   rw[hcol]
   simp only
   rw[← hcut]
   cases hn:jN ((s.take c).drop a) with
   |none=>rfl
   |some n=>
    simp only
    rw[if_neg]
    rintro⟨h1,h2,h5,h6⟩
    rw[aW9] at h5
    rw[yD,show a+(c - a+1+n)=c+1+n by omega] at h6
    exact hno ⟨n,hn,h1,h2,by omega,h6⟩
end
open Go Go.RowKit Go.Sort
set_option linter.unusedVariables false
set_option linter.unusedSimpArgs false
theorem kx {P:Program} {f:FuncId} {ds:List D} {X:V} (hc:ik P f) (h: ∀(S:Nat→Prop) (w:World) (args:Array Value),aK0 P w→args.size=ds.length→(∀(i:Nat) d v,ds[i]? =some d→args[i]? =some v→DR w S d v)→
 Calls P f args w fun e w'=> ∃v S',e= .returned v∧Fr (fun _=>False) w w'∧(∀σ ι,lT σ ι w' S' X v)∧ ∀b,S' b→w.heap.size≤b∧b<w'.heap.size):Spec P f ds.length (eV 0 (ds.map Dv)) [(.t 0,.v X)]:=by
 refine⟨hc,fun ι ν S w args hgb hvr hsz hargs=>nM (fun e w'=> ?_) (h S w args (hgb w (Fr.refl _ _)) hsz fun i d v hi hv=> ?_)⟩
 · rintro⟨v,S',rfl,hfr,hx,hS⟩
   refine⟨v,fun _=>undef,S',rfl,hfr.weak (fun _ h=>h.elim),⟨fun s k hk=> ?_,fun o k hk=> ?_,fun o b hm2=> ?_,fun o o' b hm2=> ?_,fun b hb=>(hS b hb).2⟩,fun b hb=> .inr (.inl (hS b hb).1),fun o b hm2=> ?_,fun o k k' hk hk'=> ?_⟩
   · simp only[aQ] at hk
     split at hk
     · rename_i e3;cases e3;cases hk;exact hx _ _
     · cases hk
   · simp[aQ] at hk
   · obtain⟨⟨k,hk,_⟩,_⟩:=hm2;simp[aQ] at hk
   · obtain⟨⟨k,hk,_⟩,_⟩:=hm2;simp[aQ] at hk
   · obtain⟨⟨k,hk,_⟩,_⟩:=hm2;simp[aQ] at hk
   · simp[aQ] at hk'
 · have hlt:i<ds.length:=(aXb.1 hi).1
   have hv2:=hargs i hlt
   rw[hv] at hv2
   cases hv2
   have hl:aQ (eV 0 (ds.map Dv)) (.t i)=some (.v (Dv d)):=by
    have:=pI 0 (ds.map Dv) [] i (aW6 _) (by simpa using hlt)
    rw[List.append_nil] at this
    rw[this];simp[hi]
   exact hvr.slots i _ hl
theorem aKi (w:World) (k:Nat):Fr (fun _=>False) w (w.drewN k):=⟨rfl,rfl,rfl,aXa _,fun _ _ _=>rfl⟩
theorem aDn (w:World) (os:Array Obj):Fr (fun _=>False) w (grow w os):=
 ⟨rfl,rfl,rfl,by simp[grow],fun b hb _=>by simp[grow,Array.getElem?_append_left hb]⟩
theorem ol {P:Program} {w:World} (h:aK0 P w) {g:Nat} (hg:P.globalNamed "internal/bytealg.MaxLen" =some g): ∃m,w.cell? ⟨g,0,none⟩=some (.int .i64 m):=by
 obtain⟨_,m,hm⟩:=h
 refine⟨m,?_⟩
 unfold World.var? at hm
 rw[hg] at hm
 simp only[Option.bind_some] at hm
 split at hm
 · rename_i cs t fz hh
   cases hm
   unfold World.cell?
   simp[hh]
 · cases hm
theorem bytesOf (l:List UInt8): (⟨l.toArray⟩:ByteArray).data.toList=l:=rfl
theorem DR.s_inv {w:World} {S:Nat→Prop} {l:List UInt8} {v:Value} (h:DR w S (.s l) v):v= .string ⟨l.toArray⟩:=by cases h;rfl
theorem DR.i_inv {w:World} {S:Nat→Prop} {n:Int} {v:Value} (h:DR w S (.i n) v):v= .int .i64 n:=by cases h;rfl
theorem aRi (n:Nat):Lib.decDigits n=jZ n:=by
 induction n using Nat.strongRecOn with
 |_ n ih=>
  unfold Lib.decDigits
  by_cases h:n<10
  · rw[dif_pos h,nC h]
  · rw[dif_neg h,uI (by omega),ih (n / 10) (by omega)]
theorem aLy {P:Program} {f:FuncId} (hc:ik P f) (n:Nat) (hn:n≤1000000)
 (h: ∀(w:World),Lib.TabIs P w "internal/strconv.uint64pow10" .u64 Lib.pow10Tab→Calls P f #[.int .i64 n] w fun e w'=>e= .returned (.string ⟨(Lib.itoa n).toArray⟩)∧ ∃k os,w'=grow (w.drewN k) os):
 Spec P f 1 [(.t 0,.v (I n))] [(.t 0,.v (Dv (.s (jZ n))))]:=by
 refine kx (ds:=[.i n]) hc fun S w args hg hsz ha=> ?_
 have ha0:=ha 0 (.i n) (args[0]'(by rw[hsz];simp)) rfl (Array.getElem?_eq_getElem (by rw[hsz];simp))
 have e:args= #[.int .i64 n]:=by
  apply Array.ext
  · rw[hsz];rfl
  · intro i h1 h2
    have:i=0:=by have:i<1:=by simpa using h2
                 omega
    subst this
    exact ha0.i_inv
 subst e
 refine nM (fun e w'=> ?_) (h w hg.1)
 rintro⟨rfl,k,os,rfl⟩
 have e2:Lib.itoa (n:Int)=jZ n:=by
  unfold Lib.itoa
  rw[if_neg (by omega),aWz,aRi]
 exact⟨_,fun _=>False,rfl,(aKi w k).trans (aDn _ os) (fun _ _ h=>h),fun σ ι=>by rw[e2];exact DR.s _,fun b hb=>hb.elim⟩
def bF (s:List UInt8):List UInt8:=s.takeWhile (· != 32)
def aP (s:List UInt8):List UInt8:=(s.dropWhile (· != 32)).drop 1
def fZ (s:List UInt8):Bool:=s.any (· ==32)
def iU:Nat→List UInt8→List (List UInt8)
 |0,s=>[s]
 |n+1,s=>if fZ s then bF s::iU n (aP s) else [s]
theorem gA: ∀(s:List UInt8),(fZ s=true→Lib.indexByte s 32=(bF s).length∧s.take (bF s).length=bF s∧s.drop ((bF s).length+1)=aP s∧(bF s).length<s.length)∧(fZ s=false→Lib.indexByte s 32= -1∧bF s=s∧aP s=[])
 | []=>⟨fun h=>by simp[fZ] at h,fun _=>⟨rfl,rfl,rfl⟩⟩
 |b::l=>by
  obtain⟨h1,h2⟩:=gA l
  unfold Lib.indexByte
  by_cases hb:b=32
  · subst hb
    refine⟨fun _=> ?_,fun h=>by simp[fZ] at h⟩
    simp[bF,aP]
  · have e1:fZ (b::l)=fZ l:=by simp[fZ,hb]
    have e2:bF (b::l)=b::bF l:=by simp[bF,hb]
    have e3:aP (b::l)=aP l:=by simp[aP,hb]
    rw[if_neg (by simpa using hb),e1,e2,e3]
    refine⟨fun h=> ?_,fun h=> ?_⟩
    · obtain⟨q1,q2,q3,q4⟩:=h1 h
      rw[q1,if_neg (by simp)]
      refine⟨by simp,by simp[q2],by simpa using q3,by simpa using q4⟩
    · obtain⟨q1,q2,q3⟩:=h2 h
      rw[q1,if_pos (by decide)]
      exact⟨rfl,by rw[q2],q3⟩
theorem aRj (s:List UInt8):Lib.cut s [32]=(bF s,aP s,fZ s):=by
 obtain⟨h1,h2⟩:=gA s
 unfold Lib.cut
 rw[Lib.index_one]
 cases h:fZ s with
 |true=>
  obtain⟨q1,q2,q3,q4⟩:=h1 h
  rw[q1,if_pos (by omega),aWz,q2]
  show(_,List.drop ((bF s).length+1) s,_)=_
  rw[q3]
 |false=>
  obtain⟨q1,q2,q3⟩:=h2 h
  rw[q1,if_neg (by decide),q2,q3]
theorem aBy: ∀(n:Nat) (s:List UInt8),Lib.splitK [32] 0 n s=iU n s
 |0,s=>rfl
 |n+1,s=>by
  obtain⟨h1,h2⟩:=gA s
  unfold Lib.splitK iU
  rw[Lib.index_one]
  cases h:fZ s with
  |true=>
   obtain⟨q1,q2,q3,q4⟩:=h1 h
   rw[q1,if_neg (by simp),if_pos rfl,aWz,Nat.add_zero,q2]
   show _::Lib.splitK [32] 0 n (List.drop ((bF s).length+1) s)=_
   rw[q3,aBy n]
  |false=>
   obtain⟨q1,q2,q3⟩:=h2 h
   rw[q1,if_pos (by decide),if_neg (by simp)]
theorem aOz {P:Program} {f:FuncId} (hc:ik P f) (s:List UInt8) (hs:s.length≤1000000)
 (h: ∀(w:World),aK0 P w→Calls P f #[.string ⟨s.toArray⟩,.string ⟨#[32]⟩] w fun e w'=>e= .returned (.tuple #[.string ⟨(Lib.cut s [32]).1.toArray⟩,.string ⟨(Lib.cut s [32]).2.1.toArray⟩,.bool (Lib.cut s [32]).2.2])∧ ∃n,w'=w.drewN n):
 Spec P f 2 [(.t 0,.v (Dv (.s s))),(.t 1,.v (Dv (.s [32])))] [(.t 0,.v (.tup [.c (.d (.s (bF s))),.c (.d (.s (aP s))),.c (.d (.b (fZ s)))]))]:=by
 refine kx (ds:=[.s s,.s [32]]) hc fun S w args hg hsz ha=> ?_
 have ha0:=ha 0 (.s s) (args[0]'(by rw[hsz];simp)) rfl (Array.getElem?_eq_getElem (by rw[hsz];simp))
 have ha1:=ha 1 (.s [32]) (args[1]'(by rw[hsz];simp)) rfl (Array.getElem?_eq_getElem (by rw[hsz];simp))
 have e:args= #[.string ⟨s.toArray⟩,.string ⟨#[32]⟩]:=by
  apply Array.ext
  · rw[hsz];rfl
  · intro i h1 h2
    have:i=0∨i=1:=by have:i<2:=by simpa using h2
                     omega
    rcases this with rfl|rfl
    · exact ha0.s_inv
    · exact ha1.s_inv
 subst e
 refine nM (fun e w'=> ?_) (h w hg)
 rintro⟨rfl,n,rfl⟩
 rw[aRj]
 refine⟨_,fun _=>False,rfl,aKi w n,fun σ ι=>⟨[.string ⟨(bF s).toArray⟩,.string ⟨(aP s).toArray⟩,.bool (fZ s)],rfl,rfl,fun k x u hx hu=> ?_⟩,fun b hb=>hb.elim⟩
 match k,hx,hu with
 |0,hx,hu=>cases hx;cases hu;exact DR.s _
 |1,hx,hu=>cases hx;cases hu;exact DR.s _
 |2,hx,hu=>cases hx;cases hu;exact DR.b _
 |k+3,hx,hu=>simp at hx
theorem aKj (w:World) (l:List (List UInt8)) (cs:Array Value) (e:TypeId) (cap:Nat) (hl:l.length≤cap) (hm:cap≤maxLen) (hcs: ∀(i:Nat) x,l[i]? =some x→cs[i]? =some (.string ⟨x.toArray⟩)):
 DR (w.alloc (.cells cs e)) (fun b=>b=w.heap.size) (.sl (aV l)) (.slice (some ⟨w.heap.size,0,none⟩) l.length cap):=by
 have hh: (w.alloc (.cells cs e)).heap[w.heap.size]? =some (.cells cs e (0,0)):=heap_alloc_new w _
 have:=DR.sl (w:=w.alloc (.cells cs e)) (S:=fun b=>b=w.heap.size) (aV l) (some ⟨w.heap.size,0,none⟩) cap 1 ⟨w.heap.size,0,none⟩ (fun i k=> .string ⟨(l.getD i []).toArray⟩)
  (by rw[aJ];exact hl) hm (uH l) (fun _=>rfl) (fun i r k d hi hk=> ?_) (fun i r k d hi hk=> ?_)
 · rw[aJ] at this;exact this
 · have hi2:i<l.length:=by have:=(aXb.1 hi).1;rwa [aJ] at this
   have hr:r=[.s (l.getD i [])]:=by
    have h1:=fB hi2
    rw[aW7,hi] at h1
    exact h1
   subst hr
   have hk0:k=0:=by have:=(aXb.1 hk).1;simp at this;exact this
   subst hk0
   refine⟨rfl,?_⟩
   rw[lH,cell_of_row _ _ _ cs e (0,0) hh]
   rw[show 0+(i*1+0)=i by omega]
   exact hcs i (l.getD i []) (by rw[aW7,aW8 hi2];rfl)
 · have hi2:i<l.length:=by have:=(aXb.1 hi).1;rwa [aJ] at this
   have hr:r=[.s (l.getD i [])]:=by
    have h1:=fB hi2
    rw[aW7,hi] at h1
    exact h1
   subst hr
   have hk0:k=0:=by have:=(aXb.1 hk).1;simp at this;exact this
   subst hk0
   cases hk
   exact DR.s _
theorem om {s:List UInt8} (h:fZ s=true): (aP s).length<s.length:=by
 obtain⟨q1,q2,q3,q4⟩:=(gA s).1 h
 rw[← q3,aW9];omega
theorem tF (s:List UInt8):Lib.count s [32]=if fZ s=true then 1+Lib.count (aP s) [32] else 0:=by
 obtain⟨h1,h2⟩:=gA s
 cases h:fZ s with
 |true=>
  obtain⟨q1,q2,q3,q4⟩:=h1 h
  rw[if_pos rfl,Lib.count_hit (i:=(bF s).length) (by simp) (by rw[Lib.index_one,q1])]
  show 1+Lib.count (List.drop ((bF s).length+1) s) _=_
  rw[q3]
 |false=>
  rw[if_neg (by simp),Lib.count_miss (by rw[Lib.index_one,(h2 h).1])]
theorem vn: ∀(n:Nat) (s:List UInt8),Lib.count s [32]=n→(iU n s).length=n+1
 |0,s,h=>rfl
 |n+1,s,h=>by
  rw[tF] at h
  unfold iU
  by_cases hs:fZ s=true
  · rw[if_pos hs] at h
    rw[if_pos hs,aW3,vn n (aP s) (by omega)]
  · rw[if_neg hs] at h;omega
theorem vo: ∀(n:Nat) (s:List UInt8),(iU n s).length≤n+1∧1≤(iU n s).length
 |0,s=>⟨aXa _,aXa _⟩
 |n+1,s=>by
  unfold iU
  split
  · have:=vo n (aP s)
    rw[aW3];omega
  · simp
theorem aFy: ∀(n m:Nat) (s:List UInt8),s.length≤n→s.length≤m→iU n s=iU m s
 |0,0,s,_,_=>rfl
 |0,m+1,s,h,_=>by
  rw[List.eq_nil_of_length_eq_zero (Nat.le_zero.1 h)];rfl
 |n+1,0,s,_,h=>by
  rw[List.eq_nil_of_length_eq_zero (Nat.le_zero.1 h)];rfl
 |n+1,m+1,s,h1,h2=>by
  unfold iU
  by_cases hs:fZ s=true
  · have:=om hs
    rw[if_pos hs,if_pos hs,aFy n m (aP s) (by omega) (by omega)]
  · rw[if_neg hs,if_neg hs]
theorem aO0 (n:Nat) (s:List UInt8):iU (min (n+1) (s.length+1) - 1) s=iU n s:=by
 by_cases h:n≤s.length
 · rw[show min (n+1) (s.length+1) - 1=n by omega]
 · exact aFy _ _ s (by omega) (by omega)
def dD (s:List UInt8):List (List UInt8):=iU (Lib.count s [32]) s
theorem aS9 {args:Array Value} {w:World} {S:Nat→Prop} {s:List UInt8} {rest:List D} {vs:List Value} (hsz:args.size=vs.length) (h: ∀(i:Nat) d v,rest[i]? =some d→args[i]? =some v→DR w S d v) (hl:rest.length=vs.length) (hd: ∀(i:Nat) d v,rest[i]? =some d→DR w S d v→vs[i]? =some v):args=vs.toArray:=by
 apply Array.ext
 · rw[hsz];simp
 · intro i h1 h2
   have hi:i<rest.length:=by rw[hl,← hsz];exact h1
   have h3:=hd i rest[i] args[i] (aW8 hi) (h i rest[i] args[i] (aW8 hi) (Array.getElem?_eq_getElem h1))
   rw[List.getElem_toArray]
   rw[aW8 (by simpa using h2)] at h3
   exact(Option.some.inj h3).symm
theorem ro (n:Nat) (s:List UInt8): (Lib.splitB ⟨#[32]⟩ 0 n ⟨s.toArray⟩).map (·.data.toList)=iU n s:=by
 rw[Lib.splitB_data];exact aBy n s
theorem aBz {n:Nat} {s:List UInt8} {i:Nat} {x:List UInt8} (h: (iU n s)[i]? =some x): ((Lib.splitB ⟨#[32]⟩ 0 n ⟨s.toArray⟩).map Value.string)[i]? =some (.string ⟨x.toArray⟩):=by
 rw[← ro,List.getElem?_map] at h
 rw[List.getElem?_map]
 cases hq: (Lib.splitB ⟨#[32]⟩ 0 n ⟨s.toArray⟩)[i]? with
 |none=>rw[hq] at h;cases h
 |some b=>rw[hq] at h;cases h;rfl
theorem aIr (n:Nat) (s:List UInt8): (Lib.splitB ⟨#[32]⟩ 0 n ⟨s.toArray⟩).length=(iU n s).length:=by rw[← ro,List.length_map]
theorem aIs {P:Program} {f:FuncId} {e:TypeId} (hc:ik P f) (s:List UInt8) (hs:s.length≤1000000)
 (h: ∀(w:World),aK0 P w→Calls P f #[.string ⟨s.toArray⟩,.string ⟨#[32]⟩] w fun ex w'=>ex= .returned (.slice (some ⟨w.heap.size,0,none⟩) (Lib.count s [32]+1) (Lib.count s [32]+1))∧w'=w.alloc (.cells ((Lib.splitB ⟨#[32]⟩ 0 (Lib.count s [32]) ⟨s.toArray⟩).map Value.string).toArray e)):
 Spec P f 2 [(.t 0,.v (Dv (.s s))),(.t 1,.v (Dv (.s [32])))] [(.t 0,.v (Dv (.sl (aV (dD s)))))]:=by
 refine kx (ds:=[.s s,.s [32]]) hc fun S w args hg hsz ha=> ?_
 obtain rfl:args= #[.string ⟨s.toArray⟩,.string ⟨#[32]⟩]:=by
  refine aS9 (s:=s) (vs:=[.string ⟨s.toArray⟩,.string ⟨#[32]⟩]) hsz ha rfl fun i d v hi hd=> ?_
  match i,hi with
  |0,hi=>cases hi;rw[hd.s_inv];rfl
  |1,hi=>cases hi;rw[hd.s_inv];rfl
  |k+2,hi=>simp at hi
 refine nM (fun ex w'=> ?_) (h w hg)
 rintro⟨rfl,rfl⟩
 have hl: (dD s).length=Lib.count s [32]+1:=vn _ s rfl
 have hcl:=Lib.count_le s [32]
 refine⟨_,fun b=>b=w.heap.size,rfl,by rw[alloc_eq_grow];exact aDn w _,fun σ ι=> ?_,fun b hb=> ?_⟩
 · have:=aKj w (dD s) ((Lib.splitB ⟨#[32]⟩ 0 (Lib.count s [32]) ⟨s.toArray⟩).map Value.string).toArray e (Lib.count s [32]+1) (by omega) (by unfold maxLen;omega) fun i x hx=>by
    rw[List.getElem?_toArray];exact aBz hx
   rw[hl] at this
   exact this
 · subst hb
   refine⟨aXa _,?_⟩
   rw[alloc_eq_grow];simp[grow]
theorem aFz {P:Program} {f:FuncId} {e:TypeId} (hc:ik P f) (n:Nat) (s:List UInt8) (hs:s.length≤1000000) (hn:n≤1000)
 (h: ∀(w:World),aK0 P w→Calls P f #[.string ⟨s.toArray⟩,.string ⟨#[32]⟩,.int .i64 ((n+1:Nat):Int)] w fun ex w'=>ex= .returned (.slice (some ⟨w.heap.size,0,none⟩) (Lib.splitB ⟨#[32]⟩ 0 (min (n+1) (s.length+1) - 1) ⟨s.toArray⟩).length (min (n+1) (s.length+1)))∧w'=w.alloc (.cells (Lib.cellsOf (Lib.splitB ⟨#[32]⟩ 0 (min (n+1) (s.length+1) - 1) ⟨s.toArray⟩) (min (n+1) (s.length+1))) e)):
 Spec P f 3 [(.t 0,.v (Dv (.s s))),(.t 1,.v (Dv (.s [32]))),(.t 2,.v (I ((n+1:Nat):Int)))] [(.t 0,.v (Dv (.sl (aV (iU n s)))))]:=by
 refine kx (ds:=[.s s,.s [32],.i ((n+1:Nat):Int)]) hc fun S w args hg hsz ha=> ?_
 obtain rfl:args= #[.string ⟨s.toArray⟩,.string ⟨#[32]⟩,.int .i64 ((n+1:Nat):Int)]:=by
  refine aS9 (s:=s) (vs:=[.string ⟨s.toArray⟩,.string ⟨#[32]⟩,.int .i64 ((n+1:Nat):Int)]) hsz ha rfl fun i d v hi hd=> ?_
  match i,hi with
  |0,hi=>cases hi;rw[hd.s_inv];rfl
  |1,hi=>cases hi;rw[hd.s_inv];rfl
  |2,hi=>cases hi;rw[hd.i_inv];rfl
  |k+3,hi=>simp at hi
 refine nM (fun ex w'=> ?_) (h w hg)
 rintro⟨rfl,rfl⟩
 have hcl:=vo (min (n+1) (s.length+1) - 1) s
 refine⟨_,fun b=>b=w.heap.size,rfl,by rw[alloc_eq_grow];exact aDn w _,fun σ ι=> ?_,fun b hb=> ?_⟩
 · have:=aKj w (iU (min (n+1) (s.length+1) - 1) s) (Lib.cellsOf (Lib.splitB ⟨#[32]⟩ 0 (min (n+1) (s.length+1) - 1) ⟨s.toArray⟩) (min (n+1) (s.length+1))) e (min (n+1) (s.length+1)) (by omega) (by unfold maxLen;omega) fun i x hx=>by
    have h1:=aBz hx
    unfold Lib.cellsOf
    rw[List.getElem?_toArray,List.getElem?_append_left (aXb.1 h1).1]
    exact h1
   rw[← aIr,aO0] at this
   exact this
 · subst hb
   refine⟨aXa _,?_⟩
   rw[alloc_eq_grow];simp[grow]
set_option linter.unusedVariables false
set_option linter.unusedSimpArgs false
def kQ (n:bA):List UInt8:=jZ n.frm.toNat++[32]++jZ n.num.toNat++[32]++jZ n.to.toNat++[32]++jZ n.til.toNat++[32]++n.text
def gB (n:bA):List UInt8:=if eP n then kQ n else []
def mP:Nat→List UInt8→List UInt8
 |0,s=>s
 |n+1,s=>aP (mP n s)
def dQ (s:List UInt8) (i:Nat):Int:=gS (bF (mP i s))
def fE (n:Nat) (s:List UInt8):List Int:=(aXc n).map (dQ s)
theorem bN (n:Nat) (s:List UInt8): (fE n s).length=n:=by simp[fE]
theorem aIt (n:Nat) (s:List UInt8):fE (n+1) s=fE n s++[dQ s n]:=by simp[fE,List.range_succ]
theorem uY (s:List UInt8): (aP s).length≤s.length:=by
 cases h:fZ s with
 |true=>exact Nat.le_of_lt (om h)
 |false=>rw[((gA s).2 h).2.2];exact aW6 _
theorem vp (n:Nat) (s:List UInt8): (mP n s).length≤s.length:=by
 induction n with
 |zero=>exact aXa _
 |succ n ih=>exact Nat.le_trans (uY _) ih
theorem fa (s:List UInt8): (bF s).length≤s.length:=by
 cases h:fZ s with
 |true=>exact Nat.le_of_lt ((gA s).1 h).2.2.2
 |false=>rw[((gA s).2 h).2.1];exact aXa _
def iQ (l:List (List UInt8)):Bool:=l.all fun w=>(jN w).isSome
def kY (l:List (List UInt8)):List Int:=if iQ l then l.map jE else []
def da (t:List UInt8):bA:=⟨dQ t 0,dQ t 1,dQ t 2,dQ t 3,mP 4 t⟩
def eD (t:List UInt8):bA×Bool:=if t=[]∨gB (da t)≠t then(.zero,false) else(da t,true)
def oV (t:List UInt8):bA:=⟨jE ((iU 4 t).getD 0 []),jE ((iU 4 t).getD 1 []),jE ((iU 4 t).getD 2 []),jE ((iU 4 t).getD 3 []),(iU 4 t).getD 4 []⟩
def rr (t:List UInt8):bA×Bool:=if(iU 4 t).length≠5∨iQ ((iU 4 t).take 4)=false∨eP (oV t)=false∨gB (oV t)≠t then(.zero,false) else(oV t,true)
theorem mQ {w r:List UInt8} (h: ∀b∈w,b≠32):bF (w++32::r)=w∧aP (w++32::r)=r∧fZ (w++32::r)=true:=by
 induction w with
 |nil=>exact⟨by simp[bF],by simp[aP],by simp[fZ]⟩
 |cons b w ih=>
  have hb:b≠32:=h b (List.mem_cons_self ..)
  obtain⟨h1,h2,h3⟩:=ih fun x hx=>h x (List.mem_cons_of_mem _ hx)
  refine⟨?_,?_,?_⟩
  · rw[List.cons_append]
    have:bF (b::(w++32::r))=b::bF (w++32::r):=by simp[bF,hb]
    rw[this,h1]
  · rw[List.cons_append]
    have:aP (b::(w++32::r))=aP (w++32::r):=by simp[aP,hb]
    rw[this,h2]
  · simp[fZ]
theorem vL (n:Nat): ∀b∈jZ n,b≠32:=by
 intro b hb e
 have:=zH n b hb
 subst e
 exact absurd this (by decide)
theorem bS {k:Nat}: ∀{n:Nat},n<10 ^ (k+1)→(jZ n).length≤k+1:=by
 induction k with
 |zero=>
  intro n h
  rw[nC (by simpa using h)];simp
 |succ k ih=>
  intro n h
  by_cases hs:n<10
  · rw[nC hs];simp
  · rw[uI (by omega),aW0]
    have:=ih (n:=n / 10) (by rw[Nat.pow_succ] at h;omega)
    simp;omega
theorem mR {n:Nat} (h:n<100000):jN (jZ n)=some n:=by
 have hl: (jZ n).length≤5:=bS (k:=4) (by simpa using h)
 have h1:1≤(jZ n).length:=List.length_pos_iff.2 (aDl n)
 have hd:cy (jZ n)=true:=aXe.2 (zH n)
 unfold jN
 rw[if_pos ⟨⟨h1,hl⟩,(wG h1 hd).1 (by rw[kv]),hd⟩,kv]
theorem vM {n:Nat} (h:n<10000):gS (jZ n)=n:=by
 have hl: (jZ n).length≤4:=bS (k:=3) (by simpa using h)
 have h1:1≤(jZ n).length:=List.length_pos_iff.2 (aDl n)
 unfold gS
 rw[if_pos ⟨⟨h1,hl⟩,aXe.2 (zH n),by rw[kv]⟩,kv]
theorem lZ {n:bA} (h:eP n=true): (0≤n.frm∧n.frm≤3)∧(0≤n.to∧n.to≤3)∧(1≤n.num∧n.num≤99)∧(1≤n.til∧n.til≤999)∧(1≤n.text.length∧n.text.length≤24):=by
 simp only[eP,eN,iK,zG,aW4,decide_eq_true_eq] at h
 omega
theorem iu (n:bA):kQ n=jZ n.frm.toNat++32::(jZ n.num.toNat++32::(jZ n.to.toNat++32::(jZ n.til.toNat++32::n.text))):=by simp[kQ]
theorem aB0 {n:bA} (h:eP n=true):da (kQ n)=n∧(iU 4 (kQ n)).length=5∧iQ ((iU 4 (kQ n)).take 4)=true∧oV (kQ n)=n:=by
 obtain⟨p1,p2,p3,p4,p5⟩:=lZ h
 obtain⟨a1,a2,a3⟩:=mQ (r:=jZ n.num.toNat++32::(jZ n.to.toNat++32::(jZ n.til.toNat++32::n.text))) (vL n.frm.toNat)
 obtain⟨b1,b2,b3⟩:=mQ (r:=jZ n.to.toNat++32::(jZ n.til.toNat++32::n.text)) (vL n.num.toNat)
 obtain⟨c1,c2,c3⟩:=mQ (r:=jZ n.til.toNat++32::n.text) (vL n.to.toNat)
 obtain⟨d1,d2,d3⟩:=mQ (r:=n.text) (vL n.til.toNat)
 have hc:iU 4 (kQ n)=[jZ n.frm.toNat,jZ n.num.toNat,jZ n.to.toNat,jZ n.til.toNat,n.text]:=by
  rw[iu]
  simp only[iU,a1,a2,a3,b1,b2,b3,c1,c2,c3,d1,d2,d3,if_true]
 have e: ∀{x:Int},0≤x→((x.toNat:Nat):Int)=x:=fun h=>by omega
 have v1:gS (jZ n.frm.toNat)=n.frm:=by rw[vM (by omega),e (by omega)]
 have v2:gS (jZ n.num.toNat)=n.num:=by rw[vM (by omega),e (by omega)]
 have v3:gS (jZ n.to.toNat)=n.to:=by rw[vM (by omega),e (by omega)]
 have v4:gS (jZ n.til.toNat)=n.til:=by rw[vM (by omega),e (by omega)]
 have w1:jN (jZ n.frm.toNat)=some n.frm.toNat:=mR (by omega)
 have w2:jN (jZ n.num.toNat)=some n.num.toNat:=mR (by omega)
 have w3:jN (jZ n.to.toNat)=some n.to.toNat:=mR (by omega)
 have w4:jN (jZ n.til.toNat)=some n.til.toNat:=mR (by omega)
 have u1:jE (jZ n.frm.toNat)=n.frm:=by rw[jE,w1];exact e (by omega)
 have u2:jE (jZ n.num.toNat)=n.num:=by rw[jE,w2];exact e (by omega)
 have u3:jE (jZ n.to.toNat)=n.to:=by rw[jE,w3];exact e (by omega)
 have u4:jE (jZ n.til.toNat)=n.til:=by rw[jE,w4];exact e (by omega)
 refine⟨?_,by rw[hc];rfl,?_,?_⟩
 · rw[iu]
   simp only[da,dQ,mP,a1,a2,b1,b2,c1,c2,d1,d2,v1,v2,v3,v4]
 · rw[hc]
   simp[iQ,w1,w2,w3,w4]
 · simp only[oV,hc,List.getD_cons_zero,List.getD_cons_succ,u1,u2,u3,u4]
theorem aRk (n:bA):kQ n≠[]:=by
 rw[iu];simp
theorem aB1 (t:List UInt8) (x:bA) (h:eP x=true) (e:kQ x=t):eD t=(x,true):=by
 subst e
 unfold eD
 rw[(aB0 h).1,if_neg]
 rintro(h1|h1)
 · exact aRk x h1
 · exact h1 (if_pos h)
theorem aLz (t:List UInt8) (x:bA) (h:eP x=true) (e:kQ x=t):rr t=(x,true):=by
 subst e
 obtain⟨h1,h2,h3,h4⟩:=aB0 h
 unfold rr
 rw[h4,if_neg]
 rintro(h5|h5|h5|h5)
 · exact h5 h2
 · rw[h3] at h5;cases h5
 · rw[h] at h5;cases h5
 · exact h5 (if_pos h)
theorem aRl (t:List UInt8): (∃x,eP x=true∧kQ x=t∧eD t=(x,true)∧rr t=(x,true))∨(eD t=(.zero,false)∧rr t=(.zero,false)):=by
 by_cases h: ∃x,eP x=true∧kQ x=t
 · obtain⟨x,h1,h2⟩:=h
   exact .inl ⟨x,h1,h2,aB1 t x h1 h2,aLz t x h1 h2⟩
 · refine .inr ⟨?_,?_⟩
   · unfold eD
     rw[if_pos]
     by_cases h1:t=[]
     · exact .inl h1
     · refine .inr fun h2=> ?_
       unfold gB at h2
       split at h2
       · rename_i h3;exact h ⟨_,h3,h2⟩
       · exact h1 h2.symm
   · unfold rr
     rw[if_pos]
     by_cases h1:eP (oV t)=true
     · refine .inr (.inr (.inr fun h2=> ?_))
       rw[gB,if_pos h1] at h2
       exact h ⟨_,h1,h2⟩
     · exact .inr (.inr (.inl (by simpa using h1)))
theorem aF0 (t:List UInt8):rr t=eD t:=by
 rcases aRl t with⟨x,_,_,h1,h2⟩|⟨h1,h2⟩<;>rw[h1,h2]
set_option linter.unusedVariables false
set_option linter.unusedSimpArgs false
theorem aO1 {s:List UInt8} {i:Nat} (hk: ∀j,j<i→s.getD j 0≠32) (hi:i<s.length) (h:s.getD i 0=32):bF s=s.take i∧aP s=s.drop (i+1)∧fZ s=true:=by
 have e:s=s.take i++32::s.drop (i+1):=by
  rw[← h,aW7,aW8 hi]
  show s=List.take i s++s[i]::List.drop (i+1) s
  rw[← List.drop_eq_getElem_cons hi,List.take_append_drop]
 have hw: ∀b∈s.take i,b≠32:=by
  intro b hb
  obtain⟨j,hj⟩:=List.mem_iff_getElem?.1 hb
  have hlt:j<i:=by
   have:=(aXb.1 hj).1
   rw[aW5] at this;omega
  rw[List.getElem?_take_of_lt hlt] at hj
  have:=hk j hlt
  rw[aW7,hj] at this
  exact this
 obtain⟨h1,h2,h3⟩:=mQ (r:=s.drop (i+1)) hw
 rw[← e] at h1 h2 h3
 exact⟨h1,h2,h3⟩
theorem aL0 {s:List UInt8} (hk: ∀j,j<s.length→s.getD j 0≠32):bF s=s∧aP s=[]∧fZ s=false:=by
 have hn:fZ s=false:=by
  unfold fZ
  rw[List.any_eq_false]
  intro b hb
  obtain⟨j,hj⟩:=List.mem_iff_getElem?.1 hb
  have:=hk j (aXb.1 hj).1
  rw[aW7,hj] at this
  simpa using this
 obtain⟨q1,q2,q3⟩:=(gA s).2 hn
 exact⟨q2,q3,hn⟩
theorem aL1 {l:List (List UInt8)} {i:Nat} (hi:i<l.length) (h: (jN (l.getD i [])).isSome=false):iQ l=false:=by
 unfold iQ
 rw[List.all_eq_false]
 refine⟨l.getD i [],?_,by rw[h];decide⟩
 rw[aW7,aW8 hi]
 exact List.getElem_mem _
theorem aIu {l:List (List UInt8)} (h: ∀i,i<l.length→(jN (l.getD i [])).isSome=true):iQ l=true:=by
 unfold iQ
 rw[aXe]
 intro x hx
 obtain⟨j,hj⟩:=List.mem_iff_getElem?.1 hx
 have:=h j (aXb.1 hj).1
 rw[aW7,hj] at this
 exact this
theorem aAb {l:List (List UInt8)} {i:Nat} (h:i<l.length): (l.take (i+1)).map jE=(l.take i).map jE++[jE (l.getD i [])]:=by
 rw[List.take_add_one,aW8 h,aW7,aW8 h,List.map_append]
 rfl
def oq (n:Int):List UInt8:=if n<0 then 45::jZ (-n).toNat else jZ n.toNat
theorem dG {α:Type} {l:List α} {i:Nat} {z:α} (h:i<l.length):l.getD i z∈l:=by
 rw[aW7,aW8 h]
 exact List.getElem_mem _
set_option linter.unusedVariables false
set_option linter.unusedSimpArgs false
theorem ky: ∀(n:Nat) (s:List UInt8),∀x∈iU n s,x.length≤s.length
 |0,s,x,h=>by
  rw[List.mem_singleton.1 h];exact aXa _
 |n+1,s,x,h=>by
  unfold iU at h
  by_cases hs:fZ s=true
  · rw[if_pos hs] at h
    rcases List.mem_cons.1 h with rfl|h
    · exact fa s
    · exact Nat.le_trans (ky n _ x h) (uY s)
  · rw[if_neg hs] at h
    rw[List.mem_singleton.1 h];exact aXa _
theorem yF {α:Type} {l:List α} {n i:Nat} {z:α} (h:i<n): (l.take n).getD i z=l.getD i z:=by
 rw[aW7,List.getElem?_take_of_lt h,← aW7]
theorem iE {l:List (List UInt8)} (h:iQ l=true): (kY l).length=l.length:=by rw[kY,if_pos h,List.length_map]
theorem aF1 {l:List (List UInt8)} (h:iQ l=true) {i:Nat} (hi:i<l.length): (kY l).getD i 0=jE (l.getD i []):=by
 rw[kY,if_pos h,aW7,List.getElem?_map,aW8 hi,aW7,aW8 hi]
 rfl
theorem iR {l:List Int} {i:Nat} (h:i<l.length): (cZ l).getD (i:Int).toNat []=[.i (l.getD i 0)]:=by
 rw[aWz,gL h]
theorem aDo (l:List (List UInt8)) (n:Nat): (aV l).take n=aV (l.take n):=by simp[aV,List.map_take]
theorem aF2 {n:Nat} {s:List UInt8} {i:Nat} (h:i<n): (fE n s).getD i 0=dQ s i:=by
 unfold fE
 rw[aW7,List.getElem?_map,List.getElem?_range h]
 rfl
theorem vt {t:List UInt8} (h: (iU 4 t).length≠5∨iQ ((iU 4 t).take 4)=false∨eP (oV t)=false∨gB (oV t)≠t):eD t=(.zero,false):=by
 rw[← aF0,rr,if_pos h]
theorem aL2 {t:List UInt8} (h1: (iU 4 t).length=5) (h2:iQ ((iU 4 t).take 4)=true) (h3:eP (oV t)=true) (h4:gB (oV t)=t):eD t=(oV t,true):=by
 rw[← aF0,rr,if_neg]
 rintro(h|h|h|h)
 · exact h h1
 · rw[h2] at h;cases h
 · rw[h3] at h;cases h
 · exact h h4
theorem aDp {l:List (List UInt8)} (h:iQ (l.take 4)=true) (h5:l.length=5) {i:Nat} (hi:i<4):zr (((cZ (kY (l.take 4))).getD i []).getD 0 (.i 0))=jE (l.getD i []):=by
 have hl:i< (l.take 4).length:=by rw[aW5];omega
 rw[gL (by rw[iE h];exact hl)]
 show(kY (l.take 4)).getD i 0=_
 rw[aF1 h hl,yF hi]
theorem tl {s:List UInt8} {i:Nat} (hi:i<4):zr (((cZ (fE 4 s)).getD i []).getD 0 (.i 0))=dQ s i:=by
 rw[gL (by rw[bN];exact hi)]
 exact aF2 hi
set_option linter.unusedVariables false
set_option linter.unusedSimpArgs false
def bB.zero:bB:=⟨0,0,0,[],[],[]⟩
def cE (id:Int):bB:=if eN id then⟨id,0,1,[],[],[]⟩ else .zero
def kC (l:List bA) (n:bA):List bA:=l.takeWhile (fun x=>cF x.frm x.num n.frm n.num)++n::l.dropWhile (fun x=>cF x.frm x.num n.frm n.num)
def qN (l:List cB) (n:cB):List cB:=l.takeWhile (fun x=>cF x.frm x.num n.frm n.num)++n::l.dropWhile (fun x=>cF x.frm x.num n.frm n.num)
def kD (l:List bA) (n:bA):List bA:=l.takeWhile (fun x=> !cF n.frm n.num x.frm x.num)++n::l.dropWhile (fun x=> !cF n.frm n.num x.frm x.num)
def oE (l:List cB) (n:cB):List cB:=l.takeWhile (fun x=> !cF n.frm n.num x.frm x.num)++n::l.dropWhile (fun x=> !cF n.frm n.num x.frm x.num)
def gX {α:Type} (l:List α) (i:Nat):List α:=l.take i++l.drop (i+1)
def kU (k:bB) (t:Int):bB:={k with time:=t,held:=k.held.filter (fun n=>decide (t<n.til)),marks:=k.marks.filter (fun n=>decide (t<n.til))}
def bf (k:bB) (n:bA):Bool:=eP n&&decide (k.time<n.til)&&decide (aW k.held n.frm n.num<0)&&decide (aW k.inbox n.frm n.num<0)&&decide (gR k.marks n.frm n.num<0)
def iI (k:bB) (n:bA):bB×Bool:=
 if bf k n&&decide ((k.held.length:Int)+k.marks.length+1≤12) then
  (if n.to==k.id then{k with inbox:=kC k.inbox n,marks:=qN k.marks ⟨n.frm,n.num,n.til⟩} else{k with held:=kC k.held n},true)
 else(k,false)
def jH:List UInt8:=[116,105,109,101]
def jL:List UInt8:=[110,101,120,116]
def kE:List UInt8:=[111,119,110]
def gK:List UInt8:=[116,97,107,101]
def gY:List UInt8:=[104,101,108,100]
def fR:List UInt8:=[105,110,98,111,120]
def nP:List UInt8:=[108,101,116]
def mS:List UInt8:=[101,97,116]
def iD:List UInt8:=[109,97,114,107]
def lF (k:bB) (w:List UInt8) (n:Int):bB×Bool:=
 if w==jH&&decide (k.time<n) then(kU k n,true)
 else if w==jL&&decide (k.next<n) then({k with next:=n},true)
 else(k,false)
def gC (k:bB) (w:List UInt8) (n:bA):bB×Bool:=
 if w==kE&&n.frm==k.id&&n.num==k.next then iI {k with next:=wrap64 (k.next+1)} n
 else if w==gK&&n.frm != k.id then iI k n
 else if decide (0≤aW k.held n.frm n.num)||decide (0≤aW k.inbox n.frm n.num) then(k,false)
 else if w==gY then({k with held:=kC k.held n},true)
 else if w==fR then({k with inbox:=kC k.inbox n},true)
 else(k,false)
def iX (k:bB) (w:List UInt8) (m:cB):bB×Bool:=
 if w==nP&&decide (0≤aW k.held m.frm m.num)&&(k.held.getD (aW k.held m.frm m.num).toNat .zero).til==m.til then
  ({k with held:=gX k.held (aW k.held m.frm m.num).toNat,marks:=qN k.marks m},true)
 else if w==mS&&decide (0≤aW k.inbox m.frm m.num)&&(k.inbox.getD (aW k.inbox m.frm m.num).toNat .zero).til==m.til then
  ({k with inbox:=gX k.inbox (aW k.inbox m.frm m.num).toNat},true)
 else if w==iD&&decide (gR k.marks m.frm m.num<0) then({k with marks:=qN k.marks m},true)
 else(k,false)
def three (l:List (List UInt8)):cB:=⟨jE (l.getD 0 []),jE (l.getD 1 []),jE (l.getD 2 [])⟩
def eS (k:bB) (rec:List UInt8):bB×Bool:=
 if fZ rec then
  if bF rec==jH||bF rec==jL then(if(jN (aP rec)).isSome then lF k (bF rec) (jE (aP rec)) else(k,false))
  else if bF rec==kE||bF rec==gK||bF rec==gY||bF rec==fR then(if(eD (aP rec)).2 then gC k (bF rec) (eD (aP rec)).1 else(k,false))
  else if bF rec==nP||bF rec==mS||bF rec==iD then(if iQ (dD (aP rec))&&(dD (aP rec)).length==3 then iX k (bF rec) (three (dD (aP rec))) else(k,false))
  else(k,false)
 else(k,false)
def mA (k:bB) (x:bB×Bool):bB×Bool:=if x.2&&dJ x.1 then(x.1,true) else(k,false)
def dA (k:bB) (rec:List UInt8):bB×Bool:=if dJ k then mA k (eS k rec) else(.zero,false)
def iv (k:bB) (n:bA):Bool:=eP n&&decide (k.time<n.til)&&decide (aW k.held n.frm n.num<0)&&decide (gR k.marks n.frm n.num<0)&&decide (aW k.inbox n.frm n.num<0)
def mT (k:bB) (n:bA):bB×Bool:=
 if iv k n then
  if n.to != k.id then({k with held:=kD k.held n},decide (((kD k.held n).length:Int)+k.marks.length≤12))
  else({k with inbox:=kD k.inbox n,marks:=oE k.marks ⟨n.frm,n.num,n.til⟩},decide ((k.held.length:Int)+(oE k.marks ⟨n.frm,n.num,n.til⟩).length≤12))
 else(k,false)
def kz (k:bB) (f m:Int):bB×Bool:=
 if 0≤aW k.held f m then({k with held:=gX k.held (aW k.held f m).toNat,marks:=oE k.marks ⟨f,m,(k.held.getD (aW k.held f m).toNat .zero).til⟩},true) else(k,false)
def lc (k:bB) (f m:Int):bB×Bool:=
 if 0≤aW k.inbox f m then({k with inbox:=gX k.inbox (aW k.inbox f m).toNat},true) else(k,false)
def hO (r:List UInt8):cB:=⟨dQ r 0,dQ r 1,dQ r 2⟩
def gh (m:cB):List UInt8:=oq m.frm++[32]++oq m.num++[32]++oq m.til
def gD (k:bB) (rec:List UInt8):bB×Bool:=
 if bF rec==jH then(if gS (aP rec)≤k.time then(k,false) else(kU k (gS (aP rec)),true))
 else if bF rec==kE then
  (if !(eD (aP rec)).2||(eD (aP rec)).1.frm != k.id||(eD (aP rec)).1.num != k.next then(k,false) else mT {k with next:=wrap64 (k.next+1)} (eD (aP rec)).1)
 else if bF rec==gK then(if !(eD (aP rec)).2||(eD (aP rec)).1.frm==k.id then(k,false) else mT k (eD (aP rec)).1)
 else if bF rec==jL then(if gS (aP rec)≤k.next then(k,false) else({k with next:=gS (aP rec)},true))
 else if bF rec==gY||bF rec==fR then
  (if !(eD (aP rec)).2||decide (aW k.held (eD (aP rec)).1.frm (eD (aP rec)).1.num≥0)||decide (aW k.inbox (eD (aP rec)).1.frm (eD (aP rec)).1.num≥0) then(k,false)
   else if bF rec==gY then({k with held:=kD k.held (eD (aP rec)).1},true) else({k with inbox:=kD k.inbox (eD (aP rec)).1},true))
 else if !(mP 3 (aP rec)==[])|| !(aP rec==gh (hO (aP rec))) then(k,false)
 else if bF rec==nP then
  (if decide (aW k.held (hO (aP rec)).frm (hO (aP rec)).num<0)||(k.held.getD (aW k.held (hO (aP rec)).frm (hO (aP rec)).num).toNat .zero).til != (hO (aP rec)).til then(k,false)
   else kz k (hO (aP rec)).frm (hO (aP rec)).num)
 else if bF rec==mS then
  (if decide (aW k.inbox (hO (aP rec)).frm (hO (aP rec)).num<0)||(k.inbox.getD (aW k.inbox (hO (aP rec)).frm (hO (aP rec)).num).toNat .zero).til != (hO (aP rec)).til then(k,false)
   else lc k (hO (aP rec)).frm (hO (aP rec)).num)
 else if bF rec==iD then(if gR k.marks (hO (aP rec)).frm (hO (aP rec)).num≥0 then(k,false) else({k with marks:=oE k.marks (hO (aP rec))},true))
 else(k,false)
def iB (k:bB) (rec:List UInt8):bB×Bool:=if dJ k then mA k (gD k rec) else(.zero,false)
def gE:bB→List (List UInt8)→bB×Bool
 |k,[]=>(k,true)
 |k,r::rs=>if(dA k r).2 then gE (dA k r).1 rs else(.zero,false)
def dS (id:Int) (recs:List (List UInt8)):bB×Bool:=if eN id then gE (cE id) recs else(.zero,false)
set_option linter.unusedVariables false
set_option linter.unusedSimpArgs false
section
variable {α:Type} {l:List α} {z:α} {i:Nat}
theorem eR (h:i<l.length):l.take (i+1)=l.take i++[l.getD i z]:=by
 rw[List.take_add_one,aW8 h,aW7,aW8 h]
 rfl
theorem aDq {p:α→Bool} (hi:i≤l.length) (hk: ∀j,j<i→p (l.getD j z)=true) (h:i=l.length∨p (l.getD i z)=false):l.takeWhile p=l.take i∧l.dropWhile p=l.drop i:=by
 induction l generalizing i with
 |nil=>simp at hi;subst hi;simp
 |cons x l ih=>
  cases i with
  |zero=>
   have hx:p x=false:=by
    rcases h with h|h
    · simp at h
    · simpa using h
   simp[List.takeWhile,List.dropWhile,hx]
  |succ i=>
   have hx:p x=true:=by simpa using hk 0 (by omega)
   obtain⟨h1,h2⟩:=ih (i:=i) (by simpa using hi) (fun j hj=>by simpa using hk (j+1) (by omega)) (by
    rcases h with h|h
    · left;simpa using h
    · right;simpa using h)
   simp[List.takeWhile,List.dropWhile,hx,h1,h2]
def qO (p:α→Bool) (n:α) (l:List α):List α:=l.takeWhile p++n::l.dropWhile p
theorem aKk {p:α→Bool} {n:α} (hi:i≤l.length) (hk: ∀j,j<i→p (l.getD j z)=true) (h:i=l.length∨p (l.getD i z)=false):qO p n l=l.take i++n::l.drop i:=by
 obtain⟨h1,h2⟩:=aDq hi hk h
 rw[qO,h1,h2]
theorem fT {p:α→Bool} {n:α}: (qO p n l).length=l.length+1:=by
 have h:=congrArg List.length (List.takeWhile_append_dropWhile (p:=p) (l:=l))
 rw[aW0] at h
 rw[qO,aW0,aW3];omega
theorem yG {p:α→Bool} {n x:α}:x∈qO p n l↔x=n∨x∈l:=by
 have h:x∈l↔x∈l.takeWhile p∨x∈l.dropWhile p:=by
  conv=>lhs;rw[← List.takeWhile_append_dropWhile (p:=p) (l:=l)]
  exact List.mem_append
 rw[qO,List.mem_append,List.mem_cons,h]
 constructor
 · rintro(h|h|h)
   · exact .inr (.inl h)
   · exact .inl h
   · exact .inr (.inr h)
 · rintro(h|h|h)
   · exact .inr (.inl h)
   · exact .inl h
   · exact .inr (.inr h)
def midW (q:α→Bool) (n:α) (l:List α):List α:=if l.any q then qO (fun x=> !q x) n l else l
theorem aL3 {q:α→Bool} {n x:α} (h:l.any q=true):qO (fun x=> !q x) n (l++[x])=qO (fun x=> !q x) n l++[x]:=by
 induction l with
 |nil=>simp at h
 |cons y l ih=>
  by_cases hy:q y=true
  · simp[qO,hy]
  · have hy':q y=false:=by simpa using hy
    have h2:l.any q=true:=by simpa[hy'] using h
    have:=ih h2
    simp only[qO] at this ⊢
    simp[hy',this]
theorem aL4 {q:α→Bool} {n:α} (h:l.any q=false):qO (fun x=> !q x) n l=l++[n]:=by
 induction l with
 |nil=>simp[qO]
 |cons y l ih=>
  have hy:q y=false:=by
   cases hq:q y with
   |false=>rfl
   |true=>simp[hq] at h
  have h2:l.any q=false:=by simpa[hy] using h
  have:=ih h2
  simp only[qO] at this ⊢
  simp[hy,this]
theorem aF3 {q:α→Bool} {n x:α} (h:l.any q=false) (hx:q x=true):midW q n (l++[x])=midW q n l++[n]++[x]:=by
 have e1: (l++[x]).any q=true:=by simp[hx]
 have e2:midW q n l=l:=by rw[midW,h];rfl
 rw[e2,midW,if_pos e1]
 induction l with
 |nil=>simp[qO,hx]
 |cons y l ih=>
  have hy:q y=false:=by
   cases hq:q y with
   |false=>rfl
   |true=>simp[hq] at h
  have h2:l.any q=false:=by simpa[hy] using h
  have:=ih h2 (by simp[hx]) (by rw[midW,h2];rfl)
  simp only[qO] at this ⊢
  simp[hy] at this ⊢
  exact this
theorem aKl {q:α→Bool} {n x:α} (h:l.any q=true∨q x=false):midW q n (l++[x])=midW q n l++[x]:=by
 cases ha:l.any q with
 |true=>
  have e1: (l++[x]).any q=true:=by rw[List.any_append,ha];rfl
  rw[midW,if_pos e1,midW,ha,if_pos rfl,aL3 ha]
 |false=>
  have hx:q x=false:=by
   rcases h with h|h
   · rw[ha] at h;cases h
   · exact h
  have e1: (l++[x]).any q=false:=by rw[List.any_append,ha];simp[hx]
  rw[midW,midW,e1,ha];rfl
theorem ld {q:α→Bool} {x:α}: (l++[x]).any q=(l.any q||q x):=by simp
theorem lf {q:α→Bool} {n:α}:qO (fun x=> !q x) n l=if l.any q then midW q n l else midW q n l++[n]:=by
 cases ha:l.any q with
 |true=>rw[if_pos rfl,midW,ha,if_pos rfl]
 |false=>rw[if_neg (by simp),midW,ha,aL4 ha];rfl
theorem ru {p:α→Bool} (h:i<l.length): (l.take (i+1)).filter p=(l.take i).filter p++(if p (l.getD i z) then [l.getD i z] else []):=by
 rw[eR (z:=z) h,List.filter_append]
 congr 1
 by_cases hp:p (l.getD i z)=true
 · rw[if_pos hp,List.filter_cons_of_pos hp];rfl
 · rw[if_neg hp,List.filter_cons_of_neg hp];rfl
theorem zL {p:α→Bool} (h:i<l.length) (hp:p (l.getD i z)=true): (l.take (i+1)).filter p=(l.take i).filter p++[l.getD i z]:=by
 rw[ru (z:=z) h,if_pos hp]
theorem fb {p:α→Bool} (h:i<l.length) (hp:p (l.getD i z)=false): (l.take (i+1)).filter p=(l.take i).filter p:=by
 rw[ru (z:=z) h,hp];simp
theorem fd {x:α} (h:x∈gX l i):x∈l:=by
 rcases List.mem_append.1 h with h|h
 · exact List.mem_of_mem_take h
 · exact List.mem_of_mem_drop h
end
theorem yH (l:List bA) (n:bA):kC l n=qO (fun x=>cF x.frm x.num n.frm n.num) n l:=rfl
theorem fe (l:List cB) (n:cB):qN l n=qO (fun x=>cF x.frm x.num n.frm n.num) n l:=rfl
theorem zM (l:List bA) (n:bA):kD l n=qO (fun x=> !cF n.frm n.num x.frm x.num) n l:=rfl
theorem vN (l:List cB) (n:cB):oE l n=qO (fun x=> !cF n.frm n.num x.frm x.num) n l:=rfl
theorem bn {b:Bool} (h:b=false): ¬b=true:=by simp[h]
theorem vu {k:bB} {n:bA} {c:Bool} (hb:k.held.length≤100000∧k.marks.length≤100000∧k.inbox.length≤100000)
 (h: (!eP n||decide (n.til≤k.time)||decide (aW k.held n.frm n.num≥0)||decide (aW k.inbox n.frm n.num≥0)||decide (gR k.marks n.frm n.num≥0)||decide (wrap64 (wrap64 ((aE k.held).length+(aO k.marks).length)+1)>12))=c):
 (bf k n&&decide ((k.held.length:Int)+k.marks.length+1≤12))= !c:=by
 subst h
 rw[aB,aF,aC (n:=(k.held.length:Int)+k.marks.length) (by omega),aC (by omega)]
 unfold bf
 simp only[aBv,Bool.not_or,Bool.not_not,gt_iff_lt]
theorem fV (l:List bA) (f m:Int): -1≤aW l f m∧aW l f m<l.length:=by
 rcases hG (oQ l f m) l.length 0 with h|⟨k,h,_,h2,_⟩<;>rw[aW,h]<;>omega
theorem aB2 {k:bB} {n:bA} (ha: (bf k n&&decide ((k.held.length:Int)+k.marks.length+1≤12))=true) (hto: (n.to==k.id)=true):iI k n=({k with inbox:=kC k.inbox n,marks:=qN k.marks ⟨n.frm,n.num,n.til⟩},true):=by
 unfold iI
 rw[if_pos ha,if_pos hto]
theorem aB3 {k:bB} {n:bA} (ha: (bf k n&&decide ((k.held.length:Int)+k.marks.length+1≤12))=true) (hto: (n.to==k.id)=false):iI k n=({k with held:=kC k.held n},true):=by
 unfold iI
 rw[if_pos ha,hto]
 rfl
theorem gi (l:List bA) (x:bA):aE l++[x.row]=aE (l++[x]):=by simp[aE]
theorem gj (l:List cB) (x:cB):aO l++[x.row]=aO (l++[x]):=by simp[aO]
theorem kF (l:List bA) (a b:Nat): ∀r∈((aE l).take a).drop b,r.length=5:=fun r hr=>eU l r (List.mem_of_mem_take (List.mem_of_mem_drop hr))
theorem zN (l:List cB) (a b:Nat): ∀r∈((aO l).take a).drop b,r.length=3:=fun r hr=>iL l r (List.mem_of_mem_take (List.mem_of_mem_drop hr))
theorem vO (L:List (List D)) (i:Nat): (L.take (gI none L.length)).drop (eY (some (i:Int)))=L.drop i:=by
 simp[gI,eY]
theorem zO (L:List (List D)) (i n:Nat): (L.take (gI (some (i:Int)) n)).drop (eY none)=L.take i:=by
 simp[gI,eY]
theorem jR (n:Nat):gI none n=n:=by simp[gI]
theorem jS (i n:Nat):gI (some (i:Int)) n=i:=by simp[gI]
theorem jT:eY none=0:=rfl
theorem jU (i:Nat):eY (some (i:Int))=i:=by simp[eY]
section
variable {τ σ':St} {rl:List (Nat×Nat)} {bor:List Nat} {r:List (dH×K)}
theorem aUx {s:Nat} {xs ys:List E} (h:aQ τ (.t s)=some (.v (.tup xs))) (e:mEs τ σ' rl bor xs ys) (hr:mL τ σ' rl bor r):mL τ σ' rl bor ((.t s,.v (.tup ys))::r):=⟨⟨_,h,e⟩,hr⟩
theorem aO2:mEs τ σ' rl bor [] []:=trivial
theorem aRm {cs ds:List C} {xs ys:List E} (e:zq τ σ' rl bor cs ds) (h:mEs τ σ' rl bor xs ys):mEs τ σ' rl bor (.agg cs::xs) (.agg ds::ys):=⟨e,h⟩
theorem aWu {x y:D} {xs ys:List E} (e:x=y) (h:mEs τ σ' rl bor xs ys):mEs τ σ' rl bor (.c (.d x)::xs) (.c (.d y)::ys):=⟨e,h⟩
end
theorem RW.nilBox {P:Program} {cx:Cx P} {σ:St} {ι:Nat→Value} {S:Nat→Prop} {a:Act} {w:World} (h:RW cx σ ι S a w) {b j q:Nat} {ty:TypeId} {cs:List C} (e:TypeId) (es:Nat) (hs:aQ σ (.o b)=some (.box ty cs)) (hq:cs[q]? =some .nil) (hj:aQ σ (.o j)=none):
 ∃ι',RW cx (pY (pY σ (.o j) (.row e es [])) (.o b) (.box ty (cs.set q (.own j 0)))) ι' S a w:=by
 have hblk: ∀b,vA (.slice none 0 0) b→some b=(none:Option Nat)∨w.heap.size≤b:=fun b hb=>by simp[vA] at hb
 have h1:=h.turn (id:=j) (old:=none) (k:= .row e es []) (p:= .slice none 0 0) (w':=w) ⟨rfl,rfl,rfl,aXa _,(fun _ _ _=>rfl),(fun b hb=>by cases hb),.inl hj,hblk,.inl ⟨rfl,rfl⟩⟩
 have hbj:b≠j:=fun e=>by subst e;rw[hj] at hs;cases hs
 have hs1:aQ (pY σ (.o j) (.row e es [])) (.o b)=some (.box ty cs):=by rw[cP _ _ (by simpa using fun h=>hbj h.symm)];exact hs
 obtain⟨blk0,vs,hp,hh,hsz,hc⟩:=h1.vr.objs b _ hs1
 refine⟨_,h1.turn (id:=b) (old:=some blk0) (k:= .box ty (cs.set q (.own j 0))) (p:= .pointer (some ⟨blk0,0,none⟩)) (w':=w) ⟨rfl,rfl,rfl,aXa _,(fun _ _ _=>rfl),(fun b' hb'=> ?_),.inr ⟨_,hs1,?_⟩,(fun b' hb'=> ?_),?_⟩⟩
 · cases hb'
   refine⟨⟨_,hs1,trivial⟩,?_⟩
   show vA (if b=j then Value.slice none 0 0 else ι b) _
   rw[hp];rfl
 · show nJ (if b=j then Value.slice none 0 0 else ι b) _ _ _
   rw[hp];rfl
 · simp[vA] at hb';exact .inl (by rw[hb'])
 · refine⟨blk0,vs,rfl,hh,by rw[List.length_set];exact hsz,fun k c u hk hu=> ?_⟩
   have hjj:aQ (pY (pY σ (.o j) (.row e es [])) (.o b) (.box ty (cs.set q (.own j 0)))) (.o j)=some (.row e es []):=by
    rw[cP _ _ (by simpa using hbj),cY]
   by_cases hkq:k=q
   · subst hkq
     have hlt:k<cs.length:=(aXb.1 hq).1
     rw[List.getElem?_set_self hlt] at hk
     cases hk
     have hv:u= .slice none 0 0:=hc k .nil u hq hu
     subst hv
     refine⟨rfl,.inl ⟨e,es,[],hjj,aXa _,fun _=> ?_⟩⟩
     simp[hbj.symm]
   · rw[List.getElem?_set_ne (fun h=>hkq h.symm)] at hk
     refine CR.step ?_ (hc k c u hk hu)
     refine⟨fun _ h=>h,fun _ _=>rfl,fun o k0 ho=> ?_⟩
     by_cases eo:o=b
     · subst eo
       rw[hs1] at ho;cases ho
       refine⟨_,cY _ _ _,?_⟩
       simp only[if_true]
       rw[hp]
       simp[nJ]
     · refine⟨k0,by rw[cP _ _ (by simpa using fun h=>eo h.symm)];exact ho,?_⟩
       simp only[if_neg eo]
       exact nJ.refl' _ _
theorem SW.nilBox {P:Program} {io:List Nat} {Q:Ex→St→Prop} {σ:St} {c:Code} (b j q:Nat) {ty:TypeId} {cs:List C} (e:TypeId) (es:Nat) (hs:aQ σ (.o b)=some (.box ty cs)) (hq:cs[q]? =some .nil) (hj:aQ σ (.o j)=none)
 (h:nK σ [(.o j,.row e es []),(.o b,.box ty (cs.set q (.own j 0)))] (SW P io c Q)):SW P io c Q σ:=by
 rw[kZ] at h
 intro cx ι S a w hio hw hf
 obtain⟨ι',hw'⟩:=hw.nilBox e es hs hq hj
 exact h cx ι' S a w hio hw' hf
set_option linter.unusedVariables false
set_option linter.unusedSimpArgs false
theorem Spec.told {P:Program} {f:FuncId} {n:Nat} {σin σout σ':St} {rl:List (Nat×Nat)} {bor:List Nat} (h:Spec P f n σin σout) (hm:mL σout σ' rl bor σ') (hm2:bb σ' rl bor=true) (h0:cA σin=[]):Spec P f n σin σ':=by
 have hno: ∀o k,aQ σin (.o o)=some k→False:=fun o k hk=>by have:=fK hk;rw[h0] at this;cases this
 refine⟨h.1,fun ι ν S w args hg h1 h2 h3=>nM (fun ex w'=> ?_) (h.2 ι ν S w args hg h1 h2 h3)⟩
 rintro⟨v,ι',S',rfl,hp⟩
 have hM:oS σout σ' rl bor:=⟨hm,hm2⟩
 refine⟨v,fun j=>ι' (kO rl j),qF σout ι' bor S',rfl,hp.fr,vF hM (fun _ _ h=>h) hp.vr,fun b hb=> ?_,fun o b hmu=> ?_,fun o k k' hk hk'=>(hno o k hk).elim⟩
 · rcases hb with hb|⟨o,_,hb⟩
   · exact hp.rd b hb
   · exact .inr (hp.own o b hb)
 · obtain⟨⟨k',hk',hl'⟩,hb⟩:=hmu
   obtain⟨k,hk,hmk⟩:=hM.ids o k' hk'
   exact hp.own (kO rl o) b ⟨⟨k,hk,(aJ4 hmk).1⟩,hb⟩
theorem aWv {X Y:V} {a a' b b' c c':Int} (e0:a=a') (e1:b=b') (e2:c=c'): [(dH.t 0,K.v X),(.t 1,.v Y),(.t 2,.v (.e (.agg [.d (.i a'),.d (.i b'),.d (.i c')])))]=eV 0 [X,Y,.e (.agg [.d (.i a),.d (.i b),.d (.i c)])]:=by
 subst e0;subst e1;subst e2;rfl
theorem aDr {l:List (List UInt8)} (h:iQ l=true) {i:Nat} (hi:i<l.length):zr (((cZ (kY l)).getD i []).getD 0 (.i 0))=jE (l.getD i []):=by
 rw[gL (by rw[iE h];exact hi)]
 show(kY l).getD i 0=_
 rw[aF1 h hi]
theorem zP (t:List UInt8): (eD t).1.text.length≤t.length:=by
 unfold eD
 split
 · exact aW6 _
 · exact vp 4 t
theorem count_le: ∀(n:Nat) (s:List UInt8),s.length≤n→Lib.count s [32]≤s.length
 |0,s,h=>by
  rw[List.eq_nil_of_length_eq_zero (Nat.le_zero.1 h),tF];exact aXa _
 |n+1,s,h=>by
  rw[tF]
  by_cases hs:fZ s=true
  · have:=om hs
    have:=count_le n (aP s) (by omega)
    rw[if_pos hs];omega
  · rw[if_neg hs];exact aW6 _
theorem aL5 (s:List UInt8): (dD s).length≤s.length+1:=by
 have:=count_le s.length s (aXa _)
 have:=(vo (Lib.count s [32]) s).1
 unfold dD;omega
theorem aO3 (s:List UInt8): ∀x∈dD s,x.length≤s.length:=ky _ s
section
variable {k:bB} {rec:List UInt8}
theorem aL6 (h:fZ rec=false):eS k rec=(k,false):=if_neg (bn h)
theorem vv (h:fZ rec=true) (hw: (bF rec==jH||bF rec==jL)=true) (hn: (jN (aP rec)).isSome=true):eS k rec=lF k (bF rec) (jE (aP rec)):=(if_pos h).trans ((if_pos hw).trans (if_pos hn))
theorem ff (h:fZ rec=true) (hw: (bF rec==jH||bF rec==jL)=true) (hn: (jN (aP rec)).isSome=false):eS k rec=(k,false):=(if_pos h).trans ((if_pos hw).trans (if_neg (bn hn)))
theorem aB4 (h:fZ rec=true) (hw: (bF rec==jH||bF rec==jL)=false) (hw2: (bF rec==kE||bF rec==gK||bF rec==gY||bF rec==fR)=true) (hn: (eD (aP rec)).2=true):eS k rec=gC k (bF rec) (eD (aP rec)).1:=(if_pos h).trans ((if_neg (bn hw)).trans ((if_pos hw2).trans (if_pos hn)))
theorem sB (h:fZ rec=true) (hw: (bF rec==jH||bF rec==jL)=false) (hw2: (bF rec==kE||bF rec==gK||bF rec==gY||bF rec==fR)=true) (hn: (eD (aP rec)).2=false):eS k rec=(k,false):=(if_pos h).trans ((if_neg (bn hw)).trans ((if_pos hw2).trans (if_neg (bn hn))))
theorem aB5 (h:fZ rec=true) (hw: (bF rec==jH||bF rec==jL)=false) (hw2: (bF rec==kE||bF rec==gK||bF rec==gY||bF rec==fR)=false) (hw3: (bF rec==nP||bF rec==mS||bF rec==iD)=true) (hn: (iQ (dD (aP rec))&&(dD (aP rec)).length==3)=true):
 eS k rec=iX k (bF rec) (three (dD (aP rec))):=(if_pos h).trans ((if_neg (bn hw)).trans ((if_neg (bn hw2)).trans ((if_pos hw3).trans (if_pos hn))))
theorem zQ (h:fZ rec=true) (hw: (bF rec==jH||bF rec==jL)=false) (hw2: (bF rec==kE||bF rec==gK||bF rec==gY||bF rec==fR)=false) (hw3: (bF rec==nP||bF rec==mS||bF rec==iD)=true) (hn: (iQ (dD (aP rec))&&(dD (aP rec)).length==3)=false):
 eS k rec=(k,false):=(if_pos h).trans ((if_neg (bn hw)).trans ((if_neg (bn hw2)).trans ((if_pos hw3).trans (if_neg (bn hn)))))
theorem li (h:fZ rec=true) (hw: (bF rec==jH||bF rec==jL)=false) (hw2: (bF rec==kE||bF rec==gK||bF rec==gY||bF rec==fR)=false) (hw3: (bF rec==nP||bF rec==mS||bF rec==iD)=false):
 eS k rec=(k,false):=(if_pos h).trans ((if_neg (bn hw)).trans ((if_neg (bn hw2)).trans (if_neg (bn hw3))))
theorem aB6 {l:List (List UInt8)} {c:Bool} (h: (iQ l&&((cZ (kY l)).length:Int)==3)=c): (iQ l&&l.length==3)=c:=by
 subst h
 cases hn:iQ l with
 |false=>rfl
 |true=>
  rw[cK,iE hn,Bool.true_and,Bool.true_and]
  by_cases h:l.length=3
  · rw[h];rfl
  · rw[show(l.length==3)=false by simpa using h]
    symm
    rw[beq_eq_false_iff_ne]
    omega
end
def KB (k:bB):Prop:=(k.held.length≤100000∧k.marks.length≤100000∧k.inbox.length≤100000)∧(∀x∈k.held,x.text.length≤140737488355328)∧(∀x∈k.inbox,x.text.length≤140737488355328)
theorem KB.zero:KB .zero:=⟨⟨aW6 _,aW6 _,aW6 _⟩,fun x h=>(by cases h),fun x h=>(by cases h)⟩
theorem tG {l:List bA} (h:kB l=true) {x:bA} (hx:x∈l):eP x=true:=by
 obtain⟨i,hi⟩:=List.mem_iff_getElem?.1 hx
 have hlt:=(aXb.1 hi).1
 have h1:=aXe.1 h i (List.mem_range.2 hlt)
 unfold lP at h1
 rw[aW4] at h1
 have h2:=h1.1
 rw[aW7,hi] at h2
 exact h2
theorem rv {n:bA} (h:eP n=true):n.text.length≤140737488355328:=by
 have:=lZ h;omega
def KS (k:bB):Prop:=(k.held.length≤7∧k.marks.length≤13∧k.inbox.length≤7)∧(∀x∈k.held,x.text.length≤140737488355328)∧(∀x∈k.inbox,x.text.length≤140737488355328)
theorem KS.big {k:bB} (h:KS k):KB k:=⟨⟨by have:=h.1;omega,by have:=h.1;omega,by have:=h.1;omega⟩,h.2⟩
def K6 (k:bB):Prop:=(k.held.length≤6∧k.marks.length≤12∧k.inbox.length≤6)∧(∀x∈k.held,x.text.length≤140737488355328)∧(∀x∈k.inbox,x.text.length≤140737488355328)
theorem eK {k:bB} (h:dJ k=true):K6 k:=by
 obtain⟨⟨_,_,_,h1,h2,h3⟩,⟨h4,h5,h6⟩,_⟩:=(cC k).1 h
 exact⟨⟨h1,h2,h3⟩,fun x hx=>rv (tG h4 hx),fun x hx=>rv (tG h6 hx)⟩
theorem K6.seven {k:bB} (h:K6 k):KS k:=⟨⟨by have:=h.1;omega,by have:=h.1;omega,by have:=h.1;omega⟩,h.2⟩
theorem yI {α:Type} (l:List α) (i:Nat): (gX l i).length≤l.length:=by
 rw[gX,aW0,aW5,aW9];omega
theorem aB7 {k:bB} {n:bA} (h:K6 k) (hn:n.text.length≤140737488355328):KS (iI k n).1:=by
 unfold iI
 split
 · simp only
   split
   · refine⟨⟨by have:=h.1;simp only;omega,?_,?_⟩,h.2.1,?_⟩
     · have:=h.1;rw[fe,fT];omega
     · have:=h.1;rw[yH,fT];omega
     · intro x hx
       rw[yH,yG] at hx
       rcases hx with rfl|hx
       · exact hn
       · exact h.2.2 x hx
   · refine⟨⟨?_,by have:=h.1;simp only;omega,by have:=h.1;simp only;omega⟩,?_,h.2.2⟩
     · have:=h.1;rw[yH,fT];omega
     · intro x hx
       rw[yH,yG] at hx
       rcases hx with rfl|hx
       · exact hn
       · exact h.2.1 x hx
 · exact h.seven
theorem vw {k:bB} {t:Int} (h:K6 k):KS (kU k t):=by
 have h1:=List.length_filter_le (fun n:bA=>decide (t<n.til)) k.held
 have h2:=List.length_filter_le (fun n:cB=>decide (t<n.til)) k.marks
 exact⟨⟨by have:=h.1;simp only[kU];omega,by have:=h.1;simp only[kU];omega,by have:=h.1;simp only[kU];omega⟩,fun x hx=>h.2.1 x (List.mem_filter.1 hx).1,h.2.2⟩
theorem aDs {k:bB} {n:bA} (h:K6 k) (hn:n.text.length≤140737488355328) {p:bA→Bool}:KS {k with held:=qO p n k.held}:=
 ⟨⟨by have:=h.1;simp only[fT];omega,by have:=h.1;simp only;omega,by have:=h.1;simp only;omega⟩,fun x hx=>by rcases yG.1 hx with rfl|hx;exact hn;exact h.2.1 x hx,h.2.2⟩
theorem aF4 {k:bB} {n:bA} (h:K6 k) (hn:n.text.length≤140737488355328) {p:bA→Bool}:KS {k with inbox:=qO p n k.inbox}:=
 ⟨⟨by have:=h.1;simp only;omega,by have:=h.1;simp only;omega,by have:=h.1;simp only[fT];omega⟩,h.2.1,fun x hx=>by rcases yG.1 hx with rfl|hx;exact hn;exact h.2.2 x hx⟩
theorem aO4 {k:bB} {w:List UInt8} {n:Int} (h:K6 k):KS (lF k w n).1:=by
 unfold lF
 split
 · exact vw h
 · split
   · exact h.seven
   · exact h.seven
theorem aL7 {k:bB} {w:List UInt8} {n:bA} (h:K6 k) (hn:n.text.length≤140737488355328):KS (gC k w n).1:=by
 unfold gC
 split
 · exact aB7 (k:={k with next:=wrap64 (k.next+1)}) h hn
 · split
   · exact aB7 h hn
   · split
     · exact h.seven
     · split
       · exact aDs h hn
       · split
         · exact aF4 h hn
         · exact h.seven
theorem aL8 {k:bB} {w:List UInt8} {m:cB} (h:K6 k):KS (iX k w m).1:=by
 unfold iX
 split
 · refine⟨⟨?_,?_,by have:=h.1;simp only;omega⟩,fun x hx=>h.2.1 x (fd hx),h.2.2⟩
   · have:=h.1;have h1:=yI k.held (aW k.held m.frm m.num).toNat;simp only;omega
   · have:=h.1;rw[fe,fT];omega
 · split
   · refine⟨⟨by have:=h.1;simp only;omega,by have:=h.1;simp only;omega,?_⟩,h.2.1,fun x hx=>h.2.2 x (fd hx)⟩
     have:=h.1;have h1:=yI k.inbox (aW k.inbox m.frm m.num).toNat;simp only;omega
   · split
     · exact⟨⟨by have:=h.1;simp only;omega,by have:=h.1;rw[fe,fT];omega,by have:=h.1;simp only;omega⟩,h.2⟩
     · exact h.seven
theorem ot {k:bB} {rec:List UInt8} (h:K6 k) (hr:rec.length≤1000000):KS (eS k rec).1:=by
 have ht: (eD (aP rec)).1.text.length≤140737488355328:=by
  have h1:=zP (aP rec)
  have h2:=uY rec
  omega
 unfold eS
 repeat' split
 all_goals first|exact h.seven|exact aO4 h|exact aL7 h ht|exact aL8 h
theorem ou {k:bB} {rec:List UInt8}:K6 (dA k rec).1:=by
 unfold dA
 split
 · rename_i hk
   unfold mA
   split
   · rename_i h
     rw[aW4] at h
     exact eK h.2
   · exact eK hk
 · exact⟨⟨aW6 _,aW6 _,aW6 _⟩,fun x h=>(by cases h),fun x h=>(by cases h)⟩
theorem zR (id:Int):K6 (cE id):=by
 unfold cE
 split<;>exact⟨⟨aW6 _,aW6 _,aW6 _⟩,fun x h=>(by cases h),fun x h=>(by cases h)⟩
set_option linter.unusedVariables false
set_option linter.unusedSimpArgs false
theorem aKm {a a':Int} (e:a=a'): [(dH.t 0,K.v (I a'))]=eV 0 [I a]:=by subst e;rfl
theorem vz {X:V} {a a' b b':Int} (e0:a=a') (e1:b=b'): [(dH.t 0,K.v X),(.t 1,.v (I a')),(.t 2,.v (I b'))]=eV 0 [X,I a,I b]:=by subst e0;subst e1;rfl
theorem aO5 {X:V} {a a' b b' c c':Int} (e0:a=a') (e1:b=b') (e2:c=c'): [(dH.t 0,K.v X),(.t 1,.v (.e (.agg [.d (.i a'),.d (.i b'),.d (.i c')])))]=eV 0 [X,.e (.agg [.d (.i a),.d (.i b),.d (.i c)])]:=by subst e0;subst e1;subst e2;rfl
theorem wb {n:Nat} {s:List UInt8} {i:Nat} (hi:i<n):zr (((cZ (fE n s)).getD i []).getD 0 (.i 0))=dQ s i:=by
 rw[gL (by rw[bN];exact hi)]
 exact aF2 hi
theorem mU {n:Int} (h: -1≤n∧n≤9999): (oq n).length≤6:=by
 unfold oq
 by_cases h0:n<0
 · rw[if_pos h0]
   have:=bS (k:=3) (n:=(-n).toNat) (by simp;omega)
   simp;omega
 · rw[if_neg h0]
   have:=bS (k:=3) (n:=n.toNat) (by simp;omega)
   omega
theorem gO (s:List UInt8) (i:Nat): -1≤dQ s i∧dQ s i≤9999:=zK _
theorem fh {a:Int} {x y c:Bool} (h: (decide (a<0)||x)=c) (hx:0≤a→x=y): (decide (a<0)||y)=c:=by
 by_cases h0:0≤a
 · rw[← hx h0];exact h
 · rw[show decide (a<0)=true from decide_eq_true (by omega),Bool.true_or] at h ⊢; exact h
theorem aO6 {k:bB} {n:bA} (h: (!iv k n)=true):mT k n=(k,false):=if_neg (by simpa using h)
theorem aO7 {k:bB} {n:bA} (hb:k.held.length≤100000∧k.marks.length≤100000∧k.inbox.length≤100000) (h: (!iv k n)=false) (ht: (n.to != k.id)=true):
 mT k n=({k with held:=kD k.held n},decide (wrap64 ((aE (kD k.held n)).length+(aO k.marks).length)≤12)):=by
 have hl: (kD k.held n).length=k.held.length+1:=fT
 rw[aB,aF,aC (by omega)]
 exact(if_pos (by simpa using h)).trans (if_pos ht)
theorem aO8 {k:bB} {n:bA} (hb:k.held.length≤100000∧k.marks.length≤100000∧k.inbox.length≤100000) (h: (!iv k n)=false) (ht: (n.to != k.id)=false):
 mT k n=({k with inbox:=kD k.inbox n,marks:=oE k.marks ⟨n.frm,n.num,n.til⟩},decide (wrap64 ((aE k.held).length+(aO (oE k.marks ⟨n.frm,n.num,n.til⟩)).length)≤12)):=by
 have hl: (oE k.marks ⟨n.frm,n.num,n.til⟩).length=k.marks.length+1:=fT
 rw[aB,aF,aC (by omega)]
 exact(if_pos (by simpa using h)).trans (if_neg (bn ht))
theorem aRn {k:bB} {a b:Int} (h:K6 k):KS (kz k a b).1:=by
 unfold kz
 split
 · refine⟨⟨?_,?_,by have:=h.1;simp only;omega⟩,fun x hx=>h.2.1 x (fd hx),h.2.2⟩
   · have:=h.1;have h1:=yI k.held (aW k.held a b).toNat;simp only;omega
   · have:=h.1;rw[vN,fT];omega
 · exact h.seven
theorem aRo {k:bB} {a b:Int} (h:K6 k):KS (lc k a b).1:=by
 unfold lc
 split
 · refine⟨⟨by have:=h.1;simp only;omega,by have:=h.1;simp only;omega,?_⟩,h.2.1,fun x hx=>h.2.2 x (fd hx)⟩
   have:=h.1;have h1:=yI k.inbox (aW k.inbox a b).toNat;simp only;omega
 · exact h.seven
theorem aF5 {k:bB} {n:bA} (h:K6 k) (hn:n.text.length≤140737488355328):KS (mT k n).1:=by
 unfold mT
 split
 · split
   · exact aDs h hn
   · refine⟨⟨by have:=h.1;simp only;omega,?_,?_⟩,h.2.1,?_⟩
     · have:=h.1;rw[vN,fT];omega
     · have:=h.1;rw[zM,fT];omega
     · intro x hx
       rw[zM,yG] at hx
       rcases hx with rfl|hx
       · exact hn
       · exact h.2.2 x hx
 · exact h.seven
theorem nG {c:Prop} [Decidable c] {a b:bB×Bool} (ha:KS a.1) (hb:KS b.1):KS (if c then a else b).1:=by
 split
 · exact ha
 · exact hb
theorem pT {k:bB} {rec:List UInt8} (h:K6 k) (hr:rec.length≤1000000):KS (gD k rec).1:=by
 have ht: (eD (aP rec)).1.text.length≤140737488355328:=by
  have h1:=zP (aP rec)
  have h2:=uY rec
  omega
 have hm:KS {k with marks:=oE k.marks (hO (aP rec))}:=⟨⟨by have:=h.1;simp only;omega,by have:=h.1;simp only[vN,fT];omega,by have:=h.1;simp only;omega⟩,h.2⟩
 unfold gD
 exact nG (nG h.seven (vw h)) (nG (nG h.seven (aF5 (k:={k with next:=wrap64 (k.next+1)}) h ht)) (nG (nG h.seven (aF5 h ht)) (nG (nG h.seven h.seven)
  (nG (nG h.seven (nG (aDs h ht) (aF4 h ht))) (nG h.seven (nG (nG h.seven (aRn h)) (nG (nG h.seven (aRo h)) (nG (nG h.seven hm) h.seven))))))))
set_option linter.unusedVariables false
set_option linter.unusedSimpArgs false
theorem aWw {X:V} {a a':List UInt8} (e:a=a'): [(dH.t 0,K.v X),(.t 1,.v (Dv (.s a')))]=eV 0 [X,Dv (.s a)]:=by subst e;rfl
theorem lj {a b c d:Int} (h: ¬(a=c∧b=d)):cF a b c d= !cF c d a b:=by
 unfold cF
 by_cases h1:a=c
 · subst h1
   have h2: ¬b=d:=fun e=>h ⟨rfl,e⟩
   by_cases h3:b<d
   · simp[h3,Int.not_lt.2 (Int.le_of_lt h3)]
   · simp[h3,show d<b by omega]
 · by_cases h3:a<c
   · simp[h3,Int.not_lt.2 (Int.le_of_lt h3)]
     exact .inl fun e=>h1 e.symm
   · simp[h3,h1,show c<a by omega]
theorem tT {α:Type} {p q:α→Bool}: ∀{l:List α},(∀x∈l,p x=q x)→l.takeWhile p=l.takeWhile q∧l.dropWhile p=l.dropWhile q
 | [],_=>⟨rfl,rfl⟩
 |x::l,h=>by
  have hx:=h x (List.mem_cons_self ..)
  obtain⟨h1,h2⟩:=tT (l:=l) fun y hy=>h y (List.mem_cons_of_mem _ hy)
  simp only[List.takeWhile,List.dropWhile,hx,h1,h2,and_self]
theorem wc {l:List bA} {f m:Int} (h:aW l f m<0) {x:bA} (hx:x∈l): ¬(x.frm=f∧x.num=m):=by
 rintro⟨e1,e2⟩
 obtain⟨i,hi⟩:=List.mem_iff_getElem?.1 hx
 have hlt:=(aXb.1 hi).1
 rcases hG (oQ l f m) l.length 0 with h1|⟨k,h1,_,h2,_⟩
 · have h3:oQ l f m i=true:=by
    unfold oQ
    rw[aW7,hi]
    simp[e1,e2]
   have: ∀n j,j≤i→i<j+n→lE (oQ l f m) j n≠ -1:=by
    intro n
    induction n with
    |zero=>intro j h4 h5;omega
    |succ n ih=>
     intro j h4 h5
     unfold lE
     split
     · omega
     · rename_i h6
       by_cases e:j=i
       · subst e;exact absurd h3 h6
       · exact ih (j+1) (by omega) (by omega)
   exact this l.length 0 (aW6 _) (by omega) h1
 · rw[aW,h1] at h;omega
theorem wd {l:List cB} {f m:Int} (h:gR l f m<0) {x:cB} (hx:x∈l): ¬(x.frm=f∧x.num=m):=by
 rintro⟨e1,e2⟩
 obtain⟨i,hi⟩:=List.mem_iff_getElem?.1 hx
 have hlt:=(aXb.1 hi).1
 rcases hG (sA l f m) l.length 0 with h1|⟨k,h1,_,h2,_⟩
 · have h3:sA l f m i=true:=by
    unfold sA
    rw[aW7,hi]
    simp[e1,e2]
   have: ∀n j,j≤i→i<j+n→lE (sA l f m) j n≠ -1:=by
    intro n
    induction n with
    |zero=>intro j h4 h5;omega
    |succ n ih=>
     intro j h4 h5
     unfold lE
     split
     · omega
     · rename_i h6
       by_cases e:j=i
       · subst e;exact absurd h3 h6
       · exact ih (j+1) (by omega) (by omega)
   exact this l.length 0 (aW6 _) (by omega) h1
 · rw[gR,h1] at h;omega
theorem zS {l:List bA} {n:bA} (h:aW l n.frm n.num<0):kD l n=kC l n:=by
 obtain⟨h1,h2⟩:=tT (p:=fun x:bA=> !cF n.frm n.num x.frm x.num) (q:=fun x=>cF x.frm x.num n.frm n.num) (l:=l) fun x hx=>(lj (wc h hx)).symm
 unfold kD kC
 rw[h1,h2]
theorem iw {l:List cB} {n:cB} (h:gR l n.frm n.num<0):oE l n=qN l n:=by
 obtain⟨h1,h2⟩:=tT (p:=fun x:cB=> !cF n.frm n.num x.frm x.num) (q:=fun x=>cF x.frm x.num n.frm n.num) (l:=l) fun x hx=>(lj (wd h hx)).symm
 unfold oE qN
 rw[h1,h2]
theorem aL9 (k:bB) (n:bA):iv k n=bf k n:=by
 unfold iv bf
 cases decide (aW k.inbox n.frm n.num<0)<;>cases decide (gR k.marks n.frm n.num<0)<;>simp
def qP (k:bB) (x y:bB×Bool):Prop:=mA k x=mA k y
theorem qP.rfl {k:bB} {x:bB×Bool}:qP k x x:=Eq.refl _
theorem qP.of {k:bB} {x y:bB×Bool} (h:x=y):qP k x y:=h▸qP.rfl
theorem qQ {k:bB} {x:bB×Bool} (h:x.2=false∨dJ x.1=false):mA k x=(k,false):=by
 unfold mA
 rw[if_neg]
 rcases h with h|h<;>simp[h]
theorem qP.no {k:bB} {x y:bB×Bool} (h:x.2=false∨dJ x.1=false) (h':y.2=false∨dJ y.1=false):qP k x y:=(qQ h).trans (qQ h').symm
theorem we {k0 k:bB} (n:bA):qP k0 (iI k n) (mT k n):=by
 unfold iI mT
 rw[aL9]
 cases hf:bf k n with
 |false=>exact .of (by simp)
 |true=>
  have h2:=hf
  simp only[bf,aW4,decide_eq_true_eq] at h2
  obtain⟨⟨⟨⟨_,_⟩,q1⟩,q2⟩,q3⟩:=h2
  have hm: (qN k.marks ⟨n.frm,n.num,n.til⟩).length=k.marks.length+1:=fT
  have hh: (kC k.held n).length=k.held.length+1:=fT
  rw[zS q1,zS q2,iw (n:=⟨n.frm,n.num,n.til⟩) q3,hm,hh]
  by_cases hl: (k.held.length:Int)+k.marks.length+1≤12
  · have e1:decide ((k.held.length:Int)+k.marks.length+1≤12)=true:=decide_eq_true hl
    have e2:decide (((k.held.length+1:Nat):Int)+k.marks.length≤12)=true:=decide_eq_true (by omega)
    have e3:decide ((k.held.length:Int)+((k.marks.length+1:Nat):Int)≤12)=true:=decide_eq_true (by omega)
    rw[e1,e2,e3]
    by_cases ht:n.to=k.id
    · simp[ht];exact .rfl
    · simp[ht];exact .rfl
  · have e1:decide ((k.held.length:Int)+k.marks.length+1≤12)=false:=decide_eq_false hl
    have e2:decide (((k.held.length+1:Nat):Int)+k.marks.length≤12)=false:=decide_eq_false (by omega)
    have e3:decide ((k.held.length:Int)+((k.marks.length+1:Nat):Int)≤12)=false:=decide_eq_false (by omega)
    rw[e1,e2,e3]
    refine .no (.inl (by simp)) (.inl ?_)
    by_cases ht:n.to=k.id<;>simp[ht]
theorem uZ {s:List UInt8} {n:Nat} (h:jN s=some n):jZ n=s∧1≤s.length∧s.length≤5:=by
 unfold jN at h
 split at h
 · rename_i hc
   cases h
   exact⟨(wG hc.1.1 hc.2.2).2 hc.2.1,hc.1.1,hc.1.2⟩
 · cases h
theorem aO9 {s:List UInt8} {n:Nat} (h:jN s=some n) (h5:4<s.length):10000≤n:=by
 obtain⟨h1,_,_⟩:=uZ h
 by_cases hn:n<10 ^ (3+1)
 · have:=bS hn
   rw[h1] at this;omega
 · simpa using hn
theorem wg {s:List UInt8} {n:Nat} (h:jN s=some n) (hn:n<10000):gS s=n:=by
 have hl:s.length≤4:=by
  by_cases h5:4<s.length
  · have:=aO9 h h5;omega
  · omega
 rw[yC hl,h]
theorem aB8 {s:List UInt8} (h:jN s=none):gS s= -1:=by
 by_cases hl:s.length≤4
 · rw[yC hl,h]
 · unfold gS
   rw[if_neg (by omega)]
theorem aB9 {s:List UInt8} (h:4<s.length):gS s= -1:=by
 unfold gS
 rw[if_neg (by omega)]
theorem aF6 {k:bB} {n:Int} (h:999<n):dJ (kU k n)=false:=by
 cases hk:dJ (kU k n) with
 |false=>rfl
 |true=>
  obtain⟨⟨_,⟨_,h2⟩,_⟩,_⟩:=(cC _).1 hk
  simp only[kU] at h2
  omega
theorem aPa {k:bB} {n:Int} (h:100<n):dJ {k with next:=n}=false:=by
 cases hk:dJ {k with next:=n} with
 |false=>rfl
 |true=>
  obtain⟨⟨_,_,⟨_,h2⟩,_⟩,_⟩:=(cC _).1 hk
  simp only at h2
  omega
theorem sC {s:List UInt8} {n:Nat} (h:jN s=some n):jE s=n:=by rw[jE,h]
theorem aIv {k:bB} (hk:dJ k=true) (r:List UInt8):qP k (if(jN r).isSome then lF k jH (jE r) else(k,false)) (if gS r≤k.time then(k,false) else(kU k (gS r),true)):=by
 obtain⟨⟨_,⟨t0,t1⟩,_⟩,_⟩:=(cC _).1 hk
 cases h:jN r with
 |none=>
  rw[aB8 h,if_neg (show ¬((none:Option Nat).isSome=true) by simp),if_pos (show(-1:Int)≤k.time by omega)]
  exact .rfl
 |some n=>
  rw[sC h,if_pos (show(some n).isSome=true from rfl)]
  by_cases hn:n<10000
  · rw[wg h hn]
    by_cases ht:k.time<n
    · rw[if_neg (by omega)]
      exact .of (if_pos (by simp[ht]))
    · rw[if_pos (by omega)]
      exact .of ((if_neg (by simp[ht])).trans (if_neg (by simp[jH,jL])))
  · have hl:gS r= -1:=aB9 (by
     by_cases h5:4<r.length
     · exact h5
     · have:=uZ h
       have h6:=yC (s:=r) (by omega)
       rw[h] at h6
       have h7:=zK r
       simp only at h6
       omega)
    rw[hl,if_pos (by omega),lF,if_pos (by simp;omega)]
    exact .no (.inr (aF6 (by omega))) (.inl rfl)
theorem aIw {k:bB} (hk:dJ k=true) (r:List UInt8):qP k (if(jN r).isSome then lF k jL (jE r) else(k,false)) (if gS r≤k.next then(k,false) else({k with next:=gS r},true)):=by
 obtain⟨⟨_,_,⟨t0,t1⟩,_⟩,_⟩:=(cC _).1 hk
 cases h:jN r with
 |none=>
  rw[aB8 h,if_neg (show ¬((none:Option Nat).isSome=true) by simp),if_pos (show(-1:Int)≤k.next by omega)]
  exact .rfl
 |some n=>
  rw[sC h,if_pos (show(some n).isSome=true from rfl)]
  have e1: (jL==jH)=false:=by decide
  by_cases hn:n<10000
  · rw[wg h hn]
    by_cases ht:k.next<n
    · rw[if_neg (by omega)]
      exact .of ((if_neg (by simp[e1])).trans (if_pos (by simp[ht])))
    · rw[if_pos (by omega)]
      exact .of ((if_neg (by simp[e1])).trans (if_neg (by simp[ht])))
  · have hl:gS r= -1:=aB9 (by
     by_cases h5:4<r.length
     · exact h5
     · have:=uZ h
       have h6:=yC (s:=r) (by omega)
       rw[h] at h6
       have h7:=zK r
       simp only at h6
       omega)
    rw[hl,if_pos (by omega),lF,if_neg (by simp[e1]),if_pos (by simp;omega)]
    exact .no (.inr (aPa (by omega))) (.inl rfl)
theorem aMa {k:bB} (x:bA×Bool):qP k (if x.2 then gC k kE x.1 else(k,false)) (if !x.2||x.1.frm != k.id||x.1.num != k.next then(k,false) else mT {k with next:=wrap64 (k.next+1)} x.1):=by
 obtain⟨n,b⟩:=x
 cases b with
 |false=>exact .of (by simp)
 |true=>
  rw[if_pos (show(n,true).2=true from rfl)]
  show qP k (gC k kE n) (if(!true)||n.frm != k.id||n.num != k.next then(k,false) else mT {k with next:=wrap64 (k.next+1)} n)
  by_cases h:n.frm=k.id∧n.num=k.next
  · have hL:gC k kE n=iI {k with next:=wrap64 (k.next+1)} n:=if_pos (by simp[h])
    rw[hL,if_neg (by simp[h])]
    exact we n
  · have hL:gC k kE n=(k,false):=by
     refine(if_neg (by simp;exact fun a b=>h ⟨a,b⟩)).trans ((if_neg (by simp[kE,gK])).trans ?_)
     split
     · rfl
     · simp[kE,gY,fR]
    have hR: ((!true)||n.frm != k.id||n.num != k.next)=true:=by
     by_cases h1:n.frm=k.id
     · have h2: ¬n.num=k.next:=fun h2=>h ⟨h1,h2⟩
       simp[h2]
     · simp[h1]
    rw[hL,if_pos hR]
    exact .rfl
theorem aF7 {k:bB} (x:bA×Bool):qP k (if x.2 then gC k gK x.1 else(k,false)) (if !x.2||x.1.frm==k.id then(k,false) else mT k x.1):=by
 obtain⟨n,b⟩:=x
 cases b with
 |false=>exact .of (by simp)
 |true=>
  rw[if_pos (show(n,true).2=true from rfl)]
  show qP k (gC k gK n) (if(!true)||n.frm==k.id then(k,false) else mT k n)
  by_cases h:n.frm=k.id
  · have hL:gC k gK n=(k,false):=by
     refine(if_neg (by simp[gK,kE])).trans ((if_neg (by simp[h])).trans ?_)
     split
     · rfl
     · simp[gK,gY,fR]
    rw[hL,if_pos (by simp[h])]
    exact .rfl
  · have hL:gC k gK n=iI k n:=(if_neg (by simp[gK,kE])).trans (if_pos (by simp[h]))
    rw[hL,if_neg (by simp[h])]
    exact we n
theorem aIx {k:bB} (w:List UInt8) (hw:w=gY∨w=fR) (x:bA×Bool):qP k (if x.2 then gC k w x.1 else(k,false))
 (if !x.2||decide (aW k.held x.1.frm x.1.num≥0)||decide (aW k.inbox x.1.frm x.1.num≥0) then(k,false)
  else if w==gY then({k with held:=kD k.held x.1},true) else({k with inbox:=kD k.inbox x.1},true)):=by
 obtain⟨n,b⟩:=x
 cases b with
 |false=>exact .of (by simp)
 |true=>
  have e1: (w==kE)=false:=by rcases hw with rfl|rfl<;>decide
  have e2: (w==gK)=false:=by rcases hw with rfl|rfl<;>decide
  rw[if_pos (show(n,true).2=true from rfl)]
  show qP k (gC k w n) (if(!true)||decide (aW k.held n.frm n.num≥0)||decide (aW k.inbox n.frm n.num≥0) then(k,false)
   else if w==gY then({k with held:=kD k.held n},true) else({k with inbox:=kD k.inbox n},true))
  by_cases h:0≤aW k.held n.frm n.num∨0≤aW k.inbox n.frm n.num
  · have hL:gC k w n=(k,false):=(if_neg (by simp[e1])).trans ((if_neg (by simp[e2])).trans (if_pos (by simpa using h)))
    rw[hL,if_pos (by simpa using h)]
    exact .rfl
  · have h1:aW k.held n.frm n.num<0:=by omega
    have h2:aW k.inbox n.frm n.num<0:=by omega
    have h3: ¬(decide (0≤aW k.held n.frm n.num)||decide (0≤aW k.inbox n.frm n.num))=true:=by simpa using h
    have h4: ¬((!true)||decide (aW k.held n.frm n.num≥0)||decide (aW k.inbox n.frm n.num≥0))=true:=by simpa using h
    rw[if_neg h4]
    rcases hw with rfl|rfl
    · have hL:gC k gY n=({k with held:=kC k.held n},true):=(if_neg (by simp[e1])).trans ((if_neg (by simp[e2])).trans ((if_neg h3).trans (if_pos (by decide))))
      rw[hL,if_pos (by decide),zS h1]
      exact .rfl
    · have hL:gC k fR n=({k with inbox:=kC k.inbox n},true):=(if_neg (by simp[e1])).trans ((if_neg (by simp[e2])).trans ((if_neg h3).trans ((if_neg (by decide)).trans (if_pos (by decide)))))
      rw[hL,if_neg (by decide),zS h2]
      exact .rfl
end Go.Ab
