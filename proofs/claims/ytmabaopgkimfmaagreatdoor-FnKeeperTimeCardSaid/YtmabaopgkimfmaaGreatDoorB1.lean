/- Plain functions, and contracts of the functions that the law reaches. -/
import Derived.Laws.StructEq
import Derived.Sort.Grow
import Derived.Deep.Draws
import Derived.Lib.Split
import Derived.Lib.IndexMore
import Derived.Lib.IndexBytes
import Derived.Lib.CountLaws
import Derived.Test.YtmabaopgkimfmaaGreatDoorB0
set_option maxHeartbeats 12800000
namespace Go.Ab
open Int renaming toNat_natCast→aXy
open List renaming length_append→aXz,length_cons→aX1,length_nil→aX2,length_take→aX4,getD_eq_getElem?_getD→aX6,length_drop→aX7,getElem?_eq_getElem→aX9,getElem?_eq_some_iff→aYa,range→aYb,mem_map→aYc,all_eq_true→aYd,take_length→aYe
open Nat renaming le_of_ble_eq_true→aX0,zero_le→aX5,le_refl→aX8
open Bool renaming and_eq_true→aX3
open Go Go.RowKit
set_option linter.unusedVariables false
set_option linter.unusedSimpArgs false
def toI:D→Int| .i n=>n|_=>0
def toU:D→Int| .u n=>n|_=>0
def toB:D→Bool| .b x=>x|_=>false
def toS:D→List UInt8| .s l=>l|_=>[]
def aRt:D→List (List D)| .sl r=>r|_=>[]
def aDk (z:C) (d:D):D:=match z with
 | .d (.i _)=> .i (toI d)
 | .d (.u _)=> .u (toU d)
 | .d (.b _)=> .b (toB d)
 | .d (.s _)=> .s (toS d)
 | .nil=> .sl (aRt d)
 |_=>d
def kY:List C→List D→Nat→List D
 | [],_,_=>[]
 |z::zs,cs,k=>aDk z (cs.getD k (.i 0))::kY zs cs (k+1)
def kc (ti:TI) (l:List D):Option V:=if ti.kind.agg then some (.e (.agg (l.map C.d))) else match l with|d::_=>some (Dv d)| []=>none
def aH7 (T:hZ) (σ:St) (t:TypeId):V→Option (Prop×List (dK×Option K)×V)
 | .e (.c (.pe ob n i k))=>match T t,aV σ (.o ob) with
  |some ti,some (.row e es rows)=>match kc ti (kY ti.zero (rows.getD i []) k) with
   |some X=>some ((rows.length=n∧i<n)∧k+ti.size≤(rows.getD i []).length∧((rows.getD i []).drop k).take ti.size=kY ti.zero (rows.getD i []) k,[(.o ob,some (.row e es rows))],X)
   |none=>none
  |_,_=>none
 | .e (.c (.rp cs))=>match T t with
  |some ti=>match kc ti (kY ti.zero cs 0) with
   |some X=>some (ti.size≤cs.length∧cs.take ti.size=kY ti.zero cs 0,[],X)
   |none=>none
  |none=>none
 |X=>ut T σ t X
theorem rm {ti:TI} {l:List D} {X:V} (h:kc ti l=some X): (ti.kind.agg=true∧X= .e (.agg (l.map C.d)))∨(ti.kind.agg=false∧ ∃d r,l=d::r∧X=Dv d):=by
 unfold kc at h
 split at h
 · rename_i ha;cases h;exact .inl ⟨ha,rfl⟩
 · rename_i ha
   split at h
   · cases h;exact .inr ⟨by simpa using ha,_,_,rfl,rfl⟩
   · cases h
theorem aH8 {P:Program} {T:hZ} (hT:dV P T) {σ:St} {t:TypeId} {X:V} {p:Prop} {R:List (dK×Option K)} {Y:V} (h:aH7 T σ t X=some (p,R,Y)) (hp:p): ∃q,ut T σ t X=some (q,R,Y)∧q:=by
 have hd: ∀(l:List D) (k n:Nat) (m:List D) (d:D) (r:List D),0<n→k+n≤l.length→(l.drop k).take n=m→m=d::r→l.getD k (.i 0)=d∧k<l.length:=by
  intro l k n m d r hn hk h1 h2
  subst h1
  cases n with
  |zero=>omega
  |succ n=>
   have hk':k<l.length:=by omega
   rw[List.drop_eq_getElem_cons hk',List.take_succ_cons] at h2
   cases h2
   exact⟨by rw[aX6,aX9 hk'];rfl,hk'⟩
 unfold aH7 at h
 split at h
 · rename_i ob n i k
   split at h<;>try(cases h;done)
   rename_i ti e es rows ht hl
   split at h<;>try(cases h;done)
   rename_i Z hz
   cases h
   obtain⟨⟨h1,h2⟩,h3,h4⟩:=hp
   simp only[ut,ht,hl]
   rcases rm hz with⟨ha,rfl⟩|⟨ha,d,r,hm,rfl⟩
   · rw[aC ha]
     refine⟨_,by rw[h4],?_⟩;exact⟨h1,h2,h3⟩
   · rw[aB (by simp[ha])]
     obtain⟨q1,q2⟩:=hd _ _ _ _ d r (hT t ti ht).pos h3 h4 hm
     refine⟨_,by rw[q1],?_⟩;exact⟨h1,h2,q2⟩
 · rename_i cs
   split at h<;>try(cases h;done)
   rename_i ti ht
   split at h<;>try(cases h;done)
   rename_i Z hz
   cases h
   obtain⟨h3,h4⟩:=hp
   simp only[ut,ht]
   rcases rm hz with⟨ha,rfl⟩|⟨ha,d,r,hm,rfl⟩
   · rw[aC ha]
     refine⟨_,by rw[h4],?_⟩;exact h3
   · rw[aB (by simp[ha])]
     obtain⟨q1,q2⟩:=hd cs 0 _ _ d r (hT t ti ht).pos (by simpa using h3) (by simpa using h4) hm
     refine⟨_,by rw[q1],?_⟩;exact q2
 · exact⟨p,h,hp⟩
theorem aLr {P:Program} {o:Oper} {σ:St} {x:Operand} {d:Option Tmp} {f g:V→Option (Prop×List (dK×Option K)×V)} (hfg: ∀X p R Y,g X=some (p,R,Y)→p→ ∃q,f X=some (q,R,Y)∧q)
 (h:lU P o σ (jP σ x d f)):lU P o σ (jP σ x d g):=by
 intro p R W hg hp
 unfold jP at hg
 split at hg<;>try(cases hg;done)
 rename_i X Rx d hx
 split at hg<;>try(cases hg;done)
 rename_i p' R' Y hgx
 cases hg
 obtain⟨q,h1,h2⟩:=hfg _ _ _ _ hgx hp
 exact h q _ _ (by simp only[jP,hx,h1]) h2
theorem cj {P:Program} {w:World} {t:TypeId} (hu:P.underlying t=some .bool) (x y:Bool): (Op.equal t (.bool x) (.bool y)).run P w= .ok (x==y) w:=by
 unfold Op.equal
 rw[show Op.maxDepth=(Op.maxDepth - 1)+1 from rfl]
 unfold Op.equalIn
 rw[Sem.run_bind,run_underlying hu];rfl
theorem ck {P:Program} {w:World} {t:TypeId} (hu:P.underlying t=some .bool) (x y:Bool) (ox oy:Operand):
 (do eqGuard .eql t ox oy (.bool x) (.bool y);binOp .eql t (.bool x) (.bool y):Sem Value).run P w= .ok (.bool (x==y)) w∧
 (do eqGuard .neq t ox oy (.bool x) (.bool y);binOp .neq t (.bool x) (.bool y):Sem Value).run P w= .ok (.bool (!(x==y))) w:=by
 constructor
 · rw[Sem.run_bind,xT,Result.andThen_ok]
   show(do pure (.bool (← Op.equal t (.bool x) (.bool y))):Sem Value).run P w=_
   rw[Sem.run_bind,cj hu];rfl
 · rw[Sem.run_bind,xT,Result.andThen_ok]
   show(do pure (.bool (!(← Op.equal t (.bool x) (.bool y)))):Sem Value).run P w=_
   rw[Sem.run_bind,cj hu];rfl
def aOc (T:hZ) (t:TypeId) (op:BinOp):V→V→Option (Prop×List (dK×Option K)×V)
 | .e (.c (.d (.b x))),.e (.c (.d (.b y)))=>match T t with
  |some ti=>match ti.kind,op with
   | .bool,.eql=>some (True,[],B (x==y))
   | .bool,.neq=>some (True,[],B (!(x==y)))
   |_,_=>none
  |none=>none
 |X,Y=>aQb op X Y
def aOd (T:hZ) (t:TypeId) (op:BinOp):V→V→Option (Prop×List (dK×Option K)×V)
 | .e (.c (.d (.b x))),.e (.c (.d (.b y)))=>match T t with
  |some ti=>match ti.kind,op with
   | .bool,.eql=>some (True,[],B (x==y))
   | .bool,.neq=>some (True,[],B (!(x==y)))
   |_,_=>none
  |none=>none
 |X,Y=>none
theorem aLs {P:Program} {T:hZ} (hT:dV P T) {o:Oper} {σ0:St} {op:BinOp} {t u:TypeId} {x y:Operand} (ho:o.op= .binOp op t x y u):lU P o σ0 (rV σ0 x y o.dst (aOd T t op)):=by
 refine rZ fun X Y p R Z h hp=> ?_
 unfold aOd at h
 split at h
 · rename_i a b
   split at h<;>try(cases h;done)
   rename_i ti ht
   have hk: (ti.kind= .bool∧op= .eql∧R=[]∧Z=B (a==b))∨(ti.kind= .bool∧op= .neq∧R=[]∧Z=B (!(a==b))):=by
    split at h
    · rename_i hk;cases h;exact .inl ⟨hk,rfl,rfl,rfl⟩
    · rename_i hk;cases h;exact .inr ⟨hk,rfl,rfl,rfl⟩
    · cases h
   have hu:=(hT t ti ht).kind
   have hkk:ti.kind= .bool:=by rcases hk with h|h<;>exact h.1
   rw[hkk] at hu;simp only[mM] at hu
   rcases hk with⟨_,rfl,rfl,rfl⟩|⟨_,rfl,rfl,rfl⟩
   all_goals
    refine⟨bV.nil,fun cx σ ι S ac w _ _ hx hy=> ?_⟩
    simp only[mI,ER,CR] at hx hy
    cases hv:ac.eval x<;>rw[hv] at hx<;>cases hx
    cases hv2:ac.eval y<;>rw[hv2] at hy<;>cases hy
   · refine⟨_,?_,.b _⟩
     have:=(ck (w:=w) hu a b x y).1
     unfold execOp;simp only[ho,hv,hv2];rw[Sem.run_bind,this];rfl
   · refine⟨_,?_,.b _⟩
     have:=(ck (w:=w) hu a b x y).2
     unfold execOp;simp only[ho,hv,hv2];rw[Sem.run_bind,this];rfl
 · cases h
theorem aLt {P:Program} {T:hZ} (hT:dV P T) {o:Oper} {σ0:St} {op:BinOp} {t u:TypeId} {x y:Operand} (ho:o.op= .binOp op t x y u):lU P o σ0 (rV σ0 x y o.dst (aOc T t op)):=by
 intro p R W h hp
 unfold rV at h
 split at h<;>try(cases h;done)
 rename_i X Rx Y Ry d hd hx hy
 split at h<;>try(cases h;done)
 rename_i p' R' Z hf
 cases h
 unfold aOc at hf
 split at hf
 · exact aLs (P:=P) (σ0:=σ0) hT ho p _ _ (by simp only[rV,hx,hy,hd,aOd];simp only[hf]) hp
 · exact aE4 (P:=P) (σ:=σ0) ho p _ _ (by simp only[rV,hx,hy,hf,hd]) hp
def aH9 (T:hZ) (o:Oper) (σ:St) (s d:TypeId) (x:Operand):Res:=
 match T s,T d with
 |some si,some di=>match si.kind,di.kind with
  | .sl e,.str=>match T e with
   |some ei=>match ei.kind with
    | .int .u8=>jP σ x o.dst (aUm σ)
    |_=>none
   |none=>none
  | .str,.sl e=>match T e with
   |some ei=>match ei.kind with
    | .int .u8=>aUn σ x e o.dst
    |_=>none
   |none=>none
  |_,_=>aBm T o σ
 |_,_=>none
def aIa (T:hZ) (o:Oper) (σ:St) (c:Call):Res:=
 match c.callee,c.args.toList,c.argTypes.toList with
 | .builtin .copy,[x,y],[t,t2]=>aN4 T σ t t2 x y o.dst
 |_,_,_=>aBm T o σ
def aDl (T:hZ) (o:Oper) (σ:St):Res:=
 match o.op with
 | .load t x=>jP σ x o.dst (aH7 T σ t)
 | .binOp op t x y u=>rV σ x y o.dst (aOc T t op)
 | .convert s d x=>aH9 T o σ s d x
 | .call c=>aIa T o σ c
 |_=>aBm T o σ
theorem aIb {P:Program} {T:hZ} (hT:dV P T) {o:Oper} {σ:St} {s d:TypeId} {x:Operand} (ho:o.op= .convert s d x):lU P o σ (aH9 T o σ s d x):=by
 unfold aH9
 split
 · rename_i si di hs hd
   split
   · rename_i e hk1 hk2
     split
     · rename_i ei he
       split
       · rename_i hek
         exact aN2 hT ho hs hk1 he hek hd hk2
       · exact oM
     · exact oM
   · rename_i e hk1 hk2
     split
     · rename_i ei he
       split
       · rename_i hek
         exact aN3 hT ho hs hk1 he hek hd hk2
       · exact oM
     · exact oM
   · exact yZ hT o σ
 · exact oM
theorem aIc {P:Program} {T:hZ} (hT:dV P T) {o:Oper} {σ:St} {c:Call} (ho:o.op= .call c):lU P o σ (aIa T o σ c):=by
 obtain⟨callee,args,argTypes⟩:=c
 unfold aIa
 dsimp only
 split
 · rename_i x y t t2 ha hat
   obtain rfl:args= #[x,y]:=Array.toList_inj.1 (by simpa using ha)
   obtain rfl:argTypes= #[t,t2]:=Array.toList_inj.1 (by simpa using hat)
   exact aLj hT ho
 · exact yZ hT o σ
theorem rn {P:Program} {T:hZ} (hT:dV P T) (o:Oper) (σ:St):lU P o σ (aDl T o σ):=by
 unfold aDl
 split
 · rename_i ho;exact aLr (fun X p R Y h hp=>aH8 hT h hp) (aBi hT ho)
 · rename_i ho;exact aLt hT ho
 · rename_i ho;exact aIb hT ho
 · rename_i ho;exact aIc hT ho
 · exact yZ hT o σ
def aKg:dK→dK→Bool
 | .t a,.t b=>Nat.beq a b
 | .o a,.o b=>Nat.beq a b
 |_,_=>false
theorem aBp {a b:dK}:aKg a b=true↔a=b:=by
 cases a<;>cases b<;>simp[aKg]
def oh:St→dK→K→(St→Prop)→Prop
 | [],m,k,c=>c [(m,k)]
 |p::r,m,k,c=>match aKg p.1 m with
  |true=>c ((m,k)::r)
  |false=>oh r m k fun r'=>c (p::r')
theorem nW: ∀{σ:St} {m:dK} {k:K} {c:St→Prop},oh σ m k c↔c (qM σ m k)
 | [],m,k,c=>Iff.rfl
 |p::r,m,k,c=>by
  unfold oh qM
  by_cases h:p.1=m
  · rw[aBp.2 h,aC h]
  · have:aKg p.1 m=false:=by rw[← Bool.not_eq_true,aBp];exact h
    rw[this,aB h]
    exact nW
def aDm:List C→(List C→Prop)→Prop
 | [],c=>c []
 |x::r,c=>aDm r fun r'=>c (x::r')
theorem vh: ∀{l:List C} {c:List C→Prop},aDm l c↔c l
 | [],c=>Iff.rfl
 |x::r,c=>by unfold aDm;exact vh
def aId:K→(K→Prop)→Prop
 | .box ty cs,c=>aDm cs fun cs'=>c (.box ty cs')
 |k,c=>c k
theorem aIe {k:K} {c:K→Prop}:aId k c↔c k:=by
 cases k<;>simp only[aId]
 exact vh
def nC:St→List (dK×K)→(St→Prop)→Prop
 |σ,[],c=>c σ
 |σ,p::r,c=>aId p.2 fun k=>oh σ p.1 k fun σ'=>nC σ' r c
theorem jW: ∀{W:List (dK×K)} {σ:St} {c:St→Prop},nC σ W c↔c (iP σ W)
 | [],σ,c=>Iff.rfl
 |p::r,σ,c=>by unfold nC iP;rw[aIe,nW];exact jW
def aKh (P:Program) (T:hZ) (o:Oper) (σ:St) (k:List (dK×Option K)→List (dK×K)→Prop):Prop:=
 match aDl T o σ with
 |some (p,R,W)=>p∧k R W
 |none=> ∃R W,vW P o R W∧bV R σ∧k R W
theorem ro {P:Program} {T:hZ} (hT:dV P T) {o:Oper} {σ:St} {k:List (dK×Option K)→List (dK×K)→Prop} (h:aKh P T o σ k): ∃R W,vW P o R W∧bV R σ∧k R W:=by
 unfold aKh at h
 split at h
 · rename_i p R W he
   obtain⟨h1,h2⟩:=rn hT o σ p R W he h.1
   exact⟨R,W,h1,h2,h.2⟩
 · exact h
def goS (P:Program) (T:hZ) (ops:List Oper) (dr:Bool):List Oper→St→List bz→(St→List bz→Prop)→Prop
 | [],σ,acc,k=>k σ acc
 |o::os,σ,acc,k=>match o.guard with
  |none=>aKh P T o σ fun R W=>nC σ W fun σ'=>goS P T ops dr os σ' (match dr with|true=>acc++[pD (R,W)]|false=>[]) k
  |some (j,want)=>match(ops[j]?).bind (·.dst) with
   |some s=>match aV σ (.t s) with
    |some (.v (.e (.c (.d (.b x)))))=>
     (x=want→aKh P T o σ fun R W=>nC σ W fun σ'=>goS P T ops dr os σ' (match dr with|true=>acc++[pD ((.t s,none)::R,W)]|false=>[]) k)∧
     (x= !want→nC σ (aBn o) fun σ'=>goS P T ops dr os σ' (match dr with|true=>acc++[pD ([(.t s,none)],aBn o)]|false=>[]) k)
    |_=>False
   |none=>False
theorem yA {P:Program} {T:hZ} (hT:dV P T) {ops:Array Oper} {dr:Bool} {k:St→List bz→Prop}: ∀(l:List Oper) (σ:St) (acc:List bz),goS P T ops.toList dr l σ acc k→
 ∃ts:List mN,xX P ops l ts∧kG ts σ∧ ∃acc',(dr=true→acc'=acc++ts.map pD)∧k (eY ts σ) acc'
 | [],σ,acc,h=>⟨[],trivial,trivial,acc,fun _=>by simp,by simpa[goS,eY] using h⟩
 |o::os,σ,acc,h=>by
  simp only[goS] at h
  split at h
  · rename_i hg
    obtain⟨R,W,h1,h2,h3⟩:=ro hT h
    rw[jW] at h3
    obtain⟨ts,q1,q2,acc',q3,q4⟩:=yA hT os _ _ h3
    refine⟨(R,W)::ts,⟨xW hg h1,q1⟩,⟨h2,q2⟩,acc',fun hd=> ?_,by simpa[eY] using q4⟩
    rw[q3 hd];subst hd;simp
  · rename_i j want hg
    split at h<;>try(exact h.elim)
    rename_i s hs
    split at h<;>try(exact h.elim)
    rename_i x hl
    have hs': (ops[j]?).bind (·.dst)=some s:=by simpa using hs
    by_cases hx:x=want
    · subst hx
      obtain⟨R,W,h1,h2,h3⟩:=ro hT (h.1 rfl)
      rw[jW] at h3
      obtain⟨ts,q1,q2,acc',q3,q4⟩:=yA hT os _ _ h3
      refine⟨((.t s,some (.v (B x)))::R,W)::ts,⟨aE9 hg hs' h1,q1⟩,⟨fun p hp=> ?_,q2⟩,acc',fun hd=> ?_,by simpa[eY] using q4⟩
      · rcases List.mem_cons.1 hp with rfl|hp
        · exact hl
        · exact h2 p hp
      · rw[q3 hd];subst hd;simp[pD]
    · have hx':x= !want:=by cases x<;>cases want<;>simp_all
      have h3:=h.2 hx'
      rw[jW] at h3
      obtain⟨ts,q1,q2,acc',q3,q4⟩:=yA hT os _ _ h3
      subst hx'
      refine⟨([(.t s,some (.v (B (!want))))],aBn o)::ts,⟨aJ9 hg hs' rfl,q1⟩,⟨bV.one hl,q2⟩,acc',fun hd=> ?_,by simpa[eY] using q4⟩
      rw[q3 hd];subst hd;simp[pD]
section
variable {P:Program} {io:List Nat} {Q:Ex→St→Prop} {σ:St}
theorem SW.text {T:hZ} (hT:dV P T) (hm:P.follows .mixedOrders=true) {id:Nat} {ops:Array Oper} (h:goS P T ops.toList false ops.toList σ [] fun σ' _=>Q .norm σ'):SW P io (.region id ops false) Q σ:=by
 intro cx ι S a w hio hw hf
 have hfit: ∀o∈ops.toList,∀d,o.dst=some d→d<cx.N:=fun o ho=>wY (by simpa[tJ] using hf) ho
 obtain⟨ts,h1,h2,acc,_,h4⟩:=yA hT ops.toList σ [] h
 exact wp_region_list (yU ops.toList ts σ ι S a w h1 h2 hw hfit fun ι' S' a' w' hw'=>⟨_,ι',S',h4,hw'⟩)
theorem SW.drawn {T:hZ} (hT:dV P T) (hm:P.follows .mixedOrders=true) {id:Nat} {ops:Array Oper} (h:goS P T ops.toList true ops.toList σ [] fun σ' ns=>vC ops.toList ns=true∧Q .norm σ'):SW P io (.region id ops true) Q σ:=by
 intro cx ι S a w hio hw hf
 have hfit: ∀o∈ops.toList,∀d,o.dst=some d→d<cx.N:=fun o ho=>wY (by simpa[tJ] using hf) ho
 obtain⟨ts,h1,h2,acc,h3,h4,h5⟩:=yA hT ops.toList σ [] h
 have h3:=h3 rfl
 rw[List.nil_append] at h3
 subst h3
 have hlen: ∀(l:List Oper) (ts:List mN),xX P ops l ts→ts.length=l.length∧ ∀(i:Nat) o t,l[i]? =some o→ts[i]? =some t→ItT P ops o t:=by
  intro l
  induction l with
  |nil=>intro ts h;cases ts with
   |nil=>exact⟨rfl,by simp⟩
   |cons t ts=>exact h.elim
  |cons o os ih=>intro ts h;cases ts with
   |nil=>exact h.elim
   |cons t ts=>
    obtain⟨q1,q2⟩:=ih ts h.2
    refine⟨by simp[q1],fun i o' t' ho ht=> ?_⟩
    cases i with
    |zero=>simp at ho ht;subst ho;subst ht;exact h.1
    |succ i=>exact q2 i o' t' (by simpa using ho) (by simpa using ht)
 obtain⟨q1,q2⟩:=hlen _ _ h1
 refine wp_region_any hm (xY (cx:=cx) (σ:=σ) (ts:=ts) (by simpa using q1) (fun i o t ho ht=>q2 i o t (by simpa using ho) ht) h2 (by simpa[pL,vC] using h4) hfit (fun ι' S' a' w' hw'=>⟨_,ι',S',h5,hw'⟩)
  ops.size (Array.replicate ops.size false) σ ι S a _ (by simp) (fun l=> ?_) hw.drew (fun k o ho hk=> ?_) ?_)
 · have hL: ∀i,(Array.replicate ops.size false).getD i false=false:=fun i=>by
    rw[Array.getD_eq_getD_getElem?,Array.getElem?_replicate];split<;>rfl
   have: ∀n,part ts (fun i=>(Array.replicate ops.size false).getD i false) σ l n=aV σ l:=by
    intro n
    induction n with
    |zero=>rfl
    |succ n ih=>rw[lX,aB (by rw[hL];simp),ih]
   rw[this]
 · rw[Array.getD_eq_getD_getElem?,Array.getElem?_replicate] at hk;split at hk<;>cases hk
 · exact Nat.le_trans (List.length_filter_le _ _) (by simp)
end
def keep (ks:List Nat):St→St
 | []=>[]
 |(.t s,k)::r=>match iS s ks with|true=>(.t s,k)::keep ks r|false=>keep ks r
 |(.o n,k)::r=>(.o n,k)::keep ks r
def qT (ks:List Nat):St→(St→Prop)→Prop
 | [],c=>c []
 |(.t s,k)::r,c=>match iS s ks with|true=>qT ks r fun r'=>c ((.t s,k)::r')|false=>qT ks r c
 |(.o n,k)::r,c=>qT ks r fun r'=>c ((.o n,k)::r')
theorem lY {ks:List Nat}: ∀{σ:St} {c:St→Prop},qT ks σ c↔c (keep ks σ)
 | [],c=>Iff.rfl
 |(.t s,k)::r,c=>by
  unfold qT keep
  cases iS s ks
  · exact lY
  · exact lY
 |(.o n,k)::r,c=>by unfold qT keep;exact lY
theorem nX (ks:List Nat): ∀(σ:St) (o:Nat),aV (keep ks σ) (.o o)=aV σ (.o o)
 | [],o=>rfl
 |(.t s,k)::r,o=>by
  unfold keep
  cases iS s ks
  · simp only[aV];rw[aB (by simp)];exact nX ks r o
  · simp only[aV];rw[aB (by simp),aB (by simp)];exact nX ks r o
 |(.o n,k)::r,o=>by
  unfold keep
  simp only[aV]
  rw[nX ks r o]
theorem wB (ks:List Nat): ∀(σ:St) (s:Nat) (k:K),aV (keep ks σ) (.t s)=some k→aV σ (.t s)=some k
 | [],s,k,h=>h
 |(.t a,x)::r,s,k,h=>by
  unfold keep at h
  cases hm:iS a ks with
  |false=>
   rw[hm] at h
   simp only[aV]
   by_cases e:a=s
   ·
    have hno: ∀(r:St),aV (keep ks r) (.t a)=none:=by
     intro r
     induction r with
     |nil=>rfl
     |cons p r ih=>
      obtain⟨l,y⟩:=p
      cases l with
      |o n=>unfold keep;simp only[aV];rw[aB (by simp)];exact ih
      |t b=>
       unfold keep
       cases hb:iS b ks with
       |false=>exact ih
       |true=>
        simp only[aV]
        by_cases e2:b=a
        · subst e2;rw[hm] at hb;cases hb
        · rw[aB (by simpa using e2)];exact ih
    subst e
    have h:aV (keep ks r) (.t a)=some k:=h
    rw[hno r] at h;cases h
   · rw[aB (by simpa using e)];exact wB ks r s k h
  |true=>
   rw[hm] at h
   simp only[aV] at h ⊢
   by_cases e:dK.t a=dK.t s
   · rw[aC e] at h ⊢; exact h
   · rw[aB e] at h ⊢; exact wB ks r s k h
 |(.o n,x)::r,s,k,h=>by
  unfold keep at h
  simp only[aV] at h ⊢
  rw[aB (by simp)] at h ⊢
  exact wB ks r s k h
theorem RW.keep (ks:List Nat) {P:Program} {cx:Cx P} {σ:St} {ι:Nat→Value} {S:Nat→Prop} {a:Act} {w:World} (h:RW cx σ ι S a w):RW cx (keep ks σ) ι S a w:=by
 have st:rS σ ι S w (Ab.keep ks σ) ι S w:=⟨fun _ h=>h,fun _ _=>rfl,fun o k hk=>⟨k,by rw[nX];exact hk,nU.refl' _ _⟩⟩
 have hmut: ∀o b,lJ (Ab.keep ks σ) ι o b↔lJ σ ι o b:=fun o b=>by unfold lJ;rw[nX]
 refine⟨⟨fun s x hx=>rU.step st (h.vr.slots s x (wB ks σ s _ hx)),fun o k hk=>OR.step st (fun _ _=>rfl) (h.vr.objs o k (by rw[← nX ks];exact hk)),fun o b q=>h.vr.mutS o b ((hmut o b).1 q),fun o o' b q q'=>h.vr.inj o o' b ((hmut o b).1 q) ((hmut o' b).1 q'),h.vr.sz⟩,
  h.size,h.defers,h.fr,fun o b q=>h.own o b ((hmut o b).1 q),h.rd,fun o k hk=>by rw[nX];exact h.io o k hk⟩
section
variable {P:Program} {io:List Nat} {Q:Ex→St→Prop} {σ:St}
theorem SW.keep (ks:List Nat) {c:Code} (h:qT ks σ (SW P io c Q)):SW P io c Q σ:=by
 rw[lY] at h
 intro cx ι S a w hio hw hf
 exact h cx ι S a w hio (hw.keep ks) hf
theorem SW.mid (J:St→Prop) {x y:Code} (h:SW P io x (jz J Q) σ) (hy: ∀s,J s→SW P io y Q s):SW P io (.seq x y) Q σ:=
 SW.seq (h.mono fun e s hq=>by
  cases e with
  |norm=>exact hy s hq
  |exit id=>exact hq
  |ret=>exact hq)
end
theorem eF {T:hZ} {io:List Nat} {rs:List ResultVar} {σout s:St} (X:V) (rl:List (Nat×Nat)) (bor:List Nat) (h1:aH0 T s rs=some X) (h2:mL ((.t 0,.v X)::eH s) σout rl bor σout) (h3:bd σout rl bor=true) (h4:vf io σout rl bor=true):be T io rs σout s:=
 ⟨X,rl,bor,h1,⟨h2,h3⟩,h4⟩
theorem bQ {T:hZ} {io:List Nat} {rs:List ResultVar} {s:St} {x y:D} (h1:aH0 T s rs=some (Dv x)) (h2:x=y):be T io rs [(.t 0,.v (Dv y))] s:=
 ⟨Dv x,[],[],h1,⟨⟨⟨Dv x,rfl,h2⟩,trivial⟩,rfl⟩,by simp[vf,cE];exact fun x _=> .inl rfl⟩
def gb (want x:Bool):Bool:=match want with|true=>x|false=> !x
def gOf (want:Bool):Option K→Option Bool
 |some (.v (.e (.c (.d (.b x)))))=>some (gb want x)
 |some (.cv _ _ b (.e (.c (.d (.b x)))))=>some (b&&gb want x)
 |_=>none
def kI (s:Nat) (want:Bool):St→St
 | []=>[]
 |(.t t,.cv s' want' b X)::r=>match Nat.beq s' s&&(want'==want) with
  |true=>(.t t,.v X)::kI s want r
  |false=>(.t t,.cv s' want' b X)::kI s want r
 |p::r=>p::kI s want r
def pA (σ:St):List (dK×Option K)→Prop
 | []=>True
 |p::r=>match aV σ p.1,p.2 with
  |some (.cv _ _ b _),some (.v _)=>b=true∧pA σ r
  |_,_=>pA σ r
def oi (σ:St) (R:List (dK×Option K)):List (dK×Option K):=R.map fun p=>(p.1,aV σ p.1)
theorem kN (s:Nat) (want:Bool): ∀(σ:St) (l:dK),aV (kI s want σ) l=aV σ l∨ ∃s' w' b X,aV σ l=some (.cv s' w' b X)∧aV (kI s want σ) l=some (.v X)
 | [],l=> .inl rfl
 |(.t t,.v X)::r,l=>by
  simp only[kI,aV]
  by_cases e:dK.t t=l
  · rw[aC e,aC e];exact .inl rfl
  · rw[aB e,aB e];exact kN s want r l
 |(.t t,.box a b)::r,l=>by
  simp only[kI,aV]
  by_cases e:dK.t t=l
  · rw[aC e,aC e];exact .inl rfl
  · rw[aB e,aB e];exact kN s want r l
 |(.t t,.row a b c)::r,l=>by
  simp only[kI,aV]
  by_cases e:dK.t t=l
  · rw[aC e,aC e];exact .inl rfl
  · rw[aB e,aB e];exact kN s want r l
 |(.t t,.dead)::r,l=>by
  simp only[kI,aV]
  by_cases e:dK.t t=l
  · rw[aC e,aC e];exact .inl rfl
  · rw[aB e,aB e];exact kN s want r l
 |(.t t,.zone a)::r,l=>by
  simp only[kI,aV]
  by_cases e:dK.t t=l
  · rw[aC e,aC e];exact .inl rfl
  · rw[aB e,aB e];exact kN s want r l
 |(.o t,k)::r,l=>by
  simp only[kI,aV]
  by_cases e:dK.o t=l
  · rw[aC e,aC e];exact .inl rfl
  · rw[aB e,aB e];exact kN s want r l
 |(.t t,.cv s' w' b X)::r,l=>by
  simp only[kI]
  cases Nat.beq s' s&&(w'==want) with
  |true=>
   simp only[aV]
   by_cases e:dK.t t=l
   · rw[aC e,aC e];exact .inr ⟨s',w',b,X,rfl,rfl⟩
   · rw[aB e,aB e];exact kN s want r l
  |false=>
   simp only[aV]
   by_cases e:dK.t t=l
   · rw[aC e,aC e];exact .inl rfl
   · rw[aB e,aB e];exact kN s want r l
theorem RW.reslot {P:Program} {cx:Cx P} {σ σ2:St} {ι:Nat→Value} {S:Nat→Prop} {a:Act} {w:World} (h:RW cx σ ι S a w) (ho: ∀o,aV σ2 (.o o)=aV σ (.o o)) (hs: ∀t k,aV σ2 (.t t)=some k→rU σ ι w S k (iZ a t)):RW cx σ2 ι S a w:=by
 have st:rS σ ι S w σ2 ι S w:=⟨fun _ h=>h,fun _ _=>rfl,fun o k hk=>⟨k,by rw[ho];exact hk,nU.refl' _ _⟩⟩
 have hmut: ∀o b,lJ σ2 ι o b↔lJ σ ι o b:=fun o b=>by unfold lJ;rw[ho]
 exact⟨⟨fun s x hx=>rU.step st (hs s x hx),fun o k hk=>OR.step st (fun _ _=>rfl) (h.vr.objs o k (by rw[← ho];exact hk)),fun o b q=>h.vr.mutS o b ((hmut o b).1 q),fun o o' b q q'=>h.vr.inj o o' b ((hmut o b).1 q) ((hmut o' b).1 q'),h.vr.sz⟩,
  h.size,h.defers,h.fr,fun o b q=>h.own o b ((hmut o b).1 q),h.rd,fun o k hk=>by rw[ho];exact h.io o k hk⟩
theorem vi {σ:St}: ∀{R:List (dK×Option K)},pA σ R→ ∀p∈R,∀s w b X Y,aV σ p.1=some (.cv s w b X)→p.2=some (.v Y)→b=true
 | [],_,p,hp=>by cases hp
 |q::r,h,p,hp=>by
  intro s w b X Y hl hy
  rcases List.mem_cons.1 hp with rfl|hp
  · simp only[pA,hl,hy] at h;exact h.1
  · refine vi (R:=r) ?_ p hp s w b X Y hl hy
    simp only[pA] at h
    split at h
    · exact h.2
    · exact h
theorem ic {P:Program} {cx:Cx P} {σ:St} {ι:Nat→Value} {S:Nat→Prop} {a:Act} {w:World} (hw:RW cx σ ι S a w) {ops:Array Oper} {o:Oper} {j s:Nat} {want g:Bool} (hg:o.guard=some (j,want)) (hs: (ops[j]?).bind (·.dst)=some s) (hl:gOf want (aV σ (.t s))=some g):
 Region.wanted o (yielded ops a.tmps)=g:=by
 have key: ∀x,iZ a s= .bool x→yielded ops a.tmps j=some x:=by
  intro x h2
  have h3:a.tmps[s]? =some (.bool x):=by
   unfold iZ at h2
   rw[Array.getD_eq_getD_getElem?] at h2
   cases hq:a.tmps[s]? with
   |none=>rw[hq] at h2;simp[undef] at h2
   |some v=>rw[hq] at h2;simp at h2;rw[h2]
  simp[yielded,hs,h3]
 have keyu:iZ a s=undef→yielded ops a.tmps j=none:=by
  intro h2
  unfold iZ at h2
  rw[Array.getD_eq_getD_getElem?] at h2
  cases hq:a.tmps[s]? with
  |none=>simp[yielded,hs,hq]
  |some v=>rw[hq] at h2;simp at h2;simp[yielded,hs,hq,h2,undef]
 unfold gOf at hl
 split at hl
 · rename_i x hx
   cases hl
   have h1:=hw.vr.slots s _ hx
   simp only[rU,mI,ER,CR] at h1
   have h2:iZ a s= .bool x:=by generalize iZ a s=v at h1;cases h1;rfl
   cases want<;>cases x<;>simp[Region.wanted,hg,key _ h2,gb]
 · rename_i s' w' b x hx
   cases hl
   have h1:=hw.vr.slots s _ hx
   cases b with
   |true=>
    have h1:=h1.1 rfl
    simp only[mI,ER,CR] at h1
    have h2:iZ a s= .bool x:=by generalize iZ a s=v at h1;cases h1;rfl
    cases want<;>cases x<;>simp[Region.wanted,hg,key _ h2,gb]
   |false=>
    have h2:=h1.2 rfl
    simp[Region.wanted,hg,keyu h2]
 · cases hl
theorem kO (s:Nat) (want:Bool): ∀(σ:St) (o:Nat),aV (kI s want σ) (.o o)=aV σ (.o o)
 | [],l=>rfl
 |(.o t,k)::r,l=>by
  simp only[kI,aV]
  rw[kO s want r l]
 |(.t t,.v X)::r,l=>by simp only[kI,aV];rw[aB (by simp),aB (by simp)];exact kO s want r l
 |(.t t,.box a b)::r,l=>by simp only[kI,aV];rw[aB (by simp),aB (by simp)];exact kO s want r l
 |(.t t,.row a b c)::r,l=>by simp only[kI,aV];rw[aB (by simp),aB (by simp)];exact kO s want r l
 |(.t t,.dead)::r,l=>by simp only[kI,aV];rw[aB (by simp),aB (by simp)];exact kO s want r l
 |(.t t,.zone a)::r,l=>by simp only[kI,aV];rw[aB (by simp),aB (by simp)];exact kO s want r l
 |(.t t,.cv s' w' b X)::r,l=>by
  simp only[kI]
  cases Nat.beq s' s&&(w'==want)<;>(simp only[aV];rw[aB (by simp),aB (by simp)];exact kO s want r l)
theorem uh: ∀{W:List (dK×K)} {l:dK} {k:K},wr W l=some k→(l,k)∈W
 | [],l,k,h=>by cases h
 |p::r,l,k,h=>by
  unfold wr at h
  cases hq:wr r l with
  |some k'=>rw[hq] at h;cases h;exact List.mem_cons_of_mem _ (uh hq)
  |none=>
   rw[hq] at h
   simp only at h
   split at h
   · rename_i e;cases h;rw[← e];exact List.mem_cons_self ..
   · cases h
def aVs (p:dK×Option K):Option (dK×K):=match p.2 with
 |some (.v X)=>some (p.1,.v X)
 |_=>none
theorem ui {P:Program} {ops:Array Oper} {o:Oper} {σ:St} {R:List (dK×Option K)} {X:V} {d j s:Nat} {want g:Bool} (hg:o.guard=some (j,want)) (hs: (ops[j]?).bind (·.dst)=some s) (hd:o.dst=some d) (hl:gOf want (aV σ (.t s))=some g)
 (hop:g=true→vW P o R [(.t d,.v X)]∧bV R (kI s want σ)) (hok:g=true→pA σ R):ItT P ops o ((.t s,aV σ (.t s))::oi σ R,[(.t d,.cv s want g X)]):=by
 intro cx σ1 ι S a w hr hw hb next Q hn
 have hls:aV σ1 (.t s)=aV σ (.t s):=hr (.t s,aV σ (.t s)) (List.mem_cons_self ..)
 have hact: ∀p∈R,aV σ1 p.1=aV σ p.1:=fun p hp=>hr (p.1,aV σ p.1) (List.mem_cons_of_mem _ (aYc.2 ⟨p,hp,rfl⟩))
 rw[ic hw hg hs (by rw[hls];exact hl)]
 have hdN:=hb d hd
 cases g with
 |false=>
  rw[aB (by simp)]
  rw[hd]
  have h1:=hw.putDead hdN undef
  refine hn ι S _ w (h1.reslot (fun o=>by simp only[iP];rw[cT _ _ (by simp),cT _ _ (by simp)]) fun t k hk=> ?_)
  simp only[iP] at hk
  rw[lV] at hk
  split at hk
  · rename_i e;cases e;cases hk
    refine⟨(by simp),fun _=> ?_⟩
    rw[gu (by rw[hw.size];exact hdN),aC rfl]
  · rename_i e
    exact h1.vr.slots t k (by rw[cT _ _ e];exact hk)
 |true=>
  rw[aC rfl]
  left
  obtain⟨hop,hrd⟩:=hop rfl
  have hok:=hok rfl
  let L:List (dK×K):=R.filterMap aVs
  have hL: ∀l k,(l,k)∈L→ ∃Y,k= .v Y∧aV (kI s want σ) l=some (.v Y)∧aV σ1 l=aV σ l∧(aV σ l=some (.v Y)∨ ∃s' w',aV σ l=some (.cv s' w' true Y)):=by
   intro l k hm
   obtain⟨p,hp,hpe⟩:=List.mem_filterMap.1 hm
   obtain⟨pl,pk⟩:=p
   unfold aVs at hpe
   split at hpe
   · rename_i e1 Y e2
     cases hpe
     simp only at e2 ⊢
     have h1:=hrd _ hp
     simp only at h1
     refine⟨Y,rfl,h1.trans e2,hact _ hp,?_⟩
     rcases kN s want σ pl with h3|⟨s2,w2,b2,X2,h3,h4⟩
     · left;rw[← h3,h1,e2]
     · rw[h4,e2] at h1;cases h1
       have:=vi hok _ hp _ _ _ _ _ h3 e2
       subst this
       exact .inr ⟨_,_,h3⟩
   · cases hpe
  have hσ2: ∀l,aV (iP σ1 L) l=aV σ1 l∨ ∃Y s' w',aV (iP σ1 L) l=some (.v Y)∧aV σ1 l=some (.cv s' w' true Y):=by
   intro l
   rw[lW]
   cases hq:wr L l with
   |none=>exact .inl rfl
   |some k=>
    obtain⟨Y,rfl,h1,h2,h3⟩:=hL l k (uh hq)
    rcases h3 with h3|⟨s',w',h3⟩
    · left;rw[h2,h3]
    · right;exact⟨Y,s',w',rfl,by rw[h2,h3]⟩
  have hσ2o: ∀o,aV (iP σ1 L) (.o o)=aV σ1 (.o o):=by
   intro o'
   rw[lW]
   cases hq:wr L (.o o') with
   |none=>rfl
   |some k=>
    obtain⟨Y,rfl,h1,h2,h3⟩:=hL _ k (uh hq)
    rw[kO] at h1
    rw[h2,h1]
  have hrw2:RW cx (iP σ1 L) ι S a w:=hw.reslot hσ2o fun t k hk=>by
   rcases hσ2 (.t t) with h|⟨Y,s',w',h1,h2⟩
   · rw[h] at hk;exact hw.vr.slots t k hk
   · rw[h1] at hk;cases hk
     exact(hw.vr.slots t _ h2).1 rfl
  have hrd2:bV R (iP σ1 L):=by
   intro p hp
   have h1:=hrd p hp
   rw[lW]
   cases hq:wr L p.1 with
   |some k=>
    obtain⟨Y,rfl,h2,_,_⟩:=hL _ k (uh hq)
    rw[← h1,h2]
   |none=>
    show aV σ1 p.1=p.2
    rw[hact p hp]
    rcases kN s want σ p.1 with h3|⟨s2,w2,b2,X2,h3,h4⟩
    · rw[← h3];exact h1
    · exfalso
      have: (p.1,K.v X2)∈L:=List.mem_filterMap.2 ⟨p,hp,by unfold aVs;rw[← h1,h4]⟩
      obtain⟨k,hk⟩:=aQd (W:=L) (l:=p.1) (aYc.2 ⟨_,this,rfl⟩)
      rw[hk] at hq;cases hq
  refine hop cx (iP σ1 L) ι S a w hrd2 hrw2 hb next Q fun ι' S' a' w' hw'=>hn ι' S' a' w' ?_
  simp only[iP] at hw' ⊢
  refine hw'.reslot (fun o'=>by rw[cT _ _ (by simp),cT _ _ (by simp),hσ2o]) fun t k hk=> ?_
  rw[lV] at hk
  by_cases e:d=t
  · subst e
    rw[aC rfl] at hk;cases hk
    exact⟨fun _=>hw'.vr.slots d _ (dD _ _ _),by simp⟩
  · rw[aB (by simpa using e)] at hk
    rcases hσ2 (.t t) with h|⟨Y,s',w',h1,h2⟩
    · exact hw'.vr.slots t k (by rw[cT _ _ (by simpa using e),h];exact hk)
    · rw[h2] at hk;cases hk
      exact⟨fun _=>hw'.vr.slots t (.v Y) (by rw[cT _ _ (by simpa using e)];exact h1),by simp⟩
def evc (σ:St):Operand→Option (V×List (dK×Option K)×Option Bool)
 | .tmp t=>match aV σ (.t t) with
  |some (.v X)=>some (X,[(.t t,some (.v X))],none)
  |some (.cv s w b X)=>some (X,[(.t t,some (.cv s w b X))],some b)
  |_=>none
 | .const v=>if v.oneCell' then some (.e (.c (aC8 v)),[],none) else none
 |_=>none
def nY:Option Bool→Prop
 |none=>True
 |some b=>b=true
theorem aBq {σ:St} {x:Operand} {X:V} {R:List (dK×Option K)} {c:Option Bool} (h:evc σ x=some (X,R,c)):bV R σ:=by
 cases x with
 |tmp t=>
  simp only[evc] at h
  split at h
  · rename_i X' hl;cases h;exact bV.one hl
  · rename_i hl;cases h;exact bV.one hl
  · cases h
 |const v=>
  simp only[evc] at h
  split at h
  · cases h;exact bV.nil
  · cases h
 |global g=>simp[evc] at h
 |func f=>simp[evc] at h
theorem aBr {σ0:St} {x:Operand} {X:V} {R:List (dK×Option K)} {c:Option Bool} (h:evc σ0 x=some (X,R,c)) (hc:nY c) {P:Program} {cx:Cx P} {σ:St} {ι:Nat→Value} {S:Nat→Prop} {a:Act} {w:World}
 (hr:bV R σ) (hw:RW cx σ ι S a w):mI σ ι w S X (a.eval x):=by
 cases x with
 |tmp t=>
  simp only[evc] at h
  split at h
  · rename_i X' hl;cases h;exact hw.vr.slots t _ (hr (.t t,some (.v X)) (by simp))
  · rename_i s w' b X' hl
    cases h
    exact(hw.vr.slots t (.cv s w' b X) (hr (.t t,some (.cv s w' b X)) (by simp))).1 hc
  · cases h
 |const v=>
  simp only[evc] at h
  split at h
  · rename_i hv;cases h;exact jq hv
  · cases h
 |global g=>simp[evc] at h
 |func f=>simp[evc] at h
def aIf (b:Bool):D→D→Option D
 | .i m,.i n=>some (.i (bif b then m else n))
 | .u m,.u n=>some (.u (bif b then m else n))
 | .b m,.b n=>some (.b (bif b then m else n))
 | .s m,.s n=>some (.s (bif b then m else n))
 |_,_=>none
def aOe (x y:Operand) (b:Bool) (X Y:D):Option D:=match x,y with
 |_,.const (.bool false)=>match X with| .b m=>some (.b (b&&m))|_=>none
 | .const (.bool true),_=>match Y with| .b n=>some (.b (b||n))|_=>none
 |_,_=>aIf b X Y
def aIg (σ:St) (c x y:Operand) (d:Option Tmp):Res:=
 match ev σ c,evc σ x,evc σ y,d with
 |some (.e (.c (.d (.b b))),R),some (.e (.c (.d X)),R1,c1),some (.e (.c (.d Y)),R2,c2),some d=>match aOe x y b X Y with
  |some Z=>some ((b=true→nY c1)∧(b=false→nY c2),R++R1++R2,[(.t d,.v (Dv Z))])
  |none=>none
 |_,_,_,_=>none
theorem aDn {b:Bool} {X Y Z:D} {w:World} {S:Nat→Prop} {vx vy:Value} (h:aIf b X Y=some Z) (hx:b=true→DR w S X vx) (hy:b=false→DR w S Y vy):DR w S Z (if b then vx else vy):=by
 cases X<;>cases Y<;>simp only[aIf] at h<;>cases h
 all_goals
  cases b with
  |true=>have:=hx rfl;cases this;first|exact .i _|exact .u _|exact .b _|exact .s _
  |false=>have:=hy rfl;cases this;first|exact .i _|exact .u _|exact .b _|exact .s _
theorem aIh {P:Program} {o:Oper} {σ0:St} {c x y:Operand} (ho:o.op= .pick c x y):lU P o σ0 (aIg σ0 c x y o.dst):=by
 intro p R W h hp
 unfold aIg at h
 split at h<;>try(cases h;done)
 rename_i b Rc X R1 c1 Y R2 c2 d hc hx hy hd
 split at h<;>try(cases h;done)
 rename_i Z hz
 cases h
 refine⟨oL hd fun cx σ ι S a w hr hw=> ?_,((dH hc).append (aBq hx)).append (aBq hy)⟩
 have hC:=dP hc hr.left.left hw
 have hX:b=true→mI σ ι w S (Dv X) (a.eval x):=fun hb=>aBr hx (hp.1 hb) hr.left.right hw
 have hY:b=false→mI σ ι w S (Dv Y) (a.eval y):=fun hb=>aBr hy (hp.2 hb) hr.right hw
 have hcv:a.eval c= .bool b:=by
  simp only[mI,ER,CR] at hC
  generalize a.eval c=v at hC;cases hC;rfl
 have hX:b=true→DR w S X (a.eval x):=hX
 have hY:b=false→DR w S Y (a.eval y):=hY
 refine⟨if b then a.eval x else a.eval y,?_,?_⟩
 · cases b<;>simp[execOp,ho,hcv,asBool]
 · show DR w S Z (if b then a.eval x else a.eval y)
   unfold aOe at hz
   split at hz
   · split at hz
     · cases hz
       cases b with
       |true=>have:=hX rfl;simpa using this
       |false=>simp[Act.eval];exact .b _
     · cases hz
   · split at hz
     · cases hz
       cases b with
       |true=>simp[Act.eval];exact .b _
       |false=>have:=hY rfl;simpa using this
     · cases hz
   · exact aDn hz hX hY
def aKi (σ:St):V→Option (Prop×List (dK×Option K)×V)
 | .e (.c (.pe ob n i k))=>match aV σ (.o ob) with
  |some (.row e es rows)=>some (rows.length=n,[(.o ob,some (.row e es rows))],.e (.c (.pe ob n i k)))
  |_=>none
 |X=>aQf σ X
theorem aLu {P:Program} {T:hZ} {o:Oper} {σ0:St} {x:Operand} (ho:o.op= .nilCheck x):lU P o σ0 (jP σ0 x o.dst (aKi σ0)):=by
 have h0:lU P o σ0 (jP σ0 x o.dst (aQf σ0)):=fq (T:=T) ho
 intro p R W h hp
 by_cases hX: ∃ob n i k Rx,ev σ0 x=some (.e (.c (.pe ob n i k)),Rx)
 · obtain⟨ob,n,i,k,Rx,hX⟩:=hX
   refine kT (x:=x) (f:=fun X=>match X with
    | .e (.c (.pe ob n i k))=>match aV σ0 (.o ob) with
     |some (.row e es rows)=>some (rows.length=n,[(.o ob,some (.row e es rows))],.e (.c (.pe ob n i k)))
     |_=>none
    |_=>none) (fun X p R Y h hp=> ?_) p R W ?_ hp
   · split at h
     · rename_i ob n i k
       split at h
       · rename_i e es rows hl
         cases h
         refine⟨bV.one hl,fun cx σ ι S a w hr hw hx=> ?_⟩
         have hl':=hr (.o ob,some (.row e es rows)) (by simp)
         have hx':CR σ ι w S (.pe ob n i k) (a.eval x):=hx
         obtain⟨_,h2⟩:=hx'
         rcases h2 with⟨e',es',rows',hl2,hn,hv⟩|hd
         · dsimp only at hl';rw[hl'] at hl2;cases hl2
           obtain⟨g,off,cap,_,hv⟩:=hv hp
           exact⟨a.eval x,by simp[execOp,ho,hv],hx⟩
         · dsimp only at hl';rw[hl'] at hd;cases hd
       · cases h
     · cases h
   · unfold jP at h ⊢
     rw[hX] at h ⊢
     cases hd:o.dst with
     |none=>rw[hd] at h;cases h
     |some d=>rw[hd] at h;exact h
 · refine h0 p R W ?_ hp
   unfold jP at h ⊢
   cases hq:ev σ0 x with
   |none=>rw[hq] at h;cases h
   |some y=>
    obtain⟨X,Rx⟩:=y
    rw[hq] at h
    cases hd:o.dst with
    |none=>rw[hd] at h;cases h
    |some d=>
     rw[hd] at h
     have e:aKi σ0 X=aQf σ0 X:=by
      unfold aKi
      split
      · exact absurd ⟨_,_,_,_,_,hq⟩ hX
      · rfl
     dsimp only at h ⊢
     rw[e] at h
     exact h
def oj (T:hZ) (o:Oper) (σ:St):Res:=
 match o.op with
 | .pick c x y=>match aIg σ c x y o.dst with
  |some r=>some r
  |none=>aJ7 σ c x y o.dst
 | .nilCheck x=>jP σ x o.dst (aKi σ)
 |_=>aDl T o σ
theorem wC {P:Program} {T:hZ} (hT:dV P T) (o:Oper) (σ:St):lU P o σ (oj T o σ):=by
 unfold oj
 split
 · rename_i ho
   split
   · rename_i r hr
     have:=aIh (P:=P) (σ0:=σ) ho
     rw[hr] at this;exact this
   · exact aBj ho
 · rename_i ho;exact aLu (T:=T) ho
 · exact rn hT o σ
def aOf (m i:Nat):Bool:=Nat.beq (Nat.land (Nat.shiftRight m i) 1) 1
theorem aOg (m i:Nat):aOf m i=m.testBit i:=by
 have h:aOf m i=decide ((m >>> i) % 2=1):=by
  show Nat.beq ((m >>> i) &&& 1) 1=_
  rw[Nat.and_one_is_mod,Bool.eq_iff_iff,Nat.beq_eq,aD]
 rw[h,Nat.testBit,Nat.one_and_eq_mod_two,Bool.eq_iff_iff,aD,bne_iff_ne]
 omega
def bits:List Nat→Nat
 | []=>0
 |x::r=>Nat.lor (Nat.shiftLeft 1 x) (bits r)
theorem vH {b:Nat}: ∀{l:List Nat},(bits l).testBit b=true↔b∈l
 | []=>by simp[bits]
 |x::r=>by
  show((1 <<< x) ||| bits r).testBit b=true↔_
  rw[Nat.testBit_or,Bool.or_eq_true,vH (l:=r),List.mem_cons,Nat.shiftLeft_eq,Nat.one_mul,Nat.testBit_two_pow,aD]
  exact⟨fun h=>h.imp Eq.symm id,fun h=>h.imp Eq.symm id⟩
def vj (acc:List Nat):List Nat→Nat
 | []=>0
 |i::r=>Nat.lor (Nat.lor (Nat.shiftLeft 1 i) (acc.getD i 0)) (vj acc r)
def vk:List Oper→List Nat→List Nat
 | [],acc=>acc
 |o::os,acc=>vk os (acc++[vj acc (lC o)])
def aIi (accM:List Nat) (accP:List (List Nat)):Prop:=accM.length=accP.length∧ ∀i b,(accM.getD i 0).testBit b=true→b∈accP.getD i []
theorem rr {accM:List Nat} {accP:List (List Nat)} (h:aIi accM accP) {b:Nat}: ∀{l:List Nat},(vj accM l).testBit b=true→b∈l.flatMap fun i=>i::accP.getD i []
 | [],hb=>by simp[vj] at hb
 |i::r,hb=>by
  have hb: (((1 <<< i) ||| accM.getD i 0) ||| vj accM r).testBit b=true:=hb
  rw[Nat.testBit_or,Nat.testBit_or,Bool.or_eq_true,Bool.or_eq_true,Nat.shiftLeft_eq,Nat.one_mul,Nat.testBit_two_pow,aD] at hb
  rw[List.flatMap_cons,List.mem_append,List.mem_cons]
  rcases hb with(hb|hb)|hb
  · exact .inl (.inl hb.symm)
  · exact .inl (.inr (h.2 i b hb))
  · exact .inr (rr h hb)
theorem vl: ∀(l:List Oper) {accM:List Nat} {accP:List (List Nat)},aIi accM accP→aIi (vk l accM) (nB l accP)
 | [],accM,accP,h=>h
 |o::os,accM,accP,h=>by
  unfold vk nB
  refine vl os ⟨by simp[h.1],fun i b hb=> ?_⟩
  rw[aX6] at hb ⊢
  by_cases hi:i<accM.length
  · rw[List.getElem?_append_left hi] at hb
    rw[List.getElem?_append_left (by rw[← h.1];exact hi)]
    have:=h.2 i b (by rw[aX6];exact hb)
    rwa [aX6] at this
  · rw[List.getElem?_append_right (by omega)] at hb
    rw[List.getElem?_append_right (by rw[← h.1];omega),← h.1]
    by_cases e:i - accM.length=0
    · rw[e] at hb ⊢
      exact rr h hb
    · rw[List.getElem?_eq_none (by simp;omega)] at hb
      simp at hb
abbrev RWM:=Nat×Nat
def rwM (x:bz):RWM:=(bits x.1,bits x.2)
def aFk (x y:RWM):Bool:=Nat.beq (Nat.land x.2 (Nat.lor y.1 y.2)) 0&&Nat.beq (Nat.land x.1 y.2) 0
theorem xA {xs ys:List Nat} (h: ∀b,b∈xs→b∈ys→False):pV xs ys=true:=by
 induction xs with
 |nil=>rfl
 |cons x r ih=>
  simp only[pV,aX3,Bool.not_eq_true']
  refine⟨?_,ih fun b hb=>h b (List.mem_cons_of_mem _ hb)⟩
  rw[← Bool.not_eq_true,iF]
  exact h x (List.mem_cons_self ..)
theorem ol {m n b:Nat} (h:Nat.beq (Nat.land m n) 0=true) (hm:m.testBit b=true) (hn:n.testBit b=true):False:=by
 have h:m &&& n=0:=Nat.eq_of_beq_eq_true h
 have: (m &&& n).testBit b=true:=by rw[Nat.testBit_and,hm,hn];rfl
 rw[h] at this;simp at this
theorem aIj {x y:bz} (h:aFk (rwM x) (rwM y)=true):pW x y=true:=by
 simp only[aFk,rwM,aX3] at h
 simp only[pW,aX3]
 have hor: ∀b,(b∈y.1∨b∈y.2)→(Nat.lor (bits y.1) (bits y.2)).testBit b=true:=fun b hb=>by
  show(bits y.1 ||| bits y.2).testBit b=true
  rw[Nat.testBit_or,Bool.or_eq_true,vH,vH];exact hb
 exact⟨⟨xA fun b h1 h2=>ol h.1 (vH.2 h1) (hor b (.inr h2)),xA fun b h1 h2=>ol h.1 (vH.2 h1) (hor b (.inl h2))⟩,xA fun b h1 h2=>ol h.2 (vH.2 h1) (vH.2 h2)⟩
def aRv (pm:Nat) (y:RWM):Nat→List RWM→Bool
 |_,[]=>true
 |i,x::r=>(aOf pm i||aFk x y)&&aRv pm y (i+1) r
def aOh:List RWM→List Nat→List RWM→Bool
 | [],_,_=>true
 |y::ys,pm::pms,done=>aRv pm y 0 done&&aOh ys pms (done++[y])
 |_::_,[],_=>false
theorem aBs {pm:Nat} {y:RWM}: ∀{l:List RWM} {i:Nat},aRv pm y i l=true→ ∀(k:Nat) x,l[k]? =some x→pm.testBit (i+k)=true∨aFk x y=true
 | [],i,_,k,x,hx=>by simp at hx
 |z::r,i,h,k,x,hx=>by
  simp only[aRv,aX3,Bool.or_eq_true] at h
  cases k with
  |zero=>simp at hx;subst hx;rw[← aOg];exact h.1
  |succ k=>
   have:=aBs h.2 k x (by simpa using hx)
   rwa [show i+1+k=i+(k+1) by omega] at this
theorem aBt: ∀{ys:List RWM} {pms:List Nat} {done:List RWM},aOh ys pms done=true→ ∀(k:Nat) y pm,ys[k]? =some y→pms[k]? =some pm→ ∀(i:Nat) x,i<done.length+k→(done++ys)[i]? =some x→pm.testBit i=true∨aFk x y=true
 | [],pms,done,_,k,y,pm,hy,_,i,x,_,_=>by simp at hy
 |z::ys,[],done,h,k,y,pm,hy,hp,i,x,_,_=>by simp[aOh] at h
 |z::ys,p::pms,done,h,k,y,pm,hy,hp,i,x,hi,hx=>by
  simp only[aOh,aX3] at h
  cases k with
  |zero=>
   simp at hy hp;subst hy;subst hp
   have:=aBs h.1 i x (by rw[List.getElem?_append_left (by omega)] at hx;exact hx)
   rwa [Nat.zero_add] at this
  |succ k=>exact aBt h.2 k y pm (by simpa using hy) (by simpa using hp) i x (by simp;omega) (by simpa using hx)
theorem vm {ns:List bz} {pl:List (List Nat)}: ∀(n:Nat),(∀k,k<n→ ∀i,i<k→ ∀x y pk,ns[i]? =some x→ns[k]? =some y→pl[k]? =some pk→i∈pk∨pW x y=true)→yW ns pl n=true
 |0,_=>rfl
 |n+1,h=>by
  simp only[yW,aX3]
  refine⟨?_,vm n fun k hk=>h k (by omega)⟩
  split
  · rename_i y pk hy hp
    rw[aYd]
    intro i hi
    rw[Bool.or_eq_true]
    cases hx:ns[i]? with
    |none=>exact .inr rfl
    |some x=>exact(h n (by omega) i (List.mem_range.1 hi) x y pk hx hy hp).imp iF.2 id
  · rfl
def zD (l:List Oper) (ns:List bz):Bool:=sS 0 l&&aOh (ns.map rwM) (vk l []) []
theorem wD {l:List Oper} {ns:List bz} (h:zD l ns=true):vC l ns=true:=by
 simp only[zD,aX3] at h
 simp only[vC,aX3]
 refine⟨h.1,vm _ fun k hk i hi x y pk hx hy hp=> ?_⟩
 have hm:=vl l (accM:=[]) (accP:=[]) ⟨rfl,by simp⟩
 have hpl:k< (nB l []).length:=(aYa.1 hp).1
 have hml:k< (vk l []).length:=by rw[hm.1];exact hpl
 have hpm: (vk l [])[k]? =some (vk l [])[k]:=aX9 hml
 rcases aBt h.2 k (rwM y) _ (by simp[hy]) hpm i (rwM x) (by simpa using hi) (by simp[hx]) with h1|h1
 · left
   have:=hm.2 k i (by rw[aX6,hpm];exact h1)
   rwa [aX6,hp] at this
 · exact .inr (aIj h1)
def aKj (P:Program) (T:hZ) (o:Oper) (σ:St) (k:List (dK×Option K)→List (dK×K)→Prop):Prop:=
 match oj T o σ with
 |some (p,R,W)=>p∧k R W
 |none=> ∃R W,vW P o R W∧bV R σ∧k R W
theorem ru {P:Program} {T:hZ} (hT:dV P T) {o:Oper} {σ:St} {k:List (dK×Option K)→List (dK×K)→Prop} (h:aKj P T o σ k): ∃R W,vW P o R W∧bV R σ∧k R W:=by
 unfold aKj at h
 split at h
 · rename_i p R W he
   obtain⟨h1,h2⟩:=wC hT o σ p R W he h.1
   exact⟨R,W,h1,h2,h.2⟩
 · exact h
def aRw (dr:Bool) (acc:List bz) (R:List (dK×Option K)) (W:List (dK×K)):List bz:=match dr with
 |true=>acc++[pD (R,W)]
 |false=>[]
def kd (P:Program) (T:hZ) (o:Oper) (σ:St) (s:Nat) (want g:Bool) (d:Nat) (k:List (dK×Option K)→V→Prop):Prop:=
 match oj T o (kI s want σ) with
 |some (p,R,[(.t d',.v X)])=>match Nat.beq d' d with
  |true=>(g=true→p)∧(g=true→pA σ R)∧k R X
  |false=>False
 |some _=>False
 |none=> ∃R X,(g=true→vW P o R [(.t d,.v X)]∧bV R (kI s want σ))∧(g=true→pA σ R)∧k R X
def goC (P:Program) (T:hZ) (ops:List Oper) (dr:Bool):List Oper→St→List bz→(St→List bz→Prop)→Prop
 | [],σ,acc,k=>k σ acc
 |o::os,σ,acc,k=>match o.guard with
  |none=>aKj P T o σ fun R W=>nC σ W fun σ'=>goC P T ops dr os σ' (aRw dr acc R W) k
  |some (j,want)=>match(ops[j]?).bind (·.dst),o.dst with
   |some s,some d=>match gOf want (aV σ (.t s)) with
    |some g=>kd P T o σ s want g d fun R X=>oh σ (.t d) (.cv s want g X) fun σ'=>goC P T ops dr os σ' (aRw dr acc ((.t s,none)::R) [(.t d,.dead)]) k
    |none=>False
   |_,_=>False
theorem cl {P:Program} {T:hZ} (hT:dV P T) {ops:Array Oper} {o:Oper} {σ:St} {j s d:Nat} {want g:Bool} {k:List (dK×Option K)→V→Prop} (hg:o.guard=some (j,want)) (hs: (ops[j]?).bind (·.dst)=some s) (hd:o.dst=some d) (hl:gOf want (aV σ (.t s))=some g)
 (h:kd P T o σ s want g d k): ∃R X,ItT P ops o ((.t s,aV σ (.t s))::oi σ R,[(.t d,.cv s want g X)])∧k R X:=by
 unfold kd at h
 split at h
 · rename_i p R d' X he
   split at h
   · rename_i hdd
     have hdd:=Nat.eq_of_beq_eq_true hdd
     subst hdd
     obtain⟨h1,h2,h3⟩:=h
     exact⟨R,X,ui hg hs hd hl (fun hgt=>wC hT o _ p R _ he (h1 hgt)) h2,h3⟩
   · exact h.elim
 · exact h.elim
 · obtain⟨R,X,h1,h2,h3⟩:=h
   exact⟨R,X,ui hg hs hd hl h1 h2,h3⟩
theorem zE {σ:St} {s:Nat} {R:List (dK×Option K)}:bV ((.t s,aV σ (.t s))::oi σ R) σ:=by
 intro p hp
 rcases List.mem_cons.1 hp with rfl|hp
 · rfl
 · obtain⟨q,hq,rfl⟩:=aYc.1 hp;rfl
theorem aIk {σ:St} {s d:Nat} {R:List (dK×Option K)} {k:K} {o:Option K} {k':K}:pD ((.t s,o)::R,[(.t d,k)])=pD ((.t s,aV σ (.t s))::oi σ R,[(.t d,k')]):=by
 simp[pD,oi,Function.comp_def]
theorem yB {P:Program} {T:hZ} (hT:dV P T) {ops:Array Oper} {dr:Bool} {k:St→List bz→Prop}: ∀(l:List Oper) (σ:St) (acc:List bz),goC P T ops.toList dr l σ acc k→
 ∃ts:List mN,xX P ops l ts∧kG ts σ∧ ∃acc',(dr=true→acc'=acc++ts.map pD)∧k (eY ts σ) acc'
 | [],σ,acc,h=>⟨[],trivial,trivial,acc,fun _=>by simp,by simpa[goC,eY] using h⟩
 |o::os,σ,acc,h=>by
  simp only[goC] at h
  split at h
  · rename_i hg
    obtain⟨R,W,h1,h2,h3⟩:=ru hT h
    rw[jW] at h3
    obtain⟨ts,q1,q2,acc',q3,q4⟩:=yB hT os _ _ h3
    refine⟨(R,W)::ts,⟨xW hg h1,q1⟩,⟨h2,q2⟩,acc',fun hd=> ?_,by simpa[eY] using q4⟩
    rw[q3 hd];subst hd;simp[aRw]
  · rename_i j want hg
    split at h<;>try(exact h.elim)
    rename_i s d hs hd
    split at h<;>try(exact h.elim)
    rename_i g hl
    have hs': (ops[j]?).bind (·.dst)=some s:=by simpa using hs
    obtain⟨R,X,h1,h2⟩:=cl hT hg hs' hd hl h
    rw[nW] at h2
    obtain⟨ts,q1,q2,acc',q3,q4⟩:=yB hT os _ _ h2
    refine⟨((.t s,aV σ (.t s))::oi σ R,[(.t d,.cv s want g X)])::ts,⟨h1,q1⟩,⟨zE,q2⟩,acc',fun hdr=> ?_,by simpa[eY,iP] using q4⟩
    rw[q3 hdr];subst hdr
    simp only[aRw,List.map_cons,List.append_assoc,List.singleton_append]
    rw[aIk (σ:=σ) (k':= .cv s want g X)]
section
variable {P:Program} {io:List Nat} {Q:Ex→St→Prop} {σ:St}
theorem SW.regT {T:hZ} (hT:dV P T) (ks:List Nat) {id:Nat} {ops:Array Oper} (h:goC P T ops.toList false ops.toList σ [] fun σ' _=>qT ks σ' (Q .norm)):SW P io (.region id ops false) Q σ:=by
 intro cx ι S a w hio hw hf
 have hfit: ∀o∈ops.toList,∀d,o.dst=some d→d<cx.N:=fun o ho=>wY (by simpa[tJ] using hf) ho
 obtain⟨ts,h1,h2,acc,_,h4⟩:=yB hT ops.toList σ [] h
 rw[lY] at h4
 exact wp_region_list (yU ops.toList ts σ ι S a w h1 h2 hw hfit fun ι' S' a' w' hw'=>⟨_,ι',S',h4,hw'.keep ks⟩)
theorem SW.regD {T:hZ} (hT:dV P T) (hm:P.follows .mixedOrders=true) (ks:List Nat) {id:Nat} {ops:Array Oper} (h:goC P T ops.toList true ops.toList σ [] fun σ' ns=>zD ops.toList ns=true∧qT ks σ' (Q .norm)):SW P io (.region id ops true) Q σ:=by
 intro cx ι S a w hio hw hf
 have hfit: ∀o∈ops.toList,∀d,o.dst=some d→d<cx.N:=fun o ho=>wY (by simpa[tJ] using hf) ho
 obtain⟨ts,h1,h2,acc,h3,h4,h5⟩:=yB hT ops.toList σ [] h
 have h3:=h3 rfl
 rw[List.nil_append] at h3
 subst h3
 rw[lY] at h5
 have hlen: ∀(l:List Oper) (ts:List mN),xX P ops l ts→ts.length=l.length∧ ∀(i:Nat) o t,l[i]? =some o→ts[i]? =some t→ItT P ops o t:=by
  intro l
  induction l with
  |nil=>intro ts h;cases ts with
   |nil=>exact⟨rfl,by simp⟩
   |cons t ts=>exact h.elim
  |cons o os ih=>intro ts h;cases ts with
   |nil=>exact h.elim
   |cons t ts=>
    obtain⟨q1,q2⟩:=ih ts h.2
    refine⟨by simp[q1],fun i o' t' ho ht=> ?_⟩
    cases i with
    |zero=>simp at ho ht;subst ho;subst ht;exact h.1
    |succ i=>exact q2 i o' t' (by simpa using ho) (by simpa using ht)
 obtain⟨q1,q2⟩:=hlen _ _ h1
 refine wp_region_any hm (xY (cx:=cx) (σ:=σ) (ts:=ts) (by simpa using q1) (fun i o t ho ht=>q2 i o t (by simpa using ho) ht) h2 (by have:=wD h4;simpa[pL,vC] using this) hfit (fun ι' S' a' w' hw'=>⟨_,ι',S',h5,hw'.keep ks⟩)
  ops.size (Array.replicate ops.size false) σ ι S a _ (by simp) (fun l=> ?_) hw.drew (fun k o ho hk=> ?_) ?_)
 · have hL: ∀i,(Array.replicate ops.size false).getD i false=false:=fun i=>by
    rw[Array.getD_eq_getD_getElem?,Array.getElem?_replicate];split<;>rfl
   have: ∀n,part ts (fun i=>(Array.replicate ops.size false).getD i false) σ l n=aV σ l:=by
    intro n
    induction n with
    |zero=>rfl
    |succ n ih=>rw[lX,aB (by rw[hL];simp),ih]
   rw[this]
 · rw[Array.getD_eq_getD_getElem?,Array.getElem?_replicate] at hk;split at hk<;>cases hk
 · exact Nat.le_trans (List.length_filter_le _ _) (by simp)
end
def zF:C→Bool
 | .d _=>true
 | .nil=>true
 | .rp _=>true
 |_=>false
def ie:E→Bool
 | .c x=>zF x
 | .agg cs=>cs.all zF
def pB:V→Bool
 | .e x=>ie x
 | .tup xs=>xs.all ie
section
variable {τ σ':St} {rl:List (Nat×Nat)} {bor:List Nat}
theorem aFl {c:C} (h:zF c=true):mC τ σ' rl bor c c:=by cases c<;>simp_all[zF,mC]
theorem aBu: ∀{cs:List C},cs.all zF=true→mCs τ σ' rl bor cs cs
 | [],_=>trivial
 |c::cs,h=>by
  simp only[List.all_cons,aX3] at h
  exact⟨aFl h.1,aBu h.2⟩
theorem aFm {c:E} (h:ie c=true):mE τ σ' rl bor c c:=by
 cases c with
 |c x=>exact aFl h
 |agg cs=>exact aBu h
theorem aBv: ∀{cs:List E},cs.all ie=true→mEs τ σ' rl bor cs cs
 | [],_=>trivial
 |c::cs,h=>by
  simp only[List.all_cons,aX3] at h
  exact⟨aFm h.1,aBv h.2⟩
theorem aFn {c:V} (h:pB c=true):mV τ σ' rl bor c c:=by
 cases c with
 |e x=>exact aFm h
 |tup cs=>exact aBv h
theorem vn {c:C} (h:zF c=true):aH2 rl c=c:=by cases c<;>simp_all[zF,aH2]
theorem aFo {cs:List C} (h:cs.all zF=true):cs.map (aH2 rl)=cs:=by
 rw[aYd] at h
 exact(List.map_congr_left fun c hc=>vn (h c hc)).trans (List.map_id cs)
theorem vo {c:E} (h:ie c=true):aLn rl c=c:=by
 cases c with
 |c x=>simp[aLn,vn (show zF x=true from h)]
 |agg cs=>simp only[aLn];rw[aFo h]
theorem aIl {c:V} (h:pB c=true):aH3 rl c=c:=by
 cases c with
 |e x=>simp[aH3,vo (show ie x=true from h)]
 |tup cs=>
  simp only[aH3]
  have h:cs.all ie=true:=h
  rw[aYd] at h
  rw[(List.map_congr_left fun c hc=>vo (h c hc)).trans (List.map_id cs)]
theorem vp: ∀{Ys:List V} {i:Nat},(∀j Y,Ys[j]? =some Y→aV τ (.t (i+j))=some (.v Y))→Ys.all pB=true→mL τ σ' rl bor (fA i Ys)
 | [],i,_,_=>trivial
 |Y::Ys,i,h,hp=>by
  simp only[List.all_cons,aX3] at hp
  refine⟨⟨Y,h 0 Y rfl,aFn hp.1⟩,vp (fun j Z hj=> ?_) hp.2⟩
  rw[show i+1+j=i+(j+1) by omega]
  exact h (j+1) Z hj
theorem qU: ∀(Ys:List V) (i:Nat),cE (fA i Ys)=[]
 | [],i=>rfl
 |Y::Ys,i=>qU Ys (i+1)
theorem aFp {Xs:List V} (h:Xs.all pB=true):pE (fA 0 Xs++rW []) (fA 0 Xs) [] []:=by
 refine⟨vp (fun j Y hj=> ?_) h,?_⟩
 · have hlt:=(aYa.1 hj).1
   rw[Nat.zero_add,pX 0 Xs _ j (aX5 _) (by omega),Nat.sub_zero,hj];rfl
 · simp[bd,qU,vE,pV]
end
section
variable {P:Program} {T:hZ} {f:FuncId} {n:Nat} {σin:St} {X:V} {o:Oper} {c:Call} {d:Nat} {σ:St} {Xs:List V} {Ra:List (dK×Option K)}
theorem aFq (hs:Spec P f n σin [(.t 0,.v X)]) (ho:o.op= .call c) (hc:c.callee= .value (.func f)) (hd:o.dst=some d) (hx:evA σ c.args.toList=some (Xs,Ra)) (hn:Xs.length=n) (hin:σin=fA 0 Xs) (hp:Xs.all pB=true) (hX:pB X=true):
 vW P o Ra [(.t d,.v X)]:=by
 subst hin
 have:=aFj (robj:=[]) (rl:=[]) (bor:=[]) hs ho hc hx hn (aFp hp) (by simp[kX,cE,pN,qU,vE,sT]) (.inl rfl)
 have e1:ri Ra [] [] (fA 0 Xs) [(.t 0,.v X)]=Ra:=by simp[ri,kU,cE]
 have e2:uE [] (fA 0 Xs) [(.t 0,.v X)] o.dst=[(.t d,.v X)]:=by
  simp[uE,zB,wA,pN,qU,hd,aAh,aV,aIl hX]
 rw[e1,e2] at this
 exact this
theorem ke {k:List (dK×Option K)→List (dK×K)→Prop} (hs:Spec P f n σin [(.t 0,.v X)]) (ho:o.op= .call c) (hc:c.callee= .value (.func f)) (hd:o.dst=some d) (hx:evA σ c.args.toList=some (Xs,Ra)) (hn:Xs.length=n) (hin:σin=fA 0 Xs) (hp:Xs.all pB=true) (hX:pB X=true)
 (h:k Ra [(.t d,.v X)]): ∃R W,vW P o R W∧bV R σ∧k R W:=
 ⟨Ra,_,aFq hs ho hc hd hx hn hin hp hX,uW hx,h⟩
theorem vt {σ1:St} {g:Bool} {k:List (dK×Option K)→V→Prop} (hs:g=true→Spec P f n σin [(.t 0,.v X)]) (ho:o.op= .call c) (hc:c.callee= .value (.func f)) (hd:o.dst=some d) (hx:evA σ1 c.args.toList=some (Xs,Ra)) (hn:Xs.length=n) (hin:σin=fA 0 Xs) (hp:Xs.all pB=true) (hX:pB X=true)
 (hr:g=true→pA σ Ra) (h:k Ra X): ∃R X,(g=true→vW P o R [(.t d,.v X)]∧bV R σ1)∧(g=true→pA σ R)∧k R X:=
 ⟨Ra,X,fun hg=>⟨aFq (hs hg) ho hc hd hx hn hin hp hX,uW hx⟩,hr,h⟩
theorem bP {σout:St} {rl:List (Nat×Nat)} {bor:List Nat} {robj:List (Nat×K)} {k:List (dK×Option K)→List (dK×K)→Prop} (hs:Spec P f n σin σout) (ho:o.op= .call c) (hc:c.callee= .value (.func f)) (hx:evA σ c.args.toList=some (Xs,Ra)) (hn:Xs.length=n)
 (hm:pE (fA 0 Xs++rW robj) σin rl bor) (hk:kX rl σin σout=true) (hb:bor=[]∨nV σout) (h1: ∀p∈robj,aV σ (.o p.1)=some p.2) (h2: ∀j∈kU σin σout,aV σ (.o (kS rl j))=none)
 (h:k (ri Ra robj rl σin σout) (uE rl σin σout o.dst)): ∃R W,vW P o R W∧bV R σ∧k R W:=
 ⟨_,_,aFj hs ho hc hx hn hm hk hb,aH6 hx h1 h2,h⟩
end
def WK (io:List Nat) (J:St→Prop) (s:St):Prop:= ∃σ' rl bor,J σ'∧pE s σ' rl bor∧zA io σ' rl bor=true
theorem wk {io:List Nat} {J:St→Prop} {s:St} (σ':St) (rl:List (Nat×Nat)) (bor:List Nat) (h:J σ') (h1:mL s σ' rl bor σ') (h2:bd σ' rl bor=true) (h3:zA io σ' rl bor=true):WK io J s:=⟨σ',rl,bor,h,⟨h1,h2⟩,h3⟩
section
variable {P:Program} {io:List Nat} {Q:Ex→St→Prop} {σ:St}
theorem SW.wk {c:Code} {J:St→Prop} (h:WK io J σ) (hJ: ∀s,J s→SW P io c Q s):SW P io c Q σ:=by
 obtain⟨σ',rl,bor,h1,h2,h3⟩:=h
 exact SW.weaken σ' rl bor h2 h3 (hJ σ' h1)
theorem SW.loopW {c:Code} (I:Nat→St→Prop) {n:Nat} (h0:WK io (I n) σ) (hr: ∀n s,I n s→SW P io c (jz (fun s'=>WK io (fun s2=> ∃m,m<n∧I m s2) s') Q) s):SW P io (.loop c) Q σ:=by
 refine SW.loop (fun n s=>WK io (I n) s) h0 fun n s hs=>SW.wk hs fun s2 h2=>SW.mono (fun e s3 h3=> ?_) (hr n s2 h2)
 cases e with
 |norm=>
  obtain⟨σ',rl,bor,⟨m,hm,h1⟩,h2,h4⟩:=h3
  exact⟨m,hm,σ',rl,bor,h1,h2,h4⟩
 |exit id=>exact h3
 |ret=>exact h3
theorem SW.midW (J:St→Prop) {x y:Code} (h:SW P io x (jz (fun s=>WK io J s) Q) σ) (hy: ∀s,J s→SW P io y Q s):SW P io (.seq x y) Q σ:=
 SW.seq (h.mono fun e s hq=>by
  cases e with
  |norm=>exact SW.wk hq hy
  |exit id=>exact hq
  |ret=>exact hq)
end
section
variable {τ σ':St} {rl:List (Nat×Nat)} {bor:List Nat} {r:List (dK×K)}
theorem cQ {s:Nat} {x y:D} (h:aV τ (.t s)=some (.v (Dv x))) (e:x=y) (hr:mL τ σ' rl bor r):mL τ σ' rl bor ((.t s,.v (Dv y))::r):=⟨⟨_,h,e⟩,hr⟩
theorem lZ {s:Nat} (h:aV τ (.t s)=some (.v (.e (.c .nil)))) (hr:mL τ σ' rl bor r):mL τ σ' rl bor ((.t s,.v (.e (.c .nil)))::r):=⟨⟨_,h,trivial⟩,hr⟩
theorem kf {s:Nat} {y:D} (h:aV τ (.t s)=some (.v (.e (.c .nil)))) (e:y= .sl []) (hr:mL τ σ' rl bor r):mL τ σ' rl bor ((.t s,.v (Dv y))::r):=⟨⟨_,h,e⟩,hr⟩
theorem jF {s o n j m:Nat} {e:TypeId} {es:Nat} {rows:List (List D)} (h:aV τ (.t s)=some (.v (.e (.c (.own o n))))) (ho:o=kS rl j) (e1:n=m) (hj:aV σ' (.o j)=some (.row e es rows)) (hr:mL τ σ' rl bor r):mL τ σ' rl bor ((.t s,.v (.e (.c (.own j m))))::r):=
 ⟨⟨_,h,ho,e1,e,es,rows,hj⟩,hr⟩
theorem fB {s o n:Nat} {y:D} {e:TypeId} {es:Nat} {rows:List (List D)} (h:aV τ (.t s)=some (.v (.e (.c (.own o n))))) (hb:iS o bor=true) (hj:aV τ (.o o)=some (.row e es rows)) (e1:rows.length=n) (e2:y= .sl rows) (hr:mL τ σ' rl bor r):mL τ σ' rl bor ((.t s,.v (Dv y))::r):=
 ⟨⟨_,h,iF.1 hb,e,es,rows,hj,e1,.inl e2⟩,hr⟩
theorem bY {s o k j m:Nat} {ty:TypeId} {cs:List C} (h:aV τ (.t s)=some (.v (.e (.c (.pt o k))))) (ho:o=kS rl j) (e1:k=m) (hj:aV σ' (.o j)=some (.box ty cs)) (hr:mL τ σ' rl bor r):mL τ σ' rl bor ((.t s,.v (.e (.c (.pt j m))))::r):=
 ⟨⟨_,h,ho,e1,ty,cs,hj⟩,hr⟩
theorem eC {s:Nat} {cs ds:List C} (h:aV τ (.t s)=some (.v (.e (.agg cs)))) (e:mCs τ σ' rl bor cs ds) (hr:mL τ σ' rl bor r):mL τ σ' rl bor ((.t s,.v (.e (.agg ds)))::r):=⟨⟨_,h,e⟩,hr⟩
theorem bZ {j:Nat} {e:TypeId} {es:Nat} {rows rows':List (List D)} (h:aV τ (.o (kS rl j))=some (.row e es rows)) (e1:rows=rows') (hr:mL τ σ' rl bor r):mL τ σ' rl bor ((.o j,.row e es rows')::r):=⟨⟨_,h,rfl,rfl,e1⟩,hr⟩
theorem bB {j:Nat} {ty:TypeId} {cs ds:List C} (h:aV τ (.o (kS rl j))=some (.box ty cs)) (e1:mCs τ σ' rl bor cs ds) (hr:mL τ σ' rl bor r):mL τ σ' rl bor ((.o j,.box ty ds)::r):=⟨⟨_,h,rfl,e1⟩,hr⟩
theorem aN:mCs τ σ' rl bor [] []:=trivial
theorem aG {x y:D} {cs ds:List C} (e:x=y) (h:mCs τ σ' rl bor cs ds):mCs τ σ' rl bor (.d x::cs) (.d y::ds):=⟨e,h⟩
theorem jX {cs ds:List C} (h:mCs τ σ' rl bor cs ds):mCs τ σ' rl bor (.nil::cs) (.nil::ds):=⟨trivial,h⟩
theorem bU {o n j m:Nat} {e:TypeId} {es:Nat} {rows:List (List D)} {cs ds:List C} (ho:o=kS rl j) (e1:n=m) (hj:aV σ' (.o j)=some (.row e es rows)) (h:mCs τ σ' rl bor cs ds):mCs τ σ' rl bor (.own o n::cs) (.own j m::ds):=⟨⟨ho,e1,e,es,rows,hj⟩,h⟩
theorem aLv {o n:Nat} {y:D} {e:TypeId} {es:Nat} {rows:List (List D)} {cs ds:List C} (hb:iS o bor=true) (hj:aV τ (.o o)=some (.row e es rows)) (e1:rows.length=n) (e2:y= .sl rows) (h:mCs τ σ' rl bor cs ds):mCs τ σ' rl bor (.own o n::cs) (.d y::ds):=⟨⟨iF.1 hb,e,es,rows,hj,e1,.inl e2⟩,h⟩
theorem eO {o k j m:Nat} {ty:TypeId} {xs cs ds:List C} (ho:o=kS rl j) (e1:k=m) (hj:aV σ' (.o j)=some (.box ty xs)) (h:mCs τ σ' rl bor cs ds):mCs τ σ' rl bor (.pt o k::cs) (.pt j m::ds):=⟨⟨ho,e1,ty,xs,hj⟩,h⟩
end
theorem RW.nilOwn {P:Program} {cx:Cx P} {σ:St} {ι:Nat→Value} {S:Nat→Prop} {a:Act} {w:World} (h:RW cx σ ι S a w) {s j:Nat} (e:TypeId) (es:Nat) (hs:aV σ (.t s)=some (.v (.e (.c .nil)))) (hj:aV σ (.o j)=none):
 RW cx (qM (qM σ (.o j) (.row e es [])) (.t s) (.v (.e (.c (.own j 0))))) (fun o=>if o=j then .slice none 0 0 else ι o) S a w:=by
 have hblk: ∀b,uZ (.slice none 0 0) b→some b=(none:Option Nat)∨w.heap.size≤b:=fun b hb=>by simp[uZ] at hb
 have h1:=h.turn (id:=j) (old:=none) (k:= .row e es []) (p:= .slice none 0 0) (w':=w) ⟨rfl,rfl,rfl,aX8 _,(fun _ _ _=>rfl),(fun b hb=>by cases hb),.inl hj,hblk,.inl ⟨rfl,rfl⟩⟩
 have hv:iZ a s= .slice none 0 0:=h.vr.slots s _ hs
 refine h1.reslot (fun o=>cT _ _ (by simp)) fun t k hk=> ?_
 rw[lV] at hk
 by_cases e1:s=t
 · subst e1
   rw[aC rfl] at hk;cases hk
   show CR (qM σ (.o j) (.row e es [])) (fun o=>if o=j then .slice none 0 0 else ι o) w S (.own j 0) (iZ a s)
   rw[hv]
   exact⟨rfl,.inl ⟨e,es,[],dD _ _ _,aX8 _,fun _=>by simp⟩⟩
 · rw[aB (by simpa using e1)] at hk
   exact h1.vr.slots t k hk
theorem SW.nilOwn {P:Program} {io:List Nat} {Q:Ex→St→Prop} {σ:St} {c:Code} (s j:Nat) (e:TypeId) (es:Nat) (hs:aV σ (.t s)=some (.v (.e (.c .nil)))) (hj:aV σ (.o j)=none)
 (h:nC σ [(.o j,.row e es []),(.t s,.v (.e (.c (.own j 0))))] (SW P io c Q)):SW P io c Q σ:=by
 rw[jW] at h
 intro cx ι S a w hio hw hf
 exact h cx _ S a w hio (hw.nilOwn e es hs hj) hf
theorem ai {a b:Prop} (x:a) (y:b):a∧b:=⟨x,y⟩
theorem vc {p:Prop} (h:p:=by first|trivial|exact aX0 rfl|exact⟨rfl,aX0 rfl⟩|omega|((repeat' apply And.intro)<;>first|trivial|rfl|exact aX0 rfl|omega)|(simp;done)|(simp;omega)):p:=h
theorem rk {p:Prop} (h:p:=by intro h;(repeat' apply And.intro)<;>first|exact h|trivial):p:=h
theorem pk {p:Prop} (h:p:=by constructor<;>intro h<;>first|trivial|exact h|(simp[gb,nY];done)|(simpa[gb,nY] using h)|(simp only[gb,nY] at *; grind)|(simp_all[gb,nY];done)):p:=h
def OpE (P:Program) (o:Oper) (R:List (dK×Option K)) (Ws:List (dK×K)→Prop):Prop:=
 ∀(cx:Cx P) (σ:St) (ι:Nat→Value) (S:Nat→Prop) (a:Act) (w:World),bV R σ→RW cx σ ι S a w→(∀d,o.dst=some d→d<cx.N)→
  ∀(next:Act→World→Prop) (Q:Exit→Act→World→Prop),(∀W,Ws W→ ∀ι' S' a' w',RW cx (iP σ W) ι' S' a' w'→next a' w')→o.wp P a w next Q
theorem vW.toE {P:Program} {o:Oper} {R:List (dK×Option K)} {W:List (dK×K)} (h:vW P o R W):OpE P o R (· =W):=
 fun cx σ ι S a w hr hw hd next Q hn=>h cx σ ι S a w hr hw hd next Q fun ι' S' a' w' hw'=>hn W rfl ι' S' a' w' hw'
def SpecE (P:Program) (f:FuncId) (n:Nat) (σin:St) (Qo:St→Prop):Prop:=
 ia P f∧ ∀(ι ν:Nat→Value) (S:Nat→Prop) (w:World) (args:Array Value),(GB P w fun b=> ∃o,lJ σin ι o b)→VR σin ι ν S w→args.size=n→(∀i,i<n→args[i]? =some (ν i))→
  Calls P f args w fun e w'=> ∃v ι' S' σout,Qo σout∧e= .returned v∧aN8 σin ι S w σout ι' S' w' v
theorem nZ {P:Program} {f:FuncId} {args:Array Value} {w:World} {Q Q':Ending→World→Prop} (hq: ∀e w',Q e w'→Q' e w') (h:Calls P f args w Q):Calls P f args w Q':=by
 intro cs
 obtain⟨e,w',fr,h1,h2⟩:=h cs
 exact⟨e,w',fr,hq e w' h1,h2⟩
theorem Spec.toE {P:Program} {f:FuncId} {n:Nat} {σin σout:St} {Qo:St→Prop} (h:Spec P f n σin σout) (hq:Qo σout):SpecE P f n σin Qo:=by
 refine⟨h.1,fun ι ν S w args h0 h1 h2 h3=>nZ (fun e w'=> ?_) (h.2 ι ν S w args h0 h1 h2 h3)⟩
 rintro⟨v,ι',S',rfl,hp⟩
 exact⟨v,ι',S',σout,hq,rfl,hp⟩
def aOi (T:hZ) (io:List Nat) (rs:List ResultVar) (Qo:St→Prop):Ex→St→Prop
 | .norm,s=> ∃σout,Qo σout∧be T io rs σout s
 | .ret,s=> ∃σout,Qo σout∧be T io rs σout s
 | .exit _,_=>False
theorem aAj {P:Program} {T:hZ} (hT:dV P T) {f:FuncId} {fn:Func} {c:Code} {n:Nat} {σin:St} {Qo:St→Prop} (hf:P.funcs[f]? =some fn) (hb:fn.body=some c) (hname: (fn.name== "runtime.NumGoroutine")=false) (hn:n≤fn.ntmps) (hfit:tJ fn.ntmps c=true)
 (hsl:sT n σin=true) (h:SW P (cE σin) c (aOi T (cE σin) fn.results.toList Qo) σin):SpecE P f n σin Qo:=by
 refine⟨⟨fn,hf,by rw[hb];rfl,hname⟩,fun ι ν S w args hgb hvr hsz hargs=> ?_⟩
 have hnu: ∀s,s<n→(args++Array.replicate (fn.ntmps - args.size) undef).getD s undef=ν s:=by
  intro s hs
  rw[Array.getD_eq_getD_getElem?,Array.getElem?_append_left (by omega),hargs s hs];rfl
 let cx:Cx P:={N:=fn.ntmps,w0:=w,S0:=S,k0:=fun o=>aV σin (.o o),kio:=fun o=>aV σin (.o o),ι0:=ι,gb:=hgb.weak fun b ⟨o,k,q1,q2,q3⟩=>⟨o,⟨k,q1,q2⟩,q3⟩}
 have hM: ∀b,cx.M b↔ ∃o,lJ σin ι o b:=fun b=>⟨fun⟨o,k,q1,q2,q3⟩=>⟨o,⟨k,q1,q2⟩,q3⟩,fun⟨o,⟨k,q1,q2⟩,q3⟩=>⟨o,k,q1,q2,q3⟩⟩
 have hw:RW cx σin ι S {tmps:=args++Array.replicate (fn.ntmps - args.size) undef,defers:=[]} w:=by
  refine⟨⟨fun s x hx=> ?_,hvr.objs,hvr.mutS,hvr.inj,hvr.sz⟩,?_,rfl,Fr.refl _ _,fun o b ⟨⟨k,q1,q2⟩,q3⟩=> .inr ⟨o,k,q1,q2,q3⟩,fun b hb=> .inl hb,fun o k hk=>⟨k,hk,nU.refl' _ _⟩⟩
  · have hs:=uH hsl s _ hx
    have:iZ {tmps:=args++Array.replicate (fn.ntmps - args.size) undef,defers:=[]} s=ν s:=hnu s hs
    rw[this];exact hvr.slots s x hx
  · show(args++Array.replicate (fn.ntmps - args.size) undef).size=fn.ntmps
    simp;omega
 refine calls_of_wp hf hb (wp_mono (h cx ι S _ w (fun o k hk=>fN hk) hw hfit) fun e a' w' hq=> ?_)
 have fin: (∃σ' ι' S',(∃σout,Qo σout∧be T (cE σin) fn.results.toList σout σ')∧RW cx σ' ι' S' a' w')→a'.defers=[]∧ ∃v,(results fn a'.tmps).run P w'= .ok v w'∧ ∃v_1 ι' S' σout,Qo σout∧Ending.returned v= .returned v_1∧aN8 σin ι S w σout ι' S' w' v_1:=by
  rintro⟨σ',ι',S',⟨σout,hQo,X,rl,bor,hX,hm,hio⟩,hw'⟩
  obtain⟨v,hr,hv⟩:=ve hT hw' hX
  refine⟨hw'.defers,v,hr,v,fun j=>ι' (kS rl j),qQ σ' ι' bor S',σout,hQo,rfl,?_⟩
  have hlo: ∀o,aV ((dK.t 0,K.v X)::eH σ') (.o o)=aV σ' (.o o):=fun o=>by simp only[aV];rw[aB (by simp),qR]
  have st:rS σ' ι' S' w' ((dK.t 0,K.v X)::eH σ') ι' S' w':=⟨fun _ h=>h,fun _ _=>rfl,fun o k hk=>⟨k,by rw[hlo];exact hk,nU.refl' _ _⟩⟩
  have hmut: ∀o b,lJ ((dK.t 0,K.v X)::eH σ') ι' o b↔lJ σ' ι' o b:=fun o b=>by unfold lJ;rw[hlo]
  have hlt: ∀(r:St) s k,aV (eH r) (.t s)=some k→False:=by
   intro r s k
   induction r with
   |nil=>intro h;cases h
   |cons p r ih=>
    obtain⟨l,k'⟩:=p
    cases l with
    |t n=>exact ih
    |o n=>simp only[eH,aV];rw[aB (by simp)];exact ih
  have hvr0:VR ((dK.t 0,K.v X)::eH σ') ι' (fun _=>v) S' w':=by
   refine⟨fun s x hx=> ?_,fun o k hk=>OR.step st (fun _ _=>rfl) (hw'.vr.objs o k (by rw[← hlo];exact hk)),fun o b q=>hw'.vr.mutS o b ((hmut o b).1 q),fun o o' b q q'=>hw'.vr.inj o o' b ((hmut o b).1 q) ((hmut o' b).1 q'),hw'.vr.sz⟩
   simp only[aV] at hx
   split at hx
   · cases hx;exact mI.step st hv
   · exact(hlt σ' s _ hx).elim
  have hvr1:=vF hm (fun _ _ h=>h) hvr0
  have hio2: ∀o∈cE σin,iS o (cE σout)=false∨Nat.beq (kS rl o) o=true:=by simpa only[vf,aYd,Bool.or_eq_true,Bool.not_eq_true'] using hio
  have hgive: ∀b,qQ ((dK.t 0,K.v X)::eH σ') ι' bor S' b→qQ σ' ι' bor S' b:=fun b hb=>hb.imp id fun⟨o,ho,q⟩=>⟨o,ho,(hmut o b).1 q⟩
  refine⟨⟨hw'.fr.os,hw'.fr.tape,hw'.fr.output,hw'.fr.size,fun b hb hnm=>hw'.fr.block b hb (fun h=>hnm ((hM b).1 h))⟩,?_,fun b hb=> ?_,fun j b hmu=> ?_,fun o k k' hk hk'=> ?_⟩
  · have e:qQ ((dK.t 0,K.v X)::eH σ') ι' bor S'=qQ σ' ι' bor S':=by
     funext b;apply propext;exact⟨hgive b,fun hb=>hb.imp id fun⟨o,ho,q⟩=>⟨o,ho,(hmut o b).2 q⟩⟩
    rw[← e];exact hvr1
  · rcases hb with hb|⟨o,ho,hmo⟩
    · exact(hw'.rd b hb).imp id fun h=>h.imp id fun h=>(hM b).1 h
    · exact .inr ((hw'.own o b hmo).imp id fun h=>(hM b).1 h)
  · exact(hw'.own _ b ((hmut _ b).1 (hm.mut (fun _ _ h=>h) hmu))).imp id fun h=>(hM b).1 h
  · have hren:kS rl o=o:=by
     rcases hio2 o (fN hk) with h4|h4
     · rw[iF.2 (fN hk')] at h4;cases h4
     · exact Nat.eq_of_beq_eq_true h4
    obtain⟨k1,hk1,hev⟩:=hw'.io o k hk
    have hev:nU (ι o) (ι' o) k k1:=hev
    obtain⟨k2,hk2,hmk⟩:=hm.ids o k' hk'
    rw[hren,hlo,hk1] at hk2;cases hk2
    rw[hren]
    exact aDf hev hmk
 cases e with
 |normal=>
  obtain⟨σ',ι',S',h1,h2⟩:=hq
  exact fin ⟨σ',ι',S',h1,h2⟩
 |ret=>
  obtain⟨σ',ι',S',h1,h2⟩:=hq
  exact fin ⟨σ',ι',S',h1,h2⟩
 |exit id=>obtain⟨σ',ι',S',h1,h2⟩:=hq;exact h1.elim
 |goto l=>exact hq.elim
 |panic ch=>exact hq.elim
 |outgrown=>exact hq.elim
section
variable {P:Program} {f:FuncId} {n:Nat} {σin:St} {Qo:St→Prop} {rl:List (Nat×Nat)} {bor:List Nat} {σ0:St} {Xs:List V} {Ra:List (dK×Option K)} {robj:List (Nat×K)} {news:List Nat}
def aOj (Ra:List (dK×Option K)) (robj:List (Nat×K)) (rl:List (Nat×Nat)) (news:List Nat):List (dK×Option K):=
 Ra++robj.map (fun p=>(.o p.1,some p.2))++news.map fun j=>(.o (kS rl j),none)
theorem aBw (hs:SpecE P f n σin Qo) {o:Oper} {c:Call} (ho:o.op= .call c) (hc:c.callee= .value (.func f)) (hx:evA σ0 c.args.toList=some (Xs,Ra)) (hn:Xs.length=n)
 (hm:pE (fA 0 Xs++rW robj) σin rl bor) (hq: ∀σout,Qo σout→kX rl σin σout=true∧(bor=[]∨nV σout)∧ ∀j∈kU σin σout,j∈news):
 OpE P o (aOj Ra robj rl news) fun W=> ∃σout,Qo σout∧W=uE rl σin σout o.dst:=by
 intro cx σ ι S a w hr hw hd next Q hnext
 obtain⟨⟨fn,hf,hbody,hname⟩,hcall⟩:=hs
 obtain⟨hlen,hargs⟩:=oe hw hx hr.left.left
 let args:Array Value:=c.args.map a.eval
 let ν:Nat→Value:=fun i=>(args[i]?).getD undef
 have hsz:args.size=n:=by show(c.args.map a.eval).size=n;rw[Array.size_map,← hn,hlen,Array.length_toList]
 have hargν: ∀i,i<n→args[i]? =some (ν i):=fun i hi=>by
  show args[i]? =some ((args[i]?).getD undef)
  rw[Array.getElem?_eq_getElem (by omega)];rfl
 have hνr: ∀s X,Xs[s]? =some X→mI σ ι w S X (ν s):=fun s X hX=>by
  obtain⟨x,h1,h2⟩:=hargs s X hX
  have:ν s=a.eval x:=by
   show((c.args.map a.eval)[s]?).getD undef=a.eval x
   rw[Array.getElem?_toList] at h1
   rw[Array.getElem?_map,h1];rfl
  rw[this];exact h2
 have hlo: ∀o,aV (fA 0 Xs++eH σ) (.o o)=aV σ (.o o):=fun o=>by rw[lK,qR]
 have st:rS σ ι S w (fA 0 Xs++eH σ) ι S w:=⟨fun _ h=>h,fun _ _=>rfl,fun o k hk=>⟨k,by rw[hlo];exact hk,nU.refl' _ _⟩⟩
 have hmut: ∀o b,lJ (fA 0 Xs++eH σ) ι o b↔lJ σ ι o b:=fun o b=>by unfold lJ;rw[hlo]
 have hvr0:VR (fA 0 Xs++eH σ) ι ν S w:=by
  refine⟨fun s x hx=> ?_,fun o k hk=>OR.step st (fun _ _=>rfl) (hw.vr.objs o k (by rw[← hlo];exact hk)),fun o b q=>hw.vr.mutS o b ((hmut o b).1 q),fun o o' b q q'=>hw.vr.inj o o' b ((hmut o b).1 q) ((hmut o' b).1 q'),hw.vr.sz⟩
  obtain⟨X,h1,h2⟩:=bf hx
  cases h2
  exact mI.step st (hνr s _ h1)
 have hsub: ∀l k,aV (fA 0 Xs++rW robj) l=some k→aV (fA 0 Xs++eH σ) l=some k:=fun l k h=>by
  cases l with
  |o o=>
   rw[hlo]
   rw[lK] at h
   exact hr (.o o,some k) (List.mem_append_left _ (List.mem_append_right _ (aYc.2 ⟨(o,k),ib h,rfl⟩)))
  |t s=>
   obtain⟨X,h1,rfl⟩:=vG h
   have hs:=(aYa.1 h1).1
   rw[pX 0 Xs _ s (aX5 _) (by omega)];simp[h1]
 have hvr1:=vF hm hsub hvr0
 have hgb:GB P w fun b=> ∃o,lJ σin (fun j=>ι (kS rl j)) o b:=fun w2 h2=>cx.gb w2 (hw.fr.trans h2 fun x hx ⟨o,ho⟩=>by
  rcases hw.own _ x ((hmut _ _).1 (hm.mut hsub ho)) with h3|h3
  · omega
  · exact h3)
 have hcl:=hcall _ ν _ w args hgb hvr1 hsz hargν
 obtain⟨callee,cargs,argTypes⟩:=c
 dsimp only at hc
 subst hc
 have hbd: ∃cd,fn.body=some cd:=by
  cases hq:fn.body with
  |none=>rw[hq] at hbody;cases hbody
  |some cd=>exact⟨cd,rfl⟩
 obtain⟨cd,hbd⟩:=hbd
 have hrun: (execOp a.eval o).run P w= .ok (.enter f args) w:=by
  have h1:=MuLone.run_callFunc_enter (P:=P) hf hname hbd args w
  have e: (execOp a.eval o).run P w=(callFunc f (args++ #[])).run P w:=by
   simp[execOp,ho,resolve,invoke,Deferred.ofValue,args,Act.eval]
  rw[e,Array.append_empty];exact h1
 unfold Oper.wp
 rw[hrun,Oper.upon_enter]
 intro cs
 obtain⟨e,w',fr,⟨v,ι',S',σout,hQo,rfl,hpost⟩,hcomes⟩:=hcl cs
 refine⟨_,w',fr,?_,hcomes⟩
 dsimp only
 obtain⟨hk,hb,hnw⟩:=hq σout hQo
 have hr':bV (ri Ra robj rl σin σout) σ:=by
  intro p hp
  rcases List.mem_append.1 hp with hp|hp
  · exact hr p (List.mem_append_left _ hp)
  · obtain⟨j,hj,rfl⟩:=aYc.1 hp
    exact hr (.o (kS rl j),none) (List.mem_append_right _ (aYc.2 ⟨j,hnw j hj,rfl⟩))
 have hrw:=aKe (Ra:=Ra) hm hk hb hr' hw hνr hpost
 have hSK: ∀{l:dK} {k:K},aV σout l=some k→(∀b,S' b→(S b∨(bor=[]∧S' b)))∨kb k:=fun{l k} h=>by
  rcases hb with e|hs
  · exact .inl fun b hb=> .inr ⟨e,hb⟩
  · exact .inr (hs (l,k) (vD h))
 have hnext:=hnext _ ⟨σout,hQo,rfl⟩
 cases hdst:o.dst with
 |none=>
  refine hnext (pF rl σout ι' ι) (fun b=>S b∨(bor=[]∧S' b)) _ w' ?_
  rw[hdst]
  simp only[uE,aAh,List.append_nil]
  exact hrw
 |some d=>
  have hd':=hd d hdst
  cases hq:aV σout (.t 0) with
  |none=>
   refine hnext (pF rl σout ι' ι) (fun b=>S b∨(bor=[]∧S' b)) _ w' ?_
   rw[hdst]
   simp only[uE,aAh,qG,hq,iP]
   exact hrw.putDead hd' v
  |some k=>
   cases k with
   |v X=>
    refine hnext (pF rl σout ι' ι) (fun b=>S b∨(bor=[]∧S' b)) _ w' ?_
    rw[hdst]
    simp only[uE,aAh,qG,hq,iP]
    exact hrw.put hd' (aKd hk (hSK hq) (hpost.vr.slots 0 (.v X) hq))
   |_=>
    refine hnext (pF rl σout ι' ι) (fun b=>S b∨(bor=[]∧S' b)) _ w' ?_
    rw[hdst]
    simp only[uE,aAh,qG,hq,iP]
    exact hrw.putDead hd' v
end
theorem RW.weaken {P:Program} {cx:Cx P} {io:List Nat} {σ:St} {ι:Nat→Value} {S:Nat→Prop} {a:Act} {w:World} (σ':St) (rl:List (Nat×Nat)) (bor:List Nat) (hm:pE σ σ' rl bor) (hk:zA io σ' rl bor=true) (hio: ∀o k,cx.kio o=some k→o∈io) (hw:RW cx σ ι S a w):RW cx σ' (fun j=>ι (kS rl j)) (qQ σ ι bor S) a w:=by
 have hkk: ∀o k,cx.kio o=some k→kS rl o=o∧o∈cE σ'∧o∉bor:=fun o k ho=>by
  have:=aYd.1 hk o (hio o k ho)
  simp only[aX3,Bool.not_eq_true'] at this
  refine⟨Nat.eq_of_beq_eq_true this.1.1,iF.1 this.1.2,fun hb=> ?_⟩
  rw[iF.2 hb] at this;cases this.2
 have hvr:=vF hm (fun _ _ h=>h) hw.vr
 refine⟨hvr,hw.size,hw.defers,hw.fr,fun j b hmu=> ?_,fun b hb=> ?_,fun o k ho=> ?_⟩
 · exact hw.own _ b (hm.mut (fun _ _ h=>h) hmu)
 · rcases hb with hb|⟨o,ho,hmo⟩
   · exact hw.rd b hb
   · exact .inr (hw.own o b hmo)
 · obtain⟨q1,q2,q3⟩:=hkk o k ho
   obtain⟨k1,hk1,hev⟩:=hw.io o k ho
   obtain⟨p,hp⟩:=qP q2
   obtain⟨k2,hk2,hmk⟩:=hm.ids o p hp
   rw[q1] at hk2
   rw[hk1] at hk2;cases hk2
   refine⟨p,hp,?_⟩
   rw[q1]
   exact aDf hev hmk
theorem RW.freeze {P:Program} {cx:Cx P} {σ:St} {ι:Nat→Value} {S:Nat→Prop} {a:Act} {w:World} (hw:RW cx σ ι S a w) {s o n:Nat} {e:TypeId} {es:Nat} {rows:List (List D)} (hs:aV σ (.t s)=some (.v (.e (.c (.own o n))))) (ho:aV σ (.o o)=some (.row e es rows)) (hn:rows.length=n):
 RW cx (qM (qM σ (.o o) .dead) (.t s) (.v (Dv (.sl rows)))) ι (fun b=>S b∨uZ (ι o) b) a w:=by
 have hlo: ∀o',aV (qM (qM σ (.o o) .dead) (.t s) (.v (Dv (.sl rows)))) (.o o')=if o'=o then some .dead else aV σ (.o o'):=fun o'=>by
  rw[cT _ _ (by simp),lV]
  by_cases h:o'=o
  · subst h;simp
  · rw[aB (by simpa using fun e=>h e.symm),aB h]
 have hmut: ∀o' b,lJ (qM (qM σ (.o o) .dead) (.t s) (.v (Dv (.sl rows)))) ι o' b→o'≠o∧lJ σ ι o' b:=fun o' b ⟨⟨k,hk,hl⟩,hb⟩=>by
  rw[hlo] at hk
  by_cases h:o'=o
  · rw[aC h] at hk;cases hk;exact hl.elim
  · rw[aB h] at hk;exact⟨h,⟨k,hk,hl⟩,hb⟩
 have hmo: ∀b,uZ (ι o) b→lJ σ ι o b:=fun b hb=>⟨⟨_,ho,trivial⟩,hb⟩
 have st:rS σ ι S w (qM (qM σ (.o o) .dead) (.t s) (.v (Dv (.sl rows)))) ι (fun b=>S b∨uZ (ι o) b) w:=by
  refine⟨fun b h=> .inl h,fun _ _=>rfl,fun o' k hk=> ?_⟩
  by_cases h:o'=o
  · exact⟨.dead,by rw[hlo,aC h],by cases k<;>simp[nU]⟩
  · exact⟨k,by rw[hlo,aB h];exact hk,nU.refl' _ _⟩
 have hrow:=hw.vr.objs o _ ho
 have hv:iZ a s=ι o:=by
  obtain⟨_,h2⟩:=(show CR σ ι w S (.own o n) (iZ a s) from hw.vr.slots s _ hs)
  rcases h2 with⟨e2,es2,rows2,hl,_,hv⟩|hd
  · rw[ho] at hl;cases hl;exact hv hn
  · rw[ho] at hd;cases hd
 refine⟨⟨fun t k hkt=> ?_,fun o' k hk=> ?_,fun o' b hm hS=> ?_,fun o1 o2 b h1 h2=> ?_,fun b hb=> ?_⟩,hw.size,hw.defers,hw.fr,fun o' b hm=>hw.own o' b (hmut o' b hm).2,fun b hb=> ?_,fun o' k hk'=> ?_⟩
 · rw[lV] at hkt
   by_cases e2:s=t
   · subst e2
     rw[aC rfl] at hkt;cases hkt
     show DR w _ (.sl rows) (iZ a s)
     rw[hv]
     rcases hrow with⟨h1,h2⟩|⟨g,off,cap,cur,fz,h1,hh,hfz,h2,h3,h4,h5⟩
     · rw[h1,h2]
       exact DR.sl [] none 0 es ⟨0,0,none⟩ (fun _ _=>undef) (aX8 _) (by decide) (by simp) (by simp) (by simp) (by simp)
     · rw[h1]
       let u:Nat→Nat→Value:=fun i k=>(cur[off+i*es+k]?).getD undef
       refine DR.sl rows (some ⟨g,off,none⟩) cap es ⟨g,off,none⟩ u h2 h3 (fun r hr=> ?_) (fun _=>rfl) (fun i r k d hi hd=> ?_) (fun i r k d hi hd=> ?_)
       · obtain⟨i,hi⟩:=List.mem_iff_getElem?.1 hr
         exact(h5 i r hi).1
       · obtain⟨v,hv1,_⟩:=(h5 i r hi).2 k d hd
         refine⟨.inr rfl,?_⟩
         rw[lO,cell_of_row w g _ cur e fz hh,← Nat.add_assoc]
         show cur[off+i*es+k]? =some ((cur[off+i*es+k]?).getD undef)
         rw[hv1];rfl
       · obtain⟨v,hv1,hv2⟩:=(h5 i r hi).2 k d hd
         have:u i k=v:=by show(cur[off+i*es+k]?).getD undef=v;rw[hv1];rfl
         rw[this]
         exact DR.mono (fun b h=> .inl h) (fun _ _=>rfl) hv2
   · rw[aB (by simpa using e2),cT _ _ (by simp)] at hkt
     exact rU.step st (hw.vr.slots t k hkt)
 · rw[hlo] at hk
   by_cases h:o'=o
   · rw[aC h] at hk;cases hk;trivial
   · rw[aB h] at hk
     exact OR.step st (fun _ _=>rfl) (hw.vr.objs o' k hk)
 · obtain⟨hne,hm⟩:=hmut o' b hm
   rcases hS with hS|hS
   · exact hw.vr.mutS o' b hm hS
   · exact hne (hw.vr.inj o' o b hm (hmo b hS))
 · exact hw.vr.inj o1 o2 b (hmut o1 b h1).2 (hmut o2 b h2).2
 · rcases hb with hb|hb
   · exact hw.vr.sz b hb
   · exact OR.lt hrow trivial hb
 · rcases hb with hb|hb
   · exact hw.rd b hb
   · exact .inr (hw.own o b (hmo b hb))
 · obtain⟨k2,q1,q2⟩:=hw.io o' k hk'
   by_cases hne:o'=o
   · exact⟨.dead,by rw[hlo,aC hne],by cases k<;>trivial⟩
   · exact⟨k2,by rw[hlo,aB hne];exact q1,q2⟩
def vu (io:List Nat) (σ σ1:St):Prop:= ∀(P:Program) (cx:Cx P) (ι:Nat→Value) (S:Nat→Prop) (a:Act) (w:World),(∀o k,cx.kio o=some k→o∈io)→RW cx σ ι S a w→ ∃ι' S',RW cx σ1 ι' S' a w
theorem vu.rfl {io:List Nat} {σ:St}:vu io σ σ:=fun _ cx ι S a w _ h=>⟨ι,S,h⟩
theorem vu.trans {io:List Nat} {σ σ1 σ2:St} (h:vu io σ σ1) (k:vu io σ1 σ2):vu io σ σ2:=fun _ cx ι S a w hio hw=>by
 obtain⟨ι1,S1,h1⟩:=h _ cx ι S a w hio hw
 exact k _ cx ι1 S1 a w hio h1
theorem vu.weak {io:List Nat} {σ σ1:St} (rl:List (Nat×Nat)) (bor:List Nat) (hm:mL σ σ1 rl bor σ1) (hm2:bd σ1 rl bor=true) (hk:zA io σ1 rl bor=true):vu io σ σ1:=fun _ cx ι S a w hio hw=>⟨_,_,RW.weaken σ1 rl bor ⟨hm,hm2⟩ hk hio hw⟩
theorem vu.frz {io:List Nat} {σ:St} {s o n:Nat} {e:TypeId} {es:Nat} {rows:List (List D)} (hs:aV σ (.t s)=some (.v (.e (.c (.own o n))))) (ho:aV σ (.o o)=some (.row e es rows)) (hn:rows.length=n) (hk:iS o io=false):vu io σ (qM (qM σ (.o o) .dead) (.t s) (.v (Dv (.sl rows)))):=fun _ cx ι S a w hio hw=>
 ⟨_,_,hw.freeze hs ho hn⟩
theorem SW.frz {P:Program} {io:List Nat} {Q:Ex→St→Prop} {σ:St} {c:Code} (s o:Nat) {n:Nat} {e:TypeId} {es:Nat} {rows:List (List D)} (hs:aV σ (.t s)=some (.v (.e (.c (.own o n))))) (ho:aV σ (.o o)=some (.row e es rows)) (hn:rows.length=n) (hk:iS o io=false)
 (h:oh σ (.o o) .dead fun σ'=>oh σ' (.t s) (.v (Dv (.sl rows))) fun σ2=>SW P io c Q σ2):SW P io c Q σ:=fun cx ι S a w hio hw hf=>by
 rw[nW,nW] at h
 obtain⟨ι1,S1,h1⟩:=vu.frz hs ho hn hk _ cx ι S a w hio hw
 exact h cx ι1 S1 a w hio h1 hf
def aBx (P:Program) (T:hZ) (io:List Nat) (o:Oper) (σ:St) (k:St→Prop):Prop:=
 match oj T o σ with
 |some (p,_,W)=>p∧nC σ W k
 |none=> ∃σ1,vu io σ σ1∧ ∃R Ws,OpE P o R Ws∧bV R σ1∧ ∀W,Ws W→nC σ1 W k
theorem rv {P:Program} {T:hZ} (hT:dV P T) {io:List Nat} {o:Oper} {σ:St} {k:St→Prop} (h:aBx P T io o σ k): ∃σ1,vu io σ σ1∧ ∃R Ws,OpE P o R Ws∧bV R σ1∧ ∀W,Ws W→nC σ1 W k:=by
 unfold aBx at h
 split at h
 · rename_i p R W he
   obtain⟨h1,h2⟩:=wC hT o σ p R W he h.1
   exact⟨σ,vu.rfl,R,_,h1.toE,h2,fun W' e=>by subst e;exact h.2⟩
 · exact h
def goE (P:Program) (T:hZ) (io:List Nat) (ops:List Oper):List Oper→St→(St→Prop)→Prop
 | [],σ,k=>k σ
 |o::os,σ,k=>match o.guard with
  |none=>aBx P T io o σ fun σ'=>goE P T io ops os σ' k
  |some (j,want)=>match(ops[j]?).bind (·.dst),o.dst with
   |some s,some d=>match gOf want (aV σ (.t s)) with
    |some g=>kd P T o σ s want g d fun R X=>oh σ (.t d) (.cv s want g X) fun σ'=>goE P T io ops os σ' k
    |none=>False
   |_,_=>False
theorem om {P:Program} {T:hZ} (hT:dV P T) {io:List Nat} {ops:Array Oper} {cx:Cx P} (hio: ∀o k,cx.kio o=some k→o∈io) {Q:Exit→Act→World→Prop} {k:St→Prop} (hk: ∀σ ι S a w,k σ→RW cx σ ι S a w→Q .normal a w): ∀(l:List Oper) (σ:St) (ι:Nat→Value) (S:Nat→Prop) (a:Act) (w:World),goE P T io ops.toList l σ k→RW cx σ ι S a w→(∀o∈l,∀d,o.dst=some d→d<cx.N)→wpList P ops Q l a w
 | [],σ,ι,S,a,w,h,hw,hf=>hk σ ι S a w h hw
 |o::os,σ,ι,S,a,w,h,hw,hf=>by
  have hfo:=hf o (List.mem_cons_self ..)
  have hfs: ∀o∈os,∀d,o.dst=some d→d<cx.N:=fun o ho=>hf o (List.mem_cons_of_mem _ ho)
  unfold wpList
  simp only[goE] at h
  split at h
  · rename_i hg
    obtain⟨σ1,hwk,R,Ws,h1,h2,h3⟩:=rv hT h
    rw[aC (by simp[Region.wanted,hg])]
    obtain⟨ι1,S1,hw1⟩:=hwk _ cx ι S a w hio hw
    refine .inl (h1 cx σ1 ι1 S1 a w h2 hw1 hfo _ Q fun W hW ι' S' a' w' hw'=> ?_)
    have h3:=h3 W hW
    rw[jW] at h3
    exact om hT hio hk os _ ι' S' a' w' h3 hw' hfs
  · rename_i j want hg
    split at h<;>try(exact h.elim)
    rename_i s d hs hd
    split at h<;>try(exact h.elim)
    rename_i g hl
    have hs': (ops[j]?).bind (·.dst)=some s:=by simpa using hs
    obtain⟨R,X,h1,h2⟩:=cl hT hg hs' hd hl h
    rw[nW] at h2
    exact h1 cx σ ι S a w zE hw hfo _ Q fun ι' S' a' w' hw'=>om hT hio hk os _ ι' S' a' w' (by simpa[iP] using h2) hw' hfs
section
variable {P:Program} {io:List Nat} {Q:Ex→St→Prop} {σ:St}
theorem SW.regE {T:hZ} (hT:dV P T) (ks:List Nat) {id:Nat} {ops:Array Oper} (h:goE P T io ops.toList ops.toList σ fun σ'=>qT ks σ' (Q .norm)):SW P io (.region id ops false) Q σ:=by
 intro cx ι S a w hio hw hf
 have hfit: ∀o∈ops.toList,∀d,o.dst=some d→d<cx.N:=fun o ho=>wY (by simpa[tJ] using hf) ho
 refine wp_region_list (om hT hio (fun σ' ι' S' a' w' h4 hw'=> ?_) ops.toList σ ι S a w h hw hfit)
 rw[lY] at h4
 exact⟨_,ι',S',h4,hw'.keep ks⟩
end
section
variable {P:Program} {T:hZ} {io:List Nat} {f:FuncId} {n:Nat} {σin:St} {o:Oper} {c:Call} {d:Nat} {σ σ1:St} {Xs:List V} {Ra:List (dK×Option K)}
theorem dB {Qo:St→Prop} {rl:List (Nat×Nat)} {bor news:List Nat} {robj:List (Nat×K)} {k:St→Prop} (hs:SpecE P f n σin Qo) (ho:o.op= .call c) (hc:c.callee= .value (.func f)) (hx:evA σ c.args.toList=some (Xs,Ra)) (hn:Xs.length=n)
 (hm:pE (fA 0 Xs++rW robj) σin rl bor) (hq: ∀σout,Qo σout→kX rl σin σout=true∧(bor=[]∨nV σout)∧ ∀j∈kU σin σout,j∈news) (h1: ∀p∈robj,aV σ (.o p.1)=some p.2) (h2: ∀j∈news,aV σ (.o (kS rl j))=none)
 (h: ∀σout,Qo σout→nC σ (uE rl σin σout o.dst) k): ∃σ1,vu io σ σ1∧ ∃R Ws,OpE P o R Ws∧bV R σ1∧ ∀W,Ws W→nC σ1 W k:=by
 refine⟨σ,vu.rfl,_,_,aBw hs ho hc hx hn hm hq,fun p hp=> ?_,fun W ⟨σout,hQ,e⟩=>e▸h σout hQ⟩
 rcases List.mem_append.1 hp with hp|hp
 · rcases List.mem_append.1 hp with hp|hp
   · exact uW hx p hp
   · obtain⟨q,hq,rfl⟩:=aYc.1 hp
     exact h1 q hq
 · obtain⟨j,hj,rfl⟩:=aYc.1 hp
   exact h2 j hj
theorem zG {k:St→Prop} (s o':Nat) {m:Nat} {e:TypeId} {es:Nat} {rows:List (List D)} (hs:aV σ (.t s)=some (.v (.e (.c (.own o' m))))) (ho:aV σ (.o o')=some (.row e es rows)) (hn:rows.length=m) (hk:iS o' io=false)
 (h:oh σ (.o o') .dead fun σ'=>oh σ' (.t s) (.v (Dv (.sl rows))) fun σ2=> ∃σ1,vu io σ2 σ1∧ ∃R Ws,OpE P o R Ws∧bV R σ1∧ ∀W,Ws W→nC σ1 W k): ∃σ1,vu io σ σ1∧ ∃R Ws,OpE P o R Ws∧bV R σ1∧ ∀W,Ws W→nC σ1 W k:=by
 rw[nW,nW] at h
 obtain⟨σ1,h1,h2⟩:=h
 exact⟨σ1,(vu.frz hs ho hn hk).trans h1,h2⟩
theorem iO {k:St→Prop} (h: ∃R W,vW P o R W∧bV R σ∧nC σ W k): ∃σ1,vu io σ σ1∧ ∃R Ws,OpE P o R Ws∧bV R σ1∧ ∀W,Ws W→nC σ1 W k:=by
 obtain⟨R,W,h1,h2,h3⟩:=h
 exact⟨σ,vu.rfl,R,_,h1.toE,h2,fun W' e=>by subst e;exact h3⟩
end
theorem cX {T:hZ} {io:List Nat} {rs:List ResultVar} {Qo:St→Prop} {s:St} (σout:St) (hq:Qo σout) (h:be T io rs σout s): ∃σout,Qo σout∧be T io rs σout s:=⟨σout,hq,h⟩
def vv (p v:Value):Prop:= ∃vs,p= .tuple vs∧v∈vs.toList
abbrev th (b tot:Nat):Value:= .slice (some ⟨b,0,none⟩) tot tot
def kh (w:World) (S:Nat→Prop) (e:TypeId) (es:Nat) (Pr:List D→Prop) (b tot:Nat):Prop:=
 ∃(cur:Array Value) (fz:Nat×Nat),w.heap[b]? =some (.cells cur e fz)∧aNq fz cur.size∧cur.size=tot*es∧ ∀i,i<tot→ ∃r:List D,r.length=es∧Pr r∧ ∀(k:Nat) d,r[k]? =some d→ ∃u,cur[i*es+k]? =some u∧DR w S d u
theorem kh.mono {w w':World} {S S':Nat→Prop} {e:TypeId} {es:Nat} {Pr:List D→Prop} {b tot:Nat} (hS: ∀b,S b→S' b) (hw: ∀b,S b→w'.heap[b]? =w.heap[b]?) (hb:w'.heap[b]? =w.heap[b]?) (h:kh w S e es Pr b tot):kh w' S' e es Pr b tot:=by
 obtain⟨cur,fz,hh,hf,hs,hr⟩:=h
 refine⟨cur,fz,by rw[hb];exact hh,hf,hs,fun i hi=> ?_⟩
 obtain⟨r,q1,q2,q3⟩:=hr i hi
 exact⟨r,q1,q2,fun k d hk=>by obtain⟨u,hu,hd⟩:=q3 k d hk;exact⟨u,hu,DR.mono hS hw hd⟩⟩
def aOk (e:TypeId) (es:Nat) (Pr:List D→Prop):gt where
 le p q:= ∀v,vv p v→vv q v
 R w S p:=(∃vs,p= .tuple vs)∧ ∀v,vv p v→ ∃b tot,v=th b tot∧kh w S e es Pr b tot
 refl _ _ h:=h
 trans h k v hv:=k v (h v hv)
 mono:=by
  intro w w' S S' p hS hw hb ⟨h1,h2⟩
  refine⟨h1,fun v hv=> ?_⟩
  obtain⟨b,tot,rfl,hp⟩:=h2 v hv
  obtain⟨vs,rfl,hm⟩:=hv
  exact⟨b,tot,rfl,hp.mono hS hw (hb b ⟨_,hm,rfl⟩)⟩
 lt:=by
  intro w S p b ⟨⟨vs,hp⟩,h2⟩ hb
  subst hp
  obtain⟨v,hv,hbv⟩:=hb
  obtain⟨b',tot,rfl,cur,fz,hh,_⟩:=h2 v ⟨vs,rfl,hv⟩
  simp[blk] at hbv;subst hbv
  exact(Array.getElem?_eq_some_iff.1 hh).1
abbrev aO (e:TypeId) (es:Nat) (Pr:List D→Prop):K:= .zone (aOk e es Pr)
def slQ (es n:Nat) (p v:Value):Prop:=(v= .slice none 0 0∧n=0)∨ ∃b i0 cap tot,v= .slice (some ⟨b,i0*es,none⟩) n cap∧n≤cap∧cap≤maxLen∧i0+cap≤tot∧vv p (th b tot)
def ptQ (es k:Nat) (p v:Value):Prop:= ∃b i tot,v= .pointer (some ⟨b,i*es+k,none⟩)∧i<tot∧vv p (th b tot)
abbrev ps (j es n:Nat):C:= .z j (slQ es n)
theorem slQ.mono {es n:Nat} {p p' v:Value} (h: ∀v,vv p v→vv p' v) (hq:slQ es n p v):slQ es n p' v:=by
 rcases hq with hq|⟨b,i0,cap,tot,q1,q2,q3,q4,q5⟩
 · exact .inl hq
 · exact .inr ⟨b,i0,cap,tot,q1,q2,q3,q4,h _ q5⟩
theorem ptQ.mono {es n:Nat} {p p' v:Value} (h: ∀v,vv p v→vv p' v) (hq:ptQ es n p v):ptQ es n p' v:=by
 obtain⟨b,i,tot,q1,q2,q3⟩:=hq
 exact⟨b,i,tot,q1,q2,h _ q3⟩
theorem slQ.one {es n:Nat} {p v:Value} (h:slQ es n p v):v.oneCell'=true:=by
 rcases h with⟨rfl,_⟩|⟨b,i0,cap,tot,rfl,_⟩<;>rfl
section
variable {P:Program} {T:hZ} {cx:Cx P} {σ:St} {ι:Nat→Value} {S:Nat→Prop} {a:Act} {w:World} {j es n:Nat} {e:TypeId} {Pr:List D→Prop} {Z:gt} {Q:Value→Value→Prop} {v:Value}
theorem tK (h:CR σ ι w S (.z j Q) v) (hl:aV σ (.o j)=some (.zone Z)):Q (ι j) v:=by
 rcases h.2 with⟨Z',hl',hq⟩|hd
 · rw[hl] at hl';cases hl';exact hq _ (Z.refl _)
 · rw[hl] at hd;cases hd
theorem aKk (hl:aV σ (.o j)=some (aO e es Pr)) (hq:slQ es n (ι j) v):CR σ ι w S (ps j es n) v:=⟨hq.one,.inl ⟨_,hl,fun p hp=>hq.mono hp⟩⟩
theorem aT6 {k:Nat} (hl:aV σ (.o j)=some (aO e es Pr)) (hq:ptQ es k (ι j) v):CR σ ι w S (.z j (ptQ es k)) v:=
 ⟨by obtain⟨b,i,tot,rfl,_⟩:=hq;rfl,.inl ⟨_,hl,fun p hp=>hq.mono hp⟩⟩
theorem ki (hv:OR σ ι w S (ι j) (aO e es Pr)) (hl:aV σ (.o j)=some (aO e es Pr)) {b tot:Nat} (hb:vv (ι j) (th b tot)):kh w S e es Pr b tot∧lJ σ ι j b:=by
 obtain⟨h1,h2⟩:=hv
 obtain⟨b',tot',he,hp⟩:=h2 _ hb
 cases he
 exact⟨hp,⟨_,hl,trivial⟩,by obtain⟨vs,e,hm⟩:=hb;rw[e];exact⟨_,hm,rfl⟩⟩
end
section
variable {P:Program} {T:hZ} {o:Oper} {σ:St} {x y:Operand} {t e:TypeId} {s1 s2 d j es n:Nat} {s3:List C} {Z:gt} {R R2:List (dK×Option K)} {k:List (dK×Option K)→List (dK×K)→Prop} {Pr:List D→Prop} {ti:TI}
theorem ig (hT:dV P T) (ho:o.op= .call {callee:= .builtin .len,args:= #[x],argTypes:= #[t]}) (hd:o.dst=some d) (ht:T t=some ⟨.sl e,s1,s2,s3⟩) (hx:ev σ x=some (.e (.c (ps j es n)),R)) (hl:aV σ (.o j)=some (.zone Z))
 (h:k (R++[(.o j,some (.zone Z))]) [(.t d,.v (I n))]): ∃R W,vW P o R W∧bV R σ∧k R W:=by
 have hu:=(hT t _ ht).kind
 simp only[mM] at hu
 refine⟨_,_,oL hd fun cx σ' ι S a w hr hw=> ?_,(dH hx).append (bV.one hl),h⟩
 have hl':=hr.right (.o j,some (.zone Z)) (by simp)
 dsimp only at hl'
 have hq:slQ es n (ι j) (a.eval x):=tK (S:=S) (w:=w) (dP hx hr.left hw) hl'
 rcases hq with⟨hv,rfl⟩|⟨b,i0,cap,tot,hv,_⟩
 · exact⟨_,by simp[execOp,ho,hv,resolve,invoke,builtin,Builtin.len_,run_underlying hu]<;>rfl,.i _⟩
 · exact⟨_,by simp[execOp,ho,hv,resolve,invoke,builtin,Builtin.len_,run_underlying hu]<;>rfl,.i _⟩
theorem aIm {m:Int} (hT:dV P T) (ho:o.op= .indexAddr t x y) (hd:o.dst=some d) (ht:T t=some ⟨.sl e,s1,s2,s3⟩) (hte:T e=some ti) (hes:ti.size=es) (hx:ev σ x=some (.e (.c (ps j es n)),R)) (hy:ev σ y=some (I m,R2)) {e':TypeId} (hl:aV σ (.o j)=some (aO e' es Pr))
 (hm:0≤m∧m<n) (h:k (R++R2++[(.o j,some (aO e' es Pr))]) [(.t d,.v (.e (.c (.z j (ptQ es 0)))))]): ∃R W,vW P o R W∧bV R σ∧k R W:=by
 have hu:=(hT t _ ht).kind
 simp only[mM] at hu
 refine⟨_,_,oL hd fun cx σ' ι S a w hr hw=> ?_,((dH hx).append (dH hy)).append (bV.one hl),h⟩
 have hl':=hr.right (.o j,some (aO e' es Pr)) (by simp)
 dsimp only at hl'
 have hq:slQ es n (ι j) (a.eval x):=tK (S:=S) (w:=w) (dP hx hr.left.left hw) hl'
 have hY:=dP hy hr.left.right hw
 simp only[mI,ER,CR] at hY
 cases hv2:a.eval y<;>rw[hv2] at hY<;>cases hY
 rcases hq with⟨hv,rfl⟩|⟨b,i0,cap,tot,hv,q2,q3,q4,q5⟩
 · have:=hm.1;have:=hm.2;omega
 · refine⟨.pointer (some ⟨b,(i0+m.toNat)*es+0,none⟩),?_,aT6 (S:=S) (w:=w) hl' ⟨b,i0+m.toNat,tot,rfl,by have:=hm.1;have:=hm.2;omega,q5⟩⟩
   simp[execOp,ho,hv,hv2,vA hu (hT e ti hte) ⟨b,i0*es,none⟩ n cap m hm.1 hm.2,lO,hes,Nat.add_mul]
theorem aOl {s f off k0:Nat} (hT:dV P T) (ho:o.op= .fieldAddr s x f) (hd:o.dst=some d) (hf:uG T s f=some (off,ti)) (hx:ev σ x=some (.e (.c (.z j (ptQ es k0))),R)) (hl:aV σ (.o j)=some (aO e es Pr))
 (h:k (R++[(.o j,some (aO e es Pr))]) [(.t d,.v (.e (.c (.z j (ptQ es (k0+off))))))]): ∃R W,vW P o R W∧bV R σ∧k R W:=by
 refine⟨_,_,oL hd fun cx σ' ι S a w hr hw=> ?_,(dH hx).append (bV.one hl),h⟩
 have hl':=hr.right (.o j,some (aO e es Pr)) (by simp)
 dsimp only at hl'
 obtain⟨b,i,tot,hv,q2,q3⟩:ptQ es k0 (ι j) (a.eval x):=tK (S:=S) (w:=w) (dP hx hr.left hw) hl'
 exact⟨.pointer (some ⟨b,i*es+(k0+off),none⟩),by simp[execOp,ho,hv,vX hT hf,lO];omega,aT6 (S:=S) (w:=w) hl' ⟨b,i,tot,rfl,q2,q3⟩⟩
theorem aOm {cx:Cx P} {ι:Nat→Value} {S:Nat→Prop} {a:Act} {w:World} (hw:RW cx σ ι S a w) {k0:Nat} {v:Value} (hl:aV σ (.o j)=some (aO e es Pr)) (hq:ptQ es k0 (ι j) v):
 ∃(b i tot:Nat) (r:List D),v= .pointer (some ⟨b,i*es+k0,none⟩)∧i<tot∧vv (ι j) (th b tot)∧r.length=es∧Pr r∧ ∀(q:Nat) d,r[q]? =some d→ ∃u,w.cell? ⟨b,i*es+q,none⟩=some u∧DR w S d u:=by
 obtain⟨b,i,tot,hv,q2,q3⟩:=hq
 obtain⟨⟨cur,fz,hh,hf,hs,hr⟩,hm⟩:=ki (hw.vr.objs j _ hl) hl q3
 obtain⟨r,p1,p2,p3⟩:=hr i q2
 refine⟨b,i,tot,r,hv,q2,q3,p1,p2,fun q d hd=> ?_⟩
 obtain⟨u,hu,hdr⟩:=p3 q d hd
 exact⟨u,by rw[cell_of_row w b _ cur e fz hh];exact hu,hdr⟩
theorem aRx {Ws:V→Prop} (hd:o.dst=some d)
 (h: ∀(cx:Cx P) (σ:St) (ι:Nat→Value) (S:Nat→Prop) (a:Act) (w:World),bV R σ→RW cx σ ι S a w→ ∃v x,(execOp a.eval o).run P w= .ok (.value v) w∧mI σ ι w S x v∧Ws x):
 OpE P o R fun W=> ∃x,Ws x∧W=[(.t d,.v x)]:=by
 intro cx σ ι S a w hr hw hb next Q hn
 obtain⟨v,x,he,hx,hs⟩:=h cx σ ι S a w hr hw
 unfold Oper.wp
 rw[he]
 simp only[Oper.upon,hd]
 exact hn _ ⟨x,hs,rfl⟩ ι S _ w (hw.put (hb d hd) hx)
theorem aOn {io:List Nat} {k0:Nat} {k:St→Prop} (hT:dV P T) (ho:o.op= .load t x) (hd:o.dst=some d) (hti:T t=some ti) (hag:ti.kind.agg=true) (hx:ev σ x=some (.e (.c (.z j (ptQ es k0))),R)) (hl:aV σ (.o j)=some (aO e es Pr)) (hk:k0+ti.size≤es)
 (h: ∀r:List D,r.length=es→Pr r→nC σ [(.t d,.v (.e (.agg (((r.drop k0).take ti.size).map C.d))))] k): ∃σ1,vu io σ σ1∧ ∃R Ws,OpE P o R Ws∧bV R σ1∧ ∀W,Ws W→nC σ1 W k:=by
 refine⟨σ,vu.rfl,_,_,aRx (Ws:=fun X=> ∃r:List D,r.length=es∧Pr r∧X= .e (.agg (((r.drop k0).take ti.size).map C.d))) hd (fun cx σ' ι S a w hr hw=> ?_),(dH hx).append (bV.one hl),fun W ⟨X,⟨r,h1,h2,h3⟩,h4⟩=>by subst h3;subst h4;exact h r h1 h2⟩
 have hl':=hr.right (.o j,some (aO e es Pr)) (by simp)
 dsimp only at hl'
 have hok:=hT t ti hti
 obtain⟨b,i,tot,r,hv,q1,q2,hrl,hpr,hcell⟩:=aOm hw hl' (tK (S:=S) (w:=w) (dP hx hr.left hw) hl')
 have hex: ∃vs:List Value,vs.length=ti.size∧(∀(q:Nat) v,vs[q]? =some v→w.cell? ⟨b,i*es+k0+q,none⟩=some v)∧ ∀(q:Nat) d u,((r.drop k0).take ti.size)[q]? =some d→vs[q]? =some u→DR w S d u:=by
  refine⟨(aYb ti.size).map fun q=>(w.cell? ⟨b,i*es+k0+q,none⟩).getD undef,by simp,fun q v hq=> ?_,fun q d u h1 h2=> ?_⟩
  · have hql:q<ti.size:=by have:=(aYa.1 hq).1;simpa using this
    simp[hql] at hq
    have hlt:k0+q<r.length:=by omega
    obtain⟨u,hu,_⟩:=hcell (k0+q) _ (aX9 hlt)
    rw[← Nat.add_assoc] at hu
    rw[hu] at hq ⊢
    simpa using hq
  · have hql:q<ti.size:=by have:=(aYa.1 h2).1;simpa using this
    rw[List.getElem?_take,aC hql,List.getElem?_drop] at h1
    obtain⟨u',hu,hdr⟩:=hcell (k0+q) d h1
    rw[← Nat.add_assoc] at hu
    simp[hql,hu] at h2
    subst h2;exact hdr
 obtain⟨vs,hvl,hvc,hvd⟩:=hex
 refine⟨.agg vs.toArray,.e (.agg (((r.drop k0).take ti.size).map C.d)),?_,⟨vs,rfl,by rw[List.length_map,aX4,aX7,hvl];omega,fun q c u h1 h2=> ?_⟩,r,hrl,hpr,rfl⟩
 · have:=mZ (w:=w) hok hag ⟨b,i*es+k0,none⟩ vs hvl (fun q v hq=>by rw[lO];exact hvc q v hq)
   simp[execOp,ho,hv,Instr.loadAt,Instr.sureAddr,this]
 · rw[List.getElem?_map] at h1
   cases hq: ((r.drop k0).take ti.size)[q]? with
   |none=>rw[hq] at h1;cases h1
   |some d=>rw[hq] at h1;cases h1;exact hvd q d u hq h2
end
structure vw (σ:St) (ι:Nat→Value) (S:Nat→Prop) (w:World) (id:Nat) (k:K) (p:Value) (w':World):Prop where
 os:w'.os=w.os
 tape:w'.tape=w.tape
 output:w'.output=w.output
 size:w.heap.size≤w'.heap.size
 block: ∀b,b<w.heap.size→ ¬lJ σ ι id b→w'.heap[b]? =w.heap[b]?
 evo:aV σ (.o id)=none∨ ∃k0,aV σ (.o id)=some k0∧nU (ι id) p k0 k
 new: ∀b,uZ p b→lJ σ ι id b∨w.heap.size≤b
 or_:OR (qM σ (.o id) k) (fun o=>if o=id then p else ι o) w' S p k
section
variable {σ:St} {ι:Nat→Value} {S:Nat→Prop} {w:World}
theorem aOo {ν:Nat→Value} (h:VR σ ι ν S w) {id:Nat} {k:K} {p:Value} {w':World} (block: ∀b,b<w.heap.size→ ¬lJ σ ι id b→w'.heap[b]? =w.heap[b]?) (evo:aV σ (.o id)=none∨ ∃k0,aV σ (.o id)=some k0∧nU (ι id) p k0 k):
 rS σ ι S w (qM σ (.o id) k) (fun o=>if o=id then p else ι o) S w':=by
 refine⟨fun _ h=>h,fun b hb=>block b (h.sz b hb) (fun hm=>h.mutS id b hm hb),fun o k0 hk=> ?_⟩
 by_cases e:o=id
 · subst e
   refine⟨k,dD _ _ _,?_⟩
   rcases evo with hn|⟨k1,hk1,hev⟩
   · rw[hn] at hk;cases hk
   · rw[hk1] at hk;cases hk;rw[aC rfl];exact hev
 · refine⟨k0,by rw[cT _ _ (by simpa using fun h=>e h.symm)];exact hk,?_⟩
   rw[aB e];exact nU.refl' _ _
theorem VR.turnZ {ν:Nat→Value} (h:VR σ ι ν S w) {id:Nat} {k:K} {p:Value} {w':World} (t:vw σ ι S w id k p w'):
 VR (qM σ (.o id) k) (fun o=>if o=id then p else ι o) ν S w':=by
 have st:=aOo h t.block t.evo
 have mut_ne: ∀o b,o≠id→lJ (qM σ (.o id) k) (fun o=>if o=id then p else ι o) o b→lJ σ ι o b:=by
  intro o b ne hm
  obtain⟨⟨k0,hk,hl⟩,hb⟩:=hm
  rw[cT _ _ (by simpa using fun h=>ne h.symm)] at hk
  dsimp only at hb
  rw[aB ne] at hb
  exact⟨⟨k0,hk,hl⟩,hb⟩
 have mlt: ∀o b,lJ σ ι o b→b<w.heap.size:=fun o b ⟨⟨k0,hk,hl⟩,hb⟩=>OR.lt (h.objs o k0 hk) hl hb
 have mid: ∀b,lJ (qM σ (.o id) k) (fun o=>if o=id then p else ι o) id b→lJ σ ι id b∨w.heap.size≤b:=by
  intro b hm
  have hb:=hm.2
  dsimp only at hb
  rw[aC rfl] at hb
  exact t.new b hb
 refine⟨fun s x hx=> ?_,fun o k0 hk=> ?_,fun o b hm hS=> ?_,fun o o' b hm hm'=> ?_,fun b hb=>Nat.lt_of_lt_of_le (h.sz b hb) t.size⟩
 · rw[cT _ _ (by simp)] at hx
   exact rU.step st (h.slots s x hx)
 · by_cases e:o=id
   · subst e
     rw[dD] at hk;cases hk
     rw[aC rfl]
     exact t.or_
   · rw[cT _ _ (by simpa using fun h=>e h.symm)] at hk
     rw[aB e]
     have ho:=h.objs o k0 hk
     by_cases hl:k0.live
     · refine OR.step st (fun b hb=> ?_) ho
       have hmut:lJ σ ι o b:=⟨⟨k0,hk,hl⟩,hb⟩
       exact t.block b (mlt o b hmut) (fun e2=>e (h.inj o id b hmut e2))
     · cases k0<;>simp[K.live] at hl<;>trivial
 · by_cases e:o=id
   · subst e
     rcases mid b hm with h1|h1
     · exact h.mutS o b h1 hS
     · have:=h.sz b hS;omega
   · exact h.mutS o b (mut_ne o b e hm) hS
 · by_cases e:o=id
   · by_cases e':o'=id
     · rw[e,e']
     · subst e
       have h2:=mut_ne o' b e' hm'
       rcases mid b hm with h1|h1
       · exact absurd (h.inj o' o b h2 h1) e'
       · have:=mlt o' b h2;omega
   · by_cases e':o'=id
     · subst e'
       have h2:=mut_ne o b e hm
       rcases mid b hm' with h1|h1
       · exact absurd (h.inj o o' b h2 h1) e
       · have:=mlt o b h2;omega
     · exact h.inj o o' b (mut_ne o b e hm) (mut_ne o' b e' hm')
theorem RW.turnZ {P:Program} {cx:Cx P} {a:Act} (h:RW cx σ ι S a w) {id:Nat} {k:K} {p:Value} {w':World} (t:vw σ ι S w id k p w'):
 RW cx (qM σ (.o id) k) (fun o=>if o=id then p else ι o) S a w':=by
 refine⟨h.vr.turnZ t,h.size,h.defers,⟨t.os.trans h.fr.os,t.tape.trans h.fr.tape,t.output.trans h.fr.output,Nat.le_trans h.fr.size t.size,fun b hb hm=> ?_⟩,fun o b hm=> ?_,h.rd,fun o k1 ho=> ?_⟩
 · rw[t.block b (Nat.lt_of_lt_of_le hb h.fr.size) (fun e=> ?_)]
   · exact h.fr.block b hb hm
   · rcases h.own id b e with h1|h1
     · omega
     · exact hm h1
 · by_cases e:o=id
   · subst e
     have hb:=hm.2
     dsimp only at hb
     rw[aC rfl] at hb
     rcases t.new b hb with h1|h1
     · exact h.own o b h1
     · exact .inl (Nat.le_trans h.fr.size h1)
   · obtain⟨⟨k0,hk,hl⟩,hb⟩:=hm
     rw[cT _ _ (by simpa using fun h=>e h.symm)] at hk
     dsimp only at hb
     rw[aB e] at hb
     exact h.own o b ⟨⟨k0,hk,hl⟩,hb⟩
 · obtain⟨k',hk',hev⟩:=h.io o k1 ho
   by_cases e:o=id
   · subst e
     refine⟨k,dD _ _ _,?_⟩
     rw[aC rfl]
     rcases t.evo with hn|⟨k2,hk2,hev2⟩
     · rw[hn] at hk';cases hk'
     · rw[hk2] at hk';cases hk';exact hev.trans hev2
   · refine⟨k',by rw[cT _ _ (by simpa using fun h=>e h.symm)];exact hk',?_⟩
     rw[aB e];exact hev
end
section
variable {P:Program} {T:hZ} {o:Oper} {σ:St} {x y:Operand} {t e:TypeId} {s1 s2 d j es n:Nat} {s3:List C} {Z:gt} {R R2:List (dK×Option K)} {k:List (dK×Option K)→List (dK×K)→Prop} {Pr:List D→Prop} {ti:TI}
theorem aBy {cx:Cx P} {ι:Nat→Value} {S:Nat→Prop} {a:Act} {w w':World} (hw:RW cx σ ι S a w) (hl:aV σ (.o j)=some (aO e es Pr)) {b tot:Nat} (hb:vv (ι j) (th b tot)) {cur cur':Array Value} {fz:Nat×Nat}
 (hos:w'.os=w.os∧w'.tape=w.tape∧w'.output=w.output∧w'.heap.size=w.heap.size) (hc:w.heap[b]? =some (.cells cur e fz)) (hh:w'.heap[b]? =some (.cells cur' e fz)) (hs:cur'.size=cur.size) (ho: ∀b',b'≠b→w'.heap[b']? =w.heap[b']?)
 (hr: (∀b,S b→w'.heap[b]? =w.heap[b]?)→ ∀i,(i+1)*es≤cur.size→(∃r:List D,r.length=es∧Pr r∧ ∀(q:Nat) d,r[q]? =some d→ ∃u,cur[i*es+q]? =some u∧DR w S d u)→ ∃r:List D,r.length=es∧Pr r∧ ∀(q:Nat) d,r[q]? =some d→ ∃u,cur'[i*es+q]? =some u∧DR w' S d u):
 vw σ ι S w j (aO e es Pr) (ι j) w'∧rS σ ι S w (qM σ (.o j) (aO e es Pr)) (fun o=>if o=j then ι j else ι o) S w':=by
 obtain⟨hblk,hmut⟩:=ki (hw.vr.objs j _ hl) hl hb
 have hblock: ∀b',b'<w.heap.size→ ¬lJ σ ι j b'→w'.heap[b']? =w.heap[b']?:=fun b' _ hne=>ho b' (fun h=>hne (by rw[h];exact hmut))
 have hevo:aV σ (.o j)=none∨ ∃k0,aV σ (.o j)=some k0∧nU (ι j) (ι j) k0 (aO e es Pr):= .inr ⟨_,hl,rfl,fun _ h=>h⟩
 have st:=aOo hw.vr (p:=ι j) hblock hevo
 refine⟨⟨hos.1,hos.2.1,hos.2.2.1,by rw[hos.2.2.2];exact aX8 _,hblock,hevo,fun b' hb'=> .inl ⟨⟨_,hl,trivial⟩,hb'⟩,?_⟩,st⟩
 obtain⟨h1,h2⟩:=hw.vr.objs j _ hl
 refine⟨h1,fun v hv=> ?_⟩
 obtain⟨b',tot',rfl,hp⟩:=h2 v hv
 refine⟨b',tot',rfl,?_⟩
 by_cases e1:b'=b
 · subst e1
   obtain⟨cur0,fz0,q1,q2,q3,q4⟩:=hp
   rw[hc] at q1;cases q1
   exact⟨cur',fz,hh,by rw[hs];exact q2,by rw[hs];exact q3,fun i hi=>hr st.keep i (by rw[q3];exact Nat.mul_le_mul_right _ hi) (q4 i hi)⟩
 · exact hp.mono st.sub st.keep (ho b' e1)
theorem aLy (hd:o.dst=none)
 (h: ∀(cx:Cx P) (σ:St) (ι:Nat→Value) (S:Nat→Prop) (a:Act) (w:World),bV R σ→RW cx σ ι S a w→ ∃p w',(execOp a.eval o).run P w= .ok .skip w'∧vw σ ι S w j (.zone Z) p w'):
 vW P o R [(.o j,.zone Z)]:=by
 intro cx σ ι S a w hr hw hb next Q hn
 obtain⟨p,w',he,ht⟩:=h cx σ ι S a w hr hw
 unfold Oper.wp
 rw[he]
 simp only[Oper.upon,hd,aE3]
 exact hn _ S _ w' (hw.turnZ ht)
theorem vz {X:V} (hd:o.dst=some d)
 (h: ∀(cx:Cx P) (σ:St) (ι:Nat→Value) (S:Nat→Prop) (a:Act) (w:World),bV R σ→RW cx σ ι S a w→ ∃v p w',(execOp a.eval o).run P w= .ok (.value v) w'∧vw σ ι S w j (.zone Z) p w'∧mI (qM σ (.o j) (.zone Z)) (fun o=>if o=j then p else ι o) w' S X v):
 vW P o R [(.o j,.zone Z),(.t d,.v X)]:=by
 intro cx σ ι S a w hr hw hb next Q hn
 obtain⟨v,p,w',he,ht,hx⟩:=h cx σ ι S a w hr hw
 unfold Oper.wp
 rw[he]
 simp only[Oper.upon,hd]
 exact hn _ S _ w' ((hw.turnZ ht).put (hb d hd) hx)
theorem aFr {k0:Nat} {Y:V} {ccs:List C} {vs:List D} (hT:dV P T) (ho:o.op= .store t x y) (hd:o.dst=none) (hti:T t=some ti) (hx:ev σ x=some (.e (.c (.z j (ptQ es k0))),R)) (hy:ev σ y=some (Y,R2)) (hc:cellsOf Y=some ccs) (hv:nw ccs=some vs) (hl:aV σ (.o j)=some (aO e es Pr))
 (hvl:vs.length=ti.size) (hk:k0+vs.length≤es) (hPr: ∀r:List D,r.length=es→Pr r→Pr (dN r k0 vs)) (h:k (R++R2++[(.o j,some (aO e es Pr))]) [(.o j,aO e es Pr)]): ∃R W,vW P o R W∧bV R σ∧k R W:=by
 refine⟨_,_,aLy hd fun cx σ' ι S a w hr hw=> ?_,((dH hx).append (dH hy)).append (bV.one hl),h⟩
 have hl':=hr.right (.o j,some (aO e es Pr)) (by simp)
 dsimp only at hl'
 have hok:=hT t ti hti
 obtain⟨b,i,tot,hvx,q2,q3⟩:ptQ es k0 (ι j) (a.eval x):=tK (S:=S) (w:=w) (dP hx hr.left.left hw) hl'
 obtain⟨⟨cur,fz,hh,hf,hs,hrows⟩,hm⟩:=ki (hw.vr.objs j _ hl') hl' q3
 obtain⟨us,hu,hul,huk⟩:=nN hc (dP hy hr.left.right hw)
 have hvl2:=qF hv
 have hdr: ∀(q:Nat) d u,vs[q]? =some d→us[q]? =some u→DR w S d u:=fun q d u hj hu'=>by
  obtain⟨c,hc,htd⟩:=xV hv q d hj
  exact xU htd (huk q c u hc hu')
 have hone: ∀u∈us,u.oneCell'=true:=fun u hu'=>by
  obtain⟨q,hj⟩:=List.mem_iff_getElem?.1 hu'
  have hlt:q<ccs.length:=by rw[← hul];exact(aYa.1 hj).1
  exact CR.one (huk q _ u (aX9 hlt) hj)
 have hin: (i+1)*es≤tot*es:=Nat.mul_le_mul_right _ q2
 rw[Nat.add_mul,Nat.one_mul] at hin
 have hfit:i*es+k0+us.length≤cur.size:=by rw[hul,← hvl2,hs];omega
 have hrun:=sB (P:=P) hok b (i*es+k0) cur hf hh (a.eval y) us hu (by rw[hul,← hvl2];exact hvl) hfit hone
 have h9:cur.toList.length=cur.size:=Array.length_toList
 obtain⟨ht,_⟩:=aBy (w':=w.setRow b (dN cur.toList (i*es+k0) us).toArray) (cur':=(dN cur.toList (i*es+k0) us).toArray) hw hl' q3 ⟨rfl,rfl,rfl,by simp⟩ hh (setRow_heap w b cur _ e _ hh) (by rw[List.size_toArray,fR (by omega),h9]) (fun b' hne=>setRow_other w b b' _ hne) (fun hkeep i2 hi2 ⟨r,p1,p2,p3⟩=>by
  have get: ∀q,(dN cur.toList (i*es+k0) us).toArray[q]? =if q<i*es+k0 then cur[q]? else if q<i*es+k0+us.length then us[q - (i*es+k0)]? else cur[q]?:=fun q=>by
   rw[← Array.getElem?_toList,List.toList_toArray,jE (by omega)]
   simp
  by_cases hii:i2=i
  · subst hii
    refine⟨dN r k0 vs,by rw[fR (by omega)];exact p1,hPr r p1 p2,fun q d hd=> ?_⟩
    rw[jE (by omega)] at hd
    rw[get]
    split at hd
    · obtain⟨u,hu1,hu2⟩:=p3 q d hd
      exact⟨u,by rw[aC (by omega)];exact hu1,DR.mono (fun _ h=>h) hkeep hu2⟩
    · split at hd
      · have hjl:q - k0<us.length:=by omega
        refine⟨us[q - k0],?_,DR.mono (fun _ h=>h) hkeep (hdr _ d _ hd (aX9 hjl))⟩
        rw[aB (by omega),aC (by omega),show i2*es+q - (i2*es+k0)=q - k0 by omega]
        exact aX9 hjl
      · obtain⟨u,hu1,hu2⟩:=p3 q d hd
        exact⟨u,by rw[aB (by omega),aB (by omega)];exact hu1,DR.mono (fun _ h=>h) hkeep hu2⟩
  · refine⟨r,p1,p2,fun q d hd=> ?_⟩
    obtain⟨u,hu1,hu2⟩:=p3 q d hd
    refine⟨u,?_,DR.mono (fun _ h=>h) hkeep hu2⟩
    rw[get]
    have hq:q<es:=by rw[← p1];exact(aYa.1 hd).1
    rcases Nat.lt_or_gt_of_ne hii with h1|h1
    · have: (i2+1)*es≤i*es:=Nat.mul_le_mul_right _ h1
      rw[Nat.add_mul,Nat.one_mul] at this
      rw[aC (by omega)];exact hu1
    · have: (i+1)*es≤i2*es:=Nat.mul_le_mul_right _ h1
      rw[Nat.add_mul,Nat.one_mul] at this
      rw[aB (by omega),aB (by omega)];exact hu1)
 exact⟨ι j,_,by simp[execOp,ho,hvx,Instr.storeAt,Instr.sureAddr,hrun],ht⟩
theorem aFs {lo hi:Option Operand} {lo' hi':Option Int} {R3:List (dK×Option K)} {e':TypeId} (hT:dV P T) (ho:o.op= .slice t x lo hi none) (hd:o.dst=some d) (ht:T t=some ⟨.sl e,s1,s2,s3⟩) (hte:T e=some ti) (hes:ti.size=es) (hx:ev σ x=some (.e (.c (ps j es n)),R)) (hlo:evI σ lo=some (lo',R2)) (hhi:evI σ hi=some (hi',R3)) (hl:aV σ (.o j)=some (aO e' es Pr))
 (hb:jy lo' hi' n) {m:Nat} (hm:m=gB hi' n - eZ lo') (h:k (R++R2++R3++[(.o j,some (aO e' es Pr))]) [(.t d,.v (.e (.c (ps j es m))))]): ∃R W,vW P o R W∧bV R σ∧k R W:=by
 subst hm
 have hu:=(hT t _ ht).kind
 simp only[mM] at hu
 have hok:=hT e ti hte
 refine⟨_,_,oL hd fun cx σ' ι S a w hr hw=> ?_,(((dH hx).append (uU hlo)).append (uU hhi)).append (bV.one hl),h⟩
 have hl':=hr.right (.o j,some (aO e' es Pr)) (by simp)
 dsimp only at hl'
 have h1:=uV hlo hr.left.left.right hw
 have h2:=uV hhi hr.left.right hw
 have hq:slQ es n (ι j) (a.eval x):=tK (S:=S) (w:=w) (dP hx hr.left.left.left hw) hl'
 rcases hq with⟨hv,rfl⟩|⟨b,i0,cap,tot,hv,q2,q3,q4,q5⟩
 · have hb2:=yY (P:=P) (w:=w) (isSl:=true) (len:=0) (cap:=0) (aX8 _) hb
   have e1:eZ lo'=0:=by obtain⟨p1,p2,p3⟩:=hb;unfold eZ;omega
   have e2:gB hi' 0=0:=by obtain⟨p1,p2,p3⟩:=hb;unfold gB;omega
   rw[e1,e2] at hb2 ⊢
   exact⟨.slice none 0 0,by simp[execOp,ho,hv,Instr.sliceAt,run_underlying hu,Instr.slice,h1,h2,hb2,fU hok],aKk (S:=S) (w:=w) hl' (.inl ⟨rfl,rfl⟩)⟩
 · have hb2:=yY (P:=P) (w:=w) (isSl:=true) (len:=n) (cap:=cap) q2 hb
   have e1:eZ lo'≤cap:=by obtain⟨p1,p2,p3⟩:=hb;unfold eZ;omega
   have e2:gB hi' n≤n:=by obtain⟨p1,p2,p3⟩:=hb;unfold gB;omega
   refine⟨.slice (if cap=eZ lo' then some ⟨b,i0*es,none⟩ else(some (⟨b,i0*es,none⟩:Addr)).map (·.add (eZ lo'*ti.size))) (gB hi' n - eZ lo') (cap - eZ lo'),by simp[execOp,ho,hv,Instr.sliceAt,run_underlying hu,Instr.slice,h1,h2,hb2,fU hok],aKk (S:=S) (w:=w) hl' ?_⟩
   by_cases hc:cap=eZ lo'
   · exact .inr ⟨b,i0,cap - eZ lo',tot,by rw[aC hc],by omega,by omega,by omega,q5⟩
   · exact .inr ⟨b,i0+eZ lo',cap - eZ lo',tot,by rw[aB hc,Option.map_some,lO,hes,Nat.add_mul],by omega,by omega,by omega,q5⟩
end
structure Src (P:Program) (σ:St) (y:Operand) (t2:TypeId) (es m:Nat) (Pr:List D→Prop) (R:List (dK×Option K)):Prop where
 rd:bV R σ
 ty: ∃d2,P.underlying t2=some d2∧ ∀k,d2≠ .int k
 run: ∀(cx:Cx P) (σ':St) (ι:Nat→Value) (S:Nat→Prop) (a:Act) (w:World),bV R σ'→RW cx σ' ι S a w→ ∃rows nv,rows.length=m∧(∀r∈rows,r.length=es∧Pr r)∧jw P w S es rows (a.eval y) nv
section
variable {P:Program} {T:hZ} {o:Oper} {σ:St} {x y:Operand} {t t2 e:TypeId} {s1 s2 d j es n m:Nat} {s3:List C} {Z:gt} {R R2 R3:List (dK×Option K)} {k:List (dK×Option K)→List (dK×K)→Prop} {Pr:List D→Prop} {ti:TI}
theorem kj (hT:dV P T) {Y:V} {q:Prop} {rows:List (List D)} (hes:0<es) (hy:ev σ y=some (Y,R)) (h:sQ T σ t2 Y=some (q,rows,R2)) (hq:q) (hr: ∀r∈rows,r.length=es∧Pr r) (hm:m=rows.length):Src P σ y t2 es m Pr (R++R2):=
 ⟨(dH hy).append (sR h),yT hT h,fun cx σ' ι S a w hrd hw=>by
  obtain⟨nv,hs⟩:=ek hT h hq hes (fun r hr'=>(hr r hr').1) hrd.right hw (dP hy hrd.left hw)
  exact⟨rows,nv,hm.symm,hr,hs⟩⟩
theorem aLz {w:World} {S:Nat→Prop} {g off cap:Nat} {cur:Array Value} {fz:Nat×Nat} {vx:Value} {rows:List (List D)} (hes:0<es) (hv:vx= .slice (some ⟨g,off,none⟩) rows.length cap) (hh:w.heap[g]? =some (.cells cur e fz)) (hle:off+rows.length*es≤cur.size)
 (hrows: ∀(i:Nat) r,rows[i]? =some r→r.length=es∧ ∀(k:Nat) d,r[k]? =some d→ ∃u,cur[off+i*es+k]? =some u∧DR w S d u): ∃nv,jw P w S es rows vx nv:=by
 have h9:cur.toList.length=cur.size:=Array.length_toList
 have hget: ∀j,j<rows.length*es→((cur.toList.drop off).take (rows.length*es))[j]? =cur[off+j]?:=by
  intro j hj
  rw[List.getElem?_take,aC hj,List.getElem?_drop];simp
 refine⟨(cur.toList.drop off).take (rows.length*es),⟨by rw[hv];simp[Builtin.lenOf],fun w1=>by rw[hv];simp[Builtin.lenOf],fun w1 m h1 hm=> ?_,by simp;omega,?_,fun i r hri k d hk=> ?_⟩⟩
 · rw[hv]
   have hle2:m*es≤rows.length*es:=Nat.mul_le_mul_right _ hm
   refine run_firstCells_some (P:=P) w1 es m ⟨g,off,none⟩ rows.length cap _ (by rw[aX4,aX4,aX7];omega) (fun j v hj=> ?_)
   have hjl:j<m*es:=by have:=(aYa.1 hj).1;rw[aX4] at this;omega
   rw[List.getElem?_take,aC hjl] at hj
   have hjl:j<rows.length*es:=by omega
   rw[hget j hjl] at hj
   rw[vB h1,lO,cell_of_row w g _ cur e fz hh];exact hj
 · intro v hv2
   obtain⟨j,hj⟩:=List.mem_iff_getElem?.1 hv2
   have hjl:j<rows.length*es:=by have:=(aYa.1 hj).1;simp at this;omega
   rw[hget j hjl] at hj
   have h1:j / es<rows.length:=(Nat.div_lt_iff_lt_mul hes).2 hjl
   have h2:j % es<es:=Nat.mod_lt _ hes
   have hrr:=hrows (j / es) _ (aX9 h1)
   have h3:j % es< (rows[j / es]).length:=by rw[hrr.1];exact h2
   obtain⟨u,hu,hdr⟩:=hrr.2 (j % es) _ (aX9 h3)
   rw[Nat.add_assoc,Nat.div_add_mod'] at hu
   rw[hu] at hj;cases hj
   exact DR.oneCell hdr
 · have hil:i<rows.length:=(aYa.1 hri).1
   have hr:=hrows i r hri
   have hkl:k<es:=by rw[← hr.1];exact(aYa.1 hk).1
   obtain⟨u,hu,hdr⟩:=hr.2 k d hk
   exact⟨u,by rw[hget _ (lP hil hkl),← Nat.add_assoc];exact hu,hdr⟩
theorem aFt {α:Type} {n:Nat} {p:Nat→α→Prop} (h: ∀i,i<n→ ∃a,p i a): ∃l:List α,l.length=n∧ ∀(i:Nat) a,l[i]? =some a→p i a:=by
 induction n with
 |zero=>exact⟨[],rfl,by simp⟩
 |succ n ih=>
  obtain⟨l,h1,h2⟩:=ih fun i hi=>h i (by omega)
  obtain⟨a,ha⟩:=h n (by omega)
  refine⟨l++[a],by simp[h1],fun i b hb=> ?_⟩
  by_cases hi:i<l.length
  · rw[List.getElem?_append_left hi] at hb;exact h2 i b hb
  · rw[List.getElem?_append_right (by omega)] at hb
    have:i=n:=by
     have:=(aYa.1 hb).1
     simp at this;omega
    subst this
    rw[h1,Nat.sub_self] at hb;cases hb;exact ha
theorem aFu (hT:dV P T) (hes:0<es) (hy:ev σ y=some (.e (.c (ps j es m)),R)) (hl:aV σ (.o j)=some (aO e es Pr)) {e2:TypeId} (ht2:T t2=some ⟨.sl e2,s1,s2,s3⟩):Src P σ y t2 es m Pr (R++[(.o j,some (aO e es Pr))]):=
 ⟨(dH hy).append (bV.one hl),⟨_,(hT t2 _ ht2).kind,fun k h=>by cases h⟩,fun cx σ' ι S a w hr hw=>by
  have hl':=hr.right (.o j,some (aO e es Pr)) (by simp)
  dsimp only at hl'
  have hq:slQ es m (ι j) (a.eval y):=tK (S:=S) (w:=w) (dP hy hr.left hw) hl'
  rcases hq with⟨hv,rfl⟩|⟨b,i0,cap,tot,hv,q2,q3,q4,q5⟩
  · exact⟨[],[],rfl,by simp,by rw[hv];simp[Builtin.lenOf],fun w1=>by rw[hv];simp[Builtin.lenOf],fun w1 m h1 hm=>by(obtain rfl:m=0:=by simpa using hm);rw[hv];simp[Builtin.firstCells],by simp,by simp,by simp⟩
  · obtain⟨⟨cur,fz,hh,hf,hs,hrows⟩,hm⟩:=ki (hw.vr.objs j _ hl') hl' q5
    obtain⟨rows,h1,h2⟩:=aFt (n:=m) fun i hi=>hrows (i0+i) (by omega)
    have hle: (i0+m)*es≤tot*es:=Nat.mul_le_mul_right _ (by omega)
    rw[Nat.add_mul] at hle
    obtain⟨nv,hs2⟩:=aLz (P:=P) (rows:=rows) (off:=i0*es) (vx:=a.eval y) (cap:=cap) hes (by rw[hv,h1]) hh (by rw[h1,hs];exact hle) fun i r hi=>by
     obtain⟨p1,p2,p3⟩:=h2 i r hi
     exact⟨p1,fun k d hd=>by rw[← Nat.add_mul];exact p3 k d hd⟩
    exact⟨rows,nv,h1,fun r hr=>by obtain⟨i,hi⟩:=List.mem_iff_getElem?.1 hr;exact⟨(h2 i r hi).1,(h2 i r hi).2.1⟩,hs2⟩⟩
theorem kl {w:World} {ty:TypeId} {d2:TypeDesc} (hu:P.underlying t=some (.slice e)) (hok:eU P e ti) (hu2:P.underlying t2=some d2) (hd2: ∀k,d2≠ .int k)
 {S:Nat→Prop} {rows:List (List D)} {vx:Value} {news:List Value} (hs:jw P w S ti.size rows vx news) (base:Option Addr) (sLen sCap:Nat) (olds:List Value)
 (hold: ∀w1,w1.heap=w.heap→(Builtin.firstCells ti.size sLen (.slice base sLen sCap)).run P w1= .ok olds.toArray w1)
 (hgrow:sCap<sLen+rows.length) (hbytes: (sLen+rows.length)*ti.bytes≤140737488355328) {z:List D} (hz0:nw ti.zero=some z):
 ∃cap zs,(Builtin.append_ #[t,t2] ty #[.slice base sLen sCap,vx]).run P w= .ok (.slice (some ⟨w.heap.size,0,none⟩) (sLen+rows.length) cap) (w.drew.alloc (.cells (olds++news++zs).toArray e))∧sLen+rows.length≤cap∧cap≤maxLen∧
  zs.length=(cap - (sLen+rows.length))*ti.size∧ ∀(i:Nat),i<cap - (sLen+rows.length)→ ∀(q:Nat) d,z[q]? =some d→ ∃u,zs[i*ti.size+q]? =some u∧ ∀w' S',DR w' S' d u:=by
 have hz: (match d2 with| .int _=>true|_=>false)=false:=by cases d2<;>first|rfl|exact absurd rfl (hd2 _)
 obtain⟨i,zz,hi,hsz,hby,hzero,hzc⟩:=hok.info
 have hb:=hok.bpos
 have hle:sLen+rows.length≤(sLen+rows.length)*ti.bytes:=Nat.le_mul_of_pos_right _ hb
 have hfit: ¬(281474976710656<Builtin.nextslicecap (sLen+rows.length) sCap*ti.bytes):=by
  have:=growslice_fits hgrow hbytes;omega
 have hcl:=grownCap_ge w (sLen+rows.length) sCap e
 have hcm:=grownCap_le_maxLen w (sLen+rows.length) sCap e (by simp only[maxLen];omega)
 have hzl:zz.cells.size=ti.size:=by rw[← Array.length_toList,hzc,List.length_map,hok.zlen]
 refine⟨grownCap w (sLen+rows.length) sCap e,(Builtin.zeroCells zz.cells (grownCap w (sLen+rows.length) sCap e - (sLen+rows.length))).toList,?_,hcl,hcm,?_,fun i hil q d hq=> ?_⟩
 · have hn: ¬(sLen+rows.length≤sCap):=by omega
   have h63: ¬(9223372036854775807< ((sLen:Int)+(rows.length:Int))):=by omega
   have ho:=hold w.drew rfl
   have hf:=hs.first w.drew rfl
   simp[Builtin.append_,run_underlying hu,run_underlying hu2,fU hok,hs.len,hn,h63,typeInfo,hi,hby,hfit,hz,Question.forced,zeroValue,hzero,newRow,grownCap]
   rw[ho,Result.andThen_ok,hf,Result.andThen_ok]
   simp
   congr 2
   apply Array.toList_inj.1
   simp
 · simp[size_zeroCells,hzl]
 · obtain⟨c,hc,htd⟩:=xV hz0 q d hq
   have hkl:q<ti.size:=by rw[← hok.zlen];exact(aYa.1 hc).1
   have hlt:=lP hil hkl
   have hzk:zz.cells[q]? =some (zv c):=by rw[← Array.getElem?_toList,hzc,List.getElem?_map,hc];rfl
   refine⟨zv c,?_,fun w' S'=>xU (σ:=[]) (ι:=fun _=>undef) htd (uF (aYd.1 hok.zok c (List.mem_of_getElem? hc)))⟩
   have hm: (i*ti.size+q) % zz.cells.size=q:=by rw[hzl,Nat.mul_comm,Nat.mul_add_mod,Nat.mod_eq_of_lt hkl]
   have hk2:q<zz.cells.size:=by rw[hzl];exact hkl
   have e1:zz.cells[q]! =zv c:=by rw[getElem!_pos zz.cells q hk2];rw[Array.getElem?_eq_getElem hk2] at hzk;exact Option.some.inj hzk
   have hlt':i*ti.size+q< (grownCap w (sLen+rows.length) sCap e - (sLen+rows.length))*zz.cells.size:=by rw[hzl];exact hlt
   simp only[Builtin.zeroCells,Array.toList_map,List.getElem?_map,Array.getElem?_toList,Array.getElem?_range,hlt',if_true,Option.map_some,hm,e1]
theorem aBz {cx:Cx P} {ι:Nat→Value} {S:Nat→Prop} {a:Act} {w w0:World} (hw:RW cx σ ι S a w) (hl:aV σ (.o j)=some (aO e es Pr)) {cells:Array Value} {tot:Nat} (hw0:w0.heap=w.heap∧w0.os=w.os∧w0.tape=w.tape∧w0.output=w.output)
 (hs:cells.size=tot*es) (hr: (∀b,S b→(w0.alloc (.cells cells e)).heap[b]? =w.heap[b]?)→ ∀i,i<tot→ ∃r:List D,r.length=es∧Pr r∧ ∀(q:Nat) d,r[q]? =some d→ ∃u,cells[i*es+q]? =some u∧DR (w0.alloc (.cells cells e)) S d u):
 ∃p',vw σ ι S w j (aO e es Pr) p' (w0.alloc (.cells cells e))∧(∀v,vv (ι j) v→vv p' v)∧vv p' (th w.heap.size tot):=by
 obtain⟨⟨vs,hp⟩,h2⟩:=hw.vr.objs j _ hl
 have hold: ∀b,b<w.heap.size→(w0.alloc (.cells cells e)).heap[b]? =w.heap[b]?:=fun b hb=>by rw[heap_alloc_old w0 _ b (by rw[hw0.1];exact hb),hw0.1]
 have hnew: (w0.alloc (.cells cells e)).heap[w.heap.size]? =some (.cells cells e (0,0)):=by
  have:=heap_alloc_new w0 (.cells cells e)
  rw[hw0.1] at this;exact this
 have hsub: ∀v,vv (ι j) v→vv (.tuple (vs.push (th w.heap.size tot))) v:=fun v ⟨vs',h3,h4⟩=>by
  rw[hp] at h3;cases h3
  exact⟨_,rfl,by simp[h4]⟩
 have hevo:aV σ (.o j)=none∨ ∃k0,aV σ (.o j)=some k0∧nU (ι j) (.tuple (vs.push (th w.heap.size tot))) k0 (aO e es Pr):= .inr ⟨_,hl,rfl,hsub⟩
 have hblock: ∀b,b<w.heap.size→ ¬lJ σ ι j b→(w0.alloc (.cells cells e)).heap[b]? =w.heap[b]?:=fun b hb _=>hold b hb
 have st:=aOo hw.vr hblock hevo
 refine⟨.tuple (vs.push (th w.heap.size tot)),⟨hw0.2.1,hw0.2.2.1,hw0.2.2.2,by simp[hw0.1],hblock,hevo,fun b hb=> ?_,⟨_,rfl⟩,fun v hv=> ?_⟩,hsub,⟨_,rfl,by simp⟩⟩
 · obtain⟨v,hv,hb⟩:=hb
   have hv:v∈vs.toList∨v=th w.heap.size tot:=by simpa using hv
   rcases hv with hv|rfl
   · exact .inl ⟨⟨_,hl,trivial⟩,by rw[hp];exact⟨v,hv,hb⟩⟩
   · simp[blk] at hb;exact .inr (by omega)
 · obtain⟨vs',h3,h4⟩:=hv
   cases h3
   have h4:v∈vs.toList∨v=th w.heap.size tot:=by simpa using h4
   rcases h4 with h4|rfl
   · obtain⟨b,tot',rfl,hpb⟩:=h2 v (by rw[hp];exact⟨vs,rfl,h4⟩)
     refine⟨b,tot',rfl,hpb.mono st.sub st.keep (hold b ?_)⟩
     obtain⟨cur,fz,hh,_⟩:=hpb
     exact(Array.getElem?_eq_some_iff.1 hh).1
   · exact⟨_,tot,rfl,cells,(0,0),hnew,.inl rfl,hs,hr st.keep⟩
theorem oq {z:List D} (hT:dV P T) (ho:o.op= .call {callee:= .builtin .append,args:= #[x,y],argTypes:= #[t,t2]}) (hd:o.dst=some d) (ht:T t=some ⟨.sl e,s1,s2,s3⟩) (hte:T e=some ti) (hes:ti.size=es) (hx:ev σ x=some (.e (.c (ps j es n)),R)) (hl:aV σ (.o j)=some (aO e es Pr))
 (hz:nw ti.zero=some z) (hPz:Pr z) (hs:Src P σ y t2 es m Pr R2) (hb: (n+m)*ti.bytes≤140737488355328) (h:k (R++R2++[(.o j,some (aO e es Pr))]) [(.o j,aO e es Pr),(.t d,.v (.e (.c (ps j es (n+m)))))]): ∃R W,vW P o R W∧bV R σ∧k R W:=by
 subst hes
 have hu:=(hT t _ ht).kind
 simp only[mM] at hu
 have hok:=hT e ti hte
 have hes:=hok.pos
 obtain⟨d2,hu2,hd2⟩:=hs.ty
 refine⟨_,_,vz hd fun cx σ' ι S a w hr hw=> ?_,((dH hx).append hs.rd).append (bV.one hl),h⟩
 have hl':=hr.right (.o j,some (aO e ti.size Pr)) (by simp)
 dsimp only at hl'
 obtain⟨rows,nv,rfl,hrows,hsr⟩:=hs.run cx σ' ι S a w hr.left.right hw
 have hq:slQ ti.size n (ι j) (a.eval x):=tK (S:=S) (w:=w) (dP hx hr.left.left hw) hl'
 have hzl:z.length=ti.size:=by rw[qF hz,hok.zlen]
 have fin: ∀{w' p v},slQ ti.size (n+rows.length) p v→mI (qM σ' (.o j) (aO e ti.size Pr)) (fun o=>if o=j then p else ι o) w' S (.e (.c (ps j ti.size (n+rows.length)))) v:=fun{w' p v} hq=>(aKk (dD σ' (.o j) (aO e ti.size Pr)) (by show slQ _ _ (if j=j then p else ι j) v;rw[aC rfl];exact hq):CR (qM σ' (.o j) (aO e ti.size Pr)) (fun o=>if o=j then p else ι o) w' S (ps j ti.size (n+rows.length)) v)
 have grow: ∀(base:Option Addr) (cap:Nat) (olds:List Value),a.eval x= .slice base n cap→cap<n+rows.length→olds.length=n*ti.size→(∀w1,w1.heap=w.heap→(Builtin.firstCells ti.size n (.slice base n cap)).run P w1= .ok olds.toArray w1)→
  (∀i,i<n→ ∃r:List D,r.length=ti.size∧Pr r∧ ∀(q:Nat) d,r[q]? =some d→ ∃u,olds[i*ti.size+q]? =some u∧DR w S d u)→
  ∃v p w',(execOp a.eval o).run P w= .ok (.value v) w'∧vw σ' ι S w j (aO e ti.size Pr) p w'∧mI (qM σ' (.o j) (aO e ti.size Pr)) (fun o=>if o=j then p else ι o) w' S (.e (.c (ps j ti.size (n+rows.length)))) v:=by
  intro base cap olds hv hlt hol hold hor
  obtain⟨cap',zs,hrun,hle,hm,hzsl,hzs⟩:=kl (w:=w) (ty:=o.type) hu hok hu2 hd2 hsr base n cap olds hold hlt hb hz
  obtain⟨p',ht',hsub,hnew⟩:=aBz (w0:=w.drew) (cells:=(olds++nv++zs).toArray) (tot:=cap') hw hl' ⟨rfl,rfl,rfl,rfl⟩ (by rw[List.size_toArray,aXz,aXz,hsr.size,hzsl,hol,← Nat.add_mul,← Nat.add_mul,Nat.add_sub_cancel' hle]) (fun hkeep i hi=>by
   simp only[List.getElem?_toArray]
   by_cases h1:i<n
   · obtain⟨r,q1,q2,q3⟩:=hor i h1
     refine⟨r,q1,q2,fun q d hd=> ?_⟩
     obtain⟨u,hu1,hu2⟩:=q3 q d hd
     have hlt:=(aYa.1 hu1).1
     exact⟨u,by rw[List.append_assoc,List.getElem?_append_left hlt];exact hu1,DR.mono (fun _ h=>h) hkeep hu2⟩
   · by_cases h2:i<n+rows.length
     · have hil:i - n<rows.length:=by omega
       obtain⟨r1,r2⟩:=hrows _ (List.getElem_mem hil)
       refine⟨rows[i - n],r1,r2,fun q d hd=> ?_⟩
       obtain⟨u,hu1,hu2⟩:=hsr.rel (i - n) _ (aX9 hil) q d hd
       have hlt:=(aYa.1 hu1).1
       have hmul:i*ti.size=n*ti.size+(i - n)*ti.size:=by rw[← Nat.add_mul];congr 1;omega
       exact⟨u,by rw[List.append_assoc,List.getElem?_append_right (by omega),show i*ti.size+q - olds.length=(i - n)*ti.size+q by omega,List.getElem?_append_left hlt];exact hu1,DR.mono (fun _ h=>h) hkeep hu2⟩
     · refine⟨z,hzl,hPz,fun q d hd=> ?_⟩
       obtain⟨u,hu1,hu2⟩:=hzs (i - (n+rows.length)) (by omega) q d hd
       have hmul:i*ti.size=(n+rows.length)*ti.size+(i - (n+rows.length))*ti.size:=by rw[← Nat.add_mul];congr 1;omega
       have hsz: (olds++nv).length=(n+rows.length)*ti.size:=by rw[aXz,hsr.size,hol,Nat.add_mul]
       exact⟨u,by rw[List.getElem?_append_right (by omega),show i*ti.size+q - (olds++nv).length=(i - (n+rows.length))*ti.size+q by omega];exact hu1,hu2 _ _⟩)
  refine⟨_,p',_,?_,ht',fin (.inr ⟨w.heap.size,0,cap',cap',by rw[Nat.zero_mul],hle,hm,by omega,hnew⟩)⟩
  simp[execOp,ho,resolve,invoke,builtin,hv,hrun]
 rcases hq with⟨hv,rfl⟩|⟨b,i0,cap,tot,hv,q2,q3,q4,q5⟩
 · by_cases hnz:rows=[]
   · subst hnz
     have hrun:=tU (w:=w) (ty:=o.type) hu hok hu2 hd2 hsr
     refine⟨.slice none 0 0,ι j,w,by simp[execOp,ho,resolve,invoke,builtin,hv,hrun],⟨rfl,rfl,rfl,aX8 _,fun _ _ _=>rfl,.inr ⟨_,hl',rfl,fun _ h=>h⟩,fun b hb=> .inl ⟨⟨_,hl',trivial⟩,hb⟩,hw.vr.objs j _ hl'⟩,fin (.inl ⟨rfl,rfl⟩)⟩
   · have hnpos:0<rows.length:=List.length_pos_iff.2 hnz
     exact grow none 0 [] hv (by omega) (by simp) (fun w1 _=>by simp[Builtin.firstCells]) (fun i hi=>by omega)
 · obtain⟨⟨cur,fz,hh,hf,hcs,hrs⟩,hmu⟩:=ki (hw.vr.objs j _ hl') hl' q5
   have h9:cur.toList.length=cur.size:=Array.length_toList
   have hcap: (i0+cap)*ti.size≤tot*ti.size:=Nat.mul_le_mul_right _ q4
   rw[Nat.add_mul] at hcap
   by_cases hroom:n+rows.length≤cap
   · have hrun:=bc (w:=w) (ty:=o.type) hu hok hu2 hd2 hsr b (i0*ti.size) n cap cur e hf hh hroom (by rw[hcs];exact hcap)
     have hmul: (n+rows.length)*ti.size≤cap*ti.size:=Nat.mul_le_mul_right _ hroom
     rw[Nat.add_mul,← hsr.size] at hmul
     obtain⟨htt,_⟩:=aBy (w':=w.setRow b (dN cur.toList (i0*ti.size+n*ti.size) nv).toArray) (cur':=(dN cur.toList (i0*ti.size+n*ti.size) nv).toArray) hw hl' q5 ⟨rfl,rfl,rfl,by simp⟩ hh (setRow_heap w b cur _ e _ hh) (by rw[List.size_toArray,fR (by omega),h9]) (fun b' hne=>setRow_other w b b' _ hne) (fun hkeep i hi ⟨r,p1,p2,p3⟩=>by
      have get: ∀q,(dN cur.toList (i0*ti.size+n*ti.size) nv).toArray[q]? =if q<i0*ti.size+n*ti.size then cur[q]? else if q<i0*ti.size+n*ti.size+nv.length then nv[q - (i0*ti.size+n*ti.size)]? else cur[q]?:=fun q=>by
       rw[← Array.getElem?_toList,List.toList_toArray,jE (by omega)]
       simp
      have hnv:=hsr.size
      by_cases h1:i<i0+n
      · refine⟨r,p1,p2,fun q d hd=> ?_⟩
        obtain⟨u,hu1,hu2⟩:=p3 q d hd
        have hql:q<ti.size:=by rw[← p1];exact(aYa.1 hd).1
        have:=lP h1 hql
        rw[Nat.add_mul] at this
        exact⟨u,by rw[get,aC (by omega)];exact hu1,DR.mono (fun _ h=>h) hkeep hu2⟩
      · by_cases h2:i<i0+n+rows.length
        · have hil:i - (i0+n)<rows.length:=by omega
          obtain⟨r1,r2⟩:=hrows _ (List.getElem_mem hil)
          refine⟨rows[i - (i0+n)],r1,r2,fun q d hd=> ?_⟩
          obtain⟨u,hu1,hu2⟩:=hsr.rel _ _ (aX9 hil) q d hd
          have hlt:=(aYa.1 hu1).1
          have hmul:i*ti.size=i0*ti.size+n*ti.size+(i - (i0+n))*ti.size:=by rw[← Nat.add_mul,← Nat.add_mul];congr 1;omega
          exact⟨u,by rw[get,aB (by omega),aC (by omega),show i*ti.size+q - (i0*ti.size+n*ti.size)=(i - (i0+n))*ti.size+q by omega];exact hu1,DR.mono (fun _ h=>h) hkeep hu2⟩
        · refine⟨r,p1,p2,fun q d hd=> ?_⟩
          obtain⟨u,hu1,hu2⟩:=p3 q d hd
          have: (i0+n+rows.length)*ti.size≤i*ti.size:=Nat.mul_le_mul_right _ (by omega)
          rw[Nat.add_mul,Nat.add_mul] at this
          exact⟨u,by rw[get,aB (by omega),aB (by omega)];exact hu1,DR.mono (fun _ h=>h) hkeep hu2⟩)
     refine⟨_,ι j,_,?_,htt,fin (.inr ⟨b,i0,cap,tot,rfl,hroom,q3,q4,q5⟩)⟩
     simp[execOp,ho,resolve,invoke,builtin,hv,hrun]
   · have hle9:n*ti.size≤cap*ti.size:=Nat.mul_le_mul_right _ q2
     obtain⟨olds,hold⟩: ∃olds,olds=(cur.toList.drop (i0*ti.size)).take (n*ti.size):=⟨_,rfl⟩
     have holdl:olds.length=n*ti.size:=by rw[hold];simp;omega
     have hget: ∀q,q<n*ti.size→olds[q]? =cur[i0*ti.size+q]?:=by
      intro q hq
      rw[hold,List.getElem?_take,aC hq,List.getElem?_drop];simp
     refine grow (some ⟨b,i0*ti.size,none⟩) cap olds hv (by omega) holdl (fun w1 h1=>by
      refine run_firstCells_some (P:=P) w1 ti.size n ⟨b,i0*ti.size,none⟩ n cap _ holdl (fun q v hq=> ?_)
      have hql:q<n*ti.size:=by rw[← holdl];exact(aYa.1 hq).1
      rw[hget q hql] at hq
      rw[vB h1,lO,cell_of_row w b _ cur e fz hh];exact hq) (fun i hi=> ?_)
     obtain⟨r,p1,p2,p3⟩:=hrs (i0+i) (by omega)
     refine⟨r,p1,p2,fun q d hd=> ?_⟩
     obtain⟨u,hu1,hu2⟩:=p3 q d hd
     have hql:q<ti.size:=by rw[← p1];exact(aYa.1 hd).1
     exact⟨u,by rw[hget _ (lP hi hql),← Nat.add_assoc,← Nat.add_mul];exact hu1,hu2⟩
end
section
variable {P:Program} {ops:Array Oper} {cx:Cx P} {Q:Exit→Act→World→Prop} {σ:St}
theorem aDo (hedge:sS 0 ops.toList=true) {listed:Array Bool} (hcl: ∀k o,ops[k]? =some o→listed.getD k false=true→ ∀i∈lC o,listed.getD i false=true): ∀(k:Nat),∀o,ops[k]? =some o→(∀i∈lC o,listed.getD i false=true)→ ∀i∈(nB ops.toList []).getD k [],listed.getD i false=true:=by
 have hedge': ∀(j:Nat) o,ops[j]? =some o→ ∀i∈lC o,i<j:=fun j o ho i hi=>by
  have:=qN 0 ops.toList hedge j o (by simpa using ho) i hi;omega
 have hpl: ∀(j:Nat) o,ops[j]? =some o→(nB ops.toList [])[j]? =some ((lC o).flatMap fun i=>i::(nB ops.toList []).getD i []):=fun j o ho=>by
  have:=jx ops.toList [] j o (by simpa using ho) hedge
  simpa using this
 intro k
 induction k using Nat.strongRecOn with
 |_ k ih=>
  intro o ho hp i hi
  rw[aX6,hpl k o ho] at hi
  simp only[Option.getD_some,List.mem_flatMap] at hi
  obtain⟨i',hi',hi⟩:=hi
  rcases List.mem_cons.1 hi with rfl|hi
  · exact hp i hi'
  · have hlt:=hedge' k o ho i' hi'
    have hsz':k<ops.size:=(Array.getElem?_eq_some_iff.1 ho).1
    have ho':ops[i']? =some ops[i']:=Array.getElem?_eq_getElem (by omega)
    exact ih i' hlt _ ho' (hcl i' _ ho' (hp i' hi')) i hi
theorem wb {ts:List mN} (hlen:ts.length=ops.size) (hr:kG ts σ) (hok:pL ops.toList ts=true):
 ∀(fuel:Nat) (listed:Array Bool) (σL:St) (ι:Nat→Value) (S:Nat→Prop) (a:Act) (w:World),listed.size=ops.size→(∀l,aV σL l=part ts (fun i=>listed.getD i false) σ l ts.length)→RW cx σL ι S a w→
  (∀k o,ops[k]? =some o→listed.getD k false=true→ ∀i∈lC o,listed.getD i false=true)→
  (Region.ready .any ops listed=[]→RW cx (eY ts σ) ι S a w)∧ ∀i∈Region.ready .any ops listed,∃o t,ops[i]? =some o∧ts[i]? =some t∧i<ops.size∧listed.getD i false=false∧bV t.1 σL∧
   (∀k o,ops[k]? =some o→(listed.setIfInBounds i true).getD k false=true→ ∀i'∈lC o,(listed.setIfInBounds i true).getD i' false=true)∧(∀j,(listed.setIfInBounds i true).getD j false=if j=i then true else listed.getD j false)∧
   ∀l,aV (iP σL t.2) l=part ts (fun j=>(listed.setIfInBounds i true).getD j false) σ l ts.length:=by
 simp only[pL,aX3] at hok
 obtain⟨hedge,hpair⟩:=hok
 have hedge': ∀(j:Nat) o,ops[j]? =some o→ ∀i∈lC o,i<j:=fun j o ho i hi=>by
  have:=qN 0 ops.toList hedge j o (by simpa using ho) i hi;omega
 have hpl: ∀(j:Nat) o,ops[j]? =some o→(nB ops.toList [])[j]? =some ((lC o).flatMap fun i=>i::(nB ops.toList []).getD i []):=fun j o ho=>by
  have:=jx ops.toList [] j o (by simpa using ho) hedge
  simpa using this
 intro fuel listed σL ι S a w hsz hlook hw hcl
 have hclosed: ∀(k:Nat),∀o,ops[k]? =some o→(∀i∈lC o,listed.getD i false=true)→ ∀i∈(nB ops.toList []).getD k [],listed.getD i false=true:=by
  intro k
  induction k using Nat.strongRecOn with
  |_ k ih=>
   intro o ho hp i hi
   rw[aX6,hpl k o ho] at hi
   simp only[Option.getD_some,List.mem_flatMap] at hi
   obtain⟨i',hi',hi⟩:=hi
   rcases List.mem_cons.1 hi with rfl|hi
   · exact hp i hi'
   · have hlt:=hedge' k o ho i' hi'
     have hsz':k<ops.size:=(Array.getElem?_eq_some_iff.1 ho).1
     have ho':ops[i']? =some ops[i']:=Array.getElem?_eq_getElem (by omega)
     exact ih i' hlt _ ho' (hcl i' _ ho' (hp i' hi')) i hi
 refine⟨fun hnil=> ?_,fun i hi=> ?_⟩
 · have hall: ∀k,k<ops.size→listed.getD k false=true:=by
    intro k
    induction k using Nat.strongRecOn with
    |_ k ih=>
     intro hk
     cases hL:listed.getD k false with
     |true=>rfl
     |false=>
      have ho:ops[k]? =some ops[k]:=Array.getElem?_eq_getElem hk
      have:k∈Region.ready .any ops listed:=mem_ready.2 ⟨pM.2 ⟨by omega,hL⟩,_,ho,fun e he hb=>by
       have hm:e.on∈lC ops[k]:=aYc.2 ⟨e,List.mem_filter.2 ⟨by simpa using he,hb⟩,rfl⟩
       have:=hedge' k _ ho _ hm
       exact ih e.on this (by omega)⟩
      rw[hnil] at this;cases this
   refine hw.congr fun l=> ?_
   rw[hlook l,cc ts σ l _ ts.length (aX8 _) (fun i hi=>hall i (by omega)),aYe]
 · obtain⟨hun,o,ho,hall⟩:=mem_ready.1 hi
   obtain⟨hisz,hLi⟩:=pM.1 hun
   have hit':i<ts.length:=by omega
   have hti:ts[i]? =some ts[i]:=aX9 hit'
   have hpreds: ∀i'∈lC o,listed.getD i' false=true:=by
    intro i' hi'
    obtain⟨e,he,rfl⟩:=aYc.1 hi'
    obtain⟨he1,he2⟩:=List.mem_filter.1 he
    exact hall e (by simpa using he1) he2
   have hset: ∀j,(listed.setIfInBounds i true).getD j false=if j=i then true else listed.getD j false:=by
    intro j
    rw[Array.getD_eq_getD_getElem?,Array.getD_eq_getD_getElem?]
    by_cases e:j=i
    · subst e;simp[hisz]
    · rw[aB e,Array.getElem?_setIfInBounds_ne (fun h=>e h.symm)]
   have later: ∀j u,i<j→listed.getD j false=true→ts[j]? =some u→pW (pD ts[i]) (pD u)=true:=by
    intro j u hij hLj hu
    have hjl:j<ts.length:=(aYa.1 hu).1
    have hoj:ops[j]? =some ops[j]:=Array.getElem?_eq_getElem (by omega)
    rcases qO hpair j i hjl hij (pD ts[i]) (pD u) _ (by simp[hti]) (by simp[hu]) (hpl j _ hoj) with h|h
    · have:=hclosed j _ hoj (hcl j _ hoj hLj) i (by rw[aX6,hpl j _ hoj];exact h)
      rw[hLi] at this;cases this
    · exact h
   have earlier: ∀j u,j<i→listed.getD j false=false→ts[j]? =some u→pW (pD u) (pD ts[i])=true:=by
    intro j u hij hLj hu
    rcases qO hpair i j hit' hij (pD u) (pD ts[i]) _ (by simp[hu]) (by simp[hti]) (hpl i _ ho) with h|h
    · have:=hclosed i _ ho hpreds j (by rw[aX6,hpl i _ ho];exact h)
      rw[hLj] at this;cases this
    · exact h
   have hreads:bV ts[i].1 σL:=by
    intro p hp
    rw[hlook p.1,gy hLi (fun j u hj hLj hu=>by
     have:=earlier j u hj hLj hu
     simp only[pW,aX3] at this
     exact aFc this.1.2 hp) (fun j u hj hLj hu=>by
     have:=later j u hj hLj hu
     simp only[pW,aX3] at this
     exact aFb this.2 hp),show min ts.length i=i by omega,cc ts σ p.1 _ i (by omega) (fun _ _=>rfl)]
    exact cf ts σ hr i _ hti p hp
   refine⟨o,ts[i],ho,hti,by omega,hLi,hreads,fun k o' ho' hk i' hi'=> ?_,hset,fun l=> ?_⟩
   · rw[hset] at hk ⊢
     by_cases e:i'=i
     · rw[aC e]
     · rw[aB e]
       by_cases e2:k=i
       · subst e2;rw[ho] at ho';cases ho';exact hpreds i' hi'
       · rw[aB e2] at hk;exact hcl k o' ho' hk i' hi'
   · rw[lW,ux hti hLi hset (fun j u hj hLj hu hne=>by
      have:=later j u hj hLj hu
      simp only[pW,aX3] at this
      exact aFa this.1.1 hne) ts.length,aC hit',hlook l]
     all_goals(cases wr ts[i].2 l<;>rfl)
theorem aIn {κ:Type} {ts:κ→List mN} {i0:Nat} {o0:Oper} {R0:List (dK×Option K)} {Ws:List (dK×K)→Prop} (hlen: ∀c,(ts c).length=ops.size) (ho0:ops[i0]? =some o0) (hg0:o0.guard=none) (h0:OpE P o0 R0 Ws) (hR0: ∀c t,(ts c)[i0]? =some t→t.1=R0) (hW0: ∀W,Ws W→ ∃c,(ts c)[i0]? =some (R0,W))
 (hit: ∀c (i:Nat) o t,i≠i0→ops[i]? =some o→(ts c)[i]? =some t→ItT P ops o t) (hind: ∀c c' (j:Nat),j≠i0→i0∉ (nB ops.toList []).getD j []→(ts c)[j]? =(ts c')[j]?) (hr: ∀c,kG (ts c) σ) (hok: ∀c,pL ops.toList (ts c)=true) (hf: ∀o∈ops.toList,∀d,o.dst=some d→d<cx.N)
 (hq: ∀c ι' S' a' w',RW cx (eY (ts c) σ) ι' S' a' w'→Q .normal a' w'):
 ∀(fuel:Nat) (c:κ) (listed:Array Bool) (σL:St) (ι:Nat→Value) (S:Nat→Prop) (a:Act) (w:World),listed.size=ops.size→(∀l,aV σL l=part (ts c) (fun i=>listed.getD i false) σ l (ts c).length)→RW cx σL ι S a w→
  (∀k o,ops[k]? =some o→listed.getD k false=true→ ∀i∈lC o,listed.getD i false=true)→((aYb ops.size).filter fun i=> !listed.getD i false).length≤fuel→wpAny P .any ops Q fuel listed a w:=by
 have hedge: ∀c,sS 0 ops.toList=true:=fun c=>by have:=hok c;simp only[pL,aX3] at this;exact this.1
 intro fuel
 induction fuel with
 |zero=>
  intro c listed σL ι S a w hsz hlook hw hcl hcount
  obtain⟨h1,h2⟩:=wb (hlen c) (hr c) (hok c) 0 listed σL ι S a w hsz hlook hw hcl
  have hnil:Region.ready .any ops listed=[]:=by
   apply List.eq_nil_iff_forall_not_mem.2
   intro i hi
   obtain⟨o,t,ho,ht,hlt,hLi,_⟩:=h2 i hi
   have:i∈(aYb ops.size).filter fun i=> !listed.getD i false:=List.mem_filter.2 ⟨List.mem_range.2 hlt,by rw[hLi];rfl⟩
   rw[List.eq_nil_of_length_eq_zero (by omega: ((aYb ops.size).filter fun i=> !listed.getD i false).length=0)] at this
   cases this
  exact⟨hnil,hq c _ _ _ _ (h1 hnil)⟩
 |succ fuel ih=>
  intro c listed σL ι S a w hsz hlook hw hcl hcount
  obtain⟨h1,h2⟩:=wb (hlen c) (hr c) (hok c) 0 listed σL ι S a w hsz hlook hw hcl
  refine⟨fun hn=>hq c _ _ _ _ (h1 hn),fun i hi=> ?_⟩
  obtain⟨o,t,ho,ht,hlt,hLi,hreads,hcl',hset,hlook'⟩:=h2 i hi
  unfold wpOp
  rw[ho]
  have hfo:=hf o (by have:=Array.mem_of_getElem? ho;simpa using this)
  have hdrop:=re (N:=ops.size) (L:=fun j=>listed.getD j false) (L':=fun j=>(listed.setIfInBounds i true).getD j false) hlt hLi hset
  by_cases hi0:i=i0
  · subst hi0
    rw[ho0] at ho;cases ho
    have hRt:=hR0 c t ht
    dsimp only
    rw[aC (by simp[Region.wanted,hg0])]
    refine .inl (h0 cx σL ι S a w (by rw[← hRt];exact hreads) hw hfo _ Q fun W hW ι' S' a' w' hw'=> ?_)
    obtain⟨c',hc'⟩:=hW0 W hW
    have hsame: ∀l,aV σL l=part (ts c') (fun i=>listed.getD i false) σ l (ts c').length:=fun l=>by
     rw[hlook l,hlen c,hlen c']
     have hclosed:=aDo (hedge c) hcl
     have: ∀n,n≤ops.size→part (ts c) (fun i=>listed.getD i false) σ l n=part (ts c') (fun i=>listed.getD i false) σ l n:=by
      intro n
      induction n with
      |zero=>intro _;rfl
      |succ n ihn=>
       intro hn
       rw[lX,lX,ihn (by omega)]
       by_cases hLn:listed.getD n false=true
       · have hon:ops[n]? =some ops[n]:=Array.getElem?_eq_getElem (by omega)
         have hne:n≠i:=fun e=>by rw[e,hLi] at hLn;cases hLn
         have hni:i∉ (nB ops.toList []).getD n []:=fun hm=>by
          have:=hclosed n _ hon (hcl n _ hon hLn) i hm
          rw[hLi] at this;cases this
         rw[hind c c' n hne hni]
       · rw[aB hLn,aB hLn]
     exact this _ (aX8 _)
    obtain⟨_,h2'⟩:=wb (hlen c') (hr c') (hok c') 0 listed σL ι S a w hsz hsame hw hcl
    obtain⟨o2,t2,ho2,ht2,_,_,_,_,_,hlook2⟩:=h2' i hi
    rw[hc'] at ht2;cases ht2
    exact ih c' (listed.setIfInBounds i true) (iP σL W) ι' S' a' w' (by simpa using hsz) hlook2 hw' hcl' (by omega)
  · refine hit c i o t hi0 ho ht cx σL ι S a w hreads hw hfo _ Q fun ι' S' a' w' hw'=> ?_
    exact ih c (listed.setIfInBounds i true) (iP σL t.2) ι' S' a' w' (by simpa using hsz) hlook' hw' hcl' (by omega)
end
def aVt:Option mN→mN→Prop
 |none,_=>True
 |some t,t'=>t'=t
def aOp (P:Program) (T:hZ) (fx:Nat→Option mN):List Oper→Nat→St→List bz→(St→List bz→Prop)→Prop
 | [],_,σ,acc,k=>k σ acc
 |o::os,i,σ,acc,k=>match o.guard with
  |none=>aKj P T o σ fun R W=>aVt (fx i) (R,W)∧nC σ W fun σ'=>aOp P T fx os (i+1) σ' (acc++[pD (R,W)]) k
  |some _=>False
theorem wc {P:Program} {T:hZ} (hT:dV P T) {ops:Array Oper} {fx:Nat→Option mN} {k:St→List bz→Prop}: ∀(l:List Oper) (i:Nat) (σ:St) (acc:List bz),aOp P T fx l i σ acc k→
 ∃ts:List mN,xX P ops l ts∧kG ts σ∧(∀j t,ts[j]? =some t→aVt (fx (i+j)) t)∧k (eY ts σ) (acc++ts.map pD)
 | [],i,σ,acc,h=>⟨[],trivial,trivial,by simp,by simpa[aOp,eY] using h⟩
 |o::os,i,σ,acc,h=>by
  simp only[aOp] at h
  split at h
  · rename_i hg
    obtain⟨R,W,h1,h2,h3,h4⟩:=ru hT h
    rw[jW] at h4
    obtain⟨ts,q1,q2,q3,q4⟩:=wc hT os _ _ _ h4
    refine⟨(R,W)::ts,⟨xW hg h1,q1⟩,⟨h2,q2⟩,fun j t hj=> ?_,by simpa[eY] using q4⟩
    cases j with
    |zero=>simp at hj;subst hj;exact h3
    |succ j=>rw[show i+(j+1)=i+1+j by omega];exact q3 j t (by simpa using hj)
  · exact h.elim
def aVu (i0:Nat) (fx:Nat→Option mN) (ops:Array Oper):Bool:=(aYb ops.size).all fun j=>decide (j≤i0)||(fx j).isSome||iS i0 ((nB ops.toList []).getD j [])
theorem yC {P:Program} {ops:Array Oper}: ∀(l:List Oper) (ts:List mN),xX P ops l ts→ts.length=l.length∧ ∀(i:Nat) o t,l[i]? =some o→ts[i]? =some t→ItT P ops o t:=by
 intro l
 induction l with
 |nil=>intro ts h;cases ts with
  |nil=>exact⟨rfl,by simp⟩
  |cons t ts=>exact h.elim
 |cons o os ih=>intro ts h;cases ts with
  |nil=>exact h.elim
  |cons t ts=>
   obtain⟨q1,q2⟩:=ih ts h.2
   refine⟨by simp[q1],fun i o' t' ho ht=> ?_⟩
   cases i with
   |zero=>simp at ho ht;subst ho;subst ht;exact h.1
   |succ i=>exact q2 i o' t' (by simpa using ho) (by simpa using ht)
theorem bg: ∀(ts us:List mN) (σ:St),kG ts σ→kG us (eY ts σ)→kG (ts++us) σ
 | [],us,σ,_,h=>h
 |t::ts,us,σ,h1,h2=>⟨h1.1,bg ts us _ h1.2 h2⟩
theorem SW.regDE {P:Program} {T:hZ} {io:List Nat} {Q:Ex→St→Prop} {σ:St} (hT:dV P T) (hm:P.follows .mixedOrders=true) (ks:List Nat) (i0:Nat) (fx:Nat→Option mN) {id:Nat} {ops:Array Oper} {o0:Oper} (ho:ops.toList[i0]? =some o0) (hg:o0.guard=none) (hfx:aVu i0 fx ops=true)
 (h:goC P T ops.toList true (ops.toList.take i0) σ [] fun σ1 acc=> ∃R0 Ws,OpE P o0 R0 Ws∧bV R0 σ1∧(∃W,Ws W)∧ ∀W,Ws W→nC σ1 W fun σ2=>aOp P T fx (ops.toList.drop (i0+1)) (i0+1) σ2 (acc++[pD (R0,W)]) fun σ' ns=>zD ops.toList ns=true∧qT ks σ' (Q .norm)):
 SW P io (.region id ops true) Q σ:=by
 intro cx ι S a w hio hw hf
 have hfit: ∀o∈ops.toList,∀d,o.dst=some d→d<cx.N:=fun o ho=>wY (by simpa[tJ] using hf) ho
 obtain⟨tA,h1,h2,acc,h3,R0,Ws,h4,h5,⟨W0,hW0⟩,h6⟩:=yB hT (ops.toList.take i0) σ [] h
 have h3:=h3 rfl
 rw[List.nil_append] at h3
 subst h3
 have hi0:i0<ops.toList.length:=(aYa.1 ho).1
 have hsz:ops.toList.length=ops.size:=Array.length_toList
 have hAl:tA.length=i0:=by rw[(yC _ _ h1).1,aX4];omega
 have h7: ∀W: {W // Ws W},∃tB:List mN,xX P ops (ops.toList.drop (i0+1)) tB∧kG tB (iP (eY tA σ) W.1)∧(∀j t,tB[j]? =some t→aVt (fx (i0+1+j)) t)∧zD ops.toList ((tA.map pD++[pD (R0,W.1)])++tB.map pD)=true∧Q .norm (Ab.keep ks (eY tB (iP (eY tA σ) W.1))):=fun⟨W,hW⟩=>by
  have h8:=h6 W hW
  rw[jW] at h8
  obtain⟨tB,q1,q2,q3,q4,q5⟩:=wc (ops:=ops) hT _ _ _ _ h8
  rw[lY] at q5
  exact⟨tB,q1,q2,q3,q4,q5⟩
 let tB:=fun W: {W // Ws W}=>Classical.choose (h7 W)
 have hB:=fun W: {W // Ws W}=>Classical.choose_spec (h7 W)
 let ts:=fun W: {W // Ws W}=>tA++(R0,W.1)::tB W
 have hBl: ∀W,(tB W).length=ops.size - (i0+1):=fun W=>by have:=(yC _ _ (hB W).1).1;rw[aX7,hsz] at this;exact this
 have hrun: ∀W,eY (ts W) σ=eY (tB W) (iP (eY tA σ) W.1):=fun W=>by
  show eY (tA++(R0,W.1)::tB W) σ=_
  rw[wZ];rfl
 have hget: ∀W j,(ts W)[j]? =if j<i0 then tA[j]? else if j=i0 then some (R0,W.1) else(tB W)[j - (i0+1)]?:=fun W j=>by
  show(tA++(R0,W.1)::tB W)[j]? =_
  by_cases c1:j<i0
  · rw[aC c1,List.getElem?_append_left (by omega)]
  · rw[aB c1,List.getElem?_append_right (by omega),hAl]
    by_cases c2:j=i0
    · rw[aC c2,c2,Nat.sub_self];rfl
    · rw[aB c2,show j - i0=(j - (i0+1))+1 by omega,List.getElem?_cons_succ]
 have hlen: ∀W,(ts W).length=ops.size:=fun W=>by
  show(tA++(R0,W.1)::tB W).length=_
  rw[aXz,aX1,hBl,hAl];omega
 have ho':ops[i0]? =some o0:=by simpa using ho
 refine wp_region_any hm (aIn (κ:={W // Ws W}) (cx:=cx) (σ:=σ) (ts:=ts) (i0:=i0) hlen ho' hg h4 (fun W t ht=>by rw[hget,aB (by omega),aC rfl] at ht;cases ht;rfl) (fun W hW=>⟨⟨W,hW⟩,by rw[hget,aB (by omega),aC rfl]⟩)
  (fun W i o t hne ho2 ht=> ?_) (fun W W' j hne hni=> ?_) (fun W=>bg _ _ _ h2 ⟨h5,(hB W).2.1⟩) (fun W=> ?_) hfit (fun W ι' S' a' w' hw'=>⟨_,ι',S',(hB W).2.2.2.2,by rw[hrun] at hw';exact hw'.keep ks⟩)
  ops.size ⟨W0,hW0⟩ (Array.replicate ops.size false) σ ι S a _ (by simp) (fun l=> ?_) hw.drew (fun k o ho hk=> ?_) ?_)
 · rw[hget] at ht
   by_cases c1:i<i0
   · rw[aC c1] at ht
     exact(yC _ _ h1).2 i o t (by rw[List.getElem?_take,aC c1];simpa using ho2) ht
   · rw[aB c1,aB hne] at ht
     exact(yC _ _ (hB W).1).2 (i - (i0+1)) o t (by rw[List.getElem?_drop,show i0+1+(i - (i0+1))=i by omega];simpa using ho2) ht
 · rw[hget,hget]
   by_cases c1:j<i0
   · rw[aC c1,aC c1]
   · rw[aB c1,aB c1,aB hne,aB hne]
     by_cases c3:j<ops.size
     · have hd:=aYd.1 hfx j (List.mem_range.2 c3)
       simp only[Bool.or_eq_true,aD] at hd
       rcases hd with(hd|hd)|hd
       · omega
       · obtain⟨t,ht⟩:=Option.isSome_iff_exists.1 hd
         have e: ∀W,(tB W)[j - (i0+1)]? =some t:=fun W=>by
          have hl:j - (i0+1)< (tB W).length:=by rw[hBl];omega
          have:=(hB W).2.2.1 (j - (i0+1)) _ (aX9 hl)
          rw[show i0+1+(j - (i0+1))=j by omega,ht] at this
          rw[aX9 hl]
          exact aA some this
         rw[e W,e W']
       · exact absurd (iF.1 hd) hni
     · rw[List.getElem?_eq_none (by rw[hBl];omega),List.getElem?_eq_none (by rw[hBl];omega)]
 · have:=wD (hB W).2.2.2.1
   have e: (tA.map pD++[pD (R0,W.1)])++(tB W).map pD=(ts W).map pD:=by
    show _=(tA++(R0,W.1)::tB W).map pD
    simp
   have this:vC ops.toList ((tA.map pD++[pD (R0,W.1)])++(tB W).map pD)=true:=this
   rw[e] at this
   simpa[pL,vC] using this
 · have hL: ∀i,(Array.replicate ops.size false).getD i false=false:=fun i=>by
    rw[Array.getD_eq_getD_getElem?,Array.getElem?_replicate];split<;>rfl
   have: ∀n,part (ts ⟨W0,hW0⟩) (fun i=>(Array.replicate ops.size false).getD i false) σ l n=aV σ l:=by
    intro n
    induction n with
    |zero=>rfl
    |succ n ih=>rw[lX,aB (by rw[hL];simp),ih]
   rw[this]
 · rw[Array.getD_eq_getD_getElem?,Array.getElem?_replicate] at hk;split at hk<;>cases hk
 · exact Nat.le_trans (List.length_filter_le _ _) (by simp)
section
variable {P:Program} {T:hZ} {io:List Nat} {f:FuncId} {n:Nat} {σin:St} {o:Oper} {c:Call} {d:Nat} {σ σ1:St} {Xs:List V} {Ra:List (dK×Option K)}
theorem em {Qo:St→Prop} {rl:List (Nat×Nat)} {bor news:List Nat} {robj:List (Nat×K)} {k:List (dK×Option K)→List (dK×K)→Prop} (hs:SpecE P f n σin Qo) (ho:o.op= .call c) (hc:c.callee= .value (.func f)) (hx:evA σ c.args.toList=some (Xs,Ra)) (hn:Xs.length=n)
 (hm:pE (fA 0 Xs++rW robj) σin rl bor) (hq: ∀σout,Qo σout→kX rl σin σout=true∧(bor=[]∨nV σout)∧ ∀j∈kU σin σout,j∈news) (h1: ∀p∈robj,aV σ (.o p.1)=some p.2) (h2: ∀j∈news,aV σ (.o (kS rl j))=none) (hne: ∃σout,Qo σout)
 (h: ∀σout,Qo σout→k (aOj Ra robj rl news) (uE rl σin σout o.dst)): ∃R Ws,OpE P o R Ws∧bV R σ∧(∃W,Ws W)∧ ∀W,Ws W→k R W:=by
 refine⟨_,_,aBw hs ho hc hx hn hm hq,fun p hp=> ?_,?_,fun W ⟨σout,hQ,e⟩=>e▸h σout hQ⟩
 · rcases List.mem_append.1 hp with hp|hp
   · rcases List.mem_append.1 hp with hp|hp
     · exact uW hx p hp
     · obtain⟨q,hq,rfl⟩:=aYc.1 hp
       exact h1 q hq
   · obtain⟨j,hj,rfl⟩:=aYc.1 hp
     exact h2 j hj
 · obtain⟨σout,hQ⟩:=hne
   exact⟨_,σout,hQ,rfl⟩
end
section
variable {P:Program} {T:hZ} {o:Oper} {σ:St} {t e:TypeId} {s1 s2 d j es:Nat} {s3:List C} {k:List (dK×Option K)→List (dK×K)→Prop} {Pr:List D→Prop} {ti:TI}
theorem aRy (hT:dV P T) (ho:o.op= .buildSlice t 0 #[]) (hd:o.dst=some d) (ht:T t=some ⟨.sl e,s1,s2,s3⟩) (hte:T e=some ti) (hes:ti.size=es) (hl:aV σ (.o j)=some (aO e es Pr))
 (h:k [(.o j,some (aO e es Pr))] [(.o j,aO e es Pr),(.t d,.v (.e (.c (ps j es 0))))]): ∃R W,vW P o R W∧bV R σ∧k R W:=by
 have hu:=(hT t _ ht).kind
 simp only[mM] at hu
 have hok:=hT e ti hte
 refine⟨_,_,vz hd fun cx σ' ι S a w hr hw=> ?_,bV.one hl,h⟩
 have hl':=hr (.o j,some (aO e es Pr)) (by simp)
 dsimp only at hl'
 obtain⟨p',ht',hsub,hnew⟩:=aBz (w0:=w) (cells:= #[]) (tot:=0) hw hl' ⟨rfl,rfl,rfl,rfl⟩ (by simp) (fun _ i hi=>by omega)
 refine⟨.slice (some ⟨w.heap.size,0,none⟩) 0 0,p',w.alloc (.cells #[] e),?_,ht',show CR (qM σ' (.o j) (aO e es Pr)) (fun o=>if o=j then p' else ι o) (w.alloc (.cells #[] e)) S (ps j es 0) _ from aKk (dD σ' (.o j) (aO e es Pr)) ?_⟩
 · have hrun: (Instr.buildSlice t 0 #[]).run P w= .ok (.slice (some ⟨w.heap.size,0,none⟩) 0 0) (w.alloc (.cells #[] e)):=by
    simp only[Instr.buildSlice,Sem.run_bind,run_underlying hu,Result.andThen_ok,fU hok]
    rw[aB (by omega)]
    simp[Instr.fill,newRow,Array.range_zero']
   simp[execOp,ho]
   rw[hrun];rfl
 · show slQ es 0 (if j=j then p' else ι j) _
   rw[aC rfl]
   exact .inr ⟨w.heap.size,0,0,0,by rw[Nat.zero_mul],aX8 _,by simp only[maxLen];omega,aX8 _,hnew⟩
end
theorem RW.newPool {P:Program} {cx:Cx P} {σ:St} {ι:Nat→Value} {S:Nat→Prop} {a:Act} {w:World} (h:RW cx σ ι S a w) {j:Nat} (e:TypeId) (es:Nat) (Pr:List D→Prop) (hj:aV σ (.o j)=none):
 RW cx (qM σ (.o j) (aO e es Pr)) (fun o=>if o=j then .tuple #[] else ι o) S a w:=
 h.turnZ ⟨rfl,rfl,rfl,aX8 _,fun _ _ _=>rfl,.inl hj,fun b hb=>by obtain⟨v,hv,_⟩:=hb;simp at hv,⟨_,rfl⟩,fun v hv=>by obtain⟨vs,h1,h2⟩:=hv;cases h1;simp at h2⟩
theorem SW.newPool {P:Program} {io:List Nat} {Q:Ex→St→Prop} {σ:St} {c:Code} (j:Nat) (e:TypeId) (es:Nat) (Pr:List D→Prop) (hj:aV σ (.o j)=none) (h:oh σ (.o j) (aO e es Pr) (SW P io c Q)):SW P io c Q σ:=by
 rw[nW] at h
 intro cx ι S a w hio hw hf
 exact h cx _ S a w hio (hw.newPool e es Pr hj) hf
section
variable {τ σ':St} {rl:List (Nat×Nat)} {bor:List Nat} {r:List (dK×K)}
theorem aOq {s o es n j m:Nat} {Z:gt} (h:aV τ (.t s)=some (.v (.e (.c (ps o es n))))) (ho:o=kS rl j) (e:n=m) (hj:aV σ' (.o j)=some (.zone Z)) (hr:mL τ σ' rl bor r):mL τ σ' rl bor ((.t s,.v (.e (.c (ps j es m))))::r):=
 ⟨⟨_,h,ho,fun p v hv=>by rw[← e];exact hv,Z,hj⟩,hr⟩
theorem bE {j:Nat} {Z Z':gt} (h:aV τ (.o (kS rl j))=some (.zone Z)) (e:Z=Z') (hr:mL τ σ' rl bor r):mL τ σ' rl bor ((.o j,.zone Z')::r):=⟨⟨_,h,by rw[← e];exact⟨rfl,fun _ _ _ h=>h⟩⟩,hr⟩
theorem bM {o es n j m:Nat} {Z:gt} {cs ds:List C} (ho:o=kS rl j) (e:n=m) (hj:aV σ' (.o j)=some (.zone Z)) (h:mCs τ σ' rl bor cs ds):mCs τ σ' rl bor (ps o es n::cs) (ps j es m::ds):=⟨⟨ho,fun p v hv=>by rw[← e];exact hv,Z,hj⟩,h⟩
end
def goX (P:Program):List Oper→St→List bz→(St→List bz→Prop)→Prop
 | [],σ,acc,k=>k σ acc
 |o::os,σ,acc,k=>match o.guard with
  |none=> ∃R W,vW P o R W∧bV R σ∧nC σ W fun σ'=>goX P os σ' (acc++[pD (R,W)]) k
  |some _=>False
theorem sx {P:Program} {T:hZ} (hT:dV P T) {o:Oper} {σ:St} {p:Prop} {R:List (dK×Option K)} {W:List (dK×K)} {k:List (dK×Option K)→List (dK×K)→Prop} (h:oj T o σ=some (p,R,W)) (hp:p) (hk:k R W): ∃R W,vW P o R W∧bV R σ∧k R W:=by
 obtain⟨h1,h2⟩:=wC hT o σ p R W h hp
 exact⟨R,W,h1,h2,hk⟩
theorem aB0 {P:Program} {ops:Array Oper} {k:St→List bz→Prop}: ∀(l:List Oper) (σ:St) (acc:List bz),goX P l σ acc k→ ∃ts:List mN,xX P ops l ts∧kG ts σ∧k (eY ts σ) (acc++ts.map pD)
 | [],σ,acc,h=>⟨[],trivial,trivial,by simpa[goX,eY] using h⟩
 |o::os,σ,acc,h=>by
  simp only[goX] at h
  split at h
  · rename_i hg
    obtain⟨R,W,h1,h2,h3⟩:=h
    rw[jW] at h3
    obtain⟨ts,q1,q2,q4⟩:=aB0 os _ _ h3
    exact⟨(R,W)::ts,⟨xW hg h1,q1⟩,⟨h2,q2⟩,by simpa[eY] using q4⟩
  · exact h.elim
theorem SW.regX {P:Program} {io:List Nat} {Q:Ex→St→Prop} {σ:St} (hm:P.follows .mixedOrders=true) (ks:List Nat) {id:Nat} {ops:Array Oper} (h:goX P ops.toList σ [] fun σ' ns=>zD ops.toList ns=true∧qT ks σ' (Q .norm)):SW P io (.region id ops true) Q σ:=by
 intro cx ι S a w hio hw hf
 have hfit: ∀o∈ops.toList,∀d,o.dst=some d→d<cx.N:=fun o ho=>wY (by simpa[tJ] using hf) ho
 obtain⟨ts,h1,h2,h4,h5⟩:=aB0 (ops:=ops) ops.toList σ [] h
 rw[List.nil_append] at h4
 rw[lY] at h5
 obtain⟨q1,q2⟩:=yC _ _ h1
 refine wp_region_any hm (xY (cx:=cx) (σ:=σ) (ts:=ts) (by simpa using q1) (fun i o t ho ht=>q2 i o t (by simpa using ho) ht) h2 (by have:=wD h4;simpa[pL,vC] using this) hfit (fun ι' S' a' w' hw'=>⟨_,ι',S',h5,hw'.keep ks⟩)
  ops.size (Array.replicate ops.size false) σ ι S a _ (by simp) (fun l=> ?_) hw.drew (fun k o ho hk=> ?_) ?_)
 · have hL: ∀i,(Array.replicate ops.size false).getD i false=false:=fun i=>by
    rw[Array.getD_eq_getD_getElem?,Array.getElem?_replicate];split<;>rfl
   have: ∀n,part ts (fun i=>(Array.replicate ops.size false).getD i false) σ l n=aV σ l:=by
    intro n
    induction n with
    |zero=>rfl
    |succ n ih=>rw[lX,aB (by rw[hL];simp),ih]
   rw[this]
 · rw[Array.getD_eq_getD_getElem?,Array.getElem?_replicate] at hk;split at hk<;>cases hk
 · exact Nat.le_trans (List.length_filter_le _ _) (by simp)
def aOr:Option K→Bool
 |some (.row ..)=>true
 |_=>false
def aOs:Option K→Bool
 |some (.box ..)=>true
 |_=>false
def aDp:Option K→Bool
 |some (.zone ..)=>true
 |_=>false
def qC (τ σ':St) (rl:List (Nat×Nat)) (bor:List Nat):C→C→Prop→Prop
 | .d x,.d y,p=>x=y∧p
 | .nil,.nil,p=>p
 | .nil,.d y,p=>y= .sl []∧p
 | .own o n,.d y,p=>match iS o bor,aV τ (.o o) with
  |true,some (.row e es rows)=>rows.length=n∧y= .sl rows∧p
  |_,_=>False
 | .own o n,.own j m,p=>match Nat.beq o (kS rl j)&&aOr (aV σ' (.o j)) with
  |true=>n=m∧p
  |false=>False
 | .pt o k,.pt j m,p=>match Nat.beq o (kS rl j)&&(Nat.beq k m&&aOs (aV σ' (.o j))) with
  |true=>p
  |false=>False
 | .rp cs,.rp cs',p=>cs=cs'∧p
 | .nil,.z j Q',p=>match aDp (aV σ' (.o j)) with
  |true=>(∀p,Q' p (.slice none 0 0))∧p
  |false=>False
 | .z o Q,.z j Q',p=>match Nat.beq o (kS rl j)&&aDp (aV σ' (.o j)) with
  |true=>Q=Q'∧p
  |false=>False
 |_,_,_=>False
def qCs (τ σ':St) (rl:List (Nat×Nat)) (bor:List Nat):List C→List C→Prop→Prop
 | [],[],p=>p
 |c::cs,d::ds,p=>qC τ σ' rl bor c d (qCs τ σ' rl bor cs ds p)
 |_,_,_=>False
def qE (τ σ':St) (rl:List (Nat×Nat)) (bor:List Nat):E→E→Prop→Prop
 | .c x,.c y,p=>qC τ σ' rl bor x y p
 | .agg cs,.agg ds,p=>qCs τ σ' rl bor cs ds p
 |_,_,_=>False
def qEs (τ σ':St) (rl:List (Nat×Nat)) (bor:List Nat):List E→List E→Prop→Prop
 | [],[],p=>p
 |c::cs,d::ds,p=>qE τ σ' rl bor c d (qEs τ σ' rl bor cs ds p)
 |_,_,_=>False
def qV (τ σ':St) (rl:List (Nat×Nat)) (bor:List Nat):V→V→Prop→Prop
 | .e x,.e y,p=>qE τ σ' rl bor x y p
 | .tup xs,.tup ys,p=>qEs τ σ' rl bor xs ys p
 |_,_,_=>False
def qK (τ σ':St) (rl:List (Nat×Nat)) (bor:List Nat):K→K→Prop→Prop
 | .box ty cs,.box ty' ds,p=>match Nat.beq ty ty' with
  |true=>qCs τ σ' rl bor cs ds p
  |false=>False
 | .row e es rows,.row e' es' rows',p=>match Nat.beq e e'&&Nat.beq es es' with
  |true=>rows=rows'∧p
  |false=>False
 | .zone Z,.zone Z',p=>Z=Z'∧p
 |_,_,_=>False
def qL (τ σ':St) (rl:List (Nat×Nat)) (bor:List Nat):List (dK×K)→Prop
 | []=>True
 |(.t s,.v X')::r=>match aV τ (.t s) with
  |some (.v X)=>qV τ σ' rl bor X X' (qL τ σ' rl bor r)
  |_=>False
 |(.o j,k')::r=>match aV τ (.o (kS rl j)) with
  |some k=>qK τ σ' rl bor k k' (qL τ σ' rl bor r)
  |_=>False
 |_::_=>False
section
variable {τ σ':St} {rl:List (Nat×Nat)} {bor:List Nat} {p:Prop}
theorem aFv {k:Option K} (h:aOr k=true): ∃e es rows,k=some (.row e es rows):=by
 cases k with
 |none=>cases h
 |some k=>cases k<;>first|exact⟨_,_,_,rfl⟩|cases h
theorem aFw {k:Option K} (h:aOs k=true): ∃e es,k=some (.box e es):=by
 cases k with
 |none=>cases h
 |some k=>cases k<;>first|exact⟨_,_,rfl⟩|cases h
theorem km {k:Option K} (h:aDp k=true): ∃e,k=some (.zone e):=by
 cases k with
 |none=>cases h
 |some k=>cases k<;>first|exact⟨_,rfl⟩|cases h
theorem aFx: ∀{c d:C},qC τ σ' rl bor c d p→mC τ σ' rl bor c d∧p:=by
 intro c d h
 cases c<;>cases d<;>simp only[qC] at h<;>try exact h.elim
 · exact h
 · exact h
 · exact⟨trivial,h⟩
 · split at h
   · rename_i hz
     exact⟨⟨h.1,km hz⟩,h.2⟩
   · exact h.elim
 · split at h
   · rename_i hb hl
     exact⟨⟨iF.1 hb,_,_,_,hl,h.1,.inl h.2.1⟩,h.2.2⟩
   · exact h.elim
 · split at h
   · rename_i hb
     simp only[aX3] at hb
     exact⟨⟨Nat.eq_of_beq_eq_true hb.1,h.1,aFv hb.2⟩,h.2⟩
   · exact h.elim
 · split at h
   · rename_i hb
     simp only[aX3] at hb
     exact⟨⟨Nat.eq_of_beq_eq_true hb.1,Nat.eq_of_beq_eq_true hb.2.1,aFw hb.2.2⟩,h⟩
   · exact h.elim
 · exact h
 · split at h
   · rename_i hb
     simp only[aX3] at hb
     exact⟨⟨Nat.eq_of_beq_eq_true hb.1,fun p v hv=>by rw[← h.1];exact hv,km hb.2⟩,h.2⟩
   · exact h.elim
theorem ot: ∀{cs ds:List C},qCs τ σ' rl bor cs ds p→mCs τ σ' rl bor cs ds∧p
 | [],[],h=>⟨trivial,h⟩
 |c::cs,d::ds,h=>by
  obtain⟨h1,h2⟩:=aFx h
  obtain⟨h3,h4⟩:=ot h2
  exact⟨⟨h1,h3⟩,h4⟩
 | [],_::_,h=>h.elim
 |_::_,[],h=>h.elim
theorem aFy {x y:E} (h:qE τ σ' rl bor x y p):mE τ σ' rl bor x y∧p:=by
 cases x<;>cases y<;>simp only[qE] at h<;>first|exact h.elim|exact aFx h|exact ot h
theorem aB1: ∀{cs ds:List E},qEs τ σ' rl bor cs ds p→mEs τ σ' rl bor cs ds∧p
 | [],[],h=>⟨trivial,h⟩
 |c::cs,d::ds,h=>by
  obtain⟨h1,h2⟩:=aFy h
  obtain⟨h3,h4⟩:=aB1 h2
  exact⟨⟨h1,h3⟩,h4⟩
 | [],_::_,h=>h.elim
 |_::_,[],h=>h.elim
theorem aOt {x y:V} (h:qV τ σ' rl bor x y p):mV τ σ' rl bor x y∧p:=by
 cases x<;>cases y<;>simp only[qV] at h<;>first|exact h.elim|exact aFy h|exact aB1 h
theorem aOu {x y:K} (h:qK τ σ' rl bor x y p):mK τ σ' rl bor x y∧p:=by
 cases x<;>cases y<;>simp only[qK] at h<;>try exact h.elim
 · split at h
   · rename_i hb
     obtain⟨h1,h2⟩:=ot h
     exact⟨⟨Nat.eq_of_beq_eq_true hb,h1⟩,h2⟩
   · exact h.elim
 · split at h
   · rename_i hb
     simp only[aX3] at hb
     exact⟨⟨Nat.eq_of_beq_eq_true hb.1,Nat.eq_of_beq_eq_true hb.2,h.1⟩,h.2⟩
   · exact h.elim
 · obtain⟨rfl,h2⟩:=h
   exact⟨⟨rfl,fun _ _ _ h=>h⟩,h2⟩
theorem qs: ∀{L:List (dK×K)},qL τ σ' rl bor L→mL τ σ' rl bor L
 | [],_=>trivial
 |(.t s,.v X')::r,h=>by
  simp only[qL] at h
  split at h
  · rename_i X hl
    obtain⟨h1,h2⟩:=aOt h
    exact⟨⟨X,hl,h1⟩,qs h2⟩
  · exact h.elim
 |(.o j,k')::r,h=>by
  have h: (match aV τ (.o (kS rl j)) with
   |some k=>qK τ σ' rl bor k k' (qL τ σ' rl bor r)
   |_=>False):=by cases k'<;>exact h
  split at h
  · rename_i k hl
    obtain⟨h1,h2⟩:=aOu h
    have h3: (∃k,aV τ (.o (kS rl j))=some k∧mK τ σ' rl bor k k')∧mL τ σ' rl bor r:=⟨⟨k,hl,h1⟩,qs h2⟩
    cases k'<;>exact h3
  · exact h.elim
 |(.t s,.box ..)::r,h=>h.elim
 |(.t s,.row ..)::r,h=>h.elim
 |(.t s,.dead)::r,h=>h.elim
 |(.t s,.cv ..)::r,h=>h.elim
 |(.t s,.zone ..)::r,h=>h.elim
end
theorem aXm {es:Nat}: ∀p,slQ es 0 p (.slice none 0 0):=fun p=> .inl ⟨rfl,rfl⟩
def iQ (n lo hi:Int):Bool:=decide (lo≤n)&&decide (n≤hi)
def eR (n:Int):Bool:=iQ n 0 3
def jC (at_ to:Int):Int:=if !eR at_|| !eR to||at_==to then -1 else if at_<to then at_+1 else at_ - 1
theorem aF {n:Int} (h: -9223372036854775808≤n∧n<9223372036854775808):wrap64 n=n:=by
 unfold wrap64;omega
structure cI where
 kind:Int
 src:Int
 dst:Int
 frm:Int
 num:Int
 to:Int
 til:Int
 size:Int
 mix:Int
 data:List UInt8
def cI.row (f:cI):List D:=[.i f.kind,.i f.src,.i f.dst,.i f.frm,.i f.num,.i f.to,.i f.til,.i f.size,.i f.mix,.s f.data]
abbrev cI.V (f:cI):V:= .e (.agg [.d (.i f.kind),.d (.i f.src),.d (.i f.dst),.d (.i f.frm),.d (.i f.num),.d (.i f.to),.d (.i f.til),.d (.i f.size),.d (.i f.mix),.d (.s f.data)])
def eQ (f:cI):Bool:=
 eR f.src&&eR f.dst&&eR f.frm&&eR f.to&&iQ f.num 1 99&&iQ f.til 1 999&&
 (if f.kind=1 then iQ f.size 1 24&&iQ f.mix 0 999&&decide (f.data.length=4)&&decide (f.dst=jC f.src f.to)
  else if f.kind=2∨f.kind=3 then decide (f.size=0)&&decide (f.mix=0)&&decide (f.data=[])&&decide (f.src=jC f.dst f.to) else false)
theorem bJ {T:hZ} {io:List Nat} {rs:List ResultVar} {s:St} {X Y:V} (h1:aH0 T s rs=some X) (hp:pB Y=true) (e:X=Y):be T io rs [(.t 0,.v Y)] s:=by
 subst e
 exact⟨X,[],[],h1,⟨⟨⟨X,rfl,aFn hp⟩,trivial⟩,rfl⟩,by simp[vf,cE,pV];exact fun x _=> .inl rfl⟩
theorem jQ {l:List UInt8} {i:Nat} (h:i<l.length): (aE l).getD i []=[.u (l.getD i 0).toNat]:=by
 rw[aX6,aX6]
 simp[aE,h]
theorem gY (l m:List UInt8):aE l++aE m=aE (l++m):=by simp[aE]
theorem aOv (b:UInt8):b.toNat<256:=b.toNat_lt
def fm (l:List UInt8):Nat→Nat
 |0=>0
 |n+1=>(fm l n+(l.getD n 0).toNat*(n % 1000+1)) % 65521
theorem aDq (l:List UInt8) (n:Nat):fm l n<65521:=by
 cases n with
 |zero=>simp[fm]
 |succ n=>exact Nat.mod_lt _ (by decide)
theorem aL0 (l:List UInt8) (n:Nat):wrap64 ((fm l n:Int)+wrap64 (((l.getD n 0).toNat:Int)*wrap64 ((n:Int) % 1000+1))) % 65521=(fm l (n+1):Int):=by
 show _=(((fm l n+(l.getD n 0).toNat*(n % 1000+1)) % 65521:Nat):Int)
 have h1:=aDq l n
 have h2:=aOv (l.getD n 0)
 generalize (l.getD n 0).toNat=b at*
 have h3: (n:Int) % 1000<1000:=Int.emod_lt_of_pos _ (by decide)
 have h4:0≤(n:Int) % 1000:=Int.emod_nonneg _ (by decide)
 rw[aF (n:=(n:Int) % 1000+1) (by omega)]
 have h5: (b:Int)*((n:Int) % 1000+1)≤255*1000:=Int.mul_le_mul (by omega) (by omega) (by omega) (by omega)
 have h6:0≤(b:Int)*((n:Int) % 1000+1):=Int.mul_nonneg (by omega) (by omega)
 rw[aF (n:=(b:Int)*((n:Int) % 1000+1)) (by omega),aF (by omega)]
 have e: ((b*(n % 1000+1):Nat):Int)=(b:Int)*((n:Int) % 1000+1):=by rw[Int.natCast_mul,Int.natCast_add,Int.natCast_emod];rfl
 rw[← e]
 generalize b*(n % 1000+1)=q
 omega
theorem aIo (l:List UInt8) (n:Nat): (wrap64 ((fm l n:Int)+wrap64 (wrap64 ((l.getD n 0).toNat:Int)*wrap64 (Int.tmod (n:Int) 1000+1)))).tmod 65521=(fm l (n+1):Int):=by
 have h2:=aOv (l.getD n 0)
 have h1:=aDq l n
 have h3: (n:Int) % 1000<1000:=Int.emod_lt_of_pos _ (by decide)
 have h4:0≤(n:Int) % 1000:=Int.emod_nonneg _ (by decide)
 have h:=aL0 l n
 rw[aF (n:=((l.getD n 0).toNat:Int)) (by omega),Int.tmod_eq_emod_of_nonneg (by omega:0≤(n:Int)),Int.tmod_eq_emod_of_nonneg]
 · exact h
 · rw[aF (n:=(n:Int) % 1000+1) (by omega)]
   have h5: ((l.getD n 0).toNat:Int)*((n:Int) % 1000+1)≤255*1000:=Int.mul_le_mul (by omega) (by omega) (by omega) (by omega)
   have h6:0≤((l.getD n 0).toNat:Int)*((n:Int) % 1000+1):=Int.mul_nonneg (by omega) (by omega)
   rw[aF (n:=((l.getD n 0).toNat:Int)*((n:Int) % 1000+1)) (by omega),aF (by omega)]
   omega
theorem wd (l:List UInt8) (n:Nat): (wrap64 ((fm l n:Int)+wrap64 (wrap64 (Int.tmod (n:Int) 1000+1)*wrap64 ((l.getD n 0).toNat:Int)))).tmod 65521=(fm l (n+1):Int):=by
 rw[Int.mul_comm];exact aIo l n
def b8 (x:Int):UInt8:=UInt8.ofNat x.toNat
def two (n:Int):List UInt8:=[b8 (n / 256),b8 (n % 256)]
def qH (f:cI):List UInt8:=
 if eQ f then
  let body:=[b8 f.kind,b8 f.src,b8 f.dst,b8 f.frm,b8 f.num,b8 f.to]++two f.til++(if f.kind=1 then [b8 f.size]++two f.mix++f.data else [])
  body++two (fm body body.length)
 else []
theorem we {x:Int} (h:0≤x∧x<256): ((b8 x).toNat:Int)=x:=by
 unfold b8
 rw[UInt8.toNat_ofNat']
 omega
theorem wg {x:Int} (h:0≤x∧x<256):jB x=x:=by unfold jB;omega
theorem ii {x:Int} (h:0≤x∧x<256): [D.u (jB x)]=[D.u (b8 x).toNat]:=by rw[wg h,we h]
theorem aOw {n:Int} (h:0≤n∧n<65536): [[D.u (jB (wrap64 (n.tdiv 256)))],[D.u (jB (n.tmod 256))]]=aE (two n):=by
 rw[Int.tdiv_eq_ediv_of_nonneg h.1,Int.tmod_eq_emod_of_nonneg h.1,aF (by omega),wg (by omega),wg (by omega)]
 simp only[aE,two,List.map_cons,List.map_nil]
 rw[we (by omega),we (by omega)]
theorem wh (n:Int):nV [(.t 0,.v (I n))]:=by
 intro p hp
 simp at hp
 subst hp;trivial
def lL (f:cI):List UInt8:=[b8 f.kind,b8 f.src,b8 f.dst,b8 f.frm,b8 f.num,b8 f.to]++two f.til
def fK (f:cI):List UInt8:=lL f++(if f.kind=1 then [b8 f.size]++two f.mix++f.data else [])
theorem qW (f:cI):qH f=if eQ f then fK f++two (fm (fK f) (fK f).length) else []:=by
 unfold qH fK lL
 rfl
theorem mO {f:cI} (h:eQ f=true): (0≤f.src∧f.src≤3)∧(0≤f.dst∧f.dst≤3)∧(0≤f.frm∧f.frm≤3)∧(0≤f.to∧f.to≤3)∧(1≤f.num∧f.num≤99)∧(1≤f.til∧f.til≤999)∧(1≤f.kind∧f.kind≤3)∧(f.kind=1→(1≤f.size∧f.size≤24)∧(0≤f.mix∧f.mix≤999)∧f.data.length=4):=by
 simp only[eQ,eR,iQ,aX3,aD] at h
 obtain⟨⟨⟨⟨⟨⟨h1,h2⟩,h3⟩,h4⟩,h5⟩,h6⟩,h7⟩:=h
 split at h7
 · rename_i hk
   simp only[aX3,aD] at h7
   exact⟨h1,h2,h3,h4,h5,h6,by omega,fun _=>⟨h7.1.1.1,h7.1.1.2,h7.1.2⟩⟩
 · split at h7
   · rename_i hk hk2
     exact⟨h1,h2,h3,h4,h5,h6,by omega,fun h=>absurd h hk⟩
   · cases h7
theorem ko {f:cI} (h:eQ f=true): (fK f).length≤15:=by
 have:=(mO h).2.2.2.2.2.2.2
 unfold fK lL two
 split
 · rename_i hk;simp[(this hk).2.2]
 · simp
theorem cm {f:cI} (hk: ¬f.kind=1):fK f=lL f:=by simp[fK,hk]
def en (f:cI):List UInt8:=[b8 f.kind,b8 f.src,b8 f.dst,b8 f.frm,b8 f.num,b8 f.to]
theorem aDr {f:cI} (h:eQ f=true): []++[[D.u (jB f.kind)],[.u (jB f.src)],[.u (jB f.dst)],[.u (jB f.frm)],[.u (jB f.num)],[.u (jB f.to)]]=aE (en f):=by
 obtain⟨k1,k2,k3,k4,k5,k6,k7,k8⟩:=mO h
 simp only[en,aE,List.map_cons,List.map_nil,List.nil_append]
 rw[ii (x:=f.kind) (by omega),ii (x:=f.src) (by omega),ii (x:=f.dst) (by omega),ii (x:=f.frm) (by omega),ii (x:=f.num) (by omega),ii (x:=f.to) (by omega)]
def aT7 (k:Int) (n:Nat):List UInt8:=(aYb n).map fun i=>UInt8.ofNat (k.toNat+i)
theorem aDs (k:Int) (n:Nat): (aT7 k n).length=n:=by simp[aT7]
theorem aAk (f:cI): (qH f).length≤17:=by
 rw[qW]
 split
 · rename_i h
   have:=ko h
   simp[two];omega
 · simp
def aOx (σ:St):List (Nat×K)→Prop
 | []=>True
 |p::r=>aV σ (.o p.1)=some p.2∧aOx σ r
theorem aM {σ:St}: ∀{l:List (Nat×K)},aOx σ l→ ∀p∈l,aV σ (.o p.1)=some p.2
 |q::r,h,p,hp=>by
  rcases List.mem_cons.1 hp with rfl|hp
  · exact h.1
  · exact aM h.2 p hp
section
variable {P:Program} {f:FuncId} {n:Nat} {σin σout:St} {o:Oper} {c:Call} {σ:St} {Xs:List V} {Ra:List (dK×Option K)}
theorem kr {k:List (dK×Option K)→List (dK×K)→Prop} (rl:List (Nat×Nat)) (hs:Spec P f n σin σout) (ho:o.op= .call c) (hc:c.callee= .value (.func f)) (hx:evA σ c.args.toList=some (Xs,Ra)) (hn:Xs.length=n) (hin:σin=fA 0 Xs) (hp:Xs.all pB=true)
 (hk:kX rl σin σout=true) (h2: ∀j∈kU σin σout,aV σ (.o (kS rl j))=none) (h:k (ri Ra [] rl σin σout) (uE rl σin σout o.dst)): ∃R W,vW P o R W∧bV R σ∧k R W:=by
 subst hin
 refine bP (robj:=[]) (rl:=rl) (bor:=[]) hs ho hc hx hn ⟨vp (fun j Y hj=> ?_) hp,?_⟩ hk (.inl rfl) (by simp) h2 h
 · have hlt:=(aYa.1 hj).1
   rw[Nat.zero_add,pX 0 Xs _ j (aX5 _) (by omega),Nat.sub_zero,hj];rfl
 · simp[bd,qU,vE,pV]
end
theorem ixB {l:List UInt8} {j:Int} (h0:0≤j) (h:j<l.length): (0≤j∧j< (aE l).length)∧((aE l).getD j.toNat []).length=1:=by
 refine⟨⟨h0,by rw[aY];exact h⟩,?_⟩
 rw[jQ (by omega)];rfl
theorem ldB {l:List UInt8} {j:Int} (h0:0≤j) (h:j<l.length):1≤((aE l).getD j.toNat []).length∧((aE l).getD j.toNat []).take 1=kY [.d (.u 0)] ((aE l).getD j.toNat []) 0:=by
 rw[jQ (by omega)];exact⟨aX8 _,rfl⟩
theorem valB {l:List UInt8} {j:Int} (h0:0≤j) (h:j<l.length):toU (((aE l).getD j.toNat []).getD 0 (.i 0))=((l.getD j.toNat 0).toNat:Int):=by
 rw[jQ (by omega)];rfl
theorem xB (l:List UInt8) (a b:Nat):jV (((aE l).take b).drop a)=(l.take b).drop a:=by
 have:=cL ((l.take b).drop a)
 rw[← this]
 congr 1
 simp[aE]
theorem xC (l:List UInt8) (a b:Nat): ((aE l).take b).drop a=aE ((l.take b).drop a):=by simp[aE]
def aVv:D→Bool
 | .sl rows=>rows.isEmpty
 |_=>true
def aIp:C→Bool
 | .d x=>aVv x
 | .rp _=>false
 |_=>true
def aIq:E→Bool
 | .c x=>aIp x
 | .agg cs=>cs.all aIp
def aOy:V→Bool
 | .e x=>aIq x
 | .tup xs=>xs.all aIq
theorem rx {c:C} (h:aIp c=true):ka c:=by
 cases c with
 |d x=>cases x<;>first|trivial|exact List.isEmpty_iff.1 h
 |rp _=>cases h
 |_=>trivial
theorem ry {c:E} (h:aIq c=true):uf c:=by
 cases c with
 |c x=>exact rx h
 |agg cs=>exact fun c hc=>rx (aYd.1 h c hc)
theorem aFz {c:V} (h:aOy c=true):ug c:=by
 cases c with
 |e x=>exact ry h
 |tup cs=>exact fun c hc=>ry (aYd.1 h c hc)
theorem aIr {X:V} (h:aOy X=true):nV [(.t 0,.v X)]:=by
 intro p hp
 simp at hp
 subst hp
 exact aFz h
def jK (l:List UInt8) (i:Nat):Int:=(l.getD i 0).toNat
theorem kP (l:List UInt8) (i:Nat):0≤jK l i∧jK l i<256:=by
 have:=aOv (l.getD i 0)
 unfold jK;omega
theorem aDt {l:List UInt8} {j:Int} (h0:0≤j) (h:j.toNat<l.length):wrap64 (toU (((aE l).getD j.toNat []).getD 0 (.i 0)))=jK l j.toNat:=by
 rw[valB h0 (by omega)]
 have:=kP l j.toNat
 exact aF (by unfold jK at this;omega)
theorem aB2 {x y:Int} (h:0≤x∧x<256) (k:0≤y∧y<256):wrap64 (wrap64 (x*256)+y)=x*256+y∧wrap64 (wrap64 (256*x)+y)=x*256+y:=by
 constructor
 · rw[aF (n:=x*256) (by omega),aF (by omega)]
 · rw[aF (n:=256*x) (by omega),aF (by omega)];omega
def ep:cI:=⟨0,0,0,0,0,0,0,0,0,[]⟩
def cZ (l:List UInt8):cI:=
 ⟨jK l 0,jK l 1,jK l 2,jK l 3,jK l 4,jK l 5,jK l 6*256+jK l 7,
  if l.length=17 then jK l 8 else 0,if l.length=17 then jK l 9*256+jK l 10 else 0,if l.length=17 then(l.take 15).drop 11 else []⟩
def nD (l:List UInt8):Bool:=(l.length==10||l.length==17)&&qH (cZ l)==l
def iA (l:List UInt8):cI:=if nD l then cZ l else ep
theorem aOz {m:Int} (hm:0≤m):BitVec.ofInt 64 m=BitVec.ofNat 64 m.toNat:=by
 obtain⟨k,rfl⟩:=Int.eq_ofNat_of_zero_le hm
 exact BitVec.ofInt_natCast ..
theorem aL1 {m n:Int} (hm:0≤m∧m<4611686018427387904) (hn:0≤n∧n<4611686018427387904):aBh m n=((m.toNat ^^^ n.toNat:Nat):Int):=by
 have hlt:m.toNat ^^^ n.toNat<2 ^ 62:=Nat.xor_lt_two_pow (by omega) (by omega)
 show IntKind.i64.wrap ((BitVec.ofInt 64 m ^^^ BitVec.ofInt 64 n).toNat:Int)=_
 rw[aOz hm.1,aOz hn.1,BitVec.toNat_xor,BitVec.toNat_ofNat,BitVec.toNat_ofNat,Nat.mod_eq_of_lt (by omega),Nat.mod_eq_of_lt (by omega),xS]
 exact aF (by omega)
theorem aDu {m n:Int} (hm:0≤m∧m<4611686018427387904) (hn:0≤n∧n<4611686018427387904):0≤aBh m n:=by
 rw[aL1 hm hn];omega
theorem oA {x n:Int} (hx:0≤x) (hn:1≤n):0≤Int.tmod x n∧Int.tmod x n<n:=
 ⟨Int.tmod_nonneg n hx,Int.tmod_lt_of_pos x (by omega)⟩
theorem pY {x n:Int} (hx:0≤x) (hn:1≤n):0≤Int.tdiv x n∧Int.tdiv x n≤x:=by
 rw[Int.tdiv_eq_ediv_of_nonneg hx]
 exact⟨Int.ediv_nonneg hx (by omega),Int.ediv_le_self n hx⟩
theorem aXn {a b k q:Int} (ha:0≤a∧a<256) (hb:0≤b∧b<256) (hk:0≤k∧k≤1000000) (hq:0≤q∧q≤k):
 0≤wrap64 (wrap64 (wrap64 (wrap64 (a*131)+wrap64 (b*1117))+wrap64 (k*29))+wrap64 (wrap64 q*53))∧wrap64 (wrap64 (wrap64 (wrap64 (a*131)+wrap64 (b*1117))+wrap64 (k*29))+wrap64 (wrap64 q*53))<4611686018427387904:=by
 rw[aF (n:=a*131) (by omega),aF (n:=b*1117) (by omega),aF (n:=k*29) (by omega),aF (n:=q) (by omega),aF (n:=q*53) (by omega),aF (n:=a*131+b*1117) (by omega),aF (n:=a*131+b*1117+k*29) (by omega),aF (by omega)]
 omega
theorem aRz {x:Int} (h:0≤x∧x<4611686018427387904):0≤aBh x (wrap64 (Int.tdiv x 64)):=by
 have:=pY (x:=x) (n:=64) h.1 (by omega)
 rw[aF (by omega)]
 exact aDu h ⟨this.1,by omega⟩
end Go.Ab
namespace Go.Ab
open Int renaming toNat_natCast→aXy
open List renaming length_append→aXz,length_cons→aX1,length_nil→aX2,length_take→aX4,getD_eq_getElem?_getD→aX6,length_drop→aX7,getElem?_eq_getElem→aX9,getElem?_eq_some_iff→aYa,range→aYb,mem_map→aYc,all_eq_true→aYd,take_length→aYe
open Nat renaming le_of_ble_eq_true→aX0,zero_le→aX5,le_refl→aX8
open Bool renaming and_eq_true→aX3
open Go Go.RowKit
def bT (l:List UInt8) (p n:Int):Int:=
 if n<1∨l.length=0 then 0
 else if p<l.length then Int.tmod (jK l p.toNat) n
 else Int.tmod (aBh (wrap64 (wrap64 (wrap64 (wrap64 (jK l (Int.tmod p l.length).toNat*131)+wrap64 (jK l (Int.tmod (wrap64 (wrap64 (p*7)+3)) l.length).toNat*1117))+wrap64 (p*29))+wrap64 (wrap64 (Int.tdiv p l.length)*53)))
  (wrap64 (Int.tdiv (wrap64 (wrap64 (wrap64 (wrap64 (jK l (Int.tmod p l.length).toNat*131)+wrap64 (jK l (Int.tmod (wrap64 (wrap64 (p*7)+3)) l.length).toNat*1117))+wrap64 (p*29))+wrap64 (wrap64 (Int.tdiv p l.length)*53))) 64))) n
theorem cG (l:List UInt8) {p n:Int} (hp:0≤p∧p≤1000000) (hn:1≤n):0≤bT l p n∧bT l p n<n:=by
 unfold bT
 split
 · omega
 · rename_i h
   have hl: ¬l.length=0:=fun e=>h (.inr e)
   split
   · exact oA (kP _ _).1 hn
   · exact oA (aRz (aXn (kP _ _) (kP _ _) hp (pY hp.1 (by omega)))) hn
set_option linter.unusedVariables false
def u8 (x:Int):UInt8:=UInt8.ofNat (jB x).toNat
theorem aF0 (x:Int): ((u8 x).toNat:Int)=jB x:=by
 unfold u8 jB
 rw[UInt8.toNat_ofNat']
 omega
theorem aDv (x:Int): [D.u (jB x)]=[D.u (u8 x).toNat]:=by rw[aF0]
theorem aB3 (b:List UInt8) (x:Int):aE b++[[D.u (jB x)]]=aE (b++[u8 x]):=by rw[aDv,← gY];rfl
theorem aO0 {b:List UInt8} {i:Nat} {x:Int} (hi:i<b.length) (hx:x=jB x):
 (aE b).set i (dN ((aE b).getD i []) 0 [D.u x])=aE (b.set i (u8 x)):=by
 rw[jQ hi]
 have e:dN [D.u (b.getD i 0).toNat] 0 [D.u x]=[D.u (u8 x).toNat]:=by rw[← aDv,← hx];rfl
 rw[e,aE,aE,← List.map_set (f:=fun b:UInt8=>[D.u (b.toNat:Int)])]
theorem aF1 (x:Int):jB x=jB (jB x):=by unfold jB;omega
theorem weights: ∀d,1≤d→d≤255→ ∀w,1≤w→w≤1000→d*w≠65521∧d*w≠131042∧d*w≠196563:=by
 intro d h1 h2 w h3 h4
 have key: ∀d,d≤255→d≠0→(65521 % d=0→1000<65521 / d)∧(131042 % d=0→1000<131042 / d)∧(196563 % d=0→1000<196563 / d):=by
  decide+kernel
 obtain⟨k1,k2,k3⟩:=key d h2 (by omega)
 · have hd:0<d:=by omega
   refine⟨fun e=> ?_,fun e=> ?_,fun e=> ?_⟩
   · have:=k1 (by rw[← e];exact Nat.mul_mod_right d w)
     rw[← e,Nat.mul_div_cancel_left w hd] at this;omega
   · have:=k2 (by rw[← e];exact Nat.mul_mod_right d w)
     rw[← e,Nat.mul_div_cancel_left w hd] at this;omega
   · have:=k3 (by rw[← e];exact Nat.mul_mod_right d w)
     rw[← e,Nat.mul_div_cancel_left w hd] at this;omega
set_option linter.unusedVariables false
def dE (l:List Int):List (List D):=l.map fun x=>[.i x]
def aQ (l:List Bool):List (List D):=l.map fun x=>[.b x]
def bF (l:List (List UInt8)):List (List D):=l.map fun x=>[.s x]
theorem cM (l:List Int): (dE l).length=l.length:=by simp[dE]
theorem dA (l:List Bool): (aQ l).length=l.length:=by simp[aQ]
theorem aP (l:List (List UInt8)): (bF l).length=l.length:=by simp[bF]
theorem zH (l:List (List UInt8)): ∀r∈bF l,r.length=1:=by
 intro r hr
 obtain⟨b,_,rfl⟩:=aYc.1 hr
 rfl
theorem gZ {l:List Int} {i:Nat} (h:i<l.length): (dE l).getD i []=[.i (l.getD i 0)]:=by
 rw[aX6,aX6]
 simp[dE,h]
theorem lQ {l:List Bool} {i:Nat} (h:i<l.length): (aQ l).getD i []=[.b (l.getD i false)]:=by
 rw[aX6,aX6]
 simp[aQ,h]
theorem fZ {l:List (List UInt8)} {i:Nat} (h:i<l.length): (bF l).getD i []=[.s (l.getD i [])]:=by
 rw[aX6,aX6]
 simp[bF,h]
theorem kt {l:List Int} {j:Int} (h0:0≤j) (h:j<l.length): (0≤j∧j< (dE l).length)∧((dE l).getD j.toNat []).length=1:=by
 refine⟨⟨h0,by rw[cM];exact h⟩,?_⟩
 rw[gZ (by omega)];rfl
theorem ixS {l:List (List UInt8)} {j:Int} (h0:0≤j) (h:j<l.length): (0≤j∧j< (bF l).length)∧((bF l).getD j.toNat []).length=1:=by
 refine⟨⟨h0,by rw[aP];exact h⟩,?_⟩
 rw[fZ (by omega)];rfl
theorem ldS {l:List (List UInt8)} {j:Int} (h0:0≤j) (h:j<l.length):1≤((bF l).getD j.toNat []).length∧((bF l).getD j.toNat []).take 1=kY [.d (.s [])] ((bF l).getD j.toNat []) 0:=by
 rw[fZ (by omega)];exact⟨aX8 _,rfl⟩
theorem aR0 {l:List (List UInt8)} {j:Int} (h0:0≤j) (h:j<l.length):toS (((bF l).getD j.toNat []).getD 0 (.i 0))=l.getD j.toNat []:=by
 rw[fZ (by omega)];rfl
theorem aXq {l:List UInt8} {j:Int} {n:Nat} (h0:0≤j) (h:j<l.length) (e:l.length=n): (aE l).length=n∧0≤j∧j<n:=⟨by rw[aY];exact e,h0,by omega⟩
theorem aF2 {l:List Int} {j n:Nat} (h:j<l.length) (e:l.length=n): ((dE l).length=n∧j<n)∧0+1≤((dE l).getD j []).length∧(((dE l).getD j []).drop 0).take 1=kY [.d (.i 0)] ((dE l).getD j []) 0:=by
 rw[gZ h,cM];exact⟨⟨e,by omega⟩,aX8 _,rfl⟩
theorem oldS {l:List (List UInt8)} {j n:Nat} (h:j<l.length) (e:l.length=n): ((bF l).length=n∧j<n)∧0+1≤((bF l).getD j []).length∧(((bF l).getD j []).drop 0).take 1=kY [.d (.s [])] ((bF l).getD j []) 0:=by
 rw[fZ h,aP];exact⟨⟨e,by omega⟩,aX8 _,rfl⟩
theorem aL2 {l:List Bool} {i:Nat} {x:Bool} (hi:i<l.length): (aQ l).set i (dN ((aQ l).getD i []) 0 [D.b x])=aQ (l.set i x):=by
 rw[lQ hi]
 show(aQ l).set i [D.b x]=_
 rw[aQ,aQ,← List.map_set (f:=fun b:Bool=>[D.b b])]
theorem oN (l:List Int) (x:Int):dE l++[[D.i x]]=dE (l++[x]):=by simp[dE]
theorem fF (l:List (List UInt8)) (x:List UInt8):bF l++[[D.s x]]=bF (l++[x]):=by simp[bF]
theorem repT (n:Nat):List.replicate n [D.b false]=aQ (List.replicate n false):=by simp[aQ]
def fC (x:Int):Int:=if iQ x 0 65535 then Int.tmod (wrap64 (wrap64 (x*25173)+13849)) 65536 else 0
theorem cn (x:Int):0≤fC x∧fC x<65536:=by
 unfold fC
 split
 · rename_i h
   simp[iQ] at h
   rw[aF (n:=x*25173) (by omega),aF (by omega)]
   exact oA (by omega) (by omega)
 · omega
def tW (b n:Int):Bool:=iQ b 1 6&&iQ n 0 999
theorem yD {b n:Int} (h:tW b n=true): (1≤b∧b≤6)∧0≤n∧n≤999:=by
 simp[tW,iQ] at h;omega
def oC (b d:Int):Int:=if d=1 then wrap64 (wrap64 (Int.tdiv 60 b)+10) else wrap64 (Int.tdiv 60 (wrap64 (d*wrap64 (d - 1))))
theorem vI {b d:Int} (hb:1≤b∧b≤6) (hd:1≤d∧d≤6):0≤oC b d∧oC b d≤70∧(d=1→10≤oC b d):=by
 obtain⟨hb1,hb2⟩:=hb
 obtain⟨hd1,hd2⟩:=hd
 have key: ∀b:Fin 7,∀d:Fin 7,1≤b.val→1≤d.val→0≤oC b.val d.val∧oC b.val d.val≤70∧((d.val:Int)=1→10≤oC b.val d.val):=by decide+kernel
 obtain⟨m,rfl⟩:=Int.eq_ofNat_of_zero_le (show 0≤b by omega)
 obtain⟨n,rfl⟩:=Int.eq_ofNat_of_zero_le (show 0≤d by omega)
 exact key ⟨m,by omega⟩ ⟨n,by omega⟩ (by simp;omega) (by simp;omega)
theorem aIs {b f at_:Int} (hb:1≤b∧b≤6) (hf:0≤f∧f<b) (ha:0≤at_∧at_<b) (hne:at_≠f):
 ((f+b - Int.tmod (wrap64 (at_+1)) b) % b).toNat< ((f+b - at_) % b).toNat∧0≤Int.tmod (wrap64 (at_+1)) b∧Int.tmod (wrap64 (at_+1)) b<b:=by
 rw[aF (by omega)]
 have h:=oA (x:=at_+1) (n:=b) (by omega) hb.1
 refine⟨?_,h⟩
 rw[Int.tmod_eq_emod_of_nonneg (by omega)]
 obtain⟨h1,h2⟩:=hb
 have:b=1∨b=2∨b=3∨b=4∨b=5∨b=6:=by omega
 rcases this with rfl|rfl|rfl|rfl|rfl|rfl<;>omega
theorem aF3 {u:List Bool} (h:u.count true<u.length): ∃f,f<u.length∧u.getD f false=false:=by
 induction u with
 |nil=>simp at h
 |cons x u ih=>
  cases x with
  |false=>exact⟨0,by simp,rfl⟩
  |true=>
   simp at h
   obtain⟨f,h1,h2⟩:=ih h
   exact⟨f+1,by simpa using h1,by simpa using h2⟩
theorem aL3 {u:List Bool} {i:Nat} (hi:i<u.length) (h:u.getD i false=false): (u.set i true).count true=u.count true+1:=by
 induction u generalizing i with
 |nil=>simp at hi
 |cons x u ih=>
  cases i with
  |zero=>simp at h;subst h;simp
  |succ i=>
   simp at hi
   have:=ih hi (by simpa using h)
   simp only[List.set_cons_succ,List.count_cons,this]
   omega
theorem ij (m n:Int):nr m n=jB (nr m n):=by
 unfold nr
 rw[jr]
 exact aF1 _
theorem aL4 (b:List UInt8) (m n:Int):aE b++[[D.u (nr m n)]]=aE (b++[u8 (nr m n)]):=by
 rw[ij]
 rw[aB3,← ij]
set_option linter.unusedVariables false
theorem rz {f:cI} (h:eQ f=true): (f.kind=1→f.dst=jC f.src f.to)∧(f.kind≠1→f.src=jC f.dst f.to∧f.size=0∧f.mix=0∧f.data=[]):=by
 simp only[eQ,aX3] at h
 obtain⟨_,h7⟩:=h
 split at h7
 · rename_i hk
   simp only[aX3,aD] at h7
   exact⟨fun _=>h7.2,fun h=>absurd hk h⟩
 · rename_i hk
   split at h7
   · simp only[aX3,aD] at h7
     exact⟨fun h=>absurd h hk,fun _=>⟨h7.2,h7.1.1.1,h7.1.1.2,h7.1.2⟩⟩
   · cases h7
theorem fv {a b n:Int} (h:n=jC a b) (hn:0≤n):a - n=1∨n - a=1:=by
 unfold jC at h
 split at h
 · omega
 · split at h<;>omega
theorem aL5 {f:cI} (h:eQ f=true) (hk:f.kind=1):jC f.src f.to=f.dst∧(f.src - f.dst=1∨f.dst - f.src=1):=by
 obtain⟨k1,k2,_⟩:=mO h
 have:=(rz h).1 hk
 exact⟨this.symm,fv this (by omega)⟩
theorem aL6 {f:cI} (h:eQ f=true) (hk:f.kind≠1):jC f.dst f.to=f.src∧(f.src - f.dst=1∨f.dst - f.src=1):=by
 obtain⟨k1,k2,_⟩:=mO h
 have:=((rz h).2 hk).1
 exact⟨this.symm,(fv this (by omega)).symm⟩
set_option linter.unusedVariables false
set_option linter.unusedSimpArgs false
def eqD:D→D→Bool
 | .i m,.i n=>m==n
 | .b m,.b n=>m==n
 | .s l,.s r=>l==r
 |_,_=>false
def co:List D→List D→Bool
 |x::xs,y::ys=>eqD x y&&co xs ys
 |_,_=>true
def aB4:TK→D→D→Bool
 | .int _,.i _,.i _=>true
 | .bool,.b _,.b _=>true
 | .str,.s _,.s _=>true
 |_,_,_=>false
def ku (T:hZ):List Field→Nat→List D→List D→Bool
 | [],_,[],[]=>true
 |f::fs,k,x::xs,y::ys=>(f.name != "_")&&Nat.beq f.offset k&&(match T f.type with|some ti=>aB4 ti.kind x y|none=>false)&&ku T fs (k+1) xs ys
 |_,_,_,_=>false
theorem aKn {P:Program} {T:hZ} (hT:dV P T) {w:World} {S:Nat→Prop} {va vb:Array Value} (d:Nat): ∀(fs:List Field) (k:Nat) (xs ys:List D),ku T fs k xs ys=true→(∀(j:Nat) x,xs[j]? =some x→ ∃v,va[k+j]? =some v∧DR w S x v)→(∀(j:Nat) x,ys[j]? =some x→ ∃v,vb[k+j]? =some v∧DR w S x v)→
 (Op.eqFields (d+1) va vb fs).run P w= .ok (co xs ys) w
 | [],k,xs,ys,h,_,_=>by
  cases xs<;>cases ys<;>first|rfl|(simp[ku] at h)
 |f::fs,k,[],ys,h,_,_=>by simp[ku] at h
 |f::fs,k,x::xs,[],h,_,_=>by simp[ku] at h
 |f::fs,k,x::xs,y::ys,h,hx,hy=>by
  simp only[ku,aX3] at h
  obtain⟨⟨⟨h1,h2⟩,h3⟩,h4⟩:=h
  have h2:=Nat.eq_of_beq_eq_true h2
  split at h3<;>try(cases h3;done)
  rename_i ti hti
  have ok:=hT _ _ hti
  obtain⟨u,hu,hxu⟩:=hx 0 x rfl
  obtain⟨v,hv,hyv⟩:=hy 0 y rfl
  have ih:=aKn hT d fs (k+1) xs ys h4 (fun j z hj=>by rw[Nat.add_assoc,Nat.add_comm 1 j];exact hx (j+1) z hj) (fun j z hj=>by rw[Nat.add_assoc,Nat.add_comm 1 j];exact hy (j+1) z hj)
  have hag:ti.kind.agg=false:=by
   cases hk:ti.kind<;>rw[hk] at h3<;>first|rfl|(simp[aB4] at h3)
  have pu: (Go.part f.type va f.offset).run P w= .ok u w:=by
   rw[h2];simp only[Go.part,Sem.run_bind,rY ok,hag,Result.andThen_ok]
   simp only[Nat.add_zero] at hu
   simp[hu]
  have pv: (Go.part f.type vb f.offset).run P w= .ok v w:=by
   rw[h2];simp only[Go.part,Sem.run_bind,rY ok,hag,Result.andThen_ok]
   simp only[Nat.add_zero] at hv
   simp[hv]
  have heq: (Op.equalIn (d+1) f.type u v).run P w= .ok (eqD x y) w:=by
   have hkd:=ok.kind
   cases hk:ti.kind with
   |int k'=>
    rw[hk] at h3 hkd
    cases x<;>cases y<;>simp[aB4] at h3
    cases hxu;cases hyv
    exact run_equalIn_int w d f.type .i64 k' _ _ hkd
   |bool=>
    rw[hk] at h3 hkd
    cases x<;>cases y<;>simp[aB4] at h3
    cases hxu;cases hyv
    exact run_equalIn_bool w d f.type _ _ hkd
   |str=>
    rw[hk] at h3 hkd
    cases x<;>cases y<;>simp[aB4] at h3
    rename_i l r
    cases hxu;cases hyv
    rw[run_equalIn_string w d f.type _ _ hkd]
    simp[eqD,ByteArray.toList_eq]
   |_=>rw[hk] at h3;simp[aB4] at h3
  simp only[Op.eqFields,aC (by simpa using h1),Sem.run_bind,pu,pv,heq,Result.andThen_ok]
  cases hxy:eqD x y
  · simp[co,hxy]
  · simp[co,hxy,ih]
theorem aKo {P:Program} {T:hZ} (hT:dV P T) {o:Oper} {op:BinOp} {t u:TypeId} {x y:Operand} {d:Nat} {σ0:St} {xs ys:List D} {Rx Ry:List (dK×Option K)} (ho:o.op= .binOp op t x y u) (hd:o.dst=some d) (hop: (match op with| .eql=>true| .neq=>true|_=>false)=true)
 (ht:P.underlying t=some (.struct (P.fieldsOf t))) (hp:P.stoodInHeld t=false) (hm:P.eqGuardType P.depth t=false) (hf:ku T (P.fieldsOf t).toList 0 xs ys=true)
 (hx:ev σ0 x=some (.e (.agg (xs.map .d)),Rx)) (hy:ev σ0 y=some (.e (.agg (ys.map .d)),Ry)):
 vW P o (Rx++Ry) [(.t d,.v (B (match op with| .neq=> !co xs ys|_=>co xs ys)))]:=by
 refine oL hd fun cx σ ι S a w hr hw=> ?_
 obtain⟨va,ea,la,ha⟩:=(show ER σ ι w S (.agg (xs.map .d)) _ from dP hx hr.left hw)
 obtain⟨vb,eb,lb,hb⟩:=(show ER σ ι w S (.agg (ys.map .d)) _ from dP hy hr.right hw)
 have hA: ∀(j:Nat) z,xs[j]? =some z→ ∃v,va.toArray[0+j]? =some v∧DR w S z v:=fun j z hj=>by
  have hj': (xs.map C.d)[j]? =some (.d z):=by simp[hj]
  have hlt:j<va.length:=by rw[la];exact(aYa.1 hj').1
  refine⟨va[j],by simp[hlt],ha j _ _ hj' (by simp[hlt])⟩
 have hB: ∀(j:Nat) z,ys[j]? =some z→ ∃v,vb.toArray[0+j]? =some v∧DR w S z v:=fun j z hj=>by
  have hj': (ys.map C.d)[j]? =some (.d z):=by simp[hj]
  have hlt:j<vb.length:=by rw[lb];exact(aYa.1 hj').1
  refine⟨vb[j],by simp[hlt],hb j _ _ hj' (by simp[hlt])⟩
 have key:=aKn hT 9998 (P.fieldsOf t).toList 0 xs ys hf hA hB
 have key2: (Op.equalIn 10000 t (.agg va.toArray) (.agg vb.toArray)).run P w= .ok (co xs ys) w:=by
  rw[show(10000:Nat)=9999+1 from rfl,run_equalIn_struct w 9999 t _ _ ht hp];exact key
 cases op<;>simp at hop
 · refine⟨.bool (co xs ys),?_,.b _⟩
   unfold execOp
   simp only[ho,Act.eval] at*
   simp only[ea,eb]
   rw[Sem.run_bind,Sem.run_bind,run_eqGuard_agg w .eql t x y _ _ hm,Result.andThen_ok,run_eql_struct,key2]
   rfl
 · refine⟨.bool (!co xs ys),?_,.b _⟩
   unfold execOp
   simp only[ho,Act.eval] at*
   simp only[ea,eb]
   rw[Sem.run_bind,Sem.run_bind,run_eqGuard_agg w .neq t x y _ _ hm,Result.andThen_ok,run_neq_struct,key2]
   rfl
theorem aIt {P:Program} {T:hZ} (hT:dV P T) {o:Oper} {op:BinOp} {t u:TypeId} {x y:Operand} {d:Nat} {σ:St} (xs ys:List D) {Rx Ry:List (dK×Option K)} {k:List (dK×Option K)→List (dK×K)→Prop} (ho:o.op= .binOp op t x y u) (hd:o.dst=some d) (hop: (match op with| .eql=>true| .neq=>true|_=>false)=true)
 (ht:P.underlying t=some (.struct (P.fieldsOf t))) (hp:P.stoodInHeld t=false) (hm:P.eqGuardType P.depth t=false) (hf:ku T (P.fieldsOf t).toList 0 xs ys=true)
 (hx:ev σ x=some (.e (.agg (xs.map .d)),Rx)) (hy:ev σ y=some (.e (.agg (ys.map .d)),Ry)) (h:k (Rx++Ry) [(.t d,.v (B (match op with| .neq=> !co xs ys|_=>co xs ys)))]): ∃R W,vW P o R W∧bV R σ∧k R W:=
 ⟨_,_,aKo hT ho hd hop ht hp hm hf hx hy,(fun p hp=>by
  rcases List.mem_append.1 hp with hp|hp
  · exact dH hx p hp
  · exact dH hy p hp),h⟩
theorem aR1 {P:Program} {T:hZ} (hT:dV P T) {o:Oper} {op:BinOp} {t u:TypeId} {x y:Operand} {d:Nat} {σ σ1:St} {g:Bool} (xs ys:List D) {Rx Ry:List (dK×Option K)} {k:List (dK×Option K)→V→Prop} (ho:o.op= .binOp op t x y u) (hd:o.dst=some d) (hop: (match op with| .eql=>true| .neq=>true|_=>false)=true)
 (ht:P.underlying t=some (.struct (P.fieldsOf t))) (hp:P.stoodInHeld t=false) (hm:P.eqGuardType P.depth t=false) (hf:ku T (P.fieldsOf t).toList 0 xs ys=true)
 (hx:ev σ1 x=some (.e (.agg (xs.map .d)),Rx)) (hy:ev σ1 y=some (.e (.agg (ys.map .d)),Ry)) (hr:g=true→pA σ (Rx++Ry)) (h:k (Rx++Ry) (B (match op with| .neq=> !co xs ys|_=>co xs ys))):
 ∃R X,(g=true→vW P o R [(.t d,.v X)]∧bV R σ1)∧(g=true→pA σ R)∧k R X:=
 ⟨_,_,fun _=>⟨aKo hT ho hd hop ht hp hm hf hx hy,(fun p hp=>by
  rcases List.mem_append.1 hp with hp|hp
  · exact dH hx p hp
  · exact dH hy p hp)⟩,hr,h⟩
set_option linter.unusedVariables false
set_option linter.unusedSimpArgs false
theorem Spec.freeze {P:Program} {f:FuncId} {n m:Nat} {σin:St} {e:TypeId} {es:Nat} {rows:List (List D)} (h:Spec P f n σin [(.t 0,.v (.e (.c (.own 0 m)))),(.o 0,.row e es rows)]) (hm:rows.length=m) (h0:cE σin=[]):Spec P f n σin [(.t 0,.v (Dv (.sl rows)))]:=by
 have hno: ∀o k,aV σin (.o o)=some k→False:=fun o k hk=>by have:=fN hk;rw[h0] at this;cases this
 refine⟨h.1,fun ι ν S w args hg h1 h2 h3=>nZ (fun ex w'=> ?_) (h.2 ι ν S w args hg h1 h2 h3)⟩
 rintro⟨v,ι',S',rfl,hp⟩
 have hrow:=hp.vr.objs 0 (.row e es rows) rfl
 have hv:v=ι' 0:=by
  obtain⟨_,h2⟩:=(show CR _ ι' w' S' (.own 0 m) v from hp.vr.slots 0 _ rfl)
  rcases h2 with⟨e2,es2,rows2,hl,_,hv⟩|hd
  · cases hl;exact hv hm
  · cases hd
 have hmut: ∀b,uZ (ι' 0) b→lJ [(dK.t 0,K.v (.e (.c (.own 0 m)))),(.o 0,.row e es rows)] ι' 0 b:=fun b hb=>⟨⟨_,rfl,trivial⟩,hb⟩
 refine⟨v,ι',fun b=>S' b∨uZ (ι' 0) b,rfl,hp.fr,⟨fun s k hk=> ?_,fun o k hk=> ?_,fun o b hm2=> ?_,fun o o' b hm2=> ?_,fun b hb=> ?_⟩,fun b hb=> ?_,fun o b hm2=> ?_,fun o k k' hk hk'=> ?_⟩
 · simp only[aV] at hk
   split at hk
   · rename_i e3;cases e3;cases hk
     show DR w' _ (.sl rows) v
     rw[hv];exact od hrow (fun b h=> .inl h) (fun b h=> .inr h)
   · cases hk
 · simp[aV] at hk
 · obtain⟨⟨k,hk,_⟩,_⟩:=hm2;simp[aV] at hk
 · obtain⟨⟨k,hk,_⟩,_⟩:=hm2;simp[aV] at hk
 · rcases hb with hb|hb
   · exact hp.vr.sz b hb
   · exact OR.lt hrow trivial hb
 · rcases hb with hb|hb
   · exact hp.rd b hb
   · exact .inr (hp.own 0 b (hmut b hb))
 · obtain⟨⟨k,hk,_⟩,_⟩:=hm2;simp[aV] at hk
 · exact(hno o k hk).elim
def goF (P:Program) (T:hZ) (io:List Nat) (ops:List Oper):List Oper→St→(St→Prop)→Prop
 | [],σ,k=>k σ
 |o::os,σ,k=>match o.guard with
  |none=>aBx P T io o σ fun σ'=>goF P T io ops os σ' k
  |some (j,want)=>match(ops[j]?).bind (·.dst),o.dst with
   |some s,some d=>match gOf want (aV σ (.t s)) with
    |some g=>(g=true→aBx P T io o σ fun σ'=>goF P T io ops os σ' k)∧(g=false→ ∃X,oh σ (.t d) (.cv s want false X) fun σ'=>goF P T io ops os σ' k)
    |none=>False
   |_,_=>False
theorem ou {P:Program} {T:hZ} (hT:dV P T) {io:List Nat} {ops:Array Oper} {cx:Cx P} (hio: ∀o k,cx.kio o=some k→o∈io) {Q:Exit→Act→World→Prop} {k:St→Prop} (hk: ∀σ ι S a w,k σ→RW cx σ ι S a w→Q .normal a w): ∀(l:List Oper) (σ:St) (ι:Nat→Value) (S:Nat→Prop) (a:Act) (w:World),goF P T io ops.toList l σ k→RW cx σ ι S a w→(∀o∈l,∀d,o.dst=some d→d<cx.N)→wpList P ops Q l a w
 | [],σ,ι,S,a,w,h,hw,hf=>hk σ ι S a w h hw
 |o::os,σ,ι,S,a,w,h,hw,hf=>by
  have hfo:=hf o (List.mem_cons_self ..)
  have hfs: ∀o∈os,∀d,o.dst=some d→d<cx.N:=fun o ho=>hf o (List.mem_cons_of_mem _ ho)
  have run: (aBx P T io o σ fun σ'=>goF P T io ops.toList os σ' k)→o.wp P a w (fun a w=>wpList P ops Q os a w) Q:=fun h=>by
   obtain⟨σ1,hwk,R,Ws,h1,h2,h3⟩:=rv hT h
   obtain⟨ι1,S1,hw1⟩:=hwk _ cx ι S a w hio hw
   refine h1 cx σ1 ι1 S1 a w h2 hw1 hfo _ Q fun W hW ι' S' a' w' hw'=> ?_
   have h3:=h3 W hW
   rw[jW] at h3
   exact ou hT hio hk os _ ι' S' a' w' h3 hw' hfs
  unfold wpList
  simp only[goF] at h
  split at h
  · rename_i hg
    rw[aC (by simp[Region.wanted,hg])]
    exact .inl (run h)
  · rename_i j want hg
    split at h<;>try(exact h.elim)
    rename_i s d hs hd
    split at h<;>try(exact h.elim)
    rename_i g hl
    have hs': (ops[j]?).bind (·.dst)=some s:=by simpa using hs
    cases g with
    |true=>
     rw[ic hw hg hs' hl,aC rfl]
     exact .inl (run (h.1 rfl))
    |false=>
     obtain⟨X,h2⟩:=h.2 rfl
     rw[nW] at h2
     exact ui (R:=[]) (X:=X) hg hs' hd hl (by simp) (by simp) cx σ ι S a w zE hw hfo _ Q fun ι' S' a' w' hw'=>ou hT hio hk os _ ι' S' a' w' (by simpa[iP] using h2) hw' hfs
theorem SW.regF {P:Program} {io:List Nat} {Q:Ex→St→Prop} {σ:St} {T:hZ} (hT:dV P T) (ks:List Nat) {id:Nat} {ops:Array Oper} (h:goF P T io ops.toList ops.toList σ fun σ'=>qT ks σ' (Q .norm)):SW P io (.region id ops false) Q σ:=by
 intro cx ι S a w hio hw hf
 have hfit: ∀o∈ops.toList,∀d,o.dst=some d→d<cx.N:=fun o ho=>wY (by simpa[tJ] using hf) ho
 refine wp_region_list (ou hT hio (fun σ' ι' S' a' w' h4 hw'=> ?_) ops.toList σ ι S a w h hw hfit)
 rw[lY] at h4
 exact⟨_,ι',S',h4,hw'.keep ks⟩
set_option linter.unusedVariables false
theorem aO1 {R:List (List D)} {i:Nat} {r:List D} (hi:i<R.length) (h:R.getD i []=r):R.set i r=R:=by
 rw[← h,aX6,aX9 hi]
 simp
set_option linter.unusedVariables false
structure bI where
 frm:Int
 num:Int
 to:Int
 til:Int
 text:List UInt8
 deriving DecidableEq
structure cD where
 frm:Int
 num:Int
 til:Int
 deriving DecidableEq
def bI.row (n:bI):List D:=[.i n.frm,.i n.num,.i n.to,.i n.til,.s n.text]
def cD.row (n:cD):List D:=[.i n.frm,.i n.num,.i n.til]
abbrev bI.V (n:bI):V:= .e (.agg [.d (.i n.frm),.d (.i n.num),.d (.i n.to),.d (.i n.til),.d (.s n.text)])
abbrev cD.V (n:cD):V:= .e (.agg [.d (.i n.frm),.d (.i n.num),.d (.i n.til)])
def bI.zero:bI:=⟨0,0,0,0,[]⟩
def cD.zero:cD:=⟨0,0,0⟩
def aI (l:List bI):List (List D):=l.map bI.row
def aS (l:List cD):List (List D):=l.map cD.row
theorem aH (l:List bI): (aI l).length=l.length:=by simp[aI]
theorem aR (l:List cD): (aS l).length=l.length:=by simp[aS]
theorem gI (l:List bI): ∀r∈aI l,r.length=5:=by
 intro r hr
 obtain⟨b,_,rfl⟩:=aYc.1 hr
 rfl
theorem lR (l:List cD): ∀r∈aS l,r.length=3:=by
 intro r hr
 obtain⟨b,_,rfl⟩:=aYc.1 hr
 rfl
theorem aX {l:List bI} {i:Nat} (h:i<l.length): (aI l).getD i []=(l.getD i .zero).row:=by
 rw[aX6,aX6]
 simp[aI,h]
theorem cA {l:List cD} {i:Nat} (h:i<l.length): (aS l).getD i []=(l.getD i .zero).row:=by
 rw[aX6,aX6]
 simp[aS,h]
def vJ (s:List UInt8) (i:Nat):Bool:=iQ (jK s i) 32 126
def zI (s:List UInt8):Bool:=(aYb s.length).all (vJ s)&&iQ s.length 1 24
def eV (n:bI):Bool:=eR n.frm&&eR n.to&&iQ n.num 1 99&&iQ n.til 1 999&&zI n.text
def lS (m:cD):Bool:=eR m.frm&&iQ m.num 1 99&&iQ m.til 1 999
def cJ (a b c d:Int):Bool:=decide (a<c)||a==c&&decide (b<d)
def mA (l:List bI) (i:Nat):Bool:=eV (l.getD i .zero)&&(i==0||cJ (l.getD (i - 1) .zero).frm (l.getD (i - 1) .zero).num (l.getD i .zero).frm (l.getD i .zero).num)
def kJ (l:List bI):Bool:=(aYb l.length).all (mA l)
def nE (l:List cD) (i:Nat):Bool:=lS (l.getD i .zero)&&(i==0||cJ (l.getD (i - 1) .zero).frm (l.getD (i - 1) .zero).num (l.getD i .zero).frm (l.getD i .zero).num)
def oO (l:List cD):Bool:=(aYb l.length).all (nE l)
theorem iT {p:Nat→Bool} {n:Nat} (h: ∀k,k<n→p k=true): (aYb n).all p=true:=by
 rw[aYd];intro k hk;exact h k (List.mem_range.1 hk)
theorem fW {p:Nat→Bool} {n k:Nat} (hk:k<n) (h:p k=false): (aYb n).all p=false:=by
 rw[List.all_eq_false];exact⟨k,List.mem_range.2 hk,by simp[h]⟩
def lM (p:Nat→Bool):Nat→Nat→Int
 |_,0=> -1
 |i,n+1=>if p i then i else lM p (i+1) n
theorem mJ {p:Nat→Bool}: ∀{n i k:Nat},i≤k→k<i+n→(∀j,i≤j→j<k→p j=false)→p k=true→lM p i n=k
 |0,i,k,h1,h2,_,_=>by omega
 |n+1,i,k,h1,h2,h,hp=>by
  unfold lM
  by_cases e:i=k
  · subst e;rw[aC hp]
  · rw[aB (by rw[h i (aX8 _) (by omega)];simp),mJ (n:=n) (i:=i+1) (k:=k) (by omega) (by omega) (fun j h3 h4=>h j (by omega) h4) hp]
theorem mP {p:Nat→Bool}: ∀{n i:Nat},(∀j,i≤j→j<i+n→p j=false)→lM p i n= -1
 |0,i,_=>rfl
 |n+1,i,h=>by
  unfold lM
  rw[aB (by rw[h i (aX8 _) (by omega)];simp),mP (n:=n) (i:=i+1) fun j h3 h4=>h j (by omega) (by omega)]
theorem iG (p:Nat→Bool): ∀(n i:Nat),lM p i n= -1∨ ∃k:Nat,lM p i n=k∧i≤k∧k<i+n∧p k=true∧ ∀j,i≤j→j<k→p j=false
 |0,i=> .inl rfl
 |n+1,i=>by
  unfold lM
  by_cases h:p i=true
  · rw[aC h];exact .inr ⟨i,rfl,aX8 _,by omega,h,fun j h1 h2=>by omega⟩
  · rw[aB h]
    rcases iG p n (i+1) with h1|⟨k,h1,h2,h3,h4,h5⟩
    · exact .inl h1
    · refine .inr ⟨k,h1,by omega,by omega,h4,fun j h6 h7=> ?_⟩
      by_cases e:j=i
      · subst e;simpa using h
      · exact h5 j (by omega) h7
def pC (l:List bI) (f n:Int) (i:Nat):Bool:=(l.getD i .zero).frm==f&&(l.getD i .zero).num==n
def sD (l:List cD) (f n:Int) (i:Nat):Bool:=(l.getD i .zero).frm==f&&(l.getD i .zero).num==n
def bD (l:List bI) (f n:Int):Int:=lM (pC l f n) 0 l.length
def hD (l:List cD) (f n:Int):Int:=lM (sD l f n) 0 l.length
def cp (id:Int) (n:bI):Bool:=id != n.to&&(iQ id n.frm n.to||iQ id n.to n.frm)
structure bH where
 id:Int
 time:Int
 next:Int
 held:List bI
 marks:List cD
 inbox:List bI
 deriving DecidableEq
def tX (k:bH) (i:Nat):Bool:=
 let n:=k.held.getD i .zero
 !(n.frm==k.id&&decide (k.next≤n.num))&&decide (k.time<n.til)&&cp k.id n&&decide (hD k.marks n.frm n.num<0)
def xD (k:bH) (i:Nat):Bool:=
 let m:=k.marks.getD i .zero
 !(m.frm==k.id&&decide (k.next≤m.num))&&decide (k.time<m.til)
def sU (k:bH) (i:Nat):Bool:=
 let n:=k.inbox.getD i .zero
 !(n.frm==k.id&&decide (k.next≤n.num))&&n.to==k.id&& !(decide (k.time<n.til)&&decide (hD k.marks n.frm n.num<0))
def dI (k:bH):Bool:=
 eR k.id&&iQ k.time 0 999&&iQ k.next 1 100&&decide (k.held.length≤6)&&decide (k.marks.length≤12)&&decide (k.inbox.length≤6)&&
 kJ k.held&&oO k.marks&&kJ k.inbox&&(aYb k.held.length).all (tX k)&&(aYb k.marks.length).all (xD k)&&(aYb k.inbox.length).all (sU k)
set_option linter.unusedVariables false
def aIu:Nat→Nat→List UInt8
 |0,n=>[UInt8.ofNat (48+n % 10)]
 |f+1,n=>if n<10 then [UInt8.ofNat (48+n)] else aIu f (n / 10)++[UInt8.ofNat (48+n % 10)]
def kH (n:Nat):List UInt8:=aIu n n
theorem aF4: ∀{f g n:Nat},n≤f→n≤g→aIu f n=aIu g n
 |0,0,n,_,_=>rfl
 |0,g+1,n,h,_=>by
  obtain rfl:n=0:=by omega
  rfl
 |f+1,0,n,_,h=>by
  obtain rfl:n=0:=by omega
  rfl
 |f+1,g+1,n,h1,h2=>by
  unfold aIu
  split
  · rfl
  · rw[aF4 (f:=f) (g:=g) (n:=n / 10) (by omega) (by omega)]
theorem nO {n:Nat} (h:n<10):kH n=[UInt8.ofNat (48+n)]:=by
 unfold kH
 cases n with
 |zero=>rfl
 |succ k=>unfold aIu;rw[aC h]
theorem uJ {n:Nat} (h:10≤n):kH n=kH (n / 10)++[UInt8.ofNat (48+n % 10)]:=by
 unfold kH
 cases n with
 |zero=>omega
 |succ k=>
  conv=>lhs;unfold aIu
  rw[aB (by omega),aF4 (f:=k) (g:=(k+1) / 10) (by omega) (aX8 _)]
def gR (b:UInt8):Bool:=decide (48≤b.toNat)&&decide (b.toNat≤57)
def pZ:List UInt8→Nat:=fun l=>l.foldl (fun n b=>n*10+(b.toNat - 48)) 0
theorem er (l:List UInt8) (b:UInt8):pZ (l++[b])=pZ l*10+(b.toNat - 48):=by simp[pZ]
theorem tL {d:Nat} (h:d<10): (UInt8.ofNat (48+d)).toNat=48+d:=by
 rw[UInt8.toNat_ofNat'];omega
theorem wj {d:Nat} (h:d<10):gR (UInt8.ofNat (48+d))=true:=by
 unfold gR
 rw[tL h,aX3,aD,aD];omega
theorem kv (n:Nat):pZ (kH n)=n:=by
 induction n using Nat.strongRecOn with
 |_ n ih=>
  by_cases h:n<10
  · rw[nO h]
    show 0*10+((UInt8.ofNat (48+n)).toNat - 48)=n
    rw[tL h];omega
  · rw[uJ (by omega),er,ih (n / 10) (by omega),tL (by omega)]
    omega
theorem zJ (n:Nat): ∀b∈kH n,gR b=true:=by
 induction n using Nat.strongRecOn with
 |_ n ih=>
  intro b hb
  by_cases h:n<10
  · rw[nO h] at hb
    rw[List.mem_singleton] at hb;subst hb
    exact wj h
  · rw[uJ (by omega)] at hb
    rcases List.mem_append.1 hb with hb|hb
    · exact ih (n / 10) (by omega) b hb
    · rw[List.mem_singleton] at hb;subst hb
      exact wj (Nat.mod_lt _ (by decide))
theorem aDw (n:Nat):kH n≠[]:=by
 by_cases h:n<10
 · rw[nO h];simp
 · rw[uJ (by omega)];simp
theorem aO2 (n:Nat): (kH n).getD 0 0=48→n=0:=by
 induction n using Nat.strongRecOn with
 |_ n ih=>
  intro hb
  by_cases h:n<10
  · rw[nO h] at hb
    have h1:=aA UInt8.toNat hb
    simp only[List.getD_cons_zero] at h1
    rw[tL h] at h1
    have: (48:UInt8).toNat=48:=rfl
    omega
  · rw[uJ (by omega),aX6,List.getElem?_append_left (List.length_pos_iff.2 (aDw _)),← aX6] at hb
    have:=ih (n / 10) (by omega) hb
    omega
theorem aF5: ∀(n:Nat) (l:List UInt8),l.length=n→l≠[]→(∀b∈l,gR b=true)→(l.getD 0 0=48→l.length=1)→kH (pZ l)=l
 |0,l,hn,h,_,_=>absurd (List.eq_nil_of_length_eq_zero hn) h
 |n+1,l0,hn,hne,hd,hz=>by
  obtain⟨l,b,rfl⟩: ∃l b,l0=l++[b]:=by
   rcases List.eq_nil_or_concat l0 with h|⟨L,b,h⟩
   · exact absurd h hne
   · exact⟨L,b,by rw[h,List.concat_eq_append]⟩
  have hb:=hd b (by simp)
  simp only[gR,aX3,aD] at hb
  have hbb:UInt8.ofNat (48+(b.toNat - 48))=b:=by
   apply UInt8.toNat_inj.1
   rw[UInt8.toNat_ofNat'];omega
  by_cases hl:l=[]
  · subst hl
    show kH (0*10+(b.toNat - 48))=[b]
    rw[Nat.zero_mul,Nat.zero_add,nO (by omega),hbb]
  · have hlen:0<l.length:=List.length_pos_iff.2 hl
    have hh: (l++[b]).getD 0 0=l.getD 0 0:=by
     rw[aX6,aX6,List.getElem?_append_left hlen]
    have hz2:l.getD 0 0≠48:=fun e=>by
     have:=hz (hh.trans e)
     rw[aXz] at this
     have h9:l.length+1=1:=this
     omega
    have ih2:=aF5 n l (by simpa using hn) hl (fun x hx=>hd x (List.mem_append_left _ hx)) (fun e=>absurd e hz2)
    have hv:1≤pZ l:=by
     by_cases h0:pZ l=0
     · rw[h0] at ih2
       rw[← ih2] at hz2
       exact absurd rfl hz2
     · omega
    rw[er,uJ (by omega),show(pZ l*10+(b.toNat - 48)) / 10=pZ l by omega,show(pZ l*10+(b.toNat - 48)) % 10=b.toNat - 48 by omega,ih2,hbb]
set_option linter.unusedVariables false
def cq (s:List UInt8):Bool:=s.all gR
def jT (s:List UInt8):Option Nat:=if(1≤s.length∧s.length≤5)∧ ¬(s.getD 0 0=48∧1<s.length)∧cq s=true then some (pZ s) else none
def hF (s:List UInt8):Int:=if(1≤s.length∧s.length≤4)∧cq s=true∧kH (pZ s)=s then pZ s else -1
theorem wE {s:List UInt8} (h1:1≤s.length) (hd:cq s=true):kH (pZ s)=s↔ ¬(s.getD 0 0=48∧1<s.length):=by
 have hne:s≠[]:=fun e=>by subst e;simp at h1
 have hd': ∀b∈s,gR b=true:=aYd.1 hd
 constructor
 · rintro e ⟨h2,h3⟩
   have h4:pZ s=0:=aO2 (pZ s) (by rw[e];exact h2)
   rw[h4] at e
   have:s.length=1:=by rw[← e];rfl
   omega
 · intro h
   exact aF5 s.length s rfl hne hd' fun h2=>by
    by_cases h3:1<s.length
    · exact absurd ⟨h2,h3⟩ h
    · omega
theorem yE {s:List UInt8} (h:s.length≤4):hF s=match jT s with|some n=>(n:Int)|none=> -1:=by
 unfold hF jT
 by_cases h1:1≤s.length
 · by_cases hd:cq s=true
   · by_cases hw: ¬(s.getD 0 0=48∧1<s.length)
     · rw[aC ⟨⟨h1,h⟩,hd,(wE h1 hd).2 hw⟩,aC ⟨⟨h1,by omega⟩,hw,hd⟩]
     · rw[aB (fun e=>hw ((wE h1 hd).1 e.2.2)),aB (fun e=>hw e.2.1)]
   · rw[aB (fun e=>hd e.2.1),aB (fun e=>hd e.2.2)]
 · rw[aB (fun e=>h1 e.1.1),aB (fun e=>h1 e.1.1)]
theorem uj: ∀(n:Nat) (s:List UInt8),s.length=n→(∀b∈s,gR b=true)→pZ s<10 ^ n
 |0,s,hn,_=>by rw[List.eq_nil_of_length_eq_zero hn];decide
 |n+1,s0,hn,hd=>by
  obtain⟨s,b,rfl⟩: ∃l b,s0=l++[b]:=by
   rcases List.eq_nil_or_concat s0 with h|⟨L,b,h⟩
   · rw[h] at hn;simp at hn
   · exact⟨L,b,by rw[h,List.concat_eq_append]⟩
  have hb:=hd b (by simp)
  simp only[gR,aX3,aD] at hb
  have ih:=uj n s (by simpa using hn) fun x hx=>hd x (List.mem_append_left _ hx)
  rw[er,Nat.pow_succ]
  omega
theorem aL7 {s:List UInt8} {i:Nat} (h:i<s.length):pZ (s.take (i+1))=pZ (s.take i)*10+((s.getD i 0).toNat - 48):=by
 rw[List.take_add_one,aX9 h]
 rw[show s[i]=s.getD i 0 by rw[aX6,aX9 h];rfl]
 exact er _ _
set_option linter.unusedVariables false
def cr (s:List UInt8):Nat→Nat→Option Nat
 |0,_=>none
 |f+1,i=>if i<s.length then(if s.getD i 0=58 then some i else cr s f (i+1)) else none
def uK (s:List UInt8):Option Nat:=cr s 3 0
def gX (s:List UInt8):Option (List UInt8×Nat):=
 match uK s with
 |none=>none
 |some i=>match jT (s.take i) with
  |none=>none
  |some n=>if 1≤n∧n≤60∧i+2+n≤s.length∧s.getD (i+1+n) 0=59 then some ((s.take (i+1+n)).drop (i+1),i+2+n) else none
theorem wF {s:List UInt8}: ∀{f i k:Nat},cr s f i=some k→i≤k∧k<i+f∧k<s.length∧s.getD k 0=58∧ ∀j,i≤j→j<k→s.getD j 0≠58
 |0,i,k,h=>by cases h
 |f+1,i,k,h=>by
  unfold cr at h
  split at h
  · rename_i h1
    split at h
    · rename_i h2
      cases h
      exact⟨aX8 _,by omega,h1,h2,fun j h3 h4=>by omega⟩
    · rename_i h2
      obtain⟨q1,q2,q3,q4,q5⟩:=wF h
      refine⟨by omega,by omega,q3,q4,fun j h3 h4=> ?_⟩
      by_cases e:j=i
      · subst e;exact h2
      · exact q5 j (by omega) h4
  · cases h
theorem eu {s:List UInt8}: ∀{f i k:Nat},i≤k→k<i+f→k<s.length→s.getD k 0=58→(∀j,i≤j→j<k→s.getD j 0≠58)→cr s f i=some k
 |0,i,k,h1,h2,_,_,_=>by omega
 |f+1,i,k,h1,h2,h3,h4,h5=>by
  unfold cr
  rw[aC (by omega)]
  by_cases e:i=k
  · subst e;rw[aC h4]
  · rw[aB (h5 i (aX8 _) (by omega))]
    exact eu (by omega) (by omega) h3 h4 fun j h6 h7=>h5 j (by omega) h7
theorem aB5 {s:List UInt8}: ∀{f i:Nat},(∀j,i≤j→j<i+f→j<s.length→s.getD j 0≠58)→cr s f i=none
 |0,i,_=>rfl
 |f+1,i,h=>by
  unfold cr
  split
  · rename_i h1
    rw[aB (h i (aX8 _) (by omega) h1)]
    exact aB5 fun j h2 h3=>h j (by omega) (by omega)
  · rfl
theorem mQ {s r:List UInt8} {n:Nat} (h:gX s=some (r,n)):3≤n∧n≤s.length∧n≤64∧r.length≤60∧1≤r.length:=by
 unfold gX at h
 split at h
 · cases h
 · rename_i i hi
   obtain⟨q1,q2,q3,q4,q5⟩:=wF hi
   split at h
   · cases h
   · rename_i m hm
     split at h
     · rename_i hc
       cases h
       have h1:1≤(s.take i).length:=by
        unfold jT at hm
        split at hm
        · rename_i h9;exact h9.1.1
        · cases hm
       rw[aX4] at h1
       refine⟨by omega,by omega,by omega,?_,?_⟩<;>rw[aX7,aX4]<;>omega
     · cases h
def fw:Nat→List UInt8→List (List UInt8)×Nat
 |0,_=>([],0)
 |f+1,s=>match gX s with
  |none=>([],0)
  |some (r,n)=>(r::(fw f (s.drop n)).1,n+(fw f (s.drop n)).2)
def bG (s:List UInt8):List (List UInt8)×Nat:=fw s.length s
theorem lG:gX []=none:=rfl
theorem ov: ∀{f g:Nat} {s:List UInt8},s.length≤f→s.length≤g→fw f s=fw g s
 |0,0,s,_,_=>rfl
 |0,g+1,s,h,_=>by
  obtain rfl:s=[]:=List.eq_nil_of_length_eq_zero (by omega)
  simp[fw,lG]
 |f+1,0,s,_,h=>by
  obtain rfl:s=[]:=List.eq_nil_of_length_eq_zero (by omega)
  simp[fw,lG]
 |f+1,g+1,s,h1,h2=>by
  unfold fw
  cases hr:gX s with
  |none=>rfl
  |some p=>
   obtain⟨r,n⟩:=p
   have:=mQ hr
   have e:=ov (f:=f) (g:=g) (s:=s.drop n) (by rw[aX7];omega) (by rw[aX7];omega)
   simp only[e]
theorem eD {s:List UInt8} (h:gX s=none):bG s=([],0):=by
 unfold bG
 cases s with
 |nil=>rfl
 |cons b t=>simp[fw,h]
theorem iH {s r:List UInt8} {n:Nat} (h:gX s=some (r,n)):bG s=(r::(bG (s.drop n)).1,n+(bG (s.drop n)).2):=by
 have h1:=mQ h
 unfold bG
 rw[ov (f:=s.length) (g:=(s.length - 1)+1) (aX8 _) (by omega)]
 conv=>lhs;unfold fw
 rw[h]
 simp only
 rw[ov (f:=s.length - 1) (g:=(s.drop n).length) (by rw[aX7];omega) (aX8 _)]
theorem qX: ∀(k:Nat) (s:List UInt8),s.length≤k→(bG s).2≤s.length∧(bG s).1.length≤s.length
 |0,s,h=>by
  obtain rfl:s=[]:=List.eq_nil_of_length_eq_zero (by omega)
  rw[eD lG];simp
 |k+1,s,h=>by
  cases hr:gX s with
  |none=>rw[eD hr];simp
  |some p=>
   obtain⟨r,n⟩:=p
   have h1:=mQ hr
   have ih:=qX k (s.drop n) (by rw[aX7];omega)
   rw[aX7] at ih
   rw[iH hr]
   simp only[aX1]
   omega
def dF (log:List UInt8) (forced:Int):Bool:=
 decide (log.length≤2400)&&iQ forced 0 log.length&&decide ((bG log).2=log.length)&&decide (((bG (log.take forced.toNat)).2:Int)=forced)
set_option linter.unusedVariables false
theorem uL {l:List bI} {i:Nat} {E c:Bool} (h: (!eV (l.getD i .zero)||decide ((i:Int)>0)&& !E)=c) (hE:0<i→E=cJ (l.getD (i - 1) .zero).frm (l.getD (i - 1) .zero).num (l.getD i .zero).frm (l.getD i .zero).num):mA l i= !c:=by
 subst h
 unfold mA
 by_cases h0:i=0
 · subst h0;simp
 · rw[hE (by omega)]
   have h1:decide ((i:Int)>0)=true:=decide_eq_true (by omega)
   have h2: (i==0)=false:=by simpa using h0
   rw[h1,h2,Bool.true_and,Bool.false_or,Bool.not_or,Bool.not_not,Bool.not_not]
theorem uM {l:List cD} {i:Nat} {E c:Bool} (h: (!lS (l.getD i .zero)||decide ((i:Int)>0)&& !E)=c) (hE:0<i→E=cJ (l.getD (i - 1) .zero).frm (l.getD (i - 1) .zero).num (l.getD i .zero).frm (l.getD i .zero).num):nE l i= !c:=by
 subst h
 unfold nE
 by_cases h0:i=0
 · subst h0;simp
 · rw[hE (by omega)]
   have h1:decide ((i:Int)>0)=true:=decide_eq_true (by omega)
   have h2: (i==0)=false:=by simpa using h0
   rw[h1,h2,Bool.true_and,Bool.false_or,Bool.not_or,Bool.not_not,Bool.not_not]
theorem fJ {i:Nat} (h:0<i) (hl:i≤1000000):wrap64 ((i:Int) - 1)=((i - 1:Nat):Int):=by
 rw[aF (by omega)];omega
end Go.Ab
namespace Go.Ab
open Int renaming toNat_natCast→aXy
open List renaming length_append→aXz,length_cons→aX1,length_nil→aX2,length_take→aX4,getD_eq_getElem?_getD→aX6,length_drop→aX7,getElem?_eq_getElem→aX9,getElem?_eq_some_iff→aYa,range→aYb,mem_map→aYc,all_eq_true→aYd,take_length→aYe
open Nat renaming le_of_ble_eq_true→aX0,zero_le→aX5,le_refl→aX8
open Bool renaming and_eq_true→aX3
open Go Go.RowKit
abbrev bH.V (k:bH):V:= .e (.agg [.d (.i k.id),.d (.i k.time),.d (.i k.next),.d (.sl (aI k.held)),.d (.sl (aS k.marks)),.d (.sl (aI k.inbox))])
theorem aB6 (a b:Int):decide (a≥b)= !decide (a<b):=by
 by_cases h:a<b
 · simp[h,Int.not_le.2 h]
 · simp[h,Int.not_lt.1 h]
theorem zK {k:bH} {i:Nat} {c:Bool} (h: ((k.held.getD i .zero).frm==k.id&&decide ((k.held.getD i .zero).num≥k.next)||decide ((k.held.getD i .zero).til≤k.time)|| !cp k.id (k.held.getD i .zero)||decide (hD k.marks (k.held.getD i .zero).frm (k.held.getD i .zero).num≥0))=c):tX k i= !c:=by
 subst h
 unfold tX
 simp only[aB6,Bool.not_or,Bool.not_not]
theorem zL {k:bH} {i:Nat} {c:Bool} (h: ((k.marks.getD i .zero).frm==k.id&&decide ((k.marks.getD i .zero).num≥k.next)||decide ((k.marks.getD i .zero).til≤k.time))=c):xD k i= !c:=by
 subst h
 unfold xD
 simp only[aB6,Bool.not_or,Bool.not_not]
theorem wG {k:bH} {i:Nat} {c:Bool} (h: ((k.inbox.getD i .zero).frm==k.id&&decide ((k.inbox.getD i .zero).num≥k.next)||(k.inbox.getD i .zero).to != k.id||decide ((k.inbox.getD i .zero).til>k.time)&&decide (hD k.marks (k.inbox.getD i .zero).frm (k.inbox.getD i .zero).num<0))=c):sU k i= !c:=by
 subst h
 unfold sU
 simp only[aB6,Bool.not_or,Bool.not_not,bne,gt_iff_lt]
theorem cC (k:bH):dI k=true↔(eR k.id=true∧(0≤k.time∧k.time≤999)∧(1≤k.next∧k.next≤100)∧k.held.length≤6∧k.marks.length≤12∧k.inbox.length≤6)∧(kJ k.held=true∧oO k.marks=true∧kJ k.inbox=true)∧
 (aYb k.held.length).all (tX k)=true∧(aYb k.marks.length).all (xD k)=true∧(aYb k.inbox.length).all (sU k)=true:=by
 simp only[dI,iQ,aX3,aD]
 constructor
 · rintro⟨⟨⟨⟨⟨⟨⟨⟨⟨⟨⟨h1,h2⟩,h3⟩,h4⟩,h5⟩,h6⟩,h7⟩,h8⟩,h9⟩,h10⟩,h11⟩,h12⟩
   exact⟨⟨h1,h2,h3,h4,h5,h6⟩,⟨h7,h8,h9⟩,h10,h11,h12⟩
 · rintro⟨⟨h1,h2,h3,h4,h5,h6⟩,⟨h7,h8,h9⟩,h10,h11,h12⟩
   exact⟨⟨⟨⟨⟨⟨⟨⟨⟨⟨⟨h1,h2⟩,h3⟩,h4⟩,h5⟩,h6⟩,h7⟩,h8⟩,h9⟩,h10⟩,h11⟩,h12⟩
theorem oP {k:bH} (h: ¬dI k=true):dI k=false:=by simpa using h
set_option linter.unusedVariables false
theorem aKp (n:Nat): (kH n).length≤n+1:=by
 induction n using Nat.strongRecOn with
 |_ n ih=>
  by_cases h:n<10
  · rw[nO h];simp
  · rw[uJ (by omega),aXz]
    have:=ih (n / 10) (by omega)
    simp only[aX1,aX2];omega
theorem aF6 {d:Nat} (h:d<10):u8 (wrap64 (48+(d:Int)))=UInt8.ofNat (48+d):=by
 rw[aF (by omega)]
 apply UInt8.toNat_inj.1
 have h1:=aF0 (48+(d:Int))
 rw[tL h]
 unfold jB at h1
 omega
theorem sa {s:List UInt8} {i:Nat} (h: ∀k,k<i→gR (s.getD k 0)=true) (hi:i≤s.length): ∀b∈s.take i,gR b=true:=by
 intro b hb
 obtain⟨k,hk⟩:=List.mem_iff_getElem?.1 hb
 have hlt:k<i:=by
  have:=(aYa.1 hk).1
  rw[aX4] at this;omega
 rw[List.getElem?_take_of_lt hlt] at hk
 have:=h k hlt
 rw[aX6,hk] at this
 exact this
theorem aB7 {s:List UInt8} (h: ∀k,k<s.length→gR (s.getD k 0)=true):cq s=true:=by
 have:=sa h (aX8 _)
 rw[aYe] at this
 exact aYd.2 this
theorem wl {s:List UInt8} {k:Nat} (hk:k<s.length) (h:gR (s.getD k 0)=false):cq s=false:=by
 unfold cq
 rw[List.all_eq_false]
 refine⟨s.getD k 0,?_,by rw[h];decide⟩
 rw[aX6,aX9 hk]
 exact List.getElem_mem _
theorem wm (s:List UInt8) (i:Nat):gR (s.getD i 0)=iQ (jK s i) 48 57:=by
 unfold gR iQ jK
 congr 1<;>(apply decide_eq_decide.2;omega)
theorem aF7 {s:List UInt8} {i a:Nat} (hi:i<s.length) (hd:gR (s.getD i 0)=true) (ha:pZ (s.take i)=a) (hb:a<1000000):
 wrap64 (wrap64 (10*(a:Int))+wrap64 (jB (((s.getD i 0).toNat:Int) - 48)))=(pZ (s.take (i+1)):Nat)∧wrap64 (wrap64 ((a:Int)*10)+wrap64 (jB (((s.getD i 0).toNat:Int) - 48)))=(pZ (s.take (i+1)):Nat):=by
 rw[aL7 hi,ha]
 simp only[gR,aX3,aD] at hd
 have h8:jB (((s.getD i 0).toNat:Int) - 48)=((s.getD i 0).toNat:Int) - 48:=by unfold jB;omega
 rw[h8,aF (n:=((s.getD i 0).toNat:Int) - 48) (by omega),aF (n:=10*(a:Int)) (by omega),aF (n:=(a:Int)*10) (by omega),aF (by omega),aF (by omega)]
 omega
theorem ow {s:List UInt8} {i:Nat} (h: ∀k,k<i→gR (s.getD k 0)=true) (hi:i≤s.length) (h5:i≤5):pZ (s.take i)<100000:=
 Nat.lt_of_lt_of_le (uj i (s.take i) (by rw[aX4];omega) (sa h hi)) (Nat.pow_le_pow_right (by decide) h5)
set_option linter.unusedVariables false
theorem zM (t:List UInt8): -1≤hF t∧hF t≤9999:=by
 unfold hF
 split
 · rename_i h
   have h1:=uj t.length t rfl (aYd.1 h.2.1)
   have h2:10 ^ t.length≤10 ^ 4:=Nat.pow_le_pow_right (by decide) h.1.2
   have h3: (10:Nat) ^ 4=10000:=rfl
   omega
 · omega
theorem aO3 {s:List UInt8} {i:Nat} (hc:uK s=some i):
 gX s=if 1≤hF (s.take i)∧hF (s.take i)≤60∧i+2+(hF (s.take i)).toNat≤s.length∧s.getD (i+1+(hF (s.take i)).toNat) 0=59 then some ((s.take (i+1+(hF (s.take i)).toNat)).drop (i+1),i+2+(hF (s.take i)).toNat) else none:=by
 obtain⟨q1,q2,q3,q4,q5⟩:=wF hc
 have hd:=yE (s:=s.take i) (by rw[aX4];omega)
 unfold gX
 rw[hc]
 simp only
 cases hn:jT (s.take i) with
 |none=>
  rw[hn] at hd
  simp only at hd
  rw[aB (by omega)]
 |some n=>
  rw[hn] at hd
  simp only at hd
  rw[hd]
  simp only[aXy]
  by_cases h:1≤n∧n≤60∧i+2+n≤s.length∧s.getD (i+1+n) 0=59
  · rw[aC h,aC ⟨by omega,by omega,h.2.2.1,h.2.2.2⟩]
  · rw[aB h,aB (fun e=>h ⟨by omega,by omega,e.2.2.1,e.2.2.2⟩)]
def aL8 (s:List UInt8):List UInt8:=match gX s with|some p=>p.1|none=>[]
def aDx (s:List UInt8):Nat:=match gX s with|some p=>p.2|none=>0
theorem aB8 {s:List UInt8}:aDx s=0↔gX s=none:=by
 unfold aDx
 cases h:gX s with
 |none=>simp
 |some p=>
  obtain⟨r,n⟩:=p
  have:=mQ h
  simp;omega
theorem kw {s:List UInt8} (h: ∀j,j<3→j<s.length→s.getD j 0≠58):uK s=none:=aB5 fun j _ h2 h3=>h j (by omega) h3
theorem wn {s:List UInt8} {i:Nat} (h3:i<3) (hi:i<s.length) (hc:s.getD i 0=58) (h: ∀j,j<i→s.getD j 0≠58):uK s=some i:=eu (aX5 _) (by omega) hi hc fun j _ h2=>h j h2
theorem fy {s:List UInt8} (h:uK s=none):gX s=none:=by unfold gX;rw[h]
set_option linter.unusedVariables false
def jG (t:List UInt8):Int:=match jT t with|some n=>(n:Int)|none=>0
theorem aIv (t:List UInt8):0≤jG t∧jG t≤99999:=by
 unfold jG jT
 split
 · rename_i n h
   split at h
   · rename_i hc
     cases h
     have h1:=uj t.length t rfl (aYd.1 hc.2.2)
     have h2:10 ^ t.length≤10 ^ 5:=Nat.pow_le_pow_right (by decide) hc.1.2
     have h3: (10:Nat) ^ 5=100000:=rfl
     omega
   · cases h
 · omega
theorem aO4 (s:List UInt8) (a i:Nat): (s.take (a+i)).drop a=(s.drop a).take i:=by
 rw[List.drop_take];congr 1;omega
theorem yF (s:List UInt8) (a j:Nat): (s.drop a).getD j 0=s.getD (a+j) 0:=by
 rw[aX6,aX6,List.getElem?_drop]
theorem aL9 {t:List UInt8} (h3:t.length=3) {n:Nat} (h:jT t=some n):100≤n:=by
 unfold jT at h
 split at h
 · rename_i hc
   cases h
   match t,h3 with
   | [x,y,z],_=>
    have hd:=aYd.1 hc.2.2
    have hx:=hd x (by simp)
    simp only[gR,aX3,aD] at hx
    have hx0:x≠48:=fun e=>hc.2.1 ⟨e,by simp⟩
    have hx1:x.toNat≠48:=fun e=>hx0 (UInt8.toNat_inj.1 e)
    show 100≤((0*10+(x.toNat - 48))*10+(y.toNat - 48))*10+(z.toNat - 48)
    omega
 · cases h
section
variable {s:List UInt8} {a c:Nat}
theorem yG (hk: ∀j,a≤j→j<c→s.getD j 0≠58) (h:s.length≤c∨a+3≤c):gX (s.drop a)=none:=by
 refine fy (kw fun j h3 hj=> ?_)
 rw[aX7] at hj
 rw[yF]
 exact hk (a+j) (by omega) (by omega)
theorem aR2 (ha:a≤c) (hk: ∀j,a≤j→j<c→s.getD j 0≠58) (h3:c<a+3) (hc:c<s.length) (h58:s.getD c 0=58):uK (s.drop a)=some (c - a):=by
 refine wn (by omega) (by rw[aX7];omega) (by rw[yF,show a+(c - a)=c by omega];exact h58) fun j hj=> ?_
 rw[yF]
 exact hk (a+j) (by omega) (by omega)
def aVw (s:List UInt8) (a c:Nat):Prop:= ∃n,jT ((s.take c).drop a)=some n∧1≤n∧n≤60∧c+1+n<s.length∧s.getD (c+1+n) 0=59
theorem aO5 (ha:a≤c) (hk: ∀j,a≤j→j<c→s.getD j 0≠58) (h3:c≤a+3) (hc:c<s.length) (h58:s.getD c 0=58):
 (¬aVw s a c→gX (s.drop a)=none)∧(∀n,jT ((s.take c).drop a)=some n→1≤n→n≤60→c+1+n<s.length→s.getD (c+1+n) 0=59→gX (s.drop a)=some ((s.take (c+1+n)).drop (c+1),c+2+n - a)):=by
 have hcut: (s.take c).drop a=(s.drop a).take (c - a):=by rw[← aO4,show a+(c - a)=c by omega]
 have hlen: ((s.take c).drop a).length=c - a:=by rw[aX7,aX4];omega
 by_cases h4:c=a+3
 · have hno:gX (s.drop a)=none:=yG hk (.inr (by omega))
   refine⟨fun _=>hno,fun n h1 h2 h5 h6 h7=> ?_⟩
   have:=aL9 (by rw[hlen];omega) h1
   omega
 · have hcol:=aR2 ha hk (by omega) hc h58
   have key: ∀n,jT ((s.take c).drop a)=some n→1≤n→n≤60→c+1+n<s.length→s.getD (c+1+n) 0=59→gX (s.drop a)=some ((s.take (c+1+n)).drop (c+1),c+2+n - a):=by
    intro n h1 h2 h5 h6 h7
    unfold gX
    rw[hcol]
    simp only
    rw[← hcut,h1]
    simp only
    rw[aC ⟨h2,h5,by rw[aX7];omega,by rw[yF,show a+(c - a+1+n)=c+1+n by omega];exact h7⟩]
    congr 2
    · rw[← aO4,List.drop_drop,show a+(c - a+1+n)=c+1+n by omega,show a+(c - a+1)=c+1 by omega]
    · omega
   refine⟨fun hno=> ?_,key⟩
   unfold gX
   rw[hcol]
   simp only
   rw[← hcut]
   cases hn:jT ((s.take c).drop a) with
   |none=>rfl
   |some n=>
    simp only
    rw[aB]
    rintro⟨h1,h2,h5,h6⟩
    rw[aX7] at h5
    rw[yF,show a+(c - a+1+n)=c+1+n by omega] at h6
    exact hno ⟨n,hn,h1,h2,by omega,h6⟩
end
open Go Go.RowKit Go.Sort
set_option linter.unusedVariables false
set_option linter.unusedSimpArgs false
theorem kx {P:Program} {f:FuncId} {ds:List D} {X:V} (hc:ia P f) (h: ∀(S:Nat→Prop) (w:World) (args:Array Value),aK9 P w→args.size=ds.length→(∀(i:Nat) d v,ds[i]? =some d→args[i]? =some v→DR w S d v)→
 Calls P f args w fun e w'=> ∃v S',e= .returned v∧Fr (fun _=>False) w w'∧(∀σ ι,mI σ ι w' S' X v)∧ ∀b,S' b→w.heap.size≤b∧b<w'.heap.size):Spec P f ds.length (fA 0 (ds.map Dv)) [(.t 0,.v X)]:=by
 refine⟨hc,fun ι ν S w args hgb hvr hsz hargs=>nZ (fun e w'=> ?_) (h S w args (hgb w (Fr.refl _ _)) hsz fun i d v hi hv=> ?_)⟩
 · rintro⟨v,S',rfl,hfr,hx,hS⟩
   refine⟨v,fun _=>undef,S',rfl,hfr.weak (fun _ h=>h.elim),⟨fun s k hk=> ?_,fun o k hk=> ?_,fun o b hm2=> ?_,fun o o' b hm2=> ?_,fun b hb=>(hS b hb).2⟩,fun b hb=> .inr (.inl (hS b hb).1),fun o b hm2=> ?_,fun o k k' hk hk'=> ?_⟩
   · simp only[aV] at hk
     split at hk
     · rename_i e3;cases e3;cases hk;exact hx _ _
     · cases hk
   · simp[aV] at hk
   · obtain⟨⟨k,hk,_⟩,_⟩:=hm2;simp[aV] at hk
   · obtain⟨⟨k,hk,_⟩,_⟩:=hm2;simp[aV] at hk
   · obtain⟨⟨k,hk,_⟩,_⟩:=hm2;simp[aV] at hk
   · simp[aV] at hk'
 · have hlt:i<ds.length:=(aYa.1 hi).1
   have hv2:=hargs i hlt
   rw[hv] at hv2
   cases hv2
   have hl:aV (fA 0 (ds.map Dv)) (.t i)=some (.v (Dv d)):=by
    have:=pX 0 (ds.map Dv) [] i (aX5 _) (by simpa using hlt)
    rw[List.append_nil] at this
    rw[this];simp[hi]
   exact hvr.slots i _ hl
theorem aKq (w:World) (k:Nat):Fr (fun _=>False) w (w.drewN k):=⟨rfl,rfl,rfl,aX8 _,fun _ _ _=>rfl⟩
theorem aDy (w:World) (os:Array Obj):Fr (fun _=>False) w (grow w os):=
 ⟨rfl,rfl,rfl,by simp[grow],fun b hb _=>by simp[grow,Array.getElem?_append_left hb]⟩
theorem oz {P:Program} {w:World} (h:aK9 P w) {g:Nat} (hg:P.globalNamed "internal/bytealg.MaxLen" =some g): ∃m,w.cell? ⟨g,0,none⟩=some (.int .i64 m):=by
 obtain⟨_,m,hm⟩:=h
 refine⟨m,?_⟩
 unfold World.var? at hm
 rw[hg] at hm
 simp only[Option.bind_some] at hm
 split at hm
 · rename_i cs t fz hh
   cases hm
   unfold World.cell?
   simp[hh]
 · cases hm
theorem bytesOf (l:List UInt8): (⟨l.toArray⟩:ByteArray).data.toList=l:=rfl
theorem DR.s_inv {w:World} {S:Nat→Prop} {l:List UInt8} {v:Value} (h:DR w S (.s l) v):v= .string ⟨l.toArray⟩:=by cases h;rfl
theorem DR.i_inv {w:World} {S:Nat→Prop} {n:Int} {v:Value} (h:DR w S (.i n) v):v= .int .i64 n:=by cases h;rfl
theorem aR3 (n:Nat):Lib.decDigits n=kH n:=by
 induction n using Nat.strongRecOn with
 |_ n ih=>
  unfold Lib.decDigits
  by_cases h:n<10
  · rw[dif_pos h,nO h]
  · rw[dif_neg h,uJ (by omega),ih (n / 10) (by omega)]
theorem aMa {P:Program} {f:FuncId} (hc:ia P f) (n:Nat) (hn:n≤1000000)
 (h: ∀(w:World),Lib.TabIs P w "internal/strconv.uint64pow10" .u64 Lib.pow10Tab→Calls P f #[.int .i64 n] w fun e w'=>e= .returned (.string ⟨(Lib.itoa n).toArray⟩)∧ ∃k os,w'=grow (w.drewN k) os):
 Spec P f 1 [(.t 0,.v (I n))] [(.t 0,.v (Dv (.s (kH n))))]:=by
 refine kx (ds:=[.i n]) hc fun S w args hg hsz ha=> ?_
 have ha0:=ha 0 (.i n) (args[0]'(by rw[hsz];simp)) rfl (Array.getElem?_eq_getElem (by rw[hsz];simp))
 have e:args= #[.int .i64 n]:=by
  apply Array.ext
  · rw[hsz];rfl
  · intro i h1 h2
    have:i=0:=by have:i<1:=by simpa using h2
                 omega
    subst this
    exact ha0.i_inv
 subst e
 refine nZ (fun e w'=> ?_) (h w hg.1)
 rintro⟨rfl,k,os,rfl⟩
 have e2:Lib.itoa (n:Int)=kH n:=by
  unfold Lib.itoa
  rw[aB (by omega),aXy,aR3]
 exact⟨_,fun _=>False,rfl,(aKq w k).trans (aDy _ os) (fun _ _ h=>h),fun σ ι=>by rw[e2];exact DR.s _,fun b hb=>hb.elim⟩
def bK (s:List UInt8):List UInt8:=s.takeWhile (· != 32)
def aT (s:List UInt8):List UInt8:=(s.dropWhile (· != 32)).drop 1
def gC (s:List UInt8):Bool:=s.any (· ==32)
def iX:Nat→List UInt8→List (List UInt8)
 |0,s=>[s]
 |n+1,s=>if gC s then bK s::iX n (aT s) else [s]
theorem gD: ∀(s:List UInt8),(gC s=true→Lib.indexByte s 32=(bK s).length∧s.take (bK s).length=bK s∧s.drop ((bK s).length+1)=aT s∧(bK s).length<s.length)∧(gC s=false→Lib.indexByte s 32= -1∧bK s=s∧aT s=[])
 | []=>⟨fun h=>by simp[gC] at h,fun _=>⟨rfl,rfl,rfl⟩⟩
 |b::l=>by
  obtain⟨h1,h2⟩:=gD l
  unfold Lib.indexByte
  by_cases hb:b=32
  · subst hb
    refine⟨fun _=> ?_,fun h=>by simp[gC] at h⟩
    simp[bK,aT]
  · have e1:gC (b::l)=gC l:=by simp[gC,hb]
    have e2:bK (b::l)=b::bK l:=by simp[bK,hb]
    have e3:aT (b::l)=aT l:=by simp[aT,hb]
    rw[aB (by simpa using hb),e1,e2,e3]
    refine⟨fun h=> ?_,fun h=> ?_⟩
    · obtain⟨q1,q2,q3,q4⟩:=h1 h
      rw[q1,aB (by simp)]
      refine⟨by simp,by simp[q2],by simpa using q3,by simpa using q4⟩
    · obtain⟨q1,q2,q3⟩:=h2 h
      rw[q1,aC (by decide)]
      exact⟨rfl,by rw[q2],q3⟩
theorem aR4 (s:List UInt8):Lib.cut s [32]=(bK s,aT s,gC s):=by
 obtain⟨h1,h2⟩:=gD s
 unfold Lib.cut
 rw[Lib.index_one]
 cases h:gC s with
 |true=>
  obtain⟨q1,q2,q3,q4⟩:=h1 h
  rw[q1,aC (by omega),aXy,q2]
  show(_,List.drop ((bK s).length+1) s,_)=_
  rw[q3]
 |false=>
  obtain⟨q1,q2,q3⟩:=h2 h
  rw[q1,aB (by decide),q2,q3]
theorem aB9: ∀(n:Nat) (s:List UInt8),Lib.splitK [32] 0 n s=iX n s
 |0,s=>rfl
 |n+1,s=>by
  obtain⟨h1,h2⟩:=gD s
  unfold Lib.splitK iX
  rw[Lib.index_one]
  cases h:gC s with
  |true=>
   obtain⟨q1,q2,q3,q4⟩:=h1 h
   rw[q1,aB (by simp),aC rfl,aXy,Nat.add_zero,q2]
   show _::Lib.splitK [32] 0 n (List.drop ((bK s).length+1) s)=_
   rw[q3,aB9 n]
  |false=>
   obtain⟨q1,q2,q3⟩:=h2 h
   rw[q1,aC (by decide),aB (by simp)]
theorem aO6 {P:Program} {f:FuncId} (hc:ia P f) (s:List UInt8) (hs:s.length≤1000000)
 (h: ∀(w:World),aK9 P w→Calls P f #[.string ⟨s.toArray⟩,.string ⟨#[32]⟩] w fun e w'=>e= .returned (.tuple #[.string ⟨(Lib.cut s [32]).1.toArray⟩,.string ⟨(Lib.cut s [32]).2.1.toArray⟩,.bool (Lib.cut s [32]).2.2])∧ ∃n,w'=w.drewN n):
 Spec P f 2 [(.t 0,.v (Dv (.s s))),(.t 1,.v (Dv (.s [32])))] [(.t 0,.v (.tup [.c (.d (.s (bK s))),.c (.d (.s (aT s))),.c (.d (.b (gC s)))]))]:=by
 refine kx (ds:=[.s s,.s [32]]) hc fun S w args hg hsz ha=> ?_
 have ha0:=ha 0 (.s s) (args[0]'(by rw[hsz];simp)) rfl (Array.getElem?_eq_getElem (by rw[hsz];simp))
 have ha1:=ha 1 (.s [32]) (args[1]'(by rw[hsz];simp)) rfl (Array.getElem?_eq_getElem (by rw[hsz];simp))
 have e:args= #[.string ⟨s.toArray⟩,.string ⟨#[32]⟩]:=by
  apply Array.ext
  · rw[hsz];rfl
  · intro i h1 h2
    have:i=0∨i=1:=by have:i<2:=by simpa using h2
                     omega
    rcases this with rfl|rfl
    · exact ha0.s_inv
    · exact ha1.s_inv
 subst e
 refine nZ (fun e w'=> ?_) (h w hg)
 rintro⟨rfl,n,rfl⟩
 rw[aR4]
 refine⟨_,fun _=>False,rfl,aKq w n,fun σ ι=>⟨[.string ⟨(bK s).toArray⟩,.string ⟨(aT s).toArray⟩,.bool (gC s)],rfl,rfl,fun k x u hx hu=> ?_⟩,fun b hb=>hb.elim⟩
 match k,hx,hu with
 |0,hx,hu=>cases hx;cases hu;exact DR.s _
 |1,hx,hu=>cases hx;cases hu;exact DR.s _
 |2,hx,hu=>cases hx;cases hu;exact DR.b _
 |k+3,hx,hu=>simp at hx
theorem aKr (w:World) (l:List (List UInt8)) (cs:Array Value) (e:TypeId) (cap:Nat) (hl:l.length≤cap) (hm:cap≤maxLen) (hcs: ∀(i:Nat) x,l[i]? =some x→cs[i]? =some (.string ⟨x.toArray⟩)):
 DR (w.alloc (.cells cs e)) (fun b=>b=w.heap.size) (.sl (bF l)) (.slice (some ⟨w.heap.size,0,none⟩) l.length cap):=by
 have hh: (w.alloc (.cells cs e)).heap[w.heap.size]? =some (.cells cs e (0,0)):=heap_alloc_new w _
 have:=DR.sl (w:=w.alloc (.cells cs e)) (S:=fun b=>b=w.heap.size) (bF l) (some ⟨w.heap.size,0,none⟩) cap 1 ⟨w.heap.size,0,none⟩ (fun i k=> .string ⟨(l.getD i []).toArray⟩)
  (by rw[aP];exact hl) hm (zH l) (fun _=>rfl) (fun i r k d hi hk=> ?_) (fun i r k d hi hk=> ?_)
 · rw[aP] at this;exact this
 · have hi2:i<l.length:=by have:=(aYa.1 hi).1;rwa [aP] at this
   have hr:r=[.s (l.getD i [])]:=by
    have h1:=fZ hi2
    rw[aX6,hi] at h1
    exact h1
   subst hr
   have hk0:k=0:=by have:=(aYa.1 hk).1;simp at this;exact this
   subst hk0
   refine⟨rfl,?_⟩
   rw[lO,cell_of_row _ _ _ cs e (0,0) hh]
   rw[show 0+(i*1+0)=i by omega]
   exact hcs i (l.getD i []) (by rw[aX6,aX9 hi2];rfl)
 · have hi2:i<l.length:=by have:=(aYa.1 hi).1;rwa [aP] at this
   have hr:r=[.s (l.getD i [])]:=by
    have h1:=fZ hi2
    rw[aX6,hi] at h1
    exact h1
   subst hr
   have hk0:k=0:=by have:=(aYa.1 hk).1;simp at this;exact this
   subst hk0
   cases hk
   exact DR.s _
theorem pa {s:List UInt8} (h:gC s=true): (aT s).length<s.length:=by
 obtain⟨q1,q2,q3,q4⟩:=(gD s).1 h
 rw[← q3,aX7];omega
theorem tM (s:List UInt8):Lib.count s [32]=if gC s=true then 1+Lib.count (aT s) [32] else 0:=by
 obtain⟨h1,h2⟩:=gD s
 cases h:gC s with
 |true=>
  obtain⟨q1,q2,q3,q4⟩:=h1 h
  rw[aC rfl,Lib.count_hit (i:=(bK s).length) (by simp) (by rw[Lib.index_one,q1])]
  show 1+Lib.count (List.drop ((bK s).length+1) s) _=_
  rw[q3]
 |false=>
  rw[aB (by simp),Lib.count_miss (by rw[Lib.index_one,(h2 h).1])]
theorem wo: ∀(n:Nat) (s:List UInt8),Lib.count s [32]=n→(iX n s).length=n+1
 |0,s,h=>rfl
 |n+1,s,h=>by
  rw[tM] at h
  unfold iX
  by_cases hs:gC s=true
  · rw[aC hs] at h
    rw[aC hs,aX1,wo n (aT s) (by omega)]
  · rw[aB hs] at h;omega
theorem wt: ∀(n:Nat) (s:List UInt8),(iX n s).length≤n+1∧1≤(iX n s).length
 |0,s=>⟨aX8 _,aX8 _⟩
 |n+1,s=>by
  unfold iX
  split
  · have:=wt n (aT s)
    rw[aX1];omega
  · simp
theorem aF8: ∀(n m:Nat) (s:List UInt8),s.length≤n→s.length≤m→iX n s=iX m s
 |0,0,s,_,_=>rfl
 |0,m+1,s,h,_=>by
  rw[List.eq_nil_of_length_eq_zero (Nat.le_zero.1 h)];rfl
 |n+1,0,s,_,h=>by
  rw[List.eq_nil_of_length_eq_zero (Nat.le_zero.1 h)];rfl
 |n+1,m+1,s,h1,h2=>by
  unfold iX
  by_cases hs:gC s=true
  · have:=pa hs
    rw[aC hs,aC hs,aF8 n m (aT s) (by omega) (by omega)]
  · rw[aB hs,aB hs]
theorem aO7 (n:Nat) (s:List UInt8):iX (min (n+1) (s.length+1) - 1) s=iX n s:=by
 by_cases h:n≤s.length
 · rw[show min (n+1) (s.length+1) - 1=n by omega]
 · exact aF8 _ _ s (by omega) (by omega)
def dL (s:List UInt8):List (List UInt8):=iX (Lib.count s [32]) s
theorem aUa {args:Array Value} {w:World} {S:Nat→Prop} {s:List UInt8} {rest:List D} {vs:List Value} (hsz:args.size=vs.length) (h: ∀(i:Nat) d v,rest[i]? =some d→args[i]? =some v→DR w S d v) (hl:rest.length=vs.length) (hd: ∀(i:Nat) d v,rest[i]? =some d→DR w S d v→vs[i]? =some v):args=vs.toArray:=by
 apply Array.ext
 · rw[hsz];simp
 · intro i h1 h2
   have hi:i<rest.length:=by rw[hl,← hsz];exact h1
   have h3:=hd i rest[i] args[i] (aX9 hi) (h i rest[i] args[i] (aX9 hi) (Array.getElem?_eq_getElem h1))
   rw[List.getElem_toArray]
   rw[aX9 (by simpa using h2)] at h3
   exact(Option.some.inj h3).symm
theorem sc (n:Nat) (s:List UInt8): (Lib.splitB ⟨#[32]⟩ 0 n ⟨s.toArray⟩).map (·.data.toList)=iX n s:=by
 rw[Lib.splitB_data];exact aB9 n s
theorem aCa {n:Nat} {s:List UInt8} {i:Nat} {x:List UInt8} (h: (iX n s)[i]? =some x): ((Lib.splitB ⟨#[32]⟩ 0 n ⟨s.toArray⟩).map Value.string)[i]? =some (.string ⟨x.toArray⟩):=by
 rw[← sc,List.getElem?_map] at h
 rw[List.getElem?_map]
 cases hq: (Lib.splitB ⟨#[32]⟩ 0 n ⟨s.toArray⟩)[i]? with
 |none=>rw[hq] at h;cases h
 |some b=>rw[hq] at h;cases h;rfl
theorem aIw (n:Nat) (s:List UInt8): (Lib.splitB ⟨#[32]⟩ 0 n ⟨s.toArray⟩).length=(iX n s).length:=by rw[← sc,List.length_map]
theorem aIx {P:Program} {f:FuncId} {e:TypeId} (hc:ia P f) (s:List UInt8) (hs:s.length≤1000000)
 (h: ∀(w:World),aK9 P w→Calls P f #[.string ⟨s.toArray⟩,.string ⟨#[32]⟩] w fun ex w'=>ex= .returned (.slice (some ⟨w.heap.size,0,none⟩) (Lib.count s [32]+1) (Lib.count s [32]+1))∧w'=w.alloc (.cells ((Lib.splitB ⟨#[32]⟩ 0 (Lib.count s [32]) ⟨s.toArray⟩).map Value.string).toArray e)):
 Spec P f 2 [(.t 0,.v (Dv (.s s))),(.t 1,.v (Dv (.s [32])))] [(.t 0,.v (Dv (.sl (bF (dL s)))))]:=by
 refine kx (ds:=[.s s,.s [32]]) hc fun S w args hg hsz ha=> ?_
 obtain rfl:args= #[.string ⟨s.toArray⟩,.string ⟨#[32]⟩]:=by
  refine aUa (s:=s) (vs:=[.string ⟨s.toArray⟩,.string ⟨#[32]⟩]) hsz ha rfl fun i d v hi hd=> ?_
  match i,hi with
  |0,hi=>cases hi;rw[hd.s_inv];rfl
  |1,hi=>cases hi;rw[hd.s_inv];rfl
  |k+2,hi=>simp at hi
 refine nZ (fun ex w'=> ?_) (h w hg)
 rintro⟨rfl,rfl⟩
 have hl: (dL s).length=Lib.count s [32]+1:=wo _ s rfl
 have hcl:=Lib.count_le s [32]
 refine⟨_,fun b=>b=w.heap.size,rfl,by rw[alloc_eq_grow];exact aDy w _,fun σ ι=> ?_,fun b hb=> ?_⟩
 · have:=aKr w (dL s) ((Lib.splitB ⟨#[32]⟩ 0 (Lib.count s [32]) ⟨s.toArray⟩).map Value.string).toArray e (Lib.count s [32]+1) (by omega) (by unfold maxLen;omega) fun i x hx=>by
    rw[List.getElem?_toArray];exact aCa hx
   rw[hl] at this
   exact this
 · subst hb
   refine⟨aX8 _,?_⟩
   rw[alloc_eq_grow];simp[grow]
theorem aF9 {P:Program} {f:FuncId} {e:TypeId} (hc:ia P f) (n:Nat) (s:List UInt8) (hs:s.length≤1000000) (hn:n≤1000)
 (h: ∀(w:World),aK9 P w→Calls P f #[.string ⟨s.toArray⟩,.string ⟨#[32]⟩,.int .i64 ((n+1:Nat):Int)] w fun ex w'=>ex= .returned (.slice (some ⟨w.heap.size,0,none⟩) (Lib.splitB ⟨#[32]⟩ 0 (min (n+1) (s.length+1) - 1) ⟨s.toArray⟩).length (min (n+1) (s.length+1)))∧w'=w.alloc (.cells (Lib.cellsOf (Lib.splitB ⟨#[32]⟩ 0 (min (n+1) (s.length+1) - 1) ⟨s.toArray⟩) (min (n+1) (s.length+1))) e)):
 Spec P f 3 [(.t 0,.v (Dv (.s s))),(.t 1,.v (Dv (.s [32]))),(.t 2,.v (I ((n+1:Nat):Int)))] [(.t 0,.v (Dv (.sl (bF (iX n s)))))]:=by
 refine kx (ds:=[.s s,.s [32],.i ((n+1:Nat):Int)]) hc fun S w args hg hsz ha=> ?_
 obtain rfl:args= #[.string ⟨s.toArray⟩,.string ⟨#[32]⟩,.int .i64 ((n+1:Nat):Int)]:=by
  refine aUa (s:=s) (vs:=[.string ⟨s.toArray⟩,.string ⟨#[32]⟩,.int .i64 ((n+1:Nat):Int)]) hsz ha rfl fun i d v hi hd=> ?_
  match i,hi with
  |0,hi=>cases hi;rw[hd.s_inv];rfl
  |1,hi=>cases hi;rw[hd.s_inv];rfl
  |2,hi=>cases hi;rw[hd.i_inv];rfl
  |k+3,hi=>simp at hi
 refine nZ (fun ex w'=> ?_) (h w hg)
 rintro⟨rfl,rfl⟩
 have hcl:=wt (min (n+1) (s.length+1) - 1) s
 refine⟨_,fun b=>b=w.heap.size,rfl,by rw[alloc_eq_grow];exact aDy w _,fun σ ι=> ?_,fun b hb=> ?_⟩
 · have:=aKr w (iX (min (n+1) (s.length+1) - 1) s) (Lib.cellsOf (Lib.splitB ⟨#[32]⟩ 0 (min (n+1) (s.length+1) - 1) ⟨s.toArray⟩) (min (n+1) (s.length+1))) e (min (n+1) (s.length+1)) (by omega) (by unfold maxLen;omega) fun i x hx=>by
    have h1:=aCa hx
    unfold Lib.cellsOf
    rw[List.getElem?_toArray,List.getElem?_append_left (aYa.1 h1).1]
    exact h1
   rw[← aIw,aO7] at this
   exact this
 · subst hb
   refine⟨aX8 _,?_⟩
   rw[alloc_eq_grow];simp[grow]
set_option linter.unusedVariables false
set_option linter.unusedSimpArgs false
def kV (n:bI):List UInt8:=kH n.frm.toNat++[32]++kH n.num.toNat++[32]++kH n.to.toNat++[32]++kH n.til.toNat++[32]++n.text
def gE (n:bI):List UInt8:=if eV n then kV n else []
def nF:Nat→List UInt8→List UInt8
 |0,s=>s
 |n+1,s=>aT (nF n s)
def dU (s:List UInt8) (i:Nat):Int:=hF (bK (nF i s))
def fG (n:Nat) (s:List UInt8):List Int:=(aYb n).map (dU s)
theorem bR (n:Nat) (s:List UInt8): (fG n s).length=n:=by simp[fG]
theorem aIy (n:Nat) (s:List UInt8):fG (n+1) s=fG n s++[dU s n]:=by simp[fG,List.range_succ]
theorem uX (s:List UInt8): (aT s).length≤s.length:=by
 cases h:gC s with
 |true=>exact Nat.le_of_lt (pa h)
 |false=>rw[((gD s).2 h).2.2];exact aX5 _
theorem wu (n:Nat) (s:List UInt8): (nF n s).length≤s.length:=by
 induction n with
 |zero=>exact aX8 _
 |succ n ih=>exact Nat.le_trans (uX _) ih
theorem ew (s:List UInt8): (bK s).length≤s.length:=by
 cases h:gC s with
 |true=>exact Nat.le_of_lt ((gD s).1 h).2.2.2
 |false=>rw[((gD s).2 h).2.1];exact aX8 _
def iU (l:List (List UInt8)):Bool:=l.all fun w=>(jT w).isSome
def lD (l:List (List UInt8)):List Int:=if iU l then l.map jG else []
def ct (t:List UInt8):bI:=⟨dU t 0,dU t 1,dU t 2,dU t 3,nF 4 t⟩
def eG (t:List UInt8):bI×Bool:=if t=[]∨gE (ct t)≠t then(.zero,false) else(ct t,true)
def pG (t:List UInt8):bI:=⟨jG ((iX 4 t).getD 0 []),jG ((iX 4 t).getD 1 []),jG ((iX 4 t).getD 2 []),jG ((iX 4 t).getD 3 []),(iX 4 t).getD 4 []⟩
def sd (t:List UInt8):bI×Bool:=if(iX 4 t).length≠5∨iU ((iX 4 t).take 4)=false∨eV (pG t)=false∨gE (pG t)≠t then(.zero,false) else(pG t,true)
theorem nG {w r:List UInt8} (h: ∀b∈w,b≠32):bK (w++32::r)=w∧aT (w++32::r)=r∧gC (w++32::r)=true:=by
 induction w with
 |nil=>exact⟨by simp[bK],by simp[aT],by simp[gC]⟩
 |cons b w ih=>
  have hb:b≠32:=h b (List.mem_cons_self ..)
  obtain⟨h1,h2,h3⟩:=ih fun x hx=>h x (List.mem_cons_of_mem _ hx)
  refine⟨?_,?_,?_⟩
  · rw[List.cons_append]
    have:bK (b::(w++32::r))=b::bK (w++32::r):=by simp[bK,hb]
    rw[this,h1]
  · rw[List.cons_append]
    have:aT (b::(w++32::r))=aT (w++32::r):=by simp[aT,hb]
    rw[this,h2]
  · simp[gC]
theorem vK (n:Nat): ∀b∈kH n,b≠32:=by
 intro b hb e
 have:=zJ n b hb
 subst e
 exact absurd this (by decide)
theorem bW {k:Nat}: ∀{n:Nat},n<10 ^ (k+1)→(kH n).length≤k+1:=by
 induction k with
 |zero=>
  intro n h
  rw[nO (by simpa using h)];simp
 |succ k ih=>
  intro n h
  by_cases hs:n<10
  · rw[nO hs];simp
  · rw[uJ (by omega),aXz]
    have:=ih (n:=n / 10) (by rw[Nat.pow_succ] at h;omega)
    simp;omega
theorem nH {n:Nat} (h:n<100000):jT (kH n)=some n:=by
 have hl: (kH n).length≤5:=bW (k:=4) (by simpa using h)
 have h1:1≤(kH n).length:=List.length_pos_iff.2 (aDw n)
 have hd:cq (kH n)=true:=aYd.2 (zJ n)
 unfold jT
 rw[aC ⟨⟨h1,hl⟩,(wE h1 hd).1 (by rw[kv]),hd⟩,kv]
theorem vL {n:Nat} (h:n<10000):hF (kH n)=n:=by
 have hl: (kH n).length≤4:=bW (k:=3) (by simpa using h)
 have h1:1≤(kH n).length:=List.length_pos_iff.2 (aDw n)
 unfold hF
 rw[aC ⟨⟨h1,hl⟩,aYd.2 (zJ n),by rw[kv]⟩,kv]
theorem mR {n:bI} (h:eV n=true): (0≤n.frm∧n.frm≤3)∧(0≤n.to∧n.to≤3)∧(1≤n.num∧n.num≤99)∧(1≤n.til∧n.til≤999)∧(1≤n.text.length∧n.text.length≤24):=by
 simp only[eV,eR,iQ,zI,aX3,aD] at h
 omega
theorem ik (n:bI):kV n=kH n.frm.toNat++32::(kH n.num.toNat++32::(kH n.to.toNat++32::(kH n.til.toNat++32::n.text))):=by simp[kV]
theorem aCb {n:bI} (h:eV n=true):ct (kV n)=n∧(iX 4 (kV n)).length=5∧iU ((iX 4 (kV n)).take 4)=true∧pG (kV n)=n:=by
 obtain⟨p1,p2,p3,p4,p5⟩:=mR h
 obtain⟨a1,a2,a3⟩:=nG (r:=kH n.num.toNat++32::(kH n.to.toNat++32::(kH n.til.toNat++32::n.text))) (vK n.frm.toNat)
 obtain⟨b1,b2,b3⟩:=nG (r:=kH n.to.toNat++32::(kH n.til.toNat++32::n.text)) (vK n.num.toNat)
 obtain⟨c1,c2,c3⟩:=nG (r:=kH n.til.toNat++32::n.text) (vK n.to.toNat)
 obtain⟨d1,d2,d3⟩:=nG (r:=n.text) (vK n.til.toNat)
 have hc:iX 4 (kV n)=[kH n.frm.toNat,kH n.num.toNat,kH n.to.toNat,kH n.til.toNat,n.text]:=by
  rw[ik]
  simp only[iX,a1,a2,a3,b1,b2,b3,c1,c2,c3,d1,d2,d3,if_true]
 have e: ∀{x:Int},0≤x→((x.toNat:Nat):Int)=x:=fun h=>by omega
 have v1:hF (kH n.frm.toNat)=n.frm:=by rw[vL (by omega),e (by omega)]
 have v2:hF (kH n.num.toNat)=n.num:=by rw[vL (by omega),e (by omega)]
 have v3:hF (kH n.to.toNat)=n.to:=by rw[vL (by omega),e (by omega)]
 have v4:hF (kH n.til.toNat)=n.til:=by rw[vL (by omega),e (by omega)]
 have w1:jT (kH n.frm.toNat)=some n.frm.toNat:=nH (by omega)
 have w2:jT (kH n.num.toNat)=some n.num.toNat:=nH (by omega)
 have w3:jT (kH n.to.toNat)=some n.to.toNat:=nH (by omega)
 have w4:jT (kH n.til.toNat)=some n.til.toNat:=nH (by omega)
 have u1:jG (kH n.frm.toNat)=n.frm:=by rw[jG,w1];exact e (by omega)
 have u2:jG (kH n.num.toNat)=n.num:=by rw[jG,w2];exact e (by omega)
 have u3:jG (kH n.to.toNat)=n.to:=by rw[jG,w3];exact e (by omega)
 have u4:jG (kH n.til.toNat)=n.til:=by rw[jG,w4];exact e (by omega)
 refine⟨?_,by rw[hc];rfl,?_,?_⟩
 · rw[ik]
   simp only[ct,dU,nF,a1,a2,b1,b2,c1,c2,d1,d2,v1,v2,v3,v4]
 · rw[hc]
   simp[iU,w1,w2,w3,w4]
 · simp only[pG,hc,List.getD_cons_zero,List.getD_cons_succ,u1,u2,u3,u4]
theorem aR5 (n:bI):kV n≠[]:=by
 rw[ik];simp
theorem aCc (t:List UInt8) (x:bI) (h:eV x=true) (e:kV x=t):eG t=(x,true):=by
 subst e
 unfold eG
 rw[(aCb h).1,aB]
 rintro(h1|h1)
 · exact aR5 x h1
 · exact h1 (aC h)
theorem aMb (t:List UInt8) (x:bI) (h:eV x=true) (e:kV x=t):sd t=(x,true):=by
 subst e
 obtain⟨h1,h2,h3,h4⟩:=aCb h
 unfold sd
 rw[h4,aB]
 rintro(h5|h5|h5|h5)
 · exact h5 h2
 · rw[h3] at h5;cases h5
 · rw[h] at h5;cases h5
 · exact h5 (aC h)
theorem aR6 (t:List UInt8): (∃x,eV x=true∧kV x=t∧eG t=(x,true)∧sd t=(x,true))∨(eG t=(.zero,false)∧sd t=(.zero,false)):=by
 by_cases h: ∃x,eV x=true∧kV x=t
 · obtain⟨x,h1,h2⟩:=h
   exact .inl ⟨x,h1,h2,aCc t x h1 h2,aMb t x h1 h2⟩
 · refine .inr ⟨?_,?_⟩
   · unfold eG
     rw[aC]
     by_cases h1:t=[]
     · exact .inl h1
     · refine .inr fun h2=> ?_
       unfold gE at h2
       split at h2
       · rename_i h3;exact h ⟨_,h3,h2⟩
       · exact h1 h2.symm
   · unfold sd
     rw[aC]
     by_cases h1:eV (pG t)=true
     · refine .inr (.inr (.inr fun h2=> ?_))
       rw[gE,aC h1] at h2
       exact h ⟨_,h1,h2⟩
     · exact .inr (.inr (.inl (by simpa using h1)))
theorem aGa (t:List UInt8):sd t=eG t:=by
 rcases aR6 t with⟨x,_,_,h1,h2⟩|⟨h1,h2⟩<;>rw[h1,h2]
set_option linter.unusedVariables false
set_option linter.unusedSimpArgs false
theorem aO8 {s:List UInt8} {i:Nat} (hk: ∀j,j<i→s.getD j 0≠32) (hi:i<s.length) (h:s.getD i 0=32):bK s=s.take i∧aT s=s.drop (i+1)∧gC s=true:=by
 have e:s=s.take i++32::s.drop (i+1):=by
  rw[← h,aX6,aX9 hi]
  show s=List.take i s++s[i]::List.drop (i+1) s
  rw[← List.drop_eq_getElem_cons hi,List.take_append_drop]
 have hw: ∀b∈s.take i,b≠32:=by
  intro b hb
  obtain⟨j,hj⟩:=List.mem_iff_getElem?.1 hb
  have hlt:j<i:=by
   have:=(aYa.1 hj).1
   rw[aX4] at this;omega
  rw[List.getElem?_take_of_lt hlt] at hj
  have:=hk j hlt
  rw[aX6,hj] at this
  exact this
 obtain⟨h1,h2,h3⟩:=nG (r:=s.drop (i+1)) hw
 rw[← e] at h1 h2 h3
 exact⟨h1,h2,h3⟩
theorem aMc {s:List UInt8} (hk: ∀j,j<s.length→s.getD j 0≠32):bK s=s∧aT s=[]∧gC s=false:=by
 have hn:gC s=false:=by
  unfold gC
  rw[List.any_eq_false]
  intro b hb
  obtain⟨j,hj⟩:=List.mem_iff_getElem?.1 hb
  have:=hk j (aYa.1 hj).1
  rw[aX6,hj] at this
  simpa using this
 obtain⟨q1,q2,q3⟩:=(gD s).2 hn
 exact⟨q2,q3,hn⟩
theorem aMd {l:List (List UInt8)} {i:Nat} (hi:i<l.length) (h: (jT (l.getD i [])).isSome=false):iU l=false:=by
 unfold iU
 rw[List.all_eq_false]
 refine⟨l.getD i [],?_,by rw[h];decide⟩
 rw[aX6,aX9 hi]
 exact List.getElem_mem _
theorem aIz {l:List (List UInt8)} (h: ∀i,i<l.length→(jT (l.getD i [])).isSome=true):iU l=true:=by
 unfold iU
 rw[aYd]
 intro x hx
 obtain⟨j,hj⟩:=List.mem_iff_getElem?.1 hx
 have:=h j (aYa.1 hj).1
 rw[aX6,hj] at this
 exact this
theorem aAl {l:List (List UInt8)} {i:Nat} (h:i<l.length): (l.take (i+1)).map jG=(l.take i).map jG++[jG (l.getD i [])]:=by
 rw[List.take_add_one,aX9 h,aX6,aX9 h,List.map_append]
 rfl
def mB (n:Int):List UInt8:=if n<0 then 45::kH (-n).toNat else kH n.toNat
theorem dQ {α:Type} {l:List α} {i:Nat} {z:α} (h:i<l.length):l.getD i z∈l:=by
 rw[aX6,aX9 h]
 exact List.getElem_mem _
set_option linter.unusedVariables false
set_option linter.unusedSimpArgs false
theorem ky: ∀(n:Nat) (s:List UInt8),∀x∈iX n s,x.length≤s.length
 |0,s,x,h=>by
  rw[List.mem_singleton.1 h];exact aX8 _
 |n+1,s,x,h=>by
  unfold iX at h
  by_cases hs:gC s=true
  · rw[aC hs] at h
    rcases List.mem_cons.1 h with rfl|h
    · exact ew s
    · exact Nat.le_trans (ky n _ x h) (uX s)
  · rw[aB hs] at h
    rw[List.mem_singleton.1 h];exact aX8 _
theorem yH {α:Type} {l:List α} {n i:Nat} {z:α} (h:i<n): (l.take n).getD i z=l.getD i z:=by
 rw[aX6,List.getElem?_take_of_lt h,← aX6]
theorem iM {l:List (List UInt8)} (h:iU l=true): (lD l).length=l.length:=by rw[lD,aC h,List.length_map]
theorem aGb {l:List (List UInt8)} (h:iU l=true) {i:Nat} (hi:i<l.length): (lD l).getD i 0=jG (l.getD i []):=by
 rw[lD,aC h,aX6,List.getElem?_map,aX9 hi,aX6,aX9 hi]
 rfl
theorem iV {l:List Int} {i:Nat} (h:i<l.length): (dE l).getD (i:Int).toNat []=[.i (l.getD i 0)]:=by
 rw[aXy,gZ h]
theorem aDz (l:List (List UInt8)) (n:Nat): (bF l).take n=bF (l.take n):=by simp[bF,List.map_take]
theorem aGc {n:Nat} {s:List UInt8} {i:Nat} (h:i<n): (fG n s).getD i 0=dU s i:=by
 unfold fG
 rw[aX6,List.getElem?_map,List.getElem?_range h]
 rfl
theorem wv {t:List UInt8} (h: (iX 4 t).length≠5∨iU ((iX 4 t).take 4)=false∨eV (pG t)=false∨gE (pG t)≠t):eG t=(.zero,false):=by
 rw[← aGa,sd,aC h]
theorem aMe {t:List UInt8} (h1: (iX 4 t).length=5) (h2:iU ((iX 4 t).take 4)=true) (h3:eV (pG t)=true) (h4:gE (pG t)=t):eG t=(pG t,true):=by
 rw[← aGa,sd,aB]
 rintro(h|h|h|h)
 · exact h h1
 · rw[h2] at h;cases h
 · rw[h3] at h;cases h
 · exact h h4
theorem aD0 {l:List (List UInt8)} (h:iU (l.take 4)=true) (h5:l.length=5) {i:Nat} (hi:i<4):toI (((dE (lD (l.take 4))).getD i []).getD 0 (.i 0))=jG (l.getD i []):=by
 have hl:i< (l.take 4).length:=by rw[aX4];omega
 rw[gZ (by rw[iM h];exact hl)]
 show(lD (l.take 4)).getD i 0=_
 rw[aGb h hl,yH hi]
theorem uk {s:List UInt8} {i:Nat} (hi:i<4):toI (((dE (fG 4 s)).getD i []).getD 0 (.i 0))=dU s i:=by
 rw[gZ (by rw[bR];exact hi)]
 exact aGc hi
set_option linter.unusedVariables false
set_option linter.unusedSimpArgs false
def bH.zero:bH:=⟨0,0,0,[],[],[]⟩
def dS (id:Int):bH:=if eR id then⟨id,0,1,[],[],[]⟩ else .zero
def kK (l:List bI) (n:bI):List bI:=l.takeWhile (fun x=>cJ x.frm x.num n.frm n.num)++n::l.dropWhile (fun x=>cJ x.frm x.num n.frm n.num)
def qA (l:List cD) (n:cD):List cD:=l.takeWhile (fun x=>cJ x.frm x.num n.frm n.num)++n::l.dropWhile (fun x=>cJ x.frm x.num n.frm n.num)
def kL (l:List bI) (n:bI):List bI:=l.takeWhile (fun x=> !cJ n.frm n.num x.frm x.num)++n::l.dropWhile (fun x=> !cJ n.frm n.num x.frm x.num)
def oQ (l:List cD) (n:cD):List cD:=l.takeWhile (fun x=> !cJ n.frm n.num x.frm x.num)++n::l.dropWhile (fun x=> !cJ n.frm n.num x.frm x.num)
def iB {α:Type} (l:List α) (i:Nat):List α:=l.take i++l.drop (i+1)
def kZ (k:bH) (t:Int):bH:={k with time:=t,held:=k.held.filter (fun n=>decide (t<n.til)),marks:=k.marks.filter (fun n=>decide (t<n.til))}
def bh (k:bH) (n:bI):Bool:=eV n&&decide (k.time<n.til)&&decide (bD k.held n.frm n.num<0)&&decide (bD k.inbox n.frm n.num<0)&&decide (hD k.marks n.frm n.num<0)
def fL (k:bH) (n:bI):bH×Bool:=
 if bh k n&&decide ((k.held.length:Int)+k.marks.length+1≤12) then
  (if n.to==k.id then{k with inbox:=kK k.inbox n,marks:=qA k.marks ⟨n.frm,n.num,n.til⟩} else{k with held:=kK k.held n},true)
 else(k,false)
def jD:List UInt8:=[116,105,109,101]
def jL:List UInt8:=[110,101,120,116]
def iE:List UInt8:=[111,119,110]
def gL:List UInt8:=[116,97,107,101]
def iC:List UInt8:=[104,101,108,100]
def fS:List UInt8:=[105,110,98,111,120]
def oD:List UInt8:=[108,101,116]
def nI:List UInt8:=[101,97,116]
def iL:List UInt8:=[109,97,114,107]
def lE (k:bH) (w:List UInt8) (n:Int):bH×Bool:=
 if w==jD&&decide (k.time<n) then(kZ k n,true)
 else if w==jL&&decide (k.next<n) then({k with next:=n},true)
 else(k,false)
def fT (k:bH) (w:List UInt8) (n:bI):bH×Bool:=
 if w==iE&&n.frm==k.id&&n.num==k.next then fL {k with next:=wrap64 (k.next+1)} n
 else if w==gL&&n.frm != k.id then fL k n
 else if decide (0≤bD k.held n.frm n.num)||decide (0≤bD k.inbox n.frm n.num) then(k,false)
 else if w==iC then({k with held:=kK k.held n},true)
 else if w==fS then({k with inbox:=kK k.inbox n},true)
 else(k,false)
def jA (k:bH) (w:List UInt8) (m:cD):bH×Bool:=
 if w==oD&&decide (0≤bD k.held m.frm m.num)&&(k.held.getD (bD k.held m.frm m.num).toNat .zero).til==m.til then
  ({k with held:=iB k.held (bD k.held m.frm m.num).toNat,marks:=qA k.marks m},true)
 else if w==nI&&decide (0≤bD k.inbox m.frm m.num)&&(k.inbox.getD (bD k.inbox m.frm m.num).toNat .zero).til==m.til then
  ({k with inbox:=iB k.inbox (bD k.inbox m.frm m.num).toNat},true)
 else if w==iL&&decide (hD k.marks m.frm m.num<0) then({k with marks:=qA k.marks m},true)
 else(k,false)
def three (l:List (List UInt8)):cD:=⟨jG (l.getD 0 []),jG (l.getD 1 []),jG (l.getD 2 [])⟩
def eS (k:bH) (rec:List UInt8):bH×Bool:=
 if gC rec then
  if bK rec==jD||bK rec==jL then(if(jT (aT rec)).isSome then lE k (bK rec) (jG (aT rec)) else(k,false))
  else if bK rec==iE||bK rec==gL||bK rec==iC||bK rec==fS then(if(eG (aT rec)).2 then fT k (bK rec) (eG (aT rec)).1 else(k,false))
  else if bK rec==oD||bK rec==nI||bK rec==iL then(if iU (dL (aT rec))&&(dL (aT rec)).length==3 then jA k (bK rec) (three (dL (aT rec))) else(k,false))
  else(k,false)
 else(k,false)
def lT (k:bH) (x:bH×Bool):bH×Bool:=if x.2&&dI x.1 then(x.1,true) else(k,false)
def cV (k:bH) (rec:List UInt8):bH×Bool:=if dI k then lT k (eS k rec) else(.zero,false)
def il (k:bH) (n:bI):Bool:=eV n&&decide (k.time<n.til)&&decide (bD k.held n.frm n.num<0)&&decide (hD k.marks n.frm n.num<0)&&decide (bD k.inbox n.frm n.num<0)
def nJ (k:bH) (n:bI):bH×Bool:=
 if il k n then
  if n.to != k.id then({k with held:=kL k.held n},decide (((kL k.held n).length:Int)+k.marks.length≤12))
  else({k with inbox:=kL k.inbox n,marks:=oQ k.marks ⟨n.frm,n.num,n.til⟩},decide ((k.held.length:Int)+(oQ k.marks ⟨n.frm,n.num,n.til⟩).length≤12))
 else(k,false)
def kz (k:bH) (f m:Int):bH×Bool:=
 if 0≤bD k.held f m then({k with held:=iB k.held (bD k.held f m).toNat,marks:=oQ k.marks ⟨f,m,(k.held.getD (bD k.held f m).toNat .zero).til⟩},true) else(k,false)
def lc (k:bH) (f m:Int):bH×Bool:=
 if 0≤bD k.inbox f m then({k with inbox:=iB k.inbox (bD k.inbox f m).toNat},true) else(k,false)
def iI (r:List UInt8):cD:=⟨dU r 0,dU r 1,dU r 2⟩
def ga (m:cD):List UInt8:=mB m.frm++[32]++mB m.num++[32]++mB m.til
def gS (k:bH) (rec:List UInt8):bH×Bool:=
 if bK rec==jD then(if hF (aT rec)≤k.time then(k,false) else(kZ k (hF (aT rec)),true))
 else if bK rec==iE then
  (if !(eG (aT rec)).2||(eG (aT rec)).1.frm != k.id||(eG (aT rec)).1.num != k.next then(k,false) else nJ {k with next:=wrap64 (k.next+1)} (eG (aT rec)).1)
 else if bK rec==gL then(if !(eG (aT rec)).2||(eG (aT rec)).1.frm==k.id then(k,false) else nJ k (eG (aT rec)).1)
 else if bK rec==jL then(if hF (aT rec)≤k.next then(k,false) else({k with next:=hF (aT rec)},true))
 else if bK rec==iC||bK rec==fS then
  (if !(eG (aT rec)).2||decide (bD k.held (eG (aT rec)).1.frm (eG (aT rec)).1.num≥0)||decide (bD k.inbox (eG (aT rec)).1.frm (eG (aT rec)).1.num≥0) then(k,false)
   else if bK rec==iC then({k with held:=kL k.held (eG (aT rec)).1},true) else({k with inbox:=kL k.inbox (eG (aT rec)).1},true))
 else if !(nF 3 (aT rec)==[])|| !(aT rec==ga (iI (aT rec))) then(k,false)
 else if bK rec==oD then
  (if decide (bD k.held (iI (aT rec)).frm (iI (aT rec)).num<0)||(k.held.getD (bD k.held (iI (aT rec)).frm (iI (aT rec)).num).toNat .zero).til != (iI (aT rec)).til then(k,false)
   else kz k (iI (aT rec)).frm (iI (aT rec)).num)
 else if bK rec==nI then
  (if decide (bD k.inbox (iI (aT rec)).frm (iI (aT rec)).num<0)||(k.inbox.getD (bD k.inbox (iI (aT rec)).frm (iI (aT rec)).num).toNat .zero).til != (iI (aT rec)).til then(k,false)
   else lc k (iI (aT rec)).frm (iI (aT rec)).num)
 else if bK rec==iL then(if hD k.marks (iI (aT rec)).frm (iI (aT rec)).num≥0 then(k,false) else({k with marks:=oQ k.marks (iI (aT rec))},true))
 else(k,false)
def pO (k:bH) (rec:List UInt8):bH×Bool:=if dI k then lT k (gS k rec) else(.zero,false)
def gN:bH→List (List UInt8)→bH×Bool
 |k,[]=>(k,true)
 |k,r::rs=>if(cV k r).2 then gN (cV k r).1 rs else(.zero,false)
def eI (id:Int) (recs:List (List UInt8)):bH×Bool:=if eR id then gN (dS id) recs else(.zero,false)
set_option linter.unusedVariables false
set_option linter.unusedSimpArgs false
section
variable {α:Type} {l:List α} {z:α} {i:Nat}
theorem eX (h:i<l.length):l.take (i+1)=l.take i++[l.getD i z]:=by
 rw[List.take_add_one,aX9 h,aX6,aX9 h]
 rfl
theorem aD1 {p:α→Bool} (hi:i≤l.length) (hk: ∀j,j<i→p (l.getD j z)=true) (h:i=l.length∨p (l.getD i z)=false):l.takeWhile p=l.take i∧l.dropWhile p=l.drop i:=by
 induction l generalizing i with
 |nil=>simp at hi;subst hi;simp
 |cons x l ih=>
  cases i with
  |zero=>
   have hx:p x=false:=by
    rcases h with h|h
    · simp at h
    · simpa using h
   simp[List.takeWhile,List.dropWhile,hx]
  |succ i=>
   have hx:p x=true:=by simpa using hk 0 (by omega)
   obtain⟨h1,h2⟩:=ih (i:=i) (by simpa using hi) (fun j hj=>by simpa using hk (j+1) (by omega)) (by
    rcases h with h|h
    · left;simpa using h
    · right;simpa using h)
   simp[List.takeWhile,List.dropWhile,hx,h1,h2]
def qY (p:α→Bool) (n:α) (l:List α):List α:=l.takeWhile p++n::l.dropWhile p
theorem aKs {p:α→Bool} {n:α} (hi:i≤l.length) (hk: ∀j,j<i→p (l.getD j z)=true) (h:i=l.length∨p (l.getD i z)=false):qY p n l=l.take i++n::l.drop i:=by
 obtain⟨h1,h2⟩:=aD1 hi hk h
 rw[qY,h1,h2]
theorem fV {p:α→Bool} {n:α}: (qY p n l).length=l.length+1:=by
 have h:=aA List.length (List.takeWhile_append_dropWhile (p:=p) (l:=l))
 rw[aXz] at h
 rw[qY,aXz,aX1];omega
theorem yI {p:α→Bool} {n x:α}:x∈qY p n l↔x=n∨x∈l:=by
 have h:x∈l↔x∈l.takeWhile p∨x∈l.dropWhile p:=by
  conv=>lhs;rw[← List.takeWhile_append_dropWhile (p:=p) (l:=l)]
  exact List.mem_append
 rw[qY,List.mem_append,List.mem_cons,h]
 constructor
 · rintro(h|h|h)
   · exact .inr (.inl h)
   · exact .inl h
   · exact .inr (.inr h)
 · rintro(h|h|h)
   · exact .inr (.inl h)
   · exact .inl h
   · exact .inr (.inr h)
def midW (q:α→Bool) (n:α) (l:List α):List α:=if l.any q then qY (fun x=> !q x) n l else l
theorem aMf {q:α→Bool} {n x:α} (h:l.any q=true):qY (fun x=> !q x) n (l++[x])=qY (fun x=> !q x) n l++[x]:=by
 induction l with
 |nil=>simp at h
 |cons y l ih=>
  by_cases hy:q y=true
  · simp[qY,hy]
  · have hy':q y=false:=by simpa using hy
    have h2:l.any q=true:=by simpa[hy'] using h
    have:=ih h2
    simp only[qY] at this ⊢
    simp[hy',this]
theorem aMg {q:α→Bool} {n:α} (h:l.any q=false):qY (fun x=> !q x) n l=l++[n]:=by
 induction l with
 |nil=>simp[qY]
 |cons y l ih=>
  have hy:q y=false:=by
   cases hq:q y with
   |false=>rfl
   |true=>simp[hq] at h
  have h2:l.any q=false:=by simpa[hy] using h
  have:=ih h2
  simp only[qY] at this ⊢
  simp[hy,this]
theorem aGd {q:α→Bool} {n x:α} (h:l.any q=false) (hx:q x=true):midW q n (l++[x])=midW q n l++[n]++[x]:=by
 have e1: (l++[x]).any q=true:=by simp[hx]
 have e2:midW q n l=l:=by rw[midW,h];rfl
 rw[e2,midW,aC e1]
 induction l with
 |nil=>simp[qY,hx]
 |cons y l ih=>
  have hy:q y=false:=by
   cases hq:q y with
   |false=>rfl
   |true=>simp[hq] at h
  have h2:l.any q=false:=by simpa[hy] using h
  have:=ih h2 (by simp[hx]) (by rw[midW,h2];rfl)
  simp only[qY] at this ⊢
  simp[hy] at this ⊢
  exact this
theorem aKt {q:α→Bool} {n x:α} (h:l.any q=true∨q x=false):midW q n (l++[x])=midW q n l++[x]:=by
 cases ha:l.any q with
 |true=>
  have e1: (l++[x]).any q=true:=by rw[List.any_append,ha];rfl
  rw[midW,aC e1,midW,ha,aC rfl,aMf ha]
 |false=>
  have hx:q x=false:=by
   rcases h with h|h
   · rw[ha] at h;cases h
   · exact h
  have e1: (l++[x]).any q=false:=by rw[List.any_append,ha];simp[hx]
  rw[midW,midW,e1,ha];rfl
theorem ld {q:α→Bool} {x:α}: (l++[x]).any q=(l.any q||q x):=by simp
theorem lf {q:α→Bool} {n:α}:qY (fun x=> !q x) n l=if l.any q then midW q n l else midW q n l++[n]:=by
 cases ha:l.any q with
 |true=>rw[aC rfl,midW,ha,aC rfl]
 |false=>rw[aB (by simp),midW,ha,aMg ha];rfl
theorem se {p:α→Bool} (h:i<l.length): (l.take (i+1)).filter p=(l.take i).filter p++(if p (l.getD i z) then [l.getD i z] else []):=by
 rw[eX (z:=z) h,List.filter_append]
 congr 1
 by_cases hp:p (l.getD i z)=true
 · rw[aC hp,List.filter_cons_of_pos hp];rfl
 · rw[aB hp,List.filter_cons_of_neg hp];rfl
theorem zN {p:α→Bool} (h:i<l.length) (hp:p (l.getD i z)=true): (l.take (i+1)).filter p=(l.take i).filter p++[l.getD i z]:=by
 rw[se (z:=z) h,aC hp]
theorem ey {p:α→Bool} (h:i<l.length) (hp:p (l.getD i z)=false): (l.take (i+1)).filter p=(l.take i).filter p:=by
 rw[se (z:=z) h,hp];simp
theorem ez {x:α} (h:x∈iB l i):x∈l:=by
 rcases List.mem_append.1 h with h|h
 · exact List.mem_of_mem_take h
 · exact List.mem_of_mem_drop h
end
theorem yJ (l:List bI) (n:bI):kK l n=qY (fun x=>cJ x.frm x.num n.frm n.num) n l:=rfl
theorem fa (l:List cD) (n:cD):qA l n=qY (fun x=>cJ x.frm x.num n.frm n.num) n l:=rfl
theorem zO (l:List bI) (n:bI):kL l n=qY (fun x=> !cJ n.frm n.num x.frm x.num) n l:=rfl
theorem vM (l:List cD) (n:cD):oQ l n=qY (fun x=> !cJ n.frm n.num x.frm x.num) n l:=rfl
theorem bn {b:Bool} (h:b=false): ¬b=true:=by simp[h]
theorem ww {k:bH} {n:bI} {c:Bool} (hb:k.held.length≤100000∧k.marks.length≤100000∧k.inbox.length≤100000)
 (h: (!eV n||decide (n.til≤k.time)||decide (bD k.held n.frm n.num≥0)||decide (bD k.inbox n.frm n.num≥0)||decide (hD k.marks n.frm n.num≥0)||decide (wrap64 (wrap64 ((aI k.held).length+(aS k.marks).length)+1)>12))=c):
 (bh k n&&decide ((k.held.length:Int)+k.marks.length+1≤12))= !c:=by
 subst h
 rw[aH,aR,aF (n:=(k.held.length:Int)+k.marks.length) (by omega),aF (by omega)]
 unfold bh
 simp only[aB6,Bool.not_or,Bool.not_not,gt_iff_lt]
theorem fX (l:List bI) (f m:Int): -1≤bD l f m∧bD l f m<l.length:=by
 rcases iG (pC l f m) l.length 0 with h|⟨k,h,_,h2,_⟩<;>rw[bD,h]<;>omega
theorem aCd {k:bH} {n:bI} (ha: (bh k n&&decide ((k.held.length:Int)+k.marks.length+1≤12))=true) (hto: (n.to==k.id)=true):fL k n=({k with inbox:=kK k.inbox n,marks:=qA k.marks ⟨n.frm,n.num,n.til⟩},true):=by
 unfold fL
 rw[aC ha,aC hto]
theorem aCe {k:bH} {n:bI} (ha: (bh k n&&decide ((k.held.length:Int)+k.marks.length+1≤12))=true) (hto: (n.to==k.id)=false):fL k n=({k with held:=kK k.held n},true):=by
 unfold fL
 rw[aC ha,hto]
 rfl
theorem gc (l:List bI) (x:bI):aI l++[x.row]=aI (l++[x]):=by simp[aI]
theorem gd (l:List cD) (x:cD):aS l++[x.row]=aS (l++[x]):=by simp[aS]
theorem kM (l:List bI) (a b:Nat): ∀r∈((aI l).take a).drop b,r.length=5:=fun r hr=>gI l r (List.mem_of_mem_take (List.mem_of_mem_drop hr))
theorem zP (l:List cD) (a b:Nat): ∀r∈((aS l).take a).drop b,r.length=3:=fun r hr=>lR l r (List.mem_of_mem_take (List.mem_of_mem_drop hr))
theorem vN (L:List (List D)) (i:Nat): (L.take (gB none L.length)).drop (eZ (some (i:Int)))=L.drop i:=by
 simp[gB,eZ]
theorem zQ (L:List (List D)) (i n:Nat): (L.take (gB (some (i:Int)) n)).drop (eZ none)=L.take i:=by
 simp[gB,eZ]
theorem jY (n:Nat):gB none n=n:=by simp[gB]
theorem jZ (i n:Nat):gB (some (i:Int)) n=i:=by simp[gB]
theorem kA:eZ none=0:=rfl
theorem kB (i:Nat):eZ (some (i:Int))=i:=by simp[eZ]
section
variable {τ σ':St} {rl:List (Nat×Nat)} {bor:List Nat} {r:List (dK×K)}
theorem aVx {s:Nat} {xs ys:List E} (h:aV τ (.t s)=some (.v (.tup xs))) (e:mEs τ σ' rl bor xs ys) (hr:mL τ σ' rl bor r):mL τ σ' rl bor ((.t s,.v (.tup ys))::r):=⟨⟨_,h,e⟩,hr⟩
theorem aO9:mEs τ σ' rl bor [] []:=trivial
theorem aR7 {cs ds:List C} {xs ys:List E} (e:mCs τ σ' rl bor cs ds) (h:mEs τ σ' rl bor xs ys):mEs τ σ' rl bor (.agg cs::xs) (.agg ds::ys):=⟨e,h⟩
theorem aXr {x y:D} {xs ys:List E} (e:x=y) (h:mEs τ σ' rl bor xs ys):mEs τ σ' rl bor (.c (.d x)::xs) (.c (.d y)::ys):=⟨e,h⟩
end
theorem RW.nilBox {P:Program} {cx:Cx P} {σ:St} {ι:Nat→Value} {S:Nat→Prop} {a:Act} {w:World} (h:RW cx σ ι S a w) {b j q:Nat} {ty:TypeId} {cs:List C} (e:TypeId) (es:Nat) (hs:aV σ (.o b)=some (.box ty cs)) (hq:cs[q]? =some .nil) (hj:aV σ (.o j)=none):
 ∃ι',RW cx (qM (qM σ (.o j) (.row e es [])) (.o b) (.box ty (cs.set q (.own j 0)))) ι' S a w:=by
 have hblk: ∀b,uZ (.slice none 0 0) b→some b=(none:Option Nat)∨w.heap.size≤b:=fun b hb=>by simp[uZ] at hb
 have h1:=h.turn (id:=j) (old:=none) (k:= .row e es []) (p:= .slice none 0 0) (w':=w) ⟨rfl,rfl,rfl,aX8 _,(fun _ _ _=>rfl),(fun b hb=>by cases hb),.inl hj,hblk,.inl ⟨rfl,rfl⟩⟩
 have hbj:b≠j:=fun e=>by subst e;rw[hj] at hs;cases hs
 have hs1:aV (qM σ (.o j) (.row e es [])) (.o b)=some (.box ty cs):=by rw[cT _ _ (by simpa using fun h=>hbj h.symm)];exact hs
 obtain⟨blk0,vs,hp,hh,hsz,hc⟩:=h1.vr.objs b _ hs1
 refine⟨_,h1.turn (id:=b) (old:=some blk0) (k:= .box ty (cs.set q (.own j 0))) (p:= .pointer (some ⟨blk0,0,none⟩)) (w':=w) ⟨rfl,rfl,rfl,aX8 _,(fun _ _ _=>rfl),(fun b' hb'=> ?_),.inr ⟨_,hs1,?_⟩,(fun b' hb'=> ?_),?_⟩⟩
 · cases hb'
   refine⟨⟨_,hs1,trivial⟩,?_⟩
   show uZ (if b=j then Value.slice none 0 0 else ι b) _
   rw[hp];rfl
 · show nU (if b=j then Value.slice none 0 0 else ι b) _ _ _
   rw[hp];rfl
 · simp[uZ] at hb';exact .inl (by rw[hb'])
 · refine⟨blk0,vs,rfl,hh,by rw[List.length_set];exact hsz,fun k c u hk hu=> ?_⟩
   have hjj:aV (qM (qM σ (.o j) (.row e es [])) (.o b) (.box ty (cs.set q (.own j 0)))) (.o j)=some (.row e es []):=by
    rw[cT _ _ (by simpa using hbj),dD]
   by_cases hkq:k=q
   · subst hkq
     have hlt:k<cs.length:=(aYa.1 hq).1
     rw[List.getElem?_set_self hlt] at hk
     cases hk
     have hv:u= .slice none 0 0:=hc k .nil u hq hu
     subst hv
     refine⟨rfl,.inl ⟨e,es,[],hjj,aX8 _,fun _=> ?_⟩⟩
     simp[hbj.symm]
   · rw[List.getElem?_set_ne (fun h=>hkq h.symm)] at hk
     refine CR.step ?_ (hc k c u hk hu)
     refine⟨fun _ h=>h,fun _ _=>rfl,fun o k0 ho=> ?_⟩
     by_cases eo:o=b
     · subst eo
       rw[hs1] at ho;cases ho
       refine⟨_,dD _ _ _,?_⟩
       simp only[if_true]
       rw[hp]
       simp[nU]
     · refine⟨k0,by rw[cT _ _ (by simpa using fun h=>eo h.symm)];exact ho,?_⟩
       simp only[aB eo]
       exact nU.refl' _ _
theorem SW.nilBox {P:Program} {io:List Nat} {Q:Ex→St→Prop} {σ:St} {c:Code} (b j q:Nat) {ty:TypeId} {cs:List C} (e:TypeId) (es:Nat) (hs:aV σ (.o b)=some (.box ty cs)) (hq:cs[q]? =some .nil) (hj:aV σ (.o j)=none)
 (h:nC σ [(.o j,.row e es []),(.o b,.box ty (cs.set q (.own j 0)))] (SW P io c Q)):SW P io c Q σ:=by
 rw[jW] at h
 intro cx ι S a w hio hw hf
 obtain⟨ι',hw'⟩:=hw.nilBox e es hs hq hj
 exact h cx ι' S a w hio hw' hf
set_option linter.unusedVariables false
set_option linter.unusedSimpArgs false
theorem Spec.told {P:Program} {f:FuncId} {n:Nat} {σin σout σ':St} {rl:List (Nat×Nat)} {bor:List Nat} (h:Spec P f n σin σout) (hm:mL σout σ' rl bor σ') (hm2:bd σ' rl bor=true) (h0:cE σin=[]):Spec P f n σin σ':=by
 have hno: ∀o k,aV σin (.o o)=some k→False:=fun o k hk=>by have:=fN hk;rw[h0] at this;cases this
 refine⟨h.1,fun ι ν S w args hg h1 h2 h3=>nZ (fun ex w'=> ?_) (h.2 ι ν S w args hg h1 h2 h3)⟩
 rintro⟨v,ι',S',rfl,hp⟩
 have hM:pE σout σ' rl bor:=⟨hm,hm2⟩
 refine⟨v,fun j=>ι' (kS rl j),qQ σout ι' bor S',rfl,hp.fr,vF hM (fun _ _ h=>h) hp.vr,fun b hb=> ?_,fun o b hmu=> ?_,fun o k k' hk hk'=>(hno o k hk).elim⟩
 · rcases hb with hb|⟨o,_,hb⟩
   · exact hp.rd b hb
   · exact .inr (hp.own o b hb)
 · obtain⟨⟨k',hk',hl'⟩,hb⟩:=hmu
   obtain⟨k,hk,hmk⟩:=hM.ids o k' hk'
   exact hp.own (kS rl o) b ⟨⟨k,hk,(aKc hmk).1⟩,hb⟩
theorem aXs {X Y:V} {a a' b b' c c':Int} (e0:a=a') (e1:b=b') (e2:c=c'): [(dK.t 0,K.v X),(.t 1,.v Y),(.t 2,.v (.e (.agg [.d (.i a'),.d (.i b'),.d (.i c')])))]=fA 0 [X,Y,.e (.agg [.d (.i a),.d (.i b),.d (.i c)])]:=by
 subst e0;subst e1;subst e2;rfl
theorem aD2 {l:List (List UInt8)} (h:iU l=true) {i:Nat} (hi:i<l.length):toI (((dE (lD l)).getD i []).getD 0 (.i 0))=jG (l.getD i []):=by
 rw[gZ (by rw[iM h];exact hi)]
 show(lD l).getD i 0=_
 rw[aGb h hi]
theorem zR (t:List UInt8): (eG t).1.text.length≤t.length:=by
 unfold eG
 split
 · exact aX5 _
 · exact wu 4 t
theorem count_le: ∀(n:Nat) (s:List UInt8),s.length≤n→Lib.count s [32]≤s.length
 |0,s,h=>by
  rw[List.eq_nil_of_length_eq_zero (Nat.le_zero.1 h),tM];exact aX8 _
 |n+1,s,h=>by
  rw[tM]
  by_cases hs:gC s=true
  · have:=pa hs
    have:=count_le n (aT s) (by omega)
    rw[aC hs];omega
  · rw[aB hs];exact aX5 _
theorem aMh (s:List UInt8): (dL s).length≤s.length+1:=by
 have:=count_le s.length s (aX8 _)
 have:=(wt (Lib.count s [32]) s).1
 unfold dL;omega
theorem aPa (s:List UInt8): ∀x∈dL s,x.length≤s.length:=ky _ s
section
variable {k:bH} {rec:List UInt8}
theorem aMi (h:gC rec=false):eS k rec=(k,false):=aB (bn h)
theorem wx (h:gC rec=true) (hw: (bK rec==jD||bK rec==jL)=true) (hn: (jT (aT rec)).isSome=true):eS k rec=lE k (bK rec) (jG (aT rec)):=(aC h).trans ((aC hw).trans (aC hn))
theorem fb (h:gC rec=true) (hw: (bK rec==jD||bK rec==jL)=true) (hn: (jT (aT rec)).isSome=false):eS k rec=(k,false):=(aC h).trans ((aC hw).trans (aB (bn hn)))
theorem aCf (h:gC rec=true) (hw: (bK rec==jD||bK rec==jL)=false) (hw2: (bK rec==iE||bK rec==gL||bK rec==iC||bK rec==fS)=true) (hn: (eG (aT rec)).2=true):eS k rec=fT k (bK rec) (eG (aT rec)).1:=(aC h).trans ((aB (bn hw)).trans ((aC hw2).trans (aC hn)))
theorem sE (h:gC rec=true) (hw: (bK rec==jD||bK rec==jL)=false) (hw2: (bK rec==iE||bK rec==gL||bK rec==iC||bK rec==fS)=true) (hn: (eG (aT rec)).2=false):eS k rec=(k,false):=(aC h).trans ((aB (bn hw)).trans ((aC hw2).trans (aB (bn hn))))
theorem aCg (h:gC rec=true) (hw: (bK rec==jD||bK rec==jL)=false) (hw2: (bK rec==iE||bK rec==gL||bK rec==iC||bK rec==fS)=false) (hw3: (bK rec==oD||bK rec==nI||bK rec==iL)=true) (hn: (iU (dL (aT rec))&&(dL (aT rec)).length==3)=true):
 eS k rec=jA k (bK rec) (three (dL (aT rec))):=(aC h).trans ((aB (bn hw)).trans ((aB (bn hw2)).trans ((aC hw3).trans (aC hn))))
theorem zS (h:gC rec=true) (hw: (bK rec==jD||bK rec==jL)=false) (hw2: (bK rec==iE||bK rec==gL||bK rec==iC||bK rec==fS)=false) (hw3: (bK rec==oD||bK rec==nI||bK rec==iL)=true) (hn: (iU (dL (aT rec))&&(dL (aT rec)).length==3)=false):
 eS k rec=(k,false):=(aC h).trans ((aB (bn hw)).trans ((aB (bn hw2)).trans ((aC hw3).trans (aB (bn hn)))))
theorem li (h:gC rec=true) (hw: (bK rec==jD||bK rec==jL)=false) (hw2: (bK rec==iE||bK rec==gL||bK rec==iC||bK rec==fS)=false) (hw3: (bK rec==oD||bK rec==nI||bK rec==iL)=false):
 eS k rec=(k,false):=(aC h).trans ((aB (bn hw)).trans ((aB (bn hw2)).trans (aB (bn hw3))))
theorem aCh {l:List (List UInt8)} {c:Bool} (h: (iU l&&((dE (lD l)).length:Int)==3)=c): (iU l&&l.length==3)=c:=by
 subst h
 cases hn:iU l with
 |false=>rfl
 |true=>
  rw[cM,iM hn,Bool.true_and,Bool.true_and]
  by_cases h:l.length=3
  · rw[h];rfl
  · rw[show(l.length==3)=false by simpa using h]
    symm
    rw[beq_eq_false_iff_ne]
    omega
end
def KB (k:bH):Prop:=(k.held.length≤100000∧k.marks.length≤100000∧k.inbox.length≤100000)∧(∀x∈k.held,x.text.length≤140737488355328)∧(∀x∈k.inbox,x.text.length≤140737488355328)
theorem KB.zero:KB .zero:=⟨⟨aX5 _,aX5 _,aX5 _⟩,fun x h=>(by cases h),fun x h=>(by cases h)⟩
theorem tN {l:List bI} (h:kJ l=true) {x:bI} (hx:x∈l):eV x=true:=by
 obtain⟨i,hi⟩:=List.mem_iff_getElem?.1 hx
 have hlt:=(aYa.1 hi).1
 have h1:=aYd.1 h i (List.mem_range.2 hlt)
 unfold mA at h1
 rw[aX3] at h1
 have h2:=h1.1
 rw[aX6,hi] at h2
 exact h2
theorem sf {n:bI} (h:eV n=true):n.text.length≤140737488355328:=by
 have:=mR h;omega
def KS (k:bH):Prop:=(k.held.length≤7∧k.marks.length≤13∧k.inbox.length≤7)∧(∀x∈k.held,x.text.length≤140737488355328)∧(∀x∈k.inbox,x.text.length≤140737488355328)
theorem KS.big {k:bH} (h:KS k):KB k:=⟨⟨by have:=h.1;omega,by have:=h.1;omega,by have:=h.1;omega⟩,h.2⟩
def K6 (k:bH):Prop:=(k.held.length≤6∧k.marks.length≤12∧k.inbox.length≤6)∧(∀x∈k.held,x.text.length≤140737488355328)∧(∀x∈k.inbox,x.text.length≤140737488355328)
theorem fD {k:bH} (h:dI k=true):K6 k:=by
 obtain⟨⟨_,_,_,h1,h2,h3⟩,⟨h4,h5,h6⟩,_⟩:=(cC k).1 h
 exact⟨⟨h1,h2,h3⟩,fun x hx=>sf (tN h4 hx),fun x hx=>sf (tN h6 hx)⟩
theorem K6.seven {k:bH} (h:K6 k):KS k:=⟨⟨by have:=h.1;omega,by have:=h.1;omega,by have:=h.1;omega⟩,h.2⟩
theorem yK {α:Type} (l:List α) (i:Nat): (iB l i).length≤l.length:=by
 rw[iB,aXz,aX4,aX7];omega
theorem aCi {k:bH} {n:bI} (h:K6 k) (hn:n.text.length≤140737488355328):KS (fL k n).1:=by
 unfold fL
 split
 · simp only
   split
   · refine⟨⟨by have:=h.1;simp only;omega,?_,?_⟩,h.2.1,?_⟩
     · have:=h.1;rw[fa,fV];omega
     · have:=h.1;rw[yJ,fV];omega
     · intro x hx
       rw[yJ,yI] at hx
       rcases hx with rfl|hx
       · exact hn
       · exact h.2.2 x hx
   · refine⟨⟨?_,by have:=h.1;simp only;omega,by have:=h.1;simp only;omega⟩,?_,h.2.2⟩
     · have:=h.1;rw[yJ,fV];omega
     · intro x hx
       rw[yJ,yI] at hx
       rcases hx with rfl|hx
       · exact hn
       · exact h.2.1 x hx
 · exact h.seven
theorem wy {k:bH} {t:Int} (h:K6 k):KS (kZ k t):=by
 have h1:=List.length_filter_le (fun n:bI=>decide (t<n.til)) k.held
 have h2:=List.length_filter_le (fun n:cD=>decide (t<n.til)) k.marks
 exact⟨⟨by have:=h.1;simp only[kZ];omega,by have:=h.1;simp only[kZ];omega,by have:=h.1;simp only[kZ];omega⟩,fun x hx=>h.2.1 x (List.mem_filter.1 hx).1,h.2.2⟩
theorem aD3 {k:bH} {n:bI} (h:K6 k) (hn:n.text.length≤140737488355328) {p:bI→Bool}:KS {k with held:=qY p n k.held}:=
 ⟨⟨by have:=h.1;simp only[fV];omega,by have:=h.1;simp only;omega,by have:=h.1;simp only;omega⟩,fun x hx=>by rcases yI.1 hx with rfl|hx;exact hn;exact h.2.1 x hx,h.2.2⟩
theorem aGe {k:bH} {n:bI} (h:K6 k) (hn:n.text.length≤140737488355328) {p:bI→Bool}:KS {k with inbox:=qY p n k.inbox}:=
 ⟨⟨by have:=h.1;simp only;omega,by have:=h.1;simp only;omega,by have:=h.1;simp only[fV];omega⟩,h.2.1,fun x hx=>by rcases yI.1 hx with rfl|hx;exact hn;exact h.2.2 x hx⟩
theorem aPb {k:bH} {w:List UInt8} {n:Int} (h:K6 k):KS (lE k w n).1:=by
 unfold lE
 split
 · exact wy h
 · split
   · exact h.seven
   · exact h.seven
theorem aMj {k:bH} {w:List UInt8} {n:bI} (h:K6 k) (hn:n.text.length≤140737488355328):KS (fT k w n).1:=by
 unfold fT
 split
 · exact aCi (k:={k with next:=wrap64 (k.next+1)}) h hn
 · split
   · exact aCi h hn
   · split
     · exact h.seven
     · split
       · exact aD3 h hn
       · split
         · exact aGe h hn
         · exact h.seven
theorem aMk {k:bH} {w:List UInt8} {m:cD} (h:K6 k):KS (jA k w m).1:=by
 unfold jA
 split
 · refine⟨⟨?_,?_,by have:=h.1;simp only;omega⟩,fun x hx=>h.2.1 x (ez hx),h.2.2⟩
   · have:=h.1;have h1:=yK k.held (bD k.held m.frm m.num).toNat;simp only;omega
   · have:=h.1;rw[fa,fV];omega
 · split
   · refine⟨⟨by have:=h.1;simp only;omega,by have:=h.1;simp only;omega,?_⟩,h.2.1,fun x hx=>h.2.2 x (ez hx)⟩
     have:=h.1;have h1:=yK k.inbox (bD k.inbox m.frm m.num).toNat;simp only;omega
   · split
     · exact⟨⟨by have:=h.1;simp only;omega,by have:=h.1;rw[fa,fV];omega,by have:=h.1;simp only;omega⟩,h.2⟩
     · exact h.seven
theorem pb {k:bH} {rec:List UInt8} (h:K6 k) (hr:rec.length≤1000000):KS (eS k rec).1:=by
 have ht: (eG (aT rec)).1.text.length≤140737488355328:=by
  have h1:=zR (aT rec)
  have h2:=uX rec
  omega
 unfold eS
 repeat' split
 all_goals first|exact h.seven|exact aPb h|exact aMj h ht|exact aMk h
theorem aCj {k:bH} {rec:List UInt8}:K6 (cV k rec).1:=by
 unfold cV
 split
 · rename_i hk
   unfold lT
   split
   · rename_i h
     rw[aX3] at h
     exact fD h.2
   · exact fD hk
 · exact⟨⟨aX5 _,aX5 _,aX5 _⟩,fun x h=>(by cases h),fun x h=>(by cases h)⟩
theorem lj (id:Int):K6 (dS id):=by
 unfold dS
 split<;>exact⟨⟨aX5 _,aX5 _,aX5 _⟩,fun x h=>(by cases h),fun x h=>(by cases h)⟩
set_option linter.unusedVariables false
set_option linter.unusedSimpArgs false
theorem aKu {a a':Int} (e:a=a'): [(dK.t 0,K.v (I a'))]=fA 0 [I a]:=by subst e;rfl
theorem wz {X:V} {a a' b b':Int} (e0:a=a') (e1:b=b'): [(dK.t 0,K.v X),(.t 1,.v (I a')),(.t 2,.v (I b'))]=fA 0 [X,I a,I b]:=by subst e0;subst e1;rfl
theorem aPc {X:V} {a a' b b' c c':Int} (e0:a=a') (e1:b=b') (e2:c=c'): [(dK.t 0,K.v X),(.t 1,.v (.e (.agg [.d (.i a'),.d (.i b'),.d (.i c')])))]=fA 0 [X,.e (.agg [.d (.i a),.d (.i b),.d (.i c)])]:=by subst e0;subst e1;subst e2;rfl
theorem xa {n:Nat} {s:List UInt8} {i:Nat} (hi:i<n):toI (((dE (fG n s)).getD i []).getD 0 (.i 0))=dU s i:=by
 rw[gZ (by rw[bR];exact hi)]
 exact aGc hi
theorem mD {n:Int} (h: -1≤n∧n≤9999): (mB n).length≤6:=by
 unfold mB
 by_cases h0:n<0
 · rw[aC h0]
   have:=bW (k:=3) (n:=(-n).toNat) (by simp;omega)
   simp;omega
 · rw[aB h0]
   have:=bW (k:=3) (n:=n.toNat) (by simp;omega)
   omega
theorem gT (s:List UInt8) (i:Nat): -1≤dU s i∧dU s i≤9999:=zM _
theorem fd {a:Int} {x y c:Bool} (h: (decide (a<0)||x)=c) (hx:0≤a→x=y): (decide (a<0)||y)=c:=by
 by_cases h0:0≤a
 · rw[← hx h0];exact h
 · rw[show decide (a<0)=true from decide_eq_true (by omega),Bool.true_or] at h ⊢; exact h
theorem aPd {k:bH} {n:bI} (h: (!il k n)=true):nJ k n=(k,false):=aB (by simpa using h)
theorem aPe {k:bH} {n:bI} (hb:k.held.length≤100000∧k.marks.length≤100000∧k.inbox.length≤100000) (h: (!il k n)=false) (ht: (n.to != k.id)=true):
 nJ k n=({k with held:=kL k.held n},decide (wrap64 ((aI (kL k.held n)).length+(aS k.marks).length)≤12)):=by
 have hl: (kL k.held n).length=k.held.length+1:=fV
 rw[aH,aR,aF (by omega)]
 exact(aC (by simpa using h)).trans (aC ht)
theorem aPf {k:bH} {n:bI} (hb:k.held.length≤100000∧k.marks.length≤100000∧k.inbox.length≤100000) (h: (!il k n)=false) (ht: (n.to != k.id)=false):
 nJ k n=({k with inbox:=kL k.inbox n,marks:=oQ k.marks ⟨n.frm,n.num,n.til⟩},decide (wrap64 ((aI k.held).length+(aS (oQ k.marks ⟨n.frm,n.num,n.til⟩)).length)≤12)):=by
 have hl: (oQ k.marks ⟨n.frm,n.num,n.til⟩).length=k.marks.length+1:=fV
 rw[aH,aR,aF (by omega)]
 exact(aC (by simpa using h)).trans (aB (bn ht))
theorem aR8 {k:bH} {a b:Int} (h:K6 k):KS (kz k a b).1:=by
 unfold kz
 split
 · refine⟨⟨?_,?_,by have:=h.1;simp only;omega⟩,fun x hx=>h.2.1 x (ez hx),h.2.2⟩
   · have:=h.1;have h1:=yK k.held (bD k.held a b).toNat;simp only;omega
   · have:=h.1;rw[vM,fV];omega
 · exact h.seven
theorem aR9 {k:bH} {a b:Int} (h:K6 k):KS (lc k a b).1:=by
 unfold lc
 split
 · refine⟨⟨by have:=h.1;simp only;omega,by have:=h.1;simp only;omega,?_⟩,h.2.1,fun x hx=>h.2.2 x (ez hx)⟩
   have:=h.1;have h1:=yK k.inbox (bD k.inbox a b).toNat;simp only;omega
 · exact h.seven
theorem aGf {k:bH} {n:bI} (h:K6 k) (hn:n.text.length≤140737488355328):KS (nJ k n).1:=by
 unfold nJ
 split
 · split
   · exact aD3 h hn
   · refine⟨⟨by have:=h.1;simp only;omega,?_,?_⟩,h.2.1,?_⟩
     · have:=h.1;rw[vM,fV];omega
     · have:=h.1;rw[zO,fV];omega
     · intro x hx
       rw[zO,yI] at hx
       rcases hx with rfl|hx
       · exact hn
       · exact h.2.2 x hx
 · exact h.seven
theorem nR {c:Prop} [Decidable c] {a b:bH×Bool} (ha:KS a.1) (hb:KS b.1):KS (if c then a else b).1:=by
 split
 · exact ha
 · exact hb
theorem fe {k:bH} {rec:List UInt8} (h:K6 k) (hr:rec.length≤1000000):KS (gS k rec).1:=by
 have ht: (eG (aT rec)).1.text.length≤140737488355328:=by
  have h1:=zR (aT rec)
  have h2:=uX rec
  omega
 have hm:KS {k with marks:=oQ k.marks (iI (aT rec))}:=⟨⟨by have:=h.1;simp only;omega,by have:=h.1;simp only[vM,fV];omega,by have:=h.1;simp only;omega⟩,h.2⟩
 unfold gS
 exact nR (nR h.seven (wy h)) (nR (nR h.seven (aGf (k:={k with next:=wrap64 (k.next+1)}) h ht)) (nR (nR h.seven (aGf h ht)) (nR (nR h.seven h.seven)
  (nR (nR h.seven (nR (aD3 h ht) (aGe h ht))) (nR h.seven (nR (nR h.seven (aR8 h)) (nR (nR h.seven (aR9 h)) (nR (nR h.seven hm) h.seven))))))))
set_option linter.unusedVariables false
set_option linter.unusedSimpArgs false
theorem aXt {X:V} {a a':List UInt8} (e:a=a'): [(dK.t 0,K.v X),(.t 1,.v (Dv (.s a')))]=fA 0 [X,Dv (.s a)]:=by subst e;rfl
theorem lk {a b c d:Int} (h: ¬(a=c∧b=d)):cJ a b c d= !cJ c d a b:=by
 unfold cJ
 by_cases h1:a=c
 · subst h1
   have h2: ¬b=d:=fun e=>h ⟨rfl,e⟩
   by_cases h3:b<d
   · simp[h3,Int.not_lt.2 (Int.le_of_lt h3)]
   · simp[h3,show d<b by omega]
 · by_cases h3:a<c
   · simp[h3,Int.not_lt.2 (Int.le_of_lt h3)]
     exact .inl fun e=>h1 e.symm
   · simp[h3,h1,show c<a by omega]
theorem tY {α:Type} {p q:α→Bool}: ∀{l:List α},(∀x∈l,p x=q x)→l.takeWhile p=l.takeWhile q∧l.dropWhile p=l.dropWhile q
 | [],_=>⟨rfl,rfl⟩
 |x::l,h=>by
  have hx:=h x (List.mem_cons_self ..)
  obtain⟨h1,h2⟩:=tY (l:=l) fun y hy=>h y (List.mem_cons_of_mem _ hy)
  simp only[List.takeWhile,List.dropWhile,hx,h1,h2,and_self]
theorem zT {l:List bI} {f m:Int} (h:bD l f m<0) {x:bI} (hx:x∈l): ¬(x.frm=f∧x.num=m):=by
 rintro⟨e1,e2⟩
 obtain⟨i,hi⟩:=List.mem_iff_getElem?.1 hx
 have hlt:=(aYa.1 hi).1
 rcases iG (pC l f m) l.length 0 with h1|⟨k,h1,_,h2,_⟩
 · have h3:pC l f m i=true:=by
    unfold pC
    rw[aX6,hi]
    simp[e1,e2]
   have: ∀n j,j≤i→i<j+n→lM (pC l f m) j n≠ -1:=by
    intro n
    induction n with
    |zero=>intro j h4 h5;omega
    |succ n ih=>
     intro j h4 h5
     unfold lM
     split
     · omega
     · rename_i h6
       by_cases e:j=i
       · subst e;exact absurd h3 h6
       · exact ih (j+1) (by omega) (by omega)
   exact this l.length 0 (aX5 _) (by omega) h1
 · rw[bD,h1] at h;omega
theorem im {l:List cD} {f m:Int} (h:hD l f m<0) {x:cD} (hx:x∈l): ¬(x.frm=f∧x.num=m):=by
 rintro⟨e1,e2⟩
 obtain⟨i,hi⟩:=List.mem_iff_getElem?.1 hx
 have hlt:=(aYa.1 hi).1
 rcases iG (sD l f m) l.length 0 with h1|⟨k,h1,_,h2,_⟩
 · have h3:sD l f m i=true:=by
    unfold sD
    rw[aX6,hi]
    simp[e1,e2]
   have: ∀n j,j≤i→i<j+n→lM (sD l f m) j n≠ -1:=by
    intro n
    induction n with
    |zero=>intro j h4 h5;omega
    |succ n ih=>
     intro j h4 h5
     unfold lM
     split
     · omega
     · rename_i h6
       by_cases e:j=i
       · subst e;exact absurd h3 h6
       · exact ih (j+1) (by omega) (by omega)
   exact this l.length 0 (aX5 _) (by omega) h1
 · rw[hD,h1] at h;omega
theorem zU {l:List bI} {n:bI} (h:bD l n.frm n.num<0):kL l n=kK l n:=by
 obtain⟨h1,h2⟩:=tY (p:=fun x:bI=> !cJ n.frm n.num x.frm x.num) (q:=fun x=>cJ x.frm x.num n.frm n.num) (l:=l) fun x hx=>(lk (zT h hx)).symm
 unfold kL kK
 rw[h1,h2]
theorem ip {l:List cD} {n:cD} (h:hD l n.frm n.num<0):oQ l n=qA l n:=by
 obtain⟨h1,h2⟩:=tY (p:=fun x:cD=> !cJ n.frm n.num x.frm x.num) (q:=fun x=>cJ x.frm x.num n.frm n.num) (l:=l) fun x hx=>(lk (im h hx)).symm
 unfold oQ qA
 rw[h1,h2]
theorem aMl (k:bH) (n:bI):il k n=bh k n:=by
 unfold il bh
 cases decide (bD k.inbox n.frm n.num<0)<;>cases decide (hD k.marks n.frm n.num<0)<;>simp
def qZ (k:bH) (x y:bH×Bool):Prop:=lT k x=lT k y
theorem qZ.rfl {k:bH} {x:bH×Bool}:qZ k x x:=Eq.refl _
theorem qZ.of {k:bH} {x y:bH×Bool} (h:x=y):qZ k x y:=h▸qZ.rfl
theorem rA {k:bH} {x:bH×Bool} (h:x.2=false∨dI x.1=false):lT k x=(k,false):=by
 unfold lT
 rw[aB]
 rcases h with h|h<;>simp[h]
theorem qZ.no {k:bH} {x y:bH×Bool} (h:x.2=false∨dI x.1=false) (h':y.2=false∨dI y.1=false):qZ k x y:=(rA h).trans (rA h').symm
theorem xb {k0 k:bH} (n:bI):qZ k0 (fL k n) (nJ k n):=by
 unfold fL nJ
 rw[aMl]
 cases hf:bh k n with
 |false=>exact .of (by simp)
 |true=>
  have h2:=hf
  simp only[bh,aX3,aD] at h2
  obtain⟨⟨⟨⟨_,_⟩,q1⟩,q2⟩,q3⟩:=h2
  have hm: (qA k.marks ⟨n.frm,n.num,n.til⟩).length=k.marks.length+1:=fV
  have hh: (kK k.held n).length=k.held.length+1:=fV
  rw[zU q1,zU q2,ip (n:=⟨n.frm,n.num,n.til⟩) q3,hm,hh]
  by_cases hl: (k.held.length:Int)+k.marks.length+1≤12
  · have e1:decide ((k.held.length:Int)+k.marks.length+1≤12)=true:=decide_eq_true hl
    have e2:decide (((k.held.length+1:Nat):Int)+k.marks.length≤12)=true:=decide_eq_true (by omega)
    have e3:decide ((k.held.length:Int)+((k.marks.length+1:Nat):Int)≤12)=true:=decide_eq_true (by omega)
    rw[e1,e2,e3]
    by_cases ht:n.to=k.id
    · simp[ht];exact .rfl
    · simp[ht];exact .rfl
  · have e1:decide ((k.held.length:Int)+k.marks.length+1≤12)=false:=decide_eq_false hl
    have e2:decide (((k.held.length+1:Nat):Int)+k.marks.length≤12)=false:=decide_eq_false (by omega)
    have e3:decide ((k.held.length:Int)+((k.marks.length+1:Nat):Int)≤12)=false:=decide_eq_false (by omega)
    rw[e1,e2,e3]
    refine .no (.inl (by simp)) (.inl ?_)
    by_cases ht:n.to=k.id<;>simp[ht]
theorem uY {s:List UInt8} {n:Nat} (h:jT s=some n):kH n=s∧1≤s.length∧s.length≤5:=by
 unfold jT at h
 split at h
 · rename_i hc
   cases h
   exact⟨(wE hc.1.1 hc.2.2).2 hc.2.1,hc.1.1,hc.1.2⟩
 · cases h
theorem aPg {s:List UInt8} {n:Nat} (h:jT s=some n) (h5:4<s.length):10000≤n:=by
 obtain⟨h1,_,_⟩:=uY h
 by_cases hn:n<10 ^ (3+1)
 · have:=bW hn
   rw[h1] at this;omega
 · simpa using hn
theorem xd {s:List UInt8} {n:Nat} (h:jT s=some n) (hn:n<10000):hF s=n:=by
 have hl:s.length≤4:=by
  by_cases h5:4<s.length
  · have:=aPg h h5;omega
  · omega
 rw[yE hl,h]
theorem aCk {s:List UInt8} (h:jT s=none):hF s= -1:=by
 by_cases hl:s.length≤4
 · rw[yE hl,h]
 · unfold hF
   rw[aB (by omega)]
theorem aCl {s:List UInt8} (h:4<s.length):hF s= -1:=by
 unfold hF
 rw[aB (by omega)]
theorem aGg {k:bH} {n:Int} (h:999<n):dI (kZ k n)=false:=by
 cases hk:dI (kZ k n) with
 |false=>rfl
 |true=>
  obtain⟨⟨_,⟨_,h2⟩,_⟩,_⟩:=(cC _).1 hk
  simp only[kZ] at h2
  omega
theorem aPh {k:bH} {n:Int} (h:100<n):dI {k with next:=n}=false:=by
 cases hk:dI {k with next:=n} with
 |false=>rfl
 |true=>
  obtain⟨⟨_,_,⟨_,h2⟩,_⟩,_⟩:=(cC _).1 hk
  simp only at h2
  omega
theorem sF {s:List UInt8} {n:Nat} (h:jT s=some n):jG s=n:=by rw[jG,h]
theorem aI0 {k:bH} (hk:dI k=true) (r:List UInt8):qZ k (if(jT r).isSome then lE k jD (jG r) else(k,false)) (if hF r≤k.time then(k,false) else(kZ k (hF r),true)):=by
 obtain⟨⟨_,⟨t0,t1⟩,_⟩,_⟩:=(cC _).1 hk
 cases h:jT r with
 |none=>
  rw[aCk h,aB (show ¬((none:Option Nat).isSome=true) by simp),aC (show(-1:Int)≤k.time by omega)]
  exact .rfl
 |some n=>
  rw[sF h,aC (show(some n).isSome=true from rfl)]
  by_cases hn:n<10000
  · rw[xd h hn]
    by_cases ht:k.time<n
    · rw[aB (by omega)]
      exact .of (aC (by simp[ht]))
    · rw[aC (by omega)]
      exact .of ((aB (by simp[ht])).trans (aB (by simp[jD,jL])))
  · have hl:hF r= -1:=aCl (by
     by_cases h5:4<r.length
     · exact h5
     · have:=uY h
       have h6:=yE (s:=r) (by omega)
       rw[h] at h6
       have h7:=zM r
       simp only at h6
       omega)
    rw[hl,aC (by omega),lE,aC (by simp;omega)]
    exact .no (.inr (aGg (by omega))) (.inl rfl)
theorem aI1 {k:bH} (hk:dI k=true) (r:List UInt8):qZ k (if(jT r).isSome then lE k jL (jG r) else(k,false)) (if hF r≤k.next then(k,false) else({k with next:=hF r},true)):=by
 obtain⟨⟨_,_,⟨t0,t1⟩,_⟩,_⟩:=(cC _).1 hk
 cases h:jT r with
 |none=>
  rw[aCk h,aB (show ¬((none:Option Nat).isSome=true) by simp),aC (show(-1:Int)≤k.next by omega)]
  exact .rfl
 |some n=>
  rw[sF h,aC (show(some n).isSome=true from rfl)]
  have e1: (jL==jD)=false:=by decide
  by_cases hn:n<10000
  · rw[xd h hn]
    by_cases ht:k.next<n
    · rw[aB (by omega)]
      exact .of ((aB (by simp[e1])).trans (aC (by simp[ht])))
    · rw[aC (by omega)]
      exact .of ((aB (by simp[e1])).trans (aB (by simp[ht])))
  · have hl:hF r= -1:=aCl (by
     by_cases h5:4<r.length
     · exact h5
     · have:=uY h
       have h6:=yE (s:=r) (by omega)
       rw[h] at h6
       have h7:=zM r
       simp only at h6
       omega)
    rw[hl,aC (by omega),lE,aB (by simp[e1]),aC (by simp;omega)]
    exact .no (.inr (aPh (by omega))) (.inl rfl)
theorem aMm {k:bH} (x:bI×Bool):qZ k (if x.2 then fT k iE x.1 else(k,false)) (if !x.2||x.1.frm != k.id||x.1.num != k.next then(k,false) else nJ {k with next:=wrap64 (k.next+1)} x.1):=by
 obtain⟨n,b⟩:=x
 cases b with
 |false=>exact .of (by simp)
 |true=>
  rw[aC (show(n,true).2=true from rfl)]
  show qZ k (fT k iE n) (if(!true)||n.frm != k.id||n.num != k.next then(k,false) else nJ {k with next:=wrap64 (k.next+1)} n)
  by_cases h:n.frm=k.id∧n.num=k.next
  · have hL:fT k iE n=fL {k with next:=wrap64 (k.next+1)} n:=aC (by simp[h])
    rw[hL,aB (by simp[h])]
    exact xb n
  · have hL:fT k iE n=(k,false):=by
     refine(aB (by simp;exact fun a b=>h ⟨a,b⟩)).trans ((aB (by simp[iE,gL])).trans ?_)
     split
     · rfl
     · simp[iE,iC,fS]
    have hR: ((!true)||n.frm != k.id||n.num != k.next)=true:=by
     by_cases h1:n.frm=k.id
     · have h2: ¬n.num=k.next:=fun h2=>h ⟨h1,h2⟩
       simp[h2]
     · simp[h1]
    rw[hL,aC hR]
    exact .rfl
theorem aGh {k:bH} (x:bI×Bool):qZ k (if x.2 then fT k gL x.1 else(k,false)) (if !x.2||x.1.frm==k.id then(k,false) else nJ k x.1):=by
 obtain⟨n,b⟩:=x
 cases b with
 |false=>exact .of (by simp)
 |true=>
  rw[aC (show(n,true).2=true from rfl)]
  show qZ k (fT k gL n) (if(!true)||n.frm==k.id then(k,false) else nJ k n)
  by_cases h:n.frm=k.id
  · have hL:fT k gL n=(k,false):=by
     refine(aB (by simp[gL,iE])).trans ((aB (by simp[h])).trans ?_)
     split
     · rfl
     · simp[gL,iC,fS]
    rw[hL,aC (by simp[h])]
    exact .rfl
  · have hL:fT k gL n=fL k n:=(aB (by simp[gL,iE])).trans (aC (by simp[h]))
    rw[hL,aB (by simp[h])]
    exact xb n
theorem aI2 {k:bH} (w:List UInt8) (hw:w=iC∨w=fS) (x:bI×Bool):qZ k (if x.2 then fT k w x.1 else(k,false))
 (if !x.2||decide (bD k.held x.1.frm x.1.num≥0)||decide (bD k.inbox x.1.frm x.1.num≥0) then(k,false)
  else if w==iC then({k with held:=kL k.held x.1},true) else({k with inbox:=kL k.inbox x.1},true)):=by
 obtain⟨n,b⟩:=x
 cases b with
 |false=>exact .of (by simp)
 |true=>
  have e1: (w==iE)=false:=by rcases hw with rfl|rfl<;>decide
  have e2: (w==gL)=false:=by rcases hw with rfl|rfl<;>decide
  rw[aC (show(n,true).2=true from rfl)]
  show qZ k (fT k w n) (if(!true)||decide (bD k.held n.frm n.num≥0)||decide (bD k.inbox n.frm n.num≥0) then(k,false)
   else if w==iC then({k with held:=kL k.held n},true) else({k with inbox:=kL k.inbox n},true))
  by_cases h:0≤bD k.held n.frm n.num∨0≤bD k.inbox n.frm n.num
  · have hL:fT k w n=(k,false):=(aB (by simp[e1])).trans ((aB (by simp[e2])).trans (aC (by simpa using h)))
    rw[hL,aC (by simpa using h)]
    exact .rfl
  · have h1:bD k.held n.frm n.num<0:=by omega
    have h2:bD k.inbox n.frm n.num<0:=by omega
    have h3: ¬(decide (0≤bD k.held n.frm n.num)||decide (0≤bD k.inbox n.frm n.num))=true:=by simpa using h
    have h4: ¬((!true)||decide (bD k.held n.frm n.num≥0)||decide (bD k.inbox n.frm n.num≥0))=true:=by simpa using h
    rw[aB h4]
    rcases hw with rfl|rfl
    · have hL:fT k iC n=({k with held:=kK k.held n},true):=(aB (by simp[e1])).trans ((aB (by simp[e2])).trans ((aB h3).trans (aC (by decide))))
      rw[hL,aC (by decide),zU h1]
      exact .rfl
    · have hL:fT k fS n=({k with inbox:=kK k.inbox n},true):=(aB (by simp[e1])).trans ((aB (by simp[e2])).trans ((aB h3).trans ((aB (by decide)).trans (aC (by decide)))))
      rw[hL,aB (by decide),zU h2]
      exact .rfl
end Go.Ab
