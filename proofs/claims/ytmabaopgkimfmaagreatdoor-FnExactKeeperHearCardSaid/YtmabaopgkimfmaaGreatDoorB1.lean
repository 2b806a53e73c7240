/- Plain functions, and contracts of the functions that the law reaches. -/
import Derived.Laws.StructEq
import Derived.Sort.Grow
import Derived.Deep.Draws
import Derived.Lib.Split
import Derived.Lib.IndexMore
import Derived.Lib.IndexBytes
import Derived.Lib.CountLaws
import Derived.Test.YtmabaopgkimfmaaGreatDoorB0
set_option maxHeartbeats 12800000
namespace Go.Ab
open Int renaming toNat_natCast→aVr
open Nat renaming le_of_ble_eq_true→aVs,zero_le→aVv,le_refl→aVz
open List renaming length_append→aVt,length_cons→aVw,length_nil→aVx,getD_eq_getElem?_getD→aVy,length_take→aV0,getElem?_eq_getElem→aV1,getElem?_eq_some_iff→aV2,take_length→aV3,length_drop→aV4,mem_map→aV5,mem_cons→aV6,range→aV7,all_eq_true→aV8,length_set→aV9,mem_singleton→aWa,replicate→aWb
open Bool renaming and_eq_true→aVu,or_eq_true→aWc
open Go Go.RowKit
set_option linter.unusedVariables false
set_option linter.unusedSimpArgs false
def xK:D→Int| .i n=>n|_=>0
def toU:D→Int| .u n=>n|_=>0
def toB:D→Bool| .b x=>x|_=>false
def yk:D→List UInt8| .s l=>l|_=>[]
def toSl:D→List (List D)| .sl r=>r|_=>[]
def aTi (z:C) (d:D):D:=match z with
 | .d (.i _)=> .i (xK d)
 | .d (.u _)=> .u (toU d)
 | .d (.b _)=> .b (toB d)
 | .d (.s _)=> .s (yk d)
 | .nil=> .sl (toSl d)
 |_=>d
def yT:List C→List D→Nat→List D
 | [],_,_=>[]
 |z::zs,cs,k=>aTi z (cs.getD k (.i 0))::yT zs cs (k+1)
def iy (ti:TI) (l:List D):Option V:=if ti.kind.agg then some (.e (.agg (l.map C.d))) else match l with|d::_=>some (Dv d)| []=>none
def aGi (T:gJ) (σ:St) (t:TypeId):V→Option (Prop×List (cL×Option K)×V)
 | .e (.c (.pe ob n i k))=>match T t,aQ σ (.o ob) with
  |some ti,some (.row e es rows)=>match iy ti (yT ti.zero (rows.getD i []) k) with
   |some X=>some ((rows.length=n∧i<n)∧k+ti.size≤(rows.getD i []).length∧((rows.getD i []).drop k).take ti.size=yT ti.zero (rows.getD i []) k,[(.o ob,some (.row e es rows))],X)
   |none=>none
  |_,_=>none
 | .e (.c (.rp cs))=>match T t with
  |some ti=>match iy ti (yT ti.zero cs 0) with
   |some X=>some (ti.size≤cs.length∧cs.take ti.size=yT ti.zero cs 0,[],X)
   |none=>none
  |none=>none
 |X=>ip T σ t X
theorem oe {ti:TI} {l:List D} {X:V} (h:iy ti l=some X): (ti.kind.agg=true∧X= .e (.agg (l.map C.d)))∨(ti.kind.agg=false∧ ∃d r,l=d::r∧X=Dv d):=by
 unfold iy at h
 split at h
 · rename_i ha;cases h;exact .inl ⟨ha,rfl⟩
 · rename_i ha
   split at h
   · cases h;exact .inr ⟨by simpa using ha,_,_,rfl,rfl⟩
   · cases h
theorem aGj {P:Program} {T:gJ} (hT:eC P T) {σ:St} {t:TypeId} {X:V} {p:Prop} {R:List (cL×Option K)} {Y:V} (h:aGi T σ t X=some (p,R,Y)) (hp:p): ∃q,ip T σ t X=some (q,R,Y)∧q:=by
 have hd: ∀(l:List D) (k n:Nat) (m:List D) (d:D) (r:List D),0<n→k+n≤l.length→(l.drop k).take n=m→m=d::r→l.getD k (.i 0)=d∧k<l.length:=by
  intro l k n m d r hn hk h1 h2
  subst h1
  cases n with
  |zero=>omega
  |succ n=>
   have hk':k<l.length:=by omega
   rw[List.drop_eq_getElem_cons hk',List.take_succ_cons] at h2
   cases h2
   exact⟨by rw[aVy,aV1 hk'];rfl,hk'⟩
 unfold aGi at h
 split at h
 · rename_i ob n i k
   split at h<;>try(cases h;done)
   rename_i ti e es rows ht hl
   split at h<;>try(cases h;done)
   rename_i Z hz
   cases h
   obtain⟨⟨h1,h2⟩,h3,h4⟩:=hp
   simp only[ip,ht,hl]
   rcases oe hz with⟨ha,rfl⟩|⟨ha,d,r,hm,rfl⟩
   · rw[aC ha]
     refine⟨_,by rw[h4],?_⟩;exact⟨h1,h2,h3⟩
   · rw[aB (by simp[ha])]
     obtain⟨q1,q2⟩:=hd _ _ _ _ d r (hT t ti ht).pos h3 h4 hm
     refine⟨_,by rw[q1],?_⟩;exact⟨h1,h2,q2⟩
 · rename_i cs
   split at h<;>try(cases h;done)
   rename_i ti ht
   split at h<;>try(cases h;done)
   rename_i Z hz
   cases h
   obtain⟨h3,h4⟩:=hp
   simp only[ip,ht]
   rcases oe hz with⟨ha,rfl⟩|⟨ha,d,r,hm,rfl⟩
   · rw[aC ha]
     refine⟨_,by rw[h4],?_⟩;exact h3
   · rw[aB (by simp[ha])]
     obtain⟨q1,q2⟩:=hd cs 0 _ _ d r (hT t ti ht).pos (by simpa using h3) (by simpa using h4) hm
     refine⟨_,by rw[q1],?_⟩;exact q2
 · exact⟨p,h,hp⟩
theorem aJm {P:Program} {o:Oper} {σ:St} {x:Operand} {d:Option Tmp} {f g:V→Option (Prop×List (cL×Option K)×V)} (hfg: ∀X p R Y,g X=some (p,R,Y)→p→ ∃q,f X=some (q,R,Y)∧q)
 (h:kK P o σ (iF σ x d f)):kK P o σ (iF σ x d g):=by
 intro p R W hg hp
 unfold iF at hg
 split at hg<;>try(cases hg;done)
 rename_i X Rx d hx
 split at hg<;>try(cases hg;done)
 rename_i p' R' Y hgx
 cases hg
 obtain⟨q,h1,h2⟩:=hfg _ _ _ _ hgx hp
 exact h q _ _ (by simp only[iF,hx,h1]) h2
theorem bt {P:Program} {w:World} {t:TypeId} (hu:P.underlying t=some .bool) (x y:Bool): (Op.equal t (.bool x) (.bool y)).run P w= .ok (x==y) w:=by
 unfold Op.equal
 rw[show Op.maxDepth=(Op.maxDepth - 1)+1 from rfl]
 unfold Op.equalIn
 rw[Sem.run_bind,run_underlying hu];rfl
theorem bu {P:Program} {w:World} {t:TypeId} (hu:P.underlying t=some .bool) (x y:Bool) (ox oy:Operand):
 (do eqGuard .eql t ox oy (.bool x) (.bool y);binOp .eql t (.bool x) (.bool y):Sem Value).run P w= .ok (.bool (x==y)) w∧
 (do eqGuard .neq t ox oy (.bool x) (.bool y);binOp .neq t (.bool x) (.bool y):Sem Value).run P w= .ok (.bool (!(x==y))) w:=by
 constructor
 · rw[Sem.run_bind,xF,Result.andThen_ok]
   show(do pure (.bool (← Op.equal t (.bool x) (.bool y))):Sem Value).run P w=_
   rw[Sem.run_bind,bt hu];rfl
 · rw[Sem.run_bind,xF,Result.andThen_ok]
   show(do pure (.bool (!(← Op.equal t (.bool x) (.bool y)))):Sem Value).run P w=_
   rw[Sem.run_bind,bt hu];rfl
def aL6 (T:gJ) (t:TypeId) (op:BinOp):V→V→Option (Prop×List (cL×Option K)×V)
 | .e (.c (.d (.b x))),.e (.c (.d (.b y)))=>match T t with
  |some ti=>match ti.kind,op with
   | .bool,.eql=>some (True,[],B (x==y))
   | .bool,.neq=>some (True,[],B (!(x==y)))
   |_,_=>none
  |none=>none
 |X,Y=>aN6 op X Y
def aL7 (T:gJ) (t:TypeId) (op:BinOp):V→V→Option (Prop×List (cL×Option K)×V)
 | .e (.c (.d (.b x))),.e (.c (.d (.b y)))=>match T t with
  |some ti=>match ti.kind,op with
   | .bool,.eql=>some (True,[],B (x==y))
   | .bool,.neq=>some (True,[],B (!(x==y)))
   |_,_=>none
  |none=>none
 |X,Y=>none
theorem aJn {P:Program} {T:gJ} (hT:eC P T) {o:Oper} {σ0:St} {op:BinOp} {t u:TypeId} {x y:Operand} (ho:o.op= .binOp op t x y u):kK P o σ0 (rC σ0 x y o.dst (aL7 T t op)):=by
 refine rI fun X Y p R Z h hp=> ?_
 unfold aL7 at h
 split at h
 · rename_i a b
   split at h<;>try(cases h;done)
   rename_i ti ht
   have hk: (ti.kind= .bool∧op= .eql∧R=[]∧Z=B (a==b))∨(ti.kind= .bool∧op= .neq∧R=[]∧Z=B (!(a==b))):=by
    split at h
    · rename_i hk;cases h;exact .inl ⟨hk,rfl,rfl,rfl⟩
    · rename_i hk;cases h;exact .inr ⟨hk,rfl,rfl,rfl⟩
    · cases h
   have hu:=(hT t ti ht).kind
   have hkk:ti.kind= .bool:=by rcases hk with h|h<;>exact h.1
   rw[hkk] at hu;simp only[mR] at hu
   rcases hk with⟨_,rfl,rfl,rfl⟩|⟨_,rfl,rfl,rfl⟩
   all_goals
    refine⟨bO.nil,fun cx σ ι S ac w _ _ hx hy=> ?_⟩
    simp only[lM,ER,CR] at hx hy
    cases hv:ac.eval x<;>rw[hv] at hx<;>cases hx
    cases hv2:ac.eval y<;>rw[hv2] at hy<;>cases hy
   · refine⟨_,?_,.b _⟩
     have:=(bu (w:=w) hu a b x y).1
     unfold execOp;simp only[ho,hv,hv2];rw[Sem.run_bind,this];rfl
   · refine⟨_,?_,.b _⟩
     have:=(bu (w:=w) hu a b x y).2
     unfold execOp;simp only[ho,hv,hv2];rw[Sem.run_bind,this];rfl
 · cases h
theorem aJo {P:Program} {T:gJ} (hT:eC P T) {o:Oper} {σ0:St} {op:BinOp} {t u:TypeId} {x y:Operand} (ho:o.op= .binOp op t x y u):kK P o σ0 (rC σ0 x y o.dst (aL6 T t op)):=by
 intro p R W h hp
 unfold rC at h
 split at h<;>try(cases h;done)
 rename_i X Rx Y Ry d hd hx hy
 split at h<;>try(cases h;done)
 rename_i p' R' Z hf
 cases h
 unfold aL6 at hf
 split at hf
 · exact aJn (P:=P) (σ0:=σ0) hT ho p _ _ (by simp only[rC,hx,hy,hd,aL7];simp only[hf]) hp
 · exact aDj (P:=P) (σ:=σ0) ho p _ _ (by simp only[rC,hx,hy,hf,hd]) hp
def aGk (T:gJ) (o:Oper) (σ:St) (s d:TypeId) (x:Operand):yl:=
 match T s,T d with
 |some si,some di=>match si.kind,di.kind with
  | .sl e,.str=>match T e with
   |some ei=>match ei.kind with
    | .int .u8=>iF σ x o.dst (aSb σ)
    |_=>none
   |none=>none
  | .str,.sl e=>match T e with
   |some ei=>match ei.kind with
    | .int .u8=>aSc σ x e o.dst
    |_=>none
   |none=>none
  |_,_=>aAa T o σ
 |_,_=>none
def aGl (T:gJ) (o:Oper) (σ:St) (c:Call):yl:=
 match c.callee,c.args.toList,c.argTypes.toList with
 | .builtin .copy,[x,y],[t,t2]=>aLx T σ t t2 x y o.dst
 |_,_,_=>aAa T o σ
def aCd (T:gJ) (o:Oper) (σ:St):yl:=
 match o.op with
 | .load t x=>iF σ x o.dst (aGi T σ t)
 | .binOp op t x y u=>rC σ x y o.dst (aL6 T t op)
 | .convert s d x=>aGk T o σ s d x
 | .call c=>aGl T o σ c
 |_=>aAa T o σ
theorem aGm {P:Program} {T:gJ} (hT:eC P T) {o:Oper} {σ:St} {s d:TypeId} {x:Operand} (ho:o.op= .convert s d x):kK P o σ (aGk T o σ s d x):=by
 unfold aGk
 split
 · rename_i si di hs hd
   split
   · rename_i e hk1 hk2
     split
     · rename_i ei he
       split
       · rename_i hek
         exact aLv hT ho hs hk1 he hek hd hk2
       · exact nF
     · exact nF
   · rename_i e hk1 hk2
     split
     · rename_i ei he
       split
       · rename_i hek
         exact aLw hT ho hs hk1 he hek hd hk2
       · exact nF
     · exact nF
   · exact yM hT o σ
 · exact nF
theorem aGn {P:Program} {T:gJ} (hT:eC P T) {o:Oper} {σ:St} {c:Call} (ho:o.op= .call c):kK P o σ (aGl T o σ c):=by
 obtain⟨callee,args,argTypes⟩:=c
 unfold aGl
 dsimp only
 split
 · rename_i x y t t2 ha hat
   obtain rfl:args= #[x,y]:=Array.toList_inj.1 (by simpa using ha)
   obtain rfl:argTypes= #[t,t2]:=Array.toList_inj.1 (by simpa using hat)
   exact aJe hT ho
 · exact yM hT o σ
theorem og {P:Program} {T:gJ} (hT:eC P T) (o:Oper) (σ:St):kK P o σ (aCd T o σ):=by
 unfold aCd
 split
 · rename_i ho;exact aJm (fun X p R Y h hp=>aGj hT h hp) (lu hT ho)
 · rename_i ho;exact aJo hT ho
 · rename_i ho;exact aGm hT ho
 · rename_i ho;exact aGn hT ho
 · exact yM hT o σ
def aIi:cL→cL→Bool
 | .t a,.t b=>Nat.beq a b
 | .o a,.o b=>Nat.beq a b
 |_,_=>false
theorem aAd {a b:cL}:aIi a b=true↔a=b:=by
 cases a<;>cases b<;>simp[aIi]
def iz:St→cL→K→(St→Prop)→Prop
 | [],m,k,c=>c [(m,k)]
 |p::r,m,k,c=>match aIi p.1 m with
  |true=>c ((m,k)::r)
  |false=>iz r m k fun r'=>c (p::r')
theorem lQ: ∀{σ:St} {m:cL} {k:K} {c:St→Prop},iz σ m k c↔c (jN σ m k)
 | [],m,k,c=>Iff.rfl
 |p::r,m,k,c=>by
  unfold iz jN
  by_cases h:p.1=m
  · rw[aAd.2 h,aC h]
  · have:aIi p.1 m=false:=by rw[← Bool.not_eq_true,aAd];exact h
    rw[this,aB h]
    exact lQ
def aCe:List C→(List C→Prop)→Prop
 | [],c=>c []
 |x::r,c=>aCe r fun r'=>c (x::r')
theorem gj: ∀{l:List C} {c:List C→Prop},aCe l c↔c l
 | [],c=>Iff.rfl
 |x::r,c=>by unfold aCe;exact gj
def aGo:K→(K→Prop)→Prop
 | .box ty cs,c=>aCe cs fun cs'=>c (.box ty cs')
 |k,c=>c k
theorem aGp {k:K} {c:K→Prop}:aGo k c↔c k:=by
 cases k<;>simp only[aGo]
 exact gj
def mJ:St→List (cL×K)→(St→Prop)→Prop
 |σ,[],c=>c σ
 |σ,p::r,c=>aGo p.2 fun k=>iz σ p.1 k fun σ'=>mJ σ' r c
theorem kA: ∀{W:List (cL×K)} {σ:St} {c:St→Prop},mJ σ W c↔c (fT σ W)
 | [],σ,c=>Iff.rfl
 |p::r,σ,c=>by unfold mJ fT;rw[aGp,lQ];exact kA
def aIj (P:Program) (T:gJ) (o:Oper) (σ:St) (k:List (cL×Option K)→List (cL×K)→Prop):Prop:=
 match aCd T o σ with
 |some (p,R,W)=>p∧k R W
 |none=> ∃R W,yE P o R W∧bO R σ∧k R W
theorem oh {P:Program} {T:gJ} (hT:eC P T) {o:Oper} {σ:St} {k:List (cL×Option K)→List (cL×K)→Prop} (h:aIj P T o σ k): ∃R W,yE P o R W∧bO R σ∧k R W:=by
 unfold aIj at h
 split at h
 · rename_i p R W he
   obtain⟨h1,h2⟩:=og hT o σ p R W he h.1
   exact⟨R,W,h1,h2,h.2⟩
 · exact h
def goS (P:Program) (T:gJ) (ops:List Oper) (dr:Bool):List Oper→St→List ej→(St→List ej→Prop)→Prop
 | [],σ,acc,k=>k σ acc
 |o::os,σ,acc,k=>match o.guard with
  |none=>aIj P T o σ fun R W=>mJ σ W fun σ'=>goS P T ops dr os σ' (match dr with|true=>acc++[oP (R,W)]|false=>[]) k
  |some (j,want)=>match(ops[j]?).bind (·.dst) with
   |some s=>match aQ σ (.t s) with
    |some (.v (.e (.c (.d (.b x)))))=>
     (x=want→aIj P T o σ fun R W=>mJ σ W fun σ'=>goS P T ops dr os σ' (match dr with|true=>acc++[oP ((.t s,none)::R,W)]|false=>[]) k)∧
     (x= !want→mJ σ (aAb o) fun σ'=>goS P T ops dr os σ' (match dr with|true=>acc++[oP ([(.t s,none)],aAb o)]|false=>[]) k)
    |_=>False
   |none=>False
theorem xL {P:Program} {T:gJ} (hT:eC P T) {ops:Array Oper} {dr:Bool} {k:St→List ej→Prop}: ∀(l:List Oper) (σ:St) (acc:List ej),goS P T ops.toList dr l σ acc k→
 ∃ts:List lO,ao P ops l ts∧jP ts σ∧ ∃acc',(dr=true→acc'=acc++ts.map oP)∧k (eM ts σ) acc'
 | [],σ,acc,h=>⟨[],trivial,trivial,acc,fun _=>by simp,by simpa[goS,eM] using h⟩
 |o::os,σ,acc,h=>by
  simp only[goS] at h
  split at h
  · rename_i hg
    obtain⟨R,W,h1,h2,h3⟩:=oh hT h
    rw[kA] at h3
    obtain⟨ts,q1,q2,acc',q3,q4⟩:=xL hT os _ _ h3
    refine⟨(R,W)::ts,⟨bj hg h1,q1⟩,⟨h2,q2⟩,acc',fun hd=> ?_,by simpa[eM] using q4⟩
    rw[q3 hd];subst hd;simp
  · rename_i j want hg
    split at h<;>try(exact h.elim)
    rename_i s hs
    split at h<;>try(exact h.elim)
    rename_i x hl
    have hs': (ops[j]?).bind (·.dst)=some s:=by simpa using hs
    by_cases hx:x=want
    · subst hx
      obtain⟨R,W,h1,h2,h3⟩:=oh hT (h.1 rfl)
      rw[kA] at h3
      obtain⟨ts,q1,q2,acc',q3,q4⟩:=xL hT os _ _ h3
      refine⟨((.t s,some (.v (B x)))::R,W)::ts,⟨aDo hg hs' h1,q1⟩,⟨fun p hp=> ?_,q2⟩,acc',fun hd=> ?_,by simpa[eM] using q4⟩
      · rcases aV6.1 hp with rfl|hp
        · exact hl
        · exact h2 p hp
      · rw[q3 hd];subst hd;simp[oP]
    · have hx':x= !want:=by cases x<;>cases want<;>simp_all
      have h3:=h.2 hx'
      rw[kA] at h3
      obtain⟨ts,q1,q2,acc',q3,q4⟩:=xL hT os _ _ h3
      subst hx'
      refine⟨([(.t s,some (.v (B (!want))))],aAb o)::ts,⟨aIe hg hs' rfl,q1⟩,⟨bO.one hl,q2⟩,acc',fun hd=> ?_,by simpa[eM] using q4⟩
      rw[q3 hd];subst hd;simp[oP]
section
variable {P:Program} {io:List Nat} {Q:Ex→St→Prop} {σ:St}
theorem SW.text {T:gJ} (hT:eC P T) (hm:P.follows .mixedOrders=true) {id:Nat} {ops:Array Oper} (h:goS P T ops.toList false ops.toList σ [] fun σ' _=>Q .norm σ'):SW P io (.region id ops false) Q σ:=by
 intro cx ι S a w hio hw hf
 have hfit: ∀o∈ops.toList,∀d,o.dst=some d→d<cx.N:=fun o ho=>bl (by simpa[tQ] using hf) ho
 obtain⟨ts,h1,h2,acc,_,h4⟩:=xL hT ops.toList σ [] h
 exact wp_region_list (uS ops.toList ts σ ι S a w h1 h2 hw hfit fun ι' S' a' w' hw'=>⟨_,ι',S',h4,hw'⟩)
theorem SW.drawn {T:gJ} (hT:eC P T) (hm:P.follows .mixedOrders=true) {id:Nat} {ops:Array Oper} (h:goS P T ops.toList true ops.toList σ [] fun σ' ns=>yN ops.toList ns=true∧Q .norm σ'):SW P io (.region id ops true) Q σ:=by
 intro cx ι S a w hio hw hf
 have hfit: ∀o∈ops.toList,∀d,o.dst=some d→d<cx.N:=fun o ho=>bl (by simpa[tQ] using hf) ho
 obtain⟨ts,h1,h2,acc,h3,h4,h5⟩:=xL hT ops.toList σ [] h
 have h3:=h3 rfl
 rw[List.nil_append] at h3
 subst h3
 have hlen: ∀(l:List Oper) (ts:List lO),ao P ops l ts→ts.length=l.length∧ ∀(i:Nat) o t,l[i]? =some o→ts[i]? =some t→ItT P ops o t:=by
  intro l
  induction l with
  |nil=>intro ts h;cases ts with
   |nil=>exact⟨rfl,by simp⟩
   |cons t ts=>exact h.elim
  |cons o os ih=>intro ts h;cases ts with
   |nil=>exact h.elim
   |cons t ts=>
    obtain⟨q1,q2⟩:=ih ts h.2
    refine⟨by simp[q1],fun i o' t' ho ht=> ?_⟩
    cases i with
    |zero=>simp at ho ht;subst ho;subst ht;exact h.1
    |succ i=>exact q2 i o' t' (by simpa using ho) (by simpa using ht)
 obtain⟨q1,q2⟩:=hlen _ _ h1
 refine wp_region_any hm (mc (cx:=cx) (σ:=σ) (ts:=ts) (by simpa using q1) (fun i o t ho ht=>q2 i o t (by simpa using ho) ht) h2 (by simpa[rY,yN] using h4) hfit (fun ι' S' a' w' hw'=>⟨_,ι',S',h5,hw'⟩)
  ops.size (Array.replicate ops.size false) σ ι S a _ (by simp) (fun l=> ?_) hw.drew (fun k o ho hk=> ?_) ?_)
 · have hL: ∀i,(Array.replicate ops.size false).getD i false=false:=fun i=>by
    rw[Array.getD_eq_getD_getElem?,Array.getElem?_replicate];split<;>rfl
   have: ∀n,part ts (fun i=>(Array.replicate ops.size false).getD i false) σ l n=aQ σ l:=by
    intro n
    induction n with
    |zero=>rfl
    |succ n ih=>rw[nE,aB (by rw[hL];simp),ih]
   rw[this]
 · rw[Array.getD_eq_getD_getElem?,Array.getElem?_replicate] at hk;split at hk<;>cases hk
 · exact Nat.le_trans (List.length_filter_le _ _) (by simp)
end
def keep (ks:List Nat):St→St
 | []=>[]
 |(.t s,k)::r=>match gB s ks with|true=>(.t s,k)::keep ks r|false=>keep ks r
 |(.o n,k)::r=>(.o n,k)::keep ks r
def uW (ks:List Nat):St→(St→Prop)→Prop
 | [],c=>c []
 |(.t s,k)::r,c=>match gB s ks with|true=>uW ks r fun r'=>c ((.t s,k)::r')|false=>uW ks r c
 |(.o n,k)::r,c=>uW ks r fun r'=>c ((.o n,k)::r')
theorem nH {ks:List Nat}: ∀{σ:St} {c:St→Prop},uW ks σ c↔c (keep ks σ)
 | [],c=>Iff.rfl
 |(.t s,k)::r,c=>by
  unfold uW keep
  cases gB s ks
  · exact nH
  · exact nH
 |(.o n,k)::r,c=>by unfold uW keep;exact nH
theorem mT (ks:List Nat): ∀(σ:St) (o:Nat),aQ (keep ks σ) (.o o)=aQ σ (.o o)
 | [],o=>rfl
 |(.t s,k)::r,o=>by
  unfold keep
  cases gB s ks
  · simp only[aQ];rw[aB (by simp)];exact mT ks r o
  · simp only[aQ];rw[aB (by simp),aB (by simp)];exact mT ks r o
 |(.o n,k)::r,o=>by
  unfold keep
  simp only[aQ]
  rw[mT ks r o]
theorem vR (ks:List Nat): ∀(σ:St) (s:Nat) (k:K),aQ (keep ks σ) (.t s)=some k→aQ σ (.t s)=some k
 | [],s,k,h=>h
 |(.t a,x)::r,s,k,h=>by
  unfold keep at h
  cases hm:gB a ks with
  |false=>
   rw[hm] at h
   simp only[aQ]
   by_cases e:a=s
   ·
    have hno: ∀(r:St),aQ (keep ks r) (.t a)=none:=by
     intro r
     induction r with
     |nil=>rfl
     |cons p r ih=>
      obtain⟨l,y⟩:=p
      cases l with
      |o n=>unfold keep;simp only[aQ];rw[aB (by simp)];exact ih
      |t b=>
       unfold keep
       cases hb:gB b ks with
       |false=>exact ih
       |true=>
        simp only[aQ]
        by_cases e2:b=a
        · subst e2;rw[hm] at hb;cases hb
        · rw[aB (by simpa using e2)];exact ih
    subst e
    have h:aQ (keep ks r) (.t a)=some k:=h
    rw[hno r] at h;cases h
   · rw[aB (by simpa using e)];exact vR ks r s k h
  |true=>
   rw[hm] at h
   simp only[aQ] at h ⊢
   by_cases e:cL.t a=cL.t s
   · rw[aC e] at h ⊢; exact h
   · rw[aB e] at h ⊢; exact vR ks r s k h
 |(.o n,x)::r,s,k,h=>by
  unfold keep at h
  simp only[aQ] at h ⊢
  rw[aB (by simp)] at h ⊢
  exact vR ks r s k h
theorem RW.keep (ks:List Nat) {P:Program} {cx:Cx P} {σ:St} {ι:Nat→Value} {S:Nat→Prop} {a:Act} {w:World} (h:RW cx σ ι S a w):RW cx (keep ks σ) ι S a w:=by
 have st:oA σ ι S w (Ab.keep ks σ) ι S w:=⟨fun _ h=>h,fun _ _=>rfl,fun o k hk=>⟨k,by rw[mT];exact hk,lB.refl' _ _⟩⟩
 have hmut: ∀o b,jL (Ab.keep ks σ) ι o b↔jL σ ι o b:=fun o b=>by unfold jL;rw[mT]
 refine⟨⟨fun s x hx=>pR.step st (h.vr.slots s x (vR ks σ s _ hx)),fun o k hk=>OR.step st (fun _ _=>rfl) (h.vr.objs o k (by rw[← mT ks];exact hk)),fun o b q=>h.vr.mutS o b ((hmut o b).1 q),fun o o' b q q'=>h.vr.inj o o' b ((hmut o b).1 q) ((hmut o' b).1 q'),h.vr.sz⟩,
  h.size,h.defers,h.fr,fun o b q=>h.own o b ((hmut o b).1 q),h.rd,fun o k hk=>by rw[mT];exact h.io o k hk⟩
section
variable {P:Program} {io:List Nat} {Q:Ex→St→Prop} {σ:St}
theorem SW.keep (ks:List Nat) {c:Code} (h:uW ks σ (SW P io c Q)):SW P io c Q σ:=by
 rw[nH] at h
 intro cx ι S a w hio hw hf
 exact h cx ι S a w hio (hw.keep ks) hf
theorem SW.mid (J:St→Prop) {x y:Code} (h:SW P io x (oa J Q) σ) (hy: ∀s,J s→SW P io y Q s):SW P io (.seq x y) Q σ:=
 SW.seq (h.mono fun e s hq=>by
  cases e with
  |norm=>exact hy s hq
  |exit id=>exact hq
  |ret=>exact hq)
end
theorem dO {T:gJ} {io:List Nat} {rs:List ResultVar} {σout s:St} (X:V) (rl:List (Nat×Nat)) (bor:List Nat) (h1:aGc T s rs=some X) (h2:mL ((.t 0,.v X)::dA s) σout rl bor σout) (h3:ap σout rl bor=true) (h4:sj io σout rl bor=true):xJ T io rs σout s:=
 ⟨X,rl,bor,h1,⟨h2,h3⟩,h4⟩
theorem aU {T:gJ} {io:List Nat} {rs:List ResultVar} {s:St} {x y:D} (h1:aGc T s rs=some (Dv x)) (h2:x=y):xJ T io rs [(.t 0,.v (Dv y))] s:=
 ⟨Dv x,[],[],h1,⟨⟨⟨Dv x,rfl,h2⟩,trivial⟩,rfl⟩,by simp[sj,bJ];exact fun x _=> .inl rfl⟩
def gb (want x:Bool):Bool:=match want with|true=>x|false=> !x
def gOf (want:Bool):Option K→Option Bool
 |some (.v (.e (.c (.d (.b x)))))=>some (gb want x)
 |some (.cv _ _ b (.e (.c (.d (.b x)))))=>some (b&&gb want x)
 |_=>none
def iY (s:Nat) (want:Bool):St→St
 | []=>[]
 |(.t t,.cv s' want' b X)::r=>match Nat.beq s' s&&(want'==want) with
  |true=>(.t t,.v X)::iY s want r
  |false=>(.t t,.cv s' want' b X)::iY s want r
 |p::r=>p::iY s want r
def qA (σ:St):List (cL×Option K)→Prop
 | []=>True
 |p::r=>match aQ σ p.1,p.2 with
  |some (.cv _ _ b _),some (.v _)=>b=true∧qA σ r
  |_,_=>qA σ r
def me (σ:St) (R:List (cL×Option K)):List (cL×Option K):=R.map fun p=>(p.1,aQ σ p.1)
theorem jH (s:Nat) (want:Bool): ∀(σ:St) (l:cL),aQ (iY s want σ) l=aQ σ l∨ ∃s' w' b X,aQ σ l=some (.cv s' w' b X)∧aQ (iY s want σ) l=some (.v X)
 | [],l=> .inl rfl
 |(.t t,.v X)::r,l=>by
  simp only[iY,aQ]
  by_cases e:cL.t t=l
  · rw[aC e,aC e];exact .inl rfl
  · rw[aB e,aB e];exact jH s want r l
 |(.t t,.box a b)::r,l=>by
  simp only[iY,aQ]
  by_cases e:cL.t t=l
  · rw[aC e,aC e];exact .inl rfl
  · rw[aB e,aB e];exact jH s want r l
 |(.t t,.row a b c)::r,l=>by
  simp only[iY,aQ]
  by_cases e:cL.t t=l
  · rw[aC e,aC e];exact .inl rfl
  · rw[aB e,aB e];exact jH s want r l
 |(.t t,.dead)::r,l=>by
  simp only[iY,aQ]
  by_cases e:cL.t t=l
  · rw[aC e,aC e];exact .inl rfl
  · rw[aB e,aB e];exact jH s want r l
 |(.t t,.zone a)::r,l=>by
  simp only[iY,aQ]
  by_cases e:cL.t t=l
  · rw[aC e,aC e];exact .inl rfl
  · rw[aB e,aB e];exact jH s want r l
 |(.o t,k)::r,l=>by
  simp only[iY,aQ]
  by_cases e:cL.o t=l
  · rw[aC e,aC e];exact .inl rfl
  · rw[aB e,aB e];exact jH s want r l
 |(.t t,.cv s' w' b X)::r,l=>by
  simp only[iY]
  cases Nat.beq s' s&&(w'==want) with
  |true=>
   simp only[aQ]
   by_cases e:cL.t t=l
   · rw[aC e,aC e];exact .inr ⟨s',w',b,X,rfl,rfl⟩
   · rw[aB e,aB e];exact jH s want r l
  |false=>
   simp only[aQ]
   by_cases e:cL.t t=l
   · rw[aC e,aC e];exact .inl rfl
   · rw[aB e,aB e];exact jH s want r l
theorem RW.reslot {P:Program} {cx:Cx P} {σ σ2:St} {ι:Nat→Value} {S:Nat→Prop} {a:Act} {w:World} (h:RW cx σ ι S a w) (ho: ∀o,aQ σ2 (.o o)=aQ σ (.o o)) (hs: ∀t k,aQ σ2 (.t t)=some k→pR σ ι w S k (iD a t)):RW cx σ2 ι S a w:=by
 have st:oA σ ι S w σ2 ι S w:=⟨fun _ h=>h,fun _ _=>rfl,fun o k hk=>⟨k,by rw[ho];exact hk,lB.refl' _ _⟩⟩
 have hmut: ∀o b,jL σ2 ι o b↔jL σ ι o b:=fun o b=>by unfold jL;rw[ho]
 exact⟨⟨fun s x hx=>pR.step st (hs s x hx),fun o k hk=>OR.step st (fun _ _=>rfl) (h.vr.objs o k (by rw[← ho];exact hk)),fun o b q=>h.vr.mutS o b ((hmut o b).1 q),fun o o' b q q'=>h.vr.inj o o' b ((hmut o b).1 q) ((hmut o' b).1 q'),h.vr.sz⟩,
  h.size,h.defers,h.fr,fun o b q=>h.own o b ((hmut o b).1 q),h.rd,fun o k hk=>by rw[ho];exact h.io o k hk⟩
theorem sn {σ:St}: ∀{R:List (cL×Option K)},qA σ R→ ∀p∈R,∀s w b X Y,aQ σ p.1=some (.cv s w b X)→p.2=some (.v Y)→b=true
 | [],_,p,hp=>by cases hp
 |q::r,h,p,hp=>by
  intro s w b X Y hl hy
  rcases aV6.1 hp with rfl|hp
  · simp only[qA,hl,hy] at h;exact h.1
  · refine sn (R:=r) ?_ p hp s w b X Y hl hy
    simp only[qA] at h
    split at h
    · exact h.2
    · exact h
theorem so {P:Program} {cx:Cx P} {σ:St} {ι:Nat→Value} {S:Nat→Prop} {a:Act} {w:World} (hw:RW cx σ ι S a w) {ops:Array Oper} {o:Oper} {j s:Nat} {want g:Bool} (hg:o.guard=some (j,want)) (hs: (ops[j]?).bind (·.dst)=some s) (hl:gOf want (aQ σ (.t s))=some g):
 Region.wanted o (yielded ops a.tmps)=g:=by
 have key: ∀x,iD a s= .bool x→yielded ops a.tmps j=some x:=by
  intro x h2
  have h3:a.tmps[s]? =some (.bool x):=by
   unfold iD at h2
   rw[Array.getD_eq_getD_getElem?] at h2
   cases hq:a.tmps[s]? with
   |none=>rw[hq] at h2;simp[undef] at h2
   |some v=>rw[hq] at h2;simp at h2;rw[h2]
  simp[yielded,hs,h3]
 have keyu:iD a s=undef→yielded ops a.tmps j=none:=by
  intro h2
  unfold iD at h2
  rw[Array.getD_eq_getD_getElem?] at h2
  cases hq:a.tmps[s]? with
  |none=>simp[yielded,hs,hq]
  |some v=>rw[hq] at h2;simp at h2;simp[yielded,hs,hq,h2,undef]
 unfold gOf at hl
 split at hl
 · rename_i x hx
   cases hl
   have h1:=hw.vr.slots s _ hx
   simp only[pR,lM,ER,CR] at h1
   have h2:iD a s= .bool x:=by generalize iD a s=v at h1;cases h1;rfl
   cases want<;>cases x<;>simp[Region.wanted,hg,key _ h2,gb]
 · rename_i s' w' b x hx
   cases hl
   have h1:=hw.vr.slots s _ hx
   cases b with
   |true=>
    have h1:=h1.1 rfl
    simp only[lM,ER,CR] at h1
    have h2:iD a s= .bool x:=by generalize iD a s=v at h1;cases h1;rfl
    cases want<;>cases x<;>simp[Region.wanted,hg,key _ h2,gb]
   |false=>
    have h2:=h1.2 rfl
    simp[Region.wanted,hg,keyu h2]
 · cases hl
theorem jI (s:Nat) (want:Bool): ∀(σ:St) (o:Nat),aQ (iY s want σ) (.o o)=aQ σ (.o o)
 | [],l=>rfl
 |(.o t,k)::r,l=>by
  simp only[iY,aQ]
  rw[jI s want r l]
 |(.t t,.v X)::r,l=>by simp only[iY,aQ];rw[aB (by simp),aB (by simp)];exact jI s want r l
 |(.t t,.box a b)::r,l=>by simp only[iY,aQ];rw[aB (by simp),aB (by simp)];exact jI s want r l
 |(.t t,.row a b c)::r,l=>by simp only[iY,aQ];rw[aB (by simp),aB (by simp)];exact jI s want r l
 |(.t t,.dead)::r,l=>by simp only[iY,aQ];rw[aB (by simp),aB (by simp)];exact jI s want r l
 |(.t t,.zone a)::r,l=>by simp only[iY,aQ];rw[aB (by simp),aB (by simp)];exact jI s want r l
 |(.t t,.cv s' w' b X)::r,l=>by
  simp only[iY]
  cases Nat.beq s' s&&(w'==want)<;>(simp only[aQ];rw[aB (by simp),aB (by simp)];exact jI s want r l)
theorem rj: ∀{W:List (cL×K)} {l:cL} {k:K},wr W l=some k→(l,k)∈W
 | [],l,k,h=>by cases h
 |p::r,l,k,h=>by
  unfold wr at h
  cases hq:wr r l with
  |some k'=>rw[hq] at h;cases h;exact List.mem_cons_of_mem _ (rj hq)
  |none=>
   rw[hq] at h
   simp only at h
   split at h
   · rename_i e;cases h;rw[← e];exact List.mem_cons_self ..
   · cases h
def aTj (p:cL×Option K):Option (cL×K):=match p.2 with
 |some (.v X)=>some (p.1,.v X)
 |_=>none
theorem aCf {P:Program} {ops:Array Oper} {o:Oper} {σ:St} {R:List (cL×Option K)} {X:V} {d j s:Nat} {want g:Bool} (hg:o.guard=some (j,want)) (hs: (ops[j]?).bind (·.dst)=some s) (hd:o.dst=some d) (hl:gOf want (aQ σ (.t s))=some g)
 (hop:g=true→yE P o R [(.t d,.v X)]∧bO R (iY s want σ)) (hok:g=true→qA σ R):ItT P ops o ((.t s,aQ σ (.t s))::me σ R,[(.t d,.cv s want g X)]):=by
 intro cx σ1 ι S a w hr hw hb next Q hn
 have hls:aQ σ1 (.t s)=aQ σ (.t s):=hr (.t s,aQ σ (.t s)) (List.mem_cons_self ..)
 have hact: ∀p∈R,aQ σ1 p.1=aQ σ p.1:=fun p hp=>hr (p.1,aQ σ p.1) (List.mem_cons_of_mem _ (aV5.2 ⟨p,hp,rfl⟩))
 rw[so hw hg hs (by rw[hls];exact hl)]
 have hdN:=hb d hd
 cases g with
 |false=>
  rw[aB (by simp)]
  rw[hd]
  have h1:=hw.putDead hdN undef
  refine hn ι S _ w (h1.reslot (fun o=>by simp only[fT];rw[bZ _ _ (by simp),bZ _ _ (by simp)]) fun t k hk=> ?_)
  simp only[fT] at hk
  rw[eD] at hk
  split at hk
  · rename_i e;cases e;cases hk
    refine⟨(by simp),fun _=> ?_⟩
    rw[fy (by rw[hw.size];exact hdN),aC rfl]
  · rename_i e
    exact h1.vr.slots t k (by rw[bZ _ _ e];exact hk)
 |true=>
  rw[aC rfl]
  left
  obtain⟨hop,hrd⟩:=hop rfl
  have hok:=hok rfl
  let L:List (cL×K):=R.filterMap aTj
  have hL: ∀l k,(l,k)∈L→ ∃Y,k= .v Y∧aQ (iY s want σ) l=some (.v Y)∧aQ σ1 l=aQ σ l∧(aQ σ l=some (.v Y)∨ ∃s' w',aQ σ l=some (.cv s' w' true Y)):=by
   intro l k hm
   obtain⟨p,hp,hpe⟩:=List.mem_filterMap.1 hm
   obtain⟨pl,pk⟩:=p
   unfold aTj at hpe
   split at hpe
   · rename_i e1 Y e2
     cases hpe
     simp only at e2 ⊢
     have h1:=hrd _ hp
     simp only at h1
     refine⟨Y,rfl,h1.trans e2,hact _ hp,?_⟩
     rcases jH s want σ pl with h3|⟨s2,w2,b2,X2,h3,h4⟩
     · left;rw[← h3,h1,e2]
     · rw[h4,e2] at h1;cases h1
       have:=sn hok _ hp _ _ _ _ _ h3 e2
       subst this
       exact .inr ⟨_,_,h3⟩
   · cases hpe
  have hσ2: ∀l,aQ (fT σ1 L) l=aQ σ1 l∨ ∃Y s' w',aQ (fT σ1 L) l=some (.v Y)∧aQ σ1 l=some (.cv s' w' true Y):=by
   intro l
   rw[jM]
   cases hq:wr L l with
   |none=>exact .inl rfl
   |some k=>
    obtain⟨Y,rfl,h1,h2,h3⟩:=hL l k (rj hq)
    rcases h3 with h3|⟨s',w',h3⟩
    · left;rw[h2,h3]
    · right;exact⟨Y,s',w',rfl,by rw[h2,h3]⟩
  have hσ2o: ∀o,aQ (fT σ1 L) (.o o)=aQ σ1 (.o o):=by
   intro o'
   rw[jM]
   cases hq:wr L (.o o') with
   |none=>rfl
   |some k=>
    obtain⟨Y,rfl,h1,h2,h3⟩:=hL _ k (rj hq)
    rw[jI] at h1
    rw[h2,h1]
  have hrw2:RW cx (fT σ1 L) ι S a w:=hw.reslot hσ2o fun t k hk=>by
   rcases hσ2 (.t t) with h|⟨Y,s',w',h1,h2⟩
   · rw[h] at hk;exact hw.vr.slots t k hk
   · rw[h1] at hk;cases hk
     exact(hw.vr.slots t _ h2).1 rfl
  have hrd2:bO R (fT σ1 L):=by
   intro p hp
   have h1:=hrd p hp
   rw[jM]
   cases hq:wr L p.1 with
   |some k=>
    obtain⟨Y,rfl,h2,_,_⟩:=hL _ k (rj hq)
    rw[← h1,h2]
   |none=>
    show aQ σ1 p.1=p.2
    rw[hact p hp]
    rcases jH s want σ p.1 with h3|⟨s2,w2,b2,X2,h3,h4⟩
    · rw[← h3];exact h1
    · exfalso
      have: (p.1,K.v X2)∈L:=List.mem_filterMap.2 ⟨p,hp,by unfold aTj;rw[← h1,h4]⟩
      obtain⟨k,hk⟩:=aN8 (W:=L) (l:=p.1) (aV5.2 ⟨_,this,rfl⟩)
      rw[hk] at hq;cases hq
  refine hop cx (fT σ1 L) ι S a w hrd2 hrw2 hb next Q fun ι' S' a' w' hw'=>hn ι' S' a' w' ?_
  simp only[fT] at hw' ⊢
  refine hw'.reslot (fun o'=>by rw[bZ _ _ (by simp),bZ _ _ (by simp),hσ2o]) fun t k hk=> ?_
  rw[eD] at hk
  by_cases e:d=t
  · subst e
    rw[aC rfl] at hk;cases hk
    exact⟨fun _=>hw'.vr.slots d _ (dE _ _ _),by simp⟩
  · rw[aB (by simpa using e)] at hk
    rcases hσ2 (.t t) with h|⟨Y,s',w',h1,h2⟩
    · exact hw'.vr.slots t k (by rw[bZ _ _ (by simpa using e),h];exact hk)
    · rw[h2] at hk;cases hk
      exact⟨fun _=>hw'.vr.slots t (.v Y) (by rw[bZ _ _ (by simpa using e)];exact h1),by simp⟩
def evc (σ:St):Operand→Option (V×List (cL×Option K)×Option Bool)
 | .tmp t=>match aQ σ (.t t) with
  |some (.v X)=>some (X,[(.t t,some (.v X))],none)
  |some (.cv s w b X)=>some (X,[(.t t,some (.cv s w b X))],some b)
  |_=>none
 | .const v=>if v.oneCell' then some (.e (.c (aBy v)),[],none) else none
 |_=>none
def uX:Option Bool→Prop
 |none=>True
 |some b=>b=true
theorem aAe {σ:St} {x:Operand} {X:V} {R:List (cL×Option K)} {c:Option Bool} (h:evc σ x=some (X,R,c)):bO R σ:=by
 cases x with
 |tmp t=>
  simp only[evc] at h
  split at h
  · rename_i X' hl;cases h;exact bO.one hl
  · rename_i hl;cases h;exact bO.one hl
  · cases h
 |const v=>
  simp only[evc] at h
  split at h
  · cases h;exact bO.nil
  · cases h
 |global g=>simp[evc] at h
 |func f=>simp[evc] at h
theorem aAf {σ0:St} {x:Operand} {X:V} {R:List (cL×Option K)} {c:Option Bool} (h:evc σ0 x=some (X,R,c)) (hc:uX c) {P:Program} {cx:Cx P} {σ:St} {ι:Nat→Value} {S:Nat→Prop} {a:Act} {w:World}
 (hr:bO R σ) (hw:RW cx σ ι S a w):lM σ ι w S X (a.eval x):=by
 cases x with
 |tmp t=>
  simp only[evc] at h
  split at h
  · rename_i X' hl;cases h;exact hw.vr.slots t _ (hr (.t t,some (.v X)) (by simp))
  · rename_i s w' b X' hl
    cases h
    exact(hw.vr.slots t (.cv s w' b X) (hr (.t t,some (.cv s w' b X)) (by simp))).1 hc
  · cases h
 |const v=>
  simp only[evc] at h
  split at h
  · rename_i hv;cases h;exact ik hv
  · cases h
 |global g=>simp[evc] at h
 |func f=>simp[evc] at h
def aGq (b:Bool):D→D→Option D
 | .i m,.i n=>some (.i (bif b then m else n))
 | .u m,.u n=>some (.u (bif b then m else n))
 | .b m,.b n=>some (.b (bif b then m else n))
 | .s m,.s n=>some (.s (bif b then m else n))
 |_,_=>none
def aL8 (x y:Operand) (b:Bool) (X Y:D):Option D:=match x,y with
 |_,.const (.bool false)=>match X with| .b m=>some (.b (b&&m))|_=>none
 | .const (.bool true),_=>match Y with| .b n=>some (.b (b||n))|_=>none
 |_,_=>aGq b X Y
def aGr (σ:St) (c x y:Operand) (d:Option Tmp):yl:=
 match ev σ c,evc σ x,evc σ y,d with
 |some (.e (.c (.d (.b b))),R),some (.e (.c (.d X)),R1,c1),some (.e (.c (.d Y)),R2,c2),some d=>match aL8 x y b X Y with
  |some Z=>some ((b=true→uX c1)∧(b=false→uX c2),R++R1++R2,[(.t d,.v (Dv Z))])
  |none=>none
 |_,_,_,_=>none
theorem aCg {b:Bool} {X Y Z:D} {w:World} {S:Nat→Prop} {vx vy:Value} (h:aGq b X Y=some Z) (hx:b=true→DR w S X vx) (hy:b=false→DR w S Y vy):DR w S Z (if b then vx else vy):=by
 cases X<;>cases Y<;>simp only[aGq] at h<;>cases h
 all_goals
  cases b with
  |true=>have:=hx rfl;cases this;first|exact .i _|exact .u _|exact .b _|exact .s _
  |false=>have:=hy rfl;cases this;first|exact .i _|exact .u _|exact .b _|exact .s _
theorem aGs {P:Program} {o:Oper} {σ0:St} {c x y:Operand} (ho:o.op= .pick c x y):kK P o σ0 (aGr σ0 c x y o.dst):=by
 intro p R W h hp
 unfold aGr at h
 split at h<;>try(cases h;done)
 rename_i b Rc X R1 c1 Y R2 c2 d hc hx hy hd
 split at h<;>try(cases h;done)
 rename_i Z hz
 cases h
 refine⟨tM hd fun cx σ ι S a w hr hw=> ?_,((eE hc).append (aAe hx)).append (aAe hy)⟩
 have hC:=eF hc hr.left.left hw
 have hX:b=true→lM σ ι w S (Dv X) (a.eval x):=fun hb=>aAf hx (hp.1 hb) hr.left.right hw
 have hY:b=false→lM σ ι w S (Dv Y) (a.eval y):=fun hb=>aAf hy (hp.2 hb) hr.right hw
 have hcv:a.eval c= .bool b:=by
  simp only[lM,ER,CR] at hC
  generalize a.eval c=v at hC;cases hC;rfl
 have hX:b=true→DR w S X (a.eval x):=hX
 have hY:b=false→DR w S Y (a.eval y):=hY
 refine⟨if b then a.eval x else a.eval y,?_,?_⟩
 · cases b<;>simp[execOp,ho,hcv,asBool]
 · show DR w S Z (if b then a.eval x else a.eval y)
   unfold aL8 at hz
   split at hz
   · split at hz
     · cases hz
       cases b with
       |true=>have:=hX rfl;simpa using this
       |false=>simp[Act.eval];exact .b _
     · cases hz
   · split at hz
     · cases hz
       cases b with
       |true=>simp[Act.eval];exact .b _
       |false=>have:=hY rfl;simpa using this
     · cases hz
   · exact aCg hz hX hY
def aIk (σ:St):V→Option (Prop×List (cL×Option K)×V)
 | .e (.c (.pe ob n i k))=>match aQ σ (.o ob) with
  |some (.row e es rows)=>some (rows.length=n,[(.o ob,some (.row e es rows))],.e (.c (.pe ob n i k)))
  |_=>none
 |X=>aOa σ X
theorem aJp {P:Program} {T:gJ} {o:Oper} {σ0:St} {x:Operand} (ho:o.op= .nilCheck x):kK P o σ0 (iF σ0 x o.dst (aIk σ0)):=by
 have h0:kK P o σ0 (iF σ0 x o.dst (aOa σ0)):=eg (T:=T) ho
 intro p R W h hp
 by_cases hX: ∃ob n i k Rx,ev σ0 x=some (.e (.c (.pe ob n i k)),Rx)
 · obtain⟨ob,n,i,k,Rx,hX⟩:=hX
   refine jO (x:=x) (f:=fun X=>match X with
    | .e (.c (.pe ob n i k))=>match aQ σ0 (.o ob) with
     |some (.row e es rows)=>some (rows.length=n,[(.o ob,some (.row e es rows))],.e (.c (.pe ob n i k)))
     |_=>none
    |_=>none) (fun X p R Y h hp=> ?_) p R W ?_ hp
   · split at h
     · rename_i ob n i k
       split at h
       · rename_i e es rows hl
         cases h
         refine⟨bO.one hl,fun cx σ ι S a w hr hw hx=> ?_⟩
         have hl':=hr (.o ob,some (.row e es rows)) (by simp)
         have hx':CR σ ι w S (.pe ob n i k) (a.eval x):=hx
         obtain⟨_,h2⟩:=hx'
         rcases h2 with⟨e',es',rows',hl2,hn,hv⟩|hd
         · dsimp only at hl';rw[hl'] at hl2;cases hl2
           obtain⟨g,off,cap,_,hv⟩:=hv hp
           exact⟨a.eval x,by simp[execOp,ho,hv],hx⟩
         · dsimp only at hl';rw[hl'] at hd;cases hd
       · cases h
     · cases h
   · unfold iF at h ⊢
     rw[hX] at h ⊢
     cases hd:o.dst with
     |none=>rw[hd] at h;cases h
     |some d=>rw[hd] at h;exact h
 · refine h0 p R W ?_ hp
   unfold iF at h ⊢
   cases hq:ev σ0 x with
   |none=>rw[hq] at h;cases h
   |some y=>
    obtain⟨X,Rx⟩:=y
    rw[hq] at h
    cases hd:o.dst with
    |none=>rw[hd] at h;cases h
    |some d=>
     rw[hd] at h
     have e:aIk σ0 X=aOa σ0 X:=by
      unfold aIk
      split
      · exact absurd ⟨_,_,_,_,_,hq⟩ hX
      · rfl
     dsimp only at h ⊢
     rw[e] at h
     exact h
def mf (T:gJ) (o:Oper) (σ:St):yl:=
 match o.op with
 | .pick c x y=>match aGr σ c x y o.dst with
  |some r=>some r
  |none=>aIc σ c x y o.dst
 | .nilCheck x=>iF σ x o.dst (aIk σ)
 |_=>aCd T o σ
theorem vS {P:Program} {T:gJ} (hT:eC P T) (o:Oper) (σ:St):kK P o σ (mf T o σ):=by
 unfold mf
 split
 · rename_i ho
   split
   · rename_i r hr
     have:=aGs (P:=P) (σ0:=σ) ho
     rw[hr] at this;exact this
   · exact zu ho
 · rename_i ho;exact aJp (T:=T) ho
 · exact og hT o σ
def aL9 (m i:Nat):Bool:=Nat.beq (Nat.land (Nat.shiftRight m i) 1) 1
theorem aMa (m i:Nat):aL9 m i=m.testBit i:=by
 have h:aL9 m i=decide ((m >>> i) % 2=1):=by
  show Nat.beq ((m >>> i) &&& 1) 1=_
  rw[Nat.and_one_is_mod,Bool.eq_iff_iff,Nat.beq_eq,aD]
 rw[h,Nat.testBit,Nat.one_and_eq_mod_two,Bool.eq_iff_iff,aD,bne_iff_ne]
 omega
def bits:List Nat→Nat
 | []=>0
 |x::r=>Nat.lor (Nat.shiftLeft 1 x) (bits r)
theorem uY {b:Nat}: ∀{l:List Nat},(bits l).testBit b=true↔b∈l
 | []=>by simp[bits]
 |x::r=>by
  show((1 <<< x) ||| bits r).testBit b=true↔_
  rw[Nat.testBit_or,aWc,uY (l:=r),aV6,Nat.shiftLeft_eq,Nat.one_mul,Nat.testBit_two_pow,aD]
  exact⟨fun h=>h.imp Eq.symm id,fun h=>h.imp Eq.symm id⟩
def sr (acc:List Nat):List Nat→Nat
 | []=>0
 |i::r=>Nat.lor (Nat.lor (Nat.shiftLeft 1 i) (acc.getD i 0)) (sr acc r)
def ss:List Oper→List Nat→List Nat
 | [],acc=>acc
 |o::os,acc=>ss os (acc++[sr acc (jW o)])
def aGt (accM:List Nat) (accP:List (List Nat)):Prop:=accM.length=accP.length∧ ∀i b,(accM.getD i 0).testBit b=true→b∈accP.getD i []
theorem oi {accM:List Nat} {accP:List (List Nat)} (h:aGt accM accP) {b:Nat}: ∀{l:List Nat},(sr accM l).testBit b=true→b∈l.flatMap fun i=>i::accP.getD i []
 | [],hb=>by simp[sr] at hb
 |i::r,hb=>by
  have hb: (((1 <<< i) ||| accM.getD i 0) ||| sr accM r).testBit b=true:=hb
  rw[Nat.testBit_or,Nat.testBit_or,aWc,aWc,Nat.shiftLeft_eq,Nat.one_mul,Nat.testBit_two_pow,aD] at hb
  rw[List.flatMap_cons,List.mem_append,aV6]
  rcases hb with(hb|hb)|hb
  · exact .inl (.inl hb.symm)
  · exact .inl (.inr (h.2 i b hb))
  · exact .inr (oi h hb)
theorem su: ∀(l:List Oper) {accM:List Nat} {accP:List (List Nat)},aGt accM accP→aGt (ss l accM) (lP l accP)
 | [],accM,accP,h=>h
 |o::os,accM,accP,h=>by
  unfold ss lP
  refine su os ⟨by simp[h.1],fun i b hb=> ?_⟩
  rw[aVy] at hb ⊢
  by_cases hi:i<accM.length
  · rw[List.getElem?_append_left hi] at hb
    rw[List.getElem?_append_left (by rw[← h.1];exact hi)]
    have:=h.2 i b (by rw[aVy];exact hb)
    rwa [aVy] at this
  · rw[List.getElem?_append_right (by omega)] at hb
    rw[List.getElem?_append_right (by rw[← h.1];omega),← h.1]
    by_cases e:i - accM.length=0
    · rw[e] at hb ⊢
      exact oi h hb
    · rw[List.getElem?_eq_none (by simp;omega)] at hb
      simp at hb
abbrev RWM:=Nat×Nat
def rwM (x:ej):RWM:=(bits x.1,bits x.2)
def aDw (x y:RWM):Bool:=Nat.beq (Nat.land x.2 (Nat.lor y.1 y.2)) 0&&Nat.beq (Nat.land x.1 y.2) 0
theorem wO {xs ys:List Nat} (h: ∀b,b∈xs→b∈ys→False):pS xs ys=true:=by
 induction xs with
 |nil=>rfl
 |cons x r ih=>
  simp only[pS,aVu,Bool.not_eq_true']
  refine⟨?_,ih fun b hb=>h b (List.mem_cons_of_mem _ hb)⟩
  rw[← Bool.not_eq_true,fP]
  exact h x (List.mem_cons_self ..)
theorem mg {m n b:Nat} (h:Nat.beq (Nat.land m n) 0=true) (hm:m.testBit b=true) (hn:n.testBit b=true):False:=by
 have h:m &&& n=0:=Nat.eq_of_beq_eq_true h
 have: (m &&& n).testBit b=true:=by rw[Nat.testBit_and,hm,hn];rfl
 rw[h] at this;simp at this
theorem aGu {x y:ej} (h:aDw (rwM x) (rwM y)=true):pB x y=true:=by
 simp only[aDw,rwM,aVu] at h
 simp only[pB,aVu]
 have hor: ∀b,(b∈y.1∨b∈y.2)→(Nat.lor (bits y.1) (bits y.2)).testBit b=true:=fun b hb=>by
  show(bits y.1 ||| bits y.2).testBit b=true
  rw[Nat.testBit_or,aWc,uY,uY];exact hb
 exact⟨⟨wO fun b h1 h2=>mg h.1 (uY.2 h1) (hor b (.inr h2)),wO fun b h1 h2=>mg h.1 (uY.2 h1) (hor b (.inl h2))⟩,wO fun b h1 h2=>mg h.2 (uY.2 h1) (uY.2 h2)⟩
def aPl (pm:Nat) (y:RWM):Nat→List RWM→Bool
 |_,[]=>true
 |i,x::r=>(aL9 pm i||aDw x y)&&aPl pm y (i+1) r
def aMb:List RWM→List Nat→List RWM→Bool
 | [],_,_=>true
 |y::ys,pm::pms,done=>aPl pm y 0 done&&aMb ys pms (done++[y])
 |_::_,[],_=>false
theorem aAg {pm:Nat} {y:RWM}: ∀{l:List RWM} {i:Nat},aPl pm y i l=true→ ∀(k:Nat) x,l[k]? =some x→pm.testBit (i+k)=true∨aDw x y=true
 | [],i,_,k,x,hx=>by simp at hx
 |z::r,i,h,k,x,hx=>by
  simp only[aPl,aVu,aWc] at h
  cases k with
  |zero=>simp at hx;subst hx;rw[← aMa];exact h.1
  |succ k=>
   have:=aAg h.2 k x (by simpa using hx)
   rwa [show i+1+k=i+(k+1) by omega] at this
theorem aAh: ∀{ys:List RWM} {pms:List Nat} {done:List RWM},aMb ys pms done=true→ ∀(k:Nat) y pm,ys[k]? =some y→pms[k]? =some pm→ ∀(i:Nat) x,i<done.length+k→(done++ys)[i]? =some x→pm.testBit i=true∨aDw x y=true
 | [],pms,done,_,k,y,pm,hy,_,i,x,_,_=>by simp at hy
 |z::ys,[],done,h,k,y,pm,hy,hp,i,x,_,_=>by simp[aMb] at h
 |z::ys,p::pms,done,h,k,y,pm,hy,hp,i,x,hi,hx=>by
  simp only[aMb,aVu] at h
  cases k with
  |zero=>
   simp at hy hp;subst hy;subst hp
   have:=aAg h.1 i x (by rw[List.getElem?_append_left (by omega)] at hx;exact hx)
   rwa [Nat.zero_add] at this
  |succ k=>exact aAh h.2 k y pm (by simpa using hy) (by simpa using hp) i x (by simp;omega) (by simpa using hx)
theorem sv {ns:List ej} {pl:List (List Nat)}: ∀(n:Nat),(∀k,k<n→ ∀i,i<k→ ∀x y pk,ns[i]? =some x→ns[k]? =some y→pl[k]? =some pk→i∈pk∨pB x y=true)→yJ ns pl n=true
 |0,_=>rfl
 |n+1,h=>by
  simp only[yJ,aVu]
  refine⟨?_,sv n fun k hk=>h k (by omega)⟩
  split
  · rename_i y pk hy hp
    rw[aV8]
    intro i hi
    rw[aWc]
    cases hx:ns[i]? with
    |none=>exact .inr rfl
    |some x=>exact(h n (by omega) i (List.mem_range.1 hi) x y pk hx hy hp).imp fP.2 id
  · rfl
def mh (l:List Oper) (ns:List ej):Bool:=rX 0 l&&aMb (ns.map rwM) (ss l []) []
theorem oj {l:List Oper} {ns:List ej} (h:mh l ns=true):yN l ns=true:=by
 simp only[mh,aVu] at h
 simp only[yN,aVu]
 refine⟨h.1,sv _ fun k hk i hi x y pk hx hy hp=> ?_⟩
 have hm:=su l (accM:=[]) (accP:=[]) ⟨rfl,by simp⟩
 have hpl:k< (lP l []).length:=(aV2.1 hp).1
 have hml:k< (ss l []).length:=by rw[hm.1];exact hpl
 have hpm: (ss l [])[k]? =some (ss l [])[k]:=aV1 hml
 rcases aAh h.2 k (rwM y) _ (by simp[hy]) hpm i (rwM x) (by simpa using hi) (by simp[hx]) with h1|h1
 · left
   have:=hm.2 k i (by rw[aVy,hpm];exact h1)
   rwa [aVy,hp] at this
 · exact .inr (aGu h1)
def aIl (P:Program) (T:gJ) (o:Oper) (σ:St) (k:List (cL×Option K)→List (cL×K)→Prop):Prop:=
 match mf T o σ with
 |some (p,R,W)=>p∧k R W
 |none=> ∃R W,yE P o R W∧bO R σ∧k R W
theorem ol {P:Program} {T:gJ} (hT:eC P T) {o:Oper} {σ:St} {k:List (cL×Option K)→List (cL×K)→Prop} (h:aIl P T o σ k): ∃R W,yE P o R W∧bO R σ∧k R W:=by
 unfold aIl at h
 split at h
 · rename_i p R W he
   obtain⟨h1,h2⟩:=vS hT o σ p R W he h.1
   exact⟨R,W,h1,h2,h.2⟩
 · exact h
def aPm (dr:Bool) (acc:List ej) (R:List (cL×Option K)) (W:List (cL×K)):List ej:=match dr with
 |true=>acc++[oP (R,W)]
 |false=>[]
def ja (P:Program) (T:gJ) (o:Oper) (σ:St) (s:Nat) (want g:Bool) (d:Nat) (k:List (cL×Option K)→V→Prop):Prop:=
 match mf T o (iY s want σ) with
 |some (p,R,[(.t d',.v X)])=>match Nat.beq d' d with
  |true=>(g=true→p)∧(g=true→qA σ R)∧k R X
  |false=>False
 |some _=>False
 |none=> ∃R X,(g=true→yE P o R [(.t d,.v X)]∧bO R (iY s want σ))∧(g=true→qA σ R)∧k R X
def goC (P:Program) (T:gJ) (ops:List Oper) (dr:Bool):List Oper→St→List ej→(St→List ej→Prop)→Prop
 | [],σ,acc,k=>k σ acc
 |o::os,σ,acc,k=>match o.guard with
  |none=>aIl P T o σ fun R W=>mJ σ W fun σ'=>goC P T ops dr os σ' (aPm dr acc R W) k
  |some (j,want)=>match(ops[j]?).bind (·.dst),o.dst with
   |some s,some d=>match gOf want (aQ σ (.t s)) with
    |some g=>ja P T o σ s want g d fun R X=>iz σ (.t d) (.cv s want g X) fun σ'=>goC P T ops dr os σ' (aPm dr acc ((.t s,none)::R) [(.t d,.dead)]) k
    |none=>False
   |_,_=>False
theorem bv {P:Program} {T:gJ} (hT:eC P T) {ops:Array Oper} {o:Oper} {σ:St} {j s d:Nat} {want g:Bool} {k:List (cL×Option K)→V→Prop} (hg:o.guard=some (j,want)) (hs: (ops[j]?).bind (·.dst)=some s) (hd:o.dst=some d) (hl:gOf want (aQ σ (.t s))=some g)
 (h:ja P T o σ s want g d k): ∃R X,ItT P ops o ((.t s,aQ σ (.t s))::me σ R,[(.t d,.cv s want g X)])∧k R X:=by
 unfold ja at h
 split at h
 · rename_i p R d' X he
   split at h
   · rename_i hdd
     have hdd:=Nat.eq_of_beq_eq_true hdd
     subst hdd
     obtain⟨h1,h2,h3⟩:=h
     exact⟨R,X,aCf hg hs hd hl (fun hgt=>vS hT o _ p R _ he (h1 hgt)) h2,h3⟩
   · exact h.elim
 · exact h.elim
 · obtain⟨R,X,h1,h2,h3⟩:=h
   exact⟨R,X,aCf hg hs hd hl h1 h2,h3⟩
theorem jb {σ:St} {s:Nat} {R:List (cL×Option K)}:bO ((.t s,aQ σ (.t s))::me σ R) σ:=by
 intro p hp
 rcases aV6.1 hp with rfl|hp
 · rfl
 · obtain⟨q,hq,rfl⟩:=aV5.1 hp;rfl
theorem aGv {σ:St} {s d:Nat} {R:List (cL×Option K)} {k:K} {o:Option K} {k':K}:oP ((.t s,o)::R,[(.t d,k)])=oP ((.t s,aQ σ (.t s))::me σ R,[(.t d,k')]):=by
 simp[oP,me,Function.comp_def]
theorem xM {P:Program} {T:gJ} (hT:eC P T) {ops:Array Oper} {dr:Bool} {k:St→List ej→Prop}: ∀(l:List Oper) (σ:St) (acc:List ej),goC P T ops.toList dr l σ acc k→
 ∃ts:List lO,ao P ops l ts∧jP ts σ∧ ∃acc',(dr=true→acc'=acc++ts.map oP)∧k (eM ts σ) acc'
 | [],σ,acc,h=>⟨[],trivial,trivial,acc,fun _=>by simp,by simpa[goC,eM] using h⟩
 |o::os,σ,acc,h=>by
  simp only[goC] at h
  split at h
  · rename_i hg
    obtain⟨R,W,h1,h2,h3⟩:=ol hT h
    rw[kA] at h3
    obtain⟨ts,q1,q2,acc',q3,q4⟩:=xM hT os _ _ h3
    refine⟨(R,W)::ts,⟨bj hg h1,q1⟩,⟨h2,q2⟩,acc',fun hd=> ?_,by simpa[eM] using q4⟩
    rw[q3 hd];subst hd;simp[aPm]
  · rename_i j want hg
    split at h<;>try(exact h.elim)
    rename_i s d hs hd
    split at h<;>try(exact h.elim)
    rename_i g hl
    have hs': (ops[j]?).bind (·.dst)=some s:=by simpa using hs
    obtain⟨R,X,h1,h2⟩:=bv hT hg hs' hd hl h
    rw[lQ] at h2
    obtain⟨ts,q1,q2,acc',q3,q4⟩:=xM hT os _ _ h2
    refine⟨((.t s,aQ σ (.t s))::me σ R,[(.t d,.cv s want g X)])::ts,⟨h1,q1⟩,⟨jb,q2⟩,acc',fun hdr=> ?_,by simpa[eM,fT] using q4⟩
    rw[q3 hdr];subst hdr
    simp only[aPm,List.map_cons,List.append_assoc,List.singleton_append]
    rw[aGv (σ:=σ) (k':= .cv s want g X)]
section
variable {P:Program} {io:List Nat} {Q:Ex→St→Prop} {σ:St}
theorem SW.regT {T:gJ} (hT:eC P T) (ks:List Nat) {id:Nat} {ops:Array Oper} (h:goC P T ops.toList false ops.toList σ [] fun σ' _=>uW ks σ' (Q .norm)):SW P io (.region id ops false) Q σ:=by
 intro cx ι S a w hio hw hf
 have hfit: ∀o∈ops.toList,∀d,o.dst=some d→d<cx.N:=fun o ho=>bl (by simpa[tQ] using hf) ho
 obtain⟨ts,h1,h2,acc,_,h4⟩:=xM hT ops.toList σ [] h
 rw[nH] at h4
 exact wp_region_list (uS ops.toList ts σ ι S a w h1 h2 hw hfit fun ι' S' a' w' hw'=>⟨_,ι',S',h4,hw'.keep ks⟩)
theorem SW.regD {T:gJ} (hT:eC P T) (hm:P.follows .mixedOrders=true) (ks:List Nat) {id:Nat} {ops:Array Oper} (h:goC P T ops.toList true ops.toList σ [] fun σ' ns=>mh ops.toList ns=true∧uW ks σ' (Q .norm)):SW P io (.region id ops true) Q σ:=by
 intro cx ι S a w hio hw hf
 have hfit: ∀o∈ops.toList,∀d,o.dst=some d→d<cx.N:=fun o ho=>bl (by simpa[tQ] using hf) ho
 obtain⟨ts,h1,h2,acc,h3,h4,h5⟩:=xM hT ops.toList σ [] h
 have h3:=h3 rfl
 rw[List.nil_append] at h3
 subst h3
 rw[nH] at h5
 have hlen: ∀(l:List Oper) (ts:List lO),ao P ops l ts→ts.length=l.length∧ ∀(i:Nat) o t,l[i]? =some o→ts[i]? =some t→ItT P ops o t:=by
  intro l
  induction l with
  |nil=>intro ts h;cases ts with
   |nil=>exact⟨rfl,by simp⟩
   |cons t ts=>exact h.elim
  |cons o os ih=>intro ts h;cases ts with
   |nil=>exact h.elim
   |cons t ts=>
    obtain⟨q1,q2⟩:=ih ts h.2
    refine⟨by simp[q1],fun i o' t' ho ht=> ?_⟩
    cases i with
    |zero=>simp at ho ht;subst ho;subst ht;exact h.1
    |succ i=>exact q2 i o' t' (by simpa using ho) (by simpa using ht)
 obtain⟨q1,q2⟩:=hlen _ _ h1
 refine wp_region_any hm (mc (cx:=cx) (σ:=σ) (ts:=ts) (by simpa using q1) (fun i o t ho ht=>q2 i o t (by simpa using ho) ht) h2 (by have:=oj h4;simpa[rY,yN] using this) hfit (fun ι' S' a' w' hw'=>⟨_,ι',S',h5,hw'.keep ks⟩)
  ops.size (Array.replicate ops.size false) σ ι S a _ (by simp) (fun l=> ?_) hw.drew (fun k o ho hk=> ?_) ?_)
 · have hL: ∀i,(Array.replicate ops.size false).getD i false=false:=fun i=>by
    rw[Array.getD_eq_getD_getElem?,Array.getElem?_replicate];split<;>rfl
   have: ∀n,part ts (fun i=>(Array.replicate ops.size false).getD i false) σ l n=aQ σ l:=by
    intro n
    induction n with
    |zero=>rfl
    |succ n ih=>rw[nE,aB (by rw[hL];simp),ih]
   rw[this]
 · rw[Array.getD_eq_getD_getElem?,Array.getElem?_replicate] at hk;split at hk<;>cases hk
 · exact Nat.le_trans (List.length_filter_le _ _) (by simp)
end
def yU:C→Bool
 | .d _=>true
 | .nil=>true
 | .rp _=>true
 |_=>false
def gk:E→Bool
 | .c x=>yU x
 | .agg cs=>cs.all yU
def mF:V→Bool
 | .e x=>gk x
 | .tup xs=>xs.all gk
section
variable {τ σ':St} {rl:List (Nat×Nat)} {bor:List Nat}
theorem aDx {c:C} (h:yU c=true):mC τ σ' rl bor c c:=by cases c<;>simp_all[yU,mC]
theorem aAi: ∀{cs:List C},cs.all yU=true→sf τ σ' rl bor cs cs
 | [],_=>trivial
 |c::cs,h=>by
  simp only[List.all_cons,aVu] at h
  exact⟨aDx h.1,aAi h.2⟩
theorem aDy {c:E} (h:gk c=true):mE τ σ' rl bor c c:=by
 cases c with
 |c x=>exact aDx h
 |agg cs=>exact aAi h
theorem aAj: ∀{cs:List E},cs.all gk=true→mEs τ σ' rl bor cs cs
 | [],_=>trivial
 |c::cs,h=>by
  simp only[List.all_cons,aVu] at h
  exact⟨aDy h.1,aAj h.2⟩
theorem aDz {c:V} (h:mF c=true):mV τ σ' rl bor c c:=by
 cases c with
 |e x=>exact aDy h
 |tup cs=>exact aAj h
theorem sw {c:C} (h:yU c=true):aGe rl c=c:=by cases c<;>simp_all[yU,aGe]
theorem aD0 {cs:List C} (h:cs.all yU=true):cs.map (aGe rl)=cs:=by
 rw[aV8] at h
 exact(List.map_congr_left fun c hc=>sw (h c hc)).trans (List.map_id cs)
theorem sy {c:E} (h:gk c=true):aJi rl c=c:=by
 cases c with
 |c x=>simp[aJi,sw (show yU x=true from h)]
 |agg cs=>simp only[aJi];rw[aD0 h]
theorem ta {c:V} (h:mF c=true):aGf rl c=c:=by
 cases c with
 |e x=>simp[aGf,sy (show gk x=true from h)]
 |tup cs=>
  simp only[aGf]
  have h:cs.all gk=true:=h
  rw[aV8] at h
  rw[(List.map_congr_left fun c hc=>sy (h c hc)).trans (List.map_id cs)]
theorem aD1: ∀{Ys:List V} {i:Nat},(∀j Y,Ys[j]? =some Y→aQ τ (.t (i+j))=some (.v Y))→Ys.all mF=true→mL τ σ' rl bor (dJ i Ys)
 | [],i,_,_=>trivial
 |Y::Ys,i,h,hp=>by
  simp only[List.all_cons,aVu] at hp
  refine⟨⟨Y,h 0 Y rfl,aDz hp.1⟩,aD1 (fun j Z hj=> ?_) hp.2⟩
  rw[show i+1+j=i+(j+1) by omega]
  exact h (j+1) Z hj
theorem tT: ∀(Ys:List V) (i:Nat),bJ (dJ i Ys)=[]
 | [],i=>rfl
 |Y::Ys,i=>tT Ys (i+1)
theorem pK {Xs:List V} (h:Xs.all mF=true):jX (dJ 0 Xs++kP []) (dJ 0 Xs) [] []:=by
 refine⟨aD1 (fun j Y hj=> ?_) h,?_⟩
 · have hlt:=(aV2.1 hj).1
   rw[Nat.zero_add,pC 0 Xs _ j (aVv _) (by omega),Nat.sub_zero,hj];rfl
 · simp[ap,tT,uV,pS]
end
section
variable {P:Program} {T:gJ} {f:FuncId} {n:Nat} {σin:St} {X:V} {o:Oper} {c:Call} {d:Nat} {σ:St} {Xs:List V} {Ra:List (cL×Option K)}
theorem aD2 (hs:Spec P f n σin [(.t 0,.v X)]) (ho:o.op= .call c) (hc:c.callee= .value (.func f)) (hd:o.dst=some d) (hx:ri σ c.args.toList=some (Xs,Ra)) (hn:Xs.length=n) (hin:σin=dJ 0 Xs) (hp:Xs.all mF=true) (hX:mF X=true):
 yE P o Ra [(.t d,.v X)]:=by
 subst hin
 have:=bs (robj:=[]) (rl:=[]) (bor:=[]) hs ho hc hx hn (pK hp) (by simp[gV,bJ,lC,tT,uV,pX]) (.inl rfl)
 have e1:rF Ra [] [] (dJ 0 Xs) [(.t 0,.v X)]=Ra:=by simp[rF,fI,bJ]
 have e2:iB [] (dJ 0 Xs) [(.t 0,.v X)] o.dst=[(.t d,.v X)]:=by
  simp[iB,wN,rZ,lC,tT,hd,bp,aQ,ta hX]
 rw[e1,e2] at this
 exact this
theorem jc {k:List (cL×Option K)→List (cL×K)→Prop} (hs:Spec P f n σin [(.t 0,.v X)]) (ho:o.op= .call c) (hc:c.callee= .value (.func f)) (hd:o.dst=some d) (hx:ri σ c.args.toList=some (Xs,Ra)) (hn:Xs.length=n) (hin:σin=dJ 0 Xs) (hp:Xs.all mF=true) (hX:mF X=true)
 (h:k Ra [(.t d,.v X)]): ∃R W,yE P o R W∧bO R σ∧k R W:=
 ⟨Ra,_,aD2 hs ho hc hd hx hn hin hp hX,rM hx,h⟩
theorem aMc {σ1:St} {g:Bool} {k:List (cL×Option K)→V→Prop} (hs:g=true→Spec P f n σin [(.t 0,.v X)]) (ho:o.op= .call c) (hc:c.callee= .value (.func f)) (hd:o.dst=some d) (hx:ri σ1 c.args.toList=some (Xs,Ra)) (hn:Xs.length=n) (hin:σin=dJ 0 Xs) (hp:Xs.all mF=true) (hX:mF X=true)
 (hr:g=true→qA σ Ra) (h:k Ra X): ∃R X,(g=true→yE P o R [(.t d,.v X)]∧bO R σ1)∧(g=true→qA σ R)∧k R X:=
 ⟨Ra,X,fun hg=>⟨aD2 (hs hg) ho hc hd hx hn hin hp hX,rM hx⟩,hr,h⟩
theorem eX {σout:St} {rl:List (Nat×Nat)} {bor:List Nat} {robj:List (Nat×K)} {k:List (cL×Option K)→List (cL×K)→Prop} (hs:Spec P f n σin σout) (ho:o.op= .call c) (hc:c.callee= .value (.func f)) (hx:ri σ c.args.toList=some (Xs,Ra)) (hn:Xs.length=n)
 (hm:jX (dJ 0 Xs++kP robj) σin rl bor) (hk:gV rl σin σout=true) (hb:bor=[]∨gU σout) (h1: ∀p∈robj,aQ σ (.o p.1)=some p.2) (h2: ∀j∈fI σin σout,aQ σ (.o (iO rl j))=none)
 (h:k (rF Ra robj rl σin σout) (iB rl σin σout o.dst)): ∃R W,yE P o R W∧bO R σ∧k R W:=
 ⟨_,_,bs hs ho hc hx hn hm hk hb,yS hx h1 h2,h⟩
end
def WK (io:List Nat) (J:St→Prop) (s:St):Prop:= ∃σ' rl bor,J σ'∧jX s σ' rl bor∧yO io σ' rl bor=true
theorem wk {io:List Nat} {J:St→Prop} {s:St} (σ':St) (rl:List (Nat×Nat)) (bor:List Nat) (h:J σ') (h1:mL s σ' rl bor σ') (h2:ap σ' rl bor=true) (h3:yO io σ' rl bor=true):WK io J s:=⟨σ',rl,bor,h,⟨h1,h2⟩,h3⟩
section
variable {P:Program} {io:List Nat} {Q:Ex→St→Prop} {σ:St}
theorem SW.wk {c:Code} {J:St→Prop} (h:WK io J σ) (hJ: ∀s,J s→SW P io c Q s):SW P io c Q σ:=by
 obtain⟨σ',rl,bor,h1,h2,h3⟩:=h
 exact SW.weaken σ' rl bor h2 h3 (hJ σ' h1)
theorem SW.loopW {c:Code} (I:Nat→St→Prop) {n:Nat} (h0:WK io (I n) σ) (hr: ∀n s,I n s→SW P io c (oa (fun s'=>WK io (fun s2=> ∃m,m<n∧I m s2) s') Q) s):SW P io (.loop c) Q σ:=by
 refine SW.loop (fun n s=>WK io (I n) s) h0 fun n s hs=>SW.wk hs fun s2 h2=>SW.mono (fun e s3 h3=> ?_) (hr n s2 h2)
 cases e with
 |norm=>
  obtain⟨σ',rl,bor,⟨m,hm,h1⟩,h2,h4⟩:=h3
  exact⟨m,hm,σ',rl,bor,h1,h2,h4⟩
 |exit id=>exact h3
 |ret=>exact h3
theorem SW.midW (J:St→Prop) {x y:Code} (h:SW P io x (oa (fun s=>WK io J s) Q) σ) (hy: ∀s,J s→SW P io y Q s):SW P io (.seq x y) Q σ:=
 SW.seq (h.mono fun e s hq=>by
  cases e with
  |norm=>exact SW.wk hq hy
  |exit id=>exact hq
  |ret=>exact hq)
end
section
variable {τ σ':St} {rl:List (Nat×Nat)} {bor:List Nat} {r:List (cL×K)}
theorem iG {s:Nat} {x y:D} (h:aQ τ (.t s)=some (.v (Dv x))) (e:x=y) (hr:mL τ σ' rl bor r):mL τ σ' rl bor ((.t s,.v (Dv y))::r):=⟨⟨_,h,e⟩,hr⟩
theorem qB {s:Nat} (h:aQ τ (.t s)=some (.v (.e (.c .nil)))) (hr:mL τ σ' rl bor r):mL τ σ' rl bor ((.t s,.v (.e (.c .nil)))::r):=⟨⟨_,h,trivial⟩,hr⟩
theorem bw {s:Nat} {y:D} (h:aQ τ (.t s)=some (.v (.e (.c .nil)))) (e:y= .sl []) (hr:mL τ σ' rl bor r):mL τ σ' rl bor ((.t s,.v (Dv y))::r):=⟨⟨_,h,e⟩,hr⟩
theorem lD {s o n j m:Nat} {e:TypeId} {es:Nat} {rows:List (List D)} (h:aQ τ (.t s)=some (.v (.e (.c (.own o n))))) (ho:o=iO rl j) (e1:n=m) (hj:aQ σ' (.o j)=some (.row e es rows)) (hr:mL τ σ' rl bor r):mL τ σ' rl bor ((.t s,.v (.e (.c (.own j m))))::r):=
 ⟨⟨_,h,ho,e1,e,es,rows,hj⟩,hr⟩
theorem dD {s o n:Nat} {y:D} {e:TypeId} {es:Nat} {rows:List (List D)} (h:aQ τ (.t s)=some (.v (.e (.c (.own o n))))) (hb:gB o bor=true) (hj:aQ τ (.o o)=some (.row e es rows)) (e1:rows.length=n) (e2:y= .sl rows) (hr:mL τ σ' rl bor r):mL τ σ' rl bor ((.t s,.v (Dv y))::r):=
 ⟨⟨_,h,fP.1 hb,e,es,rows,hj,e1,.inl e2⟩,hr⟩
theorem vT {s o k j m:Nat} {ty:TypeId} {cs:List C} (h:aQ τ (.t s)=some (.v (.e (.c (.pt o k))))) (ho:o=iO rl j) (e1:k=m) (hj:aQ σ' (.o j)=some (.box ty cs)) (hr:mL τ σ' rl bor r):mL τ σ' rl bor ((.t s,.v (.e (.c (.pt j m))))::r):=
 ⟨⟨_,h,ho,e1,ty,cs,hj⟩,hr⟩
theorem dS {s:Nat} {cs ds:List C} (h:aQ τ (.t s)=some (.v (.e (.agg cs)))) (e:sf τ σ' rl bor cs ds) (hr:mL τ σ' rl bor r):mL τ σ' rl bor ((.t s,.v (.e (.agg ds)))::r):=⟨⟨_,h,e⟩,hr⟩
theorem cJ {j:Nat} {e:TypeId} {es:Nat} {rows rows':List (List D)} (h:aQ τ (.o (iO rl j))=some (.row e es rows)) (e1:rows=rows') (hr:mL τ σ' rl bor r):mL τ σ' rl bor ((.o j,.row e es rows')::r):=⟨⟨_,h,rfl,rfl,e1⟩,hr⟩
theorem pD {j:Nat} {ty:TypeId} {cs ds:List C} (h:aQ τ (.o (iO rl j))=some (.box ty cs)) (e1:sf τ σ' rl bor cs ds) (hr:mL τ σ' rl bor r):mL τ σ' rl bor ((.o j,.box ty ds)::r):=⟨⟨_,h,rfl,e1⟩,hr⟩
theorem bG:sf τ σ' rl bor [] []:=trivial
theorem aN {x y:D} {cs ds:List C} (e:x=y) (h:sf τ σ' rl bor cs ds):sf τ σ' rl bor (.d x::cs) (.d y::ds):=⟨e,h⟩
theorem mM {cs ds:List C} (h:sf τ σ' rl bor cs ds):sf τ σ' rl bor (.nil::cs) (.nil::ds):=⟨trivial,h⟩
theorem dP {o n j m:Nat} {e:TypeId} {es:Nat} {rows:List (List D)} {cs ds:List C} (ho:o=iO rl j) (e1:n=m) (hj:aQ σ' (.o j)=some (.row e es rows)) (h:sf τ σ' rl bor cs ds):sf τ σ' rl bor (.own o n::cs) (.own j m::ds):=⟨⟨ho,e1,e,es,rows,hj⟩,h⟩
theorem nI {o n:Nat} {y:D} {e:TypeId} {es:Nat} {rows:List (List D)} {cs ds:List C} (hb:gB o bor=true) (hj:aQ τ (.o o)=some (.row e es rows)) (e1:rows.length=n) (e2:y= .sl rows) (h:sf τ σ' rl bor cs ds):sf τ σ' rl bor (.own o n::cs) (.d y::ds):=⟨⟨fP.1 hb,e,es,rows,hj,e1,.inl e2⟩,h⟩
theorem uZ {o n q:Nat} {y:D} {e e2:TypeId} {es es2:Nat} {rows rows2:List (List D)} {l:List (Value×List (List D))} {cs ds:List C} (hb:gB o bor=true) (hj:aQ τ (.o o)=some (.row e es rows)) (hb2:gB q bor=true) (hz:aQ τ (.o q)=some (.zone (kL e2 es2 l))) (e1:rows.length=n) (hL:uU l rows rows2) (hy:y= .sl rows2) (h:sf τ σ' rl bor cs ds):sf τ σ' rl bor (.own o n::cs) (.d y::ds):=
 ⟨⟨fP.1 hb,e,es,rows,hj,e1,.inr ⟨q,e2,es2,l,rows2,fP.1 hb2,hz,hy,hL⟩⟩,h⟩
theorem qD {o k j m:Nat} {ty:TypeId} {xs cs ds:List C} (ho:o=iO rl j) (e1:k=m) (hj:aQ σ' (.o j)=some (.box ty xs)) (h:sf τ σ' rl bor cs ds):sf τ σ' rl bor (.pt o k::cs) (.pt j m::ds):=⟨⟨ho,e1,ty,xs,hj⟩,h⟩
end
theorem RW.nilOwn {P:Program} {cx:Cx P} {σ:St} {ι:Nat→Value} {S:Nat→Prop} {a:Act} {w:World} (h:RW cx σ ι S a w) {s j:Nat} (e:TypeId) (es:Nat) (hs:aQ σ (.t s)=some (.v (.e (.c .nil)))) (hj:aQ σ (.o j)=none):
 RW cx (jN (jN σ (.o j) (.row e es [])) (.t s) (.v (.e (.c (.own j 0))))) (fun o=>if o=j then .slice none 0 0 else ι o) S a w:=by
 have hblk: ∀b,sJ (.slice none 0 0) b→some b=(none:Option Nat)∨w.heap.size≤b:=fun b hb=>by simp[sJ] at hb
 have h1:=h.turn (id:=j) (old:=none) (k:= .row e es []) (p:= .slice none 0 0) (w':=w) ⟨rfl,rfl,rfl,aVz _,(fun _ _ _=>rfl),(fun b hb=>by cases hb),.inl hj,hblk,.inl ⟨rfl,rfl⟩⟩
 have hv:iD a s= .slice none 0 0:=h.vr.slots s _ hs
 refine h1.reslot (fun o=>bZ _ _ (by simp)) fun t k hk=> ?_
 rw[eD] at hk
 by_cases e1:s=t
 · subst e1
   rw[aC rfl] at hk;cases hk
   show CR (jN σ (.o j) (.row e es [])) (fun o=>if o=j then .slice none 0 0 else ι o) w S (.own j 0) (iD a s)
   rw[hv]
   exact⟨rfl,.inl ⟨e,es,[],dE _ _ _,aVz _,fun _=>by simp⟩⟩
 · rw[aB (by simpa using e1)] at hk
   exact h1.vr.slots t k hk
theorem SW.nilOwn {P:Program} {io:List Nat} {Q:Ex→St→Prop} {σ:St} {c:Code} (s j:Nat) (e:TypeId) (es:Nat) (hs:aQ σ (.t s)=some (.v (.e (.c .nil)))) (hj:aQ σ (.o j)=none)
 (h:mJ σ [(.o j,.row e es []),(.t s,.v (.e (.c (.own j 0))))] (SW P io c Q)):SW P io c Q σ:=by
 rw[kA] at h
 intro cx ι S a w hio hw hf
 exact h cx _ S a w hio (hw.nilOwn e es hs hj) hf
theorem ai {a b:Prop} (x:a) (y:b):a∧b:=⟨x,y⟩
theorem vc {p:Prop} (h:p:=by first|trivial|exact aVs rfl|exact⟨rfl,aVs rfl⟩|omega|((repeat' apply And.intro)<;>first|trivial|rfl|exact aVs rfl|omega)|(simp;done)|(simp;omega)):p:=h
theorem rk {p:Prop} (h:p:=by intro h;(repeat' apply And.intro)<;>first|exact h|trivial):p:=h
theorem pk {p:Prop} (h:p:=by constructor<;>intro h<;>first|trivial|exact h|(simp[gb,uX];done)|(simpa[gb,uX] using h)|(simp only[gb,uX] at *; grind)|(simp_all[gb,uX];done)):p:=h
def OpE (P:Program) (o:Oper) (R:List (cL×Option K)) (Ws:List (cL×K)→Prop):Prop:=
 ∀(cx:Cx P) (σ:St) (ι:Nat→Value) (S:Nat→Prop) (a:Act) (w:World),bO R σ→RW cx σ ι S a w→(∀d,o.dst=some d→d<cx.N)→
  ∀(next:Act→World→Prop) (Q:Exit→Act→World→Prop),(∀W,Ws W→ ∀ι' S' a' w',RW cx (fT σ W) ι' S' a' w'→next a' w')→o.wp P a w next Q
theorem yE.toE {P:Program} {o:Oper} {R:List (cL×Option K)} {W:List (cL×K)} (h:yE P o R W):OpE P o R (· =W):=
 fun cx σ ι S a w hr hw hd next Q hn=>h cx σ ι S a w hr hw hd next Q fun ι' S' a' w' hw'=>hn W rfl ι' S' a' w' hw'
def SpecE (P:Program) (f:FuncId) (n:Nat) (σin:St) (Qo:St→Prop):Prop:=
 gi P f∧ ∀(ι ν:Nat→Value) (S:Nat→Prop) (w:World) (args:Array Value),(GB P w fun b=> ∃o,jL σin ι o b)→VR σin ι ν S w→args.size=n→(∀i,i<n→args[i]? =some (ν i))→
  Calls P f args w fun e w'=> ∃v ι' S' σout,Qo σout∧e= .returned v∧aL2 σin ι S w σout ι' S' w' v
theorem lE {P:Program} {f:FuncId} {args:Array Value} {w:World} {Q Q':Ending→World→Prop} (hq: ∀e w',Q e w'→Q' e w') (h:Calls P f args w Q):Calls P f args w Q':=by
 intro cs
 obtain⟨e,w',fr,h1,h2⟩:=h cs
 exact⟨e,w',fr,hq e w' h1,h2⟩
theorem Spec.toE {P:Program} {f:FuncId} {n:Nat} {σin σout:St} {Qo:St→Prop} (h:Spec P f n σin σout) (hq:Qo σout):SpecE P f n σin Qo:=by
 refine⟨h.1,fun ι ν S w args h0 h1 h2 h3=>lE (fun e w'=> ?_) (h.2 ι ν S w args h0 h1 h2 h3)⟩
 rintro⟨v,ι',S',rfl,hp⟩
 exact⟨v,ι',S',σout,hq,rfl,hp⟩
def aGw (T:gJ) (io:List Nat) (rs:List ResultVar) (Qo:St→Prop):Ex→St→Prop
 | .norm,s=> ∃σout,Qo σout∧xJ T io rs σout s
 | .ret,s=> ∃σout,Qo σout∧xJ T io rs σout s
 | .exit _,_=>False
theorem yn {P:Program} {T:gJ} (hT:eC P T) {f:FuncId} {fn:Func} {c:Code} {n:Nat} {σin:St} {Qo:St→Prop} (hf:P.funcs[f]? =some fn) (hb:fn.body=some c) (hname: (fn.name== "runtime.NumGoroutine")=false) (hn:n≤fn.ntmps) (hfit:tQ fn.ntmps c=true)
 (hsl:pX n σin=true) (h:SW P (bJ σin) c (aGw T (bJ σin) fn.results.toList Qo) σin):SpecE P f n σin Qo:=by
 refine⟨⟨fn,hf,by rw[hb];rfl,hname⟩,fun ι ν S w args hgb hvr hsz hargs=> ?_⟩
 have hnu: ∀s,s<n→(args++Array.replicate (fn.ntmps - args.size) undef).getD s undef=ν s:=by
  intro s hs
  rw[Array.getD_eq_getD_getElem?,Array.getElem?_append_left (by omega),hargs s hs];rfl
 let cx:Cx P:={N:=fn.ntmps,w0:=w,S0:=S,k0:=fun o=>aQ σin (.o o),kio:=fun o=>aQ σin (.o o),ι0:=ι,gb:=hgb.weak fun b ⟨o,k,q1,q2,q3⟩=>⟨o,⟨k,q1,q2⟩,q3⟩}
 have hM: ∀b,cx.M b↔ ∃o,jL σin ι o b:=fun b=>⟨fun⟨o,k,q1,q2,q3⟩=>⟨o,⟨k,q1,q2⟩,q3⟩,fun⟨o,⟨k,q1,q2⟩,q3⟩=>⟨o,k,q1,q2,q3⟩⟩
 have hw:RW cx σin ι S {tmps:=args++Array.replicate (fn.ntmps - args.size) undef,defers:=[]} w:=by
  refine⟨⟨fun s x hx=> ?_,hvr.objs,hvr.mutS,hvr.inj,hvr.sz⟩,?_,rfl,Fr.refl _ _,fun o b ⟨⟨k,q1,q2⟩,q3⟩=> .inr ⟨o,k,q1,q2,q3⟩,fun b hb=> .inl hb,fun o k hk=>⟨k,hk,lB.refl' _ _⟩⟩
  · have hs:=tR hsl s _ hx
    have:iD {tmps:=args++Array.replicate (fn.ntmps - args.size) undef,defers:=[]} s=ν s:=hnu s hs
    rw[this];exact hvr.slots s x hx
  · show(args++Array.replicate (fn.ntmps - args.size) undef).size=fn.ntmps
    simp;omega
 refine calls_of_wp hf hb (wp_mono (h cx ι S _ w (fun o k hk=>eJ hk) hw hfit) fun e a' w' hq=> ?_)
 have fin: (∃σ' ι' S',(∃σout,Qo σout∧xJ T (bJ σin) fn.results.toList σout σ')∧RW cx σ' ι' S' a' w')→a'.defers=[]∧ ∃v,(results fn a'.tmps).run P w'= .ok v w'∧ ∃v_1 ι' S' σout,Qo σout∧Ending.returned v= .returned v_1∧aL2 σin ι S w σout ι' S' w' v_1:=by
  rintro⟨σ',ι',S',⟨σout,hQo,X,rl,bor,hX,hm,hio⟩,hw'⟩
  obtain⟨v,hr,hv⟩:=sh hT hw' hX
  refine⟨hw'.defers,v,hr,v,fun j=>ι' (iO rl j),pJ σ' ι' bor S',σout,hQo,rfl,?_⟩
  have hlo: ∀o,aQ ((cL.t 0,K.v X)::dA σ') (.o o)=aQ σ' (.o o):=fun o=>by simp only[aQ];rw[aB (by simp),nG]
  have st:oA σ' ι' S' w' ((cL.t 0,K.v X)::dA σ') ι' S' w':=⟨fun _ h=>h,fun _ _=>rfl,fun o k hk=>⟨k,by rw[hlo];exact hk,lB.refl' _ _⟩⟩
  have hmut: ∀o b,jL ((cL.t 0,K.v X)::dA σ') ι' o b↔jL σ' ι' o b:=fun o b=>by unfold jL;rw[hlo]
  have hlt: ∀(r:St) s k,aQ (dA r) (.t s)=some k→False:=by
   intro r s k
   induction r with
   |nil=>intro h;cases h
   |cons p r ih=>
    obtain⟨l,k'⟩:=p
    cases l with
    |t n=>exact ih
    |o n=>simp only[dA,aQ];rw[aB (by simp)];exact ih
  have hvr0:VR ((cL.t 0,K.v X)::dA σ') ι' (fun _=>v) S' w':=by
   refine⟨fun s x hx=> ?_,fun o k hk=>OR.step st (fun _ _=>rfl) (hw'.vr.objs o k (by rw[← hlo];exact hk)),fun o b q=>hw'.vr.mutS o b ((hmut o b).1 q),fun o o' b q q'=>hw'.vr.inj o o' b ((hmut o b).1 q) ((hmut o' b).1 q'),hw'.vr.sz⟩
   simp only[aQ] at hx
   split at hx
   · cases hx;exact lM.step st hv
   · exact(hlt σ' s _ hx).elim
  have hvr1:=pW hm (fun _ _ h=>h) hvr0
  have hio2: ∀o∈bJ σin,gB o (bJ σout)=false∨Nat.beq (iO rl o) o=true:=by simpa only[sj,aV8,aWc,Bool.not_eq_true'] using hio
  have hgive: ∀b,pJ ((cL.t 0,K.v X)::dA σ') ι' bor S' b→pJ σ' ι' bor S' b:=fun b hb=>hb.imp id fun⟨o,ho,q⟩=>⟨o,ho,(hmut o b).1 q⟩
  refine⟨⟨hw'.fr.os,hw'.fr.tape,hw'.fr.output,hw'.fr.size,fun b hb hnm=>hw'.fr.block b hb (fun h=>hnm ((hM b).1 h))⟩,?_,fun b hb=> ?_,fun j b hmu=> ?_,fun o k k' hk hk'=> ?_⟩
  · have e:pJ ((cL.t 0,K.v X)::dA σ') ι' bor S'=pJ σ' ι' bor S':=by
     funext b;apply propext;exact⟨hgive b,fun hb=>hb.imp id fun⟨o,ho,q⟩=>⟨o,ho,(hmut o b).2 q⟩⟩
    rw[← e];exact hvr1
  · rcases hb with hb|⟨o,ho,hmo⟩
    · exact(hw'.rd b hb).imp id fun h=>h.imp id fun h=>(hM b).1 h
    · exact .inr ((hw'.own o b hmo).imp id fun h=>(hM b).1 h)
  · exact(hw'.own _ b ((hmut _ b).1 (hm.mut (fun _ _ h=>h) hmu))).imp id fun h=>(hM b).1 h
  · have hren:iO rl o=o:=by
     rcases hio2 o (eJ hk) with h4|h4
     · rw[fP.2 (eJ hk')] at h4;cases h4
     · exact Nat.eq_of_beq_eq_true h4
    obtain⟨k1,hk1,hev⟩:=hw'.io o k hk
    have hev:lB (ι o) (ι' o) k k1:=hev
    obtain⟨k2,hk2,hmk⟩:=hm.ids o k' hk'
    rw[hren,hlo,hk1] at hk2;cases hk2
    rw[hren]
    exact aB7 hev hmk
 cases e with
 |normal=>
  obtain⟨σ',ι',S',h1,h2⟩:=hq
  exact fin ⟨σ',ι',S',h1,h2⟩
 |ret=>
  obtain⟨σ',ι',S',h1,h2⟩:=hq
  exact fin ⟨σ',ι',S',h1,h2⟩
 |exit id=>obtain⟨σ',ι',S',h1,h2⟩:=hq;exact h1.elim
 |goto l=>exact hq.elim
 |panic ch=>exact hq.elim
 |outgrown=>exact hq.elim
section
variable {P:Program} {f:FuncId} {n:Nat} {σin:St} {Qo:St→Prop} {rl:List (Nat×Nat)} {bor:List Nat} {σ0:St} {Xs:List V} {Ra:List (cL×Option K)} {robj:List (Nat×K)} {news:List Nat}
def aMd (Ra:List (cL×Option K)) (robj:List (Nat×K)) (rl:List (Nat×Nat)) (news:List Nat):List (cL×Option K):=
 Ra++robj.map (fun p=>(.o p.1,some p.2))++news.map fun j=>(.o (iO rl j),none)
theorem aAk (hs:SpecE P f n σin Qo) {o:Oper} {c:Call} (ho:o.op= .call c) (hc:c.callee= .value (.func f)) (hx:ri σ0 c.args.toList=some (Xs,Ra)) (hn:Xs.length=n)
 (hm:jX (dJ 0 Xs++kP robj) σin rl bor) (hq: ∀σout,Qo σout→gV rl σin σout=true∧(bor=[]∨gU σout)∧ ∀j∈fI σin σout,j∈news):
 OpE P o (aMd Ra robj rl news) fun W=> ∃σout,Qo σout∧W=iB rl σin σout o.dst:=by
 intro cx σ ι S a w hr hw hd next Q hnext
 obtain⟨⟨fn,hf,hbody,hname⟩,hcall⟩:=hs
 obtain⟨hlen,hargs⟩:=dg hw hx hr.left.left
 let args:Array Value:=c.args.map a.eval
 let ν:Nat→Value:=fun i=>(args[i]?).getD undef
 have hsz:args.size=n:=by show(c.args.map a.eval).size=n;rw[Array.size_map,← hn,hlen,Array.length_toList]
 have hargν: ∀i,i<n→args[i]? =some (ν i):=fun i hi=>by
  show args[i]? =some ((args[i]?).getD undef)
  rw[Array.getElem?_eq_getElem (by omega)];rfl
 have hνr: ∀s X,Xs[s]? =some X→lM σ ι w S X (ν s):=fun s X hX=>by
  obtain⟨x,h1,h2⟩:=hargs s X hX
  have:ν s=a.eval x:=by
   show((c.args.map a.eval)[s]?).getD undef=a.eval x
   rw[Array.getElem?_toList] at h1
   rw[Array.getElem?_map,h1];rfl
  rw[this];exact h2
 have hlo: ∀o,aQ (dJ 0 Xs++dA σ) (.o o)=aQ σ (.o o):=fun o=>by rw[iL,nG]
 have st:oA σ ι S w (dJ 0 Xs++dA σ) ι S w:=⟨fun _ h=>h,fun _ _=>rfl,fun o k hk=>⟨k,by rw[hlo];exact hk,lB.refl' _ _⟩⟩
 have hmut: ∀o b,jL (dJ 0 Xs++dA σ) ι o b↔jL σ ι o b:=fun o b=>by unfold jL;rw[hlo]
 have hvr0:VR (dJ 0 Xs++dA σ) ι ν S w:=by
  refine⟨fun s x hx=> ?_,fun o k hk=>OR.step st (fun _ _=>rfl) (hw.vr.objs o k (by rw[← hlo];exact hk)),fun o b q=>hw.vr.mutS o b ((hmut o b).1 q),fun o o' b q q'=>hw.vr.inj o o' b ((hmut o b).1 q) ((hmut o' b).1 q'),hw.vr.sz⟩
  obtain⟨X,h1,h2⟩:=sZ hx
  cases h2
  exact lM.step st (hνr s _ h1)
 have hsub: ∀l k,aQ (dJ 0 Xs++kP robj) l=some k→aQ (dJ 0 Xs++dA σ) l=some k:=fun l k h=>by
  cases l with
  |o o=>
   rw[hlo]
   rw[iL] at h
   exact hr (.o o,some k) (List.mem_append_left _ (List.mem_append_right _ (aV5.2 ⟨(o,k),yR h,rfl⟩)))
  |t s=>
   obtain⟨X,h1,rfl⟩:=pZ h
   have hs:=(aV2.1 h1).1
   rw[pC 0 Xs _ s (aVv _) (by omega)];simp[h1]
 have hvr1:=pW hm hsub hvr0
 have hgb:GB P w fun b=> ∃o,jL σin (fun j=>ι (iO rl j)) o b:=fun w2 h2=>cx.gb w2 (hw.fr.trans h2 fun x hx ⟨o,ho⟩=>by
  rcases hw.own _ x ((hmut _ _).1 (hm.mut hsub ho)) with h3|h3
  · omega
  · exact h3)
 have hcl:=hcall _ ν _ w args hgb hvr1 hsz hargν
 obtain⟨callee,cargs,argTypes⟩:=c
 dsimp only at hc
 subst hc
 have hbd: ∃cd,fn.body=some cd:=by
  cases hq:fn.body with
  |none=>rw[hq] at hbody;cases hbody
  |some cd=>exact⟨cd,rfl⟩
 obtain⟨cd,hbd⟩:=hbd
 have hrun: (execOp a.eval o).run P w= .ok (.enter f args) w:=by
  have h1:=MuLone.run_callFunc_enter (P:=P) hf hname hbd args w
  have e: (execOp a.eval o).run P w=(callFunc f (args++ #[])).run P w:=by
   simp[execOp,ho,resolve,invoke,Deferred.ofValue,args,Act.eval]
  rw[e,Array.append_empty];exact h1
 unfold Oper.wp
 rw[hrun,Oper.upon_enter]
 intro cs
 obtain⟨e,w',fr,⟨v,ι',S',σout,hQo,rfl,hpost⟩,hcomes⟩:=hcl cs
 refine⟨_,w',fr,?_,hcomes⟩
 dsimp only
 obtain⟨hk,hb,hnw⟩:=hq σout hQo
 have hr':bO (rF Ra robj rl σin σout) σ:=by
  intro p hp
  rcases List.mem_append.1 hp with hp|hp
  · exact hr p (List.mem_append_left _ hp)
  · obtain⟨j,hj,rfl⟩:=aV5.1 hp
    exact hr (.o (iO rl j),none) (List.mem_append_right _ (aV5.2 ⟨j,hnw j hj,rfl⟩))
 have hrw:=aCc (Ra:=Ra) hm hk hb hr' hw hνr hpost
 have hSK: ∀{l:cL} {k:K},aQ σout l=some k→(∀b,S' b→(S b∨(bor=[]∧S' b)))∨pY k:=fun{l k} h=>by
  rcases hb with e|hs
  · exact .inl fun b hb=> .inr ⟨e,hb⟩
  · exact .inr (hs (l,k) (sM h))
 have hnext:=hnext _ ⟨σout,hQo,rfl⟩
 cases hdst:o.dst with
 |none=>
  refine hnext (kW rl σout ι' ι) (fun b=>S b∨(bor=[]∧S' b)) _ w' ?_
  rw[hdst]
  simp only[iB,bp,List.append_nil]
  exact hrw
 |some d=>
  have hd':=hd d hdst
  cases hq:aQ σout (.t 0) with
  |none=>
   refine hnext (kW rl σout ι' ι) (fun b=>S b∨(bor=[]∧S' b)) _ w' ?_
   rw[hdst]
   simp only[iB,bp,iC,hq,fT]
   exact hrw.putDead hd' v
  |some k=>
   cases k with
   |v X=>
    refine hnext (kW rl σout ι' ι) (fun b=>S b∨(bor=[]∧S' b)) _ w' ?_
    rw[hdst]
    simp only[iB,bp,iC,hq,fT]
    exact hrw.put hd' (aCa hk (hSK hq) (hpost.vr.slots 0 (.v X) hq))
   |_=>
    refine hnext (kW rl σout ι' ι) (fun b=>S b∨(bor=[]∧S' b)) _ w' ?_
    rw[hdst]
    simp only[iB,bp,iC,hq,fT]
    exact hrw.putDead hd' v
end
theorem RW.weaken {P:Program} {cx:Cx P} {io:List Nat} {σ:St} {ι:Nat→Value} {S:Nat→Prop} {a:Act} {w:World} (σ':St) (rl:List (Nat×Nat)) (bor:List Nat) (hm:jX σ σ' rl bor) (hk:yO io σ' rl bor=true) (hio: ∀o k,cx.kio o=some k→o∈io) (hw:RW cx σ ι S a w):RW cx σ' (fun j=>ι (iO rl j)) (pJ σ ι bor S) a w:=by
 have hkk: ∀o k,cx.kio o=some k→iO rl o=o∧o∈bJ σ'∧o∉bor:=fun o k ho=>by
  have:=aV8.1 hk o (hio o k ho)
  simp only[aVu,Bool.not_eq_true'] at this
  refine⟨Nat.eq_of_beq_eq_true this.1.1,fP.1 this.1.2,fun hb=> ?_⟩
  rw[fP.2 hb] at this;cases this.2
 have hvr:=pW hm (fun _ _ h=>h) hw.vr
 refine⟨hvr,hw.size,hw.defers,hw.fr,fun j b hmu=> ?_,fun b hb=> ?_,fun o k ho=> ?_⟩
 · exact hw.own _ b (hm.mut (fun _ _ h=>h) hmu)
 · rcases hb with hb|⟨o,ho,hmo⟩
   · exact hw.rd b hb
   · exact .inr (hw.own o b hmo)
 · obtain⟨q1,q2,q3⟩:=hkk o k ho
   obtain⟨k1,hk1,hev⟩:=hw.io o k ho
   obtain⟨p,hp⟩:=pV q2
   obtain⟨k2,hk2,hmk⟩:=hm.ids o p hp
   rw[q1] at hk2
   rw[hk1] at hk2;cases hk2
   refine⟨p,hp,?_⟩
   rw[q1]
   exact aB7 hev hmk
theorem RW.freeze {P:Program} {cx:Cx P} {σ:St} {ι:Nat→Value} {S:Nat→Prop} {a:Act} {w:World} (hw:RW cx σ ι S a w) {s o n:Nat} {e:TypeId} {es:Nat} {rows:List (List D)} (hs:aQ σ (.t s)=some (.v (.e (.c (.own o n))))) (ho:aQ σ (.o o)=some (.row e es rows)) (hn:rows.length=n):
 RW cx (jN (jN σ (.o o) .dead) (.t s) (.v (Dv (.sl rows)))) ι (fun b=>S b∨sJ (ι o) b) a w:=by
 have hlo: ∀o',aQ (jN (jN σ (.o o) .dead) (.t s) (.v (Dv (.sl rows)))) (.o o')=if o'=o then some .dead else aQ σ (.o o'):=fun o'=>by
  rw[bZ _ _ (by simp),eD]
  by_cases h:o'=o
  · subst h;simp
  · rw[aB (by simpa using fun e=>h e.symm),aB h]
 have hmut: ∀o' b,jL (jN (jN σ (.o o) .dead) (.t s) (.v (Dv (.sl rows)))) ι o' b→o'≠o∧jL σ ι o' b:=fun o' b ⟨⟨k,hk,hl⟩,hb⟩=>by
  rw[hlo] at hk
  by_cases h:o'=o
  · rw[aC h] at hk;cases hk;exact hl.elim
  · rw[aB h] at hk;exact⟨h,⟨k,hk,hl⟩,hb⟩
 have hmo: ∀b,sJ (ι o) b→jL σ ι o b:=fun b hb=>⟨⟨_,ho,trivial⟩,hb⟩
 have st:oA σ ι S w (jN (jN σ (.o o) .dead) (.t s) (.v (Dv (.sl rows)))) ι (fun b=>S b∨sJ (ι o) b) w:=by
  refine⟨fun b h=> .inl h,fun _ _=>rfl,fun o' k hk=> ?_⟩
  by_cases h:o'=o
  · exact⟨.dead,by rw[hlo,aC h],by cases k<;>simp[lB]⟩
  · exact⟨k,by rw[hlo,aB h];exact hk,lB.refl' _ _⟩
 have hrow:=hw.vr.objs o _ ho
 have hv:iD a s=ι o:=by
  obtain⟨_,h2⟩:=(show CR σ ι w S (.own o n) (iD a s) from hw.vr.slots s _ hs)
  rcases h2 with⟨e2,es2,rows2,hl,_,hv⟩|hd
  · rw[ho] at hl;cases hl;exact hv hn
  · rw[ho] at hd;cases hd
 refine⟨⟨fun t k hkt=> ?_,fun o' k hk=> ?_,fun o' b hm hS=> ?_,fun o1 o2 b h1 h2=> ?_,fun b hb=> ?_⟩,hw.size,hw.defers,hw.fr,fun o' b hm=>hw.own o' b (hmut o' b hm).2,fun b hb=> ?_,fun o' k hk'=> ?_⟩
 · rw[eD] at hkt
   by_cases e2:s=t
   · subst e2
     rw[aC rfl] at hkt;cases hkt
     show DR w _ (.sl rows) (iD a s)
     rw[hv]
     rcases hrow with⟨h1,h2⟩|⟨g,off,cap,cur,fz,h1,hh,hfz,h2,h3,h4,h5⟩
     · rw[h1,h2]
       exact DR.sl [] none 0 es ⟨0,0,none⟩ (fun _ _=>undef) (aVz _) (by decide) (by simp) (by simp) (by simp) (by simp)
     · rw[h1]
       let u:Nat→Nat→Value:=fun i k=>(cur[off+i*es+k]?).getD undef
       refine DR.sl rows (some ⟨g,off,none⟩) cap es ⟨g,off,none⟩ u h2 h3 (fun r hr=> ?_) (fun _=>rfl) (fun i r k d hi hd=> ?_) (fun i r k d hi hd=> ?_)
       · obtain⟨i,hi⟩:=List.mem_iff_getElem?.1 hr
         exact(h5 i r hi).1
       · obtain⟨v,hv1,_⟩:=(h5 i r hi).2 k d hd
         refine⟨.inr rfl,?_⟩
         rw[mS,cell_of_row w g _ cur e fz hh,← Nat.add_assoc]
         show cur[off+i*es+k]? =some ((cur[off+i*es+k]?).getD undef)
         rw[hv1];rfl
       · obtain⟨v,hv1,hv2⟩:=(h5 i r hi).2 k d hd
         have:u i k=v:=by show(cur[off+i*es+k]?).getD undef=v;rw[hv1];rfl
         rw[this]
         exact DR.mono (fun b h=> .inl h) (fun _ _=>rfl) hv2
   · rw[aB (by simpa using e2),bZ _ _ (by simp)] at hkt
     exact pR.step st (hw.vr.slots t k hkt)
 · rw[hlo] at hk
   by_cases h:o'=o
   · rw[aC h] at hk;cases hk;trivial
   · rw[aB h] at hk
     exact OR.step st (fun _ _=>rfl) (hw.vr.objs o' k hk)
 · obtain⟨hne,hm⟩:=hmut o' b hm
   rcases hS with hS|hS
   · exact hw.vr.mutS o' b hm hS
   · exact hne (hw.vr.inj o' o b hm (hmo b hS))
 · exact hw.vr.inj o1 o2 b (hmut o1 b h1).2 (hmut o2 b h2).2
 · rcases hb with hb|hb
   · exact hw.vr.sz b hb
   · exact OR.lt hrow trivial hb
 · rcases hb with hb|hb
   · exact hw.rd b hb
   · exact .inr (hw.own o b (hmo b hb))
 · obtain⟨k2,q1,q2⟩:=hw.io o' k hk'
   by_cases hne:o'=o
   · exact⟨.dead,by rw[hlo,aC hne],by cases k<;>trivial⟩
   · exact⟨k2,by rw[hlo,aB hne];exact q1,q2⟩
def tb (io:List Nat) (σ σ1:St):Prop:= ∀(P:Program) (cx:Cx P) (ι:Nat→Value) (S:Nat→Prop) (a:Act) (w:World),(∀o k,cx.kio o=some k→o∈io)→RW cx σ ι S a w→ ∃ι' S',RW cx σ1 ι' S' a w
theorem tb.rfl {io:List Nat} {σ:St}:tb io σ σ:=fun _ cx ι S a w _ h=>⟨ι,S,h⟩
theorem tb.trans {io:List Nat} {σ σ1 σ2:St} (h:tb io σ σ1) (k:tb io σ1 σ2):tb io σ σ2:=fun _ cx ι S a w hio hw=>by
 obtain⟨ι1,S1,h1⟩:=h _ cx ι S a w hio hw
 exact k _ cx ι1 S1 a w hio h1
theorem tb.weak {io:List Nat} {σ σ1:St} (rl:List (Nat×Nat)) (bor:List Nat) (hm:mL σ σ1 rl bor σ1) (hm2:ap σ1 rl bor=true) (hk:yO io σ1 rl bor=true):tb io σ σ1:=fun _ cx ι S a w hio hw=>⟨_,_,RW.weaken σ1 rl bor ⟨hm,hm2⟩ hk hio hw⟩
theorem tb.frz {io:List Nat} {σ:St} {s o n:Nat} {e:TypeId} {es:Nat} {rows:List (List D)} (hs:aQ σ (.t s)=some (.v (.e (.c (.own o n))))) (ho:aQ σ (.o o)=some (.row e es rows)) (hn:rows.length=n) (hk:gB o io=false):tb io σ (jN (jN σ (.o o) .dead) (.t s) (.v (Dv (.sl rows)))):=fun _ cx ι S a w hio hw=>
 ⟨_,_,hw.freeze hs ho hn⟩
theorem SW.frz {P:Program} {io:List Nat} {Q:Ex→St→Prop} {σ:St} {c:Code} (s o:Nat) {n:Nat} {e:TypeId} {es:Nat} {rows:List (List D)} (hs:aQ σ (.t s)=some (.v (.e (.c (.own o n))))) (ho:aQ σ (.o o)=some (.row e es rows)) (hn:rows.length=n) (hk:gB o io=false)
 (h:iz σ (.o o) .dead fun σ'=>iz σ' (.t s) (.v (Dv (.sl rows))) fun σ2=>SW P io c Q σ2):SW P io c Q σ:=fun cx ι S a w hio hw hf=>by
 rw[lQ,lQ] at h
 obtain⟨ι1,S1,h1⟩:=tb.frz hs ho hn hk _ cx ι S a w hio hw
 exact h cx ι1 S1 a w hio h1 hf
def aMe (P:Program) (T:gJ) (io:List Nat) (o:Oper) (σ:St) (k:St→Prop):Prop:=
 match mf T o σ with
 |some (p,_,W)=>p∧mJ σ W k
 |none=> ∃σ1,tb io σ σ1∧ ∃R Ws,OpE P o R Ws∧bO R σ1∧ ∀W,Ws W→mJ σ1 W k
theorem aD3 {P:Program} {T:gJ} (hT:eC P T) {io:List Nat} {o:Oper} {σ:St} {k:St→Prop} (h:aMe P T io o σ k): ∃σ1,tb io σ σ1∧ ∃R Ws,OpE P o R Ws∧bO R σ1∧ ∀W,Ws W→mJ σ1 W k:=by
 unfold aMe at h
 split at h
 · rename_i p R W he
   obtain⟨h1,h2⟩:=vS hT o σ p R W he h.1
   exact⟨σ,tb.rfl,R,_,h1.toE,h2,fun W' e=>by subst e;exact h.2⟩
 · exact h
def goE (P:Program) (T:gJ) (io:List Nat) (ops:List Oper):List Oper→St→(St→Prop)→Prop
 | [],σ,k=>k σ
 |o::os,σ,k=>match o.guard with
  |none=>aMe P T io o σ fun σ'=>goE P T io ops os σ' k
  |some (j,want)=>match(ops[j]?).bind (·.dst),o.dst with
   |some s,some d=>match gOf want (aQ σ (.t s)) with
    |some g=>ja P T o σ s want g d fun R X=>iz σ (.t d) (.cv s want g X) fun σ'=>goE P T io ops os σ' k
    |none=>False
   |_,_=>False
theorem mi {P:Program} {T:gJ} (hT:eC P T) {io:List Nat} {ops:Array Oper} {cx:Cx P} (hio: ∀o k,cx.kio o=some k→o∈io) {Q:Exit→Act→World→Prop} {k:St→Prop} (hk: ∀σ ι S a w,k σ→RW cx σ ι S a w→Q .normal a w): ∀(l:List Oper) (σ:St) (ι:Nat→Value) (S:Nat→Prop) (a:Act) (w:World),goE P T io ops.toList l σ k→RW cx σ ι S a w→(∀o∈l,∀d,o.dst=some d→d<cx.N)→wpList P ops Q l a w
 | [],σ,ι,S,a,w,h,hw,hf=>hk σ ι S a w h hw
 |o::os,σ,ι,S,a,w,h,hw,hf=>by
  have hfo:=hf o (List.mem_cons_self ..)
  have hfs: ∀o∈os,∀d,o.dst=some d→d<cx.N:=fun o ho=>hf o (List.mem_cons_of_mem _ ho)
  unfold wpList
  simp only[goE] at h
  split at h
  · rename_i hg
    obtain⟨σ1,hwk,R,Ws,h1,h2,h3⟩:=aD3 hT h
    rw[aC (by simp[Region.wanted,hg])]
    obtain⟨ι1,S1,hw1⟩:=hwk _ cx ι S a w hio hw
    refine .inl (h1 cx σ1 ι1 S1 a w h2 hw1 hfo _ Q fun W hW ι' S' a' w' hw'=> ?_)
    have h3:=h3 W hW
    rw[kA] at h3
    exact mi hT hio hk os _ ι' S' a' w' h3 hw' hfs
  · rename_i j want hg
    split at h<;>try(exact h.elim)
    rename_i s d hs hd
    split at h<;>try(exact h.elim)
    rename_i g hl
    have hs': (ops[j]?).bind (·.dst)=some s:=by simpa using hs
    obtain⟨R,X,h1,h2⟩:=bv hT hg hs' hd hl h
    rw[lQ] at h2
    exact h1 cx σ ι S a w jb hw hfo _ Q fun ι' S' a' w' hw'=>mi hT hio hk os _ ι' S' a' w' (by simpa[fT] using h2) hw' hfs
section
variable {P:Program} {io:List Nat} {Q:Ex→St→Prop} {σ:St}
theorem SW.regE {T:gJ} (hT:eC P T) (ks:List Nat) {id:Nat} {ops:Array Oper} (h:goE P T io ops.toList ops.toList σ fun σ'=>uW ks σ' (Q .norm)):SW P io (.region id ops false) Q σ:=by
 intro cx ι S a w hio hw hf
 have hfit: ∀o∈ops.toList,∀d,o.dst=some d→d<cx.N:=fun o ho=>bl (by simpa[tQ] using hf) ho
 refine wp_region_list (mi hT hio (fun σ' ι' S' a' w' h4 hw'=> ?_) ops.toList σ ι S a w h hw hfit)
 rw[nH] at h4
 exact⟨_,ι',S',h4,hw'.keep ks⟩
end
section
variable {P:Program} {T:gJ} {io:List Nat} {f:FuncId} {n:Nat} {σin:St} {o:Oper} {c:Call} {d:Nat} {σ σ1:St} {Xs:List V} {Ra:List (cL×Option K)}
theorem qF {Qo:St→Prop} {rl:List (Nat×Nat)} {bor news:List Nat} {robj:List (Nat×K)} {k:St→Prop} (hs:SpecE P f n σin Qo) (ho:o.op= .call c) (hc:c.callee= .value (.func f)) (hx:ri σ c.args.toList=some (Xs,Ra)) (hn:Xs.length=n)
 (hm:jX (dJ 0 Xs++kP robj) σin rl bor) (hq: ∀σout,Qo σout→gV rl σin σout=true∧(bor=[]∨gU σout)∧ ∀j∈fI σin σout,j∈news) (h1: ∀p∈robj,aQ σ (.o p.1)=some p.2) (h2: ∀j∈news,aQ σ (.o (iO rl j))=none)
 (h: ∀σout,Qo σout→mJ σ (iB rl σin σout o.dst) k): ∃σ1,tb io σ σ1∧ ∃R Ws,OpE P o R Ws∧bO R σ1∧ ∀W,Ws W→mJ σ1 W k:=by
 refine⟨σ,tb.rfl,_,_,aAk hs ho hc hx hn hm hq,fun p hp=> ?_,fun W ⟨σout,hQ,e⟩=>e▸h σout hQ⟩
 rcases List.mem_append.1 hp with hp|hp
 · rcases List.mem_append.1 hp with hp|hp
   · exact rM hx p hp
   · obtain⟨q,hq,rfl⟩:=aV5.1 hp
     exact h1 q hq
 · obtain⟨j,hj,rfl⟩:=aV5.1 hp
   exact h2 j hj
theorem aMf {k:St→Prop} (s o':Nat) {m:Nat} {e:TypeId} {es:Nat} {rows:List (List D)} (hs:aQ σ (.t s)=some (.v (.e (.c (.own o' m))))) (ho:aQ σ (.o o')=some (.row e es rows)) (hn:rows.length=m) (hk:gB o' io=false)
 (h:iz σ (.o o') .dead fun σ'=>iz σ' (.t s) (.v (Dv (.sl rows))) fun σ2=> ∃σ1,tb io σ2 σ1∧ ∃R Ws,OpE P o R Ws∧bO R σ1∧ ∀W,Ws W→mJ σ1 W k): ∃σ1,tb io σ σ1∧ ∃R Ws,OpE P o R Ws∧bO R σ1∧ ∀W,Ws W→mJ σ1 W k:=by
 rw[lQ,lQ] at h
 obtain⟨σ1,h1,h2⟩:=h
 exact⟨σ1,(tb.frz hs ho hn hk).trans h1,h2⟩
theorem aIn {k:St→Prop} (h: ∃R W,yE P o R W∧bO R σ∧mJ σ W k): ∃σ1,tb io σ σ1∧ ∃R Ws,OpE P o R Ws∧bO R σ1∧ ∀W,Ws W→mJ σ1 W k:=by
 obtain⟨R,W,h1,h2,h3⟩:=h
 exact⟨σ,tb.rfl,R,_,h1.toE,h2,fun W' e=>by subst e;exact h3⟩
end
theorem aq {T:gJ} {io:List Nat} {rs:List ResultVar} {Qo:St→Prop} {s:St} (σout:St) (hq:Qo σout) (h:xJ T io rs σout s): ∃σout,Qo σout∧xJ T io rs σout s:=⟨σout,hq,h⟩
def inP (p v:Value):Prop:= ∃vs,p= .tuple vs∧v∈vs.toList
abbrev aVf (b tot:Nat):Value:= .slice (some ⟨b,0,none⟩) tot tot
def aCh (w:World) (S:Nat→Prop) (e:TypeId) (es:Nat) (Pr:List D→Prop) (b tot:Nat):Prop:=
 ∃(cur:Array Value) (fz:Nat×Nat),w.heap[b]? =some (.cells cur e fz)∧aLh fz cur.size∧cur.size=tot*es∧ ∀i,i<tot→ ∃r:List D,r.length=es∧Pr r∧ ∀(k:Nat) d,r[k]? =some d→ ∃u,cur[i*es+k]? =some u∧DR w S d u
theorem aCh.mono {w w':World} {S S':Nat→Prop} {e:TypeId} {es:Nat} {Pr:List D→Prop} {b tot:Nat} (hS: ∀b,S b→S' b) (hw: ∀b,S b→w'.heap[b]? =w.heap[b]?) (hb:w'.heap[b]? =w.heap[b]?) (h:aCh w S e es Pr b tot):aCh w' S' e es Pr b tot:=by
 obtain⟨cur,fz,hh,hf,hs,hr⟩:=h
 refine⟨cur,fz,by rw[hb];exact hh,hf,hs,fun i hi=> ?_⟩
 obtain⟨r,q1,q2,q3⟩:=hr i hi
 exact⟨r,q1,q2,fun k d hk=>by obtain⟨u,hu,hd⟩:=q3 k d hk;exact⟨u,hu,DR.mono hS hw hd⟩⟩
def slQ (es n:Nat) (p v:Value):Prop:=(v= .slice none 0 0∧n=0)∨ ∃b i0 cap tot,v= .slice (some ⟨b,i0*es,none⟩) n cap∧n≤cap∧cap≤maxLen∧i0+cap≤tot∧inP p (aVf b tot)
def ptQ (es k:Nat) (p v:Value):Prop:= ∃b i tot,v= .pointer (some ⟨b,i*es+k,none⟩)∧i<tot∧inP p (aVf b tot)
abbrev ps (j es n:Nat):C:= .z j (slQ es n)
theorem slQ.mono {es n:Nat} {p p' v:Value} (h: ∀v,inP p v→inP p' v) (hq:slQ es n p v):slQ es n p' v:=by
 rcases hq with hq|⟨b,i0,cap,tot,q1,q2,q3,q4,q5⟩
 · exact .inl hq
 · exact .inr ⟨b,i0,cap,tot,q1,q2,q3,q4,h _ q5⟩
theorem ptQ.mono {es n:Nat} {p p' v:Value} (h: ∀v,inP p v→inP p' v) (hq:ptQ es n p v):ptQ es n p' v:=by
 obtain⟨b,i,tot,q1,q2,q3⟩:=hq
 exact⟨b,i,tot,q1,q2,h _ q3⟩
theorem slQ.one {es n:Nat} {p v:Value} (h:slQ es n p v):v.oneCell'=true:=by
 rcases h with⟨rfl,_⟩|⟨b,i0,cap,tot,rfl,_⟩<;>rfl
section
variable {P:Program} {T:gJ} {cx:Cx P} {σ:St} {ι:Nat→Value} {S:Nat→Prop} {a:Act} {w:World} {j es n:Nat} {e:TypeId} {Pr:List D→Prop} {Z:qk} {Q:Value→Value→Prop} {v:Value}
end
section
variable {P:Program} {T:gJ} {o:Oper} {σ:St} {x y:Operand} {t e:TypeId} {s1 s2 d j es n:Nat} {s3:List C} {Z:qk} {R R2:List (cL×Option K)} {k:List (cL×Option K)→List (cL×K)→Prop} {Pr:List D→Prop} {ti:TI}
end
section
variable {P:Program} {ops:Array Oper} {cx:Cx P} {Q:Exit→Act→World→Prop} {σ:St}
theorem aCi (hedge:rX 0 ops.toList=true) {listed:Array Bool} (hcl: ∀k o,ops[k]? =some o→listed.getD k false=true→ ∀i∈jW o,listed.getD i false=true): ∀(k:Nat),∀o,ops[k]? =some o→(∀i∈jW o,listed.getD i false=true)→ ∀i∈(lP ops.toList []).getD k [],listed.getD i false=true:=by
 have hedge': ∀(j:Nat) o,ops[j]? =some o→ ∀i∈jW o,i<j:=fun j o ho i hi=>by
  have:=pT 0 ops.toList hedge j o (by simpa using ho) i hi;omega
 have hpl: ∀(j:Nat) o,ops[j]? =some o→(lP ops.toList [])[j]? =some ((jW o).flatMap fun i=>i::(lP ops.toList []).getD i []):=fun j o ho=>by
  have:=ix ops.toList [] j o (by simpa using ho) hedge
  simpa using this
 intro k
 induction k using Nat.strongRecOn with
 |_ k ih=>
  intro o ho hp i hi
  rw[aVy,hpl k o ho] at hi
  simp only[Option.getD_some,List.mem_flatMap] at hi
  obtain⟨i',hi',hi⟩:=hi
  rcases aV6.1 hi with rfl|hi
  · exact hp i hi'
  · have hlt:=hedge' k o ho i' hi'
    have hsz':k<ops.size:=(Array.getElem?_eq_some_iff.1 ho).1
    have ho':ops[i']? =some ops[i']:=Array.getElem?_eq_getElem (by omega)
    exact ih i' hlt _ ho' (hcl i' _ ho' (hp i' hi')) i hi
theorem tc {ts:List lO} (hlen:ts.length=ops.size) (hr:jP ts σ) (hok:rY ops.toList ts=true):
 ∀(fuel:Nat) (listed:Array Bool) (σL:St) (ι:Nat→Value) (S:Nat→Prop) (a:Act) (w:World),listed.size=ops.size→(∀l,aQ σL l=part ts (fun i=>listed.getD i false) σ l ts.length)→RW cx σL ι S a w→
  (∀k o,ops[k]? =some o→listed.getD k false=true→ ∀i∈jW o,listed.getD i false=true)→
  (Region.ready .any ops listed=[]→RW cx (eM ts σ) ι S a w)∧ ∀i∈Region.ready .any ops listed,∃o t,ops[i]? =some o∧ts[i]? =some t∧i<ops.size∧listed.getD i false=false∧bO t.1 σL∧
   (∀k o,ops[k]? =some o→(listed.setIfInBounds i true).getD k false=true→ ∀i'∈jW o,(listed.setIfInBounds i true).getD i' false=true)∧(∀j,(listed.setIfInBounds i true).getD j false=if j=i then true else listed.getD j false)∧
   ∀l,aQ (fT σL t.2) l=part ts (fun j=>(listed.setIfInBounds i true).getD j false) σ l ts.length:=by
 simp only[rY,aVu] at hok
 obtain⟨hedge,hpair⟩:=hok
 have hedge': ∀(j:Nat) o,ops[j]? =some o→ ∀i∈jW o,i<j:=fun j o ho i hi=>by
  have:=pT 0 ops.toList hedge j o (by simpa using ho) i hi;omega
 have hpl: ∀(j:Nat) o,ops[j]? =some o→(lP ops.toList [])[j]? =some ((jW o).flatMap fun i=>i::(lP ops.toList []).getD i []):=fun j o ho=>by
  have:=ix ops.toList [] j o (by simpa using ho) hedge
  simpa using this
 intro fuel listed σL ι S a w hsz hlook hw hcl
 have hclosed: ∀(k:Nat),∀o,ops[k]? =some o→(∀i∈jW o,listed.getD i false=true)→ ∀i∈(lP ops.toList []).getD k [],listed.getD i false=true:=by
  intro k
  induction k using Nat.strongRecOn with
  |_ k ih=>
   intro o ho hp i hi
   rw[aVy,hpl k o ho] at hi
   simp only[Option.getD_some,List.mem_flatMap] at hi
   obtain⟨i',hi',hi⟩:=hi
   rcases aV6.1 hi with rfl|hi
   · exact hp i hi'
   · have hlt:=hedge' k o ho i' hi'
     have hsz':k<ops.size:=(Array.getElem?_eq_some_iff.1 ho).1
     have ho':ops[i']? =some ops[i']:=Array.getElem?_eq_getElem (by omega)
     exact ih i' hlt _ ho' (hcl i' _ ho' (hp i' hi')) i hi
 refine⟨fun hnil=> ?_,fun i hi=> ?_⟩
 · have hall: ∀k,k<ops.size→listed.getD k false=true:=by
    intro k
    induction k using Nat.strongRecOn with
    |_ k ih=>
     intro hk
     cases hL:listed.getD k false with
     |true=>rfl
     |false=>
      have ho:ops[k]? =some ops[k]:=Array.getElem?_eq_getElem hk
      have:k∈Region.ready .any ops listed:=mem_ready.2 ⟨oQ.2 ⟨by omega,hL⟩,_,ho,fun e he hb=>by
       have hm:e.on∈jW ops[k]:=aV5.2 ⟨e,List.mem_filter.2 ⟨by simpa using he,hb⟩,rfl⟩
       have:=hedge' k _ ho _ hm
       exact ih e.on this (by omega)⟩
      rw[hnil] at this;cases this
   refine hw.congr fun l=> ?_
   rw[hlook l,bm ts σ l _ ts.length (aVz _) (fun i hi=>hall i (by omega)),aV3]
 · obtain⟨hun,o,ho,hall⟩:=mem_ready.1 hi
   obtain⟨hisz,hLi⟩:=oQ.1 hun
   have hit':i<ts.length:=by omega
   have hti:ts[i]? =some ts[i]:=aV1 hit'
   have hpreds: ∀i'∈jW o,listed.getD i' false=true:=by
    intro i' hi'
    obtain⟨e,he,rfl⟩:=aV5.1 hi'
    obtain⟨he1,he2⟩:=List.mem_filter.1 he
    exact hall e (by simpa using he1) he2
   have hset: ∀j,(listed.setIfInBounds i true).getD j false=if j=i then true else listed.getD j false:=by
    intro j
    rw[Array.getD_eq_getD_getElem?,Array.getD_eq_getD_getElem?]
    by_cases e:j=i
    · subst e;simp[hisz]
    · rw[aB e,Array.getElem?_setIfInBounds_ne (fun h=>e h.symm)]
   have later: ∀j u,i<j→listed.getD j false=true→ts[j]? =some u→pB (oP ts[i]) (oP u)=true:=by
    intro j u hij hLj hu
    have hjl:j<ts.length:=(aV2.1 hu).1
    have hoj:ops[j]? =some ops[j]:=Array.getElem?_eq_getElem (by omega)
    rcases pU hpair j i hjl hij (oP ts[i]) (oP u) _ (by simp[hti]) (by simp[hu]) (hpl j _ hoj) with h|h
    · have:=hclosed j _ hoj (hcl j _ hoj hLj) i (by rw[aVy,hpl j _ hoj];exact h)
      rw[hLi] at this;cases this
    · exact h
   have earlier: ∀j u,j<i→listed.getD j false=false→ts[j]? =some u→pB (oP u) (oP ts[i])=true:=by
    intro j u hij hLj hu
    rcases pU hpair i j hit' hij (oP u) (oP ts[i]) _ (by simp[hu]) (by simp[hti]) (hpl i _ ho) with h|h
    · have:=hclosed i _ ho hpreds j (by rw[aVy,hpl i _ ho];exact h)
      rw[hLj] at this;cases this
    · exact h
   have hreads:bO ts[i].1 σL:=by
    intro p hp
    rw[hlook p.1,gg hLi (fun j u hj hLj hu=>by
     have:=earlier j u hj hLj hu
     simp only[pB,aVu] at this
     exact aDr this.1.2 hp) (fun j u hj hLj hu=>by
     have:=later j u hj hLj hu
     simp only[pB,aVu] at this
     exact aDq this.2 hp),show min ts.length i=i by omega,bm ts σ p.1 _ i (by omega) (fun _ _=>rfl)]
    exact bo ts σ hr i _ hti p hp
   refine⟨o,ts[i],ho,hti,by omega,hLi,hreads,fun k o' ho' hk i' hi'=> ?_,hset,fun l=> ?_⟩
   · rw[hset] at hk ⊢
     by_cases e:i'=i
     · rw[aC e]
     · rw[aB e]
       by_cases e2:k=i
       · subst e2;rw[ho] at ho';cases ho';exact hpreds i' hi'
       · rw[aB e2] at hk;exact hcl k o' ho' hk i' hi'
   · rw[jM,se hti hLi hset (fun j u hj hLj hu hne=>by
      have:=later j u hj hLj hu
      simp only[pB,aVu] at this
      exact aDp this.1.1 hne) ts.length,aC hit',hlook l]
     all_goals(cases wr ts[i].2 l<;>rfl)
theorem aGx {κ:Type} {ts:κ→List lO} {i0:Nat} {o0:Oper} {R0:List (cL×Option K)} {Ws:List (cL×K)→Prop} (hlen: ∀c,(ts c).length=ops.size) (ho0:ops[i0]? =some o0) (hg0:o0.guard=none) (h0:OpE P o0 R0 Ws) (hR0: ∀c t,(ts c)[i0]? =some t→t.1=R0) (hW0: ∀W,Ws W→ ∃c,(ts c)[i0]? =some (R0,W))
 (hit: ∀c (i:Nat) o t,i≠i0→ops[i]? =some o→(ts c)[i]? =some t→ItT P ops o t) (hind: ∀c c' (j:Nat),j≠i0→i0∉ (lP ops.toList []).getD j []→(ts c)[j]? =(ts c')[j]?) (hr: ∀c,jP (ts c) σ) (hok: ∀c,rY ops.toList (ts c)=true) (hf: ∀o∈ops.toList,∀d,o.dst=some d→d<cx.N)
 (hq: ∀c ι' S' a' w',RW cx (eM (ts c) σ) ι' S' a' w'→Q .normal a' w'):
 ∀(fuel:Nat) (c:κ) (listed:Array Bool) (σL:St) (ι:Nat→Value) (S:Nat→Prop) (a:Act) (w:World),listed.size=ops.size→(∀l,aQ σL l=part (ts c) (fun i=>listed.getD i false) σ l (ts c).length)→RW cx σL ι S a w→
  (∀k o,ops[k]? =some o→listed.getD k false=true→ ∀i∈jW o,listed.getD i false=true)→((aV7 ops.size).filter fun i=> !listed.getD i false).length≤fuel→wpAny P .any ops Q fuel listed a w:=by
 have hedge: ∀c,rX 0 ops.toList=true:=fun c=>by have:=hok c;simp only[rY,aVu] at this;exact this.1
 intro fuel
 induction fuel with
 |zero=>
  intro c listed σL ι S a w hsz hlook hw hcl hcount
  obtain⟨h1,h2⟩:=tc (hlen c) (hr c) (hok c) 0 listed σL ι S a w hsz hlook hw hcl
  have hnil:Region.ready .any ops listed=[]:=by
   apply List.eq_nil_iff_forall_not_mem.2
   intro i hi
   obtain⟨o,t,ho,ht,hlt,hLi,_⟩:=h2 i hi
   have:i∈(aV7 ops.size).filter fun i=> !listed.getD i false:=List.mem_filter.2 ⟨List.mem_range.2 hlt,by rw[hLi];rfl⟩
   rw[List.eq_nil_of_length_eq_zero (by omega: ((aV7 ops.size).filter fun i=> !listed.getD i false).length=0)] at this
   cases this
  exact⟨hnil,hq c _ _ _ _ (h1 hnil)⟩
 |succ fuel ih=>
  intro c listed σL ι S a w hsz hlook hw hcl hcount
  obtain⟨h1,h2⟩:=tc (hlen c) (hr c) (hok c) 0 listed σL ι S a w hsz hlook hw hcl
  refine⟨fun hn=>hq c _ _ _ _ (h1 hn),fun i hi=> ?_⟩
  obtain⟨o,t,ho,ht,hlt,hLi,hreads,hcl',hset,hlook'⟩:=h2 i hi
  unfold wpOp
  rw[ho]
  have hfo:=hf o (by have:=Array.mem_of_getElem? ho;simpa using this)
  have hdrop:=ny (N:=ops.size) (L:=fun j=>listed.getD j false) (L':=fun j=>(listed.setIfInBounds i true).getD j false) hlt hLi hset
  by_cases hi0:i=i0
  · subst hi0
    rw[ho0] at ho;cases ho
    have hRt:=hR0 c t ht
    dsimp only
    rw[aC (by simp[Region.wanted,hg0])]
    refine .inl (h0 cx σL ι S a w (by rw[← hRt];exact hreads) hw hfo _ Q fun W hW ι' S' a' w' hw'=> ?_)
    obtain⟨c',hc'⟩:=hW0 W hW
    have hsame: ∀l,aQ σL l=part (ts c') (fun i=>listed.getD i false) σ l (ts c').length:=fun l=>by
     rw[hlook l,hlen c,hlen c']
     have hclosed:=aCi (hedge c) hcl
     have: ∀n,n≤ops.size→part (ts c) (fun i=>listed.getD i false) σ l n=part (ts c') (fun i=>listed.getD i false) σ l n:=by
      intro n
      induction n with
      |zero=>intro _;rfl
      |succ n ihn=>
       intro hn
       rw[nE,nE,ihn (by omega)]
       by_cases hLn:listed.getD n false=true
       · have hon:ops[n]? =some ops[n]:=Array.getElem?_eq_getElem (by omega)
         have hne:n≠i:=fun e=>by rw[e,hLi] at hLn;cases hLn
         have hni:i∉ (lP ops.toList []).getD n []:=fun hm=>by
          have:=hclosed n _ hon (hcl n _ hon hLn) i hm
          rw[hLi] at this;cases this
         rw[hind c c' n hne hni]
       · rw[aB hLn,aB hLn]
     exact this _ (aVz _)
    obtain⟨_,h2'⟩:=tc (hlen c') (hr c') (hok c') 0 listed σL ι S a w hsz hsame hw hcl
    obtain⟨o2,t2,ho2,ht2,_,_,_,_,_,hlook2⟩:=h2' i hi
    rw[hc'] at ht2;cases ht2
    exact ih c' (listed.setIfInBounds i true) (fT σL W) ι' S' a' w' (by simpa using hsz) hlook2 hw' hcl' (by omega)
  · refine hit c i o t hi0 ho ht cx σL ι S a w hreads hw hfo _ Q fun ι' S' a' w' hw'=> ?_
    exact ih c (listed.setIfInBounds i true) (fT σL t.2) ι' S' a' w' (by simpa using hsz) hlook' hw' hcl' (by omega)
end
def aTl:Option lO→lO→Prop
 |none,_=>True
 |some t,t'=>t'=t
def aMg (P:Program) (T:gJ) (fx:Nat→Option lO):List Oper→Nat→St→List ej→(St→List ej→Prop)→Prop
 | [],_,σ,acc,k=>k σ acc
 |o::os,i,σ,acc,k=>match o.guard with
  |none=>aIl P T o σ fun R W=>aTl (fx i) (R,W)∧mJ σ W fun σ'=>aMg P T fx os (i+1) σ' (acc++[oP (R,W)]) k
  |some _=>False
theorem td {P:Program} {T:gJ} (hT:eC P T) {ops:Array Oper} {fx:Nat→Option lO} {k:St→List ej→Prop}: ∀(l:List Oper) (i:Nat) (σ:St) (acc:List ej),aMg P T fx l i σ acc k→
 ∃ts:List lO,ao P ops l ts∧jP ts σ∧(∀j t,ts[j]? =some t→aTl (fx (i+j)) t)∧k (eM ts σ) (acc++ts.map oP)
 | [],i,σ,acc,h=>⟨[],trivial,trivial,by simp,by simpa[aMg,eM] using h⟩
 |o::os,i,σ,acc,h=>by
  simp only[aMg] at h
  split at h
  · rename_i hg
    obtain⟨R,W,h1,h2,h3,h4⟩:=ol hT h
    rw[kA] at h4
    obtain⟨ts,q1,q2,q3,q4⟩:=td hT os _ _ _ h4
    refine⟨(R,W)::ts,⟨bj hg h1,q1⟩,⟨h2,q2⟩,fun j t hj=> ?_,by simpa[eM] using q4⟩
    cases j with
    |zero=>simp at hj;subst hj;exact h3
    |succ j=>rw[show i+(j+1)=i+1+j by omega];exact q3 j t (by simpa using hj)
  · exact h.elim
def aTm (i0:Nat) (fx:Nat→Option lO) (ops:Array Oper):Bool:=(aV7 ops.size).all fun j=>decide (j≤i0)||(fx j).isSome||gB i0 ((lP ops.toList []).getD j [])
theorem jd {P:Program} {ops:Array Oper}: ∀(l:List Oper) (ts:List lO),ao P ops l ts→ts.length=l.length∧ ∀(i:Nat) o t,l[i]? =some o→ts[i]? =some t→ItT P ops o t:=by
 intro l
 induction l with
 |nil=>intro ts h;cases ts with
  |nil=>exact⟨rfl,by simp⟩
  |cons t ts=>exact h.elim
 |cons o os ih=>intro ts h;cases ts with
  |nil=>exact h.elim
  |cons t ts=>
   obtain⟨q1,q2⟩:=ih ts h.2
   refine⟨by simp[q1],fun i o' t' ho ht=> ?_⟩
   cases i with
   |zero=>simp at ho ht;subst ho;subst ht;exact h.1
   |succ i=>exact q2 i o' t' (by simpa using ho) (by simpa using ht)
theorem ar: ∀(ts us:List lO) (σ:St),jP ts σ→jP us (eM ts σ)→jP (ts++us) σ
 | [],us,σ,_,h=>h
 |t::ts,us,σ,h1,h2=>⟨h1.1,ar ts us _ h1.2 h2⟩
theorem SW.regDE {P:Program} {T:gJ} {io:List Nat} {Q:Ex→St→Prop} {σ:St} (hT:eC P T) (hm:P.follows .mixedOrders=true) (ks:List Nat) (i0:Nat) (fx:Nat→Option lO) {id:Nat} {ops:Array Oper} {o0:Oper} (ho:ops.toList[i0]? =some o0) (hg:o0.guard=none) (hfx:aTm i0 fx ops=true)
 (h:goC P T ops.toList true (ops.toList.take i0) σ [] fun σ1 acc=> ∃R0 Ws,OpE P o0 R0 Ws∧bO R0 σ1∧(∃W,Ws W)∧ ∀W,Ws W→mJ σ1 W fun σ2=>aMg P T fx (ops.toList.drop (i0+1)) (i0+1) σ2 (acc++[oP (R0,W)]) fun σ' ns=>mh ops.toList ns=true∧uW ks σ' (Q .norm)):
 SW P io (.region id ops true) Q σ:=by
 intro cx ι S a w hio hw hf
 have hfit: ∀o∈ops.toList,∀d,o.dst=some d→d<cx.N:=fun o ho=>bl (by simpa[tQ] using hf) ho
 obtain⟨tA,h1,h2,acc,h3,R0,Ws,h4,h5,⟨W0,hW0⟩,h6⟩:=xM hT (ops.toList.take i0) σ [] h
 have h3:=h3 rfl
 rw[List.nil_append] at h3
 subst h3
 have hi0:i0<ops.toList.length:=(aV2.1 ho).1
 have hsz:ops.toList.length=ops.size:=Array.length_toList
 have hAl:tA.length=i0:=by rw[(jd _ _ h1).1,aV0];omega
 have h7: ∀W: {W // Ws W},∃tB:List lO,ao P ops (ops.toList.drop (i0+1)) tB∧jP tB (fT (eM tA σ) W.1)∧(∀j t,tB[j]? =some t→aTl (fx (i0+1+j)) t)∧mh ops.toList ((tA.map oP++[oP (R0,W.1)])++tB.map oP)=true∧Q .norm (Ab.keep ks (eM tB (fT (eM tA σ) W.1))):=fun⟨W,hW⟩=>by
  have h8:=h6 W hW
  rw[kA] at h8
  obtain⟨tB,q1,q2,q3,q4,q5⟩:=td (ops:=ops) hT _ _ _ _ h8
  rw[nH] at q5
  exact⟨tB,q1,q2,q3,q4,q5⟩
 let tB:=fun W: {W // Ws W}=>Classical.choose (h7 W)
 have hB:=fun W: {W // Ws W}=>Classical.choose_spec (h7 W)
 let ts:=fun W: {W // Ws W}=>tA++(R0,W.1)::tB W
 have hBl: ∀W,(tB W).length=ops.size - (i0+1):=fun W=>by have:=(jd _ _ (hB W).1).1;rw[aV4,hsz] at this;exact this
 have hrun: ∀W,eM (ts W) σ=eM (tB W) (fT (eM tA σ) W.1):=fun W=>by
  show eM (tA++(R0,W.1)::tB W) σ=_
  rw[wM];rfl
 have hget: ∀W j,(ts W)[j]? =if j<i0 then tA[j]? else if j=i0 then some (R0,W.1) else(tB W)[j - (i0+1)]?:=fun W j=>by
  show(tA++(R0,W.1)::tB W)[j]? =_
  by_cases c1:j<i0
  · rw[aC c1,List.getElem?_append_left (by omega)]
  · rw[aB c1,List.getElem?_append_right (by omega),hAl]
    by_cases c2:j=i0
    · rw[aC c2,c2,Nat.sub_self];rfl
    · rw[aB c2,show j - i0=(j - (i0+1))+1 by omega,List.getElem?_cons_succ]
 have hlen: ∀W,(ts W).length=ops.size:=fun W=>by
  show(tA++(R0,W.1)::tB W).length=_
  rw[aVt,aVw,hBl,hAl];omega
 have ho':ops[i0]? =some o0:=by simpa using ho
 refine wp_region_any hm (aGx (κ:={W // Ws W}) (cx:=cx) (σ:=σ) (ts:=ts) (i0:=i0) hlen ho' hg h4 (fun W t ht=>by rw[hget,aB (by omega),aC rfl] at ht;cases ht;rfl) (fun W hW=>⟨⟨W,hW⟩,by rw[hget,aB (by omega),aC rfl]⟩)
  (fun W i o t hne ho2 ht=> ?_) (fun W W' j hne hni=> ?_) (fun W=>ar _ _ _ h2 ⟨h5,(hB W).2.1⟩) (fun W=> ?_) hfit (fun W ι' S' a' w' hw'=>⟨_,ι',S',(hB W).2.2.2.2,by rw[hrun] at hw';exact hw'.keep ks⟩)
  ops.size ⟨W0,hW0⟩ (Array.replicate ops.size false) σ ι S a _ (by simp) (fun l=> ?_) hw.drew (fun k o ho hk=> ?_) ?_)
 · rw[hget] at ht
   by_cases c1:i<i0
   · rw[aC c1] at ht
     exact(jd _ _ h1).2 i o t (by rw[List.getElem?_take,aC c1];simpa using ho2) ht
   · rw[aB c1,aB hne] at ht
     exact(jd _ _ (hB W).1).2 (i - (i0+1)) o t (by rw[List.getElem?_drop,show i0+1+(i - (i0+1))=i by omega];simpa using ho2) ht
 · rw[hget,hget]
   by_cases c1:j<i0
   · rw[aC c1,aC c1]
   · rw[aB c1,aB c1,aB hne,aB hne]
     by_cases c3:j<ops.size
     · have hd:=aV8.1 hfx j (List.mem_range.2 c3)
       simp only[aWc,aD] at hd
       rcases hd with(hd|hd)|hd
       · omega
       · obtain⟨t,ht⟩:=Option.isSome_iff_exists.1 hd
         have e: ∀W,(tB W)[j - (i0+1)]? =some t:=fun W=>by
          have hl:j - (i0+1)< (tB W).length:=by rw[hBl];omega
          have:=(hB W).2.2.1 (j - (i0+1)) _ (aV1 hl)
          rw[show i0+1+(j - (i0+1))=j by omega,ht] at this
          rw[aV1 hl]
          exact aA some this
         rw[e W,e W']
       · exact absurd (fP.1 hd) hni
     · rw[List.getElem?_eq_none (by rw[hBl];omega),List.getElem?_eq_none (by rw[hBl];omega)]
 · have:=oj (hB W).2.2.2.1
   have e: (tA.map oP++[oP (R0,W.1)])++(tB W).map oP=(ts W).map oP:=by
    show _=(tA++(R0,W.1)::tB W).map oP
    simp
   have this:yN ops.toList ((tA.map oP++[oP (R0,W.1)])++(tB W).map oP)=true:=this
   rw[e] at this
   simpa[rY,yN] using this
 · have hL: ∀i,(Array.replicate ops.size false).getD i false=false:=fun i=>by
    rw[Array.getD_eq_getD_getElem?,Array.getElem?_replicate];split<;>rfl
   have: ∀n,part (ts ⟨W0,hW0⟩) (fun i=>(Array.replicate ops.size false).getD i false) σ l n=aQ σ l:=by
    intro n
    induction n with
    |zero=>rfl
    |succ n ih=>rw[nE,aB (by rw[hL];simp),ih]
   rw[this]
 · rw[Array.getD_eq_getD_getElem?,Array.getElem?_replicate] at hk;split at hk<;>cases hk
 · exact Nat.le_trans (List.length_filter_le _ _) (by simp)
section
variable {P:Program} {T:gJ} {io:List Nat} {f:FuncId} {n:Nat} {σin:St} {o:Oper} {c:Call} {d:Nat} {σ σ1:St} {Xs:List V} {Ra:List (cL×Option K)}
theorem aPn {Qo:St→Prop} {rl:List (Nat×Nat)} {bor news:List Nat} {robj:List (Nat×K)} {k:List (cL×Option K)→List (cL×K)→Prop} (hs:SpecE P f n σin Qo) (ho:o.op= .call c) (hc:c.callee= .value (.func f)) (hx:ri σ c.args.toList=some (Xs,Ra)) (hn:Xs.length=n)
 (hm:jX (dJ 0 Xs++kP robj) σin rl bor) (hq: ∀σout,Qo σout→gV rl σin σout=true∧(bor=[]∨gU σout)∧ ∀j∈fI σin σout,j∈news) (h1: ∀p∈robj,aQ σ (.o p.1)=some p.2) (h2: ∀j∈news,aQ σ (.o (iO rl j))=none) (hne: ∃σout,Qo σout)
 (h: ∀σout,Qo σout→k (aMd Ra robj rl news) (iB rl σin σout o.dst)): ∃R Ws,OpE P o R Ws∧bO R σ∧(∃W,Ws W)∧ ∀W,Ws W→k R W:=by
 refine⟨_,_,aAk hs ho hc hx hn hm hq,fun p hp=> ?_,?_,fun W ⟨σout,hQ,e⟩=>e▸h σout hQ⟩
 · rcases List.mem_append.1 hp with hp|hp
   · rcases List.mem_append.1 hp with hp|hp
     · exact rM hx p hp
     · obtain⟨q,hq,rfl⟩:=aV5.1 hp
       exact h1 q hq
   · obtain⟨j,hj,rfl⟩:=aV5.1 hp
     exact h2 j hj
 · obtain⟨σout,hQ⟩:=hne
   exact⟨_,σout,hQ,rfl⟩
end
section
variable {P:Program} {T:gJ} {o:Oper} {σ:St} {t e:TypeId} {s1 s2 d j es:Nat} {s3:List C} {k:List (cL×Option K)→List (cL×K)→Prop} {Pr:List D→Prop} {ti:TI}
end
section
variable {τ σ':St} {rl:List (Nat×Nat)} {bor:List Nat} {r:List (cL×K)}
theorem gH {j:Nat} {Z Z':qk} (h:aQ τ (.o (iO rl j))=some (.zone Z)) (e:Z=Z') (hr:mL τ σ' rl bor r):mL τ σ' rl bor ((.o j,.zone Z')::r):=⟨⟨_,h,by rw[← e];exact⟨rfl,fun _ _ _ h=>h⟩⟩,hr⟩
end
theorem sx {P:Program} {T:gJ} (hT:eC P T) {o:Oper} {σ:St} {p:Prop} {R:List (cL×Option K)} {W:List (cL×K)} {k:List (cL×Option K)→List (cL×K)→Prop} (h:mf T o σ=some (p,R,W)) (hp:p) (hk:k R W): ∃R W,yE P o R W∧bO R σ∧k R W:=by
 obtain⟨h1,h2⟩:=vS hT o σ p R W h hp
 exact⟨R,W,h1,h2,hk⟩
def aMh:Option K→Bool
 |some (.row ..)=>true
 |_=>false
def aMi:Option K→Bool
 |some (.box ..)=>true
 |_=>false
def aCj:Option K→Bool
 |some (.zone ..)=>true
 |_=>false
def qC (τ σ':St) (rl:List (Nat×Nat)) (bor:List Nat):C→C→Prop→Prop
 | .d x,.d y,p=>x=y∧p
 | .nil,.nil,p=>p
 | .nil,.d y,p=>y= .sl []∧p
 | .own o n,.d y,p=>match gB o bor,aQ τ (.o o) with
  |true,some (.row e es rows)=>rows.length=n∧y= .sl rows∧p
  |_,_=>False
 | .own o n,.own j m,p=>match Nat.beq o (iO rl j)&&aMh (aQ σ' (.o j)) with
  |true=>n=m∧p
  |false=>False
 | .pt o k,.pt j m,p=>match Nat.beq o (iO rl j)&&(Nat.beq k m&&aMi (aQ σ' (.o j))) with
  |true=>p
  |false=>False
 | .rp cs,.rp cs',p=>cs=cs'∧p
 | .nil,.z j Q',p=>match aCj (aQ σ' (.o j)) with
  |true=>(∀p,Q' p (.slice none 0 0))∧p
  |false=>False
 | .z o Q,.z j Q',p=>match Nat.beq o (iO rl j)&&aCj (aQ σ' (.o j)) with
  |true=>Q=Q'∧p
  |false=>False
 |_,_,_=>False
def qCs (τ σ':St) (rl:List (Nat×Nat)) (bor:List Nat):List C→List C→Prop→Prop
 | [],[],p=>p
 |c::cs,d::ds,p=>qC τ σ' rl bor c d (qCs τ σ' rl bor cs ds p)
 |_,_,_=>False
def qE (τ σ':St) (rl:List (Nat×Nat)) (bor:List Nat):E→E→Prop→Prop
 | .c x,.c y,p=>qC τ σ' rl bor x y p
 | .agg cs,.agg ds,p=>qCs τ σ' rl bor cs ds p
 |_,_,_=>False
def qEs (τ σ':St) (rl:List (Nat×Nat)) (bor:List Nat):List E→List E→Prop→Prop
 | [],[],p=>p
 |c::cs,d::ds,p=>qE τ σ' rl bor c d (qEs τ σ' rl bor cs ds p)
 |_,_,_=>False
def qV (τ σ':St) (rl:List (Nat×Nat)) (bor:List Nat):V→V→Prop→Prop
 | .e x,.e y,p=>qE τ σ' rl bor x y p
 | .tup xs,.tup ys,p=>qEs τ σ' rl bor xs ys p
 |_,_,_=>False
def qK (τ σ':St) (rl:List (Nat×Nat)) (bor:List Nat):K→K→Prop→Prop
 | .box ty cs,.box ty' ds,p=>match Nat.beq ty ty' with
  |true=>qCs τ σ' rl bor cs ds p
  |false=>False
 | .row e es rows,.row e' es' rows',p=>match Nat.beq e e'&&Nat.beq es es' with
  |true=>rows=rows'∧p
  |false=>False
 | .zone Z,.zone Z',p=>Z=Z'∧p
 |_,_,_=>False
def qL (τ σ':St) (rl:List (Nat×Nat)) (bor:List Nat):List (cL×K)→Prop
 | []=>True
 |(.t s,.v X')::r=>match aQ τ (.t s) with
  |some (.v X)=>qV τ σ' rl bor X X' (qL τ σ' rl bor r)
  |_=>False
 |(.o j,k')::r=>match aQ τ (.o (iO rl j)) with
  |some k=>qK τ σ' rl bor k k' (qL τ σ' rl bor r)
  |_=>False
 |_::_=>False
section
variable {τ σ':St} {rl:List (Nat×Nat)} {bor:List Nat} {p:Prop}
theorem aD4 {k:Option K} (h:aMh k=true): ∃e es rows,k=some (.row e es rows):=by
 cases k with
 |none=>cases h
 |some k=>cases k<;>first|exact⟨_,_,_,rfl⟩|cases h
theorem aD5 {k:Option K} (h:aMi k=true): ∃e es,k=some (.box e es):=by
 cases k with
 |none=>cases h
 |some k=>cases k<;>first|exact⟨_,_,rfl⟩|cases h
theorem je {k:Option K} (h:aCj k=true): ∃e,k=some (.zone e):=by
 cases k with
 |none=>cases h
 |some k=>cases k<;>first|exact⟨_,rfl⟩|cases h
theorem aD6: ∀{c d:C},qC τ σ' rl bor c d p→mC τ σ' rl bor c d∧p:=by
 intro c d h
 cases c<;>cases d<;>simp only[qC] at h<;>try exact h.elim
 · exact h
 · exact h
 · exact⟨trivial,h⟩
 · split at h
   · rename_i hz
     exact⟨⟨h.1,je hz⟩,h.2⟩
   · exact h.elim
 · split at h
   · rename_i hb hl
     exact⟨⟨fP.1 hb,_,_,_,hl,h.1,.inl h.2.1⟩,h.2.2⟩
   · exact h.elim
 · split at h
   · rename_i hb
     simp only[aVu] at hb
     exact⟨⟨Nat.eq_of_beq_eq_true hb.1,h.1,aD4 hb.2⟩,h.2⟩
   · exact h.elim
 · split at h
   · rename_i hb
     simp only[aVu] at hb
     exact⟨⟨Nat.eq_of_beq_eq_true hb.1,Nat.eq_of_beq_eq_true hb.2.1,aD5 hb.2.2⟩,h⟩
   · exact h.elim
 · exact h
 · split at h
   · rename_i hb
     simp only[aVu] at hb
     exact⟨⟨Nat.eq_of_beq_eq_true hb.1,fun p v hv=>by rw[← h.1];exact hv,je hb.2⟩,h.2⟩
   · exact h.elim
theorem mj: ∀{cs ds:List C},qCs τ σ' rl bor cs ds p→sf τ σ' rl bor cs ds∧p
 | [],[],h=>⟨trivial,h⟩
 |c::cs,d::ds,h=>by
  obtain⟨h1,h2⟩:=aD6 h
  obtain⟨h3,h4⟩:=mj h2
  exact⟨⟨h1,h3⟩,h4⟩
 | [],_::_,h=>h.elim
 |_::_,[],h=>h.elim
theorem aD7 {x y:E} (h:qE τ σ' rl bor x y p):mE τ σ' rl bor x y∧p:=by
 cases x<;>cases y<;>simp only[qE] at h<;>first|exact h.elim|exact aD6 h|exact mj h
theorem aAl: ∀{cs ds:List E},qEs τ σ' rl bor cs ds p→mEs τ σ' rl bor cs ds∧p
 | [],[],h=>⟨trivial,h⟩
 |c::cs,d::ds,h=>by
  obtain⟨h1,h2⟩:=aD7 h
  obtain⟨h3,h4⟩:=aAl h2
  exact⟨⟨h1,h3⟩,h4⟩
 | [],_::_,h=>h.elim
 |_::_,[],h=>h.elim
theorem aMj {x y:V} (h:qV τ σ' rl bor x y p):mV τ σ' rl bor x y∧p:=by
 cases x<;>cases y<;>simp only[qV] at h<;>first|exact h.elim|exact aD7 h|exact aAl h
theorem aMk {x y:K} (h:qK τ σ' rl bor x y p):mK τ σ' rl bor x y∧p:=by
 cases x<;>cases y<;>simp only[qK] at h<;>try exact h.elim
 · split at h
   · rename_i hb
     obtain⟨h1,h2⟩:=mj h
     exact⟨⟨Nat.eq_of_beq_eq_true hb,h1⟩,h2⟩
   · exact h.elim
 · split at h
   · rename_i hb
     simp only[aVu] at hb
     exact⟨⟨Nat.eq_of_beq_eq_true hb.1,Nat.eq_of_beq_eq_true hb.2,h.1⟩,h.2⟩
   · exact h.elim
 · obtain⟨rfl,h2⟩:=h
   exact⟨⟨rfl,fun _ _ _ h=>h⟩,h2⟩
theorem qs: ∀{L:List (cL×K)},qL τ σ' rl bor L→mL τ σ' rl bor L
 | [],_=>trivial
 |(.t s,.v X')::r,h=>by
  simp only[qL] at h
  split at h
  · rename_i X hl
    obtain⟨h1,h2⟩:=aMj h
    exact⟨⟨X,hl,h1⟩,qs h2⟩
  · exact h.elim
 |(.o j,k')::r,h=>by
  have h: (match aQ τ (.o (iO rl j)) with
   |some k=>qK τ σ' rl bor k k' (qL τ σ' rl bor r)
   |_=>False):=by cases k'<;>exact h
  split at h
  · rename_i k hl
    obtain⟨h1,h2⟩:=aMk h
    have h3: (∃k,aQ τ (.o (iO rl j))=some k∧mK τ σ' rl bor k k')∧mL τ σ' rl bor r:=⟨⟨k,hl,h1⟩,qs h2⟩
    cases k'<;>exact h3
  · exact h.elim
 |(.t s,.box ..)::r,h=>h.elim
 |(.t s,.row ..)::r,h=>h.elim
 |(.t s,.dead)::r,h=>h.elim
 |(.t s,.cv ..)::r,h=>h.elim
 |(.t s,.zone ..)::r,h=>h.elim
end
theorem aVg {es:Nat}: ∀p,slQ es 0 p (.slice none 0 0):=fun p=> .inl ⟨rfl,rfl⟩
def gT (n lo hi:Int):Bool:=decide (lo≤n)&&decide (n≤hi)
def dY (n:Int):Bool:=gT n 0 3
def oH (at_ to:Int):Int:=if !dY at_|| !dY to||at_==to then -1 else if at_<to then at_+1 else at_ - 1
theorem aF {n:Int} (h: -9223372036854775808≤n∧n<9223372036854775808):wrap64 n=n:=by
 unfold wrap64;omega
structure bH where
 kind:Int
 src:Int
 dst:Int
 frm:Int
 num:Int
 to:Int
 til:Int
 size:Int
 mix:Int
 data:List UInt8
def bH.row (f:bH):List D:=[.i f.kind,.i f.src,.i f.dst,.i f.frm,.i f.num,.i f.to,.i f.til,.i f.size,.i f.mix,.s f.data]
abbrev bH.V (f:bH):V:= .e (.agg [.d (.i f.kind),.d (.i f.src),.d (.i f.dst),.d (.i f.frm),.d (.i f.num),.d (.i f.to),.d (.i f.til),.d (.i f.size),.d (.i f.mix),.d (.s f.data)])
def dV (f:bH):Bool:=
 dY f.src&&dY f.dst&&dY f.frm&&dY f.to&&gT f.num 1 99&&gT f.til 1 999&&
 (if f.kind=1 then gT f.size 1 24&&gT f.mix 0 999&&decide (f.data.length=4)&&decide (f.dst=oH f.src f.to)
  else if f.kind=2∨f.kind=3 then decide (f.size=0)&&decide (f.mix=0)&&decide (f.data=[])&&decide (f.src=oH f.dst f.to) else false)
theorem bI {T:gJ} {io:List Nat} {rs:List ResultVar} {s:St} {X Y:V} (h1:aGc T s rs=some X) (hp:mF Y=true) (e:X=Y):xJ T io rs [(.t 0,.v Y)] s:=by
 subst e
 exact⟨X,[],[],h1,⟨⟨⟨X,rfl,aDz hp⟩,trivial⟩,rfl⟩,by simp[sj,bJ,pS];exact fun x _=> .inl rfl⟩
theorem te {l:List UInt8} {i:Nat} (h:i<l.length): (dW l).getD i []=[.u (l.getD i 0).toNat]:=by
 rw[aVy,aVy]
 simp[dW,h]
theorem ml (l m:List UInt8):dW l++dW m=dW (l++m):=by simp[dW]
theorem aVh (b:UInt8):b.toNat<256:=b.toNat_lt
theorem jf {f:bH} (h:dV f=true): (0≤f.src∧f.src≤3)∧(0≤f.dst∧f.dst≤3)∧(0≤f.frm∧f.frm≤3)∧(0≤f.to∧f.to≤3)∧(1≤f.num∧f.num≤99)∧(1≤f.til∧f.til≤999)∧(1≤f.kind∧f.kind≤3)∧(f.kind=1→(1≤f.size∧f.size≤24)∧(0≤f.mix∧f.mix≤999)∧f.data.length=4):=by
 simp only[dV,dY,gT,aVu,aD] at h
 obtain⟨⟨⟨⟨⟨⟨h1,h2⟩,h3⟩,h4⟩,h5⟩,h6⟩,h7⟩:=h
 split at h7
 · rename_i hk
   simp only[aVu,aD] at h7
   exact⟨h1,h2,h3,h4,h5,h6,by omega,fun _=>⟨h7.1.1.1,h7.1.1.2,h7.1.2⟩⟩
 · split at h7
   · rename_i hk hk2
     exact⟨h1,h2,h3,h4,h5,h6,by omega,fun h=>absurd h hk⟩
   · cases h7
def aMl (σ:St):List (Nat×K)→Prop
 | []=>True
 |p::r=>aQ σ (.o p.1)=some p.2∧aMl σ r
theorem cH {σ:St}: ∀{l:List (Nat×K)},aMl σ l→ ∀p∈l,aQ σ (.o p.1)=some p.2
 |q::r,h,p,hp=>by
  rcases aV6.1 hp with rfl|hp
  · exact h.1
  · exact cH h.2 p hp
section
variable {P:Program} {f:FuncId} {n:Nat} {σin σout:St} {o:Oper} {c:Call} {σ:St} {Xs:List V} {Ra:List (cL×Option K)}
end
def aTn:D→Bool
 | .sl rows=>rows.isEmpty
 |_=>true
def aGy:C→Bool
 | .d x=>aTn x
 | .rp _=>false
 |_=>true
def aGz:E→Bool
 | .c x=>aGy x
 | .agg cs=>cs.all aGy
def mn:V→Bool
 | .e x=>aGz x
 | .tup xs=>xs.all aGz
theorem om {c:C} (h:aGy c=true):yP c:=by
 cases c with
 |d x=>cases x<;>first|trivial|exact List.isEmpty_iff.1 h
 |rp _=>cases h
 |_=>trivial
theorem oq {c:E} (h:aGz c=true):dh c:=by
 cases c with
 |c x=>exact om h
 |agg cs=>exact fun c hc=>om (aV8.1 h c hc)
theorem ot {c:V} (h:mn c=true):dj c:=by
 cases c with
 |e x=>exact oq h
 |tup cs=>exact fun c hc=>oq (aV8.1 h c hc)
theorem aG0 {X:V} (h:mn X=true):gU [(.t 0,.v X)]:=by
 intro p hp
 simp at hp
 subst hp
 exact ot h
def pL (l:List UInt8) (i:Nat):Int:=(l.getD i 0).toNat
theorem ou (l:List UInt8) (i:Nat):0≤pL l i∧pL l i<256:=by
 have:=aVh (l.getD i 0)
 unfold pL;omega
theorem yV {x n:Int} (hx:0≤x) (hn:1≤n):0≤Int.tmod x n∧Int.tmod x n<n:=
 ⟨Int.tmod_nonneg n hx,Int.tmod_lt_of_pos x (by omega)⟩
theorem yW {x n:Int} (hx:0≤x) (hn:1≤n):0≤Int.tdiv x n∧Int.tdiv x n≤x:=by
 rw[Int.tdiv_eq_ediv_of_nonneg hx]
 exact⟨Int.ediv_nonneg hx (by omega),Int.ediv_le_self n hx⟩
end Go.Ab
namespace Go.Ab
open Int renaming toNat_natCast→aVr
open Nat renaming le_of_ble_eq_true→aVs,zero_le→aVv,le_refl→aVz
open List renaming length_append→aVt,length_cons→aVw,length_nil→aVx,getD_eq_getElem?_getD→aVy,length_take→aV0,getElem?_eq_getElem→aV1,getElem?_eq_some_iff→aV2,take_length→aV3,length_drop→aV4,mem_map→aV5,mem_cons→aV6,range→aV7,all_eq_true→aV8,length_set→aV9,mem_singleton→aWa,replicate→aWb
open Bool renaming and_eq_true→aVu,or_eq_true→aWc
open Go Go.RowKit
set_option linter.unusedVariables false
def u8 (x:Int):UInt8:=UInt8.ofNat (nX x).toNat
theorem tf (x:Int): ((u8 x).toNat:Int)=nX x:=by
 unfold u8 nX
 rw[UInt8.toNat_ofNat']
 omega
theorem aCk (x:Int): [D.u (nX x)]=[D.u (u8 x).toNat]:=by rw[tf]
theorem aJq (b:List UInt8) (x:Int):dW b++[[D.u (nX x)]]=dW (b++[u8 x]):=by rw[aCk,← ml];rfl
theorem aD8 (x:Int):nX x=nX (nX x):=by unfold nX;omega
theorem weights: ∀d,1≤d→d≤255→ ∀w,1≤w→w≤1000→d*w≠65521∧d*w≠131042∧d*w≠196563:=by
 intro d h1 h2 w h3 h4
 have key: ∀d,d≤255→d≠0→(65521 % d=0→1000<65521 / d)∧(131042 % d=0→1000<131042 / d)∧(196563 % d=0→1000<196563 / d):=by
  decide+kernel
 obtain⟨k1,k2,k3⟩:=key d h2 (by omega)
 · have hd:0<d:=by omega
   refine⟨fun e=> ?_,fun e=> ?_,fun e=> ?_⟩
   · have:=k1 (by rw[← e];exact Nat.mul_mod_right d w)
     rw[← e,Nat.mul_div_cancel_left w hd] at this;omega
   · have:=k2 (by rw[← e];exact Nat.mul_mod_right d w)
     rw[← e,Nat.mul_div_cancel_left w hd] at this;omega
   · have:=k3 (by rw[← e];exact Nat.mul_mod_right d w)
     rw[← e,Nat.mul_div_cancel_left w hd] at this;omega
def bW (l:List Int):List (List D):=l.map fun x=>[.i x]
def gM (l:List Bool):List (List D):=l.map fun x=>[.b x]
def aY (l:List (List UInt8)):List (List D):=l.map fun x=>[.s x]
theorem bN (l:List Int): (bW l).length=l.length:=by simp[bW]
theorem kB (l:List Bool): (gM l).length=l.length:=by simp[gM]
theorem aJ (l:List (List UInt8)): (aY l).length=l.length:=by simp[aY]
theorem aCl (l:List Int): ∀r∈bW l,r.length=1:=by
 intro r hr
 obtain⟨b,_,rfl⟩:=aV5.1 hr
 rfl
theorem yX (l:List (List UInt8)): ∀r∈aY l,r.length=1:=by
 intro r hr
 obtain⟨b,_,rfl⟩:=aV5.1 hr
 rfl
theorem gW {l:List Int} {i:Nat} (h:i<l.length): (bW l).getD i []=[.i (l.getD i 0)]:=by
 rw[aVy,aVy]
 simp[bW,h]
theorem wP {l:List Bool} {i:Nat} (h:i<l.length): (gM l).getD i []=[.b (l.getD i false)]:=by
 rw[aVy,aVy]
 simp[gM,h]
theorem eN {l:List (List UInt8)} {i:Nat} (h:i<l.length): (aY l).getD i []=[.s (l.getD i [])]:=by
 rw[aVy,aVy]
 simp[aY,h]
theorem jg {l:List Int} {j:Int} (h0:0≤j) (h:j<l.length): (0≤j∧j< (bW l).length)∧((bW l).getD j.toNat []).length=1:=by
 refine⟨⟨h0,by rw[bN];exact h⟩,?_⟩
 rw[gW (by omega)];rfl
theorem ixS {l:List (List UInt8)} {j:Int} (h0:0≤j) (h:j<l.length): (0≤j∧j< (aY l).length)∧((aY l).getD j.toNat []).length=1:=by
 refine⟨⟨h0,by rw[aJ];exact h⟩,?_⟩
 rw[eN (by omega)];rfl
theorem ldS {l:List (List UInt8)} {j:Int} (h0:0≤j) (h:j<l.length):1≤((aY l).getD j.toNat []).length∧((aY l).getD j.toNat []).take 1=yT [.d (.s [])] ((aY l).getD j.toNat []) 0:=by
 rw[eN (by omega)];exact⟨aVz _,rfl⟩
theorem aVi {l:List (List UInt8)} {j:Int} (h0:0≤j) (h:j<l.length):yk (((aY l).getD j.toNat []).getD 0 (.i 0))=l.getD j.toNat []:=by
 rw[eN (by omega)];rfl
theorem aVj {l:List Int} {j:Int} {n:Nat} (h0:0≤j) (h:j<l.length) (e:l.length=n): (bW l).length=n∧0≤j∧j<n:=⟨by rw[bN];exact e,h0,by omega⟩
theorem aVk {l:List Int} {j n:Nat} (h:j<l.length) (e:l.length=n): ((bW l).length=n∧j<n)∧0+1≤((bW l).getD j []).length∧(((bW l).getD j []).drop 0).take 1=yT [.d (.i 0)] ((bW l).getD j []) 0:=by
 rw[gW h,bN];exact⟨⟨e,by omega⟩,aVz _,rfl⟩
theorem aJr {l:List Bool} {i:Nat} {x:Bool} (hi:i<l.length): (gM l).set i (cT ((gM l).getD i []) 0 [D.b x])=gM (l.set i x):=by
 rw[wP hi]
 show(gM l).set i [D.b x]=_
 rw[gM,gM,← List.map_set (f:=fun b:Bool=>[D.b b])]
theorem iM (l:List Int) (x:Int):bW l++[[D.i x]]=bW (l++[x]):=by simp[bW]
theorem eU (l:List (List UInt8)) (x:List UInt8):aY l++[[D.s x]]=aY (l++[x]):=by simp[aY]
theorem repT (n:Nat):aWb n [D.b false]=gM (aWb n false):=by simp[gM]
def cK (x:Int):Int:=if gT x 0 65535 then Int.tmod (wrap64 (wrap64 (x*25173)+13849)) 65536 else 0
theorem bx (x:Int):0≤cK x∧cK x<65536:=by
 unfold cK
 split
 · rename_i h
   simp[gT] at h
   rw[aF (n:=x*25173) (by omega),aF (by omega)]
   exact yV (by omega) (by omega)
 · omega
def oC (b n:Int):Bool:=gT b 1 6&&gT n 0 999
theorem rN {b n:Int} (h:oC b n=true): (1≤b∧b≤6)∧0≤n∧n≤999:=by
 simp[oC,gT] at h;omega
def gN (b d:Int):Int:=if d=1 then wrap64 (wrap64 (Int.tdiv 60 b)+10) else wrap64 (Int.tdiv 60 (wrap64 (d*wrap64 (d - 1))))
theorem mU {b d:Int} (hb:1≤b∧b≤6) (hd:1≤d∧d≤6):0≤gN b d∧gN b d≤70∧(d=1→10≤gN b d):=by
 obtain⟨hb1,hb2⟩:=hb
 obtain⟨hd1,hd2⟩:=hd
 have key: ∀b:Fin 7,∀d:Fin 7,1≤b.val→1≤d.val→0≤gN b.val d.val∧gN b.val d.val≤70∧((d.val:Int)=1→10≤gN b.val d.val):=by decide+kernel
 obtain⟨m,rfl⟩:=Int.eq_ofNat_of_zero_le (show 0≤b by omega)
 obtain⟨n,rfl⟩:=Int.eq_ofNat_of_zero_le (show 0≤d by omega)
 exact key ⟨m,by omega⟩ ⟨n,by omega⟩ (by simp;omega) (by simp;omega)
theorem aCm {b f at_:Int} (hb:1≤b∧b≤6) (hf:0≤f∧f<b) (ha:0≤at_∧at_<b) (hne:at_≠f):
 ((f+b - Int.tmod (wrap64 (at_+1)) b) % b).toNat< ((f+b - at_) % b).toNat∧0≤Int.tmod (wrap64 (at_+1)) b∧Int.tmod (wrap64 (at_+1)) b<b:=by
 rw[aF (by omega)]
 have h:=yV (x:=at_+1) (n:=b) (by omega) hb.1
 refine⟨?_,h⟩
 rw[Int.tmod_eq_emod_of_nonneg (by omega)]
 obtain⟨h1,h2⟩:=hb
 have:b=1∨b=2∨b=3∨b=4∨b=5∨b=6:=by omega
 rcases this with rfl|rfl|rfl|rfl|rfl|rfl<;>omega
theorem aD9 {u:List Bool} (h:u.count true<u.length): ∃f,f<u.length∧u.getD f false=false:=by
 induction u with
 |nil=>simp at h
 |cons x u ih=>
  cases x with
  |false=>exact⟨0,by simp,rfl⟩
  |true=>
   simp at h
   obtain⟨f,h1,h2⟩:=ih h
   exact⟨f+1,by simpa using h1,by simpa using h2⟩
theorem aJs {u:List Bool} {i:Nat} (hi:i<u.length) (h:u.getD i false=false): (u.set i true).count true=u.count true+1:=by
 induction u generalizing i with
 |nil=>simp at hi
 |cons x u ih=>
  cases i with
  |zero=>simp at h;subst h;simp
  |succ i=>
   simp at hi
   have:=ih hi (by simpa using h)
   simp only[List.set_cons_succ,List.count_cons,this]
   omega
theorem gl (m n:Int):il m n=nX (il m n):=by
 unfold il
 rw[im]
 exact aD8 _
theorem aJt (b:List UInt8) (m n:Int):dW b++[[D.u (il m n)]]=dW (b++[u8 (il m n)]):=by
 rw[gl]
 rw[aJq,← gl]
theorem sN {T:gJ} {io:List Nat} {rs:List ResultVar} {Qo:St→Prop} {s:St} (σout:St) (hq:Qo σout) (h:xJ T io rs σout s):aGw T io rs Qo .ret s:=⟨σout,hq,h⟩
set_option linter.unusedSimpArgs false
theorem Spec.freeze {P:Program} {f:FuncId} {n m:Nat} {σin:St} {e:TypeId} {es:Nat} {rows:List (List D)} (h:Spec P f n σin [(.t 0,.v (.e (.c (.own 0 m)))),(.o 0,.row e es rows)]) (hm:rows.length=m) (h0:bJ σin=[]):Spec P f n σin [(.t 0,.v (Dv (.sl rows)))]:=by
 have hno: ∀o k,aQ σin (.o o)=some k→False:=fun o k hk=>by have:=eJ hk;rw[h0] at this;cases this
 refine⟨h.1,fun ι ν S w args hg h1 h2 h3=>lE (fun ex w'=> ?_) (h.2 ι ν S w args hg h1 h2 h3)⟩
 rintro⟨v,ι',S',rfl,hp⟩
 have hrow:=hp.vr.objs 0 (.row e es rows) rfl
 have hv:v=ι' 0:=by
  obtain⟨_,h2⟩:=(show CR _ ι' w' S' (.own 0 m) v from hp.vr.slots 0 _ rfl)
  rcases h2 with⟨e2,es2,rows2,hl,_,hv⟩|hd
  · cases hl;exact hv hm
  · cases hd
 have hmut: ∀b,sJ (ι' 0) b→jL [(cL.t 0,K.v (.e (.c (.own 0 m)))),(.o 0,.row e es rows)] ι' 0 b:=fun b hb=>⟨⟨_,rfl,trivial⟩,hb⟩
 refine⟨v,ι',fun b=>S' b∨sJ (ι' 0) b,rfl,hp.fr,⟨fun s k hk=> ?_,fun o k hk=> ?_,fun o b hm2=> ?_,fun o o' b hm2=> ?_,fun b hb=> ?_⟩,fun b hb=> ?_,fun o b hm2=> ?_,fun o k k' hk hk'=> ?_⟩
 · simp only[aQ] at hk
   split at hk
   · rename_i e3;cases e3;cases hk
     show DR w' _ (.sl rows) v
     rw[hv];exact df hrow (fun b h=> .inl h) (fun b h=> .inr h)
   · cases hk
 · simp[aQ] at hk
 · obtain⟨⟨k,hk,_⟩,_⟩:=hm2;simp[aQ] at hk
 · obtain⟨⟨k,hk,_⟩,_⟩:=hm2;simp[aQ] at hk
 · rcases hb with hb|hb
   · exact hp.vr.sz b hb
   · exact OR.lt hrow trivial hb
 · rcases hb with hb|hb
   · exact hp.rd b hb
   · exact .inr (hp.own 0 b (hmut b hb))
 · obtain⟨⟨k,hk,_⟩,_⟩:=hm2;simp[aQ] at hk
 · exact(hno o k hk).elim
theorem aMm {A B:List (List D)} {r x:List D} {i:Nat} (h:A.length=i): (A++r::B).set i x=A++x::B:=by
 subst h
 rw[List.set_append_right _ _ (aVz _),Nat.sub_self];rfl
def aEa:Nat→Nat→List UInt8→List UInt8
 |0,_,acc=>acc
 |f+1,k,acc=>if k=0 then acc else aEa f (k / 10) (u8 (wrap64 (48+Int.tmod (k:Int) 10))::acc)
def qG (k:Int):List UInt8:=[109]++aEa k.toNat k.toNat []
theorem aJu (f:Nat) (acc:List UInt8):aEa f 0 acc=acc:=by cases f<;>rfl
theorem aJv {f k:Nat} {acc:List UInt8} (hk:0<k) (hf:k≤f): ∃g,aEa f k acc=aEa g (k / 10) (u8 (wrap64 (48+Int.tmod (k:Int) 10))::acc)∧k / 10≤g:=by
 cases f with
 |zero=>omega
 |succ f=>exact⟨f,by rw[aEa,aB (by omega)],by omega⟩
structure bA where
 frm:Int
 num:Int
 to:Int
 til:Int
 text:List UInt8
 deriving DecidableEq
structure bU where
 frm:Int
 num:Int
 til:Int
 deriving DecidableEq
def bA.row (n:bA):List D:=[.i n.frm,.i n.num,.i n.to,.i n.til,.s n.text]
def bU.row (n:bU):List D:=[.i n.frm,.i n.num,.i n.til]
abbrev bA.V (n:bA):V:= .e (.agg [.d (.i n.frm),.d (.i n.num),.d (.i n.to),.d (.i n.til),.d (.s n.text)])
abbrev bU.V (n:bU):V:= .e (.agg [.d (.i n.frm),.d (.i n.num),.d (.i n.til)])
def bA.zero:bA:=⟨0,0,0,0,[]⟩
def bU.zero:bU:=⟨0,0,0⟩
def aH (l:List bA):List (List D):=l.map bA.row
def aM (l:List bU):List (List D):=l.map bU.row
theorem aG (l:List bA): (aH l).length=l.length:=by simp[aH]
theorem aI (l:List bU): (aM l).length=l.length:=by simp[aM]
theorem eY (l:List bA): ∀r∈aH l,r.length=5:=by
 intro r hr
 obtain⟨b,_,rfl⟩:=aV5.1 hr
 rfl
theorem jJ (l:List bU): ∀r∈aM l,r.length=3:=by
 intro r hr
 obtain⟨b,_,rfl⟩:=aV5.1 hr
 rfl
theorem aV {l:List bA} {i:Nat} (h:i<l.length): (aH l).getD i []=(l.getD i .zero).row:=by
 rw[aVy,aVy]
 simp[aH,h]
theorem bQ {l:List bU} {i:Nat} (h:i<l.length): (aM l).getD i []=(l.getD i .zero).row:=by
 rw[aVy,aVy]
 simp[aM,h]
def vA (s:List UInt8) (i:Nat):Bool:=gT (pL s i) 32 126
def yY (s:List UInt8):Bool:=(aV7 s.length).all (vA s)&&gT s.length 1 24
def dZ (n:bA):Bool:=dY n.frm&&dY n.to&&gT n.num 1 99&&gT n.til 1 999&&yY n.text
def jQ (m:bU):Bool:=dY m.frm&&gT m.num 1 99&&gT m.til 1 999
def cD (a b c d:Int):Bool:=decide (a<c)||a==c&&decide (b<d)
def lR (l:List bA) (i:Nat):Bool:=dZ (l.getD i .zero)&&(i==0||cD (l.getD (i - 1) .zero).frm (l.getD (i - 1) .zero).num (l.getD i .zero).frm (l.getD i .zero).num)
def iZ (l:List bA):Bool:=(aV7 l.length).all (lR l)
def lS (l:List bU) (i:Nat):Bool:=jQ (l.getD i .zero)&&(i==0||cD (l.getD (i - 1) .zero).frm (l.getD (i - 1) .zero).num (l.getD i .zero).frm (l.getD i .zero).num)
def nJ (l:List bU):Bool:=(aV7 l.length).all (lS l)
theorem gX {p:Nat→Bool} {n:Nat} (h: ∀k,k<n→p k=true): (aV7 n).all p=true:=by
 rw[aV8];intro k hk;exact h k (List.mem_range.1 hk)
theorem fB {p:Nat→Bool} {n k:Nat} (hk:k<n) (h:p k=false): (aV7 n).all p=false:=by
 rw[List.all_eq_false];exact⟨k,List.mem_range.2 hk,by simp[h]⟩
def kC (p:Nat→Bool):Nat→Nat→Int
 |_,0=> -1
 |i,n+1=>if p i then i else kC p (i+1) n
theorem kY {p:Nat→Bool}: ∀{n i k:Nat},i≤k→k<i+n→(∀j,i≤j→j<k→p j=false)→p k=true→kC p i n=k
 |0,i,k,h1,h2,_,_=>by omega
 |n+1,i,k,h1,h2,h,hp=>by
  unfold kC
  by_cases e:i=k
  · subst e;rw[aC hp]
  · rw[aB (by rw[h i (aVz _) (by omega)];simp),kY (n:=n) (i:=i+1) (k:=k) (by omega) (by omega) (fun j h3 h4=>h j (by omega) h4) hp]
theorem lF {p:Nat→Bool}: ∀{n i:Nat},(∀j,i≤j→j<i+n→p j=false)→kC p i n= -1
 |0,i,_=>rfl
 |n+1,i,h=>by
  unfold kC
  rw[aB (by rw[h i (aVz _) (by omega)];simp),lF (n:=n) (i:=i+1) fun j h3 h4=>h j (by omega) (by omega)]
theorem gE (p:Nat→Bool): ∀(n i:Nat),kC p i n= -1∨ ∃k:Nat,kC p i n=k∧i≤k∧k<i+n∧p k=true∧ ∀j,i≤j→j<k→p j=false
 |0,i=> .inl rfl
 |n+1,i=>by
  unfold kC
  by_cases h:p i=true
  · rw[aC h];exact .inr ⟨i,rfl,aVz _,by omega,h,fun j h1 h2=>by omega⟩
  · rw[aB h]
    rcases gE p n (i+1) with h1|⟨k,h1,h2,h3,h4,h5⟩
    · exact .inl h1
    · refine .inr ⟨k,h1,by omega,by omega,h4,fun j h6 h7=> ?_⟩
      by_cases e:j=i
      · subst e;simpa using h
      · exact h5 j (by omega) h7
def oD (l:List bA) (f n:Int) (i:Nat):Bool:=(l.getD i .zero).frm==f&&(l.getD i .zero).num==n
def rO (l:List bU) (f n:Int) (i:Nat):Bool:=(l.getD i .zero).frm==f&&(l.getD i .zero).num==n
def aW (l:List bA) (f n:Int):Int:=kC (oD l f n) 0 l.length
def fM (l:List bU) (f n:Int):Int:=kC (rO l f n) 0 l.length
def ek (id:Int) (n:bA):Bool:=id != n.to&&(gT id n.frm n.to||gT id n.to n.frm)
structure aX where
 id:Int
 time:Int
 next:Int
 held:List bA
 marks:List bU
 inbox:List bA
 deriving DecidableEq
def vB (k:aX) (i:Nat):Bool:=
 let n:=k.held.getD i .zero
 !(n.frm==k.id&&decide (k.next≤n.num))&&decide (k.time<n.til)&&ek k.id n&&decide (fM k.marks n.frm n.num<0)
def wQ (k:aX) (i:Nat):Bool:=
 let m:=k.marks.getD i .zero
 !(m.frm==k.id&&decide (k.next≤m.num))&&decide (k.time<m.til)
def sB (k:aX) (i:Nat):Bool:=
 let n:=k.inbox.getD i .zero
 !(n.frm==k.id&&decide (k.next≤n.num))&&n.to==k.id&& !(decide (k.time<n.til)&&decide (fM k.marks n.frm n.num<0))
def cP (k:aX):Bool:=
 dY k.id&&gT k.time 0 999&&gT k.next 1 100&&decide (k.held.length≤6)&&decide (k.marks.length≤12)&&decide (k.inbox.length≤6)&&
 iZ k.held&&nJ k.marks&&iZ k.inbox&&(aV7 k.held.length).all (vB k)&&(aV7 k.marks.length).all (wQ k)&&(aV7 k.inbox.length).all (sB k)
def aG1:Nat→Nat→List UInt8
 |0,n=>[UInt8.ofNat (48+n % 10)]
 |f+1,n=>if n<10 then [UInt8.ofNat (48+n)] else aG1 f (n / 10)++[UInt8.ofNat (48+n % 10)]
def jA (n:Nat):List UInt8:=aG1 n n
theorem aEb: ∀{f g n:Nat},n≤f→n≤g→aG1 f n=aG1 g n
 |0,0,n,_,_=>rfl
 |0,g+1,n,h,_=>by
  obtain rfl:n=0:=by omega
  rfl
 |f+1,0,n,_,h=>by
  obtain rfl:n=0:=by omega
  rfl
 |f+1,g+1,n,h1,h2=>by
  unfold aG1
  split
  · rfl
  · rw[aEb (f:=f) (g:=g) (n:=n / 10) (by omega) (by omega)]
theorem mB {n:Nat} (h:n<10):jA n=[UInt8.ofNat (48+n)]:=by
 unfold jA
 cases n with
 |zero=>rfl
 |succ k=>unfold aG1;rw[aC h]
theorem tU {n:Nat} (h:10≤n):jA n=jA (n / 10)++[UInt8.ofNat (48+n % 10)]:=by
 unfold jA
 cases n with
 |zero=>omega
 |succ k=>
  conv=>lhs;unfold aG1
  rw[aB (by omega),aEb (f:=k) (g:=(k+1) / 10) (by omega) (aVz _)]
def fO (b:UInt8):Bool:=decide (48≤b.toNat)&&decide (b.toNat≤57)
def pE:List UInt8→Nat:=fun l=>l.foldl (fun n b=>n*10+(b.toNat - 48)) 0
theorem dk (l:List UInt8) (b:UInt8):pE (l++[b])=pE l*10+(b.toNat - 48):=by simp[pE]
theorem sO {d:Nat} (h:d<10): (UInt8.ofNat (48+d)).toNat=48+d:=by
 rw[UInt8.toNat_ofNat'];omega
theorem tg {d:Nat} (h:d<10):fO (UInt8.ofNat (48+d))=true:=by
 unfold fO
 rw[sO h,aVu,aD,aD];omega
theorem jh (n:Nat):pE (jA n)=n:=by
 induction n using Nat.strongRecOn with
 |_ n ih=>
  by_cases h:n<10
  · rw[mB h]
    show 0*10+((UInt8.ofNat (48+n)).toNat - 48)=n
    rw[sO h];omega
  · rw[tU (by omega),dk,ih (n / 10) (by omega),sO (by omega)]
    omega
theorem yZ (n:Nat): ∀b∈jA n,fO b=true:=by
 induction n using Nat.strongRecOn with
 |_ n ih=>
  intro b hb
  by_cases h:n<10
  · rw[mB h] at hb
    rw[aWa] at hb;subst hb
    exact tg h
  · rw[tU (by omega)] at hb
    rcases List.mem_append.1 hb with hb|hb
    · exact ih (n / 10) (by omega) b hb
    · rw[aWa] at hb;subst hb
      exact tg (Nat.mod_lt _ (by decide))
theorem aCn (n:Nat):jA n≠[]:=by
 by_cases h:n<10
 · rw[mB h];simp
 · rw[tU (by omega)];simp
theorem aMn (n:Nat): (jA n).getD 0 0=48→n=0:=by
 induction n using Nat.strongRecOn with
 |_ n ih=>
  intro hb
  by_cases h:n<10
  · rw[mB h] at hb
    have h1:=aA UInt8.toNat hb
    simp only[List.getD_cons_zero] at h1
    rw[sO h] at h1
    have: (48:UInt8).toNat=48:=rfl
    omega
  · rw[tU (by omega),aVy,List.getElem?_append_left (List.length_pos_iff.2 (aCn _)),← aVy] at hb
    have:=ih (n / 10) (by omega) hb
    omega
theorem aEc: ∀(n:Nat) (l:List UInt8),l.length=n→l≠[]→(∀b∈l,fO b=true)→(l.getD 0 0=48→l.length=1)→jA (pE l)=l
 |0,l,hn,h,_,_=>absurd (List.eq_nil_of_length_eq_zero hn) h
 |n+1,l0,hn,hne,hd,hz=>by
  obtain⟨l,b,rfl⟩: ∃l b,l0=l++[b]:=by
   rcases List.eq_nil_or_concat l0 with h|⟨L,b,h⟩
   · exact absurd h hne
   · exact⟨L,b,by rw[h,List.concat_eq_append]⟩
  have hb:=hd b (by simp)
  simp only[fO,aVu,aD] at hb
  have hbb:UInt8.ofNat (48+(b.toNat - 48))=b:=by
   apply UInt8.toNat_inj.1
   rw[UInt8.toNat_ofNat'];omega
  by_cases hl:l=[]
  · subst hl
    show jA (0*10+(b.toNat - 48))=[b]
    rw[Nat.zero_mul,Nat.zero_add,mB (by omega),hbb]
  · have hlen:0<l.length:=List.length_pos_iff.2 hl
    have hh: (l++[b]).getD 0 0=l.getD 0 0:=by
     rw[aVy,aVy,List.getElem?_append_left hlen]
    have hz2:l.getD 0 0≠48:=fun e=>by
     have:=hz (hh.trans e)
     rw[aVt] at this
     have h9:l.length+1=1:=this
     omega
    have ih2:=aEc n l (by simpa using hn) hl (fun x hx=>hd x (List.mem_append_left _ hx)) (fun e=>absurd e hz2)
    have hv:1≤pE l:=by
     by_cases h0:pE l=0
     · rw[h0] at ih2
       rw[← ih2] at hz2
       exact absurd rfl hz2
     · omega
    rw[dk,tU (by omega),show(pE l*10+(b.toNat - 48)) / 10=pE l by omega,show(pE l*10+(b.toNat - 48)) % 10=b.toNat - 48 by omega,ih2,hbb]
def bz (s:List UInt8):Bool:=s.all fO
def iU (s:List UInt8):Option Nat:=if(1≤s.length∧s.length≤5)∧ ¬(s.getD 0 0=48∧1<s.length)∧bz s=true then some (pE s) else none
def fU (s:List UInt8):Int:=if(1≤s.length∧s.length≤4)∧bz s=true∧jA (pE s)=s then pE s else -1
theorem vU {s:List UInt8} (h1:1≤s.length) (hd:bz s=true):jA (pE s)=s↔ ¬(s.getD 0 0=48∧1<s.length):=by
 have hne:s≠[]:=fun e=>by subst e;simp at h1
 have hd': ∀b∈s,fO b=true:=aV8.1 hd
 constructor
 · rintro e ⟨h2,h3⟩
   have h4:pE s=0:=aMn (pE s) (by rw[e];exact h2)
   rw[h4] at e
   have:s.length=1:=by rw[← e];rfl
   omega
 · intro h
   exact aEc s.length s rfl hne hd' fun h2=>by
    by_cases h3:1<s.length
    · exact absurd ⟨h2,h3⟩ h
    · omega
theorem xN {s:List UInt8} (h:s.length≤4):fU s=match iU s with|some n=>(n:Int)|none=> -1:=by
 unfold fU iU
 by_cases h1:1≤s.length
 · by_cases hd:bz s=true
   · by_cases hw: ¬(s.getD 0 0=48∧1<s.length)
     · rw[aC ⟨⟨h1,h⟩,hd,(vU h1 hd).2 hw⟩,aC ⟨⟨h1,by omega⟩,hw,hd⟩]
     · rw[aB (fun e=>hw ((vU h1 hd).1 e.2.2)),aB (fun e=>hw e.2.1)]
   · rw[aB (fun e=>hd e.2.1),aB (fun e=>hd e.2.2)]
 · rw[aB (fun e=>h1 e.1.1),aB (fun e=>h1 e.1.1)]
theorem rm: ∀(n:Nat) (s:List UInt8),s.length=n→(∀b∈s,fO b=true)→pE s<10 ^ n
 |0,s,hn,_=>by rw[List.eq_nil_of_length_eq_zero hn];decide
 |n+1,s0,hn,hd=>by
  obtain⟨s,b,rfl⟩: ∃l b,s0=l++[b]:=by
   rcases List.eq_nil_or_concat s0 with h|⟨L,b,h⟩
   · rw[h] at hn;simp at hn
   · exact⟨L,b,by rw[h,List.concat_eq_append]⟩
  have hb:=hd b (by simp)
  simp only[fO,aVu,aD] at hb
  have ih:=rm n s (by simpa using hn) fun x hx=>hd x (List.mem_append_left _ hx)
  rw[dk,Nat.pow_succ]
  omega
theorem aJw {s:List UInt8} {i:Nat} (h:i<s.length):pE (s.take (i+1))=pE (s.take i)*10+((s.getD i 0).toNat - 48):=by
 rw[List.take_add_one,aV1 h]
 rw[show s[i]=s.getD i 0 by rw[aVy,aV1 h];rfl]
 exact dk _ _
def ca (s:List UInt8):Nat→Nat→Option Nat
 |0,_=>none
 |f+1,i=>if i<s.length then(if s.getD i 0=58 then some i else ca s f (i+1)) else none
def tW (s:List UInt8):Option Nat:=ca s 3 0
def gO (s:List UInt8):Option (List UInt8×Nat):=
 match tW s with
 |none=>none
 |some i=>match iU (s.take i) with
  |none=>none
  |some n=>if 1≤n∧n≤60∧i+2+n≤s.length∧s.getD (i+1+n) 0=59 then some ((s.take (i+1+n)).drop (i+1),i+2+n) else none
theorem vV {s:List UInt8}: ∀{f i k:Nat},ca s f i=some k→i≤k∧k<i+f∧k<s.length∧s.getD k 0=58∧ ∀j,i≤j→j<k→s.getD j 0≠58
 |0,i,k,h=>by cases h
 |f+1,i,k,h=>by
  unfold ca at h
  split at h
  · rename_i h1
    split at h
    · rename_i h2
      cases h
      exact⟨aVz _,by omega,h1,h2,fun j h3 h4=>by omega⟩
    · rename_i h2
      obtain⟨q1,q2,q3,q4,q5⟩:=vV h
      refine⟨by omega,by omega,q3,q4,fun j h3 h4=> ?_⟩
      by_cases e:j=i
      · subst e;exact h2
      · exact q5 j (by omega) h4
  · cases h
theorem dl {s:List UInt8}: ∀{f i k:Nat},i≤k→k<i+f→k<s.length→s.getD k 0=58→(∀j,i≤j→j<k→s.getD j 0≠58)→ca s f i=some k
 |0,i,k,h1,h2,_,_,_=>by omega
 |f+1,i,k,h1,h2,h3,h4,h5=>by
  unfold ca
  rw[aC (by omega)]
  by_cases e:i=k
  · subst e;rw[aC h4]
  · rw[aB (h5 i (aVz _) (by omega))]
    exact dl (by omega) (by omega) h3 h4 fun j h6 h7=>h5 j (by omega) h7
theorem aAm {s:List UInt8}: ∀{f i:Nat},(∀j,i≤j→j<i+f→j<s.length→s.getD j 0≠58)→ca s f i=none
 |0,i,_=>rfl
 |f+1,i,h=>by
  unfold ca
  split
  · rename_i h1
    rw[aB (h i (aVz _) (by omega) h1)]
    exact aAm fun j h2 h3=>h j (by omega) (by omega)
  · rfl
theorem pF {s r:List UInt8} {n:Nat} (h:gO s=some (r,n)):3≤n∧n≤s.length∧n≤64∧r.length≤60∧1≤r.length:=by
 unfold gO at h
 split at h
 · cases h
 · rename_i i hi
   obtain⟨q1,q2,q3,q4,q5⟩:=vV hi
   split at h
   · cases h
   · rename_i m hm
     split at h
     · rename_i hc
       cases h
       have h1:1≤(s.take i).length:=by
        unfold iU at hm
        split at hm
        · rename_i h9;exact h9.1.1
        · cases hm
       rw[aV0] at h1
       refine⟨by omega,by omega,by omega,?_,?_⟩<;>rw[aV4,aV0]<;>omega
     · cases h
def el:Nat→List UInt8→List (List UInt8)×Nat
 |0,_=>([],0)
 |f+1,s=>match gO s with
  |none=>([],0)
  |some (r,n)=>(r::(el f (s.drop n)).1,n+(el f (s.drop n)).2)
def bF (s:List UInt8):List (List UInt8)×Nat:=el s.length s
theorem nK:gO []=none:=rfl
theorem mq: ∀{f g:Nat} {s:List UInt8},s.length≤f→s.length≤g→el f s=el g s
 |0,0,s,_,_=>rfl
 |0,g+1,s,h,_=>by
  obtain rfl:s=[]:=List.eq_nil_of_length_eq_zero (by omega)
  simp[el,nK]
 |f+1,0,s,_,h=>by
  obtain rfl:s=[]:=List.eq_nil_of_length_eq_zero (by omega)
  simp[el,nK]
 |f+1,g+1,s,h1,h2=>by
  unfold el
  cases hr:gO s with
  |none=>rfl
  |some p=>
   obtain⟨r,n⟩:=p
   have:=pF hr
   have e:=mq (f:=f) (g:=g) (s:=s.drop n) (by rw[aV4];omega) (by rw[aV4];omega)
   simp only[e]
theorem eV {s:List UInt8} (h:gO s=none):bF s=([],0):=by
 unfold bF
 cases s with
 |nil=>rfl
 |cons b t=>simp[el,h]
theorem jR {s r:List UInt8} {n:Nat} (h:gO s=some (r,n)):bF s=(r::(bF (s.drop n)).1,n+(bF (s.drop n)).2):=by
 have h1:=pF h
 unfold bF
 rw[mq (f:=s.length) (g:=(s.length - 1)+1) (aVz _) (by omega)]
 conv=>lhs;unfold el
 rw[h]
 simp only
 rw[mq (f:=s.length - 1) (g:=(s.drop n).length) (by rw[aV4];omega) (aVz _)]
theorem ji: ∀(k:Nat) (s:List UInt8),s.length≤k→(bF s).2≤s.length∧(bF s).1.length≤s.length
 |0,s,h=>by
  obtain rfl:s=[]:=List.eq_nil_of_length_eq_zero (by omega)
  rw[eV nK];simp
 |k+1,s,h=>by
  cases hr:gO s with
  |none=>rw[eV hr];simp
  |some p=>
   obtain⟨r,n⟩:=p
   have h1:=pF hr
   have ih:=ji k (s.drop n) (by rw[aV4];omega)
   rw[aV4] at ih
   rw[jR hr]
   simp only[aVw]
   omega
def dN (log:List UInt8) (forced:Int):Bool:=
 decide (log.length≤2400)&&gT forced 0 log.length&&decide ((bF log).2=log.length)&&decide (((bF (log.take forced.toNat)).2:Int)=forced)
theorem tX {l:List bA} {i:Nat} {E c:Bool} (h: (!dZ (l.getD i .zero)||decide ((i:Int)>0)&& !E)=c) (hE:0<i→E=cD (l.getD (i - 1) .zero).frm (l.getD (i - 1) .zero).num (l.getD i .zero).frm (l.getD i .zero).num):lR l i= !c:=by
 subst h
 unfold lR
 by_cases h0:i=0
 · subst h0;simp
 · rw[hE (by omega)]
   have h1:decide ((i:Int)>0)=true:=decide_eq_true (by omega)
   have h2: (i==0)=false:=by simpa using h0
   rw[h1,h2,Bool.true_and,Bool.false_or,Bool.not_or,Bool.not_not,Bool.not_not]
theorem tY {l:List bU} {i:Nat} {E c:Bool} (h: (!jQ (l.getD i .zero)||decide ((i:Int)>0)&& !E)=c) (hE:0<i→E=cD (l.getD (i - 1) .zero).frm (l.getD (i - 1) .zero).num (l.getD i .zero).frm (l.getD i .zero).num):lS l i= !c:=by
 subst h
 unfold lS
 by_cases h0:i=0
 · subst h0;simp
 · rw[hE (by omega)]
   have h1:decide ((i:Int)>0)=true:=decide_eq_true (by omega)
   have h2: (i==0)=false:=by simpa using h0
   rw[h1,h2,Bool.true_and,Bool.false_or,Bool.not_or,Bool.not_not,Bool.not_not]
theorem eS {i:Nat} (h:0<i) (hl:i≤1000000):wrap64 ((i:Int) - 1)=((i - 1:Nat):Int):=by
 rw[aF (by omega)];omega
end Go.Ab
namespace Go.Ab
open Int renaming toNat_natCast→aVr
open Nat renaming le_of_ble_eq_true→aVs,zero_le→aVv,le_refl→aVz
open List renaming length_append→aVt,length_cons→aVw,length_nil→aVx,getD_eq_getElem?_getD→aVy,length_take→aV0,getElem?_eq_getElem→aV1,getElem?_eq_some_iff→aV2,take_length→aV3,length_drop→aV4,mem_map→aV5,mem_cons→aV6,range→aV7,all_eq_true→aV8,length_set→aV9,mem_singleton→aWa,replicate→aWb
open Bool renaming and_eq_true→aVu,or_eq_true→aWc
open Go Go.RowKit
abbrev aX.V (k:aX):V:= .e (.agg [.d (.i k.id),.d (.i k.time),.d (.i k.next),.d (.sl (aH k.held)),.d (.sl (aM k.marks)),.d (.sl (aH k.inbox))])
theorem aAn (a b:Int):decide (a≥b)= !decide (a<b):=by
 by_cases h:a<b
 · simp[h,Int.not_le.2 h]
 · simp[h,Int.not_lt.1 h]
theorem zA {k:aX} {i:Nat} {c:Bool} (h: ((k.held.getD i .zero).frm==k.id&&decide ((k.held.getD i .zero).num≥k.next)||decide ((k.held.getD i .zero).til≤k.time)|| !ek k.id (k.held.getD i .zero)||decide (fM k.marks (k.held.getD i .zero).frm (k.held.getD i .zero).num≥0))=c):vB k i= !c:=by
 subst h
 unfold vB
 simp only[aAn,Bool.not_or,Bool.not_not]
theorem zB {k:aX} {i:Nat} {c:Bool} (h: ((k.marks.getD i .zero).frm==k.id&&decide ((k.marks.getD i .zero).num≥k.next)||decide ((k.marks.getD i .zero).til≤k.time))=c):wQ k i= !c:=by
 subst h
 unfold wQ
 simp only[aAn,Bool.not_or,Bool.not_not]
theorem vW {k:aX} {i:Nat} {c:Bool} (h: ((k.inbox.getD i .zero).frm==k.id&&decide ((k.inbox.getD i .zero).num≥k.next)||(k.inbox.getD i .zero).to != k.id||decide ((k.inbox.getD i .zero).til>k.time)&&decide (fM k.marks (k.inbox.getD i .zero).frm (k.inbox.getD i .zero).num<0))=c):sB k i= !c:=by
 subst h
 unfold sB
 simp only[aAn,Bool.not_or,Bool.not_not,bne,gt_iff_lt]
theorem cG (k:aX):cP k=true↔(dY k.id=true∧(0≤k.time∧k.time≤999)∧(1≤k.next∧k.next≤100)∧k.held.length≤6∧k.marks.length≤12∧k.inbox.length≤6)∧(iZ k.held=true∧nJ k.marks=true∧iZ k.inbox=true)∧
 (aV7 k.held.length).all (vB k)=true∧(aV7 k.marks.length).all (wQ k)=true∧(aV7 k.inbox.length).all (sB k)=true:=by
 simp only[cP,gT,aVu,aD]
 constructor
 · rintro⟨⟨⟨⟨⟨⟨⟨⟨⟨⟨⟨h1,h2⟩,h3⟩,h4⟩,h5⟩,h6⟩,h7⟩,h8⟩,h9⟩,h10⟩,h11⟩,h12⟩
   exact⟨⟨h1,h2,h3,h4,h5,h6⟩,⟨h7,h8,h9⟩,h10,h11,h12⟩
 · rintro⟨⟨h1,h2,h3,h4,h5,h6⟩,⟨h7,h8,h9⟩,h10,h11,h12⟩
   exact⟨⟨⟨⟨⟨⟨⟨⟨⟨⟨⟨h1,h2⟩,h3⟩,h4⟩,h5⟩,h6⟩,h7⟩,h8⟩,h9⟩,h10⟩,h11⟩,h12⟩
theorem nL {k:aX} (h: ¬cP k=true):cP k=false:=by simpa using h
set_option linter.unusedVariables false
theorem aIo (n:Nat): (jA n).length≤n+1:=by
 induction n using Nat.strongRecOn with
 |_ n ih=>
  by_cases h:n<10
  · rw[mB h];simp
  · rw[tU (by omega),aVt]
    have:=ih (n / 10) (by omega)
    simp only[aVw,aVx];omega
theorem aEd {d:Nat} (h:d<10):u8 (wrap64 (48+(d:Int)))=UInt8.ofNat (48+d):=by
 rw[aF (by omega)]
 apply UInt8.toNat_inj.1
 have h1:=tf (48+(d:Int))
 rw[sO h]
 unfold nX at h1
 omega
theorem ov {s:List UInt8} {i:Nat} (h: ∀k,k<i→fO (s.getD k 0)=true) (hi:i≤s.length): ∀b∈s.take i,fO b=true:=by
 intro b hb
 obtain⟨k,hk⟩:=List.mem_iff_getElem?.1 hb
 have hlt:k<i:=by
  have:=(aV2.1 hk).1
  rw[aV0] at this;omega
 rw[List.getElem?_take_of_lt hlt] at hk
 have:=h k hlt
 rw[aVy,hk] at this
 exact this
theorem aAo {s:List UInt8} (h: ∀k,k<s.length→fO (s.getD k 0)=true):bz s=true:=by
 have:=ov h (aVz _)
 rw[aV3] at this
 exact aV8.2 this
theorem th {s:List UInt8} {k:Nat} (hk:k<s.length) (h:fO (s.getD k 0)=false):bz s=false:=by
 unfold bz
 rw[List.all_eq_false]
 refine⟨s.getD k 0,?_,by rw[h];decide⟩
 rw[aVy,aV1 hk]
 exact List.getElem_mem _
theorem tj (s:List UInt8) (i:Nat):fO (s.getD i 0)=gT (pL s i) 48 57:=by
 unfold fO gT pL
 congr 1<;>(apply decide_eq_decide.2;omega)
theorem aEe {s:List UInt8} {i a:Nat} (hi:i<s.length) (hd:fO (s.getD i 0)=true) (ha:pE (s.take i)=a) (hb:a<1000000):
 wrap64 (wrap64 (10*(a:Int))+wrap64 (nX (((s.getD i 0).toNat:Int) - 48)))=(pE (s.take (i+1)):Nat)∧wrap64 (wrap64 ((a:Int)*10)+wrap64 (nX (((s.getD i 0).toNat:Int) - 48)))=(pE (s.take (i+1)):Nat):=by
 rw[aJw hi,ha]
 simp only[fO,aVu,aD] at hd
 have h8:nX (((s.getD i 0).toNat:Int) - 48)=((s.getD i 0).toNat:Int) - 48:=by unfold nX;omega
 rw[h8,aF (n:=((s.getD i 0).toNat:Int) - 48) (by omega),aF (n:=10*(a:Int)) (by omega),aF (n:=(a:Int)*10) (by omega),aF (by omega),aF (by omega)]
 omega
theorem mr {s:List UInt8} {i:Nat} (h: ∀k,k<i→fO (s.getD k 0)=true) (hi:i≤s.length) (h5:i≤5):pE (s.take i)<100000:=
 Nat.lt_of_lt_of_le (rm i (s.take i) (by rw[aV0];omega) (ov h hi)) (Nat.pow_le_pow_right (by decide) h5)
set_option linter.unusedVariables false
theorem zC (t:List UInt8): -1≤fU t∧fU t≤9999:=by
 unfold fU
 split
 · rename_i h
   have h1:=rm t.length t rfl (aV8.1 h.2.1)
   have h2:10 ^ t.length≤10 ^ 4:=Nat.pow_le_pow_right (by decide) h.1.2
   have h3: (10:Nat) ^ 4=10000:=rfl
   omega
 · omega
theorem aMo {s:List UInt8} {i:Nat} (hc:tW s=some i):
 gO s=if 1≤fU (s.take i)∧fU (s.take i)≤60∧i+2+(fU (s.take i)).toNat≤s.length∧s.getD (i+1+(fU (s.take i)).toNat) 0=59 then some ((s.take (i+1+(fU (s.take i)).toNat)).drop (i+1),i+2+(fU (s.take i)).toNat) else none:=by
 obtain⟨q1,q2,q3,q4,q5⟩:=vV hc
 have hd:=xN (s:=s.take i) (by rw[aV0];omega)
 unfold gO
 rw[hc]
 simp only
 cases hn:iU (s.take i) with
 |none=>
  rw[hn] at hd
  simp only at hd
  rw[aB (by omega)]
 |some n=>
  rw[hn] at hd
  simp only at hd
  rw[hd]
  simp only[aVr]
  by_cases h:1≤n∧n≤60∧i+2+n≤s.length∧s.getD (i+1+n) 0=59
  · rw[aC h,aC ⟨by omega,by omega,h.2.2.1,h.2.2.2⟩]
  · rw[aB h,aB (fun e=>h ⟨by omega,by omega,e.2.2.1,e.2.2.2⟩)]
def aJx (s:List UInt8):List UInt8:=match gO s with|some p=>p.1|none=>[]
def aCo (s:List UInt8):Nat:=match gO s with|some p=>p.2|none=>0
theorem aAp {s:List UInt8}:aCo s=0↔gO s=none:=by
 unfold aCo
 cases h:gO s with
 |none=>simp
 |some p=>
  obtain⟨r,n⟩:=p
  have:=pF h
  simp;omega
theorem jj {s:List UInt8} (h: ∀j,j<3→j<s.length→s.getD j 0≠58):tW s=none:=aAm fun j _ h2 h3=>h j (by omega) h3
theorem tk {s:List UInt8} {i:Nat} (h3:i<3) (hi:i<s.length) (hc:s.getD i 0=58) (h: ∀j,j<i→s.getD j 0≠58):tW s=some i:=dl (aVv _) (by omega) hi hc fun j _ h2=>h j h2
theorem em {s:List UInt8} (h:tW s=none):gO s=none:=by unfold gO;rw[h]
set_option linter.unusedVariables false
def iH (t:List UInt8):Int:=match iU t with|some n=>(n:Int)|none=>0
theorem aG2 (t:List UInt8):0≤iH t∧iH t≤99999:=by
 unfold iH iU
 split
 · rename_i n h
   split at h
   · rename_i hc
     cases h
     have h1:=rm t.length t rfl (aV8.1 hc.2.2)
     have h2:10 ^ t.length≤10 ^ 5:=Nat.pow_le_pow_right (by decide) hc.1.2
     have h3: (10:Nat) ^ 5=100000:=rfl
     omega
   · cases h
 · omega
theorem aMp (s:List UInt8) (a i:Nat): (s.take (a+i)).drop a=(s.drop a).take i:=by
 rw[List.drop_take];congr 1;omega
theorem xO (s:List UInt8) (a j:Nat): (s.drop a).getD j 0=s.getD (a+j) 0:=by
 rw[aVy,aVy,List.getElem?_drop]
theorem aJy {t:List UInt8} (h3:t.length=3) {n:Nat} (h:iU t=some n):100≤n:=by
 unfold iU at h
 split at h
 · rename_i hc
   cases h
   match t,h3 with
   | [x,y,z],_=>
    have hd:=aV8.1 hc.2.2
    have hx:=hd x (by simp)
    simp only[fO,aVu,aD] at hx
    have hx0:x≠48:=fun e=>hc.2.1 ⟨e,by simp⟩
    have hx1:x.toNat≠48:=fun e=>hx0 (UInt8.toNat_inj.1 e)
    show 100≤((0*10+(x.toNat - 48))*10+(y.toNat - 48))*10+(z.toNat - 48)
    omega
 · cases h
section
variable {s:List UInt8} {a c:Nat}
theorem xP (hk: ∀j,a≤j→j<c→s.getD j 0≠58) (h:s.length≤c∨a+3≤c):gO (s.drop a)=none:=by
 refine em (jj fun j h3 hj=> ?_)
 rw[aV4] at hj
 rw[xO]
 exact hk (a+j) (by omega) (by omega)
theorem aPo (ha:a≤c) (hk: ∀j,a≤j→j<c→s.getD j 0≠58) (h3:c<a+3) (hc:c<s.length) (h58:s.getD c 0=58):tW (s.drop a)=some (c - a):=by
 refine tk (by omega) (by rw[aV4];omega) (by rw[xO,show a+(c - a)=c by omega];exact h58) fun j hj=> ?_
 rw[xO]
 exact hk (a+j) (by omega) (by omega)
def aTo (s:List UInt8) (a c:Nat):Prop:= ∃n,iU ((s.take c).drop a)=some n∧1≤n∧n≤60∧c+1+n<s.length∧s.getD (c+1+n) 0=59
theorem aMq (ha:a≤c) (hk: ∀j,a≤j→j<c→s.getD j 0≠58) (h3:c≤a+3) (hc:c<s.length) (h58:s.getD c 0=58):
 (¬aTo s a c→gO (s.drop a)=none)∧(∀n,iU ((s.take c).drop a)=some n→1≤n→n≤60→c+1+n<s.length→s.getD (c+1+n) 0=59→gO (s.drop a)=some ((s.take (c+1+n)).drop (c+1),c+2+n - a)):=by
 have hcut: (s.take c).drop a=(s.drop a).take (c - a):=by rw[← aMp,show a+(c - a)=c by omega]
 have hlen: ((s.take c).drop a).length=c - a:=by rw[aV4,aV0];omega
 by_cases h4:c=a+3
 · have hno:gO (s.drop a)=none:=xP hk (.inr (by omega))
   refine⟨fun _=>hno,fun n h1 h2 h5 h6 h7=> ?_⟩
   have:=aJy (by rw[hlen];omega) h1
   omega
 · have hcol:=aPo ha hk (by omega) hc h58
   have key: ∀n,iU ((s.take c).drop a)=some n→1≤n→n≤60→c+1+n<s.length→s.getD (c+1+n) 0=59→gO (s.drop a)=some ((s.take (c+1+n)).drop (c+1),c+2+n - a):=by
    intro n h1 h2 h5 h6 h7
    unfold gO
    rw[hcol]
    simp only
    rw[← hcut,h1]
    simp only
    rw[aC ⟨h2,h5,by rw[aV4];omega,by rw[xO,show a+(c - a+1+n)=c+1+n by omega];exact h7⟩]
    congr 2
    · rw[← aMp,List.drop_drop,show a+(c - a+1+n)=c+1+n by omega,show a+(c - a+1)=c+1 by omega]
    · omega
   refine⟨fun hno=> ?_,key⟩
   unfold gO
   rw[hcol]
   simp only
   rw[← hcut]
   cases hn:iU ((s.take c).drop a) with
   |none=>rfl
   |some n=>
    simp only
    rw[aB]
    rintro⟨h1,h2,h5,h6⟩
    rw[aV4] at h5
    rw[xO,show a+(c - a+1+n)=c+1+n by omega] at h6
    exact hno ⟨n,hn,h1,h2,by omega,h6⟩
end
open Go Go.RowKit Go.Sort
set_option linter.unusedVariables false
set_option linter.unusedSimpArgs false
theorem jk {P:Program} {f:FuncId} {ds:List D} {X:V} (hc:gi P f) (h: ∀(S:Nat→Prop) (w:World) (args:Array Value),aI4 P w→args.size=ds.length→(∀(i:Nat) d v,ds[i]? =some d→args[i]? =some v→DR w S d v)→
 Calls P f args w fun e w'=> ∃v S',e= .returned v∧Fr (fun _=>False) w w'∧(∀σ ι,lM σ ι w' S' X v)∧ ∀b,S' b→w.heap.size≤b∧b<w'.heap.size):Spec P f ds.length (dJ 0 (ds.map Dv)) [(.t 0,.v X)]:=by
 refine⟨hc,fun ι ν S w args hgb hvr hsz hargs=>lE (fun e w'=> ?_) (h S w args (hgb w (Fr.refl _ _)) hsz fun i d v hi hv=> ?_)⟩
 · rintro⟨v,S',rfl,hfr,hx,hS⟩
   refine⟨v,fun _=>undef,S',rfl,hfr.weak (fun _ h=>h.elim),⟨fun s k hk=> ?_,fun o k hk=> ?_,fun o b hm2=> ?_,fun o o' b hm2=> ?_,fun b hb=>(hS b hb).2⟩,fun b hb=> .inr (.inl (hS b hb).1),fun o b hm2=> ?_,fun o k k' hk hk'=> ?_⟩
   · simp only[aQ] at hk
     split at hk
     · rename_i e3;cases e3;cases hk;exact hx _ _
     · cases hk
   · simp[aQ] at hk
   · obtain⟨⟨k,hk,_⟩,_⟩:=hm2;simp[aQ] at hk
   · obtain⟨⟨k,hk,_⟩,_⟩:=hm2;simp[aQ] at hk
   · obtain⟨⟨k,hk,_⟩,_⟩:=hm2;simp[aQ] at hk
   · simp[aQ] at hk'
 · have hlt:i<ds.length:=(aV2.1 hi).1
   have hv2:=hargs i hlt
   rw[hv] at hv2
   cases hv2
   have hl:aQ (dJ 0 (ds.map Dv)) (.t i)=some (.v (Dv d)):=by
    have:=pC 0 (ds.map Dv) [] i (aVv _) (by simpa using hlt)
    rw[List.append_nil] at this
    rw[this];simp[hi]
   exact hvr.slots i _ hl
theorem aIp (w:World) (k:Nat):Fr (fun _=>False) w (w.drewN k):=⟨rfl,rfl,rfl,aVz _,fun _ _ _=>rfl⟩
theorem aCp (w:World) (os:Array Obj):Fr (fun _=>False) w (grow w os):=
 ⟨rfl,rfl,rfl,by simp[grow],fun b hb _=>by simp[grow,Array.getElem?_append_left hb]⟩
theorem ms {P:Program} {w:World} (h:aI4 P w) {g:Nat} (hg:P.globalNamed "internal/bytealg.MaxLen" =some g): ∃m,w.cell? ⟨g,0,none⟩=some (.int .i64 m):=by
 obtain⟨_,m,hm⟩:=h
 refine⟨m,?_⟩
 unfold World.var? at hm
 rw[hg] at hm
 simp only[Option.bind_some] at hm
 split at hm
 · rename_i cs t fz hh
   cases hm
   unfold World.cell?
   simp[hh]
 · cases hm
theorem bytesOf (l:List UInt8): (⟨l.toArray⟩:ByteArray).data.toList=l:=rfl
theorem DR.s_inv {w:World} {S:Nat→Prop} {l:List UInt8} {v:Value} (h:DR w S (.s l) v):v= .string ⟨l.toArray⟩:=by cases h;rfl
theorem DR.i_inv {w:World} {S:Nat→Prop} {n:Int} {v:Value} (h:DR w S (.i n) v):v= .int .i64 n:=by cases h;rfl
theorem aPp (n:Nat):Lib.decDigits n=jA n:=by
 induction n using Nat.strongRecOn with
 |_ n ih=>
  unfold Lib.decDigits
  by_cases h:n<10
  · rw[dif_pos h,mB h]
  · rw[dif_neg h,tU (by omega),ih (n / 10) (by omega)]
theorem aJz {P:Program} {f:FuncId} (hc:gi P f) (n:Nat) (hn:n≤1000000)
 (h: ∀(w:World),Lib.TabIs P w "internal/strconv.uint64pow10" .u64 Lib.pow10Tab→Calls P f #[.int .i64 n] w fun e w'=>e= .returned (.string ⟨(Lib.itoa n).toArray⟩)∧ ∃k os,w'=grow (w.drewN k) os):
 Spec P f 1 [(.t 0,.v (I n))] [(.t 0,.v (Dv (.s (jA n))))]:=by
 refine jk (ds:=[.i n]) hc fun S w args hg hsz ha=> ?_
 have ha0:=ha 0 (.i n) (args[0]'(by rw[hsz];simp)) rfl (Array.getElem?_eq_getElem (by rw[hsz];simp))
 have e:args= #[.int .i64 n]:=by
  apply Array.ext
  · rw[hsz];rfl
  · intro i h1 h2
    have:i=0:=by have:i<1:=by simpa using h2
                 omega
    subst this
    exact ha0.i_inv
 subst e
 refine lE (fun e w'=> ?_) (h w hg.1)
 rintro⟨rfl,k,os,rfl⟩
 have e2:Lib.itoa (n:Int)=jA n:=by
  unfold Lib.itoa
  rw[aB (by omega),aVr,aPp]
 exact⟨_,fun _=>False,rfl,(aIp w k).trans (aCp _ os) (fun _ _ h=>h),fun σ ι=>by rw[e2];exact DR.s _,fun b hb=>hb.elim⟩
def bC (s:List UInt8):List UInt8:=s.takeWhile (· != 32)
def aO (s:List UInt8):List UInt8:=(s.dropWhile (· != 32)).drop 1
def fG (s:List UInt8):Bool:=s.any (· ==32)
def iA:Nat→List UInt8→List (List UInt8)
 |0,s=>[s]
 |n+1,s=>if fG s then bC s::iA n (aO s) else [s]
theorem fJ: ∀(s:List UInt8),(fG s=true→Lib.indexByte s 32=(bC s).length∧s.take (bC s).length=bC s∧s.drop ((bC s).length+1)=aO s∧(bC s).length<s.length)∧(fG s=false→Lib.indexByte s 32= -1∧bC s=s∧aO s=[])
 | []=>⟨fun h=>by simp[fG] at h,fun _=>⟨rfl,rfl,rfl⟩⟩
 |b::l=>by
  obtain⟨h1,h2⟩:=fJ l
  unfold Lib.indexByte
  by_cases hb:b=32
  · subst hb
    refine⟨fun _=> ?_,fun h=>by simp[fG] at h⟩
    simp[bC,aO]
  · have e1:fG (b::l)=fG l:=by simp[fG,hb]
    have e2:bC (b::l)=b::bC l:=by simp[bC,hb]
    have e3:aO (b::l)=aO l:=by simp[aO,hb]
    rw[aB (by simpa using hb),e1,e2,e3]
    refine⟨fun h=> ?_,fun h=> ?_⟩
    · obtain⟨q1,q2,q3,q4⟩:=h1 h
      rw[q1,aB (by simp)]
      refine⟨by simp,by simp[q2],by simpa using q3,by simpa using q4⟩
    · obtain⟨q1,q2,q3⟩:=h2 h
      rw[q1,aC (by decide)]
      exact⟨rfl,by rw[q2],q3⟩
theorem aPq (s:List UInt8):Lib.cut s [32]=(bC s,aO s,fG s):=by
 obtain⟨h1,h2⟩:=fJ s
 unfold Lib.cut
 rw[Lib.index_one]
 cases h:fG s with
 |true=>
  obtain⟨q1,q2,q3,q4⟩:=h1 h
  rw[q1,aC (by omega),aVr,q2]
  show(_,List.drop ((bC s).length+1) s,_)=_
  rw[q3]
 |false=>
  obtain⟨q1,q2,q3⟩:=h2 h
  rw[q1,aB (by decide),q2,q3]
theorem aAq: ∀(n:Nat) (s:List UInt8),Lib.splitK [32] 0 n s=iA n s
 |0,s=>rfl
 |n+1,s=>by
  obtain⟨h1,h2⟩:=fJ s
  unfold Lib.splitK iA
  rw[Lib.index_one]
  cases h:fG s with
  |true=>
   obtain⟨q1,q2,q3,q4⟩:=h1 h
   rw[q1,aB (by simp),aC rfl,aVr,Nat.add_zero,q2]
   show _::Lib.splitK [32] 0 n (List.drop ((bC s).length+1) s)=_
   rw[q3,aAq n]
  |false=>
   obtain⟨q1,q2,q3⟩:=h2 h
   rw[q1,aC (by decide),aB (by simp)]
theorem aMr {P:Program} {f:FuncId} (hc:gi P f) (s:List UInt8) (hs:s.length≤1000000)
 (h: ∀(w:World),aI4 P w→Calls P f #[.string ⟨s.toArray⟩,.string ⟨#[32]⟩] w fun e w'=>e= .returned (.tuple #[.string ⟨(Lib.cut s [32]).1.toArray⟩,.string ⟨(Lib.cut s [32]).2.1.toArray⟩,.bool (Lib.cut s [32]).2.2])∧ ∃n,w'=w.drewN n):
 Spec P f 2 [(.t 0,.v (Dv (.s s))),(.t 1,.v (Dv (.s [32])))] [(.t 0,.v (.tup [.c (.d (.s (bC s))),.c (.d (.s (aO s))),.c (.d (.b (fG s)))]))]:=by
 refine jk (ds:=[.s s,.s [32]]) hc fun S w args hg hsz ha=> ?_
 have ha0:=ha 0 (.s s) (args[0]'(by rw[hsz];simp)) rfl (Array.getElem?_eq_getElem (by rw[hsz];simp))
 have ha1:=ha 1 (.s [32]) (args[1]'(by rw[hsz];simp)) rfl (Array.getElem?_eq_getElem (by rw[hsz];simp))
 have e:args= #[.string ⟨s.toArray⟩,.string ⟨#[32]⟩]:=by
  apply Array.ext
  · rw[hsz];rfl
  · intro i h1 h2
    have:i=0∨i=1:=by have:i<2:=by simpa using h2
                     omega
    rcases this with rfl|rfl
    · exact ha0.s_inv
    · exact ha1.s_inv
 subst e
 refine lE (fun e w'=> ?_) (h w hg)
 rintro⟨rfl,n,rfl⟩
 rw[aPq]
 refine⟨_,fun _=>False,rfl,aIp w n,fun σ ι=>⟨[.string ⟨(bC s).toArray⟩,.string ⟨(aO s).toArray⟩,.bool (fG s)],rfl,rfl,fun k x u hx hu=> ?_⟩,fun b hb=>hb.elim⟩
 match k,hx,hu with
 |0,hx,hu=>cases hx;cases hu;exact DR.s _
 |1,hx,hu=>cases hx;cases hu;exact DR.s _
 |2,hx,hu=>cases hx;cases hu;exact DR.b _
 |k+3,hx,hu=>simp at hx
theorem aIq (w:World) (l:List (List UInt8)) (cs:Array Value) (e:TypeId) (cap:Nat) (hl:l.length≤cap) (hm:cap≤maxLen) (hcs: ∀(i:Nat) x,l[i]? =some x→cs[i]? =some (.string ⟨x.toArray⟩)):
 DR (w.alloc (.cells cs e)) (fun b=>b=w.heap.size) (.sl (aY l)) (.slice (some ⟨w.heap.size,0,none⟩) l.length cap):=by
 have hh: (w.alloc (.cells cs e)).heap[w.heap.size]? =some (.cells cs e (0,0)):=heap_alloc_new w _
 have:=DR.sl (w:=w.alloc (.cells cs e)) (S:=fun b=>b=w.heap.size) (aY l) (some ⟨w.heap.size,0,none⟩) cap 1 ⟨w.heap.size,0,none⟩ (fun i k=> .string ⟨(l.getD i []).toArray⟩)
  (by rw[aJ];exact hl) hm (yX l) (fun _=>rfl) (fun i r k d hi hk=> ?_) (fun i r k d hi hk=> ?_)
 · rw[aJ] at this;exact this
 · have hi2:i<l.length:=by have:=(aV2.1 hi).1;rwa [aJ] at this
   have hr:r=[.s (l.getD i [])]:=by
    have h1:=eN hi2
    rw[aVy,hi] at h1
    exact h1
   subst hr
   have hk0:k=0:=by have:=(aV2.1 hk).1;simp at this;exact this
   subst hk0
   refine⟨rfl,?_⟩
   rw[mS,cell_of_row _ _ _ cs e (0,0) hh]
   rw[show 0+(i*1+0)=i by omega]
   exact hcs i (l.getD i []) (by rw[aVy,aV1 hi2];rfl)
 · have hi2:i<l.length:=by have:=(aV2.1 hi).1;rwa [aJ] at this
   have hr:r=[.s (l.getD i [])]:=by
    have h1:=eN hi2
    rw[aVy,hi] at h1
    exact h1
   subst hr
   have hk0:k=0:=by have:=(aV2.1 hk).1;simp at this;exact this
   subst hk0
   cases hk
   exact DR.s _
theorem mu {s:List UInt8} (h:fG s=true): (aO s).length<s.length:=by
 obtain⟨q1,q2,q3,q4⟩:=(fJ s).1 h
 rw[← q3,aV4];omega
theorem sP (s:List UInt8):Lib.count s [32]=if fG s=true then 1+Lib.count (aO s) [32] else 0:=by
 obtain⟨h1,h2⟩:=fJ s
 cases h:fG s with
 |true=>
  obtain⟨q1,q2,q3,q4⟩:=h1 h
  rw[aC rfl,Lib.count_hit (i:=(bC s).length) (by simp) (by rw[Lib.index_one,q1])]
  show 1+Lib.count (List.drop ((bC s).length+1) s) _=_
  rw[q3]
 |false=>
  rw[aB (by simp),Lib.count_miss (by rw[Lib.index_one,(h2 h).1])]
theorem tl: ∀(n:Nat) (s:List UInt8),Lib.count s [32]=n→(iA n s).length=n+1
 |0,s,h=>rfl
 |n+1,s,h=>by
  rw[sP] at h
  unfold iA
  by_cases hs:fG s=true
  · rw[aC hs] at h
    rw[aC hs,aVw,tl n (aO s) (by omega)]
  · rw[aB hs] at h;omega
theorem tn: ∀(n:Nat) (s:List UInt8),(iA n s).length≤n+1∧1≤(iA n s).length
 |0,s=>⟨aVz _,aVz _⟩
 |n+1,s=>by
  unfold iA
  split
  · have:=tn n (aO s)
    rw[aVw];omega
  · simp
theorem aEf: ∀(n m:Nat) (s:List UInt8),s.length≤n→s.length≤m→iA n s=iA m s
 |0,0,s,_,_=>rfl
 |0,m+1,s,h,_=>by
  rw[List.eq_nil_of_length_eq_zero (Nat.le_zero.1 h)];rfl
 |n+1,0,s,_,h=>by
  rw[List.eq_nil_of_length_eq_zero (Nat.le_zero.1 h)];rfl
 |n+1,m+1,s,h1,h2=>by
  unfold iA
  by_cases hs:fG s=true
  · have:=mu hs
    rw[aC hs,aC hs,aEf n m (aO s) (by omega) (by omega)]
  · rw[aB hs,aB hs]
theorem aMs (n:Nat) (s:List UInt8):iA (min (n+1) (s.length+1) - 1) s=iA n s:=by
 by_cases h:n≤s.length
 · rw[show min (n+1) (s.length+1) - 1=n by omega]
 · exact aEf _ _ s (by omega) (by omega)
def cR (s:List UInt8):List (List UInt8):=iA (Lib.count s [32]) s
theorem aR0 {args:Array Value} {w:World} {S:Nat→Prop} {s:List UInt8} {rest:List D} {vs:List Value} (hsz:args.size=vs.length) (h: ∀(i:Nat) d v,rest[i]? =some d→args[i]? =some v→DR w S d v) (hl:rest.length=vs.length) (hd: ∀(i:Nat) d v,rest[i]? =some d→DR w S d v→vs[i]? =some v):args=vs.toArray:=by
 apply Array.ext
 · rw[hsz];simp
 · intro i h1 h2
   have hi:i<rest.length:=by rw[hl,← hsz];exact h1
   have h3:=hd i rest[i] args[i] (aV1 hi) (h i rest[i] args[i] (aV1 hi) (Array.getElem?_eq_getElem h1))
   rw[List.getElem_toArray]
   rw[aV1 (by simpa using h2)] at h3
   exact(Option.some.inj h3).symm
theorem ow (n:Nat) (s:List UInt8): (Lib.splitB ⟨#[32]⟩ 0 n ⟨s.toArray⟩).map (·.data.toList)=iA n s:=by
 rw[Lib.splitB_data];exact aAq n s
theorem aAr {n:Nat} {s:List UInt8} {i:Nat} {x:List UInt8} (h: (iA n s)[i]? =some x): ((Lib.splitB ⟨#[32]⟩ 0 n ⟨s.toArray⟩).map Value.string)[i]? =some (.string ⟨x.toArray⟩):=by
 rw[← ow,List.getElem?_map] at h
 rw[List.getElem?_map]
 cases hq: (Lib.splitB ⟨#[32]⟩ 0 n ⟨s.toArray⟩)[i]? with
 |none=>rw[hq] at h;cases h
 |some b=>rw[hq] at h;cases h;rfl
theorem aG3 (n:Nat) (s:List UInt8): (Lib.splitB ⟨#[32]⟩ 0 n ⟨s.toArray⟩).length=(iA n s).length:=by rw[← ow,List.length_map]
theorem aG4 {P:Program} {f:FuncId} {e:TypeId} (hc:gi P f) (s:List UInt8) (hs:s.length≤1000000)
 (h: ∀(w:World),aI4 P w→Calls P f #[.string ⟨s.toArray⟩,.string ⟨#[32]⟩] w fun ex w'=>ex= .returned (.slice (some ⟨w.heap.size,0,none⟩) (Lib.count s [32]+1) (Lib.count s [32]+1))∧w'=w.alloc (.cells ((Lib.splitB ⟨#[32]⟩ 0 (Lib.count s [32]) ⟨s.toArray⟩).map Value.string).toArray e)):
 Spec P f 2 [(.t 0,.v (Dv (.s s))),(.t 1,.v (Dv (.s [32])))] [(.t 0,.v (Dv (.sl (aY (cR s)))))]:=by
 refine jk (ds:=[.s s,.s [32]]) hc fun S w args hg hsz ha=> ?_
 obtain rfl:args= #[.string ⟨s.toArray⟩,.string ⟨#[32]⟩]:=by
  refine aR0 (s:=s) (vs:=[.string ⟨s.toArray⟩,.string ⟨#[32]⟩]) hsz ha rfl fun i d v hi hd=> ?_
  match i,hi with
  |0,hi=>cases hi;rw[hd.s_inv];rfl
  |1,hi=>cases hi;rw[hd.s_inv];rfl
  |k+2,hi=>simp at hi
 refine lE (fun ex w'=> ?_) (h w hg)
 rintro⟨rfl,rfl⟩
 have hl: (cR s).length=Lib.count s [32]+1:=tl _ s rfl
 have hcl:=Lib.count_le s [32]
 refine⟨_,fun b=>b=w.heap.size,rfl,by rw[alloc_eq_grow];exact aCp w _,fun σ ι=> ?_,fun b hb=> ?_⟩
 · have:=aIq w (cR s) ((Lib.splitB ⟨#[32]⟩ 0 (Lib.count s [32]) ⟨s.toArray⟩).map Value.string).toArray e (Lib.count s [32]+1) (by omega) (by unfold maxLen;omega) fun i x hx=>by
    rw[List.getElem?_toArray];exact aAr hx
   rw[hl] at this
   exact this
 · subst hb
   refine⟨aVz _,?_⟩
   rw[alloc_eq_grow];simp[grow]
theorem aEg {P:Program} {f:FuncId} {e:TypeId} (hc:gi P f) (n:Nat) (s:List UInt8) (hs:s.length≤1000000) (hn:n≤1000)
 (h: ∀(w:World),aI4 P w→Calls P f #[.string ⟨s.toArray⟩,.string ⟨#[32]⟩,.int .i64 ((n+1:Nat):Int)] w fun ex w'=>ex= .returned (.slice (some ⟨w.heap.size,0,none⟩) (Lib.splitB ⟨#[32]⟩ 0 (min (n+1) (s.length+1) - 1) ⟨s.toArray⟩).length (min (n+1) (s.length+1)))∧w'=w.alloc (.cells (Lib.cellsOf (Lib.splitB ⟨#[32]⟩ 0 (min (n+1) (s.length+1) - 1) ⟨s.toArray⟩) (min (n+1) (s.length+1))) e)):
 Spec P f 3 [(.t 0,.v (Dv (.s s))),(.t 1,.v (Dv (.s [32]))),(.t 2,.v (I ((n+1:Nat):Int)))] [(.t 0,.v (Dv (.sl (aY (iA n s)))))]:=by
 refine jk (ds:=[.s s,.s [32],.i ((n+1:Nat):Int)]) hc fun S w args hg hsz ha=> ?_
 obtain rfl:args= #[.string ⟨s.toArray⟩,.string ⟨#[32]⟩,.int .i64 ((n+1:Nat):Int)]:=by
  refine aR0 (s:=s) (vs:=[.string ⟨s.toArray⟩,.string ⟨#[32]⟩,.int .i64 ((n+1:Nat):Int)]) hsz ha rfl fun i d v hi hd=> ?_
  match i,hi with
  |0,hi=>cases hi;rw[hd.s_inv];rfl
  |1,hi=>cases hi;rw[hd.s_inv];rfl
  |2,hi=>cases hi;rw[hd.i_inv];rfl
  |k+3,hi=>simp at hi
 refine lE (fun ex w'=> ?_) (h w hg)
 rintro⟨rfl,rfl⟩
 have hcl:=tn (min (n+1) (s.length+1) - 1) s
 refine⟨_,fun b=>b=w.heap.size,rfl,by rw[alloc_eq_grow];exact aCp w _,fun σ ι=> ?_,fun b hb=> ?_⟩
 · have:=aIq w (iA (min (n+1) (s.length+1) - 1) s) (Lib.cellsOf (Lib.splitB ⟨#[32]⟩ 0 (min (n+1) (s.length+1) - 1) ⟨s.toArray⟩) (min (n+1) (s.length+1))) e (min (n+1) (s.length+1)) (by omega) (by unfold maxLen;omega) fun i x hx=>by
    have h1:=aAr hx
    unfold Lib.cellsOf
    rw[List.getElem?_toArray,List.getElem?_append_left (aV2.1 h1).1]
    exact h1
   rw[← aG3,aMs] at this
   exact this
 · subst hb
   refine⟨aVz _,?_⟩
   rw[alloc_eq_grow];simp[grow]
set_option linter.unusedVariables false
set_option linter.unusedSimpArgs false
def jS (n:bA):List UInt8:=jA n.frm.toNat++[32]++jA n.num.toNat++[32]++jA n.to.toNat++[32]++jA n.til.toNat++[32]++n.text
def fN (n:bA):List UInt8:=if dZ n then jS n else []
def lT:Nat→List UInt8→List UInt8
 |0,s=>s
 |n+1,s=>aO (lT n s)
def dB (s:List UInt8) (i:Nat):Int:=fU (bC (lT i s))
def eO (n:Nat) (s:List UInt8):List Int:=(aV7 n).map (dB s)
theorem bE (n:Nat) (s:List UInt8): (eO n s).length=n:=by simp[eO]
theorem aG5 (n:Nat) (s:List UInt8):eO (n+1) s=eO n s++[dB s n]:=by simp[eO,List.range_succ]
theorem uL (s:List UInt8): (aO s).length≤s.length:=by
 cases h:fG s with
 |true=>exact Nat.le_of_lt (mu h)
 |false=>rw[((fJ s).2 h).2.2];exact aVv _
theorem tp (n:Nat) (s:List UInt8): (lT n s).length≤s.length:=by
 induction n with
 |zero=>exact aVz _
 |succ n ih=>exact Nat.le_trans (uL _) ih
theorem dm (s:List UInt8): (bC s).length≤s.length:=by
 cases h:fG s with
 |true=>exact Nat.le_of_lt ((fJ s).1 h).2.2.2
 |false=>rw[((fJ s).2 h).2.1];exact aVz _
def gY (l:List (List UInt8)):Bool:=l.all fun w=>(iU w).isSome
def jY (l:List (List UInt8)):List Int:=if gY l then l.map iH else []
def cb (t:List UInt8):bA:=⟨dB t 0,dB t 1,dB t 2,dB t 3,lT 4 t⟩
def dK (t:List UInt8):bA×Bool:=if t=[]∨fN (cb t)≠t then(.zero,false) else(cb t,true)
def oI (t:List UInt8):bA:=⟨iH ((iA 4 t).getD 0 []),iH ((iA 4 t).getD 1 []),iH ((iA 4 t).getD 2 []),iH ((iA 4 t).getD 3 []),(iA 4 t).getD 4 []⟩
def oz (t:List UInt8):bA×Bool:=if(iA 4 t).length≠5∨gY ((iA 4 t).take 4)=false∨dZ (oI t)=false∨fN (oI t)≠t then(.zero,false) else(oI t,true)
theorem mW {w r:List UInt8} (h: ∀b∈w,b≠32):bC (w++32::r)=w∧aO (w++32::r)=r∧fG (w++32::r)=true:=by
 induction w with
 |nil=>exact⟨by simp[bC],by simp[aO],by simp[fG]⟩
 |cons b w ih=>
  have hb:b≠32:=h b (List.mem_cons_self ..)
  obtain⟨h1,h2,h3⟩:=ih fun x hx=>h x (List.mem_cons_of_mem _ hx)
  refine⟨?_,?_,?_⟩
  · rw[List.cons_append]
    have:bC (b::(w++32::r))=b::bC (w++32::r):=by simp[bC,hb]
    rw[this,h1]
  · rw[List.cons_append]
    have:aO (b::(w++32::r))=aO (w++32::r):=by simp[aO,hb]
    rw[this,h2]
  · simp[fG]
theorem vC (n:Nat): ∀b∈jA n,b≠32:=by
 intro b hb e
 have:=yZ n b hb
 subst e
 exact absurd this (by decide)
theorem bP {k:Nat}: ∀{n:Nat},n<10 ^ (k+1)→(jA n).length≤k+1:=by
 induction k with
 |zero=>
  intro n h
  rw[mB (by simpa using h)];simp
 |succ k ih=>
  intro n h
  by_cases hs:n<10
  · rw[mB hs];simp
  · rw[tU (by omega),aVt]
    have:=ih (n:=n / 10) (by rw[Nat.pow_succ] at h;omega)
    simp;omega
theorem lU {n:Nat} (h:n<100000):iU (jA n)=some n:=by
 have hl: (jA n).length≤5:=bP (k:=4) (by simpa using h)
 have h1:1≤(jA n).length:=List.length_pos_iff.2 (aCn n)
 have hd:bz (jA n)=true:=aV8.2 (yZ n)
 unfold iU
 rw[aC ⟨⟨h1,hl⟩,(vU h1 hd).1 (by rw[jh]),hd⟩,jh]
theorem vD {n:Nat} (h:n<10000):fU (jA n)=n:=by
 have hl: (jA n).length≤4:=bP (k:=3) (by simpa using h)
 have h1:1≤(jA n).length:=List.length_pos_iff.2 (aCn n)
 unfold fU
 rw[aC ⟨⟨h1,hl⟩,aV8.2 (yZ n),by rw[jh]⟩,jh]
theorem nM {n:bA} (h:dZ n=true): (0≤n.frm∧n.frm≤3)∧(0≤n.to∧n.to≤3)∧(1≤n.num∧n.num≤99)∧(1≤n.til∧n.til≤999)∧(1≤n.text.length∧n.text.length≤24):=by
 simp only[dZ,dY,gT,yY,aVu,aD] at h
 omega
theorem gm (n:bA):jS n=jA n.frm.toNat++32::(jA n.num.toNat++32::(jA n.to.toNat++32::(jA n.til.toNat++32::n.text))):=by simp[jS]
theorem aAs {n:bA} (h:dZ n=true):cb (jS n)=n∧(iA 4 (jS n)).length=5∧gY ((iA 4 (jS n)).take 4)=true∧oI (jS n)=n:=by
 obtain⟨p1,p2,p3,p4,p5⟩:=nM h
 obtain⟨a1,a2,a3⟩:=mW (r:=jA n.num.toNat++32::(jA n.to.toNat++32::(jA n.til.toNat++32::n.text))) (vC n.frm.toNat)
 obtain⟨b1,b2,b3⟩:=mW (r:=jA n.to.toNat++32::(jA n.til.toNat++32::n.text)) (vC n.num.toNat)
 obtain⟨c1,c2,c3⟩:=mW (r:=jA n.til.toNat++32::n.text) (vC n.to.toNat)
 obtain⟨d1,d2,d3⟩:=mW (r:=n.text) (vC n.til.toNat)
 have hc:iA 4 (jS n)=[jA n.frm.toNat,jA n.num.toNat,jA n.to.toNat,jA n.til.toNat,n.text]:=by
  rw[gm]
  simp only[iA,a1,a2,a3,b1,b2,b3,c1,c2,c3,d1,d2,d3,if_true]
 have e: ∀{x:Int},0≤x→((x.toNat:Nat):Int)=x:=fun h=>by omega
 have v1:fU (jA n.frm.toNat)=n.frm:=by rw[vD (by omega),e (by omega)]
 have v2:fU (jA n.num.toNat)=n.num:=by rw[vD (by omega),e (by omega)]
 have v3:fU (jA n.to.toNat)=n.to:=by rw[vD (by omega),e (by omega)]
 have v4:fU (jA n.til.toNat)=n.til:=by rw[vD (by omega),e (by omega)]
 have w1:iU (jA n.frm.toNat)=some n.frm.toNat:=lU (by omega)
 have w2:iU (jA n.num.toNat)=some n.num.toNat:=lU (by omega)
 have w3:iU (jA n.to.toNat)=some n.to.toNat:=lU (by omega)
 have w4:iU (jA n.til.toNat)=some n.til.toNat:=lU (by omega)
 have u1:iH (jA n.frm.toNat)=n.frm:=by rw[iH,w1];exact e (by omega)
 have u2:iH (jA n.num.toNat)=n.num:=by rw[iH,w2];exact e (by omega)
 have u3:iH (jA n.to.toNat)=n.to:=by rw[iH,w3];exact e (by omega)
 have u4:iH (jA n.til.toNat)=n.til:=by rw[iH,w4];exact e (by omega)
 refine⟨?_,by rw[hc];rfl,?_,?_⟩
 · rw[gm]
   simp only[cb,dB,lT,a1,a2,b1,b2,c1,c2,d1,d2,v1,v2,v3,v4]
 · rw[hc]
   simp[gY,w1,w2,w3,w4]
 · simp only[oI,hc,List.getD_cons_zero,List.getD_cons_succ,u1,u2,u3,u4]
theorem aPr (n:bA):jS n≠[]:=by
 rw[gm];simp
theorem aAt (t:List UInt8) (x:bA) (h:dZ x=true) (e:jS x=t):dK t=(x,true):=by
 subst e
 unfold dK
 rw[(aAs h).1,aB]
 rintro(h1|h1)
 · exact aPr x h1
 · exact h1 (aC h)
theorem aJ0 (t:List UInt8) (x:bA) (h:dZ x=true) (e:jS x=t):oz t=(x,true):=by
 subst e
 obtain⟨h1,h2,h3,h4⟩:=aAs h
 unfold oz
 rw[h4,aB]
 rintro(h5|h5|h5|h5)
 · exact h5 h2
 · rw[h3] at h5;cases h5
 · rw[h] at h5;cases h5
 · exact h5 (aC h)
theorem aPs (t:List UInt8): (∃x,dZ x=true∧jS x=t∧dK t=(x,true)∧oz t=(x,true))∨(dK t=(.zero,false)∧oz t=(.zero,false)):=by
 by_cases h: ∃x,dZ x=true∧jS x=t
 · obtain⟨x,h1,h2⟩:=h
   exact .inl ⟨x,h1,h2,aAt t x h1 h2,aJ0 t x h1 h2⟩
 · refine .inr ⟨?_,?_⟩
   · unfold dK
     rw[aC]
     by_cases h1:t=[]
     · exact .inl h1
     · refine .inr fun h2=> ?_
       unfold fN at h2
       split at h2
       · rename_i h3;exact h ⟨_,h3,h2⟩
       · exact h1 h2.symm
   · unfold oz
     rw[aC]
     by_cases h1:dZ (oI t)=true
     · refine .inr (.inr (.inr fun h2=> ?_))
       rw[fN,aC h1] at h2
       exact h ⟨_,h1,h2⟩
     · exact .inr (.inr (.inl (by simpa using h1)))
theorem aEh (t:List UInt8):oz t=dK t:=by
 rcases aPs t with⟨x,_,_,h1,h2⟩|⟨h1,h2⟩<;>rw[h1,h2]
set_option linter.unusedVariables false
set_option linter.unusedSimpArgs false
theorem aMt {s:List UInt8} {i:Nat} (hk: ∀j,j<i→s.getD j 0≠32) (hi:i<s.length) (h:s.getD i 0=32):bC s=s.take i∧aO s=s.drop (i+1)∧fG s=true:=by
 have e:s=s.take i++32::s.drop (i+1):=by
  rw[← h,aVy,aV1 hi]
  show s=List.take i s++s[i]::List.drop (i+1) s
  rw[← List.drop_eq_getElem_cons hi,List.take_append_drop]
 have hw: ∀b∈s.take i,b≠32:=by
  intro b hb
  obtain⟨j,hj⟩:=List.mem_iff_getElem?.1 hb
  have hlt:j<i:=by
   have:=(aV2.1 hj).1
   rw[aV0] at this;omega
  rw[List.getElem?_take_of_lt hlt] at hj
  have:=hk j hlt
  rw[aVy,hj] at this
  exact this
 obtain⟨h1,h2,h3⟩:=mW (r:=s.drop (i+1)) hw
 rw[← e] at h1 h2 h3
 exact⟨h1,h2,h3⟩
theorem aJ1 {s:List UInt8} (hk: ∀j,j<s.length→s.getD j 0≠32):bC s=s∧aO s=[]∧fG s=false:=by
 have hn:fG s=false:=by
  unfold fG
  rw[List.any_eq_false]
  intro b hb
  obtain⟨j,hj⟩:=List.mem_iff_getElem?.1 hb
  have:=hk j (aV2.1 hj).1
  rw[aVy,hj] at this
  simpa using this
 obtain⟨q1,q2,q3⟩:=(fJ s).2 hn
 exact⟨q2,q3,hn⟩
theorem aJ2 {l:List (List UInt8)} {i:Nat} (hi:i<l.length) (h: (iU (l.getD i [])).isSome=false):gY l=false:=by
 unfold gY
 rw[List.all_eq_false]
 refine⟨l.getD i [],?_,by rw[h];decide⟩
 rw[aVy,aV1 hi]
 exact List.getElem_mem _
theorem aG6 {l:List (List UInt8)} (h: ∀i,i<l.length→(iU (l.getD i [])).isSome=true):gY l=true:=by
 unfold gY
 rw[aV8]
 intro x hx
 obtain⟨j,hj⟩:=List.mem_iff_getElem?.1 hx
 have:=h j (aV2.1 hj).1
 rw[aVy,hj] at this
 exact this
theorem yo {l:List (List UInt8)} {i:Nat} (h:i<l.length): (l.take (i+1)).map iH=(l.take i).map iH++[iH (l.getD i [])]:=by
 rw[List.take_add_one,aV1 h,aVy,aV1 h,List.map_append]
 rfl
def aEi (n:Int):List UInt8:=if n<0 then 45::jA (-n).toNat else jA n.toNat
theorem cM {α:Type} {l:List α} {i:Nat} {z:α} (h:i<l.length):l.getD i z∈l:=by
 rw[aVy,aV1 h]
 exact List.getElem_mem _
set_option linter.unusedVariables false
set_option linter.unusedSimpArgs false
theorem jl: ∀(n:Nat) (s:List UInt8),∀x∈iA n s,x.length≤s.length
 |0,s,x,h=>by
  rw[aWa.1 h];exact aVz _
 |n+1,s,x,h=>by
  unfold iA at h
  by_cases hs:fG s=true
  · rw[aC hs] at h
    rcases aV6.1 h with rfl|h
    · exact dm s
    · exact Nat.le_trans (jl n _ x h) (uL s)
  · rw[aB hs] at h
    rw[aWa.1 h];exact aVz _
theorem xQ {α:Type} {l:List α} {n i:Nat} {z:α} (h:i<n): (l.take n).getD i z=l.getD i z:=by
 rw[aVy,List.getElem?_take_of_lt h,← aVy]
theorem gP {l:List (List UInt8)} (h:gY l=true): (jY l).length=l.length:=by rw[jY,aC h,List.length_map]
theorem aEj {l:List (List UInt8)} (h:gY l=true) {i:Nat} (hi:i<l.length): (jY l).getD i 0=iH (l.getD i []):=by
 rw[jY,aC h,aVy,List.getElem?_map,aV1 hi,aVy,aV1 hi]
 rfl
theorem gZ {l:List Int} {i:Nat} (h:i<l.length): (bW l).getD (i:Int).toNat []=[.i (l.getD i 0)]:=by
 rw[aVr,gW h]
theorem aCq (l:List (List UInt8)) (n:Nat): (aY l).take n=aY (l.take n):=by simp[aY,List.map_take]
theorem aEk {n:Nat} {s:List UInt8} {i:Nat} (h:i<n): (eO n s).getD i 0=dB s i:=by
 unfold eO
 rw[aVy,List.getElem?_map,List.getElem?_range h]
 rfl
theorem tq {t:List UInt8} (h: (iA 4 t).length≠5∨gY ((iA 4 t).take 4)=false∨dZ (oI t)=false∨fN (oI t)≠t):dK t=(.zero,false):=by
 rw[← aEh,oz,aC h]
theorem aJ3 {t:List UInt8} (h1: (iA 4 t).length=5) (h2:gY ((iA 4 t).take 4)=true) (h3:dZ (oI t)=true) (h4:fN (oI t)=t):dK t=(oI t,true):=by
 rw[← aEh,oz,aB]
 rintro(h|h|h|h)
 · exact h h1
 · rw[h2] at h;cases h
 · rw[h3] at h;cases h
 · exact h h4
theorem aCr {l:List (List UInt8)} (h:gY (l.take 4)=true) (h5:l.length=5) {i:Nat} (hi:i<4):xK (((bW (jY (l.take 4))).getD i []).getD 0 (.i 0))=iH (l.getD i []):=by
 have hl:i< (l.take 4).length:=by rw[aV0];omega
 rw[gW (by rw[gP h];exact hl)]
 show(jY (l.take 4)).getD i 0=_
 rw[aEj h hl,xQ hi]
theorem rn {s:List UInt8} {i:Nat} (hi:i<4):xK (((bW (eO 4 s)).getD i []).getD 0 (.i 0))=dB s i:=by
 rw[gW (by rw[bE];exact hi)]
 exact aEk hi
set_option linter.unusedVariables false
set_option linter.unusedSimpArgs false
def aX.zero:aX:=⟨0,0,0,[],[],[]⟩
def bY (id:Int):aX:=if dY id then⟨id,0,1,[],[],[]⟩ else .zero
def jB (l:List bA) (n:bA):List bA:=l.takeWhile (fun x=>cD x.frm x.num n.frm n.num)++n::l.dropWhile (fun x=>cD x.frm x.num n.frm n.num)
def qH (l:List bU) (n:bU):List bU:=l.takeWhile (fun x=>cD x.frm x.num n.frm n.num)++n::l.dropWhile (fun x=>cD x.frm x.num n.frm n.num)
def jC (l:List bA) (n:bA):List bA:=l.takeWhile (fun x=> !cD n.frm n.num x.frm x.num)++n::l.dropWhile (fun x=> !cD n.frm n.num x.frm x.num)
def nN (l:List bU) (n:bU):List bU:=l.takeWhile (fun x=> !cD n.frm n.num x.frm x.num)++n::l.dropWhile (fun x=> !cD n.frm n.num x.frm x.num)
def eG {α:Type} (l:List α) (i:Nat):List α:=l.take i++l.drop (i+1)
def kN (k:aX) (t:Int):aX:={k with time:=t,held:=k.held.filter (fun n=>decide (t<n.til)),marks:=k.marks.filter (fun n=>decide (t<n.til))}
def au (k:aX) (n:bA):Bool:=dZ n&&decide (k.time<n.til)&&decide (aW k.held n.frm n.num<0)&&decide (aW k.inbox n.frm n.num<0)&&decide (fM k.marks n.frm n.num<0)
def fZ (k:aX) (n:bA):aX×Bool:=
 if au k n&&decide ((k.held.length:Int)+k.marks.length+1≤12) then
  (if n.to==k.id then{k with inbox:=jB k.inbox n,marks:=qH k.marks ⟨n.frm,n.num,n.til⟩} else{k with held:=jB k.held n},true)
 else(k,false)
def iP:List UInt8:=[116,105,109,101]
def iQ:List UInt8:=[110,101,120,116]
def lG:List UInt8:=[111,119,110]
def dF:List UInt8:=[116,97,107,101]
def fY:List UInt8:=[104,101,108,100]
def eW:List UInt8:=[105,110,98,111,120]
def kV:List UInt8:=[108,101,116]
def oE:List UInt8:=[101,97,116]
def gK:List UInt8:=[109,97,114,107]
def kQ (k:aX) (w:List UInt8) (n:Int):aX×Bool:=
 if w==iP&&decide (k.time<n) then(kN k n,true)
 else if w==iQ&&decide (k.next<n) then({k with next:=n},true)
 else(k,false)
def fC (k:aX) (w:List UInt8) (n:bA):aX×Bool:=
 if w==lG&&n.frm==k.id&&n.num==k.next then fZ {k with next:=wrap64 (k.next+1)} n
 else if w==dF&&n.frm != k.id then fZ k n
 else if decide (0≤aW k.held n.frm n.num)||decide (0≤aW k.inbox n.frm n.num) then(k,false)
 else if w==fY then({k with held:=jB k.held n},true)
 else if w==eW then({k with inbox:=jB k.inbox n},true)
 else(k,false)
def gL (k:aX) (w:List UInt8) (m:bU):aX×Bool:=
 if w==kV&&decide (0≤aW k.held m.frm m.num)&&(k.held.getD (aW k.held m.frm m.num).toNat .zero).til==m.til then
  ({k with held:=eG k.held (aW k.held m.frm m.num).toNat,marks:=qH k.marks m},true)
 else if w==oE&&decide (0≤aW k.inbox m.frm m.num)&&(k.inbox.getD (aW k.inbox m.frm m.num).toNat .zero).til==m.til then
  ({k with inbox:=eG k.inbox (aW k.inbox m.frm m.num).toNat},true)
 else if w==gK&&decide (fM k.marks m.frm m.num<0) then({k with marks:=qH k.marks m},true)
 else(k,false)
def three (l:List (List UInt8)):bU:=⟨iH (l.getD 0 []),iH (l.getD 1 []),iH (l.getD 2 [])⟩
def dL (k:aX) (rec:List UInt8):aX×Bool:=
 if fG rec then
  if bC rec==iP||bC rec==iQ then(if(iU (aO rec)).isSome then kQ k (bC rec) (iH (aO rec)) else(k,false))
  else if bC rec==lG||bC rec==dF||bC rec==fY||bC rec==eW then(if(dK (aO rec)).2 then fC k (bC rec) (dK (aO rec)).1 else(k,false))
  else if bC rec==kV||bC rec==oE||bC rec==gK then(if gY (cR (aO rec))&&(cR (aO rec)).length==3 then gL k (bC rec) (three (cR (aO rec))) else(k,false))
  else(k,false)
 else(k,false)
def mG (k:aX) (x:aX×Bool):aX×Bool:=if x.2&&cP x.1 then(x.1,true) else(k,false)
def bX (k:aX) (rec:List UInt8):aX×Bool:=if cP k then mG k (dL k rec) else(.zero,false)
def gn (k:aX) (n:bA):Bool:=dZ n&&decide (k.time<n.til)&&decide (aW k.held n.frm n.num<0)&&decide (fM k.marks n.frm n.num<0)&&decide (aW k.inbox n.frm n.num<0)
def lV (k:aX) (n:bA):aX×Bool:=
 if gn k n then
  if n.to != k.id then({k with held:=jC k.held n},decide (((jC k.held n).length:Int)+k.marks.length≤12))
  else({k with inbox:=jC k.inbox n,marks:=nN k.marks ⟨n.frm,n.num,n.til⟩},decide ((k.held.length:Int)+(nN k.marks ⟨n.frm,n.num,n.til⟩).length≤12))
 else(k,false)
def jm (k:aX) (f m:Int):aX×Bool:=
 if 0≤aW k.held f m then({k with held:=eG k.held (aW k.held f m).toNat,marks:=nN k.marks ⟨f,m,(k.held.getD (aW k.held f m).toNat .zero).til⟩},true) else(k,false)
def jn (k:aX) (f m:Int):aX×Bool:=
 if 0≤aW k.inbox f m then({k with inbox:=eG k.inbox (aW k.inbox f m).toNat},true) else(k,false)
def gF (r:List UInt8):bU:=⟨dB r 0,dB r 1,dB r 2⟩
def en (m:bU):List UInt8:=aEi m.frm++[32]++aEi m.num++[32]++aEi m.til
def fQ (k:aX) (rec:List UInt8):aX×Bool:=
 if bC rec==iP then(if fU (aO rec)≤k.time then(k,false) else(kN k (fU (aO rec)),true))
 else if bC rec==lG then
  (if !(dK (aO rec)).2||(dK (aO rec)).1.frm != k.id||(dK (aO rec)).1.num != k.next then(k,false) else lV {k with next:=wrap64 (k.next+1)} (dK (aO rec)).1)
 else if bC rec==dF then(if !(dK (aO rec)).2||(dK (aO rec)).1.frm==k.id then(k,false) else lV k (dK (aO rec)).1)
 else if bC rec==iQ then(if fU (aO rec)≤k.next then(k,false) else({k with next:=fU (aO rec)},true))
 else if bC rec==fY||bC rec==eW then
  (if !(dK (aO rec)).2||decide (aW k.held (dK (aO rec)).1.frm (dK (aO rec)).1.num≥0)||decide (aW k.inbox (dK (aO rec)).1.frm (dK (aO rec)).1.num≥0) then(k,false)
   else if bC rec==fY then({k with held:=jC k.held (dK (aO rec)).1},true) else({k with inbox:=jC k.inbox (dK (aO rec)).1},true))
 else if !(lT 3 (aO rec)==[])|| !(aO rec==en (gF (aO rec))) then(k,false)
 else if bC rec==kV then
  (if decide (aW k.held (gF (aO rec)).frm (gF (aO rec)).num<0)||(k.held.getD (aW k.held (gF (aO rec)).frm (gF (aO rec)).num).toNat .zero).til != (gF (aO rec)).til then(k,false)
   else jm k (gF (aO rec)).frm (gF (aO rec)).num)
 else if bC rec==oE then
  (if decide (aW k.inbox (gF (aO rec)).frm (gF (aO rec)).num<0)||(k.inbox.getD (aW k.inbox (gF (aO rec)).frm (gF (aO rec)).num).toNat .zero).til != (gF (aO rec)).til then(k,false)
   else jn k (gF (aO rec)).frm (gF (aO rec)).num)
 else if bC rec==gK then(if fM k.marks (gF (aO rec)).frm (gF (aO rec)).num≥0 then(k,false) else({k with marks:=nN k.marks (gF (aO rec))},true))
 else(k,false)
def oS (k:aX) (rec:List UInt8):aX×Bool:=if cP k then mG k (fQ k rec) else(.zero,false)
def fR:aX→List (List UInt8)→aX×Bool
 |k,[]=>(k,true)
 |k,r::rs=>if(bX k r).2 then fR (bX k r).1 rs else(.zero,false)
def cQ (id:Int) (recs:List (List UInt8)):aX×Bool:=if dY id then fR (bY id) recs else(.zero,false)
set_option linter.unusedVariables false
set_option linter.unusedSimpArgs false
section
variable {α:Type} {l:List α} {z:α} {i:Nat}
theorem dH (h:i<l.length):l.take (i+1)=l.take i++[l.getD i z]:=by
 rw[List.take_add_one,aV1 h,aVy,aV1 h]
 rfl
theorem aCs {p:α→Bool} (hi:i≤l.length) (hk: ∀j,j<i→p (l.getD j z)=true) (h:i=l.length∨p (l.getD i z)=false):l.takeWhile p=l.take i∧l.dropWhile p=l.drop i:=by
 induction l generalizing i with
 |nil=>simp at hi;subst hi;simp
 |cons x l ih=>
  cases i with
  |zero=>
   have hx:p x=false:=by
    rcases h with h|h
    · simp at h
    · simpa using h
   simp[List.takeWhile,List.dropWhile,hx]
  |succ i=>
   have hx:p x=true:=by simpa using hk 0 (by omega)
   obtain⟨h1,h2⟩:=ih (i:=i) (by simpa using hi) (fun j hj=>by simpa using hk (j+1) (by omega)) (by
    rcases h with h|h
    · left;simpa using h
    · right;simpa using h)
   simp[List.takeWhile,List.dropWhile,hx,h1,h2]
def qI (p:α→Bool) (n:α) (l:List α):List α:=l.takeWhile p++n::l.dropWhile p
theorem aIr {p:α→Bool} {n:α} (hi:i≤l.length) (hk: ∀j,j<i→p (l.getD j z)=true) (h:i=l.length∨p (l.getD i z)=false):qI p n l=l.take i++n::l.drop i:=by
 obtain⟨h1,h2⟩:=aCs hi hk h
 rw[qI,h1,h2]
theorem eZ {p:α→Bool} {n:α}: (qI p n l).length=l.length+1:=by
 have h:=aA List.length (List.takeWhile_append_dropWhile (p:=p) (l:=l))
 rw[aVt] at h
 rw[qI,aVt,aVw];omega
theorem xR {p:α→Bool} {n x:α}:x∈qI p n l↔x=n∨x∈l:=by
 have h:x∈l↔x∈l.takeWhile p∨x∈l.dropWhile p:=by
  conv=>lhs;rw[← List.takeWhile_append_dropWhile (p:=p) (l:=l)]
  exact List.mem_append
 rw[qI,List.mem_append,aV6,h]
 constructor
 · rintro(h|h|h)
   · exact .inr (.inl h)
   · exact .inl h
   · exact .inr (.inr h)
 · rintro(h|h|h)
   · exact .inr (.inl h)
   · exact .inl h
   · exact .inr (.inr h)
def midW (q:α→Bool) (n:α) (l:List α):List α:=if l.any q then qI (fun x=> !q x) n l else l
theorem aJ4 {q:α→Bool} {n x:α} (h:l.any q=true):qI (fun x=> !q x) n (l++[x])=qI (fun x=> !q x) n l++[x]:=by
 induction l with
 |nil=>simp at h
 |cons y l ih=>
  by_cases hy:q y=true
  · simp[qI,hy]
  · have hy':q y=false:=by simpa using hy
    have h2:l.any q=true:=by simpa[hy'] using h
    have:=ih h2
    simp only[qI] at this ⊢
    simp[hy',this]
theorem aJ5 {q:α→Bool} {n:α} (h:l.any q=false):qI (fun x=> !q x) n l=l++[n]:=by
 induction l with
 |nil=>simp[qI]
 |cons y l ih=>
  have hy:q y=false:=by
   cases hq:q y with
   |false=>rfl
   |true=>simp[hq] at h
  have h2:l.any q=false:=by simpa[hy] using h
  have:=ih h2
  simp only[qI] at this ⊢
  simp[hy,this]
theorem aEl {q:α→Bool} {n x:α} (h:l.any q=false) (hx:q x=true):midW q n (l++[x])=midW q n l++[n]++[x]:=by
 have e1: (l++[x]).any q=true:=by simp[hx]
 have e2:midW q n l=l:=by rw[midW,h];rfl
 rw[e2,midW,aC e1]
 induction l with
 |nil=>simp[qI,hx]
 |cons y l ih=>
  have hy:q y=false:=by
   cases hq:q y with
   |false=>rfl
   |true=>simp[hq] at h
  have h2:l.any q=false:=by simpa[hy] using h
  have:=ih h2 (by simp[hx]) (by rw[midW,h2];rfl)
  simp only[qI] at this ⊢
  simp[hy] at this ⊢
  exact this
theorem aIs {q:α→Bool} {n x:α} (h:l.any q=true∨q x=false):midW q n (l++[x])=midW q n l++[x]:=by
 cases ha:l.any q with
 |true=>
  have e1: (l++[x]).any q=true:=by rw[List.any_append,ha];rfl
  rw[midW,aC e1,midW,ha,aC rfl,aJ4 ha]
 |false=>
  have hx:q x=false:=by
   rcases h with h|h
   · rw[ha] at h;cases h
   · exact h
  have e1: (l++[x]).any q=false:=by rw[List.any_append,ha];simp[hx]
  rw[midW,midW,e1,ha];rfl
theorem jo {q:α→Bool} {x:α}: (l++[x]).any q=(l.any q||q x):=by simp
theorem jp {q:α→Bool} {n:α}:qI (fun x=> !q x) n l=if l.any q then midW q n l else midW q n l++[n]:=by
 cases ha:l.any q with
 |true=>rw[aC rfl,midW,ha,aC rfl]
 |false=>rw[aB (by simp),midW,ha,aJ5 ha];rfl
theorem pa {p:α→Bool} (h:i<l.length): (l.take (i+1)).filter p=(l.take i).filter p++(if p (l.getD i z) then [l.getD i z] else []):=by
 rw[dH (z:=z) h,List.filter_append]
 congr 1
 by_cases hp:p (l.getD i z)=true
 · rw[aC hp,List.filter_cons_of_pos hp];rfl
 · rw[aB hp,List.filter_cons_of_neg hp];rfl
theorem zD {p:α→Bool} (h:i<l.length) (hp:p (l.getD i z)=true): (l.take (i+1)).filter p=(l.take i).filter p++[l.getD i z]:=by
 rw[pa (z:=z) h,aC hp]
theorem dn {p:α→Bool} (h:i<l.length) (hp:p (l.getD i z)=false): (l.take (i+1)).filter p=(l.take i).filter p:=by
 rw[pa (z:=z) h,hp];simp
theorem dp {x:α} (h:x∈eG l i):x∈l:=by
 rcases List.mem_append.1 h with h|h
 · exact List.mem_of_mem_take h
 · exact List.mem_of_mem_drop h
end
theorem xS (l:List bA) (n:bA):jB l n=qI (fun x=>cD x.frm x.num n.frm n.num) n l:=rfl
theorem dq (l:List bU) (n:bU):qH l n=qI (fun x=>cD x.frm x.num n.frm n.num) n l:=rfl
theorem zE (l:List bA) (n:bA):jC l n=qI (fun x=> !cD n.frm n.num x.frm x.num) n l:=rfl
theorem vE (l:List bU) (n:bU):nN l n=qI (fun x=> !cD n.frm n.num x.frm x.num) n l:=rfl
theorem bn {b:Bool} (h:b=false): ¬b=true:=by simp[h]
theorem tt {k:aX} {n:bA} {c:Bool} (hb:k.held.length≤100000∧k.marks.length≤100000∧k.inbox.length≤100000)
 (h: (!dZ n||decide (n.til≤k.time)||decide (aW k.held n.frm n.num≥0)||decide (aW k.inbox n.frm n.num≥0)||decide (fM k.marks n.frm n.num≥0)||decide (wrap64 (wrap64 ((aH k.held).length+(aM k.marks).length)+1)>12))=c):
 (au k n&&decide ((k.held.length:Int)+k.marks.length+1≤12))= !c:=by
 subst h
 rw[aG,aI,aF (n:=(k.held.length:Int)+k.marks.length) (by omega),aF (by omega)]
 unfold au
 simp only[aAn,Bool.not_or,Bool.not_not,gt_iff_lt]
theorem eT (l:List bA) (f m:Int): -1≤aW l f m∧aW l f m<l.length:=by
 rcases gE (oD l f m) l.length 0 with h|⟨k,h,_,h2,_⟩<;>rw[aW,h]<;>omega
theorem aAu {k:aX} {n:bA} (ha: (au k n&&decide ((k.held.length:Int)+k.marks.length+1≤12))=true) (hto: (n.to==k.id)=true):fZ k n=({k with inbox:=jB k.inbox n,marks:=qH k.marks ⟨n.frm,n.num,n.til⟩},true):=by
 unfold fZ
 rw[aC ha,aC hto]
theorem aAv {k:aX} {n:bA} (ha: (au k n&&decide ((k.held.length:Int)+k.marks.length+1≤12))=true) (hto: (n.to==k.id)=false):fZ k n=({k with held:=jB k.held n},true):=by
 unfold fZ
 rw[aC ha,hto]
 rfl
theorem ep (l:List bA) (x:bA):aH l++[x.row]=aH (l++[x]):=by simp[aH]
theorem er (l:List bU) (x:bU):aM l++[x.row]=aM (l++[x]):=by simp[aM]
theorem jD (l:List bA) (a b:Nat): ∀r∈((aH l).take a).drop b,r.length=5:=fun r hr=>eY l r (List.mem_of_mem_take (List.mem_of_mem_drop hr))
theorem zF (l:List bU) (a b:Nat): ∀r∈((aM l).take a).drop b,r.length=3:=fun r hr=>jJ l r (List.mem_of_mem_take (List.mem_of_mem_drop hr))
theorem sQ (L:List (List D)) (i:Nat): (L.take (iE none L.length)).drop (gD (some (i:Int)))=L.drop i:=by
 simp[iE,gD]
theorem wR (L:List (List D)) (i n:Nat): (L.take (iE (some (i:Int)) n)).drop (gD none)=L.take i:=by
 simp[iE,gD]
theorem hG (n:Nat):iE none n=n:=by simp[iE]
theorem hO (i n:Nat):iE (some (i:Int)) n=i:=by simp[iE]
theorem hP:gD none=0:=rfl
theorem hU (i:Nat):gD (some (i:Int))=i:=by simp[gD]
section
variable {τ σ':St} {rl:List (Nat×Nat)} {bor:List Nat} {r:List (cL×K)}
theorem iR {s:Nat} {xs ys:List E} (h:aQ τ (.t s)=some (.v (.tup xs))) (e:mEs τ σ' rl bor xs ys) (hr:mL τ σ' rl bor r):mL τ σ' rl bor ((.t s,.v (.tup ys))::r):=⟨⟨_,h,e⟩,hr⟩
theorem fA:mEs τ σ' rl bor [] []:=trivial
theorem gA {cs ds:List C} {xs ys:List E} (e:sf τ σ' rl bor cs ds) (h:mEs τ σ' rl bor xs ys):mEs τ σ' rl bor (.agg cs::xs) (.agg ds::ys):=⟨e,h⟩
theorem jq {x y:D} {xs ys:List E} (e:x=y) (h:mEs τ σ' rl bor xs ys):mEs τ σ' rl bor (.c (.d x)::xs) (.c (.d y)::ys):=⟨e,h⟩
theorem aJ6 {o n:Nat} {y:D} {e:TypeId} {es:Nat} {rows:List (List D)} {xs ys:List E} (hb:gB o bor=true) (hj:aQ τ (.o o)=some (.row e es rows)) (e1:rows.length=n) (e2:y= .sl rows) (h:mEs τ σ' rl bor xs ys):mEs τ σ' rl bor (.c (.own o n)::xs) (.c (.d y)::ys):=⟨⟨fP.1 hb,e,es,rows,hj,e1,.inl e2⟩,h⟩
end
theorem RW.nilBox {P:Program} {cx:Cx P} {σ:St} {ι:Nat→Value} {S:Nat→Prop} {a:Act} {w:World} (h:RW cx σ ι S a w) {b j q:Nat} {ty:TypeId} {cs:List C} (e:TypeId) (es:Nat) (hs:aQ σ (.o b)=some (.box ty cs)) (hq:cs[q]? =some .nil) (hj:aQ σ (.o j)=none):
 ∃ι',RW cx (jN (jN σ (.o j) (.row e es [])) (.o b) (.box ty (cs.set q (.own j 0)))) ι' S a w:=by
 have hblk: ∀b,sJ (.slice none 0 0) b→some b=(none:Option Nat)∨w.heap.size≤b:=fun b hb=>by simp[sJ] at hb
 have h1:=h.turn (id:=j) (old:=none) (k:= .row e es []) (p:= .slice none 0 0) (w':=w) ⟨rfl,rfl,rfl,aVz _,(fun _ _ _=>rfl),(fun b hb=>by cases hb),.inl hj,hblk,.inl ⟨rfl,rfl⟩⟩
 have hbj:b≠j:=fun e=>by subst e;rw[hj] at hs;cases hs
 have hs1:aQ (jN σ (.o j) (.row e es [])) (.o b)=some (.box ty cs):=by rw[bZ _ _ (by simpa using fun h=>hbj h.symm)];exact hs
 obtain⟨blk0,vs,hp,hh,hsz,hc⟩:=h1.vr.objs b _ hs1
 refine⟨_,h1.turn (id:=b) (old:=some blk0) (k:= .box ty (cs.set q (.own j 0))) (p:= .pointer (some ⟨blk0,0,none⟩)) (w':=w) ⟨rfl,rfl,rfl,aVz _,(fun _ _ _=>rfl),(fun b' hb'=> ?_),.inr ⟨_,hs1,?_⟩,(fun b' hb'=> ?_),?_⟩⟩
 · cases hb'
   refine⟨⟨_,hs1,trivial⟩,?_⟩
   show sJ (if b=j then Value.slice none 0 0 else ι b) _
   rw[hp];rfl
 · show lB (if b=j then Value.slice none 0 0 else ι b) _ _ _
   rw[hp];rfl
 · simp[sJ] at hb';exact .inl (by rw[hb'])
 · refine⟨blk0,vs,rfl,hh,by rw[aV9];exact hsz,fun k c u hk hu=> ?_⟩
   have hjj:aQ (jN (jN σ (.o j) (.row e es [])) (.o b) (.box ty (cs.set q (.own j 0)))) (.o j)=some (.row e es []):=by
    rw[bZ _ _ (by simpa using hbj),dE]
   by_cases hkq:k=q
   · subst hkq
     have hlt:k<cs.length:=(aV2.1 hq).1
     rw[List.getElem?_set_self hlt] at hk
     cases hk
     have hv:u= .slice none 0 0:=hc k .nil u hq hu
     subst hv
     refine⟨rfl,.inl ⟨e,es,[],hjj,aVz _,fun _=> ?_⟩⟩
     simp[hbj.symm]
   · rw[List.getElem?_set_ne (fun h=>hkq h.symm)] at hk
     refine CR.step ?_ (hc k c u hk hu)
     refine⟨fun _ h=>h,fun _ _=>rfl,fun o k0 ho=> ?_⟩
     by_cases eo:o=b
     · subst eo
       rw[hs1] at ho;cases ho
       refine⟨_,dE _ _ _,?_⟩
       simp only[if_true]
       rw[hp]
       simp[lB]
     · refine⟨k0,by rw[bZ _ _ (by simpa using fun h=>eo h.symm)];exact ho,?_⟩
       simp only[aB eo]
       exact lB.refl' _ _
theorem SW.nilBox {P:Program} {io:List Nat} {Q:Ex→St→Prop} {σ:St} {c:Code} (b j q:Nat) {ty:TypeId} {cs:List C} (e:TypeId) (es:Nat) (hs:aQ σ (.o b)=some (.box ty cs)) (hq:cs[q]? =some .nil) (hj:aQ σ (.o j)=none)
 (h:mJ σ [(.o j,.row e es []),(.o b,.box ty (cs.set q (.own j 0)))] (SW P io c Q)):SW P io c Q σ:=by
 rw[kA] at h
 intro cx ι S a w hio hw hf
 obtain⟨ι',hw'⟩:=hw.nilBox e es hs hq hj
 exact h cx ι' S a w hio hw' hf
set_option linter.unusedVariables false
set_option linter.unusedSimpArgs false
theorem Spec.told {P:Program} {f:FuncId} {n:Nat} {σin σout σ':St} {rl:List (Nat×Nat)} {bor:List Nat} (h:Spec P f n σin σout) (hm:mL σout σ' rl bor σ') (hm2:ap σ' rl bor=true) (h0:bJ σin=[]):Spec P f n σin σ':=by
 have hno: ∀o k,aQ σin (.o o)=some k→False:=fun o k hk=>by have:=eJ hk;rw[h0] at this;cases this
 refine⟨h.1,fun ι ν S w args hg h1 h2 h3=>lE (fun ex w'=> ?_) (h.2 ι ν S w args hg h1 h2 h3)⟩
 rintro⟨v,ι',S',rfl,hp⟩
 have hM:jX σout σ' rl bor:=⟨hm,hm2⟩
 refine⟨v,fun j=>ι' (iO rl j),pJ σout ι' bor S',rfl,hp.fr,pW hM (fun _ _ h=>h) hp.vr,fun b hb=> ?_,fun o b hmu=> ?_,fun o k k' hk hk'=>(hno o k hk).elim⟩
 · rcases hb with hb|⟨o,_,hb⟩
   · exact hp.rd b hb
   · exact .inr (hp.own o b hb)
 · obtain⟨⟨k',hk',hl'⟩,hb⟩:=hmu
   obtain⟨k,hk,hmk⟩:=hM.ids o k' hk'
   exact hp.own (iO rl o) b ⟨⟨k,hk,(aB6 hmk).1⟩,hb⟩
theorem aVl {X Y:V} {a a' b b' c c':Int} (e0:a=a') (e1:b=b') (e2:c=c'): [(cL.t 0,K.v X),(.t 1,.v Y),(.t 2,.v (.e (.agg [.d (.i a'),.d (.i b'),.d (.i c')])))]=dJ 0 [X,Y,.e (.agg [.d (.i a),.d (.i b),.d (.i c)])]:=by
 subst e0;subst e1;subst e2;rfl
theorem aCt {l:List (List UInt8)} (h:gY l=true) {i:Nat} (hi:i<l.length):xK (((bW (jY l)).getD i []).getD 0 (.i 0))=iH (l.getD i []):=by
 rw[gW (by rw[gP h];exact hi)]
 show(jY l).getD i 0=_
 rw[aEj h hi]
theorem zG (t:List UInt8): (dK t).1.text.length≤t.length:=by
 unfold dK
 split
 · exact aVv _
 · exact tp 4 t
theorem count_le: ∀(n:Nat) (s:List UInt8),s.length≤n→Lib.count s [32]≤s.length
 |0,s,h=>by
  rw[List.eq_nil_of_length_eq_zero (Nat.le_zero.1 h),sP];exact aVz _
 |n+1,s,h=>by
  rw[sP]
  by_cases hs:fG s=true
  · have:=mu hs
    have:=count_le n (aO s) (by omega)
    rw[aC hs];omega
  · rw[aB hs];exact aVv _
theorem aJ7 (s:List UInt8): (cR s).length≤s.length+1:=by
 have:=count_le s.length s (aVz _)
 have:=(tn (Lib.count s [32]) s).1
 unfold cR;omega
theorem aMu (s:List UInt8): ∀x∈cR s,x.length≤s.length:=jl _ s
section
variable {k:aX} {rec:List UInt8}
theorem aJ8 (h:fG rec=false):dL k rec=(k,false):=aB (bn h)
theorem tv (h:fG rec=true) (hw: (bC rec==iP||bC rec==iQ)=true) (hn: (iU (aO rec)).isSome=true):dL k rec=kQ k (bC rec) (iH (aO rec)):=(aC h).trans ((aC hw).trans (aC hn))
theorem dt (h:fG rec=true) (hw: (bC rec==iP||bC rec==iQ)=true) (hn: (iU (aO rec)).isSome=false):dL k rec=(k,false):=(aC h).trans ((aC hw).trans (aB (bn hn)))
theorem aAw (h:fG rec=true) (hw: (bC rec==iP||bC rec==iQ)=false) (hw2: (bC rec==lG||bC rec==dF||bC rec==fY||bC rec==eW)=true) (hn: (dK (aO rec)).2=true):dL k rec=fC k (bC rec) (dK (aO rec)).1:=(aC h).trans ((aB (bn hw)).trans ((aC hw2).trans (aC hn)))
theorem rP (h:fG rec=true) (hw: (bC rec==iP||bC rec==iQ)=false) (hw2: (bC rec==lG||bC rec==dF||bC rec==fY||bC rec==eW)=true) (hn: (dK (aO rec)).2=false):dL k rec=(k,false):=(aC h).trans ((aB (bn hw)).trans ((aC hw2).trans (aB (bn hn))))
theorem aAx (h:fG rec=true) (hw: (bC rec==iP||bC rec==iQ)=false) (hw2: (bC rec==lG||bC rec==dF||bC rec==fY||bC rec==eW)=false) (hw3: (bC rec==kV||bC rec==oE||bC rec==gK)=true) (hn: (gY (cR (aO rec))&&(cR (aO rec)).length==3)=true):
 dL k rec=gL k (bC rec) (three (cR (aO rec))):=(aC h).trans ((aB (bn hw)).trans ((aB (bn hw2)).trans ((aC hw3).trans (aC hn))))
theorem zH (h:fG rec=true) (hw: (bC rec==iP||bC rec==iQ)=false) (hw2: (bC rec==lG||bC rec==dF||bC rec==fY||bC rec==eW)=false) (hw3: (bC rec==kV||bC rec==oE||bC rec==gK)=true) (hn: (gY (cR (aO rec))&&(cR (aO rec)).length==3)=false):
 dL k rec=(k,false):=(aC h).trans ((aB (bn hw)).trans ((aB (bn hw2)).trans ((aC hw3).trans (aB (bn hn)))))
theorem jr (h:fG rec=true) (hw: (bC rec==iP||bC rec==iQ)=false) (hw2: (bC rec==lG||bC rec==dF||bC rec==fY||bC rec==eW)=false) (hw3: (bC rec==kV||bC rec==oE||bC rec==gK)=false):
 dL k rec=(k,false):=(aC h).trans ((aB (bn hw)).trans ((aB (bn hw2)).trans (aB (bn hw3))))
theorem aAy {l:List (List UInt8)} {c:Bool} (h: (gY l&&((bW (jY l)).length:Int)==3)=c): (gY l&&l.length==3)=c:=by
 subst h
 cases hn:gY l with
 |false=>rfl
 |true=>
  rw[bN,gP hn,Bool.true_and,Bool.true_and]
  by_cases h:l.length=3
  · rw[h];rfl
  · rw[show(l.length==3)=false by simpa using h]
    symm
    rw[beq_eq_false_iff_ne]
    omega
end
def KB (k:aX):Prop:=(k.held.length≤100000∧k.marks.length≤100000∧k.inbox.length≤100000)∧(∀x∈k.held,x.text.length≤140737488355328)∧(∀x∈k.inbox,x.text.length≤140737488355328)
theorem KB.zero:KB .zero:=⟨⟨aVv _,aVv _,aVv _⟩,fun x h=>(by cases h),fun x h=>(by cases h)⟩
theorem pM {l:List bA} (h:iZ l=true) {x:bA} (hx:x∈l):dZ x=true:=by
 obtain⟨i,hi⟩:=List.mem_iff_getElem?.1 hx
 have hlt:=(aV2.1 hi).1
 have h1:=aV8.1 h i (List.mem_range.2 hlt)
 unfold lR at h1
 rw[aVu] at h1
 have h2:=h1.1
 rw[aVy,hi] at h2
 exact h2
theorem pb {n:bA} (h:dZ n=true):n.text.length≤140737488355328:=by
 have:=nM h;omega
def KS (k:aX):Prop:=(k.held.length≤7∧k.marks.length≤13∧k.inbox.length≤7)∧(∀x∈k.held,x.text.length≤140737488355328)∧(∀x∈k.inbox,x.text.length≤140737488355328)
theorem KS.big {k:aX} (h:KS k):KB k:=⟨⟨by have:=h.1;omega,by have:=h.1;omega,by have:=h.1;omega⟩,h.2⟩
def K6 (k:aX):Prop:=(k.held.length≤6∧k.marks.length≤12∧k.inbox.length≤6)∧(∀x∈k.held,x.text.length≤140737488355328)∧(∀x∈k.inbox,x.text.length≤140737488355328)
theorem eR {k:aX} (h:cP k=true):K6 k:=by
 obtain⟨⟨_,_,_,h1,h2,h3⟩,⟨h4,h5,h6⟩,_⟩:=(cG k).1 h
 exact⟨⟨h1,h2,h3⟩,fun x hx=>pb (pM h4 hx),fun x hx=>pb (pM h6 hx)⟩
theorem K6.seven {k:aX} (h:K6 k):KS k:=⟨⟨by have:=h.1;omega,by have:=h.1;omega,by have:=h.1;omega⟩,h.2⟩
theorem sR {α:Type} (l:List α) (i:Nat): (eG l i).length≤l.length:=by
 rw[eG,aVt,aV0,aV4];omega
theorem aAz {k:aX} {n:bA} (h:K6 k) (hn:n.text.length≤140737488355328):KS (fZ k n).1:=by
 unfold fZ
 split
 · simp only
   split
   · refine⟨⟨by have:=h.1;simp only;omega,?_,?_⟩,h.2.1,?_⟩
     · have:=h.1;rw[dq,eZ];omega
     · have:=h.1;rw[xS,eZ];omega
     · intro x hx
       rw[xS,xR] at hx
       rcases hx with rfl|hx
       · exact hn
       · exact h.2.2 x hx
   · refine⟨⟨?_,by have:=h.1;simp only;omega,by have:=h.1;simp only;omega⟩,?_,h.2.2⟩
     · have:=h.1;rw[xS,eZ];omega
     · intro x hx
       rw[xS,xR] at hx
       rcases hx with rfl|hx
       · exact hn
       · exact h.2.1 x hx
 · exact h.seven
theorem tw {k:aX} {t:Int} (h:K6 k):KS (kN k t):=by
 have h1:=List.length_filter_le (fun n:bA=>decide (t<n.til)) k.held
 have h2:=List.length_filter_le (fun n:bU=>decide (t<n.til)) k.marks
 exact⟨⟨by have:=h.1;simp only[kN];omega,by have:=h.1;simp only[kN];omega,by have:=h.1;simp only[kN];omega⟩,fun x hx=>h.2.1 x (List.mem_filter.1 hx).1,h.2.2⟩
theorem aCu {k:aX} {n:bA} (h:K6 k) (hn:n.text.length≤140737488355328) {p:bA→Bool}:KS {k with held:=qI p n k.held}:=
 ⟨⟨by have:=h.1;simp only[eZ];omega,by have:=h.1;simp only;omega,by have:=h.1;simp only;omega⟩,fun x hx=>by rcases xR.1 hx with rfl|hx;exact hn;exact h.2.1 x hx,h.2.2⟩
theorem aEm {k:aX} {n:bA} (h:K6 k) (hn:n.text.length≤140737488355328) {p:bA→Bool}:KS {k with inbox:=qI p n k.inbox}:=
 ⟨⟨by have:=h.1;simp only;omega,by have:=h.1;simp only;omega,by have:=h.1;simp only[eZ];omega⟩,h.2.1,fun x hx=>by rcases xR.1 hx with rfl|hx;exact hn;exact h.2.2 x hx⟩
theorem aMv {k:aX} {w:List UInt8} {n:Int} (h:K6 k):KS (kQ k w n).1:=by
 unfold kQ
 split
 · exact tw h
 · split
   · exact h.seven
   · exact h.seven
theorem aJ9 {k:aX} {w:List UInt8} {n:bA} (h:K6 k) (hn:n.text.length≤140737488355328):KS (fC k w n).1:=by
 unfold fC
 split
 · exact aAz (k:={k with next:=wrap64 (k.next+1)}) h hn
 · split
   · exact aAz h hn
   · split
     · exact h.seven
     · split
       · exact aCu h hn
       · split
         · exact aEm h hn
         · exact h.seven
theorem aKa {k:aX} {w:List UInt8} {m:bU} (h:K6 k):KS (gL k w m).1:=by
 unfold gL
 split
 · refine⟨⟨?_,?_,by have:=h.1;simp only;omega⟩,fun x hx=>h.2.1 x (dp hx),h.2.2⟩
   · have:=h.1;have h1:=sR k.held (aW k.held m.frm m.num).toNat;simp only;omega
   · have:=h.1;rw[dq,eZ];omega
 · split
   · refine⟨⟨by have:=h.1;simp only;omega,by have:=h.1;simp only;omega,?_⟩,h.2.1,fun x hx=>h.2.2 x (dp hx)⟩
     have:=h.1;have h1:=sR k.inbox (aW k.inbox m.frm m.num).toNat;simp only;omega
   · split
     · exact⟨⟨by have:=h.1;simp only;omega,by have:=h.1;rw[dq,eZ];omega,by have:=h.1;simp only;omega⟩,h.2⟩
     · exact h.seven
theorem uM {k:aX} {rec:List UInt8} (h:K6 k) (hr:rec.length≤1000000):KS (dL k rec).1:=by
 have ht: (dK (aO rec)).1.text.length≤140737488355328:=by
  have h1:=zG (aO rec)
  have h2:=uL rec
  omega
 unfold dL
 repeat' split
 all_goals first|exact h.seven|exact aMv h|exact aJ9 h ht|exact aKa h
theorem mv {k:aX} {rec:List UInt8}:K6 (bX k rec).1:=by
 unfold bX
 split
 · rename_i hk
   unfold mG
   split
   · rename_i h
     rw[aVu] at h
     exact eR h.2
   · exact eR hk
 · exact⟨⟨aVv _,aVv _,aVv _⟩,fun x h=>(by cases h),fun x h=>(by cases h)⟩
theorem zI (id:Int):K6 (bY id):=by
 unfold bY
 split<;>exact⟨⟨aVv _,aVv _,aVv _⟩,fun x h=>(by cases h),fun x h=>(by cases h)⟩
set_option linter.unusedVariables false
set_option linter.unusedSimpArgs false
theorem aIt {a a':Int} (e:a=a'): [(cL.t 0,K.v (I a'))]=dJ 0 [I a]:=by subst e;rfl
theorem tz {X:V} {a a' b b':Int} (e0:a=a') (e1:b=b'): [(cL.t 0,K.v X),(.t 1,.v (I a')),(.t 2,.v (I b'))]=dJ 0 [X,I a,I b]:=by subst e0;subst e1;rfl
theorem aMw {X:V} {a a' b b' c c':Int} (e0:a=a') (e1:b=b') (e2:c=c'): [(cL.t 0,K.v X),(.t 1,.v (.e (.agg [.d (.i a'),.d (.i b'),.d (.i c')])))]=dJ 0 [X,.e (.agg [.d (.i a),.d (.i b),.d (.i c)])]:=by subst e0;subst e1;subst e2;rfl
theorem ua {n:Nat} {s:List UInt8} {i:Nat} (hi:i<n):xK (((bW (eO n s)).getD i []).getD 0 (.i 0))=dB s i:=by
 rw[gW (by rw[bE];exact hi)]
 exact aEk hi
theorem lW {n:Int} (h: -1≤n∧n≤9999): (aEi n).length≤6:=by
 unfold aEi
 by_cases h0:n<0
 · rw[aC h0]
   have:=bP (k:=3) (n:=(-n).toNat) (by simp;omega)
   simp;omega
 · rw[aB h0]
   have:=bP (k:=3) (n:=n.toNat) (by simp;omega)
   omega
theorem fS (s:List UInt8) (i:Nat): -1≤dB s i∧dB s i≤9999:=zC _
theorem du {a:Int} {x y c:Bool} (h: (decide (a<0)||x)=c) (hx:0≤a→x=y): (decide (a<0)||y)=c:=by
 by_cases h0:0≤a
 · rw[← hx h0];exact h
 · rw[show decide (a<0)=true from decide_eq_true (by omega),Bool.true_or] at h ⊢; exact h
theorem aMx {k:aX} {n:bA} (h: (!gn k n)=true):lV k n=(k,false):=aB (by simpa using h)
theorem aMy {k:aX} {n:bA} (hb:k.held.length≤100000∧k.marks.length≤100000∧k.inbox.length≤100000) (h: (!gn k n)=false) (ht: (n.to != k.id)=true):
 lV k n=({k with held:=jC k.held n},decide (wrap64 ((aH (jC k.held n)).length+(aM k.marks).length)≤12)):=by
 have hl: (jC k.held n).length=k.held.length+1:=eZ
 rw[aG,aI,aF (by omega)]
 exact(aC (by simpa using h)).trans (aC ht)
theorem aMz {k:aX} {n:bA} (hb:k.held.length≤100000∧k.marks.length≤100000∧k.inbox.length≤100000) (h: (!gn k n)=false) (ht: (n.to != k.id)=false):
 lV k n=({k with inbox:=jC k.inbox n,marks:=nN k.marks ⟨n.frm,n.num,n.til⟩},decide (wrap64 ((aH k.held).length+(aM (nN k.marks ⟨n.frm,n.num,n.til⟩)).length)≤12)):=by
 have hl: (nN k.marks ⟨n.frm,n.num,n.til⟩).length=k.marks.length+1:=eZ
 rw[aG,aI,aF (by omega)]
 exact(aC (by simpa using h)).trans (aB (bn ht))
theorem aPt {k:aX} {a b:Int} (h:K6 k):KS (jm k a b).1:=by
 unfold jm
 split
 · refine⟨⟨?_,?_,by have:=h.1;simp only;omega⟩,fun x hx=>h.2.1 x (dp hx),h.2.2⟩
   · have:=h.1;have h1:=sR k.held (aW k.held a b).toNat;simp only;omega
   · have:=h.1;rw[vE,eZ];omega
 · exact h.seven
theorem aPu {k:aX} {a b:Int} (h:K6 k):KS (jn k a b).1:=by
 unfold jn
 split
 · refine⟨⟨by have:=h.1;simp only;omega,by have:=h.1;simp only;omega,?_⟩,h.2.1,fun x hx=>h.2.2 x (dp hx)⟩
   have:=h.1;have h1:=sR k.inbox (aW k.inbox a b).toNat;simp only;omega
 · exact h.seven
theorem aEn {k:aX} {n:bA} (h:K6 k) (hn:n.text.length≤140737488355328):KS (lV k n).1:=by
 unfold lV
 split
 · split
   · exact aCu h hn
   · refine⟨⟨by have:=h.1;simp only;omega,?_,?_⟩,h.2.1,?_⟩
     · have:=h.1;rw[vE,eZ];omega
     · have:=h.1;rw[zE,eZ];omega
     · intro x hx
       rw[zE,xR] at hx
       rcases hx with rfl|hx
       · exact hn
       · exact h.2.2 x hx
 · exact h.seven
theorem mH {c:Prop} [Decidable c] {a b:aX×Bool} (ha:KS a.1) (hb:KS b.1):KS (if c then a else b).1:=by
 split
 · exact ha
 · exact hb
theorem dw {k:aX} {rec:List UInt8} (h:K6 k) (hr:rec.length≤1000000):KS (fQ k rec).1:=by
 have ht: (dK (aO rec)).1.text.length≤140737488355328:=by
  have h1:=zG (aO rec)
  have h2:=uL rec
  omega
 have hm:KS {k with marks:=nN k.marks (gF (aO rec))}:=⟨⟨by have:=h.1;simp only;omega,by have:=h.1;simp only[vE,eZ];omega,by have:=h.1;simp only;omega⟩,h.2⟩
 unfold fQ
 exact mH (mH h.seven (tw h)) (mH (mH h.seven (aEn (k:={k with next:=wrap64 (k.next+1)}) h ht)) (mH (mH h.seven (aEn h ht)) (mH (mH h.seven h.seven)
  (mH (mH h.seven (mH (aCu h ht) (aEm h ht))) (mH h.seven (mH (mH h.seven (aPt h)) (mH (mH h.seven (aPu h)) (mH (mH h.seven hm) h.seven))))))))
set_option linter.unusedVariables false
set_option linter.unusedSimpArgs false
theorem aVm {X:V} {a a':List UInt8} (e:a=a'): [(cL.t 0,K.v X),(.t 1,.v (Dv (.s a')))]=dJ 0 [X,Dv (.s a)]:=by subst e;rfl
theorem jt {a b c d:Int} (h: ¬(a=c∧b=d)):cD a b c d= !cD c d a b:=by
 unfold cD
 by_cases h1:a=c
 · subst h1
   have h2: ¬b=d:=fun e=>h ⟨rfl,e⟩
   by_cases h3:b<d
   · simp[h3,Int.not_lt.2 (Int.le_of_lt h3)]
   · simp[h3,show d<b by omega]
 · by_cases h3:a<c
   · simp[h3,Int.not_lt.2 (Int.le_of_lt h3)]
     exact .inl fun e=>h1 e.symm
   · simp[h3,h1,show c<a by omega]
theorem tC {α:Type} {p q:α→Bool}: ∀{l:List α},(∀x∈l,p x=q x)→l.takeWhile p=l.takeWhile q∧l.dropWhile p=l.dropWhile q
 | [],_=>⟨rfl,rfl⟩
 |x::l,h=>by
  have hx:=h x (List.mem_cons_self ..)
  obtain⟨h1,h2⟩:=tC (l:=l) fun y hy=>h y (List.mem_cons_of_mem _ hy)
  simp only[List.takeWhile,List.dropWhile,hx,h1,h2,and_self]
theorem ub {l:List bA} {f m:Int} (h:aW l f m<0) {x:bA} (hx:x∈l): ¬(x.frm=f∧x.num=m):=by
 rintro⟨e1,e2⟩
 obtain⟨i,hi⟩:=List.mem_iff_getElem?.1 hx
 have hlt:=(aV2.1 hi).1
 rcases gE (oD l f m) l.length 0 with h1|⟨k,h1,_,h2,_⟩
 · have h3:oD l f m i=true:=by
    unfold oD
    rw[aVy,hi]
    simp[e1,e2]
   have: ∀n j,j≤i→i<j+n→kC (oD l f m) j n≠ -1:=by
    intro n
    induction n with
    |zero=>intro j h4 h5;omega
    |succ n ih=>
     intro j h4 h5
     unfold kC
     split
     · omega
     · rename_i h6
       by_cases e:j=i
       · subst e;exact absurd h3 h6
       · exact ih (j+1) (by omega) (by omega)
   exact this l.length 0 (aVv _) (by omega) h1
 · rw[aW,h1] at h;omega
theorem uc {l:List bU} {f m:Int} (h:fM l f m<0) {x:bU} (hx:x∈l): ¬(x.frm=f∧x.num=m):=by
 rintro⟨e1,e2⟩
 obtain⟨i,hi⟩:=List.mem_iff_getElem?.1 hx
 have hlt:=(aV2.1 hi).1
 rcases gE (rO l f m) l.length 0 with h1|⟨k,h1,_,h2,_⟩
 · have h3:rO l f m i=true:=by
    unfold rO
    rw[aVy,hi]
    simp[e1,e2]
   have: ∀n j,j≤i→i<j+n→kC (rO l f m) j n≠ -1:=by
    intro n
    induction n with
    |zero=>intro j h4 h5;omega
    |succ n ih=>
     intro j h4 h5
     unfold kC
     split
     · omega
     · rename_i h6
       by_cases e:j=i
       · subst e;exact absurd h3 h6
       · exact ih (j+1) (by omega) (by omega)
   exact this l.length 0 (aVv _) (by omega) h1
 · rw[fM,h1] at h;omega
theorem zJ {l:List bA} {n:bA} (h:aW l n.frm n.num<0):jC l n=jB l n:=by
 obtain⟨h1,h2⟩:=tC (p:=fun x:bA=> !cD n.frm n.num x.frm x.num) (q:=fun x=>cD x.frm x.num n.frm n.num) (l:=l) fun x hx=>(jt (ub h hx)).symm
 unfold jC jB
 rw[h1,h2]
theorem go {l:List bU} {n:bU} (h:fM l n.frm n.num<0):nN l n=qH l n:=by
 obtain⟨h1,h2⟩:=tC (p:=fun x:bU=> !cD n.frm n.num x.frm x.num) (q:=fun x=>cD x.frm x.num n.frm n.num) (l:=l) fun x hx=>(jt (uc h hx)).symm
 unfold nN qH
 rw[h1,h2]
theorem aKb (k:aX) (n:bA):gn k n=au k n:=by
 unfold gn au
 cases decide (aW k.inbox n.frm n.num<0)<;>cases decide (fM k.marks n.frm n.num<0)<;>simp
def qJ (k:aX) (x y:aX×Bool):Prop:=mG k x=mG k y
theorem qJ.rfl {k:aX} {x:aX×Bool}:qJ k x x:=Eq.refl _
theorem qJ.of {k:aX} {x y:aX×Bool} (h:x=y):qJ k x y:=h▸qJ.rfl
theorem qM {k:aX} {x:aX×Bool} (h:x.2=false∨cP x.1=false):mG k x=(k,false):=by
 unfold mG
 rw[aB]
 rcases h with h|h<;>simp[h]
theorem qJ.no {k:aX} {x y:aX×Bool} (h:x.2=false∨cP x.1=false) (h':y.2=false∨cP y.1=false):qJ k x y:=(qM h).trans (qM h').symm
theorem ud {k0 k:aX} (n:bA):qJ k0 (fZ k n) (lV k n):=by
 unfold fZ lV
 rw[aKb]
 cases hf:au k n with
 |false=>exact .of (by simp)
 |true=>
  have h2:=hf
  simp only[au,aVu,aD] at h2
  obtain⟨⟨⟨⟨_,_⟩,q1⟩,q2⟩,q3⟩:=h2
  have hm: (qH k.marks ⟨n.frm,n.num,n.til⟩).length=k.marks.length+1:=eZ
  have hh: (jB k.held n).length=k.held.length+1:=eZ
  rw[zJ q1,zJ q2,go (n:=⟨n.frm,n.num,n.til⟩) q3,hm,hh]
  by_cases hl: (k.held.length:Int)+k.marks.length+1≤12
  · have e1:decide ((k.held.length:Int)+k.marks.length+1≤12)=true:=decide_eq_true hl
    have e2:decide (((k.held.length+1:Nat):Int)+k.marks.length≤12)=true:=decide_eq_true (by omega)
    have e3:decide ((k.held.length:Int)+((k.marks.length+1:Nat):Int)≤12)=true:=decide_eq_true (by omega)
    rw[e1,e2,e3]
    by_cases ht:n.to=k.id
    · simp[ht];exact .rfl
    · simp[ht];exact .rfl
  · have e1:decide ((k.held.length:Int)+k.marks.length+1≤12)=false:=decide_eq_false hl
    have e2:decide (((k.held.length+1:Nat):Int)+k.marks.length≤12)=false:=decide_eq_false (by omega)
    have e3:decide ((k.held.length:Int)+((k.marks.length+1:Nat):Int)≤12)=false:=decide_eq_false (by omega)
    rw[e1,e2,e3]
    refine .no (.inl (by simp)) (.inl ?_)
    by_cases ht:n.to=k.id<;>simp[ht]
theorem uN {s:List UInt8} {n:Nat} (h:iU s=some n):jA n=s∧1≤s.length∧s.length≤5:=by
 unfold iU at h
 split at h
 · rename_i hc
   cases h
   exact⟨(vU hc.1.1 hc.2.2).2 hc.2.1,hc.1.1,hc.1.2⟩
 · cases h
theorem aM0 {s:List UInt8} {n:Nat} (h:iU s=some n) (h5:4<s.length):10000≤n:=by
 obtain⟨h1,_,_⟩:=uN h
 by_cases hn:n<10 ^ (3+1)
 · have:=bP hn
   rw[h1] at this;omega
 · simpa using hn
theorem ue {s:List UInt8} {n:Nat} (h:iU s=some n) (hn:n<10000):fU s=n:=by
 have hl:s.length≤4:=by
  by_cases h5:4<s.length
  · have:=aM0 h h5;omega
  · omega
 rw[xN hl,h]
theorem aA0 {s:List UInt8} (h:iU s=none):fU s= -1:=by
 by_cases hl:s.length≤4
 · rw[xN hl,h]
 · unfold fU
   rw[aB (by omega)]
theorem aA1 {s:List UInt8} (h:4<s.length):fU s= -1:=by
 unfold fU
 rw[aB (by omega)]
theorem aEo {k:aX} {n:Int} (h:999<n):cP (kN k n)=false:=by
 cases hk:cP (kN k n) with
 |false=>rfl
 |true=>
  obtain⟨⟨_,⟨_,h2⟩,_⟩,_⟩:=(cG _).1 hk
  simp only[kN] at h2
  omega
theorem aM1 {k:aX} {n:Int} (h:100<n):cP {k with next:=n}=false:=by
 cases hk:cP {k with next:=n} with
 |false=>rfl
 |true=>
  obtain⟨⟨_,_,⟨_,h2⟩,_⟩,_⟩:=(cG _).1 hk
  simp only at h2
  omega
theorem rQ {s:List UInt8} {n:Nat} (h:iU s=some n):iH s=n:=by rw[iH,h]
theorem aG7 {k:aX} (hk:cP k=true) (r:List UInt8):qJ k (if(iU r).isSome then kQ k iP (iH r) else(k,false)) (if fU r≤k.time then(k,false) else(kN k (fU r),true)):=by
 obtain⟨⟨_,⟨t0,t1⟩,_⟩,_⟩:=(cG _).1 hk
 cases h:iU r with
 |none=>
  rw[aA0 h,aB (show ¬((none:Option Nat).isSome=true) by simp),aC (show(-1:Int)≤k.time by omega)]
  exact .rfl
 |some n=>
  rw[rQ h,aC (show(some n).isSome=true from rfl)]
  by_cases hn:n<10000
  · rw[ue h hn]
    by_cases ht:k.time<n
    · rw[aB (by omega)]
      exact .of (aC (by simp[ht]))
    · rw[aC (by omega)]
      exact .of ((aB (by simp[ht])).trans (aB (by simp[iP,iQ])))
  · have hl:fU r= -1:=aA1 (by
     by_cases h5:4<r.length
     · exact h5
     · have:=uN h
       have h6:=xN (s:=r) (by omega)
       rw[h] at h6
       have h7:=zC r
       simp only at h6
       omega)
    rw[hl,aC (by omega),kQ,aC (by simp;omega)]
    exact .no (.inr (aEo (by omega))) (.inl rfl)
theorem aG8 {k:aX} (hk:cP k=true) (r:List UInt8):qJ k (if(iU r).isSome then kQ k iQ (iH r) else(k,false)) (if fU r≤k.next then(k,false) else({k with next:=fU r},true)):=by
 obtain⟨⟨_,_,⟨t0,t1⟩,_⟩,_⟩:=(cG _).1 hk
 cases h:iU r with
 |none=>
  rw[aA0 h,aB (show ¬((none:Option Nat).isSome=true) by simp),aC (show(-1:Int)≤k.next by omega)]
  exact .rfl
 |some n=>
  rw[rQ h,aC (show(some n).isSome=true from rfl)]
  have e1: (iQ==iP)=false:=by decide
  by_cases hn:n<10000
  · rw[ue h hn]
    by_cases ht:k.next<n
    · rw[aB (by omega)]
      exact .of ((aB (by simp[e1])).trans (aC (by simp[ht])))
    · rw[aC (by omega)]
      exact .of ((aB (by simp[e1])).trans (aB (by simp[ht])))
  · have hl:fU r= -1:=aA1 (by
     by_cases h5:4<r.length
     · exact h5
     · have:=uN h
       have h6:=xN (s:=r) (by omega)
       rw[h] at h6
       have h7:=zC r
       simp only at h6
       omega)
    rw[hl,aC (by omega),kQ,aB (by simp[e1]),aC (by simp;omega)]
    exact .no (.inr (aM1 (by omega))) (.inl rfl)
theorem aKc {k:aX} (x:bA×Bool):qJ k (if x.2 then fC k lG x.1 else(k,false)) (if !x.2||x.1.frm != k.id||x.1.num != k.next then(k,false) else lV {k with next:=wrap64 (k.next+1)} x.1):=by
 obtain⟨n,b⟩:=x
 cases b with
 |false=>exact .of (by simp)
 |true=>
  rw[aC (show(n,true).2=true from rfl)]
  show qJ k (fC k lG n) (if(!true)||n.frm != k.id||n.num != k.next then(k,false) else lV {k with next:=wrap64 (k.next+1)} n)
  by_cases h:n.frm=k.id∧n.num=k.next
  · have hL:fC k lG n=fZ {k with next:=wrap64 (k.next+1)} n:=aC (by simp[h])
    rw[hL,aB (by simp[h])]
    exact ud n
  · have hL:fC k lG n=(k,false):=by
     refine(aB (by simp;exact fun a b=>h ⟨a,b⟩)).trans ((aB (by simp[lG,dF])).trans ?_)
     split
     · rfl
     · simp[lG,fY,eW]
    have hR: ((!true)||n.frm != k.id||n.num != k.next)=true:=by
     by_cases h1:n.frm=k.id
     · have h2: ¬n.num=k.next:=fun h2=>h ⟨h1,h2⟩
       simp[h2]
     · simp[h1]
    rw[hL,aC hR]
    exact .rfl
theorem aEp {k:aX} (x:bA×Bool):qJ k (if x.2 then fC k dF x.1 else(k,false)) (if !x.2||x.1.frm==k.id then(k,false) else lV k x.1):=by
 obtain⟨n,b⟩:=x
 cases b with
 |false=>exact .of (by simp)
 |true=>
  rw[aC (show(n,true).2=true from rfl)]
  show qJ k (fC k dF n) (if(!true)||n.frm==k.id then(k,false) else lV k n)
  by_cases h:n.frm=k.id
  · have hL:fC k dF n=(k,false):=by
     refine(aB (by simp[dF,lG])).trans ((aB (by simp[h])).trans ?_)
     split
     · rfl
     · simp[dF,fY,eW]
    rw[hL,aC (by simp[h])]
    exact .rfl
  · have hL:fC k dF n=fZ k n:=(aB (by simp[dF,lG])).trans (aC (by simp[h]))
    rw[hL,aB (by simp[h])]
    exact ud n
theorem aG9 {k:aX} (w:List UInt8) (hw:w=fY∨w=eW) (x:bA×Bool):qJ k (if x.2 then fC k w x.1 else(k,false))
 (if !x.2||decide (aW k.held x.1.frm x.1.num≥0)||decide (aW k.inbox x.1.frm x.1.num≥0) then(k,false)
  else if w==fY then({k with held:=jC k.held x.1},true) else({k with inbox:=jC k.inbox x.1},true)):=by
 obtain⟨n,b⟩:=x
 cases b with
 |false=>exact .of (by simp)
 |true=>
  have e1: (w==lG)=false:=by rcases hw with rfl|rfl<;>decide
  have e2: (w==dF)=false:=by rcases hw with rfl|rfl<;>decide
  rw[aC (show(n,true).2=true from rfl)]
  show qJ k (fC k w n) (if(!true)||decide (aW k.held n.frm n.num≥0)||decide (aW k.inbox n.frm n.num≥0) then(k,false)
   else if w==fY then({k with held:=jC k.held n},true) else({k with inbox:=jC k.inbox n},true))
  by_cases h:0≤aW k.held n.frm n.num∨0≤aW k.inbox n.frm n.num
  · have hL:fC k w n=(k,false):=(aB (by simp[e1])).trans ((aB (by simp[e2])).trans (aC (by simpa using h)))
    rw[hL,aC (by simpa using h)]
    exact .rfl
  · have h1:aW k.held n.frm n.num<0:=by omega
    have h2:aW k.inbox n.frm n.num<0:=by omega
    have h3: ¬(decide (0≤aW k.held n.frm n.num)||decide (0≤aW k.inbox n.frm n.num))=true:=by simpa using h
    have h4: ¬((!true)||decide (aW k.held n.frm n.num≥0)||decide (aW k.inbox n.frm n.num≥0))=true:=by simpa using h
    rw[aB h4]
    rcases hw with rfl|rfl
    · have hL:fC k fY n=({k with held:=jB k.held n},true):=(aB (by simp[e1])).trans ((aB (by simp[e2])).trans ((aB h3).trans (aC (by decide))))
      rw[hL,aC (by decide),zJ h1]
      exact .rfl
    · have hL:fC k eW n=({k with inbox:=jB k.inbox n},true):=(aB (by simp[e1])).trans ((aB (by simp[e2])).trans ((aB h3).trans ((aB (by decide)).trans (aC (by decide)))))
      rw[hL,aB (by decide),zJ h2]
      exact .rfl
set_option linter.unusedVariables false
set_option linter.unusedSimpArgs false
def vX (m:bU):List UInt8:=jA m.frm.toNat++32::(jA m.num.toNat++32::jA m.til.toNat)
theorem qN {m:bU} (h:jQ m=true): (0≤m.frm∧m.frm≤3)∧(1≤m.num∧m.num≤99)∧(1≤m.til∧m.til≤999):=by
 simp only[jQ,dY,gT,aVu,aD] at h
 omega
theorem aEq {n:bA} (h:dZ n=true):jQ ⟨n.frm,n.num,n.til⟩=true:=by
 simp only[dZ,jQ,aVu] at h ⊢
 exact⟨⟨h.1.1.1.1,h.1.1.2⟩,h.1.2⟩
theorem aM2 {s:List UInt8} (h: ∀b∈s,b≠32):fG s=false:=by
 unfold fG
 rw[List.any_eq_false]
 intro b hb
 have:=h b hb
 simpa using this
theorem uf {s:List UInt8} (h:fG s=false):Lib.count s [32]=0:=by rw[sP,h];rfl
theorem aTp {a b c:List UInt8} (ha: ∀x∈a,x≠32) (hb: ∀x∈b,x≠32) (hc: ∀x∈c,x≠32):
 cR (a++32::(b++32::c))=[a,b,c]∧lT 3 (a++32::(b++32::c))=[]∧bC (a++32::(b++32::c))=a∧bC (lT 1 (a++32::(b++32::c)))=b∧bC (lT 2 (a++32::(b++32::c)))=c:=by
 obtain⟨a1,a2,a3⟩:=mW (r:=b++32::c) ha
 obtain⟨b1,b2,b3⟩:=mW (r:=c) hb
 have c3:=aM2 hc
 obtain⟨_,c1,c2⟩:=(fJ c).2 c3
 have hn:Lib.count (a++32::(b++32::c)) [32]=2:=by
  rw[sP,aC a3,a2,sP,aC b3,b2,uf c3]
 refine⟨?_,?_,a1,?_,?_⟩
 · rw[cR,hn]
   simp only[iA,a1,a2,a3,b1,b2,b3,if_true]
 · simp only[lT,a2,b2,c2]
 · simp only[lT,a2,b1]
 · simp only[lT,a2,b2,c1]
theorem ug {n:Int} (h:0≤n):aEi n=jA n.toNat:=aB (by omega)
theorem aEr {m:bU} (h:jQ m=true):en m=vX m:=by
 obtain⟨h1,h2,h3⟩:=qN h
 unfold en vX
 rw[ug (by omega),ug (by omega),ug (by omega)]
 simp
theorem aA2 {m:bU} (h:jQ m=true):gY (cR (vX m))=true∧(cR (vX m)).length=3∧three (cR (vX m))=m∧lT 3 (vX m)=[]∧gF (vX m)=m:=by
 obtain⟨h1,h2,h3⟩:=qN h
 obtain⟨q1,q2,q3,q4,q5⟩:=aTp (vC m.frm.toNat) (vC m.num.toNat) (vC m.til.toNat)
 have e: ∀{x:Int},0≤x→((x.toNat:Nat):Int)=x:=fun h=>by omega
 have w1:iU (jA m.frm.toNat)=some m.frm.toNat:=lU (by omega)
 have w2:iU (jA m.num.toNat)=some m.num.toNat:=lU (by omega)
 have w3:iU (jA m.til.toNat)=some m.til.toNat:=lU (by omega)
 have u1:iH (jA m.frm.toNat)=m.frm:=by rw[iH,w1];exact e (by omega)
 have u2:iH (jA m.num.toNat)=m.num:=by rw[iH,w2];exact e (by omega)
 have u3:iH (jA m.til.toNat)=m.til:=by rw[iH,w3];exact e (by omega)
 have v1:fU (jA m.frm.toNat)=m.frm:=by rw[vD (by omega),e (by omega)]
 have v2:fU (jA m.num.toNat)=m.num:=by rw[vD (by omega),e (by omega)]
 have v3:fU (jA m.til.toNat)=m.til:=by rw[vD (by omega),e (by omega)]
 unfold vX
 refine⟨?_,?_,?_,q2,?_⟩
 · rw[q1];simp[gY,w1,w2,w3]
 · rw[q1];rfl
 · rw[q1];simp[three,u1,u2,u3]
 · unfold gF dB
   have q6:bC (lT 0 (jA m.frm.toNat++32::(jA m.num.toNat++32::jA m.til.toNat)))=jA m.frm.toNat:=q3
   rw[q6,q4,q5,v1,v2,v3]
theorem uh {s:List UInt8} (h:fG s=true):s=bC s++32::aO s:=by
 obtain⟨q1,q2,q3,q4⟩:=(fJ s).1 h
 have h3:s[(bC s).length]'q4=32:=by
  have h1:Lib.indexByte s 32=(bC s).length:=q1
  have h2:s.drop (bC s).length=s[(bC s).length]'q4::s.drop ((bC s).length+1):=List.drop_eq_getElem_cons q4
  have h4:s.drop (bC s).length=s.dropWhile (· != 32):=by
   have h5:=List.takeWhile_append_dropWhile (p:=(· != (32:UInt8))) (l:=s)
   have h6:s.take (bC s).length++s.drop (bC s).length=s:=List.take_append_drop _ _
   rw[q2] at h6
   exact List.append_cancel_left (h6.trans h5.symm)
  have h7: ∀l:List UInt8,∀x t,l.dropWhile (· != 32)=x::t→x=32:=by
   intro l
   induction l with
   |nil=>intro x t h;cases h
   |cons y l ih=>
    intro x t h
    by_cases hy:y=32
    · subst hy
      simp at h
      exact h.1.symm
    · rw[List.dropWhile_cons_of_pos (by simpa using hy)] at h
      exact ih x t h
  exact h7 s _ _ (h4.symm.trans h2)
 have h8:s.take (bC s).length++s.drop (bC s).length=s:=List.take_append_drop _ _
 rw[q2,List.drop_eq_getElem_cons q4,h3,q3] at h8
 exact h8.symm
theorem aEs {s:List UInt8} (h: (cR s).length=3): ∃a b c,cR s=[a,b,c]∧s=a++32::(b++32::c):=by
 have h0:=tl _ s rfl
 have hn:Lib.count s [32]=2:=by
  rw[cR] at h;omega
 have h1:fG s=true:=by
  cases hs:fG s with
  |true=>rfl
  |false=>rw[uf hs] at hn;cases hn
 rw[sP,aC h1] at hn
 have h2:fG (aO s)=true:=by
  cases hs:fG (aO s) with
  |true=>rfl
  |false=>rw[uf hs] at hn;cases hn
 have hn2:Lib.count s [32]=2:=by rw[sP,aC h1];exact hn
 refine⟨bC s,bC (aO s),aO (aO s),?_,?_⟩
 · rw[cR,hn2]
   simp only[iA,h1,h2,if_true]
 · rw[← uh h2,← uh h1]
theorem aKd {s:List UInt8} (h: (gY (cR s)&&(cR s).length==3)=true):s=vX (three (cR s)):=by
 rw[aVu,beq_iff_eq] at h
 obtain⟨a,b,c,hl,hs⟩:=aEs h.2
 have hk:=h.1
 rw[hl] at hk ⊢
 simp only[gY,List.all_cons,List.all_nil,Bool.and_true,aVu] at hk
 obtain⟨ha,hb,hc⟩:=hk
 obtain⟨x,hx⟩:=Option.isSome_iff_exists.1 ha
 obtain⟨y,hy⟩:=Option.isSome_iff_exists.1 hb
 obtain⟨z,hz⟩:=Option.isSome_iff_exists.1 hc
 unfold vX three
 simp only[List.getD_cons_zero,List.getD_cons_succ,rQ hx,rQ hy,rQ hz,aVr,(uN hx).1,(uN hy).1,(uN hz).1]
 exact hs
theorem ui {l:List bA} (hk:iZ l=true) {f m:Int} (hp:0≤aW l f m):dZ (l.getD (aW l f m).toNat .zero)=true∧(l.getD (aW l f m).toNat .zero).frm=f∧(l.getD (aW l f m).toNat .zero).num=m∧(aW l f m).toNat<l.length:=by
 rcases gE (oD l f m) l.length 0 with h|⟨k,h,_,h2,h3,_⟩
 · rw[aW,h] at hp;omega
 · have e:aW l f m=k:=h
   rw[e,aVr]
   have h4:=h3
   unfold oD at h4
   simp only[aVu,beq_iff_eq] at h4
   exact⟨pM hk (cM (by omega)),h4.1,h4.2,by omega⟩
theorem vY {l:List bU} (h:nJ l=true) {x:bU} (hx:x∈l):jQ x=true:=by
 obtain⟨i,hi⟩:=List.mem_iff_getElem?.1 hx
 have hlt:=(aV2.1 hi).1
 have h1:=aV8.1 h i (List.mem_range.2 hlt)
 unfold lS at h1
 rw[aVu] at h1
 have h2:=h1.1
 rw[aVy,hi] at h2
 exact h2
theorem aEt {k:aX} {m:bU} (hm:jQ m=false) {p:bU→Bool}:cP {k with marks:=qI p m k.marks}=false:=by
 cases h:cP {k with marks:=qI p m k.marks} with
 |false=>rfl
 |true=>
  obtain⟨_,⟨_,h2,_⟩,_⟩:=(cG _).1 h
  rw[vY h2 (xR.2 (.inl rfl))] at hm
  cases hm
theorem ju {l:List bA} (hk:iZ l=true) {m:bU} (hm:jQ m=false): ¬(0≤aW l m.frm m.num∧(l.getD (aW l m.frm m.num).toNat .zero).til=m.til):=by
 rintro⟨h1,h2⟩
 obtain⟨q1,q2,q3,_⟩:=ui hk h1
 have:=aEq q1
 rw[q2,q3,h2] at this
 rw[show m=⟨m.frm,m.num,m.til⟩ from rfl,this] at hm
 cases hm
theorem aHa {k:aX} (hk:cP k=true) {w:List UInt8} {m:bU} (hm:jQ m=false):mG k (gL k w m)=(k,false):=by
 obtain⟨_,⟨h1,_,h2⟩,_⟩:=(cG _).1 hk
 unfold gL
 rw[aB (by
  intro h
  simp only[aVu,aD,beq_iff_eq] at h
  exact ju h1 hm ⟨h.1.2,h.2⟩),aB (by
  intro h
  simp only[aVu,aD,beq_iff_eq] at h
  exact ju h2 hm ⟨h.1.2,h.2⟩)]
 split
 · exact qM (.inr (aEt hm))
 · exact qM (.inl rfl)
def jv (k:aX) (w:List UInt8) (m:bU):aX×Bool:=
 if w==kV then(if decide (aW k.held m.frm m.num<0)||(k.held.getD (aW k.held m.frm m.num).toNat .zero).til != m.til then(k,false) else jm k m.frm m.num)
 else if w==oE then(if decide (aW k.inbox m.frm m.num<0)||(k.inbox.getD (aW k.inbox m.frm m.num).toNat .zero).til != m.til then(k,false) else jn k m.frm m.num)
 else if w==gK then(if fM k.marks m.frm m.num≥0 then(k,false) else({k with marks:=nN k.marks m},true))
 else(k,false)
theorem jw {l:List bA} {m:bU} (h: ¬(0≤aW l m.frm m.num∧(l.getD (aW l m.frm m.num).toNat .zero).til=m.til)): (decide (aW l m.frm m.num<0)||(l.getD (aW l m.frm m.num).toNat .zero).til != m.til)=true:=by
 by_cases h1:aW l m.frm m.num<0
 · simp[h1]
 · have h2: ¬(l.getD (aW l m.frm m.num).toNat .zero).til=m.til:=fun e=>h ⟨by omega,e⟩
   rw[aWc]
   exact .inr (by simpa only[bne_iff_ne,ne_eq] using h2)
theorem aKe {k:aX} (hk:cP k=true) {w:List UInt8} {m:bU} (hm:jQ m=false):mG k (jv k w m)=(k,false):=by
 obtain⟨_,⟨h1,_,h2⟩,_⟩:=(cG _).1 hk
 unfold jv
 rw[aC (jw (ju h1 hm)),aC (jw (ju h2 hm))]
 split
 · exact qM (.inl rfl)
 · split
   · exact qM (.inl rfl)
   · split
     · split
       · exact qM (.inl rfl)
       · exact qM (.inr (aEt hm))
     · exact qM (.inl rfl)
theorem yp {k:aX} (hk:cP k=true) {i:Nat} (hi:i<k.held.length):fM k.marks (k.held.getD i .zero).frm (k.held.getD i .zero).num<0:=by
 obtain⟨_,_,h,_⟩:=(cG _).1 hk
 have h1:=aV8.1 h i (List.mem_range.2 hi)
 unfold vB at h1
 simp only[aVu,aD] at h1
 exact h1.2
theorem aKf {k:aX} (hk:cP k=true) (w:List UInt8) (m:bU):gL k w m=jv k w m:=by
 obtain⟨_,⟨h1,_,h2⟩,_⟩:=(cG _).1 hk
 have l1: (kV==oE)=false:=by decide
 have l2: (kV==gK)=false:=by decide
 have l3: (oE==gK)=false:=by decide
 have l4: (oE==kV)=false:=by decide
 have l5: (gK==kV)=false:=by decide
 have l6: (gK==oE)=false:=by decide
 unfold gL jv
 by_cases w1:w=kV
 · subst w1
   rw[aC (show(kV==kV)=true by decide)]
   by_cases h:0≤aW k.held m.frm m.num∧(k.held.getD (aW k.held m.frm m.num).toNat .zero).til=m.til
   · obtain⟨q1,q2,q3,q4⟩:=ui h1 h.1
     have hu:=yp hk q4
     rw[q2,q3] at hu
     rw[aC (by rw[h.2];simp[h.1]),aB (by rw[h.2];simp[h.1]),jm,aC h.1,h.2,go (n:=⟨m.frm,m.num,m.til⟩) hu]
   · rw[aC (jw h),aB (by
      intro h9
      simp only[aVu,aD,beq_iff_eq] at h9
      exact h ⟨h9.1.2,h9.2⟩),aB (by rw[l1];simp),aB (by rw[l2];simp)]
 · have w1': (w==kV)=false:=by simpa using w1
   rw[aB (by rw[w1'];simp),aB (show ¬(w==kV)=true by rw[w1'];simp)]
   by_cases w2:w=oE
   · subst w2
     rw[aC (show(oE==oE)=true by decide)]
     by_cases h:0≤aW k.inbox m.frm m.num∧(k.inbox.getD (aW k.inbox m.frm m.num).toNat .zero).til=m.til
     · rw[aC (by rw[h.2];simp[h.1]),aB (by rw[h.2];simp[h.1]),jn,aC h.1]
     · rw[aC (jw h),aB (by
        intro h9
        simp only[aVu,aD,beq_iff_eq] at h9
        exact h ⟨h9.1.2,h9.2⟩),aB (by rw[l3];simp)]
   · have w2': (w==oE)=false:=by simpa using w2
     rw[aB (by rw[w2'];simp),aB (show ¬(w==oE)=true by rw[w2'];simp)]
     by_cases w3:w=gK
     · subst w3
       rw[aC (show(gK==gK)=true by decide)]
       by_cases h:fM k.marks m.frm m.num<0
       · rw[aC (by simp[h]),aB (by omega),go h]
       · rw[aB (by simp[h]),aC (by omega)]
     · have w3': (w==gK)=false:=by simpa using w3
       rw[aB (by rw[w3'];simp),aB (show ¬(w==gK)=true by rw[w3'];simp)]
theorem aHb {k:aX} (hk:cP k=true) (w r:List UInt8):
 qJ k (if gY (cR r)&&(cR r).length==3 then gL k w (three (cR r)) else(k,false)) (if !(lT 3 r==[])|| !(r==en (gF r)) then(k,false) else jv k w (gF r)):=by
 by_cases h: ∃m,jQ m=true∧r=vX m
 · obtain⟨m,hm,rfl⟩:=h
   obtain⟨q1,q2,q3,q4,q5⟩:=aA2 hm
   rw[q3,q4,q5,aEr hm,q1,q2,aC (by decide),aB (by simp),aKf hk]
   exact .rfl
 · have hL:mG k (if gY (cR r)&&(cR r).length==3 then gL k w (three (cR r)) else(k,false))=(k,false):=by
    split
    · rename_i h1
      refine aHa hk ?_
      cases h2:jQ (three (cR r)) with
      |false=>rfl
      |true=>exact absurd ⟨_,h2,aKd h1⟩ h
    · exact qM (.inl rfl)
   have hR:mG k (if !(lT 3 r==[])|| !(r==en (gF r)) then(k,false) else jv k w (gF r))=(k,false):=by
    split
    · exact qM (.inl rfl)
    · rename_i h1
      refine aKe hk ?_
      cases h2:jQ (gF r) with
      |false=>rfl
      |true=>
       refine absurd ⟨_,h2,?_⟩ h
       rw[← aEr h2]
       simp only[aWc,Bool.not_eq_true',not_or,Bool.not_eq_false,beq_iff_eq] at h1
       exact h1.2
   exact hL.trans hR.symm
theorem mw (k:aX) (rec:List UInt8):oS k rec=bX k rec:=by
 unfold oS bX
 by_cases hk:cP k=true
 · rw[aC hk,aC hk]
   symm
   show qJ k _ _
   obtain⟨⟨_,⟨t0,_⟩,⟨n0,_⟩,_⟩,_⟩:=(cG _).1 hk
   have hS: ∀w r,bC rec=w→aO rec=r→fQ k rec=(if w==iP then(if fU r≤k.time then(k,false) else(kN k (fU r),true))
    else if w==lG then(if !(dK r).2||(dK r).1.frm != k.id||(dK r).1.num != k.next then(k,false) else lV {k with next:=wrap64 (k.next+1)} (dK r).1)
    else if w==dF then(if !(dK r).2||(dK r).1.frm==k.id then(k,false) else lV k (dK r).1)
    else if w==iQ then(if fU r≤k.next then(k,false) else({k with next:=fU r},true))
    else if w==fY||w==eW then
     (if !(dK r).2||decide (aW k.held (dK r).1.frm (dK r).1.num≥0)||decide (aW k.inbox (dK r).1.frm (dK r).1.num≥0) then(k,false)
      else if w==fY then({k with held:=jC k.held (dK r).1},true) else({k with inbox:=jC k.inbox (dK r).1},true))
    else if !(lT 3 r==[])|| !(r==en (gF r)) then(k,false) else jv k w (gF r)):=by
    rintro w r rfl rfl;rfl
   have hI: ∀w r,bC rec=w→aO rec=r→dL k rec=(if fG rec then
    if w==iP||w==iQ then(if(iU r).isSome then kQ k w (iH r) else(k,false))
    else if w==lG||w==dF||w==fY||w==eW then(if(dK r).2 then fC k w (dK r).1 else(k,false))
    else if w==kV||w==oE||w==gK then(if gY (cR r)&&(cR r).length==3 then gL k w (three (cR r)) else(k,false))
    else(k,false)
    else(k,false)):=by
    rintro w r rfl rfl;rfl
   cases hs:fG rec with
   |false=>
    obtain⟨_,_,hr⟩:=(fJ rec).2 hs
    rw[hI _ _ rfl rfl,hs,hS _ _ rfl hr]
    have hd:fU []= -1:=rfl
    have hrd:dK []=(.zero,false):=rfl
    have hl: ([]==en (gF []))=false:=by
     have:en (gF [])≠[]:=by simp[en]
     simpa using this
    rw[hd,hrd,hl]
    refine .no (.inl rfl) (.inl ?_)
    rw[aC (show(-1:Int)≤k.time by omega),aC (show(-1:Int)≤k.next by omega)]
    simp
   |true=>
    rw[hI _ _ rfl rfl,hs,hS _ _ rfl rfl,aC rfl]
    generalize aO rec=r
    generalize bC rec=w
    by_cases e1:w=iP
    · subst e1;exact aG7 hk r
    by_cases e2:w=iQ
    · subst e2;exact aG8 hk r
    by_cases e3:w=lG
    · subst e3;exact aKc (dK r)
    by_cases e4:w=dF
    · subst e4;exact aEp (dK r)
    by_cases e5:w=fY∨w=eW
    · have hx:=aG9 (k:=k) w e5 (dK r)
      rcases e5 with rfl|rfl<;>exact hx
    have b1: (w==iP)=false:=by simpa using e1
    have b2: (w==iQ)=false:=by simpa using e2
    have b3: (w==lG)=false:=by simpa using e3
    have b4: (w==dF)=false:=by simpa using e4
    have b5: (w==fY)=false:=by simpa using fun h=>e5 (.inl h)
    have b6: (w==eW)=false:=by simpa using fun h=>e5 (.inr h)
    rw[b1,b2,b3,b4,b5,b6]
    show qJ k (if w==kV||w==oE||w==gK then _ else(k,false)) (if !(lT 3 r==[])|| !(r==en (gF r)) then(k,false) else jv k w (gF r))
    cases h7: (w==kV||w==oE||w==gK) with
    |true=>exact aHb hk w r
    |false=>
     simp only[Bool.or_eq_false_iff] at h7
     refine .no (.inl rfl) (.inl ?_)
     split
     · rfl
     · unfold jv
       rw[h7.1.1,h7.1.2,h7.2];rfl
 · rw[aB hk,aB hk]
set_option linter.unusedVariables false
set_option linter.unusedSimpArgs false
structure cU where
 num:Int
 data:List UInt8
 deriving DecidableEq
structure bB where
 frm:Int
 num:Int
 to:Int
 til:Int
 size:Int
 got:List cU
 deriving DecidableEq
structure aT where
 id:Int
 up:Bool
 log:List UInt8
 forced:Int
 halves:List bB
 deriving DecidableEq
def cU.row (m:cU):List D:=[.i m.num,.s m.data]
def aR (l:List cU):List (List D):=l.map cU.row
def bB.row (h:bB):List D:=[.i h.frm,.i h.num,.i h.to,.i h.til,.i h.size,.sl (aR h.got)]
def aP (l:List bB):List (List D):=l.map bB.row
abbrev cU.V (m:cU):V:= .e (.agg [.d (.i m.num),.d (.s m.data)])
abbrev bB.V (h:bB):V:= .e (.agg [.d (.i h.frm),.d (.i h.num),.d (.i h.to),.d (.i h.til),.d (.i h.size),.d (.sl (aR h.got))])
abbrev aT.V (k:aT):V:= .e (.agg [.d (.i k.id),.d (.b k.up),.d (.s k.log),.d (.i k.forced),.d (.sl (aP k.halves))])
def cU.zero:cU:=⟨0,[]⟩
def bB.zero:bB:=⟨0,0,0,0,0,[]⟩
def aT.zero:aT:=⟨0,false,[],0,[]⟩
theorem aK (l:List cU): (aR l).length=l.length:=by simp[aR]
theorem aE (l:List bB): (aP l).length=l.length:=by simp[aP]
theorem qO (l:List cU): ∀r∈aR l,r.length=2:=by
 intro r hr
 obtain⟨b,_,rfl⟩:=aV5.1 hr
 rfl
theorem mD (l:List bB): ∀r∈aP l,r.length=6:=by
 intro r hr
 obtain⟨b,_,rfl⟩:=aV5.1 hr
 rfl
theorem eP {l:List cU} {i:Nat} (h:i<l.length): (aR l).getD i []=(l.getD i .zero).row:=by
 rw[aVy,aVy]
 simp[aR,h]
theorem dG {l:List bB} {i:Nat} (h:i<l.length): (aP l).getD i []=(l.getD i .zero).row:=by
 rw[aVy,aVy]
 simp[aP,h]
theorem nO (l:List cU) (x:cU):aR l++[x.row]=aR (l++[x]):=by simp[aR]
theorem oJ (l:List bB) (x:bB):aP l++[x.row]=aP (l++[x]):=by simp[aP]
theorem aEu (l:List cU) (a b:Nat): ∀r∈((aR l).take a).drop b,r.length=2:=fun r hr=>qO l r (List.mem_of_mem_take (List.mem_of_mem_drop hr))
theorem tZ (l:List bB) (a b:Nat): ∀r∈((aP l).take a).drop b,r.length=6:=fun r hr=>mD l r (List.mem_of_mem_take (List.mem_of_mem_drop hr))
def vZ (m:cU):Bool:=gT m.num 0 999&&decide ((m.data.length:Int)=4)
def nP (l:List cU) (i:Nat):Bool:=vZ (l.getD i .zero)&&(aV7 i).all fun j=> !((l.getD j .zero).num==(l.getD i .zero).num)
def qP (h:bB):Bool:=dY h.frm&&dY h.to&&gT h.num 1 99&&gT h.til 1 999&&gT h.size 1 24&&decide ((h.got.length:Int)≤14)
def lH (h:bB):Bool:=qP h&&(aV7 h.got.length).all (nP h.got)
def gR (l:List bB) (f n:Int) (i:Nat):Bool:=(l.getD i .zero).frm==f&&(l.getD i .zero).num==n
def fD (l:List bB) (f n:Int):Int:=kC (gR l f n) 0 l.length
def gQ (l:List bB) (i:Nat):Bool:=lH (l.getD i .zero)&&(aV7 i).all fun j=> !gR l (l.getD i .zero).frm (l.getD i .zero).num j
def iW (k:aT):Bool:=dY k.id&&dN k.log k.forced&&decide ((k.halves.length:Int)≤3)&&(k.up||decide (k.halves.length=0))
def bM (k:aT):aX×Bool:=cQ k.id (bF k.log).1
def zK (k:aT):aX×Bool:=cQ k.id (bF (k.log.take k.forced.toNat)).1
def bL (k:aT):Bool:=iW k&&(bM k).2&&(zK k).2&&(aV7 k.halves.length).all (gQ k.halves)
theorem kH {l:List UInt8} {f:Int} (h:dN l f=true):l.length≤2400∧(0≤f∧f≤l.length)∧(bF l).2=l.length∧((bF (l.take f.toNat)).2:Int)=f:=by
 simp only[dN,gT,aVu,aD] at h
 exact⟨h.1.1.1,h.1.1.2,h.1.2,h.2⟩
theorem aKg {s r:List UInt8} {n:Nat} (h:gO s=some (r,n)):r.length≤s.length:=by
 unfold gO at h
 split at h
 · cases h
 · split at h
   · cases h
   · split at h
     · cases h
       rw[aV4,aV0];omega
     · cases h
theorem eu: ∀(k:Nat) (s:List UInt8),s.length≤k→ ∀x∈(bF s).1,x.length≤s.length
 |0,s,h,x,hx=>by
  obtain rfl:s=[]:=List.eq_nil_of_length_eq_zero (by omega)
  rw[eV nK] at hx;cases hx
 |k+1,s,h,x,hx=>by
  cases hr:gO s with
  |none=>rw[eV hr] at hx;cases hx
  |some p=>
   obtain⟨r,n⟩:=p
   have h1:=pF hr
   rw[jR hr] at hx
   rcases aV6.1 hx with rfl|hx
   · exact aKg hr
   · have:=eu k (s.drop n) (by rw[aV4];omega) x hx
     rw[aV4] at this;omega
theorem kI (s:List UInt8) (h:s.length≤900000): (bF s).1.length≤900000∧ ∀x∈(bF s).1,x.length≤900000:=
 ⟨by have:=(ji s.length s (aVz _)).2;omega,fun x hx=>by have:=eu s.length s (aVz _) x hx;omega⟩
theorem kR {h:bB} (hh:qP h=true):dY h.frm=true∧dY h.to=true∧(1≤h.num∧h.num≤99)∧(1≤h.til∧h.til≤999)∧(1≤h.size∧h.size≤24)∧h.got.length≤14:=by
 simp only[qP,gT,aVu,aD] at hh
 obtain⟨⟨⟨⟨⟨h1,h2⟩,h3⟩,h4⟩,h5⟩,h6⟩:=hh
 exact⟨h1,h2,h3,h4,h5,by omega⟩
theorem fV {k:aT} (h:iW k=true):dY k.id=true∧dN k.log k.forced=true∧k.halves.length≤3∧(k.up=true∨k.halves.length=0):=by
 simp only[iW,aVu,aWc,aD] at h
 obtain⟨⟨⟨h1,h2⟩,h3⟩,h4⟩:=h
 exact⟨h1,h2,by omega,h4⟩
theorem pc {l:List cU} {i:Nat} (h1:vZ (l.getD i .zero)=true) (h2: ∀j,j<i→((l.getD j .zero).num==(l.getD i .zero).num)=false):nP l i=true:=by
 unfold nP
 rw[h1,Bool.true_and]
 exact gX fun j hj=>by rw[h2 j hj];rfl
theorem pd {l:List cU} {i:Nat} (h1:vZ (l.getD i .zero)=false):nP l i=false:=by
 unfold nP;rw[h1];rfl
theorem uj {l:List cU} {i j:Nat} (hj:j<i) (h2: ((l.getD j .zero).num==(l.getD i .zero).num)=true):nP l i=false:=by
 unfold nP
 rw[fB hj (by rw[h2];rfl),Bool.and_false]
theorem aCv {l:List bB} {i:Nat} (h1:lH (l.getD i .zero)=true) (h2: ∀j,j<i→gR l (l.getD i .zero).frm (l.getD i .zero).num j=false):gQ l i=true:=by
 unfold gQ
 rw[h1,Bool.true_and]
 exact gX fun j hj=>by rw[h2 j hj];rfl
theorem aCw {l:List bB} {i:Nat} (h1:lH (l.getD i .zero)=false):gQ l i=false:=by
 unfold gQ;rw[h1];rfl
theorem aEv {l:List bB} {i j:Nat} (hj:j<i) (h2:gR l (l.getD i .zero).frm (l.getD i .zero).num j=true):gQ l i=false:=by
 unfold gQ
 rw[fB hj (by rw[h2];rfl),Bool.and_false]
theorem aKh (l:List bB) (f m:Int): -1≤fD l f m∧fD l f m<l.length:=by
 rcases gE (gR l f m) l.length 0 with h|⟨k,h,_,h2,_⟩<;>rw[fD,h]<;>omega
theorem aHc {l:List bB} {i:Nat} (hi:i<l.length): (decide (fD l (l.getD i .zero).frm (l.getD i .zero).num< (i:Int)))= !((aV7 i).all fun j=> !gR l (l.getD i .zero).frm (l.getD i .zero).num j):=by
 have hself:gR l (l.getD i .zero).frm (l.getD i .zero).num i=true:=by simp[gR]
 by_cases h: ∃j,j<i∧gR l (l.getD i .zero).frm (l.getD i .zero).num j=true
 · obtain⟨j,hj,hji⟩:=h
   rw[fB hj (by rw[hji];rfl)]
   rcases gE (gR l (l.getD i .zero).frm (l.getD i .zero).num) l.length 0 with h1|⟨k,h1,_,h2,h3,h4⟩
   · exact decide_eq_true (by rw[fD,h1];omega)
   · refine decide_eq_true ?_
     rw[fD,h1]
     by_cases hk:k<i
     · omega
     · have:=h4 j (aVv _) (by omega)
       rw[hji] at this;cases this
 · have h0: ∀j,j<i→gR l (l.getD i .zero).frm (l.getD i .zero).num j=false:=fun j hj=>by
    cases hh:gR l (l.getD i .zero).frm (l.getD i .zero).num j with
    |false=>rfl
    |true=>exact absurd ⟨j,hj,hh⟩ h
   rw[gX (fun j hj=>by rw[h0 j hj];rfl),fD,kY (aVv _) (by omega) (fun j _ hj=>h0 j hj) hself]
   simp
theorem aR1 (a b:Int):decide (a>b)= !decide (a≤b):=by
 by_cases h:a≤b
 · simp[h,Int.not_lt.2 h]
 · simp[h,Int.not_le.1 h]
theorem mixC {a:Bool} {n:Int} (h: (!a||n != 4)=true): (!a|| !decide (n=4))=true:=by
 have e: (n != 4)= !decide (n=4):=by by_cases h:n=4<;>simp[h]
 rw[← e];exact h
theorem aVn {a:Bool} {n:Int} (h: (!a||n != 4)=false): (a&&decide (n=4))=true:=by
 have e: (n != 4)= !decide (n=4):=by by_cases h:n=4<;>simp[h]
 rw[e] at h
 cases a<;>simp_all
theorem jx {l:List bB} {i:Nat} {c:Bool} (hi:i<l.length) (h: (!lH (l.getD i .zero)||decide (fD l (l.getD i .zero).frm (l.getD i .zero).num< (i:Int)))=c):gQ l i= !c:=by
 subst h
 rw[aHc hi,gQ,Bool.not_or,Bool.not_not,Bool.not_not]
theorem wS {k:aT} (h:iW k=false):bL k=false:=by rw[bL,h];rfl
theorem pf {k:aT} {a b:Bool} (h: (!a|| !b)=true) (h2: ((bM k).2=a∧(zK k).2=b)∨((bM k).2=b∧(zK k).2=a)):bL k=false:=by
 unfold bL
 rcases h2 with⟨h1,h2⟩|⟨h1,h2⟩<;>rw[h1,h2]<;>cases a<;>cases b<;>simp_all
theorem jy {k:aT} {a b:Bool} (hh:iW k=true) (h: (!a|| !b)=false) (h2: ((bM k).2=a∧(zK k).2=b)∨((bM k).2=b∧(zK k).2=a)):bL k=(aV7 k.halves.length).all (gQ k.halves):=by
 unfold bL
 rcases h2 with⟨h1,h2⟩|⟨h1,h2⟩<;>rw[h1,h2,hh]<;>cases a<;>cases b<;>simp_all
theorem jz {h:bB} {c:Bool} (hh: (!dY h.frm|| !dY h.to|| !gT h.num 1 99|| !gT h.til 1 999|| !gT h.size 1 24||decide (((aR h.got).length:Int)>14))=c):qP h= !c:=by
 subst hh
 rw[aK,aR1]
 unfold qP
 simp only[Bool.not_or,Bool.not_not]
theorem zL {k:aT} {c:Bool} (hh: (!dY k.id|| !dN k.log k.forced||decide (((aP k.halves).length:Int)>3)||(!k.up&&decide (((aP k.halves).length:Int)>0)))=c):iW k= !c:=by
 subst hh
 have e:decide ((k.halves.length:Int)>0)= !decide (k.halves.length=0):=by
  by_cases h:k.halves.length=0
  · rw[h];rfl
  · rw[decide_eq_true (show(k.halves.length:Int)>0 by omega),decide_eq_false h];rfl
 rw[aE,aR1,e]
 unfold iW
 simp only[Bool.not_or,Bool.not_not,Bool.not_and]
theorem uk {l:List UInt8} {f:Int} (h: (decide ((l.length:Int)>2400)|| !gT f 0 l.length)=true):dN l f=false:=by
 unfold dN
 rcases aWc _ _▸h with h|h
 · rw[decide_eq_false (show ¬l.length≤2400 by have:=of_decide_eq_true h;omega)];rfl
 · rw[Bool.not_eq_true'] at h
   rw[h];simp
theorem pg {l:List UInt8} {f:Int} (h: (decide ((l.length:Int)>2400)|| !gT f 0 l.length)=false): (l.length≤2400∧0≤f∧f≤l.length)∧dN l f=(((bF l).2:Int)==(l.length:Int)&&((bF (l.take f.toNat)).2:Int)==f):=by
 rw[Bool.or_eq_false_iff] at h
 have h1:l.length≤2400:=by have:=of_decide_eq_false h.1;omega
 have h2:gT f 0 l.length=true:=by simpa using h.2
 have h3:0≤f∧f≤l.length:=by simpa[gT] using h2
 refine⟨⟨h1,h3⟩,?_⟩
 unfold dN
 rw[decide_eq_true h1,h2,Bool.true_and,Bool.true_and]
 congr 1
 by_cases e: (bF l).2=l.length
 · rw[e];simp
 · rw[decide_eq_false e]
   symm
   rw[beq_eq_false_iff_ne]
   omega
set_option linter.unusedVariables false
set_option linter.unusedSimpArgs false
theorem gp {α:Type} {f:α→List D} {p:α→Prop}: ∀{rows:List (List D)},(∀r∈rows,∃x,r=f x∧p x)→ ∃l:List α,rows=l.map f∧ ∀x∈l,p x
 | [],_=>⟨[],rfl,fun x h=>(by cases h)⟩
 |r::rows,h=>by
  obtain⟨x,rfl,hp⟩:=h r (List.mem_cons_self ..)
  obtain⟨l,rfl,hl⟩:=gp (rows:=rows) fun r hr=>h r (List.mem_cons_of_mem _ hr)
  exact⟨x::l,rfl,fun y hy=>by rcases aV6.1 hy with rfl|hy;exact hp;exact hl y hy⟩
theorem gq {α:Type} {z:α} {a b:List α} (hl:a.length=b.length) (h: ∀j,j<a.length→a.getD j z=b.getD j z):a=b:=by
 apply List.ext_getElem hl
 intro i h1 h2
 have:=h i h1
 rw[aVy,aVy,aV1 h1,aV1 h2] at this
 exact this
theorem gr {α:Type} {z:α} {a b:List α} {j:Nat} (h: ¬a.getD j z=b.getD j z): ¬a=b:=fun e=>h (by rw[e])
def aT.row (k:aT):List D:=[.i k.id,.b k.up,.s k.log,.i k.forced,.sl (aP k.halves)]
def KRB (k:aT):Prop:=k.log.length≤140737488355328∧k.halves.length*64≤140737488355328∧ ∀h∈k.halves,h.got.length*24≤140737488355328
theorem gt {l:List cU} {i:Nat} (h:i<l.length): (aR ((l.take i)++aWb (l.length - i) cU.zero)).getD i []=cU.zero.row:=by
 rw[eP (by simp;omega),aVy,List.getElem?_append_right (by simp;omega)]
 rw[List.getElem?_replicate,aC (by simp;omega)]
 rfl
theorem ka {l:List cU} {i:Nat} (h:i<l.length): (aR ((l.take i)++aWb (l.length - i) cU.zero)).set i (cT ((aR ((l.take i)++aWb (l.length - i) cU.zero)).getD i []) 0 (l.getD i .zero).row)=aR ((l.take (i+1))++aWb (l.length - (i+1)) .zero):=by
 rw[gt h]
 show(aR _).set i (l.getD i .zero).row=_
 have e:l.length - i=(l.length - (i+1))+1:=by omega
 rw[e,List.replicate_succ]
 unfold aR
 rw[List.map_append,List.map_cons,aMm (by simp;omega),dH (z:=cU.zero) h,List.append_assoc,List.map_append,List.map_append]
 rfl
theorem ph {l:List bB} {i:Nat} (h:i<l.length): (aP ((l.take i)++aWb (l.length - i) bB.zero)).getD i []=bB.zero.row:=by
 rw[dG (by simp;omega),aVy,List.getElem?_append_right (by simp;omega)]
 rw[List.getElem?_replicate,aC (by simp;omega)]
 rfl
theorem yq {l:List bB} {i:Nat} (h:i<l.length): (aP ((l.take i)++aWb (l.length - i) bB.zero)).set i (cT ((aP ((l.take i)++aWb (l.length - i) bB.zero)).getD i []) 0 (l.getD i .zero).row)=aP ((l.take (i+1))++aWb (l.length - (i+1)) .zero):=by
 rw[ph h]
 show(aP _).set i (l.getD i .zero).row=_
 have e:l.length - i=(l.length - (i+1))+1:=by omega
 rw[e,List.replicate_succ]
 unfold aP
 rw[List.map_append,List.map_cons,aMm (by simp;omega),dH (z:=bB.zero) h,List.append_assoc,List.map_append,List.map_append]
 rfl
set_option linter.unusedVariables false
set_option linter.unusedSimpArgs false
def iI (l:List UInt8) (f:Int):List UInt8×Int:=if dN l f then(l,l.length) else([],0)
def dC (rec:List UInt8):List UInt8:=jA rec.length++[58]++rec++[59]
def iK (rec:List UInt8):Bool:=gT rec.length 1 60
def bR (l:List UInt8) (f:Int) (rec:List UInt8): (List UInt8×Int)×Bool:=
 if dN l f then(if iK rec&&decide (l.length+(dC rec).length≤2400) then((l++dC rec,f),true) else((l,f),false)) else(([],0),false)
def cO (recs:List (List UInt8)):List UInt8:=(recs.map dC).flatten
def eL (l:List UInt8) (f:Int) (recs:List (List UInt8)): (List UInt8×Int)×Bool:=
 if dN l f then(if recs.all iK&&decide ((cO recs).length≤2400) then((cO recs,(cO recs).length),true) else((l,f),false)) else(([],0),false)
theorem aEw {n:Nat} (h:n<100): (jA n).length≤2:=bP (k:=1) (by simpa using h)
theorem aEx {rec:List UInt8} (h:iK rec=true):rec.length+3≤(dC rec).length∧(dC rec).length≤rec.length+4∧rec.length≤60:=by
 have h1: (1:Int)≤rec.length∧(rec.length:Int)≤60:=by simpa[iK,gT] using h
 have h2:=aEw (n:=rec.length) (by omega)
 have h3:1≤(jA rec.length).length:=List.length_pos_iff.2 (aCn _)
 simp only[dC,aVt,aVw,aVx];omega
theorem sS {rec:List UInt8} (h:rec.length≤900000): (dC rec).length≤rec.length+8:=by
 have h2:=bP (k:=5) (n:=rec.length) (by simp;omega)
 simp only[dC,aVt,aVw,aVx];omega
theorem aCx (recs:List (List UInt8)) (r:List UInt8):cO (recs++[r])=cO recs++dC r:=by simp[cO]
theorem aEy:cO []=[]:=rfl
def jT (k:aT):aT:={k with log:=(iI k.log k.forced).1,forced:=(iI k.log k.forced).2}
def bV (k:aT):aX:=if bL k then(bM k).1 else .zero
theorem fW {k:aT} (h:bL k=true):iW k=true∧k.log.length≤2400∧(0≤k.forced∧k.forced≤k.log.length)∧k.halves.length≤3∧(k.up=true∨k.halves=[])∧ ∀x∈k.halves,x.got.length≤14:=by
 have h1:iW k=true:=by
  cases hh:iW k with
  |true=>rfl
  |false=>rw[wS hh] at h;cases h
 obtain⟨_,q1,q2,q3⟩:=fV h1
 obtain⟨q4,q5,_,_⟩:=kH q1
 refine⟨h1,q4,q5,q2,q3.imp (fun h=>h) (fun h=>List.eq_nil_of_length_eq_zero h),fun x hx=> ?_⟩
 unfold bL at h
 rw[aVu] at h
 obtain⟨i,hi⟩:=List.mem_iff_getElem?.1 hx
 have hlt:=(aV2.1 hi).1
 have h2:=aV8.1 h.2 i (List.mem_range.2 hlt)
 unfold gQ at h2
 rw[aVu] at h2
 have h3:=h2.1
 rw[aVy,hi] at h3
 have h3:lH x=true:=h3
 unfold lH at h3
 rw[aVu] at h3
 exact(kR h3.1).2.2.2.2.2
def KSm (k:aT):Prop:=k.log.length≤2400∧k.halves.length≤4∧ ∀x∈k.halves,x.got.length≤15
set_option linter.unusedVariables false
set_option linter.unusedSimpArgs false
def oK (b:Int):Nat→Int
 |0=>0
 |d+1=>oK b d+gN b ((d+1:Nat):Int)
def cc (b n:Int):Int:=Int.tmod (wrap64 (Int.tdiv (cK (cK (wrap64 (wrap64 (n*31)+b)))) 16)) (oK b b.toNat)
def zM (b:Int) (r:Int):Nat→Nat→Int
 |0,_=>b
 |f+1,d=>if(d:Int)<b then(if r<oK b d then d else zM b r f (d+1)) else b
def hZ (b n:Int):Int:=if oC b n then(if n<b then 1 else zM b (cc b n) 6 1) else 0
theorem mX {b:Int} (hb:1≤b∧b≤6): ∀{d:Nat},(d:Int)≤6→0≤oK b d∧oK b d≤70*d∧(1≤d→10≤oK b d)
 |0,_=>by simp[oK]
 |d+1,h=>by
  have ih:=mX hb (d:=d) (by omega)
  have hw:=mU (b:=b) (d:=((d+1:Nat):Int)) hb (by omega)
  unfold oK
  refine⟨by omega,by omega,fun _=> ?_⟩
  by_cases h0:d=0
  · subst h0
    have:=hw.2.2 rfl
    omega
  · have:=ih.2.2 (by omega);omega
theorem ul {b r:Int} (hb:1≤b): ∀(f d:Nat),1≤d→1≤zM b r f d∧zM b r f d≤b
 |0,d,h=>by unfold zM;omega
 |f+1,d,h=>by
  unfold zM
  split
  · split
    · omega
    · exact ul hb f (d+1) (by omega)
  · omega
theorem oT {b n:Int} (h:oC b n=true):1≤hZ b n∧hZ b n≤b:=by
 obtain⟨hb,_⟩:=rN h
 unfold hZ
 rw[aC h]
 split
 · omega
 · exact ul hb.1 6 1 (aVz _)
theorem aM4 {b r:Int} {f d:Nat} (hd: (d:Int)<b) (h:r<oK b d):zM b r (f+1) d=d:=by
 unfold zM;rw[aC hd,aC h]
theorem aKi {b r:Int} {f d:Nat} (hd: (d:Int)<b) (h: ¬r<oK b d):zM b r (f+1) d=zM b r f (d+1):=by
 conv=>lhs;unfold zM
 rw[aC hd,aB h]
theorem cf {b r:Int} {f d:Nat} (hd: ¬(d:Int)<b):zM b r f d=b:=by
 cases f with
 |zero=>rfl
 |succ f=>unfold zM;rw[aB hd]
def pN (u:List Bool) (b:Int):Nat→Int→Int
 |0,a=>a
 |f+1,a=>if u.getD a.toNat false then pN u b f (Int.tmod (wrap64 (a+1)) b) else a
def uA (b x:Int) (u:List Bool):List Bool:=u.set (pN u b 6 (Int.tmod (wrap64 (Int.tdiv (cK x) 16)) b)).toNat true
def um (b:Int):Nat→Int→List Bool→List Bool
 |0,_,u=>u
 |k+1,x,u=>um b k (cK x) (uA b x u)
def rR (b n:Int):List Bool:=um b (hZ b n).toNat (cK (wrap64 (wrap64 (n*7)+1))) (aWb 6 false)
def aTq (u:List Bool):List Int:=((aV7 u.length).filter fun i=>u.getD i false).map fun(i:Nat)=>((i:Nat):Int)
def cB (b n:Int):List Int:=if oC b n then(if n<b then [n] else aTq (rR b n)) else []
theorem xT {u:List Bool} {b a:Int} {f:Nat} (h:u.getD a.toNat false=false):pN u b f a=a:=by
 cases f with
 |zero=>rfl
 |succ f=>unfold pN;rw[h];rfl
theorem zN {u:List Bool} {b a:Int} {f:Nat} (h:u.getD a.toNat false=true):pN u b (f+1) a=pN u b f (Int.tmod (wrap64 (a+1)) b):=by
 conv=>lhs;unfold pN
 rw[aC h]
theorem un {u:List Bool} {b:Int} (hb:1≤b∧b≤6) {f:Int} (hf:0≤f∧f<b) (hfree:u.getD f.toNat false=false): ∀(g:Nat) (a:Int),0≤a∧a<b→((f+b - a) % b).toNat≤g→
 (0≤pN u b g a∧pN u b g a<b)∧u.getD (pN u b g a).toNat false=false
 |0,a,ha,hg=>by
  have e:a=f:=by
   by_cases h:a<f
   · have: (f+b - a) % b=f - a:=by
      rw[show f+b - a=(f - a)+b by omega,Int.add_emod_right,Int.emod_eq_of_lt (by omega) (by omega)]
     omega
   · by_cases h2:a=f
     · exact h2
     · have: (f+b - a) % b=f+b - a:=Int.emod_eq_of_lt (by omega) (by omega)
       omega
  subst e
  exact⟨ha,hfree⟩
 |g+1,a,ha,hg=>by
  cases hu:u.getD a.toNat false with
  |false=>rw[xT hu];exact⟨ha,hu⟩
  |true=>
   have hne:a≠f:=fun e=>by subst e;rw[hfree] at hu;cases hu
   obtain⟨q1,q2⟩:=aCm hb hf ha hne
   rw[zN hu]
   exact un hb hf hfree g _ q2 (by omega)
theorem my {b x:Int} (hb:1≤b∧b≤6):0≤Int.tmod (wrap64 (Int.tdiv (cK x) 16)) b∧Int.tmod (wrap64 (Int.tdiv (cK x) 16)) b<b:=by
 have hr:=bx x
 exact yV (x:=wrap64 (Int.tdiv (cK x) 16)) (n:=b) (by rw[aF (by have:=yW hr.1 (n:=16) (by omega);omega)];exact(yW hr.1 (by omega)).1) hb.1
def UOk (b:Int) (u:List Bool):Prop:=u.length=6∧ ∀i:Nat,b≤i→u.getD i false=false
theorem uo {b:Int} {u:List Bool} (hb:1≤b∧b≤6) (h:UOk b u) (hc: (u.count true:Int)<b): ∃f:Int,(0≤f∧f<b)∧u.getD f.toNat false=false:=by
 obtain⟨f,hf1,hf2⟩:=aD9 (u:=u.take b.toNat) (by
  have h1: (u.take b.toNat).count true≤u.count true:=(List.take_sublist _ _).count_le _
  rw[aV0,h.1];omega)
 rw[aV0,h.1] at hf1
 refine⟨f,by omega,?_⟩
 rw[xQ (by omega)] at hf2
 rw[aVr];exact hf2
theorem uq {b x:Int} {u:List Bool} (hb:1≤b∧b≤6) (h:UOk b u) (hc: (u.count true:Int)<b):UOk b (uA b x u)∧(uA b x u).count true=u.count true+1:=by
 obtain⟨f,hf,hfree⟩:=uo hb h hc
 have ha:=my (x:=x) hb
 obtain⟨q1,q2⟩:=un hb hf hfree 6 _ ha (by
  have:=Int.emod_lt_of_pos (f+b - Int.tmod (wrap64 (Int.tdiv (cK x) 16)) b) (show 0<b by omega)
  have:=Int.emod_nonneg (f+b - Int.tmod (wrap64 (Int.tdiv (cK x) 16)) b) (show b≠0 by omega)
  omega)
 refine⟨⟨by rw[uA,aV9];exact h.1,fun i hi=> ?_⟩,?_⟩
 · rw[uA,aVy,List.getElem?_set_ne (by omega),← aVy]
   exact h.2 i hi
 · exact aJs (by rw[h.1];omega) q2
theorem sT (b:Int):UOk b (aWb 6 false)∧(aWb 6 false).count true=0:=by
 refine⟨⟨rfl,fun i _=> ?_⟩,rfl⟩
 rw[aVy,List.getElem?_replicate]
 split<;>rfl
def aEz (a b:List UInt8):List UInt8:=(aV7 4).map fun i=>u8 (il (pL a i) (pL b i))
set_option linter.unusedVariables false
set_option linter.unusedSimpArgs false
def nQ (n:Nat):List UInt8:=iP++[32]++jA n
def oU (n:Nat):List UInt8:=iQ++[32]++jA n
def jE (w:List UInt8) (m:bU):List UInt8:=w++[32]++jA m.frm.toNat++[32]++jA m.num.toNat++[32]++jA m.til.toNat
def cY (w:List UInt8) (n:bA):List UInt8:=w++[32]++fN n
def gu (k:aX):List (List UInt8):=
 (if 0<k.time then [nQ k.time.toNat] else [])++(if 1<k.next then [oU k.next.toNat] else [])++k.marks.map (jE gK)++k.held.map (cY fY)++k.inbox.map (cY eW)
def eA (k:aX):List (List UInt8):=if cP k then gu k else []
def jF (k:aT) (s:List UInt8×Int):aT:={k with log:=s.1,forced:=s.2}
def gS (k:aT) (rec:List UInt8):aT×Bool:=
 if(bX (bM k).1 rec).2 then
  if(bR k.log k.forced rec).2 then(jF k (bR k.log k.forced rec).1,true)
  else if(eL k.log k.forced (eA (bM k).1)).2 then
   if(bR (eL k.log k.forced (eA (bM k).1)).1.1 (eL k.log k.forced (eA (bM k).1)).1.2 rec).2 then
    (jF k (bR (eL k.log k.forced (eA (bM k).1)).1.1 (eL k.log k.forced (eA (bM k).1)).1.2 rec).1,true)
   else(k,false)
  else(k,false)
 else(k,false)
def dx (k:aT) (rec:List UInt8):aT×Bool:=if(gS k rec).2 then(jT (gS k rec).1,true) else(k,false)
def rS (k:aT):aT×Bool:=if bL k then(if k.up then dx k (nQ ((bM k).1.time+1).toNat) else(k,false)) else(.zero,false)
def aIu (k:aT) (to til:Int) (text:List UInt8):bA:=⟨k.id,(bM k).1.next,to,til,text⟩
def uO (k:aT) (to til:Int) (text:List UInt8):aT×Int:=
 if bL k then(if k.up then(if(dx k (cY lG (aIu k to til text))).2 then((dx k (cY lG (aIu k to til text))).1,(bM k).1.next) else(k,0)) else(k,0)) else(.zero,0)
def bH.zero:bH:=⟨0,0,0,0,0,0,0,0,0,[]⟩
set_option linter.unusedVariables false
set_option linter.unusedSimpArgs false
def cS (u:List Bool):List C:=u.map fun b=> .d (.b b)
theorem kS (u:List Bool): (cS u).length=u.length:=by simp[cS]
theorem ur {u:List Bool} {j:Nat} (h:j<u.length): (cS u).getD j .nil= .d (.b (u.getD j false)):=by
 rw[aVy,aVy]
 simp[cS,h]
theorem yr {u:List Bool} {j:Nat} {x:Bool} (h:j<u.length):cT (cS u) j [.d (.b x)]=cS (u.set j x):=by
 unfold cT cS
 rw[List.map_set]
 apply List.ext_getElem?
 intro i
 simp only[aVw,aVx]
 rw[List.getElem?_set]
 by_cases hi:i<j
 · rw[List.append_assoc,List.getElem?_append_left (by simp;omega),List.getElem?_take,aC hi,aB (by omega)]
 · rw[List.append_assoc,List.getElem?_append_right (by simp;omega)]
   by_cases he:j=i
   · subst he
     simp[h,Nat.min_eq_left (Nat.le_of_lt h)]
   · rw[aB he,List.getElem?_append_right (by simp;omega),List.getElem?_drop]
     congr 1
     simp;omega
section
variable {τ σ':St} {rl:List (Nat×Nat)} {bor:List Nat} {r:St}
theorem mz: ∀(u:List Bool),sf τ σ' rl bor (cS u) (cS u)
 | []=>trivial
 |b::u=>⟨rfl,mz u⟩
theorem dy {j:Nat} {ty:TypeId} {cs:List C} {u:List Bool} (h:aQ τ (.o (iO rl j))=some (.box ty cs)) (e:cs=cS u) (hr:mL τ σ' rl bor r):mL τ σ' rl bor ((.o j,.box ty (cS u))::r):=by
 subst e;exact pD h (mz u) hr
theorem aA3 {s:Nat} {c:C} {y:D} (h:aQ τ (.t s)=some (.v (.e (.c c)))) (e:c= .d y) (hr:mL τ σ' rl bor r):mL τ σ' rl bor ((.t s,.v (Dv y))::r):=by
 subst e;exact iG h rfl hr
theorem sC {s:Nat} {cs:List C} {u:List Bool} (h:aQ τ (.t s)=some (.v (.e (.agg cs)))) (e:cs=cS u) (hr:mL τ σ' rl bor r):mL τ σ' rl bor ((.t s,.v (.e (.agg (cS u))))::r):=by
 subst e;exact dS h (mz u) hr
end
section
variable {P:Program} {T:gJ} {o:Oper} {σ:St} {x y:Operand} {d ob j:Nat} {t ty:TypeId} {ti:TI} {Rx Ry:List (cL×Option K)} {k:List (cL×Option K)→List (cL×K)→Prop}
theorem aPv (hT:eC P T) {n e:Nat} {ei:TI} (u:List Bool) (i:Int) (ho:o.op= .index t x y) (hd:o.dst=some d) (ht:T t=some ti) (hk:ti.kind= .arr n e) (he:T e=some ei) (ha:ei.kind.agg=false) (hs:ei.size=1)
 (hx:ev σ x=some (.e (.agg (cS u)),Rx)) (hy:ev σ y=some (I i,Ry)) (hi:0≤i∧i<n) (hn:n=u.length):yE P o (Rx++Ry) [(.t d,.v (B (u.getD i.toNat false)))]:=
 tM hd fun cx σ ι S a w hr hw=>by
  obtain⟨va,ea,la,hva⟩:=(show ER σ ι w S (.agg (cS u)) _ from eF hx hr.left hw)
  have hY:=eF hy hr.right hw
  simp only[lM,ER,CR] at hY
  cases hv2:a.eval y<;>rw[hv2] at hY<;>cases hY
  have hu:=(hT t ti ht).kind
  rw[hk] at hu;simp only[mR] at hu
  rw[kS] at la
  have hlt:i.toNat<va.length:=by omega
  have h1: (cS u)[i.toNat]? =some (.d (.b (u.getD i.toNat false))):=by
   have hlt2:i.toNat<u.length:=by omega
   simp[cS,aVy,hlt2]
  have h2:=hva i.toNat _ va[i.toNat] h1 (by simp[hlt])
  refine⟨va[i.toNat],?_,h2⟩
  have h3: (Go.part e va.toArray i.toNat).run P w= .ok va[i.toNat] w:=by
   unfold Go.part
   rw[Sem.run_bind,uR (hT e ei he),Result.andThen_ok,ha]
   simp[hlt]
  simp[execOp,ho,ea,hv2,Instr.index,asIntOf,run_underlying hu,hi.1,hi.2,fK (hT e ei he),hs,h3]
theorem aTr (hT:eC P T) {n e:Nat} {ei:TI} (u:List Bool) (i:Int) (b:Bool) (ho:o.op= .index t x y) (hd:o.dst=some d) (ht:T t=some ti) (hk:ti.kind= .arr n e) (he:T e=some ei) (ha:ei.kind.agg=false) (hs:ei.size=1)
 (hx:ev σ x=some (.e (.agg (cS u)),Rx)) (hy:ev σ y=some (I i,Ry)) (hi:0≤i∧i<n) (hn:n=u.length) (hb:u.getD i.toNat false=b) (h:k (Rx++Ry) [(.t d,.v (B b))]): ∃R W,yE P o R W∧bO R σ∧k R W:=
 ⟨_,_,hb▸aPv hT u i ho hd ht hk he ha hs hx hy hi hn,(eE hx).append (eE hy),h⟩
end
def rG (b:Int) (k:Nat):List Int:=(aV7 (k+1)).map fun i=>if i=0 then 0 else gN b ((i:Nat):Int)
theorem lI (b:Int) (k:Nat): (rG b k).length=k+1:=by simp[rG]
theorem ut (b:Int) (k:Nat):rG b (k+1)=rG b k++[gN b ((k+1:Nat):Int)]:=by
 unfold rG
 rw[List.range_succ,List.map_append];rfl
theorem aHd {b:Int} {k i:Nat} (h1:1≤i) (h2:i≤k): (rG b k).getD i 0=gN b ((i:Nat):Int):=by
 rw[aVy]
 simp[rG,show i<k+1 by omega,show ¬i=0 by omega]
theorem aE0 {b:Int} {k i:Nat} (h1:1≤i) (h2:i≤k):xK (((bW (rG b k)).getD i []).getD 0 (.i 0))=gN b ((i:Nat):Int):=by
 rw[gW (by rw[lI];omega),aHd h1 h2];rfl
theorem ew {b d:Int} (h: ¬d=1):wrap64 (Int.tdiv 60 (wrap64 (d*wrap64 (d - 1))))=gN b d:=by
 rw[gN,aB h]
theorem kb {d:Int} (h:2≤d∧d≤6):wrap64 (d*wrap64 (d - 1))≠0:=by
 rw[aF (n:=d - 1) (by omega)]
 have:d=2∨d=3∨d=4∨d=5∨d=6:=by omega
 rcases this with rfl|rfl|rfl|rfl|rfl<;>(rw[aF (by omega)];omega)
theorem aM5 (b:Int):oK b 1=wrap64 (wrap64 (Int.tdiv 60 b)+10):=by simp[oK,gN]
theorem av {b n:Int} (h:oC b n=true) (hn:n<b):hZ b n=1:=by rw[hZ,aC h,aC hn]
theorem ey {b n:Int} (h:oC b n=true) (hn: ¬n<b):hZ b n=zM b (cc b n) 6 1:=by rw[hZ,aC h,aB hn]
theorem aA4 {b r:Int} {j:Nat} (hj:j+1≤6) (hle: ((j+1:Nat):Int)≤b) (h: ¬r<oK b (j+1)):zM b r (6 - j) (j+1)=zM b r (6 - (j+1)) (j+1+1):=by
 by_cases hb: ((j+1:Nat):Int)<b
 · rw[show 6 - j=(6 - (j+1))+1 by omega,aKi hb h]
 · rw[cf hb,cf (by omega)]
theorem aA5 {b r:Int} {j:Nat} (hj:j+1≤6) (hle: ((j+1:Nat):Int)≤b) (h:r<oK b (j+1)):zM b r (6 - j) (j+1)=((j+1:Nat):Int):=by
 by_cases hb: ((j+1:Nat):Int)<b
 · rw[show 6 - j=(6 - (j+1))+1 by omega,aM4 hb h]
 · rw[cf hb];omega
theorem aHe {b n:Int} (hb:1≤b∧b≤6):0≤cc b n∧cc b n<oK b b.toNat:=by
 have h1:=(mX hb (d:=b.toNat) (by omega)).2.2 (by omega)
 have hr:=bx (cK (wrap64 (wrap64 (n*31)+b)))
 exact yV (x:=wrap64 (Int.tdiv (cK (cK (wrap64 (wrap64 (n*31)+b)))) 16)) (by rw[aF (by have:=yW hr.1 (n:=16) (by omega);omega)];exact(yW hr.1 (by omega)).1) (by omega)
set_option linter.unusedVariables false
set_option linter.unusedSimpArgs false
theorem uu {u:List Bool} {b:Int} (hb:1≤b∧b≤6) {f:Int} (hf:0≤f∧f<b) (hfree:u.getD f.toNat false=false): ∀(g h:Nat) (a:Int),0≤a∧a<b→((f+b - a) % b).toNat≤g→((f+b - a) % b).toNat≤h→pN u b g a=pN u b h a
 |g,h,a,ha,hg,hh=>by
  cases hu:u.getD a.toNat false with
  |false=>rw[xT hu,xT hu]
  |true=>
   have hne:a≠f:=fun e=>by subst e;rw[hfree] at hu;cases hu
   obtain⟨q1,q2⟩:=aCm hb hf ha hne
   match g,h,hg,hh with
   |0,_,hg,_=>omega
   |_+1,0,_,hh=>omega
   |g+1,h+1,hg,hh=>
    rw[zN hu,zN hu]
    exact uu hb hf hfree g h _ q2 (by omega) (by omega)
theorem aE1 {u:List Bool} {b:Int} (hb:1≤b∧b≤6) {f:Int} (hf:0≤f∧f<b) (hfree:u.getD f.toNat false=false) {a:Int} (ha:0≤a∧a<b) (hu:u.getD a.toNat false=true):pN u b 6 a=pN u b 6 (Int.tmod (wrap64 (a+1)) b):=by
 have h1:=Int.emod_lt_of_pos (f+b - a) (show 0<b by omega)
 have h2:=Int.emod_nonneg (f+b - a) (show b≠0 by omega)
 rw[uu hb hf hfree 6 7 a ha (by omega) (by omega),zN hu]
def hD (u:List Bool) (i:Nat):List Int:=((aV7 i).filter fun i=>u.getD i false).map fun(i:Nat)=>((i:Nat):Int)
theorem zO {u:List Bool} {i:Nat} (h:u.getD i false=true):hD u (i+1)=hD u i++[(i:Int)]:=by
 unfold hD
 rw[List.range_succ,List.filter_append,List.map_append,List.filter_cons_of_pos (by exact h)]
 rfl
theorem xU {u:List Bool} {i:Nat} (h:u.getD i false=false):hD u (i+1)=hD u i:=by
 unfold hD
 rw[List.range_succ,List.filter_append,List.map_append,List.filter_cons_of_neg (by rw[h];exact Bool.false_ne_true)]
 exact List.append_nil _
theorem gv {u:List Bool}:hD u u.length=aTq u:=rfl
theorem pj {u:List Bool} {i:Nat} (h: ∀j,i≤j→u.getD j false=false): ∀{m:Nat},i≤m→hD u m=hD u i
 |0,hm=>by rw[Nat.le_zero.1 hm]
 |m+1,hm=>by
  by_cases e:i=m+1
  · rw[e]
  · rw[xU (h m (by omega)),pj h (by omega)]
theorem sD (u:List Bool) (i:Nat): (hD u i).length≤i:=by
 unfold hD
 rw[List.length_map]
 exact Nat.le_trans (List.length_filter_le _ _) (by simp)
theorem aHf {u:List Bool} {i:Nat} {x:Int} (h:x∈hD u i):0≤x∧u.getD x.toNat false=true:=by
 unfold hD at h
 obtain⟨j,hj,rfl⟩:=aV5.1 h
 have:=(List.mem_filter.1 hj).2
 exact⟨by omega,by rw[aVr];exact this⟩
theorem zP {b n:Int} (h: ¬oC b n=true):cB b n=[]:=aB h
theorem wA {b n:Int} (h:oC b n=true) (hn:n<b):cB b n=[n]:=by rw[cB,aC h,aC hn]
theorem dz {b n:Int} (h:oC b n=true) (hn: ¬n<b):cB b n=aTq (rR b n):=by rw[cB,aC h,aB hn]
theorem na {b:Int} (hb:1≤b∧b≤6): ∀(k:Nat) (x:Int) (u:List Bool),UOk b u→((u.count true:Int)+k≤b)→UOk b (um b k x u)
 |0,x,u,h,_=>h
 |k+1,x,u,h,hc=>by
  obtain⟨h1,h2⟩:=uq (x:=x) hb h (by omega)
  exact na hb k (cK x) _ h1 (by rw[h2];omega)
theorem sU {b n:Int}: ∀x∈cB b n,0≤x∧x<b:=by
 intro x hx
 by_cases h:oC b n=true
 · obtain⟨hb,hn⟩:=rN h
   by_cases hs:n<b
   · rw[wA h hs] at hx
     simp at hx;omega
   · rw[dz h hs] at hx
     have hu:UOk b (rR b n):=na hb _ _ _ (sT b).1 (by rw[(sT b).2];have:=oT h;omega)
     obtain⟨q1,q2⟩:=aHf (i:=(rR b n).length) hx
     refine⟨q1,?_⟩
     by_cases hlt:x<b
     · exact hlt
     · rw[hu.2 x.toNat (by omega)] at q2;cases q2
 · rw[zP h] at hx;cases hx
theorem kc (b n:Int): (cB b n).length≤6:=by
 by_cases h:oC b n=true
 · obtain⟨hb,hn⟩:=rN h
   by_cases hs:n<b
   · rw[wA h hs];simp
   · rw[dz h hs]
     have hu:UOk b (rR b n):=na hb _ _ _ (sT b).1 (by rw[(sT b).2];have:=oT h;omega)
     rw[← gv]
     have:=sD (rR b n) (rR b n).length
     have:=hu.1;omega
 · rw[zP h];simp
set_option linter.unusedVariables false
set_option linter.unusedSimpArgs false
def vF (a b:List UInt8) (k:Nat):List UInt8:=(aV7 k).map fun i=>u8 (il (pL a i) (pL b i))
theorem uv (a b:List UInt8) (k:Nat):vF a b (k+1)=vF a b k++[u8 (il (pL a k) (pL b k))]:=by
 unfold vF;rw[List.range_succ,List.map_append];rfl
theorem lJ (a b:List UInt8) (k:Nat): (vF a b k).length=k:=by simp[vF]
theorem aE2 (a b:List UInt8): (aEz a b).length=4:=by simp[aEz]
theorem getD_none {α:Type} {l:List α} {i:Nat} {z:α} (h:l.length≤i):l.getD i z=z:=by
 rw[aVy,List.getElem?_eq_none h];rfl
theorem aPw {a c:List UInt8} {i:Nat} (h:i<a.length): (vF a c i++a.drop i).getD i 0=a.getD i 0:=by
 rw[aVy,List.getElem?_append_right (by rw[lJ];omega),lJ,List.getElem?_drop,show i+(i - i)=i by omega,aVy]
theorem aPx {a c:List UInt8} {i:Nat} (h:i<a.length): (dW (vF a c i++a.drop i)).set i (cT [D.u ((a.getD i 0).toNat:Int)] 0 [D.u (il (toU (([D.u ((a.getD i 0).toNat:Int)]:List D).getD 0 (.i 0))) ((c.getD i 0).toNat:Int))])=dW (vF a c (i+1)++a.drop (i+1)):=by
 show(dW (vF a c i++a.drop i)).set i [D.u (il ((a.getD i 0).toNat:Int) ((c.getD i 0).toNat:Int))]=_
 have hx: ([D.u (il ((a.getD i 0).toNat:Int) ((c.getD i 0).toNat:Int))]:List D)=[D.u ((u8 (il (pL a i) (pL c i))).toNat:Int)]:=by
  rw[tf,← gl];rfl
 rw[hx,dW,← List.map_set (f:=fun b:UInt8=>[D.u (b.toNat:Int)])]
 congr 1
 rw[uv,List.append_assoc]
 apply List.ext_getElem?
 intro j
 have hlen: (vF a c i).length=i:=lJ a c i
 by_cases h1:j<i
 · rw[List.getElem?_set_ne (by omega),List.getElem?_append_left (by omega),List.getElem?_append_left (by omega)]
 · by_cases h2:j=i
   · subst h2
     rw[List.getElem?_set_self (by rw[aVt,hlen,aV4];omega),List.getElem?_append_right (by omega),hlen,Nat.sub_self];rfl
   · rw[List.getElem?_set_ne (by omega),List.getElem?_append_right (by omega),List.getElem?_append_right (by omega),hlen,List.getElem?_append_right (by simp;omega),List.getElem?_drop,List.getElem?_drop]
     congr 1
     simp;omega
set_option linter.unusedVariables false
set_option linter.unusedSimpArgs false
deriving instance DecidableEq for bH
theorem aKj {k:aX} {r:List UInt8} (h: (bX k r).2=true):cP (bX k r).1=true:=by
 unfold bX at h ⊢
 split at h
 · rename_i hk
   rw[aC hk]
   unfold mG at h ⊢
   split at h
   · rename_i hx
     rw[aC hx]
     simp only[aVu] at hx
     exact hx.2
   · cases h
 · cases h
theorem aA6: ∀{rs:List (List UInt8)} {k:aX},cP k=true→(fR k rs).2=true→cP (fR k rs).1=true
 | [],k,hk,h=>hk
 |r::rs,k,hk,h=>by
  unfold fR at h ⊢
  split at h
  · rename_i hd
    rw[aC hd]
    exact aA6 (aKj hd) h
  · cases h
theorem aCy {id:Int} (h:dY id=true):cP (bY id)=true:=by
 simp[cP,bY,h,gT,iZ,nJ]
theorem aKk {id:Int} {rs:List (List UInt8)} (h: (cQ id rs).2=true):cP (cQ id rs).1=true:=by
 unfold cQ at h ⊢
 split at h
 · rename_i hn
   rw[aC hn]
   exact aA6 (aCy hn) h
 · cases h
theorem qQ {k:aT} (h:bL k=true):cP (bM k).1=true:=by
 unfold bL at h
 simp only[aVu] at h
 exact aKk h.1.1.2
theorem oL {k:aT} (h:bL k=true):bV k=(bM k).1:=aC h
theorem aCz {k:aT} (h: ¬bL k=true):bV k= .zero:=aB h
theorem xV {k:aT} (h:bL k=true) {f n:Int} (hp:0≤aW (bM k).1.held f n): ∃j:Nat,aW (bM k).1.held f n=j∧j< (bM k).1.held.length∧((bM k).1.held.getD j .zero).text.length≤140737488355328:=by
 obtain⟨j,hj⟩:=Int.eq_ofNat_of_zero_le hp
 have hlt:=(eT (bM k).1.held f n).2
 refine⟨j,hj,by omega,?_⟩
 have h6:=eR (qQ h)
 exact h6.2.1 _ (cM (z:=bA.zero) (l:=(bM k).1.held) (i:=j) (by omega))
set_option linter.unusedVariables false
set_option linter.unusedSimpArgs false
structure uB where
 frm:Int
 to:Int
 data:List UInt8
 done:Bool
 deriving DecidableEq
def uB.row (p:uB):List D:=[.i p.frm,.i p.to,.s p.data,.b p.done]
abbrev uB.V (p:uB):V:= .e (.agg [.d (.i p.frm),.d (.i p.to),.d (.s p.data),.d (.b p.done)])
def uB.zero:uB:=⟨0,0,[],false⟩
def uw (l:List uB):List (List D):=l.map uB.row
def ux (l:List aT):List (List D):=l.map aT.row
structure nb where
 time:Int
 keepers:List aT
 links:List Bool
 radio:List uB
 sent:List bA
 got:List bA
 deriving DecidableEq
def nb.row (r:nb):List D:=[.i r.time,.sl (ux r.keepers),.sl (gM r.links),.sl (uw r.radio),.sl (aH r.sent),.sl (aH r.got)]
abbrev nb.V (r:nb):V:= .e (.agg [.d (.i r.time),.d (.sl (ux r.keepers)),.d (.sl (gM r.links)),.d (.sl (uw r.radio)),.d (.sl (aH r.sent)),.d (.sl (aH r.got))])
def nb.zero:nb:=⟨0,[],[],[],[],[]⟩
theorem aPy (n m:Nat) {j:Int} (e:j=m): ((n:Int) != j)= !(n==m):=by
 subst e
 by_cases h:n=m
 · subst h;simp
 · have h2: ¬(n:Int)=m:=by omega
   rw[beq_eq_false_iff_ne.2 h,bne,beq_eq_false_iff_ne.2 h2]
set_option linter.unusedVariables false
set_option linter.unusedSimpArgs false
theorem ke {l:List UInt8} {f:Int} {rec:List UInt8} (h: ¬dN l f=true):bR l f rec=(([],0),false):=aB h
theorem wB {l:List UInt8} {f:Int} {rec:List UInt8} (h:dN l f=true) (h2: ¬(iK rec=true∧l.length+(dC rec).length≤2400)):bR l f rec=((l,f),false):=by
 unfold bR
 rw[aC h,aB (by simpa using h2)]
theorem qR {l:List UInt8} {f:Int} {rec:List UInt8} (h:dN l f=true) (h2:iK rec=true∧l.length+(dC rec).length≤2400):bR l f rec=((l++dC rec,f),true):=by
 unfold bR
 rw[aC h,aC (by simpa using h2)]
theorem ez {l:List UInt8} {f:Int} {recs:List (List UInt8)} (h: ¬dN l f=true):eL l f recs=(([],0),false):=aB h
theorem uC {l:List UInt8} {f:Int} {recs:List (List UInt8)} (h:dN l f=true) (h2: ¬(recs.all iK=true∧(cO recs).length≤2400)):eL l f recs=((l,f),false):=by
 unfold eL
 rw[aC h,aB (by simpa using h2)]
theorem wT {l:List UInt8} {f:Int} {recs:List (List UInt8)} (h:dN l f=true) (h2:recs.all iK=true∧(cO recs).length≤2400):eL l f recs=((cO recs,((cO recs).length:Int)),true):=by
 unfold eL
 rw[aC h,aC (by simpa using h2)]
theorem kf {recs:List (List UInt8)} {i:Nat} (h:i<recs.length):cO (recs.take (i+1))=cO (recs.take i)++dC (recs.getD i []):=by
 rw[dH (z:=[]) h,aCx]
theorem uy (recs:List (List UInt8)) (i:Nat): (cO (recs.take i)).length≤(cO recs).length:=by
 conv=>rhs;rw[← List.take_append_drop i recs]
 unfold cO
 rw[List.map_append,List.flatten_append,aVt]
 omega
theorem wU: ∀{recs:List (List UInt8)},(∀r∈recs,r.length≤900000)→(cO recs).length≤recs.length*900008
 | [],_=>by simp[cO]
 |r::recs,h=>by
  have h1:=sS (h r (List.mem_cons_self ..))
  have h2:=wU (recs:=recs) fun x hx=>h x (List.mem_cons_of_mem _ hx)
  have h3:=h r (List.mem_cons_self ..)
  have e:cO (r::recs)=dC r++cO recs:=by simp[cO]
  rw[e,aVt,aVw]
  omega
theorem aE3 {recs:List (List UInt8)} {i:Nat} (h:i<recs.length) (hb:iK (recs.getD i [])=false): ¬recs.all iK=true:=by
 intro h9
 rw[aV8.1 h9 _ (cM h)] at hb
 cases hb
theorem aA7 {recs:List (List UInt8)} (hk: ∀j,j<recs.length→iK (recs.getD j [])=true):recs.all iK=true:=by
 rw[aV8]
 intro x hx
 obtain⟨i,hi⟩:=List.mem_iff_getElem?.1 hx
 have hlt:=(aV2.1 hi).1
 have:=hk i hlt
 rw[aVy,hi] at this
 exact this
theorem kh {a:Bool} {n m:Nat} {c:Bool} (h: (!a||decide (wrap64 ((n:Int)+(m:Int))>2400))=c) (hn:n≤2400) (hm:m≤1000000): (a=true∧n+m≤2400)↔c=false:=by
 subst h
 rw[aF (by omega)]
 cases a
 · simp
 · simp;omega
theorem aM6 {a:Bool} {n:Nat} (h: (!a||decide ((n:Int)>2400))=false):a=true∧n≤2400:=by
 cases a
 · cases h
 · exact⟨rfl,by have h9:=of_decide_eq_false (show decide ((n:Int)>2400)=false from h);omega⟩
theorem aKl {a:Bool} {n:Nat} (h: (!a||decide ((n:Int)>2400))=true):a=false∨2400<n:=by
 cases a
 · exact .inl rfl
 · exact .inr (by have h9:=of_decide_eq_true (show decide ((n:Int)>2400)=true from h);omega)
set_option linter.unusedVariables false
set_option linter.unusedSimpArgs false
def vG (k:aX):List (List UInt8):=if 0<k.time then [nQ k.time.toNat] else []
def xW (k:aX):List (List UInt8):=vG k++(if 1<k.next then [oU k.next.toNat] else [])
def nY (k:aX) (i:Nat):List (List UInt8):=xW k++(k.marks.take i).map (jE gK)
def pO (k:aX) (i:Nat):List (List UInt8):=nY k k.marks.length++(k.held.take i).map (cY fY)
def nZ (k:aX) (i:Nat):List (List UInt8):=pO k k.held.length++(k.inbox.take i).map (cY eW)
theorem aA8 {k:aX} (h:k.time>0):vG k=[nQ k.time.toNat]:=aC h
theorem aE4 {k:aX} (h: ¬k.time>0):vG k=[]:=aB h
theorem aA9 {k:aX} (h:k.next>1):xW k=vG k++[oU k.next.toNat]:=by rw[xW,aC h]
theorem aE5 {k:aX} (h: ¬k.next>1):xW k=vG k:=by rw[xW,aB h,List.append_nil]
theorem uz (k:aX):nY k 0=xW k:=by simp[nY]
theorem vb (k:aX):pO k 0=nY k k.marks.length:=by simp[pO]
theorem vd (k:aX):nZ k 0=pO k k.held.length:=by simp[nZ]
theorem ve {k:aX} {i:Nat} (h:i<k.marks.length):nY k (i+1)=nY k i++[jE gK (k.marks.getD i .zero)]:=by
 unfold nY
 rw[dH (z:=bU.zero) h,List.map_append,← List.append_assoc];rfl
theorem vf {k:aX} {i:Nat} (h:i<k.held.length):pO k (i+1)=pO k i++[cY fY (k.held.getD i .zero)]:=by
 unfold pO
 rw[dH (z:=bA.zero) h,List.map_append,← List.append_assoc];rfl
theorem vg {k:aX} {i:Nat} (h:i<k.inbox.length):nZ k (i+1)=nZ k i++[cY eW (k.inbox.getD i .zero)]:=by
 unfold nZ
 rw[dH (z:=bA.zero) h,List.map_append,← List.append_assoc];rfl
theorem aBa (k:aX):nZ k k.inbox.length=gu k:=by
 unfold nZ pO nY xW vG gu
 rw[aV3,aV3,aV3]
theorem vh (k:aX): (xW k).length≤2:=by
 unfold xW vG
 split<;>split<;>simp
theorem vi (k:aX) (i:Nat): (nY k i).length≤2+k.marks.length:=by
 have:=vh k
 unfold nY
 rw[aVt,List.length_map,aV0];omega
theorem vj (k:aX) (i:Nat): (pO k i).length≤2+k.marks.length+k.held.length:=by
 have:=vi k k.marks.length
 unfold pO
 rw[aVt,List.length_map,aV0];omega
theorem ki (k:aX) (i:Nat): (nZ k i).length≤2+k.marks.length+k.held.length+k.inbox.length:=by
 have:=vj k k.held.length
 unfold nZ
 rw[aVt,List.length_map,aV0];omega
theorem zQ {k:aX} (h:cP k=true):eA k=nZ k k.inbox.length:=by rw[aBa];exact aC h
theorem cg {k:aX} (h: ¬cP k=true):eA k=[]:=aB h
theorem vk {k:aX} (hk:cP k=true) {i:Nat} (h:i<k.marks.length): (0≤(k.marks.getD i .zero).frm∧(k.marks.getD i .zero).frm≤3)∧(1≤(k.marks.getD i .zero).num∧(k.marks.getD i .zero).num≤99)∧(1≤(k.marks.getD i .zero).til∧(k.marks.getD i .zero).til≤999):=by
 obtain⟨_,⟨_,h5,_⟩,_⟩:=(cG k).1 hk
 exact qN (vY h5 (cM h))
theorem pG (n:bA): (fN n).length≤60:=by
 by_cases h:dZ n=true
 · obtain⟨p1,p2,p3,p4,p5⟩:=nM h
   have q1:=bP (k:=3) (n:=n.frm.toNat) (by simp;omega)
   have q2:=bP (k:=3) (n:=n.num.toNat) (by simp;omega)
   have q3:=bP (k:=3) (n:=n.to.toNat) (by simp;omega)
   have q4:=bP (k:=3) (n:=n.til.toNat) (by simp;omega)
   rw[fN,aC h]
   simp only[jS,aVt,aVw,aVx];omega
 · rw[fN,aB h];simp
theorem pn {w:List UInt8} {m:bU} (h: (0≤m.frm∧m.frm≤1000000)∧(0≤m.num∧m.num≤1000000)∧(0≤m.til∧m.til≤1000000)): (jE w m).length≤w.length+30:=by
 have q1:=bP (k:=6) (n:=m.frm.toNat) (by simp;omega)
 have q2:=bP (k:=6) (n:=m.num.toNat) (by simp;omega)
 have q3:=bP (k:=6) (n:=m.til.toNat) (by simp;omega)
 unfold jE
 simp only[aVt,aVw,aVx];omega
theorem wC (w:List UInt8) (n:bA): (cY w n).length≤w.length+61:=by
 have:=pG n
 unfold cY
 simp only[aVt,aVw,aVx];omega
theorem po {n:Nat} (h:n≤1000000): (nQ n).length≤12:=by
 have:=bP (k:=6) (n:=n) (by simp;omega)
 unfold nQ iP
 simp only[aVt,aVw,aVx];omega
theorem pq {n:Nat} (h:n≤1000000): (oU n).length≤12:=by
 have:=bP (k:=6) (n:=n) (by simp;omega)
 unfold oU iQ
 simp only[aVt,aVw,aVx];omega
theorem qS {k:aX}: (eA k).length≤26∧ ∀r∈eA k,r.length≤100:=by
 by_cases hk:cP k=true
 · obtain⟨⟨_,ht,hn,h1,h2,h3⟩,⟨h4,h5,h6⟩,_⟩:=(cG k).1 hk
   rw[zQ hk]
   refine⟨by have:=ki k k.inbox.length;omega,fun r hr=> ?_⟩
   rw[aBa] at hr
   unfold gu at hr
   simp only[List.mem_append,aV5] at hr
   rcases hr with(((hr|hr)|⟨m,hm,rfl⟩)|⟨m,hm,rfl⟩)|⟨m,hm,rfl⟩
   · split at hr
     · rw[aWa.1 hr];have:=po (n:=k.time.toNat) (by omega);omega
     · cases hr
   · split at hr
     · rw[aWa.1 hr];have:=pq (n:=k.next.toNat) (by omega);omega
     · cases hr
   · obtain⟨q1,q2,q3⟩:=qN (vY h5 hm)
     have:=pn (w:=gK) (m:=m) (by omega)
     have e:gK.length=4:=rfl
     omega
   · have:=wC fY m
     have e:fY.length=4:=rfl
     omega
   · have:=wC eW m
     have e:eW.length=5:=rfl
     omega
 · rw[cg hk];exact⟨by simp,fun r hr=>by cases hr⟩
set_option linter.unusedVariables false
set_option linter.unusedSimpArgs false
def cV (k:aT): (List UInt8×Int)×Bool:=eL k.log k.forced (eA (bM k).1)
theorem ro {k:aT} {rec:List UInt8} (h1: ¬(bX (bM k).1 rec).2=true):gS k rec=(k,false):=by
 unfold gS;rw[aB h1]
theorem lX {k:aT} {rec:List UInt8} (h1: (bX (bM k).1 rec).2=true) (h2: (bR k.log k.forced rec).2=true):gS k rec=(jF k (bR k.log k.forced rec).1,true):=by
 unfold gS;rw[aC h1,aC h2]
theorem ci {k:aT} {rec:List UInt8} (h1: (bX (bM k).1 rec).2=true) (h2: ¬(bR k.log k.forced rec).2=true) (h3: ¬(cV k).2=true):gS k rec=(k,false):=by
 unfold gS
 rw[aC h1,aB h2]
 show(if(cV k).2=true then(if(bR (cV k).1.1 (cV k).1.2 rec).2=true then(jF k (bR (cV k).1.1 (cV k).1.2 rec).1,true) else(k,false)) else(k,false))=_
 rw[aB h3]
theorem xX {k:aT} {rec:List UInt8} (h1: (bX (bM k).1 rec).2=true) (h2: ¬(bR k.log k.forced rec).2=true) (h3: (cV k).2=true) (h4: ¬(bR (cV k).1.1 (cV k).1.2 rec).2=true):gS k rec=(k,false):=by
 unfold gS
 rw[aC h1,aB h2]
 show(if(cV k).2=true then(if(bR (cV k).1.1 (cV k).1.2 rec).2=true then(jF k (bR (cV k).1.1 (cV k).1.2 rec).1,true) else(k,false)) else(k,false))=_
 rw[aC h3,aB h4]
theorem xY {k:aT} {rec:List UInt8} (h1: (bX (bM k).1 rec).2=true) (h2: ¬(bR k.log k.forced rec).2=true) (h3: (cV k).2=true) (h4: (bR (cV k).1.1 (cV k).1.2 rec).2=true):gS k rec=(jF k (bR (cV k).1.1 (cV k).1.2 rec).1,true):=by
 unfold gS
 rw[aC h1,aB h2]
 show(if(cV k).2=true then(if(bR (cV k).1.1 (cV k).1.2 rec).2=true then(jF k (bR (cV k).1.1 (cV k).1.2 rec).1,true) else(k,false)) else(k,false))=_
 rw[aC h3,aC h4]
theorem aKm {k:aT} (hs:dN k.log k.forced=true) (h: ¬(cV k).2=true): (cV k).1=(k.log,k.forced):=by
 unfold cV eL at h ⊢
 rw[aC hs] at h ⊢
 split at h
 · exact absurd rfl h
 · rename_i h9
   rw[aB h9]
theorem zR {k:aT} (hl:k.log.length≤140737488355328): (cV k).1.1.length≤140737488355328:=by
 unfold cV eL
 split
 · split
   · rename_i h9
     simp only[aVu,aD] at h9
     show(cO _).length≤_
     omega
   · exact hl
 · simp
theorem vl {k:aT} {rec:List UInt8} (hs:dN k.log k.forced=true) (h1: (bX (bM k).1 rec).2=true) (h2: ¬(bR k.log k.forced rec).2=true) (h4: ¬(bR (cV k).1.1 (cV k).1.2 rec).2=true):gS k rec=(k,false):=by
 by_cases h3: (cV k).2=true
 · exact xX h1 h2 h3 h4
 · exact ci h1 h2 h3
theorem mY {k:aT} {rec:List UInt8} (hs:dN k.log k.forced=true) (h1: (bX (bM k).1 rec).2=true) (h2: ¬(bR k.log k.forced rec).2=true) (h4: (bR (cV k).1.1 (cV k).1.2 rec).2=true):gS k rec=(jF k (bR (cV k).1.1 (cV k).1.2 rec).1,true):=by
 by_cases h3: (cV k).2=true
 · exact xY h1 h2 h3 h4
 · rw[aKm hs h3] at h4
   exact absurd h4 h2
def eI (k:aT) (rec:List UInt8) (fc:Bool):aT×Bool:=if(gS k rec).2 then(if fc then jT (gS k rec).1 else(gS k rec).1,true) else(k,false)
theorem nR {l:List UInt8} {f:Int} {rec:List UInt8} (hl:l.length≤140737488355328): (bR l f rec).1.1.length≤140737488355328:=by
 unfold bR
 split
 · split
   · rename_i h9
     simp only[aVu,aD] at h9
     show(l++dC rec).length≤_
     rw[aVt];omega
   · exact hl
 · simp
theorem kj {k:aT} {rec:List UInt8} (hl:k.log.length≤140737488355328): (gS k rec).1.log.length≤140737488355328∧(gS k rec).1.halves=k.halves:=by
 unfold gS
 split
 · split
   · exact⟨nR hl,rfl⟩
   · split
     · split
       · exact⟨nR (zR hl),rfl⟩
       · exact⟨hl,rfl⟩
     · exact⟨hl,rfl⟩
 · exact⟨hl,rfl⟩
theorem vH {k:aT} (h:bL k=true):KB (bM k).1:=(eR (qQ h)).seven.big
theorem iS {a:Bool} (h: (!a)=false):a=true:=by simpa using h
theorem pP {a:Bool} (h: (!a)=true): ¬a=true:=by simpa using h
set_option linter.unusedVariables false
set_option linter.unusedSimpArgs false
theorem aHg (k:aX) {n:Nat} (hn:n<100000):dL k (nQ n)=kQ k iP n:=by
 have e:nQ n=iP++32::jA n:=by simp[nQ]
 obtain⟨h1,h2,h3⟩:=mW (w:=iP) (r:=jA n) (by decide)
 rw[e,tv h3 (by rw[h1];rfl) (by rw[h2,lU hn];rfl),h1,h2,rQ (lU hn)]
theorem aC0 {k:aX} (hk:cP k=true) (rec:List UInt8):bX k rec=mG k (dL k rec):=aC hk
set_option linter.unusedVariables false
set_option linter.unusedSimpArgs false
def oV (b:Int) (m:cU):Bool:=oC b m.num&&decide (m.data.length=4)
def unk (kn:List (List UInt8)) (j:Int):Bool:=(kn.getD j.toNat []).isEmpty
def fL (kn:List (List UInt8)) (ks:List Int):List Int:=ks.filter (unk kn)
def mN (kn:List (List UInt8)):List UInt8→List Int→List UInt8
 |x,[]=>x
 |x,j::js=>mN kn (if unk kn j then x else aEz x (kn.getD j.toNat [])) js
def fX (b:Int) (kn:List (List UInt8)) (m:cU):List (List UInt8)×Bool:=
 if oV b m&&(fL kn (cB b m.num)).length==1 then(kn.set ((fL kn (cB b m.num)).getD 0 0).toNat (mN kn m.data (cB b m.num)),true) else(kn,false)
def bD (b:Int):List cU→List (List UInt8)×Bool→List (List UInt8)×Bool
 | [],s=>s
 |m::l,s=>bD b l ((fX b s.1 m).1,s.2||(fX b s.1 m).2)
def qT (b:Int) (l:List cU):Nat→List (List UInt8)→List (List UInt8)
 |0,kn=>kn
 |f+1,kn=>if(bD b l (kn,false)).2 then qT b l f (bD b l (kn,false)).1 else(bD b l (kn,false)).1
def bS (b:Int) (l:List cU):List (List UInt8):=if gT b 1 6 then qT b l 7 (aWb b.toNat []) else []
def xZ (b:Int) (kn:List (List UInt8)):Prop:=(kn.length:Int)=b∧ ∀x∈kn,x.length=0∨x.length=4
def sV (kn:List (List UInt8)):Nat:=kn.countP (·.isEmpty)
theorem xZ.at {b:Int} {kn:List (List UInt8)} (h:xZ b kn) {j:Nat} (hj:j<kn.length): (kn.getD j []).length=0∨(kn.getD j []).length=4:=h.2 _ (cM hj)
theorem xZ.start {b:Int} (hb:0≤b):xZ b (aWb b.toNat []):=by
 refine⟨by rw[List.length_replicate];omega,fun x hx=> ?_⟩
 rw[(List.mem_replicate.1 hx).2];exact .inl rfl
theorem uD {kn:List (List UInt8)}: ∀{ks:List Int} {x:List UInt8},x.length=4→(mN kn x ks).length=4
 | [],x,h=>h
 |j::js,x,h=>by
  unfold mN
  refine uD ?_
  split
  · exact h
  · exact aE2 _ _
theorem nc {kn:List (List UInt8)} {ks:List Int} {j:Int} (h:j∈fL kn ks):j∈ks∧unk kn j=true:=by
 unfold fL at h
 exact List.mem_filter.1 h
theorem aE7: ∀{kn:List (List UInt8)} {j:Nat} {x:List UInt8},j<kn.length→(kn.getD j []).isEmpty=true→x.isEmpty=false→sV (kn.set j x)+1=sV kn
 | [],j,x,h,_,_=>by simp at h
 |y::kn,0,x,h,h1,h2=>by
  have h1:y.isEmpty=true:=h1
  simp[sV,List.countP_cons,h1,h2]
 |y::kn,j+1,x,h,h1,h2=>by
  have ih:=aE7 (kn:=kn) (j:=j) (x:=x) (by simpa using h) (by simpa using h1) h2
  simp only[sV,List.set_cons_succ,List.countP_cons] at ih ⊢
  omega
theorem aHh {b:Int} {kn:List (List UInt8)} {m:cU} (h:xZ b kn):xZ b (fX b kn m).1∧((fX b kn m).2=true→sV (fX b kn m).1+1=sV kn)∧((fX b kn m).2=false→(fX b kn m).1=kn):=by
 unfold fX
 split
 · rename_i hc
   simp only[aVu,beq_iff_eq,oV,aD] at hc
   obtain⟨⟨h1,h4⟩,hl⟩:=hc
   have hm: (fL kn (cB b m.num)).getD 0 0∈fL kn (cB b m.num):=cM (by omega)
   obtain⟨q1,q2⟩:=nc hm
   have hr:=sU _ q1
   have hx:=uD (kn:=kn) (ks:=cB b m.num) h4
   have hlt: ((fL kn (cB b m.num)).getD 0 0).toNat<kn.length:=by have:=h.1;omega
   refine⟨⟨by rw[aV9];exact h.1,fun x hx'=> ?_⟩,fun _=> ?_,fun h9=>by cases h9⟩
   · rcases List.mem_or_eq_of_mem_set hx' with h9|h9
     · exact h.2 x h9
     · rw[h9];exact .inr hx
   · refine aE7 hlt q2 ?_
     cases hq:mN kn m.data (cB b m.num) with
     |nil=>rw[hq] at hx;cases hx
     |cons _ _=>rfl
 · exact⟨h,fun h9=>(by cases h9),fun _=>rfl⟩
theorem mZ {b:Int}: ∀{l:List cU} {s:List (List UInt8)×Bool},xZ b s.1→xZ b (bD b l s).1∧sV (bD b l s).1≤sV s.1∧(s.2=false→(bD b l s).2=true→sV (bD b l s).1<sV s.1)∧(s.2=true→(bD b l s).2=true)
 | [],s,h=>⟨h,aVz _,fun h1 h2=>(by
  have h2:s.2=true:=h2
  rw[h1] at h2;cases h2),fun h1=>h1⟩
 |m::l,s,h=>by
  obtain⟨p1,p2,p3⟩:=aHh (m:=m) h
  obtain⟨r1,r2,r3,r4⟩:=mZ (l:=l) (s:=((fX b s.1 m).1,s.2||(fX b s.1 m).2)) p1
  unfold bD
  cases hd: (fX b s.1 m).2 with
  |true=>
   have:=p2 hd
   rw[hd] at r1 r2 r3 r4
   have r2:sV (bD b l ((fX b s.1 m).1,s.2||true)).1≤sV (fX b s.1 m).1:=r2
   exact⟨r1,by omega,fun _ _=>by omega,fun h1=>r4 (by simp)⟩
  |false=>
   have e:=p3 hd
   rw[hd] at r1 r2 r3 r4
   refine⟨r1,by rw[e] at r2 ⊢; exact r2,fun h1 h2=> ?_,fun h1=>r4 (by simp[h1])⟩
   have:=r3 (by simp[h1]) h2
   simp only[e] at this ⊢
   exact this
set_option linter.unusedVariables false
set_option linter.unusedSimpArgs false
theorem cj {kn:List (List UInt8)} {ks:List Int} {j:Int} (h:unk kn j=true):fL kn (ks++[j])=fL kn ks++[j]:=by
 unfold fL;rw[List.filter_append,List.filter_cons_of_pos h];rfl
theorem fa {kn:List (List UInt8)} {ks:List Int} {j:Int} (h:unk kn j=false):fL kn (ks++[j])=fL kn ks:=by
 unfold fL;rw[List.filter_append,List.filter_cons_of_neg (by rw[h];exact Bool.false_ne_true)];exact List.append_nil _
theorem gw {kn:List (List UInt8)}: ∀{ks:List Int} {x:List UInt8} {j:Int},mN kn x (ks++[j])=if unk kn j then mN kn x ks else aEz (mN kn x ks) (kn.getD j.toNat [])
 | [],x,j=>by
  show(if unk kn j then x else aEz x (kn.getD j.toNat []))=_
  rfl
 |k::ks,x,j=>gw (ks:=ks)
theorem aBb {kn:List (List UInt8)} {ks:List Int} {x:List UInt8} {j:Int} (h:unk kn j=true):mN kn x (ks++[j])=mN kn x ks:=by rw[gw,aC h]
theorem aE8 {kn:List (List UInt8)} {ks:List Int} {x:List UInt8} {j:Int} (h:unk kn j=false):mN kn x (ks++[j])=aEz (mN kn x ks) (kn.getD j.toNat []):=by rw[gw,aB (by rw[h];exact Bool.false_ne_true)]
theorem aM7 {l:List Int} (h:l.length=1):l.getLastD (-1)=l.getD 0 0:=by
 match l,h with
 | [x],_=>rfl
theorem aBc {l:List Int} {j:Int}: (l++[j]).getLastD (-1)=j:=by
 rw[List.getLastD_eq_getLast?,List.getLast?_append];rfl
theorem zS {b:Int} {m:cU}: ∀{l:List cU} {s:List (List UInt8)×Bool},bD b (l++[m]) s=((fX b (bD b l s).1 m).1,(bD b l s).2||(fX b (bD b l s).1 m).2)
 | [],s=>rfl
 |k::l,s=>zS (l:=l)
theorem pr {b:Int} {l:List cU}: ∀(f g:Nat) {kn:List (List UInt8)},xZ b kn→sV kn<f→sV kn<g→qT b l f kn=qT b l g kn
 |0,_,kn,_,h,_=>absurd h (by omega)
 |_+1,0,kn,_,_,h=>absurd h (by omega)
 |f+1,g+1,kn,hk,hf,hg=>by
  obtain⟨r1,r2,r3,_⟩:=mZ (l:=l) (s:=(kn,false)) hk
  unfold qT
  split
  · rename_i hd
    have hlt:=r3 rfl hd
    have hlt:sV (bD b l (kn,false)).1<sV kn:=hlt
    exact pr f g r1 (by omega) (by omega)
  · rfl
theorem aPz (kn:List (List UInt8)):sV kn≤kn.length:=List.countP_le_length
theorem aIv {b:Int} (hb:b≤6) {l:List cU} {kn:List (List UInt8)} (hk:xZ b kn) (hd: (bD b l (kn,false)).2=true):qT b l 7 kn=qT b l 7 (bD b l (kn,false)).1∧sV (bD b l (kn,false)).1<sV kn∧xZ b (bD b l (kn,false)).1:=by
 obtain⟨r1,r2,r3,_⟩:=mZ (l:=l) (s:=(kn,false)) hk
 have hlt:sV (bD b l (kn,false)).1<sV kn:=r3 rfl hd
 have h6:sV kn≤6:=by have:=aPz kn;have:=hk.1;omega
 refine⟨?_,hlt,r1⟩
 rw[pr 7 8 hk (by omega) (by omega)]
 show(if(bD b l (kn,false)).2 then qT b l 7 (bD b l (kn,false)).1 else(bD b l (kn,false)).1)=_
 rw[aC hd]
theorem aE9 {b:Int} {l:List cU} {kn:List (List UInt8)} (hd: (bD b l (kn,false)).2=false):qT b l 7 kn=(bD b l (kn,false)).1:=by
 show(if(bD b l (kn,false)).2 then qT b l 6 (bD b l (kn,false)).1 else(bD b l (kn,false)).1)=_
 rw[aB (by rw[hd];exact Bool.false_ne_true)]
theorem eb {kn:List (List UInt8)} {j:Nat} {x:List UInt8} (h:j<kn.length): (aY kn).set j (cT ((aY kn).getD j []) 0 [D.s x])=aY (kn.set j x):=by
 rw[eN h]
 show(aY kn).set j [D.s x]=_
 rw[aY,aY,← List.map_set (f:=fun y:List UInt8=>[D.s y])]
theorem aBd {b:Int} {m:cU} {c:Bool} (h: (!(oC b m.num&&decide ((m.data.length:Int)=4)))=c):oV b m= !c:=by
 subst h
 unfold oV
 rw[Bool.not_not]
 congr 1
 exact decide_eq_decide.2 (by omega)
theorem pu {b:Int} {m:cU} (h:oV b m=true):m.data.length=4:=by
 unfold oV at h
 rw[aVu] at h
 exact of_decide_eq_true h.2
theorem aM8 {n:Nat} (h: ((n:Int)==1)=true):n=1:=by
 have h9: (n:Int)=1:=by simpa using h
 omega
theorem vm {n:Nat} (h: ((n:Int)==1)=false): ¬n=1:=by
 have h9: ¬(n:Int)=1:=by simpa using h
 omega
def jU:List (List UInt8)→List UInt8:=List.flatten
def cF (size:Int) (l:List cU):List UInt8×Bool:=
 if gT size 1 24 then
  (if(bS ((size+3) / 4) l).any (·.isEmpty) then([],false)
   else if((jU (bS ((size+3) / 4) l)).drop size.toNat).any (· != 0) then([],false)
   else((jU (bS ((size+3) / 4) l)).take size.toNat,true))
 else([],false)
theorem vn {b:Int} {l:List cU} (hb:1≤b∧b≤6):xZ b (bS b l):=by
 have key: ∀(f:Nat) {kn:List (List UInt8)},xZ b kn→xZ b (qT b l f kn):=by
  intro f
  induction f with
  |zero=>intro kn h;exact h
  |succ f ih=>
   intro kn h
   have r:=(mZ (l:=l) (s:=(kn,false)) h).1
   unfold qT
   split
   · exact ih r
   · exact r
 unfold bS
 rw[aC (by simp[gT];omega)]
 exact key 7 (xZ.start (by omega))
theorem vo {b:Int} {l:List cU} (h: ¬gT b 1 6=true):bS b l=[]:=aB h
end Go.Ab
