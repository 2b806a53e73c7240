/- Plain functions, and contracts of the functions that the law reaches. -/
import Derived.Laws.StructEq
import Derived.Sort.Grow
import Derived.Deep.Draws
import Derived.Lib.Split
import Derived.Lib.IndexMore
import Derived.Lib.IndexBytes
import Derived.Lib.CountLaws
import Derived.Deep.Slices
import Derived.WideShapes
import GoSem.ClaimJoined
import Derived.Test.YtmabaopgkimfmaaGreatDoorB0
set_option maxHeartbeats 12800000
namespace Go.Ab
open Int renaming toNat_natCast→aNf
open Nat renaming le_of_ble_eq_true→aNg,zero_le→aNj,le_refl→aNp
open List renaming length_append→aNh,length_cons→aNk,length_nil→aNl,getD_eq_getElem?_getD→aNm,length_take→aNn,getElem?_eq_getElem→aNo,getElem?_eq_some_iff→aNq,mem_map→aNr,mem_cons→aNs,all_eq_true→aNt,range→aNu,length_drop→aNv
open Bool renaming and_eq_true→aNi
open Go Go.RowKit
set_option linter.unusedVariables false
set_option linter.unusedSimpArgs false
def gc:D→Int| .i n=>n|_=>0
def toU:D→Int| .u n=>n|_=>0
def toB:D→Bool| .b x=>x|_=>false
def wt:D→List UInt8| .s l=>l|_=>[]
def toSl:D→List (List D)| .sl r=>r|_=>[]
def aLf (z:C) (d:D):D:=match z with
 | .d (.i _)=> .i (gc d)
 | .d (.u _)=> .u (toU d)
 | .d (.b _)=> .b (toB d)
 | .d (.s _)=> .s (wt d)
 | .nil=> .sl (toSl d)
 |_=>d
def zI:List C→List D→Nat→List D
 | [],_,_=>[]
 |z::zs,cs,k=>aLf z (cs.getD k (.i 0))::zI zs cs (k+1)
def cg (ti:TI) (l:List D):Option V:=if ti.kind.agg then some (.e (.agg (l.map C.d))) else match l with|d::_=>some (Dv d)| []=>none
def aAu (T:fT) (σ:St) (t:TypeId):V→Option (Prop×List (cL×Option K)×V)
 | .e (.c (.pe ob n i k))=>match T t,aP σ (.o ob) with
  |some ti,some (.row e es rows)=>match cg ti (zI ti.zero (rows.getD i []) k) with
   |some X=>some ((rows.length=n∧i<n)∧k+ti.size≤(rows.getD i []).length∧((rows.getD i []).drop k).take ti.size=zI ti.zero (rows.getD i []) k,[(.o ob,some (.row e es rows))],X)
   |none=>none
  |_,_=>none
 | .e (.c (.rp cs))=>match T t with
  |some ti=>match cg ti (zI ti.zero cs 0) with
   |some X=>some (ti.size≤cs.length∧cs.take ti.size=zI ti.zero cs 0,[],X)
   |none=>none
  |none=>none
 |X=>bv T σ t X
theorem jd {ti:TI} {l:List D} {X:V} (h:cg ti l=some X): (ti.kind.agg=true∧X= .e (.agg (l.map C.d)))∨(ti.kind.agg=false∧ ∃d r,l=d::r∧X=Dv d):=by
 unfold cg at h
 split at h
 · rename_i ha;cases h;exact .inl ⟨ha,rfl⟩
 · rename_i ha
   split at h
   · cases h;exact .inr ⟨by simpa using ha,_,_,rfl,rfl⟩
   · cases h
theorem aAv {P:Program} {T:fT} (hT:dL P T) {σ:St} {t:TypeId} {X:V} {p:Prop} {R:List (cL×Option K)} {Y:V} (h:aAu T σ t X=some (p,R,Y)) (hp:p): ∃q,bv T σ t X=some (q,R,Y)∧q:=by
 have hd: ∀(l:List D) (k n:Nat) (m:List D) (d:D) (r:List D),0<n→k+n≤l.length→(l.drop k).take n=m→m=d::r→l.getD k (.i 0)=d∧k<l.length:=by
  intro l k n m d r hn hk h1 h2
  subst h1
  cases n with
  |zero=>omega
  |succ n=>
   have hk':k<l.length:=by omega
   rw[List.drop_eq_getElem_cons hk',List.take_succ_cons] at h2
   cases h2
   exact⟨by rw[aNm,aNo hk'];rfl,hk'⟩
 unfold aAu at h
 split at h
 · rename_i ob n i k
   split at h<;>try(cases h;done)
   rename_i ti e es rows ht hl
   split at h<;>try(cases h;done)
   rename_i Z hz
   cases h
   obtain⟨⟨h1,h2⟩,h3,h4⟩:=hp
   simp only[bv,ht,hl]
   rcases jd hz with⟨ha,rfl⟩|⟨ha,d,r,hm,rfl⟩
   · rw[aC ha]
     refine⟨_,by rw[h4],?_⟩;exact⟨h1,h2,h3⟩
   · rw[aB (by simp[ha])]
     obtain⟨q1,q2⟩:=hd _ _ _ _ d r (hT t ti ht).pos h3 h4 hm
     refine⟨_,by rw[q1],?_⟩;exact⟨h1,h2,q2⟩
 · rename_i cs
   split at h<;>try(cases h;done)
   rename_i ti ht
   split at h<;>try(cases h;done)
   rename_i Z hz
   cases h
   obtain⟨h3,h4⟩:=hp
   simp only[bv,ht]
   rcases jd hz with⟨ha,rfl⟩|⟨ha,d,r,hm,rfl⟩
   · rw[aC ha]
     refine⟨_,by rw[h4],?_⟩;exact h3
   · rw[aB (by simp[ha])]
     obtain⟨q1,q2⟩:=hd cs 0 _ _ d r (hT t ti ht).pos (by simpa using h3) (by simpa using h4) hm
     refine⟨_,by rw[q1],?_⟩;exact q2
 · exact⟨p,h,hp⟩
theorem aDg {P:Program} {o:Oper} {σ:St} {x:Operand} {d:Option Tmp} {f g:V→Option (Prop×List (cL×Option K)×V)} (hfg: ∀X p R Y,g X=some (p,R,Y)→p→ ∃q,f X=some (q,R,Y)∧q)
 (h:kE P o σ (iK σ x d f)):kE P o σ (iK σ x d g):=by
 intro p R W hg hp
 unfold iK at hg
 split at hg<;>try(cases hg;done)
 rename_i X Rx d hx
 split at hg<;>try(cases hg;done)
 rename_i p' R' Y hgx
 cases hg
 obtain⟨q,h1,h2⟩:=hfg _ _ _ _ hgx hp
 exact h q _ _ (by simp only[iK,hx,h1]) h2
theorem xV {P:Program} {w:World} {t:TypeId} (hu:P.underlying t=some .bool) (x y:Bool): (Op.equal t (.bool x) (.bool y)).run P w= .ok (x==y) w:=by
 unfold Op.equal
 rw[show Op.maxDepth=(Op.maxDepth - 1)+1 from rfl]
 unfold Op.equalIn
 rw[Sem.run_bind,run_underlying hu];rfl
theorem xW {P:Program} {w:World} {t:TypeId} (hu:P.underlying t=some .bool) (x y:Bool) (ox oy:Operand):
 (do eqGuard .eql t ox oy (.bool x) (.bool y);binOp .eql t (.bool x) (.bool y):Sem Value).run P w= .ok (.bool (x==y)) w∧
 (do eqGuard .neq t ox oy (.bool x) (.bool y);binOp .neq t (.bool x) (.bool y):Sem Value).run P w= .ok (.bool (!(x==y))) w:=by
 constructor
 · rw[Sem.run_bind,uI,Result.andThen_ok]
   show(do pure (.bool (← Op.equal t (.bool x) (.bool y))):Sem Value).run P w=_
   rw[Sem.run_bind,xV hu];rfl
 · rw[Sem.run_bind,uI,Result.andThen_ok]
   show(do pure (.bool (!(← Op.equal t (.bool x) (.bool y)))):Sem Value).run P w=_
   rw[Sem.run_bind,xV hu];rfl
def aFh (T:fT) (t:TypeId) (op:BinOp):V→V→Option (Prop×List (cL×Option K)×V)
 | .e (.c (.d (.b x))),.e (.c (.d (.b y)))=>match T t with
  |some ti=>match ti.kind,op with
   | .bool,.eql=>some (True,[],B (x==y))
   | .bool,.neq=>some (True,[],B (!(x==y)))
   |_,_=>none
  |none=>none
 |X,Y=>aGr op X Y
def aFi (T:fT) (t:TypeId) (op:BinOp):V→V→Option (Prop×List (cL×Option K)×V)
 | .e (.c (.d (.b x))),.e (.c (.d (.b y)))=>match T t with
  |some ti=>match ti.kind,op with
   | .bool,.eql=>some (True,[],B (x==y))
   | .bool,.neq=>some (True,[],B (!(x==y)))
   |_,_=>none
  |none=>none
 |X,Y=>none
theorem aDh {P:Program} {T:fT} (hT:dL P T) {o:Oper} {σ0:St} {op:BinOp} {t u:TypeId} {x y:Operand} (ho:o.op= .binOp op t x y u):kE P o σ0 (oV σ0 x y o.dst (aFi T t op)):=by
 refine oX fun X Y p R Z h hp=> ?_
 unfold aFi at h
 split at h
 · rename_i a b
   split at h<;>try(cases h;done)
   rename_i ti ht
   have hk: (ti.kind= .bool∧op= .eql∧R=[]∧Z=B (a==b))∨(ti.kind= .bool∧op= .neq∧R=[]∧Z=B (!(a==b))):=by
    split at h
    · rename_i hk;cases h;exact .inl ⟨hk,rfl,rfl,rfl⟩
    · rename_i hk;cases h;exact .inr ⟨hk,rfl,rfl,rfl⟩
    · cases h
   have hu:=(hT t ti ht).kind
   have hkk:ti.kind= .bool:=by rcases hk with h|h<;>exact h.1
   rw[hkk] at hu;simp only[lW] at hu
   rcases hk with⟨_,rfl,rfl,rfl⟩|⟨_,rfl,rfl,rfl⟩
   all_goals
    refine⟨bX.nil,fun cx σ ι S ac w _ _ hx hy=> ?_⟩
    simp only[kZ,ER,CR] at hx hy
    cases hv:ac.eval x<;>rw[hv] at hx<;>cases hx
    cases hv2:ac.eval y<;>rw[hv2] at hy<;>cases hy
   · refine⟨_,?_,.b _⟩
     have:=(xW (w:=w) hu a b x y).1
     unfold execOp;simp only[ho,hv,hv2];rw[Sem.run_bind,this];rfl
   · refine⟨_,?_,.b _⟩
     have:=(xW (w:=w) hu a b x y).2
     unfold execOp;simp only[ho,hv,hv2];rw[Sem.run_bind,this];rfl
 · cases h
theorem aDi {P:Program} {T:fT} (hT:dL P T) {o:Oper} {σ0:St} {op:BinOp} {t u:TypeId} {x y:Operand} (ho:o.op= .binOp op t x y u):kE P o σ0 (oV σ0 x y o.dst (aFh T t op)):=by
 intro p R W h hp
 unfold oV at h
 split at h<;>try(cases h;done)
 rename_i X Rx Y Ry d hd hx hy
 split at h<;>try(cases h;done)
 rename_i p' R' Z hf
 cases h
 unfold aFh at hf
 split at hf
 · exact aDh (P:=P) (σ0:=σ0) hT ho p _ _ (by simp only[oV,hx,hy,hd,aFi];simp only[hf]) hp
 · exact wv (P:=P) (σ:=σ0) ho p _ _ (by simp only[oV,hx,hy,hf,hd]) hp
def aAw (T:fT) (o:Oper) (σ:St) (s d:TypeId) (x:Operand):pz:=
 match T s,T d with
 |some si,some di=>match si.kind,di.kind with
  | .sl e,.str=>match T e with
   |some ei=>match ei.kind with
    | .int .u8=>iK σ x o.dst (aJ9 σ)
    |_=>none
   |none=>none
  | .str,.sl e=>match T e with
   |some ei=>match ei.kind with
    | .int .u8=>aKa σ x e o.dst
    |_=>none
   |none=>none
  |_,_=>se T o σ
 |_,_=>none
def aAx (T:fT) (o:Oper) (σ:St) (c:Call):pz:=
 match c.callee,c.args.toList,c.argTypes.toList with
 | .builtin .copy,[x,y],[t,t2]=>aFa T σ t t2 x y o.dst
 |_,_,_=>se T o σ
def uz (T:fT) (o:Oper) (σ:St):pz:=
 match o.op with
 | .load t x=>iK σ x o.dst (aAu T σ t)
 | .binOp op t x y u=>oV σ x y o.dst (aFh T t op)
 | .convert s d x=>aAw T o σ s d x
 | .call c=>aAx T o σ c
 |_=>se T o σ
theorem aAy {P:Program} {T:fT} (hT:dL P T) {o:Oper} {σ:St} {s d:TypeId} {x:Operand} (ho:o.op= .convert s d x):kE P o σ (aAw T o σ s d x):=by
 unfold aAw
 split
 · rename_i si di hs hd
   split
   · rename_i e hk1 hk2
     split
     · rename_i ei he
       split
       · rename_i hek
         exact aE8 hT ho hs hk1 he hek hd hk2
       · exact lY
     · exact lY
   · rename_i e hk1 hk2
     split
     · rename_i ei he
       split
       · rename_i hek
         exact aE9 hT ho hs hk1 he hek hd hk2
       · exact lY
     · exact lY
   · exact vJ hT o σ
 · exact lY
theorem aAz {P:Program} {T:fT} (hT:dL P T) {o:Oper} {σ:St} {c:Call} (ho:o.op= .call c):kE P o σ (aAx T o σ c):=by
 obtain⟨callee,args,argTypes⟩:=c
 unfold aAx
 dsimp only
 split
 · rename_i x y t t2 ha hat
   obtain rfl:args= #[x,y]:=Array.toList_inj.1 (by simpa using ha)
   obtain rfl:argTypes= #[t,t2]:=Array.toList_inj.1 (by simpa using hat)
   exact aC8 hT ho
 · exact vJ hT o σ
theorem je {P:Program} {T:fT} (hT:dL P T) (o:Oper) (σ:St):kE P o σ (uz T o σ):=by
 unfold uz
 split
 · rename_i ho;exact aDg (fun X p R Y h hp=>aAv hT h hp) (fh hT ho)
 · rename_i ho;exact aDi hT ho
 · rename_i ho;exact aAy hT ho
 · rename_i ho;exact aAz hT ho
 · exact vJ hT o σ
def aCl:cL→cL→Bool
 | .t a,.t b=>Nat.beq a b
 | .o a,.o b=>Nat.beq a b
 |_,_=>false
theorem sh {a b:cL}:aCl a b=true↔a=b:=by
 cases a<;>cases b<;>simp[aCl]
def xk:St→cL→K→(St→Prop)→Prop
 | [],m,k,c=>c [(m,k)]
 |p::r,m,k,c=>match aCl p.1 m with
  |true=>c ((m,k)::r)
  |false=>xk r m k fun r'=>c (p::r')
theorem uL: ∀{σ:St} {m:cL} {k:K} {c:St→Prop},xk σ m k c↔c (kF σ m k)
 | [],m,k,c=>Iff.rfl
 |p::r,m,k,c=>by
  unfold xk kF
  by_cases h:p.1=m
  · rw[sh.2 h,aC h]
  · have:aCl p.1 m=false:=by rw[← Bool.not_eq_true,sh];exact h
    rw[this,aB h]
    exact uL
def va:List C→(List C→Prop)→Prop
 | [],c=>c []
 |x::r,c=>va r fun r'=>c (x::r')
theorem lx: ∀{l:List C} {c:List C→Prop},va l c↔c l
 | [],c=>Iff.rfl
 |x::r,c=>by unfold va;exact lx
def aA0:K→(K→Prop)→Prop
 | .box ty cs,c=>va cs fun cs'=>c (.box ty cs')
 |k,c=>c k
theorem aA1 {k:K} {c:K→Prop}:aA0 k c↔c k:=by
 cases k<;>simp only[aA0]
 exact lx
def mN:St→List (cL×K)→(St→Prop)→Prop
 |σ,[],c=>c σ
 |σ,p::r,c=>aA0 p.2 fun k=>xk σ p.1 k fun σ'=>mN σ' r c
theorem jJ: ∀{W:List (cL×K)} {σ:St} {c:St→Prop},mN σ W c↔c (eV σ W)
 | [],σ,c=>Iff.rfl
 |p::r,σ,c=>by unfold mN eV;rw[aA1,uL];exact jJ
def aCm (P:Program) (T:fT) (o:Oper) (σ:St) (k:List (cL×Option K)→List (cL×K)→Prop):Prop:=
 match uz T o σ with
 |some (p,R,W)=>p∧k R W
 |none=> ∃R W,xH P o R W∧bX R σ∧k R W
theorem jf {P:Program} {T:fT} (hT:dL P T) {o:Oper} {σ:St} {k:List (cL×Option K)→List (cL×K)→Prop} (h:aCm P T o σ k): ∃R W,xH P o R W∧bX R σ∧k R W:=by
 unfold aCm at h
 split at h
 · rename_i p R W he
   obtain⟨h1,h2⟩:=je hT o σ p R W he h.1
   exact⟨R,W,h1,h2,h.2⟩
 · exact h
def goS (P:Program) (T:fT) (ops:List Oper) (dr:Bool):List Oper→St→List zS→(St→List zS→Prop)→Prop
 | [],σ,acc,k=>k σ acc
 |o::os,σ,acc,k=>match o.guard with
  |none=>aCm P T o σ fun R W=>mN σ W fun σ'=>goS P T ops dr os σ' (match dr with|true=>acc++[nE (R,W)]|false=>[]) k
  |some (j,want)=>match(ops[j]?).bind (·.dst) with
   |some s=>match aP σ (.t s) with
    |some (.v (.e (.c (.d (.b x)))))=>
     (x=want→aCm P T o σ fun R W=>mN σ W fun σ'=>goS P T ops dr os σ' (match dr with|true=>acc++[nE ((.t s,none)::R,W)]|false=>[]) k)∧
     (x= !want→mN σ (sf o) fun σ'=>goS P T ops dr os σ' (match dr with|true=>acc++[nE ([(.t s,none)],sf o)]|false=>[]) k)
    |_=>False
   |none=>False
theorem uM {P:Program} {T:fT} (hT:dL P T) {ops:Array Oper} {dr:Bool} {k:St→List zS→Prop}: ∀(l:List Oper) (σ:St) (acc:List zS),goS P T ops.toList dr l σ acc k→
 ∃ts:List kT,wX P ops l ts∧iT ts σ∧ ∃acc',(dr=true→acc'=acc++ts.map nE)∧k (dM ts σ) acc'
 | [],σ,acc,h=>⟨[],trivial,trivial,acc,fun _=>by simp,by simpa[goS,dM] using h⟩
 |o::os,σ,acc,h=>by
  simp only[goS] at h
  split at h
  · rename_i hg
    obtain⟨R,W,h1,h2,h3⟩:=jf hT h
    rw[jJ] at h3
    obtain⟨ts,q1,q2,acc',q3,q4⟩:=uM hT os _ _ h3
    refine⟨(R,W)::ts,⟨xM hg h1,q1⟩,⟨h2,q2⟩,acc',fun hd=> ?_,by simpa[dM] using q4⟩
    rw[q3 hd];subst hd;simp
  · rename_i j want hg
    split at h<;>try(exact h.elim)
    rename_i s hs
    split at h<;>try(exact h.elim)
    rename_i x hl
    have hs': (ops[j]?).bind (·.dst)=some s:=by simpa using hs
    by_cases hx:x=want
    · subst hx
      obtain⟨R,W,h1,h2,h3⟩:=jf hT (h.1 rfl)
      rw[jJ] at h3
      obtain⟨ts,q1,q2,acc',q3,q4⟩:=uM hT os _ _ h3
      refine⟨((.t s,some (.v (B x)))::R,W)::ts,⟨xa hg hs' h1,q1⟩,⟨fun p hp=> ?_,q2⟩,acc',fun hd=> ?_,by simpa[dM] using q4⟩
      · rcases aNs.1 hp with rfl|hp
        · exact hl
        · exact h2 p hp
      · rw[q3 hd];subst hd;simp[nE]
    · have hx':x= !want:=by cases x<;>cases want<;>simp_all
      have h3:=h.2 hx'
      rw[jJ] at h3
      obtain⟨ts,q1,q2,acc',q3,q4⟩:=uM hT os _ _ h3
      subst hx'
      refine⟨([(.t s,some (.v (B (!want))))],sf o)::ts,⟨aCh hg hs' rfl,q1⟩,⟨bX.one hl,q2⟩,acc',fun hd=> ?_,by simpa[dM] using q4⟩
      rw[q3 hd];subst hd;simp[nE]
section
variable {P:Program} {io:List Nat} {Q:Ex→St→Prop} {σ:St}
theorem SW.text {T:fT} (hT:dL P T) (hm:P.follows .mixedOrders=true) {id:Nat} {ops:Array Oper} (h:goS P T ops.toList false ops.toList σ [] fun σ' _=>Q .norm σ'):SW P io (.region id ops false) Q σ:=by
 intro cx ι S a w hio hw hf
 have hfit: ∀o∈ops.toList,∀d,o.dst=some d→d<cx.N:=fun o ho=>xN (by simpa[qP] using hf) ho
 obtain⟨ts,h1,h2,acc,_,h4⟩:=uM hT ops.toList σ [] h
 exact wp_region_list (rR ops.toList ts σ ι S a w h1 h2 hw hfit fun ι' S' a' w' hw'=>⟨_,ι',S',h4,hw'⟩)
theorem SW.drawn {T:fT} (hT:dL P T) (hm:P.follows .mixedOrders=true) {id:Nat} {ops:Array Oper} (h:goS P T ops.toList true ops.toList σ [] fun σ' ns=>vK ops.toList ns=true∧Q .norm σ'):SW P io (.region id ops true) Q σ:=by
 intro cx ι S a w hio hw hf
 have hfit: ∀o∈ops.toList,∀d,o.dst=some d→d<cx.N:=fun o ho=>xN (by simpa[qP] using hf) ho
 obtain⟨ts,h1,h2,acc,h3,h4,h5⟩:=uM hT ops.toList σ [] h
 have h3:=h3 rfl
 rw[List.nil_append] at h3
 subst h3
 have hlen: ∀(l:List Oper) (ts:List kT),wX P ops l ts→ts.length=l.length∧ ∀(i:Nat) o t,l[i]? =some o→ts[i]? =some t→ItT P ops o t:=by
  intro l
  induction l with
  |nil=>intro ts h;cases ts with
   |nil=>exact⟨rfl,by simp⟩
   |cons t ts=>exact h.elim
  |cons o os ih=>intro ts h;cases ts with
   |nil=>exact h.elim
   |cons t ts=>
    obtain⟨q1,q2⟩:=ih ts h.2
    refine⟨by simp[q1],fun i o' t' ho ht=> ?_⟩
    cases i with
    |zero=>simp at ho ht;subst ho;subst ht;exact h.1
    |succ i=>exact q2 i o' t' (by simpa using ho) (by simpa using ht)
 obtain⟨q1,q2⟩:=hlen _ _ h1
 refine wp_region_any hm (fw (cx:=cx) (σ:=σ) (ts:=ts) (by simpa using q1) (fun i o t ho ht=>q2 i o t (by simpa using ho) ht) h2 (by simpa[pI,vK] using h4) hfit (fun ι' S' a' w' hw'=>⟨_,ι',S',h5,hw'⟩)
  ops.size (Array.replicate ops.size false) σ ι S a _ (by simp) (fun l=> ?_) hw.drew (fun k o ho hk=> ?_) ?_)
 · have hL: ∀i,(Array.replicate ops.size false).getD i false=false:=fun i=>by
    rw[Array.getD_eq_getD_getElem?,Array.getElem?_replicate];split<;>rfl
   have: ∀n,part ts (fun i=>(Array.replicate ops.size false).getD i false) σ l n=aP σ l:=by
    intro n
    induction n with
    |zero=>rfl
    |succ n ih=>rw[lX,aB (by rw[hL];simp),ih]
   rw[this]
 · rw[Array.getD_eq_getD_getElem?,Array.getElem?_replicate] at hk;split at hk<;>cases hk
 · exact Nat.le_trans (List.length_filter_le _ _) (by simp)
end
def keep (ks:List Nat):St→St
 | []=>[]
 |(.t s,k)::r=>match gW s ks with|true=>(.t s,k)::keep ks r|false=>keep ks r
 |(.o n,k)::r=>(.o n,k)::keep ks r
def rV (ks:List Nat):St→(St→Prop)→Prop
 | [],c=>c []
 |(.t s,k)::r,c=>match gW s ks with|true=>rV ks r fun r'=>c ((.t s,k)::r')|false=>rV ks r c
 |(.o n,k)::r,c=>rV ks r fun r'=>c ((.o n,k)::r')
theorem mA {ks:List Nat}: ∀{σ:St} {c:St→Prop},rV ks σ c↔c (keep ks σ)
 | [],c=>Iff.rfl
 |(.t s,k)::r,c=>by
  unfold rV keep
  cases gW s ks
  · exact mA
  · exact mA
 |(.o n,k)::r,c=>by unfold rV keep;exact mA
theorem lJ (ks:List Nat): ∀(σ:St) (o:Nat),aP (keep ks σ) (.o o)=aP σ (.o o)
 | [],o=>rfl
 |(.t s,k)::r,o=>by
  unfold keep
  cases gW s ks
  · simp only[aP];rw[aB (by simp)];exact lJ ks r o
  · simp only[aP];rw[aB (by simp),aB (by simp)];exact lJ ks r o
 |(.o n,k)::r,o=>by
  unfold keep
  simp only[aP]
  rw[lJ ks r o]
theorem sU (ks:List Nat): ∀(σ:St) (s:Nat) (k:K),aP (keep ks σ) (.t s)=some k→aP σ (.t s)=some k
 | [],s,k,h=>h
 |(.t a,x)::r,s,k,h=>by
  unfold keep at h
  cases hm:gW a ks with
  |false=>
   rw[hm] at h
   simp only[aP]
   by_cases e:a=s
   ·
    have hno: ∀(r:St),aP (keep ks r) (.t a)=none:=by
     intro r
     induction r with
     |nil=>rfl
     |cons p r ih=>
      obtain⟨l,y⟩:=p
      cases l with
      |o n=>unfold keep;simp only[aP];rw[aB (by simp)];exact ih
      |t b=>
       unfold keep
       cases hb:gW b ks with
       |false=>exact ih
       |true=>
        simp only[aP]
        by_cases e2:b=a
        · subst e2;rw[hm] at hb;cases hb
        · rw[aB (by simpa using e2)];exact ih
    subst e
    have h:aP (keep ks r) (.t a)=some k:=h
    rw[hno r] at h;cases h
   · rw[aB (by simpa using e)];exact sU ks r s k h
  |true=>
   rw[hm] at h
   simp only[aP] at h ⊢
   by_cases e:cL.t a=cL.t s
   · rw[aC e] at h ⊢; exact h
   · rw[aB e] at h ⊢; exact sU ks r s k h
 |(.o n,x)::r,s,k,h=>by
  unfold keep at h
  simp only[aP] at h ⊢
  rw[aB (by simp)] at h ⊢
  exact sU ks r s k h
theorem RW.keep (ks:List Nat) {P:Program} {cx:Cx P} {σ:St} {ι:Nat→Value} {S:Nat→Prop} {a:Act} {w:World} (h:RW cx σ ι S a w):RW cx (keep ks σ) ι S a w:=by
 have st:mT σ ι S w (Ab.keep ks σ) ι S w:=⟨fun _ h=>h,fun _ _=>rfl,fun o k hk=>⟨k,by rw[lJ];exact hk,lF.refl' _ _⟩⟩
 have hmut: ∀o b,jC (Ab.keep ks σ) ι o b↔jC σ ι o b:=fun o b=>by unfold jC;rw[lJ]
 refine⟨⟨fun s x hx=>oU.step st (h.vr.slots s x (sU ks σ s _ hx)),fun o k hk=>OR.step st (fun _ _=>rfl) (h.vr.objs o k (by rw[← lJ ks];exact hk)),fun o b q=>h.vr.mutS o b ((hmut o b).1 q),fun o o' b q q'=>h.vr.inj o o' b ((hmut o b).1 q) ((hmut o' b).1 q'),h.vr.sz⟩,
  h.size,h.defers,h.fr,fun o b q=>h.own o b ((hmut o b).1 q),h.rd,fun o k hk=>by rw[lJ];exact h.io o k hk⟩
section
variable {P:Program} {io:List Nat} {Q:Ex→St→Prop} {σ:St}
theorem SW.keep (ks:List Nat) {c:Code} (h:rV ks σ (SW P io c Q)):SW P io c Q σ:=by
 rw[mA] at h
 intro cx ι S a w hio hw hf
 exact h cx ι S a w hio (hw.keep ks) hf
theorem SW.mid (J:St→Prop) {x y:Code} (h:SW P io x (ja J Q) σ) (hy: ∀s,J s→SW P io y Q s):SW P io (.seq x y) Q σ:=
 SW.seq (h.mono fun e s hq=>by
  cases e with
  |norm=>exact hy s hq
  |exit id=>exact hq
  |ret=>exact hq)
end
theorem fV {T:fT} {io:List Nat} {rs:List ResultVar} {σout s:St} (X:V) (rl:List (Nat×Nat)) (bor:List Nat) (h1:aAo T s rs=some X) (h2:mL ((.t 0,.v X)::cT s) σout rl bor σout) (h3:xQ σout rl bor=true) (h4:lv io σout rl bor=true):uK T io rs σout s:=
 ⟨X,rl,bor,h1,⟨h2,h3⟩,h4⟩
theorem aT {T:fT} {io:List Nat} {rs:List ResultVar} {s:St} {x y:D} (h1:aAo T s rs=some (Dv x)) (h2:x=y):uK T io rs [(.t 0,.v (Dv y))] s:=
 ⟨Dv x,[],[],h1,⟨⟨⟨Dv x,rfl,h2⟩,trivial⟩,rfl⟩,by simp[lv,bO];exact fun x _=> .inl rfl⟩
def gb (want x:Bool):Bool:=match want with|true=>x|false=> !x
def gOf (want:Bool):Option K→Option Bool
 |some (.v (.e (.c (.d (.b x)))))=>some (gb want x)
 |some (.cv _ _ b (.e (.c (.d (.b x)))))=>some (b&&gb want x)
 |_=>none
def iG (s:Nat) (want:Bool):St→St
 | []=>[]
 |(.t t,.cv s' want' b X)::r=>match Nat.beq s' s&&(want'==want) with
  |true=>(.t t,.v X)::iG s want r
  |false=>(.t t,.cv s' want' b X)::iG s want r
 |p::r=>p::iG s want r
def oE (σ:St):List (cL×Option K)→Prop
 | []=>True
 |p::r=>match aP σ p.1,p.2 with
  |some (.cv _ _ b _),some (.v _)=>b=true∧oE σ r
  |_,_=>oE σ r
def gd (σ:St) (R:List (cL×Option K)):List (cL×Option K):=R.map fun p=>(p.1,aP σ p.1)
theorem iL (s:Nat) (want:Bool): ∀(σ:St) (l:cL),aP (iG s want σ) l=aP σ l∨ ∃s' w' b X,aP σ l=some (.cv s' w' b X)∧aP (iG s want σ) l=some (.v X)
 | [],l=> .inl rfl
 |(.t t,.v X)::r,l=>by
  simp only[iG,aP]
  by_cases e:cL.t t=l
  · rw[aC e,aC e];exact .inl rfl
  · rw[aB e,aB e];exact iL s want r l
 |(.t t,.box a b)::r,l=>by
  simp only[iG,aP]
  by_cases e:cL.t t=l
  · rw[aC e,aC e];exact .inl rfl
  · rw[aB e,aB e];exact iL s want r l
 |(.t t,.row a b c)::r,l=>by
  simp only[iG,aP]
  by_cases e:cL.t t=l
  · rw[aC e,aC e];exact .inl rfl
  · rw[aB e,aB e];exact iL s want r l
 |(.t t,.dead)::r,l=>by
  simp only[iG,aP]
  by_cases e:cL.t t=l
  · rw[aC e,aC e];exact .inl rfl
  · rw[aB e,aB e];exact iL s want r l
 |(.t t,.zone a)::r,l=>by
  simp only[iG,aP]
  by_cases e:cL.t t=l
  · rw[aC e,aC e];exact .inl rfl
  · rw[aB e,aB e];exact iL s want r l
 |(.o t,k)::r,l=>by
  simp only[iG,aP]
  by_cases e:cL.o t=l
  · rw[aC e,aC e];exact .inl rfl
  · rw[aB e,aB e];exact iL s want r l
 |(.t t,.cv s' w' b X)::r,l=>by
  simp only[iG]
  cases Nat.beq s' s&&(w'==want) with
  |true=>
   simp only[aP]
   by_cases e:cL.t t=l
   · rw[aC e,aC e];exact .inr ⟨s',w',b,X,rfl,rfl⟩
   · rw[aB e,aB e];exact iL s want r l
  |false=>
   simp only[aP]
   by_cases e:cL.t t=l
   · rw[aC e,aC e];exact .inl rfl
   · rw[aB e,aB e];exact iL s want r l
theorem RW.reslot {P:Program} {cx:Cx P} {σ σ2:St} {ι:Nat→Value} {S:Nat→Prop} {a:Act} {w:World} (h:RW cx σ ι S a w) (ho: ∀o,aP σ2 (.o o)=aP σ (.o o)) (hs: ∀t k,aP σ2 (.t t)=some k→oU σ ι w S k (gS a t)):RW cx σ2 ι S a w:=by
 have st:mT σ ι S w σ2 ι S w:=⟨fun _ h=>h,fun _ _=>rfl,fun o k hk=>⟨k,by rw[ho];exact hk,lF.refl' _ _⟩⟩
 have hmut: ∀o b,jC σ2 ι o b↔jC σ ι o b:=fun o b=>by unfold jC;rw[ho]
 exact⟨⟨fun s x hx=>oU.step st (hs s x hx),fun o k hk=>OR.step st (fun _ _=>rfl) (h.vr.objs o k (by rw[← ho];exact hk)),fun o b q=>h.vr.mutS o b ((hmut o b).1 q),fun o o' b q q'=>h.vr.inj o o' b ((hmut o b).1 q) ((hmut o' b).1 q'),h.vr.sz⟩,
  h.size,h.defers,h.fr,fun o b q=>h.own o b ((hmut o b).1 q),h.rd,fun o k hk=>by rw[ho];exact h.io o k hk⟩
theorem ly {σ:St}: ∀{R:List (cL×Option K)},oE σ R→ ∀p∈R,∀s w b X Y,aP σ p.1=some (.cv s w b X)→p.2=some (.v Y)→b=true
 | [],_,p,hp=>by cases hp
 |q::r,h,p,hp=>by
  intro s w b X Y hl hy
  rcases aNs.1 hp with rfl|hp
  · simp only[oE,hl,hy] at h;exact h.1
  · refine ly (R:=r) ?_ p hp s w b X Y hl hy
    simp only[oE] at h
    split at h
    · exact h.2
    · exact h
theorem lz {P:Program} {cx:Cx P} {σ:St} {ι:Nat→Value} {S:Nat→Prop} {a:Act} {w:World} (hw:RW cx σ ι S a w) {ops:Array Oper} {o:Oper} {j s:Nat} {want g:Bool} (hg:o.guard=some (j,want)) (hs: (ops[j]?).bind (·.dst)=some s) (hl:gOf want (aP σ (.t s))=some g):
 Region.wanted o (yielded ops a.tmps)=g:=by
 have key: ∀x,gS a s= .bool x→yielded ops a.tmps j=some x:=by
  intro x h2
  have h3:a.tmps[s]? =some (.bool x):=by
   unfold gS at h2
   rw[Array.getD_eq_getD_getElem?] at h2
   cases hq:a.tmps[s]? with
   |none=>rw[hq] at h2;simp[undef] at h2
   |some v=>rw[hq] at h2;simp at h2;rw[h2]
  simp[yielded,hs,h3]
 have keyu:gS a s=undef→yielded ops a.tmps j=none:=by
  intro h2
  unfold gS at h2
  rw[Array.getD_eq_getD_getElem?] at h2
  cases hq:a.tmps[s]? with
  |none=>simp[yielded,hs,hq]
  |some v=>rw[hq] at h2;simp at h2;simp[yielded,hs,hq,h2,undef]
 unfold gOf at hl
 split at hl
 · rename_i x hx
   cases hl
   have h1:=hw.vr.slots s _ hx
   simp only[oU,kZ,ER,CR] at h1
   have h2:gS a s= .bool x:=by generalize gS a s=v at h1;cases h1;rfl
   cases want<;>cases x<;>simp[Region.wanted,hg,key _ h2,gb]
 · rename_i s' w' b x hx
   cases hl
   have h1:=hw.vr.slots s _ hx
   cases b with
   |true=>
    have h1:=h1.1 rfl
    simp only[kZ,ER,CR] at h1
    have h2:gS a s= .bool x:=by generalize gS a s=v at h1;cases h1;rfl
    cases want<;>cases x<;>simp[Region.wanted,hg,key _ h2,gb]
   |false=>
    have h2:=h1.2 rfl
    simp[Region.wanted,hg,keyu h2]
 · cases hl
theorem iM (s:Nat) (want:Bool): ∀(σ:St) (o:Nat),aP (iG s want σ) (.o o)=aP σ (.o o)
 | [],l=>rfl
 |(.o t,k)::r,l=>by
  simp only[iG,aP]
  rw[iM s want r l]
 |(.t t,.v X)::r,l=>by simp only[iG,aP];rw[aB (by simp),aB (by simp)];exact iM s want r l
 |(.t t,.box a b)::r,l=>by simp only[iG,aP];rw[aB (by simp),aB (by simp)];exact iM s want r l
 |(.t t,.row a b c)::r,l=>by simp only[iG,aP];rw[aB (by simp),aB (by simp)];exact iM s want r l
 |(.t t,.dead)::r,l=>by simp only[iG,aP];rw[aB (by simp),aB (by simp)];exact iM s want r l
 |(.t t,.zone a)::r,l=>by simp only[iG,aP];rw[aB (by simp),aB (by simp)];exact iM s want r l
 |(.t t,.cv s' w' b X)::r,l=>by
  simp only[iG]
  cases Nat.beq s' s&&(w'==want)<;>(simp only[aP];rw[aB (by simp),aB (by simp)];exact iM s want r l)
theorem la: ∀{W:List (cL×K)} {l:cL} {k:K},wr W l=some k→(l,k)∈W
 | [],l,k,h=>by cases h
 |p::r,l,k,h=>by
  unfold wr at h
  cases hq:wr r l with
  |some k'=>rw[hq] at h;cases h;exact List.mem_cons_of_mem _ (la hq)
  |none=>
   rw[hq] at h
   simp only at h
   split at h
   · rename_i e;cases h;rw[← e];exact List.mem_cons_self ..
   · cases h
def aLg (p:cL×Option K):Option (cL×K):=match p.2 with
 |some (.v X)=>some (p.1,.v X)
 |_=>none
theorem vb {P:Program} {ops:Array Oper} {o:Oper} {σ:St} {R:List (cL×Option K)} {X:V} {d j s:Nat} {want g:Bool} (hg:o.guard=some (j,want)) (hs: (ops[j]?).bind (·.dst)=some s) (hd:o.dst=some d) (hl:gOf want (aP σ (.t s))=some g)
 (hop:g=true→xH P o R [(.t d,.v X)]∧bX R (iG s want σ)) (hok:g=true→oE σ R):ItT P ops o ((.t s,aP σ (.t s))::gd σ R,[(.t d,.cv s want g X)]):=by
 intro cx σ1 ι S a w hr hw hb next Q hn
 have hls:aP σ1 (.t s)=aP σ (.t s):=hr (.t s,aP σ (.t s)) (List.mem_cons_self ..)
 have hact: ∀p∈R,aP σ1 p.1=aP σ p.1:=fun p hp=>hr (p.1,aP σ p.1) (List.mem_cons_of_mem _ (aNr.2 ⟨p,hp,rfl⟩))
 rw[lz hw hg hs (by rw[hls];exact hl)]
 have hdN:=hb d hd
 cases g with
 |false=>
  rw[aB (by simp)]
  rw[hd]
  have h1:=hw.putDead hdN undef
  refine hn ι S _ w (h1.reslot (fun o=>by simp only[eV];rw[cF _ _ (by simp),cF _ _ (by simp)]) fun t k hk=> ?_)
  simp only[eV] at hk
  rw[dX] at hk
  split at hk
  · rename_i e;cases e;cases hk
    refine⟨(by simp),fun _=> ?_⟩
    rw[ao (by rw[hw.size];exact hdN),aC rfl]
  · rename_i e
    exact h1.vr.slots t k (by rw[cF _ _ e];exact hk)
 |true=>
  rw[aC rfl]
  left
  obtain⟨hop,hrd⟩:=hop rfl
  have hok:=hok rfl
  let L:List (cL×K):=R.filterMap aLg
  have hL: ∀l k,(l,k)∈L→ ∃Y,k= .v Y∧aP (iG s want σ) l=some (.v Y)∧aP σ1 l=aP σ l∧(aP σ l=some (.v Y)∨ ∃s' w',aP σ l=some (.cv s' w' true Y)):=by
   intro l k hm
   obtain⟨p,hp,hpe⟩:=List.mem_filterMap.1 hm
   obtain⟨pl,pk⟩:=p
   unfold aLg at hpe
   split at hpe
   · rename_i e1 Y e2
     cases hpe
     simp only at e2 ⊢
     have h1:=hrd _ hp
     simp only at h1
     refine⟨Y,rfl,h1.trans e2,hact _ hp,?_⟩
     rcases iL s want σ pl with h3|⟨s2,w2,b2,X2,h3,h4⟩
     · left;rw[← h3,h1,e2]
     · rw[h4,e2] at h1;cases h1
       have:=ly hok _ hp _ _ _ _ _ h3 e2
       subst this
       exact .inr ⟨_,_,h3⟩
   · cases hpe
  have hσ2: ∀l,aP (eV σ1 L) l=aP σ1 l∨ ∃Y s' w',aP (eV σ1 L) l=some (.v Y)∧aP σ1 l=some (.cv s' w' true Y):=by
   intro l
   rw[iS]
   cases hq:wr L l with
   |none=>exact .inl rfl
   |some k=>
    obtain⟨Y,rfl,h1,h2,h3⟩:=hL l k (la hq)
    rcases h3 with h3|⟨s',w',h3⟩
    · left;rw[h2,h3]
    · right;exact⟨Y,s',w',rfl,by rw[h2,h3]⟩
  have hσ2o: ∀o,aP (eV σ1 L) (.o o)=aP σ1 (.o o):=by
   intro o'
   rw[iS]
   cases hq:wr L (.o o') with
   |none=>rfl
   |some k=>
    obtain⟨Y,rfl,h1,h2,h3⟩:=hL _ k (la hq)
    rw[iM] at h1
    rw[h2,h1]
  have hrw2:RW cx (eV σ1 L) ι S a w:=hw.reslot hσ2o fun t k hk=>by
   rcases hσ2 (.t t) with h|⟨Y,s',w',h1,h2⟩
   · rw[h] at hk;exact hw.vr.slots t k hk
   · rw[h1] at hk;cases hk
     exact(hw.vr.slots t _ h2).1 rfl
  have hrd2:bX R (eV σ1 L):=by
   intro p hp
   have h1:=hrd p hp
   rw[iS]
   cases hq:wr L p.1 with
   |some k=>
    obtain⟨Y,rfl,h2,_,_⟩:=hL _ k (la hq)
    rw[← h1,h2]
   |none=>
    show aP σ1 p.1=p.2
    rw[hact p hp]
    rcases iL s want σ p.1 with h3|⟨s2,w2,b2,X2,h3,h4⟩
    · rw[← h3];exact h1
    · exfalso
      have: (p.1,K.v X2)∈L:=List.mem_filterMap.2 ⟨p,hp,by unfold aLg;rw[← h1,h4]⟩
      obtain⟨k,hk⟩:=aGt (W:=L) (l:=p.1) (aNr.2 ⟨_,this,rfl⟩)
      rw[hk] at hq;cases hq
  refine hop cx (eV σ1 L) ι S a w hrd2 hrw2 hb next Q fun ι' S' a' w' hw'=>hn ι' S' a' w' ?_
  simp only[eV] at hw' ⊢
  refine hw'.reslot (fun o'=>by rw[cF _ _ (by simp),cF _ _ (by simp),hσ2o]) fun t k hk=> ?_
  rw[dX] at hk
  by_cases e:d=t
  · subst e
    rw[aC rfl] at hk;cases hk
    exact⟨fun _=>hw'.vr.slots d _ (cZ _ _ _),by simp⟩
  · rw[aB (by simpa using e)] at hk
    rcases hσ2 (.t t) with h|⟨Y,s',w',h1,h2⟩
    · exact hw'.vr.slots t k (by rw[cF _ _ (by simpa using e),h];exact hk)
    · rw[h2] at hk;cases hk
      exact⟨fun _=>hw'.vr.slots t (.v Y) (by rw[cF _ _ (by simpa using e)];exact h1),by simp⟩
def evc (σ:St):Operand→Option (V×List (cL×Option K)×Option Bool)
 | .tmp t=>match aP σ (.t t) with
  |some (.v X)=>some (X,[(.t t,some (.v X))],none)
  |some (.cv s w b X)=>some (X,[(.t t,some (.cv s w b X))],some b)
  |_=>none
 | .const v=>if v.oneCell' then some (.e (.c (uk v)),[],none) else none
 |_=>none
def rW:Option Bool→Prop
 |none=>True
 |some b=>b=true
theorem sj {σ:St} {x:Operand} {X:V} {R:List (cL×Option K)} {c:Option Bool} (h:evc σ x=some (X,R,c)):bX R σ:=by
 cases x with
 |tmp t=>
  simp only[evc] at h
  split at h
  · rename_i X' hl;cases h;exact bX.one hl
  · rename_i hl;cases h;exact bX.one hl
  · cases h
 |const v=>
  simp only[evc] at h
  split at h
  · cases h;exact bX.nil
  · cases h
 |global g=>simp[evc] at h
 |func f=>simp[evc] at h
theorem sm {σ0:St} {x:Operand} {X:V} {R:List (cL×Option K)} {c:Option Bool} (h:evc σ0 x=some (X,R,c)) (hc:rW c) {P:Program} {cx:Cx P} {σ:St} {ι:Nat→Value} {S:Nat→Prop} {a:Act} {w:World}
 (hr:bX R σ) (hw:RW cx σ ι S a w):kZ σ ι w S X (a.eval x):=by
 cases x with
 |tmp t=>
  simp only[evc] at h
  split at h
  · rename_i X' hl;cases h;exact hw.vr.slots t _ (hr (.t t,some (.v X)) (by simp))
  · rename_i s w' b X' hl
    cases h
    exact(hw.vr.slots t (.cv s w' b X) (hr (.t t,some (.cv s w' b X)) (by simp))).1 hc
  · cases h
 |const v=>
  simp only[evc] at h
  split at h
  · rename_i hv;cases h;exact bu hv
  · cases h
 |global g=>simp[evc] at h
 |func f=>simp[evc] at h
def aA2 (b:Bool):D→D→Option D
 | .i m,.i n=>some (.i (bif b then m else n))
 | .u m,.u n=>some (.u (bif b then m else n))
 | .b m,.b n=>some (.b (bif b then m else n))
 | .s m,.s n=>some (.s (bif b then m else n))
 |_,_=>none
def aFj (x y:Operand) (b:Bool) (X Y:D):Option D:=match x,y with
 |_,.const (.bool false)=>match X with| .b m=>some (.b (b&&m))|_=>none
 | .const (.bool true),_=>match Y with| .b n=>some (.b (b||n))|_=>none
 |_,_=>aA2 b X Y
def aA3 (σ:St) (c x y:Operand) (d:Option Tmp):pz:=
 match ev σ c,evc σ x,evc σ y,d with
 |some (.e (.c (.d (.b b))),R),some (.e (.c (.d X)),R1,c1),some (.e (.c (.d Y)),R2,c2),some d=>match aFj x y b X Y with
  |some Z=>some ((b=true→rW c1)∧(b=false→rW c2),R++R1++R2,[(.t d,.v (Dv Z))])
  |none=>none
 |_,_,_,_=>none
theorem vd {b:Bool} {X Y Z:D} {w:World} {S:Nat→Prop} {vx vy:Value} (h:aA2 b X Y=some Z) (hx:b=true→DR w S X vx) (hy:b=false→DR w S Y vy):DR w S Z (if b then vx else vy):=by
 cases X<;>cases Y<;>simp only[aA2] at h<;>cases h
 all_goals
  cases b with
  |true=>have:=hx rfl;cases this;first|exact .i _|exact .u _|exact .b _|exact .s _
  |false=>have:=hy rfl;cases this;first|exact .i _|exact .u _|exact .b _|exact .s _
theorem aA4 {P:Program} {o:Oper} {σ0:St} {c x y:Operand} (ho:o.op= .pick c x y):kE P o σ0 (aA3 σ0 c x y o.dst):=by
 intro p R W h hp
 unfold aA3 at h
 split at h<;>try(cases h;done)
 rename_i b Rc X R1 c1 Y R2 c2 d hc hx hy hd
 split at h<;>try(cases h;done)
 rename_i Z hz
 cases h
 refine⟨sQ hd fun cx σ ι S a w hr hw=> ?_,((dT hc).append (sj hx)).append (sj hy)⟩
 have hC:=dU hc hr.left.left hw
 have hX:b=true→kZ σ ι w S (Dv X) (a.eval x):=fun hb=>sm hx (hp.1 hb) hr.left.right hw
 have hY:b=false→kZ σ ι w S (Dv Y) (a.eval y):=fun hb=>sm hy (hp.2 hb) hr.right hw
 have hcv:a.eval c= .bool b:=by
  simp only[kZ,ER,CR] at hC
  generalize a.eval c=v at hC;cases hC;rfl
 have hX:b=true→DR w S X (a.eval x):=hX
 have hY:b=false→DR w S Y (a.eval y):=hY
 refine⟨if b then a.eval x else a.eval y,?_,?_⟩
 · cases b<;>simp[execOp,ho,hcv,asBool]
 · show DR w S Z (if b then a.eval x else a.eval y)
   unfold aFj at hz
   split at hz
   · split at hz
     · cases hz
       cases b with
       |true=>have:=hX rfl;simpa using this
       |false=>simp[Act.eval];exact .b _
     · cases hz
   · split at hz
     · cases hz
       cases b with
       |true=>simp[Act.eval];exact .b _
       |false=>have:=hY rfl;simpa using this
     · cases hz
   · exact vd hz hX hY
def ge (T:fT) (o:Oper) (σ:St):pz:=
 match o.op with
 | .pick c x y=>match aA3 σ c x y o.dst with
  |some r=>some r
  |none=>aCf σ c x y o.dst
 |_=>uz T o σ
theorem sV {P:Program} {T:fT} (hT:dL P T) (o:Oper) (σ:St):kE P o σ (ge T o σ):=by
 unfold ge
 split
 · rename_i ho
   split
   · rename_i r hr
     have:=aA4 (P:=P) (σ0:=σ) ho
     rw[hr] at this;exact this
   · exact rz ho
 · exact je hT o σ
def aFk (m i:Nat):Bool:=Nat.beq (Nat.land (Nat.shiftRight m i) 1) 1
theorem aFl (m i:Nat):aFk m i=m.testBit i:=by
 have h:aFk m i=decide ((m >>> i) % 2=1):=by
  show Nat.beq ((m >>> i) &&& 1) 1=_
  rw[Nat.and_one_is_mod,Bool.eq_iff_iff,Nat.beq_eq,aD]
 rw[h,Nat.testBit,Nat.one_and_eq_mod_two,Bool.eq_iff_iff,aD,bne_iff_ne]
 omega
def bits:List Nat→Nat
 | []=>0
 |x::r=>Nat.lor (Nat.shiftLeft 1 x) (bits r)
theorem rX {b:Nat}: ∀{l:List Nat},(bits l).testBit b=true↔b∈l
 | []=>by simp[bits]
 |x::r=>by
  show((1 <<< x) ||| bits r).testBit b=true↔_
  rw[Nat.testBit_or,Bool.or_eq_true,rX (l:=r),aNs,Nat.shiftLeft_eq,Nat.one_mul,Nat.testBit_two_pow,aD]
  exact⟨fun h=>h.imp Eq.symm id,fun h=>h.imp Eq.symm id⟩
def ma (acc:List Nat):List Nat→Nat
 | []=>0
 |i::r=>Nat.lor (Nat.lor (Nat.shiftLeft 1 i) (acc.getD i 0)) (ma acc r)
def mb:List Oper→List Nat→List Nat
 | [],acc=>acc
 |o::os,acc=>mb os (acc++[ma acc (jD o)])
def aA5 (accM:List Nat) (accP:List (List Nat)):Prop:=accM.length=accP.length∧ ∀i b,(accM.getD i 0).testBit b=true→b∈accP.getD i []
theorem jg {accM:List Nat} {accP:List (List Nat)} (h:aA5 accM accP) {b:Nat}: ∀{l:List Nat},(ma accM l).testBit b=true→b∈l.flatMap fun i=>i::accP.getD i []
 | [],hb=>by simp[ma] at hb
 |i::r,hb=>by
  have hb: (((1 <<< i) ||| accM.getD i 0) ||| ma accM r).testBit b=true:=hb
  rw[Nat.testBit_or,Nat.testBit_or,Bool.or_eq_true,Bool.or_eq_true,Nat.shiftLeft_eq,Nat.one_mul,Nat.testBit_two_pow,aD] at hb
  rw[List.flatMap_cons,List.mem_append,aNs]
  rcases hb with(hb|hb)|hb
  · exact .inl (.inl hb.symm)
  · exact .inl (.inr (h.2 i b hb))
  · exact .inr (jg h hb)
theorem mc: ∀(l:List Oper) {accM:List Nat} {accP:List (List Nat)},aA5 accM accP→aA5 (mb l accM) (kU l accP)
 | [],accM,accP,h=>h
 |o::os,accM,accP,h=>by
  unfold mb kU
  refine mc os ⟨by simp[h.1],fun i b hb=> ?_⟩
  rw[aNm] at hb ⊢
  by_cases hi:i<accM.length
  · rw[List.getElem?_append_left hi] at hb
    rw[List.getElem?_append_left (by rw[← h.1];exact hi)]
    have:=h.2 i b (by rw[aNm];exact hb)
    rwa [aNm] at this
  · rw[List.getElem?_append_right (by omega)] at hb
    rw[List.getElem?_append_right (by rw[← h.1];omega),← h.1]
    by_cases e:i - accM.length=0
    · rw[e] at hb ⊢
      exact jg h hb
    · rw[List.getElem?_eq_none (by simp;omega)] at hb
      simp at hb
abbrev RWM:=Nat×Nat
def rwM (x:zS):RWM:=(bits x.1,bits x.2)
def xl (x y:RWM):Bool:=Nat.beq (Nat.land x.2 (Nat.lor y.1 y.2)) 0&&Nat.beq (Nat.land x.1 y.2) 0
theorem tR {xs ys:List Nat} (h: ∀b,b∈xs→b∈ys→False):nV xs ys=true:=by
 induction xs with
 |nil=>rfl
 |cons x r ih=>
  simp only[nV,aNi,Bool.not_eq_true']
  refine⟨?_,ih fun b hb=>h b (List.mem_cons_of_mem _ hb)⟩
  rw[← Bool.not_eq_true,fD]
  exact h x (List.mem_cons_self ..)
theorem gf {m n b:Nat} (h:Nat.beq (Nat.land m n) 0=true) (hm:m.testBit b=true) (hn:n.testBit b=true):False:=by
 have h:m &&& n=0:=Nat.eq_of_beq_eq_true h
 have: (m &&& n).testBit b=true:=by rw[Nat.testBit_and,hm,hn];rfl
 rw[h] at this;simp at this
theorem aA6 {x y:zS} (h:xl (rwM x) (rwM y)=true):nL x y=true:=by
 simp only[xl,rwM,aNi] at h
 simp only[nL,aNi]
 have hor: ∀b,(b∈y.1∨b∈y.2)→(Nat.lor (bits y.1) (bits y.2)).testBit b=true:=fun b hb=>by
  show(bits y.1 ||| bits y.2).testBit b=true
  rw[Nat.testBit_or,Bool.or_eq_true,rX,rX];exact hb
 exact⟨⟨tR fun b h1 h2=>gf h.1 (rX.2 h1) (hor b (.inr h2)),tR fun b h1 h2=>gf h.1 (rX.2 h1) (hor b (.inl h2))⟩,tR fun b h1 h2=>gf h.2 (rX.2 h1) (rX.2 h2)⟩
def aH5 (pm:Nat) (y:RWM):Nat→List RWM→Bool
 |_,[]=>true
 |i,x::r=>(aFk pm i||xl x y)&&aH5 pm y (i+1) r
def aFm:List RWM→List Nat→List RWM→Bool
 | [],_,_=>true
 |y::ys,pm::pms,done=>aH5 pm y 0 done&&aFm ys pms (done++[y])
 |_::_,[],_=>false
theorem sn {pm:Nat} {y:RWM}: ∀{l:List RWM} {i:Nat},aH5 pm y i l=true→ ∀(k:Nat) x,l[k]? =some x→pm.testBit (i+k)=true∨xl x y=true
 | [],i,_,k,x,hx=>by simp at hx
 |z::r,i,h,k,x,hx=>by
  simp only[aH5,aNi,Bool.or_eq_true] at h
  cases k with
  |zero=>simp at hx;subst hx;rw[← aFl];exact h.1
  |succ k=>
   have:=sn h.2 k x (by simpa using hx)
   rwa [show i+1+k=i+(k+1) by omega] at this
theorem so: ∀{ys:List RWM} {pms:List Nat} {done:List RWM},aFm ys pms done=true→ ∀(k:Nat) y pm,ys[k]? =some y→pms[k]? =some pm→ ∀(i:Nat) x,i<done.length+k→(done++ys)[i]? =some x→pm.testBit i=true∨xl x y=true
 | [],pms,done,_,k,y,pm,hy,_,i,x,_,_=>by simp at hy
 |z::ys,[],done,h,k,y,pm,hy,hp,i,x,_,_=>by simp[aFm] at h
 |z::ys,p::pms,done,h,k,y,pm,hy,hp,i,x,hi,hx=>by
  simp only[aFm,aNi] at h
  cases k with
  |zero=>
   simp at hy hp;subst hy;subst hp
   have:=sn h.1 i x (by rw[List.getElem?_append_left (by omega)] at hx;exact hx)
   rwa [Nat.zero_add] at this
  |succ k=>exact so h.2 k y pm (by simpa using hy) (by simpa using hp) i x (by simp;omega) (by simpa using hx)
theorem md {ns:List zS} {pl:List (List Nat)}: ∀(n:Nat),(∀k,k<n→ ∀i,i<k→ ∀x y pk,ns[i]? =some x→ns[k]? =some y→pl[k]? =some pk→i∈pk∨nL x y=true)→vH ns pl n=true
 |0,_=>rfl
 |n+1,h=>by
  simp only[vH,aNi]
  refine⟨?_,md n fun k hk=>h k (by omega)⟩
  split
  · rename_i y pk hy hp
    rw[aNt]
    intro i hi
    rw[Bool.or_eq_true]
    cases hx:ns[i]? with
    |none=>exact .inr rfl
    |some x=>exact(h n (by omega) i (List.mem_range.1 hi) x y pk hx hy hp).imp fD.2 id
  · rfl
def gg (l:List Oper) (ns:List zS):Bool:=pH 0 l&&aFm (ns.map rwM) (mb l []) []
theorem jh {l:List Oper} {ns:List zS} (h:gg l ns=true):vK l ns=true:=by
 simp only[gg,aNi] at h
 simp only[vK,aNi]
 refine⟨h.1,md _ fun k hk i hi x y pk hx hy hp=> ?_⟩
 have hm:=mc l (accM:=[]) (accP:=[]) ⟨rfl,by simp⟩
 have hpl:k< (kU l []).length:=(aNq.1 hp).1
 have hml:k< (mb l []).length:=by rw[hm.1];exact hpl
 have hpm: (mb l [])[k]? =some (mb l [])[k]:=aNo hml
 rcases so h.2 k (rwM y) _ (by simp[hy]) hpm i (rwM x) (by simpa using hi) (by simp[hx]) with h1|h1
 · left
   have:=hm.2 k i (by rw[aNm,hpm];exact h1)
   rwa [aNm,hp] at this
 · exact .inr (aA6 h1)
def aCn (P:Program) (T:fT) (o:Oper) (σ:St) (k:List (cL×Option K)→List (cL×K)→Prop):Prop:=
 match ge T o σ with
 |some (p,R,W)=>p∧k R W
 |none=> ∃R W,xH P o R W∧bX R σ∧k R W
theorem ji {P:Program} {T:fT} (hT:dL P T) {o:Oper} {σ:St} {k:List (cL×Option K)→List (cL×K)→Prop} (h:aCn P T o σ k): ∃R W,xH P o R W∧bX R σ∧k R W:=by
 unfold aCn at h
 split at h
 · rename_i p R W he
   obtain⟨h1,h2⟩:=sV hT o σ p R W he h.1
   exact⟨R,W,h1,h2,h.2⟩
 · exact h
def aH6 (dr:Bool) (acc:List zS) (R:List (cL×Option K)) (W:List (cL×K)):List zS:=match dr with
 |true=>acc++[nE (R,W)]
 |false=>[]
def ci (P:Program) (T:fT) (o:Oper) (σ:St) (s:Nat) (want g:Bool) (d:Nat) (k:List (cL×Option K)→V→Prop):Prop:=
 match ge T o (iG s want σ) with
 |some (p,R,[(.t d',.v X)])=>match Nat.beq d' d with
  |true=>(g=true→p)∧(g=true→oE σ R)∧k R X
  |false=>False
 |some _=>False
 |none=> ∃R X,(g=true→xH P o R [(.t d,.v X)]∧bX R (iG s want σ))∧(g=true→oE σ R)∧k R X
def goC (P:Program) (T:fT) (ops:List Oper) (dr:Bool):List Oper→St→List zS→(St→List zS→Prop)→Prop
 | [],σ,acc,k=>k σ acc
 |o::os,σ,acc,k=>match o.guard with
  |none=>aCn P T o σ fun R W=>mN σ W fun σ'=>goC P T ops dr os σ' (aH6 dr acc R W) k
  |some (j,want)=>match(ops[j]?).bind (·.dst),o.dst with
   |some s,some d=>match gOf want (aP σ (.t s)) with
    |some g=>ci P T o σ s want g d fun R X=>xk σ (.t d) (.cv s want g X) fun σ'=>goC P T ops dr os σ' (aH6 dr acc ((.t s,none)::R) [(.t d,.dead)]) k
    |none=>False
   |_,_=>False
theorem xX {P:Program} {T:fT} (hT:dL P T) {ops:Array Oper} {o:Oper} {σ:St} {j s d:Nat} {want g:Bool} {k:List (cL×Option K)→V→Prop} (hg:o.guard=some (j,want)) (hs: (ops[j]?).bind (·.dst)=some s) (hd:o.dst=some d) (hl:gOf want (aP σ (.t s))=some g)
 (h:ci P T o σ s want g d k): ∃R X,ItT P ops o ((.t s,aP σ (.t s))::gd σ R,[(.t d,.cv s want g X)])∧k R X:=by
 unfold ci at h
 split at h
 · rename_i p R d' X he
   split at h
   · rename_i hdd
     have hdd:=Nat.eq_of_beq_eq_true hdd
     subst hdd
     obtain⟨h1,h2,h3⟩:=h
     exact⟨R,X,vb hg hs hd hl (fun hgt=>sV hT o _ p R _ he (h1 hgt)) h2,h3⟩
   · exact h.elim
 · exact h.elim
 · obtain⟨R,X,h1,h2,h3⟩:=h
   exact⟨R,X,vb hg hs hd hl h1 h2,h3⟩
theorem cj {σ:St} {s:Nat} {R:List (cL×Option K)}:bX ((.t s,aP σ (.t s))::gd σ R) σ:=by
 intro p hp
 rcases aNs.1 hp with rfl|hp
 · rfl
 · obtain⟨q,hq,rfl⟩:=aNr.1 hp;rfl
theorem aA7 {σ:St} {s d:Nat} {R:List (cL×Option K)} {k:K} {o:Option K} {k':K}:nE ((.t s,o)::R,[(.t d,k)])=nE ((.t s,aP σ (.t s))::gd σ R,[(.t d,k')]):=by
 simp[nE,gd,Function.comp_def]
theorem uN {P:Program} {T:fT} (hT:dL P T) {ops:Array Oper} {dr:Bool} {k:St→List zS→Prop}: ∀(l:List Oper) (σ:St) (acc:List zS),goC P T ops.toList dr l σ acc k→
 ∃ts:List kT,wX P ops l ts∧iT ts σ∧ ∃acc',(dr=true→acc'=acc++ts.map nE)∧k (dM ts σ) acc'
 | [],σ,acc,h=>⟨[],trivial,trivial,acc,fun _=>by simp,by simpa[goC,dM] using h⟩
 |o::os,σ,acc,h=>by
  simp only[goC] at h
  split at h
  · rename_i hg
    obtain⟨R,W,h1,h2,h3⟩:=ji hT h
    rw[jJ] at h3
    obtain⟨ts,q1,q2,acc',q3,q4⟩:=uN hT os _ _ h3
    refine⟨(R,W)::ts,⟨xM hg h1,q1⟩,⟨h2,q2⟩,acc',fun hd=> ?_,by simpa[dM] using q4⟩
    rw[q3 hd];subst hd;simp[aH6]
  · rename_i j want hg
    split at h<;>try(exact h.elim)
    rename_i s d hs hd
    split at h<;>try(exact h.elim)
    rename_i g hl
    have hs': (ops[j]?).bind (·.dst)=some s:=by simpa using hs
    obtain⟨R,X,h1,h2⟩:=xX hT hg hs' hd hl h
    rw[uL] at h2
    obtain⟨ts,q1,q2,acc',q3,q4⟩:=uN hT os _ _ h2
    refine⟨((.t s,aP σ (.t s))::gd σ R,[(.t d,.cv s want g X)])::ts,⟨h1,q1⟩,⟨cj,q2⟩,acc',fun hdr=> ?_,by simpa[dM,eV] using q4⟩
    rw[q3 hdr];subst hdr
    simp only[aH6,List.map_cons,List.append_assoc,List.singleton_append]
    rw[aA7 (σ:=σ) (k':= .cv s want g X)]
section
variable {P:Program} {io:List Nat} {Q:Ex→St→Prop} {σ:St}
theorem SW.regT {T:fT} (hT:dL P T) (ks:List Nat) {id:Nat} {ops:Array Oper} (h:goC P T ops.toList false ops.toList σ [] fun σ' _=>rV ks σ' (Q .norm)):SW P io (.region id ops false) Q σ:=by
 intro cx ι S a w hio hw hf
 have hfit: ∀o∈ops.toList,∀d,o.dst=some d→d<cx.N:=fun o ho=>xN (by simpa[qP] using hf) ho
 obtain⟨ts,h1,h2,acc,_,h4⟩:=uN hT ops.toList σ [] h
 rw[mA] at h4
 exact wp_region_list (rR ops.toList ts σ ι S a w h1 h2 hw hfit fun ι' S' a' w' hw'=>⟨_,ι',S',h4,hw'.keep ks⟩)
theorem SW.regD {T:fT} (hT:dL P T) (hm:P.follows .mixedOrders=true) (ks:List Nat) {id:Nat} {ops:Array Oper} (h:goC P T ops.toList true ops.toList σ [] fun σ' ns=>gg ops.toList ns=true∧rV ks σ' (Q .norm)):SW P io (.region id ops true) Q σ:=by
 intro cx ι S a w hio hw hf
 have hfit: ∀o∈ops.toList,∀d,o.dst=some d→d<cx.N:=fun o ho=>xN (by simpa[qP] using hf) ho
 obtain⟨ts,h1,h2,acc,h3,h4,h5⟩:=uN hT ops.toList σ [] h
 have h3:=h3 rfl
 rw[List.nil_append] at h3
 subst h3
 rw[mA] at h5
 have hlen: ∀(l:List Oper) (ts:List kT),wX P ops l ts→ts.length=l.length∧ ∀(i:Nat) o t,l[i]? =some o→ts[i]? =some t→ItT P ops o t:=by
  intro l
  induction l with
  |nil=>intro ts h;cases ts with
   |nil=>exact⟨rfl,by simp⟩
   |cons t ts=>exact h.elim
  |cons o os ih=>intro ts h;cases ts with
   |nil=>exact h.elim
   |cons t ts=>
    obtain⟨q1,q2⟩:=ih ts h.2
    refine⟨by simp[q1],fun i o' t' ho ht=> ?_⟩
    cases i with
    |zero=>simp at ho ht;subst ho;subst ht;exact h.1
    |succ i=>exact q2 i o' t' (by simpa using ho) (by simpa using ht)
 obtain⟨q1,q2⟩:=hlen _ _ h1
 refine wp_region_any hm (fw (cx:=cx) (σ:=σ) (ts:=ts) (by simpa using q1) (fun i o t ho ht=>q2 i o t (by simpa using ho) ht) h2 (by have:=jh h4;simpa[pI,vK] using this) hfit (fun ι' S' a' w' hw'=>⟨_,ι',S',h5,hw'.keep ks⟩)
  ops.size (Array.replicate ops.size false) σ ι S a _ (by simp) (fun l=> ?_) hw.drew (fun k o ho hk=> ?_) ?_)
 · have hL: ∀i,(Array.replicate ops.size false).getD i false=false:=fun i=>by
    rw[Array.getD_eq_getD_getElem?,Array.getElem?_replicate];split<;>rfl
   have: ∀n,part ts (fun i=>(Array.replicate ops.size false).getD i false) σ l n=aP σ l:=by
    intro n
    induction n with
    |zero=>rfl
    |succ n ih=>rw[lX,aB (by rw[hL];simp),ih]
   rw[this]
 · rw[Array.getD_eq_getD_getElem?,Array.getElem?_replicate] at hk;split at hk<;>cases hk
 · exact Nat.le_trans (List.length_filter_le _ _) (by simp)
end
def vR:C→Bool
 | .d _=>true
 | .nil=>true
 | .rp _=>true
 |_=>false
def ay:E→Bool
 | .c x=>vR x
 | .agg cs=>cs.all vR
def lB:V→Bool
 | .e x=>ay x
 | .tup xs=>xs.all ay
section
variable {τ σ':St} {rl:List (Nat×Nat)} {bor:List Nat}
theorem xm {c:C} (h:vR c=true):mC τ σ' rl bor c c:=by cases c<;>simp_all[vR,mC]
theorem sr: ∀{cs:List C},cs.all vR=true→mCs τ σ' rl bor cs cs
 | [],_=>trivial
 |c::cs,h=>by
  simp only[List.all_cons,aNi] at h
  exact⟨xm h.1,sr h.2⟩
theorem xn {c:E} (h:ay c=true):mE τ σ' rl bor c c:=by
 cases c with
 |c x=>exact xm h
 |agg cs=>exact sr h
theorem ss: ∀{cs:List E},cs.all ay=true→mEs τ σ' rl bor cs cs
 | [],_=>trivial
 |c::cs,h=>by
  simp only[List.all_cons,aNi] at h
  exact⟨xn h.1,ss h.2⟩
theorem xo {c:V} (h:lB c=true):mV τ σ' rl bor c c:=by
 cases c with
 |e x=>exact xn h
 |tup cs=>exact ss h
theorem me {c:C} (h:vR c=true):aAq rl c=c:=by cases c<;>simp_all[vR,aAq]
theorem xq {cs:List C} (h:cs.all vR=true):cs.map (aAq rl)=cs:=by
 rw[aNt] at h
 exact(List.map_congr_left fun c hc=>me (h c hc)).trans (List.map_id cs)
theorem mf {c:E} (h:ay c=true):aDc rl c=c:=by
 cases c with
 |c x=>simp[aDc,me (show vR x=true from h)]
 |agg cs=>simp only[aDc];rw[xq h]
theorem mg {c:V} (h:lB c=true):aAr rl c=c:=by
 cases c with
 |e x=>simp[aAr,mf (show ay x=true from h)]
 |tup cs=>
  simp only[aAr]
  have h:cs.all ay=true:=h
  rw[aNt] at h
  rw[(List.map_congr_left fun c hc=>mf (h c hc)).trans (List.map_id cs)]
theorem xr: ∀{Ys:List V} {i:Nat},(∀j Y,Ys[j]? =some Y→aP τ (.t (i+j))=some (.v Y))→Ys.all lB=true→mL τ σ' rl bor (dA i Ys)
 | [],i,_,_=>trivial
 |Y::Ys,i,h,hp=>by
  simp only[List.all_cons,aNi] at hp
  refine⟨⟨Y,h 0 Y rfl,xo hp.1⟩,xr (fun j Z hj=> ?_) hp.2⟩
  rw[show i+1+j=i+(j+1) by omega]
  exact h (j+1) Z hj
theorem qS: ∀(Ys:List V) (i:Nat),bO (dA i Ys)=[]
 | [],i=>rfl
 |Y::Ys,i=>qS Ys (i+1)
theorem gO {Xs:List V} (h:Xs.all lB=true):jO (dA 0 Xs++kA []) (dA 0 Xs) [] []:=by
 refine⟨xr (fun j Y hj=> ?_) h,?_⟩
 · have hlt:=(aNq.1 hj).1
   rw[Nat.zero_add,nM 0 Xs _ j (aNj _) (by omega),Nat.sub_zero,hj];rfl
 · simp[xQ,qS,rU,nV]
end
section
variable {P:Program} {T:fT} {f:FuncId} {n:Nat} {σin:St} {X:V} {o:Oper} {c:Call} {d:Nat} {σ:St} {Xs:List V} {Ra:List (cL×Option K)}
theorem xu (hs:Spec P f n σin [(.t 0,.v X)]) (ho:o.op= .call c) (hc:c.callee= .value (.func f)) (hd:o.dst=some d) (hx:kz σ c.args.toList=some (Xs,Ra)) (hn:Xs.length=n) (hin:σin=dA 0 Xs) (hp:Xs.all lB=true) (hX:lB X=true):
 xH P o Ra [(.t d,.v X)]:=by
 subst hin
 have:=xU (robj:=[]) (rl:=[]) (bor:=[]) hs ho hc hx hn (gO hp) (by simp[fZ,bO,kM,qS,rU,oA]) (.inl rfl)
 have e1:oW Ra [] [] (dA 0 Xs) [(.t 0,.v X)]=Ra:=by simp[oW,eJ,bO]
 have e2:gM [] (dA 0 Xs) [(.t 0,.v X)] o.dst=[(.t d,.v X)]:=by
  simp[gM,tQ,pJ,kM,qS,hd,xR,aP,mg hX]
 rw[e1,e2] at this
 exact this
theorem ck {k:List (cL×Option K)→List (cL×K)→Prop} (hs:Spec P f n σin [(.t 0,.v X)]) (ho:o.op= .call c) (hc:c.callee= .value (.func f)) (hd:o.dst=some d) (hx:kz σ c.args.toList=some (Xs,Ra)) (hn:Xs.length=n) (hin:σin=dA 0 Xs) (hp:Xs.all lB=true) (hX:lB X=true)
 (h:k Ra [(.t d,.v X)]): ∃R W,xH P o R W∧bX R σ∧k R W:=
 ⟨Ra,_,xu hs ho hc hd hx hn hin hp hX,pC hx,h⟩
theorem aFn {σ1:St} {g:Bool} {k:List (cL×Option K)→V→Prop} (hs:g=true→Spec P f n σin [(.t 0,.v X)]) (ho:o.op= .call c) (hc:c.callee= .value (.func f)) (hd:o.dst=some d) (hx:kz σ1 c.args.toList=some (Xs,Ra)) (hn:Xs.length=n) (hin:σin=dA 0 Xs) (hp:Xs.all lB=true) (hX:lB X=true)
 (hr:g=true→oE σ Ra) (h:k Ra X): ∃R X,(g=true→xH P o R [(.t d,.v X)]∧bX R σ1)∧(g=true→oE σ R)∧k R X:=
 ⟨Ra,X,fun hg=>⟨xu (hs hg) ho hc hd hx hn hin hp hX,pC hx⟩,hr,h⟩
theorem dI {σout:St} {rl:List (Nat×Nat)} {bor:List Nat} {robj:List (Nat×K)} {k:List (cL×Option K)→List (cL×K)→Prop} (hs:Spec P f n σin σout) (ho:o.op= .call c) (hc:c.callee= .value (.func f)) (hx:kz σ c.args.toList=some (Xs,Ra)) (hn:Xs.length=n)
 (hm:jO (dA 0 Xs++kA robj) σin rl bor) (hk:fZ rl σin σout=true) (hb:bor=[]∨iC σout) (h1: ∀p∈robj,aP σ (.o p.1)=some p.2) (h2: ∀j∈eJ σin σout,aP σ (.o (iB rl j))=none)
 (h:k (oW Ra robj rl σin σout) (gM rl σin σout o.dst)): ∃R W,xH P o R W∧bX R σ∧k R W:=
 ⟨_,_,xU hs ho hc hx hn hm hk hb,vQ hx h1 h2,h⟩
end
def WK (io:List Nat) (J:St→Prop) (s:St):Prop:= ∃σ' rl bor,J σ'∧jO s σ' rl bor∧vM io σ' rl bor=true
theorem wk {io:List Nat} {J:St→Prop} {s:St} (σ':St) (rl:List (Nat×Nat)) (bor:List Nat) (h:J σ') (h1:mL s σ' rl bor σ') (h2:xQ σ' rl bor=true) (h3:vM io σ' rl bor=true):WK io J s:=⟨σ',rl,bor,h,⟨h1,h2⟩,h3⟩
section
variable {P:Program} {io:List Nat} {Q:Ex→St→Prop} {σ:St}
theorem SW.wk {c:Code} {J:St→Prop} (h:WK io J σ) (hJ: ∀s,J s→SW P io c Q s):SW P io c Q σ:=by
 obtain⟨σ',rl,bor,h1,h2,h3⟩:=h
 exact SW.weaken σ' rl bor h2 h3 (hJ σ' h1)
theorem SW.loopW {c:Code} (I:Nat→St→Prop) {n:Nat} (h0:WK io (I n) σ) (hr: ∀n s,I n s→SW P io c (ja (fun s'=>WK io (fun s2=> ∃m,m<n∧I m s2) s') Q) s):SW P io (.loop c) Q σ:=by
 refine SW.loop (fun n s=>WK io (I n) s) h0 fun n s hs=>SW.wk hs fun s2 h2=>SW.mono (fun e s3 h3=> ?_) (hr n s2 h2)
 cases e with
 |norm=>
  obtain⟨σ',rl,bor,⟨m,hm,h1⟩,h2,h4⟩:=h3
  exact⟨m,hm,σ',rl,bor,h1,h2,h4⟩
 |exit id=>exact h3
 |ret=>exact h3
theorem SW.midW (J:St→Prop) {x y:Code} (h:SW P io x (ja (fun s=>WK io J s) Q) σ) (hy: ∀s,J s→SW P io y Q s):SW P io (.seq x y) Q σ:=
 SW.seq (h.mono fun e s hq=>by
  cases e with
  |norm=>exact SW.wk hq hy
  |exit id=>exact hq
  |ret=>exact hq)
end
section
variable {τ σ':St} {rl:List (Nat×Nat)} {bor:List Nat} {r:List (cL×K)}
theorem fR {s:Nat} {x y:D} (h:aP τ (.t s)=some (.v (Dv x))) (e:x=y) (hr:mL τ σ' rl bor r):mL τ σ' rl bor ((.t s,.v (Dv y))::r):=⟨⟨_,h,e⟩,hr⟩
theorem cl {s:Nat} {y:D} (h:aP τ (.t s)=some (.v (.e (.c .nil)))) (e:y= .sl []) (hr:mL τ σ' rl bor r):mL τ σ' rl bor ((.t s,.v (Dv y))::r):=⟨⟨_,h,e⟩,hr⟩
theorem gh {s o n j m:Nat} {e:TypeId} {es:Nat} {rows:List (List D)} (h:aP τ (.t s)=some (.v (.e (.c (.own o n))))) (ho:o=iB rl j) (e1:n=m) (hj:aP σ' (.o j)=some (.row e es rows)) (hr:mL τ σ' rl bor r):mL τ σ' rl bor ((.t s,.v (.e (.c (.own j m))))::r):=
 ⟨⟨_,h,ho,e1,e,es,rows,hj⟩,hr⟩
theorem gA {s o n:Nat} {y:D} {e:TypeId} {es:Nat} {rows:List (List D)} (h:aP τ (.t s)=some (.v (.e (.c (.own o n))))) (hb:gW o bor=true) (hj:aP τ (.o o)=some (.row e es rows)) (e1:rows.length=n) (e2:y= .sl rows) (hr:mL τ σ' rl bor r):mL τ σ' rl bor ((.t s,.v (Dv y))::r):=
 ⟨⟨_,h,fD.1 hb,e,es,rows,hj,e1,.inl e2⟩,hr⟩
theorem bK {s:Nat} {cs ds:List C} (h:aP τ (.t s)=some (.v (.e (.agg cs)))) (e:mCs τ σ' rl bor cs ds) (hr:mL τ σ' rl bor r):mL τ σ' rl bor ((.t s,.v (.e (.agg ds)))::r):=⟨⟨_,h,e⟩,hr⟩
theorem dV {j:Nat} {e:TypeId} {es:Nat} {rows rows':List (List D)} (h:aP τ (.o (iB rl j))=some (.row e es rows)) (e1:rows=rows') (hr:mL τ σ' rl bor r):mL τ σ' rl bor ((.o j,.row e es rows')::r):=⟨⟨_,h,rfl,rfl,e1⟩,hr⟩
theorem aR:mCs τ σ' rl bor [] []:=trivial
theorem aI {x y:D} {cs ds:List C} (e:x=y) (h:mCs τ σ' rl bor cs ds):mCs τ σ' rl bor (.d x::cs) (.d y::ds):=⟨e,h⟩
theorem eX {o n j m:Nat} {e:TypeId} {es:Nat} {rows:List (List D)} {cs ds:List C} (ho:o=iB rl j) (e1:n=m) (hj:aP σ' (.o j)=some (.row e es rows)) (h:mCs τ σ' rl bor cs ds):mCs τ σ' rl bor (.own o n::cs) (.own j m::ds):=⟨⟨ho,e1,e,es,rows,hj⟩,h⟩
theorem gJ {o n:Nat} {y:D} {e:TypeId} {es:Nat} {rows:List (List D)} {cs ds:List C} (hb:gW o bor=true) (hj:aP τ (.o o)=some (.row e es rows)) (e1:rows.length=n) (e2:y= .sl rows) (h:mCs τ σ' rl bor cs ds):mCs τ σ' rl bor (.own o n::cs) (.d y::ds):=⟨⟨fD.1 hb,e,es,rows,hj,e1,.inl e2⟩,h⟩
theorem cN {o n q:Nat} {y:D} {e e2:TypeId} {es es2:Nat} {rows rows2:List (List D)} {l:List (Value×List (List D))} {cs ds:List C} (hb:gW o bor=true) (hj:aP τ (.o o)=some (.row e es rows)) (hb2:gW q bor=true) (hz:aP τ (.o q)=some (.zone (eW e2 es2 l))) (e1:rows.length=n) (hL:cf l rows rows2) (hy:y= .sl rows2) (h:mCs τ σ' rl bor cs ds):mCs τ σ' rl bor (.own o n::cs) (.d y::ds):=
 ⟨⟨fD.1 hb,e,es,rows,hj,e1,.inr ⟨q,e2,es2,l,rows2,fD.1 hb2,hz,hy,hL⟩⟩,h⟩
end
theorem RW.nilOwn {P:Program} {cx:Cx P} {σ:St} {ι:Nat→Value} {S:Nat→Prop} {a:Act} {w:World} (h:RW cx σ ι S a w) {s j:Nat} (e:TypeId) (es:Nat) (hs:aP σ (.t s)=some (.v (.e (.c .nil)))) (hj:aP σ (.o j)=none):
 RW cx (kF (kF σ (.o j) (.row e es [])) (.t s) (.v (.e (.c (.own j 0))))) (fun o=>if o=j then .slice none 0 0 else ι o) S a w:=by
 have hblk: ∀b,sP (.slice none 0 0) b→some b=(none:Option Nat)∨w.heap.size≤b:=fun b hb=>by simp[sP] at hb
 have h1:=h.turn (id:=j) (old:=none) (k:= .row e es []) (p:= .slice none 0 0) (w':=w) ⟨rfl,rfl,rfl,aNp _,(fun _ _ _=>rfl),(fun b hb=>by cases hb),.inl hj,hblk,.inl ⟨rfl,rfl⟩⟩
 have hv:gS a s= .slice none 0 0:=h.vr.slots s _ hs
 refine h1.reslot (fun o=>cF _ _ (by simp)) fun t k hk=> ?_
 rw[dX] at hk
 by_cases e1:s=t
 · subst e1
   rw[aC rfl] at hk;cases hk
   show CR (kF σ (.o j) (.row e es [])) (fun o=>if o=j then .slice none 0 0 else ι o) w S (.own j 0) (gS a s)
   rw[hv]
   exact⟨rfl,.inl ⟨e,es,[],cZ _ _ _,aNp _,fun _=>by simp⟩⟩
 · rw[aB (by simpa using e1)] at hk
   exact h1.vr.slots t k hk
theorem SW.nilOwn {P:Program} {io:List Nat} {Q:Ex→St→Prop} {σ:St} {c:Code} (s j:Nat) (e:TypeId) (es:Nat) (hs:aP σ (.t s)=some (.v (.e (.c .nil)))) (hj:aP σ (.o j)=none)
 (h:mN σ [(.o j,.row e es []),(.t s,.v (.e (.c (.own j 0))))] (SW P io c Q)):SW P io c Q σ:=by
 rw[jJ] at h
 intro cx ι S a w hio hw hf
 exact h cx _ S a w hio (hw.nilOwn e es hs hj) hf
theorem ai {a b:Prop} (x:a) (y:b):a∧b:=⟨x,y⟩
theorem vc {p:Prop} (h:p:=by first|trivial|exact aNg rfl|exact⟨rfl,aNg rfl⟩|omega|((repeat' apply And.intro)<;>first|trivial|rfl|exact aNg rfl|omega)|(simp;done)|(simp;omega)):p:=h
theorem rk {p:Prop} (h:p:=by intro h;(repeat' apply And.intro)<;>first|exact h|trivial):p:=h
theorem pk {p:Prop} (h:p:=by constructor<;>intro h<;>first|trivial|exact h|(simp[gb,rW];done)|(simpa[gb,rW] using h)|(simp only[gb,rW] at *; grind)|(simp_all[gb,rW];done)):p:=h
def OpE (P:Program) (o:Oper) (R:List (cL×Option K)) (Ws:List (cL×K)→Prop):Prop:=
 ∀(cx:Cx P) (σ:St) (ι:Nat→Value) (S:Nat→Prop) (a:Act) (w:World),bX R σ→RW cx σ ι S a w→(∀d,o.dst=some d→d<cx.N)→
  ∀(next:Act→World→Prop) (Q:Exit→Act→World→Prop),(∀W,Ws W→ ∀ι' S' a' w',RW cx (eV σ W) ι' S' a' w'→next a' w')→o.wp P a w next Q
theorem xH.toE {P:Program} {o:Oper} {R:List (cL×Option K)} {W:List (cL×K)} (h:xH P o R W):OpE P o R (· =W):=
 fun cx σ ι S a w hr hw hd next Q hn=>h cx σ ι S a w hr hw hd next Q fun ι' S' a' w' hw'=>hn W rfl ι' S' a' w' hw'
def SpecE (P:Program) (f:FuncId) (n:Nat) (σin:St) (Qo:St→Prop):Prop:=
 ax P f∧ ∀(ι ν:Nat→Value) (S:Nat→Prop) (w:World) (args:Array Value),(GB P w fun b=> ∃o,jC σin ι o b)→VR σin ι ν S w→args.size=n→(∀i,i<n→args[i]? =some (ν i))→
  Calls P f args w fun e w'=> ∃v ι' S' σout,Qo σout∧e= .returned v∧aFe σin ι S w σout ι' S' w' v
theorem lK {P:Program} {f:FuncId} {args:Array Value} {w:World} {Q Q':Ending→World→Prop} (hq: ∀e w',Q e w'→Q' e w') (h:Calls P f args w Q):Calls P f args w Q':=by
 intro cs
 obtain⟨e,w',fr,h1,h2⟩:=h cs
 exact⟨e,w',fr,hq e w' h1,h2⟩
theorem Spec.toE {P:Program} {f:FuncId} {n:Nat} {σin σout:St} {Qo:St→Prop} (h:Spec P f n σin σout) (hq:Qo σout):SpecE P f n σin Qo:=by
 refine⟨h.1,fun ι ν S w args h0 h1 h2 h3=>lK (fun e w'=> ?_) (h.2 ι ν S w args h0 h1 h2 h3)⟩
 rintro⟨v,ι',S',rfl,hp⟩
 exact⟨v,ι',S',σout,hq,rfl,hp⟩
def aA8 (T:fT) (io:List Nat) (rs:List ResultVar) (Qo:St→Prop):Ex→St→Prop
 | .norm,s=> ∃σout,Qo σout∧uK T io rs σout s
 | .ret,s=> ∃σout,Qo σout∧uK T io rs σout s
 | .exit _,_=>False
theorem qd {P:Program} {T:fT} (hT:dL P T) {f:FuncId} {fn:Func} {c:Code} {n:Nat} {σin:St} {Qo:St→Prop} (hf:P.funcs[f]? =some fn) (hb:fn.body=some c) (hname: (fn.name== "runtime.NumGoroutine")=false) (hn:n≤fn.ntmps) (hfit:qP fn.ntmps c=true)
 (hsl:oA n σin=true) (h:SW P (bO σin) c (aA8 T (bO σin) fn.results.toList Qo) σin):SpecE P f n σin Qo:=by
 refine⟨⟨fn,hf,by rw[hb];rfl,hname⟩,fun ι ν S w args hgb hvr hsz hargs=> ?_⟩
 have hnu: ∀s,s<n→(args++Array.replicate (fn.ntmps - args.size) undef).getD s undef=ν s:=by
  intro s hs
  rw[Array.getD_eq_getD_getElem?,Array.getElem?_append_left (by omega),hargs s hs];rfl
 let cx:Cx P:={N:=fn.ntmps,w0:=w,S0:=S,k0:=fun o=>aP σin (.o o),kio:=fun o=>aP σin (.o o),ι0:=ι,gb:=hgb.weak fun b ⟨o,k,q1,q2,q3⟩=>⟨o,⟨k,q1,q2⟩,q3⟩}
 have hM: ∀b,cx.M b↔ ∃o,jC σin ι o b:=fun b=>⟨fun⟨o,k,q1,q2,q3⟩=>⟨o,⟨k,q1,q2⟩,q3⟩,fun⟨o,⟨k,q1,q2⟩,q3⟩=>⟨o,k,q1,q2,q3⟩⟩
 have hw:RW cx σin ι S {tmps:=args++Array.replicate (fn.ntmps - args.size) undef,defers:=[]} w:=by
  refine⟨⟨fun s x hx=> ?_,hvr.objs,hvr.mutS,hvr.inj,hvr.sz⟩,?_,rfl,Fr.refl _ _,fun o b ⟨⟨k,q1,q2⟩,q3⟩=> .inr ⟨o,k,q1,q2,q3⟩,fun b hb=> .inl hb,fun o k hk=>⟨k,hk,lF.refl' _ _⟩⟩
  · have hs:=qQ hsl s _ hx
    have:gS {tmps:=args++Array.replicate (fn.ntmps - args.size) undef,defers:=[]} s=ν s:=hnu s hs
    rw[this];exact hvr.slots s x hx
  · show(args++Array.replicate (fn.ntmps - args.size) undef).size=fn.ntmps
    simp;omega
 refine calls_of_wp hf hb (wp_mono (h cx ι S _ w (fun o k hk=>dQ hk) hw hfit) fun e a' w' hq=> ?_)
 have fin: (∃σ' ι' S',(∃σout,Qo σout∧uK T (bO σin) fn.results.toList σout σ')∧RW cx σ' ι' S' a' w')→a'.defers=[]∧ ∃v,(results fn a'.tmps).run P w'= .ok v w'∧ ∃v_1 ι' S' σout,Qo σout∧Ending.returned v= .returned v_1∧aFe σin ι S w σout ι' S' w' v_1:=by
  rintro⟨σ',ι',S',⟨σout,hQo,X,rl,bor,hX,hm,hio⟩,hw'⟩
  obtain⟨v,hr,hv⟩:=lu hT hw' hX
  refine⟨hw'.defers,v,hr,v,fun j=>ι' (iB rl j),nZ σ' ι' bor S',σout,hQo,rfl,?_⟩
  have hlo: ∀o,aP ((cL.t 0,K.v X)::cT σ') (.o o)=aP σ' (.o o):=fun o=>by simp only[aP];rw[aB (by simp),lZ]
  have st:mT σ' ι' S' w' ((cL.t 0,K.v X)::cT σ') ι' S' w':=⟨fun _ h=>h,fun _ _=>rfl,fun o k hk=>⟨k,by rw[hlo];exact hk,lF.refl' _ _⟩⟩
  have hmut: ∀o b,jC ((cL.t 0,K.v X)::cT σ') ι' o b↔jC σ' ι' o b:=fun o b=>by unfold jC;rw[hlo]
  have hlt: ∀(r:St) s k,aP (cT r) (.t s)=some k→False:=by
   intro r s k
   induction r with
   |nil=>intro h;cases h
   |cons p r ih=>
    obtain⟨l,k'⟩:=p
    cases l with
    |t n=>exact ih
    |o n=>simp only[cT,aP];rw[aB (by simp)];exact ih
  have hvr0:VR ((cL.t 0,K.v X)::cT σ') ι' (fun _=>v) S' w':=by
   refine⟨fun s x hx=> ?_,fun o k hk=>OR.step st (fun _ _=>rfl) (hw'.vr.objs o k (by rw[← hlo];exact hk)),fun o b q=>hw'.vr.mutS o b ((hmut o b).1 q),fun o o' b q q'=>hw'.vr.inj o o' b ((hmut o b).1 q) ((hmut o' b).1 q'),hw'.vr.sz⟩
   simp only[aP] at hx
   split at hx
   · cases hx;exact kZ.step st hv
   · exact(hlt σ' s _ hx).elim
  have hvr1:=pU hm (fun _ _ h=>h) hvr0
  have hio2: ∀o∈bO σin,gW o (bO σout)=false∨Nat.beq (iB rl o) o=true:=by simpa only[lv,aNt,Bool.or_eq_true,Bool.not_eq_true'] using hio
  have hgive: ∀b,nZ ((cL.t 0,K.v X)::cT σ') ι' bor S' b→nZ σ' ι' bor S' b:=fun b hb=>hb.imp id fun⟨o,ho,q⟩=>⟨o,ho,(hmut o b).1 q⟩
  refine⟨⟨hw'.fr.os,hw'.fr.tape,hw'.fr.output,hw'.fr.size,fun b hb hnm=>hw'.fr.block b hb (fun h=>hnm ((hM b).1 h))⟩,?_,fun b hb=> ?_,fun j b hmu=> ?_,fun o k k' hk hk'=> ?_⟩
  · have e:nZ ((cL.t 0,K.v X)::cT σ') ι' bor S'=nZ σ' ι' bor S':=by
     funext b;apply propext;exact⟨hgive b,fun hb=>hb.imp id fun⟨o,ho,q⟩=>⟨o,ho,(hmut o b).2 q⟩⟩
    rw[← e];exact hvr1
  · rcases hb with hb|⟨o,ho,hmo⟩
    · exact(hw'.rd b hb).imp id fun h=>h.imp id fun h=>(hM b).1 h
    · exact .inr ((hw'.own o b hmo).imp id fun h=>(hM b).1 h)
  · exact(hw'.own _ b ((hmut _ b).1 (hm.mut (fun _ _ h=>h) hmu))).imp id fun h=>(hM b).1 h
  · have hren:iB rl o=o:=by
     rcases hio2 o (dQ hk) with h4|h4
     · rw[fD.2 (dQ hk')] at h4;cases h4
     · exact Nat.eq_of_beq_eq_true h4
    obtain⟨k1,hk1,hev⟩:=hw'.io o k hk
    have hev:lF (ι o) (ι' o) k k1:=hev
    obtain⟨k2,hk2,hmk⟩:=hm.ids o k' hk'
    rw[hren,hlo,hk1] at hk2;cases hk2
    rw[hren]
    exact ut hev hmk
 cases e with
 |normal=>
  obtain⟨σ',ι',S',h1,h2⟩:=hq
  exact fin ⟨σ',ι',S',h1,h2⟩
 |ret=>
  obtain⟨σ',ι',S',h1,h2⟩:=hq
  exact fin ⟨σ',ι',S',h1,h2⟩
 |exit id=>obtain⟨σ',ι',S',h1,h2⟩:=hq;exact h1.elim
 |goto l=>exact hq.elim
 |panic ch=>exact hq.elim
 |outgrown=>exact hq.elim
section
variable {P:Program} {f:FuncId} {n:Nat} {σin:St} {Qo:St→Prop} {rl:List (Nat×Nat)} {bor:List Nat} {σ0:St} {Xs:List V} {Ra:List (cL×Option K)} {robj:List (Nat×K)} {news:List Nat}
def aFo (Ra:List (cL×Option K)) (robj:List (Nat×K)) (rl:List (Nat×Nat)) (news:List Nat):List (cL×Option K):=
 Ra++robj.map (fun p=>(.o p.1,some p.2))++news.map fun j=>(.o (iB rl j),none)
theorem su (hs:SpecE P f n σin Qo) {o:Oper} {c:Call} (ho:o.op= .call c) (hc:c.callee= .value (.func f)) (hx:kz σ0 c.args.toList=some (Xs,Ra)) (hn:Xs.length=n)
 (hm:jO (dA 0 Xs++kA robj) σin rl bor) (hq: ∀σout,Qo σout→fZ rl σin σout=true∧(bor=[]∨iC σout)∧ ∀j∈eJ σin σout,j∈news):
 OpE P o (aFo Ra robj rl news) fun W=> ∃σout,Qo σout∧W=gM rl σin σout o.dst:=by
 intro cx σ ι S a w hr hw hd next Q hnext
 obtain⟨⟨fn,hf,hbody,hname⟩,hcall⟩:=hs
 obtain⟨hlen,hargs⟩:=zF hw hx hr.left.left
 let args:Array Value:=c.args.map a.eval
 let ν:Nat→Value:=fun i=>(args[i]?).getD undef
 have hsz:args.size=n:=by show(c.args.map a.eval).size=n;rw[Array.size_map,← hn,hlen,Array.length_toList]
 have hargν: ∀i,i<n→args[i]? =some (ν i):=fun i hi=>by
  show args[i]? =some ((args[i]?).getD undef)
  rw[Array.getElem?_eq_getElem (by omega)];rfl
 have hνr: ∀s X,Xs[s]? =some X→kZ σ ι w S X (ν s):=fun s X hX=>by
  obtain⟨x,h1,h2⟩:=hargs s X hX
  have:ν s=a.eval x:=by
   show((c.args.map a.eval)[s]?).getD undef=a.eval x
   rw[Array.getElem?_toList] at h1
   rw[Array.getElem?_map,h1];rfl
  rw[this];exact h2
 have hlo: ∀o,aP (dA 0 Xs++cT σ) (.o o)=aP σ (.o o):=fun o=>by rw[gZ,lZ]
 have st:mT σ ι S w (dA 0 Xs++cT σ) ι S w:=⟨fun _ h=>h,fun _ _=>rfl,fun o k hk=>⟨k,by rw[hlo];exact hk,lF.refl' _ _⟩⟩
 have hmut: ∀o b,jC (dA 0 Xs++cT σ) ι o b↔jC σ ι o b:=fun o b=>by unfold jC;rw[hlo]
 have hvr0:VR (dA 0 Xs++cT σ) ι ν S w:=by
  refine⟨fun s x hx=> ?_,fun o k hk=>OR.step st (fun _ _=>rfl) (hw.vr.objs o k (by rw[← hlo];exact hk)),fun o b q=>hw.vr.mutS o b ((hmut o b).1 q),fun o o' b q q'=>hw.vr.inj o o' b ((hmut o b).1 q) ((hmut o' b).1 q'),hw.vr.sz⟩
  obtain⟨X,h1,h2⟩:=qD hx
  cases h2
  exact kZ.step st (hνr s _ h1)
 have hsub: ∀l k,aP (dA 0 Xs++kA robj) l=some k→aP (dA 0 Xs++cT σ) l=some k:=fun l k h=>by
  cases l with
  |o o=>
   rw[hlo]
   rw[gZ] at h
   exact hr (.o o,some k) (List.mem_append_left _ (List.mem_append_right _ (aNr.2 ⟨(o,k),vP h,rfl⟩)))
  |t s=>
   obtain⟨X,h1,rfl⟩:=oD h
   have hs:=(aNq.1 h1).1
   rw[nM 0 Xs _ s (aNj _) (by omega)];simp[h1]
 have hvr1:=pU hm hsub hvr0
 have hgb:GB P w fun b=> ∃o,jC σin (fun j=>ι (iB rl j)) o b:=fun w2 h2=>cx.gb w2 (hw.fr.trans h2 fun x hx ⟨o,ho⟩=>by
  rcases hw.own _ x ((hmut _ _).1 (hm.mut hsub ho)) with h3|h3
  · omega
  · exact h3)
 have hcl:=hcall _ ν _ w args hgb hvr1 hsz hargν
 obtain⟨callee,cargs,argTypes⟩:=c
 dsimp only at hc
 subst hc
 have hbd: ∃cd,fn.body=some cd:=by
  cases hq:fn.body with
  |none=>rw[hq] at hbody;cases hbody
  |some cd=>exact⟨cd,rfl⟩
 obtain⟨cd,hbd⟩:=hbd
 have hrun: (execOp a.eval o).run P w= .ok (.enter f args) w:=by
  have h1:=MuLone.run_callFunc_enter (P:=P) hf hname hbd args w
  have e: (execOp a.eval o).run P w=(callFunc f (args++ #[])).run P w:=by
   simp[execOp,ho,resolve,invoke,Deferred.ofValue,args,Act.eval]
  rw[e,Array.append_empty];exact h1
 unfold Oper.wp
 rw[hrun,Oper.upon_enter]
 intro cs
 obtain⟨e,w',fr,⟨v,ι',S',σout,hQo,rfl,hpost⟩,hcomes⟩:=hcl cs
 refine⟨_,w',fr,?_,hcomes⟩
 dsimp only
 obtain⟨hk,hb,hnw⟩:=hq σout hQo
 have hr':bX (oW Ra robj rl σin σout) σ:=by
  intro p hp
  rcases List.mem_append.1 hp with hp|hp
  · exact hr p (List.mem_append_left _ hp)
  · obtain⟨j,hj,rfl⟩:=aNr.1 hp
    exact hr (.o (iB rl j),none) (List.mem_append_right _ (aNr.2 ⟨j,hnw j hj,rfl⟩))
 have hrw:=uy (Ra:=Ra) hm hk hb hr' hw hνr hpost
 have hSK: ∀{l:cL} {k:K},aP σout l=some k→(∀b,S' b→(S b∨(bor=[]∧S' b)))∨oC k:=fun{l k} h=>by
  rcases hb with e|hs
  · exact .inl fun b hb=> .inr ⟨e,hb⟩
  · exact .inr (hs (l,k) (pT h))
 have hnext:=hnext _ ⟨σout,hQo,rfl⟩
 cases hdst:o.dst with
 |none=>
  refine hnext (kG rl σout ι' ι) (fun b=>S b∨(bor=[]∧S' b)) _ w' ?_
  rw[hdst]
  simp only[gM,xR,List.append_nil]
  exact hrw
 |some d=>
  have hd':=hd d hdst
  cases hq:aP σout (.t 0) with
  |none=>
   refine hnext (kG rl σout ι' ι) (fun b=>S b∨(bor=[]∧S' b)) _ w' ?_
   rw[hdst]
   simp only[gM,xR,gN,hq,eV]
   exact hrw.putDead hd' v
  |some k=>
   cases k with
   |v X=>
    refine hnext (kG rl σout ι' ι) (fun b=>S b∨(bor=[]∧S' b)) _ w' ?_
    rw[hdst]
    simp only[gM,xR,gN,hq,eV]
    exact hrw.put hd' (uw hk (hSK hq) (hpost.vr.slots 0 (.v X) hq))
   |_=>
    refine hnext (kG rl σout ι' ι) (fun b=>S b∨(bor=[]∧S' b)) _ w' ?_
    rw[hdst]
    simp only[gM,xR,gN,hq,eV]
    exact hrw.putDead hd' v
end
theorem RW.weaken {P:Program} {cx:Cx P} {io:List Nat} {σ:St} {ι:Nat→Value} {S:Nat→Prop} {a:Act} {w:World} (σ':St) (rl:List (Nat×Nat)) (bor:List Nat) (hm:jO σ σ' rl bor) (hk:vM io σ' rl bor=true) (hio: ∀o k,cx.kio o=some k→o∈io) (hw:RW cx σ ι S a w):RW cx σ' (fun j=>ι (iB rl j)) (nZ σ ι bor S) a w:=by
 have hkk: ∀o k,cx.kio o=some k→iB rl o=o∧o∈bO σ'∧o∉bor:=fun o k ho=>by
  have:=aNt.1 hk o (hio o k ho)
  simp only[aNi,Bool.not_eq_true'] at this
  refine⟨Nat.eq_of_beq_eq_true this.1.1,fD.1 this.1.2,fun hb=> ?_⟩
  rw[fD.2 hb] at this;cases this.2
 have hvr:=pU hm (fun _ _ h=>h) hw.vr
 refine⟨hvr,hw.size,hw.defers,hw.fr,fun j b hmu=> ?_,fun b hb=> ?_,fun o k ho=> ?_⟩
 · exact hw.own _ b (hm.mut (fun _ _ h=>h) hmu)
 · rcases hb with hb|⟨o,ho,hmo⟩
   · exact hw.rd b hb
   · exact .inr (hw.own o b hmo)
 · obtain⟨q1,q2,q3⟩:=hkk o k ho
   obtain⟨k1,hk1,hev⟩:=hw.io o k ho
   obtain⟨p,hp⟩:=nY q2
   obtain⟨k2,hk2,hmk⟩:=hm.ids o p hp
   rw[q1] at hk2
   rw[hk1] at hk2;cases hk2
   refine⟨p,hp,?_⟩
   rw[q1]
   exact ut hev hmk
theorem RW.freeze {P:Program} {cx:Cx P} {σ:St} {ι:Nat→Value} {S:Nat→Prop} {a:Act} {w:World} (hw:RW cx σ ι S a w) {s o n:Nat} {e:TypeId} {es:Nat} {rows:List (List D)} (hs:aP σ (.t s)=some (.v (.e (.c (.own o n))))) (ho:aP σ (.o o)=some (.row e es rows)) (hn:rows.length=n):
 RW cx (kF (kF σ (.o o) .dead) (.t s) (.v (Dv (.sl rows)))) ι (fun b=>S b∨sP (ι o) b) a w:=by
 have hlo: ∀o',aP (kF (kF σ (.o o) .dead) (.t s) (.v (Dv (.sl rows)))) (.o o')=if o'=o then some .dead else aP σ (.o o'):=fun o'=>by
  rw[cF _ _ (by simp),dX]
  by_cases h:o'=o
  · subst h;simp
  · rw[aB (by simpa using fun e=>h e.symm),aB h]
 have hmut: ∀o' b,jC (kF (kF σ (.o o) .dead) (.t s) (.v (Dv (.sl rows)))) ι o' b→o'≠o∧jC σ ι o' b:=fun o' b ⟨⟨k,hk,hl⟩,hb⟩=>by
  rw[hlo] at hk
  by_cases h:o'=o
  · rw[aC h] at hk;cases hk;exact hl.elim
  · rw[aB h] at hk;exact⟨h,⟨k,hk,hl⟩,hb⟩
 have hmo: ∀b,sP (ι o) b→jC σ ι o b:=fun b hb=>⟨⟨_,ho,trivial⟩,hb⟩
 have st:mT σ ι S w (kF (kF σ (.o o) .dead) (.t s) (.v (Dv (.sl rows)))) ι (fun b=>S b∨sP (ι o) b) w:=by
  refine⟨fun b h=> .inl h,fun _ _=>rfl,fun o' k hk=> ?_⟩
  by_cases h:o'=o
  · exact⟨.dead,by rw[hlo,aC h],by cases k<;>simp[lF]⟩
  · exact⟨k,by rw[hlo,aB h];exact hk,lF.refl' _ _⟩
 have hrow:=hw.vr.objs o _ ho
 have hv:gS a s=ι o:=by
  obtain⟨_,h2⟩:=(show CR σ ι w S (.own o n) (gS a s) from hw.vr.slots s _ hs)
  rcases h2 with⟨e2,es2,rows2,hl,_,hv⟩|hd
  · rw[ho] at hl;cases hl;exact hv hn
  · rw[ho] at hd;cases hd
 refine⟨⟨fun t k hkt=> ?_,fun o' k hk=> ?_,fun o' b hm hS=> ?_,fun o1 o2 b h1 h2=> ?_,fun b hb=> ?_⟩,hw.size,hw.defers,hw.fr,fun o' b hm=>hw.own o' b (hmut o' b hm).2,fun b hb=> ?_,fun o' k hk'=> ?_⟩
 · rw[dX] at hkt
   by_cases e2:s=t
   · subst e2
     rw[aC rfl] at hkt;cases hkt
     show DR w _ (.sl rows) (gS a s)
     rw[hv]
     rcases hrow with⟨h1,h2⟩|⟨g,off,cap,cur,fz,h1,hh,hfz,h2,h3,h4,h5⟩
     · rw[h1,h2]
       exact DR.sl [] none 0 es ⟨0,0,none⟩ (fun _ _=>undef) (aNp _) (by decide) (by simp) (by simp) (by simp) (by simp)
     · rw[h1]
       let u:Nat→Nat→Value:=fun i k=>(cur[off+i*es+k]?).getD undef
       refine DR.sl rows (some ⟨g,off,none⟩) cap es ⟨g,off,none⟩ u h2 h3 (fun r hr=> ?_) (fun _=>rfl) (fun i r k d hi hd=> ?_) (fun i r k d hi hd=> ?_)
       · obtain⟨i,hi⟩:=List.mem_iff_getElem?.1 hr
         exact(h5 i r hi).1
       · obtain⟨v,hv1,_⟩:=(h5 i r hi).2 k d hd
         refine⟨.inr rfl,?_⟩
         rw[nK,cell_of_row w g _ cur e fz hh,← Nat.add_assoc]
         show cur[off+i*es+k]? =some ((cur[off+i*es+k]?).getD undef)
         rw[hv1];rfl
       · obtain⟨v,hv1,hv2⟩:=(h5 i r hi).2 k d hd
         have:u i k=v:=by show(cur[off+i*es+k]?).getD undef=v;rw[hv1];rfl
         rw[this]
         exact DR.mono (fun b h=> .inl h) (fun _ _=>rfl) hv2
   · rw[aB (by simpa using e2),cF _ _ (by simp)] at hkt
     exact oU.step st (hw.vr.slots t k hkt)
 · rw[hlo] at hk
   by_cases h:o'=o
   · rw[aC h] at hk;cases hk;trivial
   · rw[aB h] at hk
     exact OR.step st (fun _ _=>rfl) (hw.vr.objs o' k hk)
 · obtain⟨hne,hm⟩:=hmut o' b hm
   rcases hS with hS|hS
   · exact hw.vr.mutS o' b hm hS
   · exact hne (hw.vr.inj o' o b hm (hmo b hS))
 · exact hw.vr.inj o1 o2 b (hmut o1 b h1).2 (hmut o2 b h2).2
 · rcases hb with hb|hb
   · exact hw.vr.sz b hb
   · exact OR.lt hrow trivial hb
 · rcases hb with hb|hb
   · exact hw.rd b hb
   · exact .inr (hw.own o b (hmo b hb))
 · obtain⟨k2,q1,q2⟩:=hw.io o' k hk'
   by_cases hne:o'=o
   · exact⟨.dead,by rw[hlo,aC hne],by cases k<;>trivial⟩
   · exact⟨k2,by rw[hlo,aB hne];exact q1,q2⟩
def xv (io:List Nat) (σ σ1:St):Prop:= ∀(P:Program) (cx:Cx P) (ι:Nat→Value) (S:Nat→Prop) (a:Act) (w:World),(∀o k,cx.kio o=some k→o∈io)→RW cx σ ι S a w→ ∃ι' S',RW cx σ1 ι' S' a w
theorem xv.rfl {io:List Nat} {σ:St}:xv io σ σ:=fun _ cx ι S a w _ h=>⟨ι,S,h⟩
theorem xv.trans {io:List Nat} {σ σ1 σ2:St} (h:xv io σ σ1) (k:xv io σ1 σ2):xv io σ σ2:=fun _ cx ι S a w hio hw=>by
 obtain⟨ι1,S1,h1⟩:=h _ cx ι S a w hio hw
 exact k _ cx ι1 S1 a w hio h1
theorem xv.weak {io:List Nat} {σ σ1:St} (rl:List (Nat×Nat)) (bor:List Nat) (hm:mL σ σ1 rl bor σ1) (hm2:xQ σ1 rl bor=true) (hk:vM io σ1 rl bor=true):xv io σ σ1:=fun _ cx ι S a w hio hw=>⟨_,_,RW.weaken σ1 rl bor ⟨hm,hm2⟩ hk hio hw⟩
def aFp (P:Program) (T:fT) (io:List Nat) (o:Oper) (σ:St) (k:St→Prop):Prop:=
 match ge T o σ with
 |some (p,_,W)=>p∧mN σ W k
 |none=> ∃σ1,xv io σ σ1∧ ∃R Ws,OpE P o R Ws∧bX R σ1∧ ∀W,Ws W→mN σ1 W k
theorem xw {P:Program} {T:fT} (hT:dL P T) {io:List Nat} {o:Oper} {σ:St} {k:St→Prop} (h:aFp P T io o σ k): ∃σ1,xv io σ σ1∧ ∃R Ws,OpE P o R Ws∧bX R σ1∧ ∀W,Ws W→mN σ1 W k:=by
 unfold aFp at h
 split at h
 · rename_i p R W he
   obtain⟨h1,h2⟩:=sV hT o σ p R W he h.1
   exact⟨σ,xv.rfl,R,_,h1.toE,h2,fun W' e=>by subst e;exact h.2⟩
 · exact h
def goE (P:Program) (T:fT) (io:List Nat) (ops:List Oper):List Oper→St→(St→Prop)→Prop
 | [],σ,k=>k σ
 |o::os,σ,k=>match o.guard with
  |none=>aFp P T io o σ fun σ'=>goE P T io ops os σ' k
  |some (j,want)=>match(ops[j]?).bind (·.dst),o.dst with
   |some s,some d=>match gOf want (aP σ (.t s)) with
    |some g=>ci P T o σ s want g d fun R X=>xk σ (.t d) (.cv s want g X) fun σ'=>goE P T io ops os σ' k
    |none=>False
   |_,_=>False
theorem gi {P:Program} {T:fT} (hT:dL P T) {io:List Nat} {ops:Array Oper} {cx:Cx P} (hio: ∀o k,cx.kio o=some k→o∈io) {Q:Exit→Act→World→Prop} {k:St→Prop} (hk: ∀σ ι S a w,k σ→RW cx σ ι S a w→Q .normal a w): ∀(l:List Oper) (σ:St) (ι:Nat→Value) (S:Nat→Prop) (a:Act) (w:World),goE P T io ops.toList l σ k→RW cx σ ι S a w→(∀o∈l,∀d,o.dst=some d→d<cx.N)→wpList P ops Q l a w
 | [],σ,ι,S,a,w,h,hw,hf=>hk σ ι S a w h hw
 |o::os,σ,ι,S,a,w,h,hw,hf=>by
  have hfo:=hf o (List.mem_cons_self ..)
  have hfs: ∀o∈os,∀d,o.dst=some d→d<cx.N:=fun o ho=>hf o (List.mem_cons_of_mem _ ho)
  unfold wpList
  simp only[goE] at h
  split at h
  · rename_i hg
    obtain⟨σ1,hwk,R,Ws,h1,h2,h3⟩:=xw hT h
    rw[aC (by simp[Region.wanted,hg])]
    obtain⟨ι1,S1,hw1⟩:=hwk _ cx ι S a w hio hw
    refine .inl (h1 cx σ1 ι1 S1 a w h2 hw1 hfo _ Q fun W hW ι' S' a' w' hw'=> ?_)
    have h3:=h3 W hW
    rw[jJ] at h3
    exact gi hT hio hk os _ ι' S' a' w' h3 hw' hfs
  · rename_i j want hg
    split at h<;>try(exact h.elim)
    rename_i s d hs hd
    split at h<;>try(exact h.elim)
    rename_i g hl
    have hs': (ops[j]?).bind (·.dst)=some s:=by simpa using hs
    obtain⟨R,X,h1,h2⟩:=xX hT hg hs' hd hl h
    rw[uL] at h2
    exact h1 cx σ ι S a w cj hw hfo _ Q fun ι' S' a' w' hw'=>gi hT hio hk os _ ι' S' a' w' (by simpa[eV] using h2) hw' hfs
section
variable {P:Program} {io:List Nat} {Q:Ex→St→Prop} {σ:St}
theorem SW.regE {T:fT} (hT:dL P T) (ks:List Nat) {id:Nat} {ops:Array Oper} (h:goE P T io ops.toList ops.toList σ fun σ'=>rV ks σ' (Q .norm)):SW P io (.region id ops false) Q σ:=by
 intro cx ι S a w hio hw hf
 have hfit: ∀o∈ops.toList,∀d,o.dst=some d→d<cx.N:=fun o ho=>xN (by simpa[qP] using hf) ho
 refine wp_region_list (gi hT hio (fun σ' ι' S' a' w' h4 hw'=> ?_) ops.toList σ ι S a w h hw hfit)
 rw[mA] at h4
 exact⟨_,ι',S',h4,hw'.keep ks⟩
end
section
variable {P:Program} {T:fT} {io:List Nat} {f:FuncId} {n:Nat} {σin:St} {o:Oper} {c:Call} {d:Nat} {σ σ1:St} {Xs:List V} {Ra:List (cL×Option K)}
theorem dJ {Qo:St→Prop} {rl:List (Nat×Nat)} {bor news:List Nat} {robj:List (Nat×K)} {k:St→Prop} (hs:SpecE P f n σin Qo) (ho:o.op= .call c) (hc:c.callee= .value (.func f)) (hx:kz σ c.args.toList=some (Xs,Ra)) (hn:Xs.length=n)
 (hm:jO (dA 0 Xs++kA robj) σin rl bor) (hq: ∀σout,Qo σout→fZ rl σin σout=true∧(bor=[]∨iC σout)∧ ∀j∈eJ σin σout,j∈news) (h1: ∀p∈robj,aP σ (.o p.1)=some p.2) (h2: ∀j∈news,aP σ (.o (iB rl j))=none)
 (h: ∀σout,Qo σout→mN σ (gM rl σin σout o.dst) k): ∃σ1,xv io σ σ1∧ ∃R Ws,OpE P o R Ws∧bX R σ1∧ ∀W,Ws W→mN σ1 W k:=by
 refine⟨σ,xv.rfl,_,_,su hs ho hc hx hn hm hq,fun p hp=> ?_,fun W ⟨σout,hQ,e⟩=>e▸h σout hQ⟩
 rcases List.mem_append.1 hp with hp|hp
 · rcases List.mem_append.1 hp with hp|hp
   · exact pC hx p hp
   · obtain⟨q,hq,rfl⟩:=aNr.1 hp
     exact h1 q hq
 · obtain⟨j,hj,rfl⟩:=aNr.1 hp
   exact h2 j hj
theorem aH7 {k:St→Prop} (h: ∃R W,xH P o R W∧bX R σ∧mN σ W k): ∃σ1,xv io σ σ1∧ ∃R Ws,OpE P o R Ws∧bX R σ1∧ ∀W,Ws W→mN σ1 W k:=by
 obtain⟨R,W,h1,h2,h3⟩:=h
 exact⟨σ,xv.rfl,R,_,h1.toE,h2,fun W' e=>by subst e;exact h3⟩
end
theorem kH {T:fT} {io:List Nat} {rs:List ResultVar} {Qo:St→Prop} {s:St} (σout:St) (hq:Qo σout) (h:uK T io rs σout s): ∃σout,Qo σout∧uK T io rs σout s:=⟨σout,hq,h⟩
def inP (p v:Value):Prop:= ∃vs,p= .tuple vs∧v∈vs.toList
abbrev aM7 (b tot:Nat):Value:= .slice (some ⟨b,0,none⟩) tot tot
def ve (w:World) (S:Nat→Prop) (e:TypeId) (es:Nat) (Pr:List D→Prop) (b tot:Nat):Prop:=
 ∃(cur:Array Value) (fz:Nat×Nat),w.heap[b]? =some (.cells cur e fz)∧aEu fz cur.size∧cur.size=tot*es∧ ∀i,i<tot→ ∃r:List D,r.length=es∧Pr r∧ ∀(k:Nat) d,r[k]? =some d→ ∃u,cur[i*es+k]? =some u∧DR w S d u
theorem ve.mono {w w':World} {S S':Nat→Prop} {e:TypeId} {es:Nat} {Pr:List D→Prop} {b tot:Nat} (hS: ∀b,S b→S' b) (hw: ∀b,S b→w'.heap[b]? =w.heap[b]?) (hb:w'.heap[b]? =w.heap[b]?) (h:ve w S e es Pr b tot):ve w' S' e es Pr b tot:=by
 obtain⟨cur,fz,hh,hf,hs,hr⟩:=h
 refine⟨cur,fz,by rw[hb];exact hh,hf,hs,fun i hi=> ?_⟩
 obtain⟨r,q1,q2,q3⟩:=hr i hi
 exact⟨r,q1,q2,fun k d hk=>by obtain⟨u,hu,hd⟩:=q3 k d hk;exact⟨u,hu,DR.mono hS hw hd⟩⟩
def slQ (es n:Nat) (p v:Value):Prop:=(v= .slice none 0 0∧n=0)∨ ∃b i0 cap tot,v= .slice (some ⟨b,i0*es,none⟩) n cap∧n≤cap∧cap≤maxLen∧i0+cap≤tot∧inP p (aM7 b tot)
def ptQ (es k:Nat) (p v:Value):Prop:= ∃b i tot,v= .pointer (some ⟨b,i*es+k,none⟩)∧i<tot∧inP p (aM7 b tot)
abbrev ps (j es n:Nat):C:= .z j (slQ es n)
theorem slQ.mono {es n:Nat} {p p' v:Value} (h: ∀v,inP p v→inP p' v) (hq:slQ es n p v):slQ es n p' v:=by
 rcases hq with hq|⟨b,i0,cap,tot,q1,q2,q3,q4,q5⟩
 · exact .inl hq
 · exact .inr ⟨b,i0,cap,tot,q1,q2,q3,q4,h _ q5⟩
theorem ptQ.mono {es n:Nat} {p p' v:Value} (h: ∀v,inP p v→inP p' v) (hq:ptQ es n p v):ptQ es n p' v:=by
 obtain⟨b,i,tot,q1,q2,q3⟩:=hq
 exact⟨b,i,tot,q1,q2,h _ q3⟩
theorem slQ.one {es n:Nat} {p v:Value} (h:slQ es n p v):v.oneCell'=true:=by
 rcases h with⟨rfl,_⟩|⟨b,i0,cap,tot,rfl,_⟩<;>rfl
section
variable {P:Program} {T:fT} {cx:Cx P} {σ:St} {ι:Nat→Value} {S:Nat→Prop} {a:Act} {w:World} {j es n:Nat} {e:TypeId} {Pr:List D→Prop} {Z:lf} {Q:Value→Value→Prop} {v:Value}
end
section
variable {P:Program} {T:fT} {o:Oper} {σ:St} {x y:Operand} {t e:TypeId} {s1 s2 d j es n:Nat} {s3:List C} {Z:lf} {R R2:List (cL×Option K)} {k:List (cL×Option K)→List (cL×K)→Prop} {Pr:List D→Prop} {ti:TI}
end
section
variable {P:Program} {ops:Array Oper} {cx:Cx P} {Q:Exit→Act→World→Prop} {σ:St}
theorem vf (hedge:pH 0 ops.toList=true) {listed:Array Bool} (hcl: ∀k o,ops[k]? =some o→listed.getD k false=true→ ∀i∈jD o,listed.getD i false=true): ∀(k:Nat),∀o,ops[k]? =some o→(∀i∈jD o,listed.getD i false=true)→ ∀i∈(kU ops.toList []).getD k [],listed.getD i false=true:=by
 have hedge': ∀(j:Nat) o,ops[j]? =some o→ ∀i∈jD o,i<j:=fun j o ho i hi=>by
  have:=nW 0 ops.toList hedge j o (by simpa using ho) i hi;omega
 have hpl: ∀(j:Nat) o,ops[j]? =some o→(kU ops.toList [])[j]? =some ((jD o).flatMap fun i=>i::(kU ops.toList []).getD i []):=fun j o ho=>by
  have:=cc ops.toList [] j o (by simpa using ho) hedge
  simpa using this
 intro k
 induction k using Nat.strongRecOn with
 |_ k ih=>
  intro o ho hp i hi
  rw[aNm,hpl k o ho] at hi
  simp only[Option.getD_some,List.mem_flatMap] at hi
  obtain⟨i',hi',hi⟩:=hi
  rcases aNs.1 hi with rfl|hi
  · exact hp i hi'
  · have hlt:=hedge' k o ho i' hi'
    have hsz':k<ops.size:=(Array.getElem?_eq_some_iff.1 ho).1
    have ho':ops[i']? =some ops[i']:=Array.getElem?_eq_getElem (by omega)
    exact ih i' hlt _ ho' (hcl i' _ ho' (hp i' hi')) i hi
theorem mh {ts:List kT} (hlen:ts.length=ops.size) (hr:iT ts σ) (hok:pI ops.toList ts=true):
 ∀(fuel:Nat) (listed:Array Bool) (σL:St) (ι:Nat→Value) (S:Nat→Prop) (a:Act) (w:World),listed.size=ops.size→(∀l,aP σL l=part ts (fun i=>listed.getD i false) σ l ts.length)→RW cx σL ι S a w→
  (∀k o,ops[k]? =some o→listed.getD k false=true→ ∀i∈jD o,listed.getD i false=true)→
  (Region.ready .any ops listed=[]→RW cx (dM ts σ) ι S a w)∧ ∀i∈Region.ready .any ops listed,∃o t,ops[i]? =some o∧ts[i]? =some t∧i<ops.size∧listed.getD i false=false∧bX t.1 σL∧
   (∀k o,ops[k]? =some o→(listed.setIfInBounds i true).getD k false=true→ ∀i'∈jD o,(listed.setIfInBounds i true).getD i' false=true)∧(∀j,(listed.setIfInBounds i true).getD j false=if j=i then true else listed.getD j false)∧
   ∀l,aP (eV σL t.2) l=part ts (fun j=>(listed.setIfInBounds i true).getD j false) σ l ts.length:=by
 simp only[pI,aNi] at hok
 obtain⟨hedge,hpair⟩:=hok
 have hedge': ∀(j:Nat) o,ops[j]? =some o→ ∀i∈jD o,i<j:=fun j o ho i hi=>by
  have:=nW 0 ops.toList hedge j o (by simpa using ho) i hi;omega
 have hpl: ∀(j:Nat) o,ops[j]? =some o→(kU ops.toList [])[j]? =some ((jD o).flatMap fun i=>i::(kU ops.toList []).getD i []):=fun j o ho=>by
  have:=cc ops.toList [] j o (by simpa using ho) hedge
  simpa using this
 intro fuel listed σL ι S a w hsz hlook hw hcl
 have hclosed: ∀(k:Nat),∀o,ops[k]? =some o→(∀i∈jD o,listed.getD i false=true)→ ∀i∈(kU ops.toList []).getD k [],listed.getD i false=true:=by
  intro k
  induction k using Nat.strongRecOn with
  |_ k ih=>
   intro o ho hp i hi
   rw[aNm,hpl k o ho] at hi
   simp only[Option.getD_some,List.mem_flatMap] at hi
   obtain⟨i',hi',hi⟩:=hi
   rcases aNs.1 hi with rfl|hi
   · exact hp i hi'
   · have hlt:=hedge' k o ho i' hi'
     have hsz':k<ops.size:=(Array.getElem?_eq_some_iff.1 ho).1
     have ho':ops[i']? =some ops[i']:=Array.getElem?_eq_getElem (by omega)
     exact ih i' hlt _ ho' (hcl i' _ ho' (hp i' hi')) i hi
 refine⟨fun hnil=> ?_,fun i hi=> ?_⟩
 · have hall: ∀k,k<ops.size→listed.getD k false=true:=by
    intro k
    induction k using Nat.strongRecOn with
    |_ k ih=>
     intro hk
     cases hL:listed.getD k false with
     |true=>rfl
     |false=>
      have ho:ops[k]? =some ops[k]:=Array.getElem?_eq_getElem hk
      have:k∈Region.ready .any ops listed:=mem_ready.2 ⟨nF.2 ⟨by omega,hL⟩,_,ho,fun e he hb=>by
       have hm:e.on∈jD ops[k]:=aNr.2 ⟨e,List.mem_filter.2 ⟨by simpa using he,hb⟩,rfl⟩
       have:=hedge' k _ ho _ hm
       exact ih e.on this (by omega)⟩
      rw[hnil] at this;cases this
   refine hw.congr fun l=> ?_
   rw[hlook l,xO ts σ l _ ts.length (aNp _) (fun i hi=>hall i (by omega)),List.take_length]
 · obtain⟨hun,o,ho,hall⟩:=mem_ready.1 hi
   obtain⟨hisz,hLi⟩:=nF.1 hun
   have hit':i<ts.length:=by omega
   have hti:ts[i]? =some ts[i]:=aNo hit'
   have hpreds: ∀i'∈jD o,listed.getD i' false=true:=by
    intro i' hi'
    obtain⟨e,he,rfl⟩:=aNr.1 hi'
    obtain⟨he1,he2⟩:=List.mem_filter.1 he
    exact hall e (by simpa using he1) he2
   have hset: ∀j,(listed.setIfInBounds i true).getD j false=if j=i then true else listed.getD j false:=by
    intro j
    rw[Array.getD_eq_getD_getElem?,Array.getD_eq_getD_getElem?]
    by_cases e:j=i
    · subst e;simp[hisz]
    · rw[aB e,Array.getElem?_setIfInBounds_ne (fun h=>e h.symm)]
   have later: ∀j u,i<j→listed.getD j false=true→ts[j]? =some u→nL (nE ts[i]) (nE u)=true:=by
    intro j u hij hLj hu
    have hjl:j<ts.length:=(aNq.1 hu).1
    have hoj:ops[j]? =some ops[j]:=Array.getElem?_eq_getElem (by omega)
    rcases nX hpair j i hjl hij (nE ts[i]) (nE u) _ (by simp[hti]) (by simp[hu]) (hpl j _ hoj) with h|h
    · have:=hclosed j _ hoj (hcl j _ hoj hLj) i (by rw[aNm,hpl j _ hoj];exact h)
      rw[hLi] at this;cases this
    · exact h
   have earlier: ∀j u,j<i→listed.getD j false=false→ts[j]? =some u→nL (nE u) (nE ts[i])=true:=by
    intro j u hij hLj hu
    rcases nX hpair i j hit' hij (nE u) (nE ts[i]) _ (by simp[hu]) (by simp[hti]) (hpl i _ ho) with h|h
    · have:=hclosed i _ ho hpreds j (by rw[aNm,hpl i _ ho];exact h)
      rw[hLj] at this;cases this
    · exact h
   have hreads:bX ts[i].1 σL:=by
    intro p hp
    rw[hlook p.1,av hLi (fun j u hj hLj hu=>by
     have:=earlier j u hj hLj hu
     simp only[nL,aNi] at this
     exact xe this.1.2 hp) (fun j u hj hLj hu=>by
     have:=later j u hj hLj hu
     simp only[nL,aNi] at this
     exact xd this.2 hp),show min ts.length i=i by omega,xO ts σ p.1 _ i (by omega) (fun _ _=>rfl)]
    exact xP ts σ hr i _ hti p hp
   refine⟨o,ts[i],ho,hti,by omega,hLi,hreads,fun k o' ho' hk i' hi'=> ?_,hset,fun l=> ?_⟩
   · rw[hset] at hk ⊢
     by_cases e:i'=i
     · rw[aC e]
     · rw[aB e]
       by_cases e2:k=i
       · subst e2;rw[ho] at ho';cases ho';exact hpreds i' hi'
       · rw[aB e2] at hk;exact hcl k o' ho' hk i' hi'
   · rw[iS,lp hti hLi hset (fun j u hj hLj hu hne=>by
      have:=later j u hj hLj hu
      simp only[nL,aNi] at this
      exact xb this.1.1 hne) ts.length,aC hit',hlook l]
     all_goals(cases wr ts[i].2 l<;>rfl)
theorem aA9 {κ:Type} {ts:κ→List kT} {i0:Nat} {o0:Oper} {R0:List (cL×Option K)} {Ws:List (cL×K)→Prop} (hlen: ∀c,(ts c).length=ops.size) (ho0:ops[i0]? =some o0) (hg0:o0.guard=none) (h0:OpE P o0 R0 Ws) (hR0: ∀c t,(ts c)[i0]? =some t→t.1=R0) (hW0: ∀W,Ws W→ ∃c,(ts c)[i0]? =some (R0,W))
 (hit: ∀c (i:Nat) o t,i≠i0→ops[i]? =some o→(ts c)[i]? =some t→ItT P ops o t) (hind: ∀c c' (j:Nat),j≠i0→i0∉ (kU ops.toList []).getD j []→(ts c)[j]? =(ts c')[j]?) (hr: ∀c,iT (ts c) σ) (hok: ∀c,pI ops.toList (ts c)=true) (hf: ∀o∈ops.toList,∀d,o.dst=some d→d<cx.N)
 (hq: ∀c ι' S' a' w',RW cx (dM (ts c) σ) ι' S' a' w'→Q .normal a' w'):
 ∀(fuel:Nat) (c:κ) (listed:Array Bool) (σL:St) (ι:Nat→Value) (S:Nat→Prop) (a:Act) (w:World),listed.size=ops.size→(∀l,aP σL l=part (ts c) (fun i=>listed.getD i false) σ l (ts c).length)→RW cx σL ι S a w→
  (∀k o,ops[k]? =some o→listed.getD k false=true→ ∀i∈jD o,listed.getD i false=true)→((aNu ops.size).filter fun i=> !listed.getD i false).length≤fuel→wpAny P .any ops Q fuel listed a w:=by
 have hedge: ∀c,pH 0 ops.toList=true:=fun c=>by have:=hok c;simp only[pI,aNi] at this;exact this.1
 intro fuel
 induction fuel with
 |zero=>
  intro c listed σL ι S a w hsz hlook hw hcl hcount
  obtain⟨h1,h2⟩:=mh (hlen c) (hr c) (hok c) 0 listed σL ι S a w hsz hlook hw hcl
  have hnil:Region.ready .any ops listed=[]:=by
   apply List.eq_nil_iff_forall_not_mem.2
   intro i hi
   obtain⟨o,t,ho,ht,hlt,hLi,_⟩:=h2 i hi
   have:i∈(aNu ops.size).filter fun i=> !listed.getD i false:=List.mem_filter.2 ⟨List.mem_range.2 hlt,by rw[hLi];rfl⟩
   rw[List.eq_nil_of_length_eq_zero (by omega: ((aNu ops.size).filter fun i=> !listed.getD i false).length=0)] at this
   cases this
  exact⟨hnil,hq c _ _ _ _ (h1 hnil)⟩
 |succ fuel ih=>
  intro c listed σL ι S a w hsz hlook hw hcl hcount
  obtain⟨h1,h2⟩:=mh (hlen c) (hr c) (hok c) 0 listed σL ι S a w hsz hlook hw hcl
  refine⟨fun hn=>hq c _ _ _ _ (h1 hn),fun i hi=> ?_⟩
  obtain⟨o,t,ho,ht,hlt,hLi,hreads,hcl',hset,hlook'⟩:=h2 i hi
  unfold wpOp
  rw[ho]
  have hfo:=hf o (by have:=Array.mem_of_getElem? ho;simpa using this)
  have hdrop:=iy (N:=ops.size) (L:=fun j=>listed.getD j false) (L':=fun j=>(listed.setIfInBounds i true).getD j false) hlt hLi hset
  by_cases hi0:i=i0
  · subst hi0
    rw[ho0] at ho;cases ho
    have hRt:=hR0 c t ht
    dsimp only
    rw[aC (by simp[Region.wanted,hg0])]
    refine .inl (h0 cx σL ι S a w (by rw[← hRt];exact hreads) hw hfo _ Q fun W hW ι' S' a' w' hw'=> ?_)
    obtain⟨c',hc'⟩:=hW0 W hW
    have hsame: ∀l,aP σL l=part (ts c') (fun i=>listed.getD i false) σ l (ts c').length:=fun l=>by
     rw[hlook l,hlen c,hlen c']
     have hclosed:=vf (hedge c) hcl
     have: ∀n,n≤ops.size→part (ts c) (fun i=>listed.getD i false) σ l n=part (ts c') (fun i=>listed.getD i false) σ l n:=by
      intro n
      induction n with
      |zero=>intro _;rfl
      |succ n ihn=>
       intro hn
       rw[lX,lX,ihn (by omega)]
       by_cases hLn:listed.getD n false=true
       · have hon:ops[n]? =some ops[n]:=Array.getElem?_eq_getElem (by omega)
         have hne:n≠i:=fun e=>by rw[e,hLi] at hLn;cases hLn
         have hni:i∉ (kU ops.toList []).getD n []:=fun hm=>by
          have:=hclosed n _ hon (hcl n _ hon hLn) i hm
          rw[hLi] at this;cases this
         rw[hind c c' n hne hni]
       · rw[aB hLn,aB hLn]
     exact this _ (aNp _)
    obtain⟨_,h2'⟩:=mh (hlen c') (hr c') (hok c') 0 listed σL ι S a w hsz hsame hw hcl
    obtain⟨o2,t2,ho2,ht2,_,_,_,_,_,hlook2⟩:=h2' i hi
    rw[hc'] at ht2;cases ht2
    exact ih c' (listed.setIfInBounds i true) (eV σL W) ι' S' a' w' (by simpa using hsz) hlook2 hw' hcl' (by omega)
  · refine hit c i o t hi0 ho ht cx σL ι S a w hreads hw hfo _ Q fun ι' S' a' w' hw'=> ?_
    exact ih c (listed.setIfInBounds i true) (eV σL t.2) ι' S' a' w' (by simpa using hsz) hlook' hw' hcl' (by omega)
end
def aLi:Option kT→kT→Prop
 |none,_=>True
 |some t,t'=>t'=t
def aFq (P:Program) (T:fT) (fx:Nat→Option kT):List Oper→Nat→St→List zS→(St→List zS→Prop)→Prop
 | [],_,σ,acc,k=>k σ acc
 |o::os,i,σ,acc,k=>match o.guard with
  |none=>aCn P T o σ fun R W=>aLi (fx i) (R,W)∧mN σ W fun σ'=>aFq P T fx os (i+1) σ' (acc++[nE (R,W)]) k
  |some _=>False
theorem mi {P:Program} {T:fT} (hT:dL P T) {ops:Array Oper} {fx:Nat→Option kT} {k:St→List zS→Prop}: ∀(l:List Oper) (i:Nat) (σ:St) (acc:List zS),aFq P T fx l i σ acc k→
 ∃ts:List kT,wX P ops l ts∧iT ts σ∧(∀j t,ts[j]? =some t→aLi (fx (i+j)) t)∧k (dM ts σ) (acc++ts.map nE)
 | [],i,σ,acc,h=>⟨[],trivial,trivial,by simp,by simpa[aFq,dM] using h⟩
 |o::os,i,σ,acc,h=>by
  simp only[aFq] at h
  split at h
  · rename_i hg
    obtain⟨R,W,h1,h2,h3,h4⟩:=ji hT h
    rw[jJ] at h4
    obtain⟨ts,q1,q2,q3,q4⟩:=mi hT os _ _ _ h4
    refine⟨(R,W)::ts,⟨xM hg h1,q1⟩,⟨h2,q2⟩,fun j t hj=> ?_,by simpa[dM] using q4⟩
    cases j with
    |zero=>simp at hj;subst hj;exact h3
    |succ j=>rw[show i+(j+1)=i+1+j by omega];exact q3 j t (by simpa using hj)
  · exact h.elim
def aLj (i0:Nat) (fx:Nat→Option kT) (ops:Array Oper):Bool:=(aNu ops.size).all fun j=>decide (j≤i0)||(fx j).isSome||gW i0 ((kU ops.toList []).getD j [])
theorem cm {P:Program} {ops:Array Oper}: ∀(l:List Oper) (ts:List kT),wX P ops l ts→ts.length=l.length∧ ∀(i:Nat) o t,l[i]? =some o→ts[i]? =some t→ItT P ops o t:=by
 intro l
 induction l with
 |nil=>intro ts h;cases ts with
  |nil=>exact⟨rfl,by simp⟩
  |cons t ts=>exact h.elim
 |cons o os ih=>intro ts h;cases ts with
  |nil=>exact h.elim
  |cons t ts=>
   obtain⟨q1,q2⟩:=ih ts h.2
   refine⟨by simp[q1],fun i o' t' ho ht=> ?_⟩
   cases i with
   |zero=>simp at ho ht;subst ho;subst ht;exact h.1
   |succ i=>exact q2 i o' t' (by simpa using ho) (by simpa using ht)
theorem wY: ∀(ts us:List kT) (σ:St),iT ts σ→iT us (dM ts σ)→iT (ts++us) σ
 | [],us,σ,_,h=>h
 |t::ts,us,σ,h1,h2=>⟨h1.1,wY ts us _ h1.2 h2⟩
theorem SW.regDE {P:Program} {T:fT} {io:List Nat} {Q:Ex→St→Prop} {σ:St} (hT:dL P T) (hm:P.follows .mixedOrders=true) (ks:List Nat) (i0:Nat) (fx:Nat→Option kT) {id:Nat} {ops:Array Oper} {o0:Oper} (ho:ops.toList[i0]? =some o0) (hg:o0.guard=none) (hfx:aLj i0 fx ops=true)
 (h:goC P T ops.toList true (ops.toList.take i0) σ [] fun σ1 acc=> ∃R0 Ws,OpE P o0 R0 Ws∧bX R0 σ1∧(∃W,Ws W)∧ ∀W,Ws W→mN σ1 W fun σ2=>aFq P T fx (ops.toList.drop (i0+1)) (i0+1) σ2 (acc++[nE (R0,W)]) fun σ' ns=>gg ops.toList ns=true∧rV ks σ' (Q .norm)):
 SW P io (.region id ops true) Q σ:=by
 intro cx ι S a w hio hw hf
 have hfit: ∀o∈ops.toList,∀d,o.dst=some d→d<cx.N:=fun o ho=>xN (by simpa[qP] using hf) ho
 obtain⟨tA,h1,h2,acc,h3,R0,Ws,h4,h5,⟨W0,hW0⟩,h6⟩:=uN hT (ops.toList.take i0) σ [] h
 have h3:=h3 rfl
 rw[List.nil_append] at h3
 subst h3
 have hi0:i0<ops.toList.length:=(aNq.1 ho).1
 have hsz:ops.toList.length=ops.size:=Array.length_toList
 have hAl:tA.length=i0:=by rw[(cm _ _ h1).1,aNn];omega
 have h7: ∀W: {W // Ws W},∃tB:List kT,wX P ops (ops.toList.drop (i0+1)) tB∧iT tB (eV (dM tA σ) W.1)∧(∀j t,tB[j]? =some t→aLi (fx (i0+1+j)) t)∧gg ops.toList ((tA.map nE++[nE (R0,W.1)])++tB.map nE)=true∧Q .norm (Ab.keep ks (dM tB (eV (dM tA σ) W.1))):=fun⟨W,hW⟩=>by
  have h8:=h6 W hW
  rw[jJ] at h8
  obtain⟨tB,q1,q2,q3,q4,q5⟩:=mi (ops:=ops) hT _ _ _ _ h8
  rw[mA] at q5
  exact⟨tB,q1,q2,q3,q4,q5⟩
 let tB:=fun W: {W // Ws W}=>Classical.choose (h7 W)
 have hB:=fun W: {W // Ws W}=>Classical.choose_spec (h7 W)
 let ts:=fun W: {W // Ws W}=>tA++(R0,W.1)::tB W
 have hBl: ∀W,(tB W).length=ops.size - (i0+1):=fun W=>by have:=(cm _ _ (hB W).1).1;rw[aNv,hsz] at this;exact this
 have hrun: ∀W,dM (ts W) σ=dM (tB W) (eV (dM tA σ) W.1):=fun W=>by
  show dM (tA++(R0,W.1)::tB W) σ=_
  rw[tN];rfl
 have hget: ∀W j,(ts W)[j]? =if j<i0 then tA[j]? else if j=i0 then some (R0,W.1) else(tB W)[j - (i0+1)]?:=fun W j=>by
  show(tA++(R0,W.1)::tB W)[j]? =_
  by_cases c1:j<i0
  · rw[aC c1,List.getElem?_append_left (by omega)]
  · rw[aB c1,List.getElem?_append_right (by omega),hAl]
    by_cases c2:j=i0
    · rw[aC c2,c2,Nat.sub_self];rfl
    · rw[aB c2,show j - i0=(j - (i0+1))+1 by omega,List.getElem?_cons_succ]
 have hlen: ∀W,(ts W).length=ops.size:=fun W=>by
  show(tA++(R0,W.1)::tB W).length=_
  rw[aNh,aNk,hBl,hAl];omega
 have ho':ops[i0]? =some o0:=by simpa using ho
 refine wp_region_any hm (aA9 (κ:={W // Ws W}) (cx:=cx) (σ:=σ) (ts:=ts) (i0:=i0) hlen ho' hg h4 (fun W t ht=>by rw[hget,aB (by omega),aC rfl] at ht;cases ht;rfl) (fun W hW=>⟨⟨W,hW⟩,by rw[hget,aB (by omega),aC rfl]⟩)
  (fun W i o t hne ho2 ht=> ?_) (fun W W' j hne hni=> ?_) (fun W=>wY _ _ _ h2 ⟨h5,(hB W).2.1⟩) (fun W=> ?_) hfit (fun W ι' S' a' w' hw'=>⟨_,ι',S',(hB W).2.2.2.2,by rw[hrun] at hw';exact hw'.keep ks⟩)
  ops.size ⟨W0,hW0⟩ (Array.replicate ops.size false) σ ι S a _ (by simp) (fun l=> ?_) hw.drew (fun k o ho hk=> ?_) ?_)
 · rw[hget] at ht
   by_cases c1:i<i0
   · rw[aC c1] at ht
     exact(cm _ _ h1).2 i o t (by rw[List.getElem?_take,aC c1];simpa using ho2) ht
   · rw[aB c1,aB hne] at ht
     exact(cm _ _ (hB W).1).2 (i - (i0+1)) o t (by rw[List.getElem?_drop,show i0+1+(i - (i0+1))=i by omega];simpa using ho2) ht
 · rw[hget,hget]
   by_cases c1:j<i0
   · rw[aC c1,aC c1]
   · rw[aB c1,aB c1,aB hne,aB hne]
     by_cases c3:j<ops.size
     · have hd:=aNt.1 hfx j (List.mem_range.2 c3)
       simp only[Bool.or_eq_true,aD] at hd
       rcases hd with(hd|hd)|hd
       · omega
       · obtain⟨t,ht⟩:=Option.isSome_iff_exists.1 hd
         have e: ∀W,(tB W)[j - (i0+1)]? =some t:=fun W=>by
          have hl:j - (i0+1)< (tB W).length:=by rw[hBl];omega
          have:=(hB W).2.2.1 (j - (i0+1)) _ (aNo hl)
          rw[show i0+1+(j - (i0+1))=j by omega,ht] at this
          rw[aNo hl]
          exact aA some this
         rw[e W,e W']
       · exact absurd (fD.1 hd) hni
     · rw[List.getElem?_eq_none (by rw[hBl];omega),List.getElem?_eq_none (by rw[hBl];omega)]
 · have:=jh (hB W).2.2.2.1
   have e: (tA.map nE++[nE (R0,W.1)])++(tB W).map nE=(ts W).map nE:=by
    show _=(tA++(R0,W.1)::tB W).map nE
    simp
   have this:vK ops.toList ((tA.map nE++[nE (R0,W.1)])++(tB W).map nE)=true:=this
   rw[e] at this
   simpa[pI,vK] using this
 · have hL: ∀i,(Array.replicate ops.size false).getD i false=false:=fun i=>by
    rw[Array.getD_eq_getD_getElem?,Array.getElem?_replicate];split<;>rfl
   have: ∀n,part (ts ⟨W0,hW0⟩) (fun i=>(Array.replicate ops.size false).getD i false) σ l n=aP σ l:=by
    intro n
    induction n with
    |zero=>rfl
    |succ n ih=>rw[lX,aB (by rw[hL];simp),ih]
   rw[this]
 · rw[Array.getD_eq_getD_getElem?,Array.getElem?_replicate] at hk;split at hk<;>cases hk
 · exact Nat.le_trans (List.length_filter_le _ _) (by simp)
section
variable {P:Program} {T:fT} {io:List Nat} {f:FuncId} {n:Nat} {σin:St} {o:Oper} {c:Call} {d:Nat} {σ σ1:St} {Xs:List V} {Ra:List (cL×Option K)}
theorem vg {Qo:St→Prop} {rl:List (Nat×Nat)} {bor news:List Nat} {robj:List (Nat×K)} {k:List (cL×Option K)→List (cL×K)→Prop} (hs:SpecE P f n σin Qo) (ho:o.op= .call c) (hc:c.callee= .value (.func f)) (hx:kz σ c.args.toList=some (Xs,Ra)) (hn:Xs.length=n)
 (hm:jO (dA 0 Xs++kA robj) σin rl bor) (hq: ∀σout,Qo σout→fZ rl σin σout=true∧(bor=[]∨iC σout)∧ ∀j∈eJ σin σout,j∈news) (h1: ∀p∈robj,aP σ (.o p.1)=some p.2) (h2: ∀j∈news,aP σ (.o (iB rl j))=none) (hne: ∃σout,Qo σout)
 (h: ∀σout,Qo σout→k (aFo Ra robj rl news) (gM rl σin σout o.dst)): ∃R Ws,OpE P o R Ws∧bX R σ∧(∃W,Ws W)∧ ∀W,Ws W→k R W:=by
 refine⟨_,_,su hs ho hc hx hn hm hq,fun p hp=> ?_,?_,fun W ⟨σout,hQ,e⟩=>e▸h σout hQ⟩
 · rcases List.mem_append.1 hp with hp|hp
   · rcases List.mem_append.1 hp with hp|hp
     · exact pC hx p hp
     · obtain⟨q,hq,rfl⟩:=aNr.1 hp
       exact h1 q hq
   · obtain⟨j,hj,rfl⟩:=aNr.1 hp
     exact h2 j hj
 · obtain⟨σout,hQ⟩:=hne
   exact⟨_,σout,hQ,rfl⟩
end
section
variable {P:Program} {T:fT} {o:Oper} {σ:St} {t e:TypeId} {s1 s2 d j es:Nat} {s3:List C} {k:List (cL×Option K)→List (cL×K)→Prop} {Pr:List D→Prop} {ti:TI}
end
section
variable {τ σ':St} {rl:List (Nat×Nat)} {bor:List Nat} {r:List (cL×K)}
theorem fY {j:Nat} {Z Z':lf} (h:aP τ (.o (iB rl j))=some (.zone Z)) (e:Z=Z') (hr:mL τ σ' rl bor r):mL τ σ' rl bor ((.o j,.zone Z')::r):=⟨⟨_,h,by rw[← e];exact⟨rfl,fun _ _ _ h=>h⟩⟩,hr⟩
end
theorem sx {P:Program} {T:fT} (hT:dL P T) {o:Oper} {σ:St} {p:Prop} {R:List (cL×Option K)} {W:List (cL×K)} {k:List (cL×Option K)→List (cL×K)→Prop} (h:ge T o σ=some (p,R,W)) (hp:p) (hk:k R W): ∃R W,xH P o R W∧bX R σ∧k R W:=by
 obtain⟨h1,h2⟩:=sV hT o σ p R W h hp
 exact⟨R,W,h1,h2,hk⟩
def aFr:Option K→Bool
 |some (.row ..)=>true
 |_=>false
def aFs:Option K→Bool
 |some (.box ..)=>true
 |_=>false
def vh:Option K→Bool
 |some (.zone ..)=>true
 |_=>false
def qC (τ σ':St) (rl:List (Nat×Nat)) (bor:List Nat):C→C→Prop→Prop
 | .d x,.d y,p=>x=y∧p
 | .nil,.nil,p=>p
 | .nil,.d y,p=>y= .sl []∧p
 | .own o n,.d y,p=>match gW o bor,aP τ (.o o) with
  |true,some (.row e es rows)=>rows.length=n∧y= .sl rows∧p
  |_,_=>False
 | .own o n,.own j m,p=>match Nat.beq o (iB rl j)&&aFr (aP σ' (.o j)) with
  |true=>n=m∧p
  |false=>False
 | .pt o k,.pt j m,p=>match Nat.beq o (iB rl j)&&(Nat.beq k m&&aFs (aP σ' (.o j))) with
  |true=>p
  |false=>False
 | .rp cs,.rp cs',p=>cs=cs'∧p
 | .nil,.z j Q',p=>match vh (aP σ' (.o j)) with
  |true=>(∀p,Q' p (.slice none 0 0))∧p
  |false=>False
 | .z o Q,.z j Q',p=>match Nat.beq o (iB rl j)&&vh (aP σ' (.o j)) with
  |true=>Q=Q'∧p
  |false=>False
 |_,_,_=>False
def qCs (τ σ':St) (rl:List (Nat×Nat)) (bor:List Nat):List C→List C→Prop→Prop
 | [],[],p=>p
 |c::cs,d::ds,p=>qC τ σ' rl bor c d (qCs τ σ' rl bor cs ds p)
 |_,_,_=>False
def qE (τ σ':St) (rl:List (Nat×Nat)) (bor:List Nat):E→E→Prop→Prop
 | .c x,.c y,p=>qC τ σ' rl bor x y p
 | .agg cs,.agg ds,p=>qCs τ σ' rl bor cs ds p
 |_,_,_=>False
def qEs (τ σ':St) (rl:List (Nat×Nat)) (bor:List Nat):List E→List E→Prop→Prop
 | [],[],p=>p
 |c::cs,d::ds,p=>qE τ σ' rl bor c d (qEs τ σ' rl bor cs ds p)
 |_,_,_=>False
def qV (τ σ':St) (rl:List (Nat×Nat)) (bor:List Nat):V→V→Prop→Prop
 | .e x,.e y,p=>qE τ σ' rl bor x y p
 | .tup xs,.tup ys,p=>qEs τ σ' rl bor xs ys p
 |_,_,_=>False
def qK (τ σ':St) (rl:List (Nat×Nat)) (bor:List Nat):K→K→Prop→Prop
 | .box ty cs,.box ty' ds,p=>match Nat.beq ty ty' with
  |true=>qCs τ σ' rl bor cs ds p
  |false=>False
 | .row e es rows,.row e' es' rows',p=>match Nat.beq e e'&&Nat.beq es es' with
  |true=>rows=rows'∧p
  |false=>False
 | .zone Z,.zone Z',p=>Z=Z'∧p
 |_,_,_=>False
def qL (τ σ':St) (rl:List (Nat×Nat)) (bor:List Nat):List (cL×K)→Prop
 | []=>True
 |(.t s,.v X')::r=>match aP τ (.t s) with
  |some (.v X)=>qV τ σ' rl bor X X' (qL τ σ' rl bor r)
  |_=>False
 |(.o j,k')::r=>match aP τ (.o (iB rl j)) with
  |some k=>qK τ σ' rl bor k k' (qL τ σ' rl bor r)
  |_=>False
 |_::_=>False
section
variable {τ σ':St} {rl:List (Nat×Nat)} {bor:List Nat} {p:Prop}
theorem xx {k:Option K} (h:aFr k=true): ∃e es rows,k=some (.row e es rows):=by
 cases k with
 |none=>cases h
 |some k=>cases k<;>first|exact⟨_,_,_,rfl⟩|cases h
theorem xy {k:Option K} (h:aFs k=true): ∃e es,k=some (.box e es):=by
 cases k with
 |none=>cases h
 |some k=>cases k<;>first|exact⟨_,_,rfl⟩|cases h
theorem cn {k:Option K} (h:vh k=true): ∃e,k=some (.zone e):=by
 cases k with
 |none=>cases h
 |some k=>cases k<;>first|exact⟨_,rfl⟩|cases h
theorem xz: ∀{c d:C},qC τ σ' rl bor c d p→mC τ σ' rl bor c d∧p:=by
 intro c d h
 cases c<;>cases d<;>simp only[qC] at h<;>try exact h.elim
 · exact h
 · exact h
 · exact⟨trivial,h⟩
 · split at h
   · rename_i hz
     exact⟨⟨h.1,cn hz⟩,h.2⟩
   · exact h.elim
 · split at h
   · rename_i hb hl
     exact⟨⟨fD.1 hb,_,_,_,hl,h.1,.inl h.2.1⟩,h.2.2⟩
   · exact h.elim
 · split at h
   · rename_i hb
     simp only[aNi] at hb
     exact⟨⟨Nat.eq_of_beq_eq_true hb.1,h.1,xx hb.2⟩,h.2⟩
   · exact h.elim
 · split at h
   · rename_i hb
     simp only[aNi] at hb
     exact⟨⟨Nat.eq_of_beq_eq_true hb.1,Nat.eq_of_beq_eq_true hb.2.1,xy hb.2.2⟩,h⟩
   · exact h.elim
 · exact h
 · split at h
   · rename_i hb
     simp only[aNi] at hb
     exact⟨⟨Nat.eq_of_beq_eq_true hb.1,fun p v hv=>by rw[← h.1];exact hv,cn hb.2⟩,h.2⟩
   · exact h.elim
theorem gj: ∀{cs ds:List C},qCs τ σ' rl bor cs ds p→mCs τ σ' rl bor cs ds∧p
 | [],[],h=>⟨trivial,h⟩
 |c::cs,d::ds,h=>by
  obtain⟨h1,h2⟩:=xz h
  obtain⟨h3,h4⟩:=gj h2
  exact⟨⟨h1,h3⟩,h4⟩
 | [],_::_,h=>h.elim
 |_::_,[],h=>h.elim
theorem ya {x y:E} (h:qE τ σ' rl bor x y p):mE τ σ' rl bor x y∧p:=by
 cases x<;>cases y<;>simp only[qE] at h<;>first|exact h.elim|exact xz h|exact gj h
theorem sv: ∀{cs ds:List E},qEs τ σ' rl bor cs ds p→mEs τ σ' rl bor cs ds∧p
 | [],[],h=>⟨trivial,h⟩
 |c::cs,d::ds,h=>by
  obtain⟨h1,h2⟩:=ya h
  obtain⟨h3,h4⟩:=sv h2
  exact⟨⟨h1,h3⟩,h4⟩
 | [],_::_,h=>h.elim
 |_::_,[],h=>h.elim
theorem aFt {x y:V} (h:qV τ σ' rl bor x y p):mV τ σ' rl bor x y∧p:=by
 cases x<;>cases y<;>simp only[qV] at h<;>first|exact h.elim|exact ya h|exact sv h
theorem aFu {x y:K} (h:qK τ σ' rl bor x y p):mK τ σ' rl bor x y∧p:=by
 cases x<;>cases y<;>simp only[qK] at h<;>try exact h.elim
 · split at h
   · rename_i hb
     obtain⟨h1,h2⟩:=gj h
     exact⟨⟨Nat.eq_of_beq_eq_true hb,h1⟩,h2⟩
   · exact h.elim
 · split at h
   · rename_i hb
     simp only[aNi] at hb
     exact⟨⟨Nat.eq_of_beq_eq_true hb.1,Nat.eq_of_beq_eq_true hb.2,h.1⟩,h.2⟩
   · exact h.elim
 · obtain⟨rfl,h2⟩:=h
   exact⟨⟨rfl,fun _ _ _ h=>h⟩,h2⟩
theorem qs: ∀{L:List (cL×K)},qL τ σ' rl bor L→mL τ σ' rl bor L
 | [],_=>trivial
 |(.t s,.v X')::r,h=>by
  simp only[qL] at h
  split at h
  · rename_i X hl
    obtain⟨h1,h2⟩:=aFt h
    exact⟨⟨X,hl,h1⟩,qs h2⟩
  · exact h.elim
 |(.o j,k')::r,h=>by
  have h: (match aP τ (.o (iB rl j)) with
   |some k=>qK τ σ' rl bor k k' (qL τ σ' rl bor r)
   |_=>False):=by cases k'<;>exact h
  split at h
  · rename_i k hl
    obtain⟨h1,h2⟩:=aFu h
    have h3: (∃k,aP τ (.o (iB rl j))=some k∧mK τ σ' rl bor k k')∧mL τ σ' rl bor r:=⟨⟨k,hl,h1⟩,qs h2⟩
    cases k'<;>exact h3
  · exact h.elim
 |(.t s,.box ..)::r,h=>h.elim
 |(.t s,.row ..)::r,h=>h.elim
 |(.t s,.dead)::r,h=>h.elim
 |(.t s,.cv ..)::r,h=>h.elim
 |(.t s,.zone ..)::r,h=>h.elim
end
theorem aM8 {es:Nat}: ∀p,slQ es 0 p (.slice none 0 0):=fun p=> .inl ⟨rfl,rfl⟩
def mR (n lo hi:Int):Bool:=decide (lo≤n)&&decide (n≤hi)
def eP (n:Int):Bool:=mR n 0 3
def yb (at_ to:Int):Int:=if !eP at_|| !eP to||at_==to then -1 else if at_<to then at_+1 else at_ - 1
theorem aH {n:Int} (h: -9223372036854775808≤n∧n<9223372036854775808):wrap64 n=n:=by
 unfold wrap64;omega
structure lL where
 kind:Int
 src:Int
 dst:Int
 frm:Int
 num:Int
 to:Int
 til:Int
 size:Int
 mix:Int
 data:List UInt8
def lL.row (f:lL):List D:=[.i f.kind,.i f.src,.i f.dst,.i f.frm,.i f.num,.i f.to,.i f.til,.i f.size,.i f.mix,.s f.data]
abbrev lL.V (f:lL):V:= .e (.agg [.d (.i f.kind),.d (.i f.src),.d (.i f.dst),.d (.i f.frm),.d (.i f.num),.d (.i f.to),.d (.i f.til),.d (.i f.size),.d (.i f.mix),.d (.s f.data)])
def co (f:lL):Bool:=
 eP f.src&&eP f.dst&&eP f.frm&&eP f.to&&mR f.num 1 99&&mR f.til 1 999&&
 (if f.kind=1 then mR f.size 1 24&&mR f.mix 0 999&&decide (f.data.length=4)&&decide (f.dst=yb f.src f.to)
  else if f.kind=2∨f.kind=3 then decide (f.size=0)&&decide (f.mix=0)&&decide (f.data=[])&&decide (f.src=yb f.dst f.to) else false)
theorem bG {T:fT} {io:List Nat} {rs:List ResultVar} {s:St} {X Y:V} (h1:aAo T s rs=some X) (hp:lB Y=true) (e:X=Y):uK T io rs [(.t 0,.v Y)] s:=by
 subst e
 exact⟨X,[],[],h1,⟨⟨⟨X,rfl,xo hp⟩,trivial⟩,rfl⟩,by simp[lv,bO,nV];exact fun x _=> .inl rfl⟩
theorem aM9 (b:UInt8):b.toNat<256:=b.toNat_lt
def aFv (σ:St):List (Nat×K)→Prop
 | []=>True
 |p::r=>aP σ (.o p.1)=some p.2∧aFv σ r
theorem aV {σ:St}: ∀{l:List (Nat×K)},aFv σ l→ ∀p∈l,aP σ (.o p.1)=some p.2
 |q::r,h,p,hp=>by
  rcases aNs.1 hp with rfl|hp
  · exact h.1
  · exact aV h.2 p hp
section
variable {P:Program} {f:FuncId} {n:Nat} {σin σout:St} {o:Oper} {c:Call} {σ:St} {Xs:List V} {Ra:List (cL×Option K)}
end
def aLk:D→Bool
 | .sl rows=>rows.isEmpty
 |_=>true
def aBa:C→Bool
 | .d x=>aLk x
 | .rp _=>false
 |_=>true
def aBb:E→Bool
 | .c x=>aBa x
 | .agg cs=>cs.all aBa
def gk:V→Bool
 | .e x=>aBb x
 | .tup xs=>xs.all aBb
theorem jj {c:C} (h:aBa c=true):vN c:=by
 cases c with
 |d x=>cases x<;>first|trivial|exact List.isEmpty_iff.1 h
 |rp _=>cases h
 |_=>trivial
theorem jk {c:E} (h:aBb c=true):zG c:=by
 cases c with
 |c x=>exact jj h
 |agg cs=>exact fun c hc=>jj (aNt.1 h c hc)
theorem jl {c:V} (h:gk c=true):zH c:=by
 cases c with
 |e x=>exact jk h
 |tup cs=>exact fun c hc=>jk (aNt.1 h c hc)
theorem aBc {X:V} (h:gk X=true):iC [(.t 0,.v X)]:=by
 intro p hp
 simp at hp
 subst hp
 exact jl h
def wZ (l:List UInt8) (i:Nat):Int:=(l.getD i 0).toNat
theorem jm (l:List UInt8) (i:Nat):0≤wZ l i∧wZ l i<256:=by
 have:=aM9 (l.getD i 0)
 unfold wZ;omega
def u8 (x:Int):UInt8:=UInt8.ofNat (qN x).toNat
theorem yc (x:Int): ((u8 x).toNat:Int)=qN x:=by
 unfold u8 qN
 rw[UInt8.toNat_ofNat']
 omega
theorem aBd (x:Int): [D.u (qN x)]=[D.u (u8 x).toNat]:=by rw[yc]
theorem weights: ∀d,1≤d→d≤255→ ∀w,1≤w→w≤1000→d*w≠65521∧d*w≠131042∧d*w≠196563:=by
 intro d h1 h2 w h3 h4
 have key: ∀d,d≤255→d≠0→(65521 % d=0→1000<65521 / d)∧(131042 % d=0→1000<131042 / d)∧(196563 % d=0→1000<196563 / d):=by
  decide+kernel
 obtain⟨k1,k2,k3⟩:=key d h2 (by omega)
 · have hd:0<d:=by omega
   refine⟨fun e=> ?_,fun e=> ?_,fun e=> ?_⟩
   · have:=k1 (by rw[← e];exact Nat.mul_mod_right d w)
     rw[← e,Nat.mul_div_cancel_left w hd] at this;omega
   · have:=k2 (by rw[← e];exact Nat.mul_mod_right d w)
     rw[← e,Nat.mul_div_cancel_left w hd] at this;omega
   · have:=k3 (by rw[← e];exact Nat.mul_mod_right d w)
     rw[← e,Nat.mul_div_cancel_left w hd] at this;omega
def eK (l:List Int):List (List D):=l.map fun x=>[.i x]
def yd (l:List Bool):List (List D):=l.map fun x=>[.b x]
def bT (l:List (List UInt8)):List (List D):=l.map fun x=>[.s x]
theorem hG (l:List Int): (eK l).length=l.length:=by simp[eK]
theorem aL (l:List (List UInt8)): (bT l).length=l.length:=by simp[bT]
theorem vS (l:List (List UInt8)): ∀r∈bT l,r.length=1:=by
 intro r hr
 obtain⟨b,_,rfl⟩:=aNr.1 hr
 rfl
theorem mB {l:List Int} {i:Nat} (h:i<l.length): (eK l).getD i []=[.i (l.getD i 0)]:=by
 rw[aNm,aNm]
 simp[eK,h]
theorem gB {l:List (List UInt8)} {i:Nat} (h:i<l.length): (bT l).getD i []=[.s (l.getD i [])]:=by
 rw[aNm,aNm]
 simp[bT,h]
theorem cp {l:List Int} {j:Int} (h0:0≤j) (h:j<l.length): (0≤j∧j< (eK l).length)∧((eK l).getD j.toNat []).length=1:=by
 refine⟨⟨h0,by rw[hG];exact h⟩,?_⟩
 rw[mB (by omega)];rfl
theorem ixS {l:List (List UInt8)} {j:Int} (h0:0≤j) (h:j<l.length): (0≤j∧j< (bT l).length)∧((bT l).getD j.toNat []).length=1:=by
 refine⟨⟨h0,by rw[aL];exact h⟩,?_⟩
 rw[gB (by omega)];rfl
theorem ldS {l:List (List UInt8)} {j:Int} (h0:0≤j) (h:j<l.length):1≤((bT l).getD j.toNat []).length∧((bT l).getD j.toNat []).take 1=zI [.d (.s [])] ((bT l).getD j.toNat []) 0:=by
 rw[gB (by omega)];exact⟨aNp _,rfl⟩
theorem valS {l:List (List UInt8)} {j:Int} (h0:0≤j) (h:j<l.length):wt (((bT l).getD j.toNat []).getD 0 (.i 0))=l.getD j.toNat []:=by
 rw[gB (by omega)];rfl
theorem cq (l:List Int) (x:Int):eK l++[[D.i x]]=eK (l++[x]):=by simp[eK]
theorem dW (l:List (List UInt8)) (x:List UInt8):bT l++[[D.s x]]=bT (l++[x]):=by simp[bT]
def aH8 (b n:Int):Bool:=mR b 1 6&&mR n 0 999
theorem rY {T:fT} {io:List Nat} {rs:List ResultVar} {Qo:St→Prop} {s:St} (σout:St) (hq:Qo σout) (h:uK T io rs σout s):aA8 T io rs Qo .ret s:=⟨σout,hq,h⟩
theorem Spec.freeze {P:Program} {f:FuncId} {n m:Nat} {σin:St} {e:TypeId} {es:Nat} {rows:List (List D)} (h:Spec P f n σin [(.t 0,.v (.e (.c (.own 0 m)))),(.o 0,.row e es rows)]) (hm:rows.length=m) (h0:bO σin=[]):Spec P f n σin [(.t 0,.v (Dv (.sl rows)))]:=by
 have hno: ∀o k,aP σin (.o o)=some k→False:=fun o k hk=>by have:=dQ hk;rw[h0] at this;cases this
 refine⟨h.1,fun ι ν S w args hg h1 h2 h3=>lK (fun ex w'=> ?_) (h.2 ι ν S w args hg h1 h2 h3)⟩
 rintro⟨v,ι',S',rfl,hp⟩
 have hrow:=hp.vr.objs 0 (.row e es rows) rfl
 have hv:v=ι' 0:=by
  obtain⟨_,h2⟩:=(show CR _ ι' w' S' (.own 0 m) v from hp.vr.slots 0 _ rfl)
  rcases h2 with⟨e2,es2,rows2,hl,_,hv⟩|hd
  · cases hl;exact hv hm
  · cases hd
 have hmut: ∀b,sP (ι' 0) b→jC [(cL.t 0,K.v (.e (.c (.own 0 m)))),(.o 0,.row e es rows)] ι' 0 b:=fun b hb=>⟨⟨_,rfl,trivial⟩,hb⟩
 refine⟨v,ι',fun b=>S' b∨sP (ι' 0) b,rfl,hp.fr,⟨fun s k hk=> ?_,fun o k hk=> ?_,fun o b hm2=> ?_,fun o o' b hm2=> ?_,fun b hb=> ?_⟩,fun b hb=> ?_,fun o b hm2=> ?_,fun o k k' hk hk'=> ?_⟩
 · simp only[aP] at hk
   split at hk
   · rename_i e3;cases e3;cases hk
     show DR w' _ (.sl rows) v
     rw[hv];exact fy hrow (fun b h=> .inl h) (fun b h=> .inr h)
   · cases hk
 · simp[aP] at hk
 · obtain⟨⟨k,hk,_⟩,_⟩:=hm2;simp[aP] at hk
 · obtain⟨⟨k,hk,_⟩,_⟩:=hm2;simp[aP] at hk
 · rcases hb with hb|hb
   · exact hp.vr.sz b hb
   · exact OR.lt hrow trivial hb
 · rcases hb with hb|hb
   · exact hp.rd b hb
   · exact .inr (hp.own 0 b (hmut b hb))
 · obtain⟨⟨k,hk,_⟩,_⟩:=hm2;simp[aP] at hk
 · exact(hno o k hk).elim
theorem aFw {A B:List (List D)} {r x:List D} {i:Nat} (h:A.length=i): (A++r::B).set i x=A++x::B:=by
 subst h
 rw[List.set_append_right _ _ (aNp _),Nat.sub_self];rfl
def ye:Nat→Nat→List UInt8→List UInt8
 |0,_,acc=>acc
 |f+1,k,acc=>if k=0 then acc else ye f (k / 10) (u8 (wrap64 (48+Int.tmod (k:Int) 10))::acc)
def oF (k:Int):List UInt8:=[109]++ye k.toNat k.toNat []
theorem aDj (f:Nat) (acc:List UInt8):ye f 0 acc=acc:=by cases f<;>rfl
theorem aDk {f k:Nat} {acc:List UInt8} (hk:0<k) (hf:k≤f): ∃g,ye f k acc=ye g (k / 10) (u8 (wrap64 (48+Int.tmod (k:Int) 10))::acc)∧k / 10≤g:=by
 cases f with
 |zero=>omega
 |succ f=>exact⟨f,by rw[ye,aB (by omega)],by omega⟩
theorem aFx {R:List (List D)} {i:Nat} {r:List D} (hi:i<R.length) (h:R.getD i []=r):R.set i r=R:=by
 rw[← h,aNm,aNo hi]
 simp
structure bF where
 frm:Int
 num:Int
 to:Int
 til:Int
 text:List UInt8
 deriving DecidableEq
structure bZ where
 frm:Int
 num:Int
 til:Int
 deriving DecidableEq
def bF.row (n:bF):List D:=[.i n.frm,.i n.num,.i n.to,.i n.til,.s n.text]
def bZ.row (n:bZ):List D:=[.i n.frm,.i n.num,.i n.til]
abbrev bF.V (n:bF):V:= .e (.agg [.d (.i n.frm),.d (.i n.num),.d (.i n.to),.d (.i n.til),.d (.s n.text)])
abbrev bZ.V (n:bZ):V:= .e (.agg [.d (.i n.frm),.d (.i n.num),.d (.i n.til)])
def bF.zero:bF:=⟨0,0,0,0,[]⟩
def bZ.zero:bZ:=⟨0,0,0⟩
def aF (l:List bF):List (List D):=l.map bF.row
def aJ (l:List bZ):List (List D):=l.map bZ.row
theorem aE (l:List bF): (aF l).length=l.length:=by simp[aF]
theorem aG (l:List bZ): (aJ l).length=l.length:=by simp[aJ]
theorem dY (l:List bF): ∀r∈aF l,r.length=5:=by
 intro r hr
 obtain⟨b,_,rfl⟩:=aNr.1 hr
 rfl
theorem iN (l:List bZ): ∀r∈aJ l,r.length=3:=by
 intro r hr
 obtain⟨b,_,rfl⟩:=aNr.1 hr
 rfl
theorem aS {l:List bF} {i:Nat} (h:i<l.length): (aF l).getD i []=(l.getD i .zero).row:=by
 rw[aNm,aNm]
 simp[aF,h]
theorem bP {l:List bZ} {i:Nat} (h:i<l.length): (aJ l).getD i []=(l.getD i .zero).row:=by
 rw[aNm,aNm]
 simp[aJ,h]
def rZ (s:List UInt8) (i:Nat):Bool:=mR (wZ s i) 32 126
def xY (s:List UInt8):Bool:=(aNu s.length).all (rZ s)&&mR s.length 1 24
def eM (n:bF):Bool:=eP n.frm&&eP n.to&&mR n.num 1 99&&mR n.til 1 999&&xY n.text
def lC (m:bZ):Bool:=eP m.frm&&mR m.num 1 99&&mR m.til 1 999
def cD (a b c d:Int):Bool:=decide (a<c)||a==c&&decide (b<d)
def mX (l:List bF) (i:Nat):Bool:=eM (l.getD i .zero)&&(i==0||cD (l.getD (i - 1) .zero).frm (l.getD (i - 1) .zero).num (l.getD i .zero).frm (l.getD i .zero).num)
def jA (l:List bF):Bool:=(aNu l.length).all (mX l)
def mY (l:List bZ) (i:Nat):Bool:=lC (l.getD i .zero)&&(i==0||cD (l.getD (i - 1) .zero).frm (l.getD (i - 1) .zero).num (l.getD i .zero).frm (l.getD i .zero).num)
def nG (l:List bZ):Bool:=(aNu l.length).all (mY l)
theorem gC {p:Nat→Bool} {n:Nat} (h: ∀k,k<n→p k=true): (aNu n).all p=true:=by
 rw[aNt];intro k hk;exact h k (List.mem_range.1 hk)
theorem eC {p:Nat→Bool} {n k:Nat} (hk:k<n) (h:p k=false): (aNu n).all p=false:=by
 rw[List.all_eq_false];exact⟨k,List.mem_range.2 hk,by simp[h]⟩
def kN (p:Nat→Bool):Nat→Nat→Int
 |_,0=> -1
 |i,n+1=>if p i then i else kN p (i+1) n
theorem lM {p:Nat→Bool}: ∀{n i k:Nat},i≤k→k<i+n→(∀j,i≤j→j<k→p j=false)→p k=true→kN p i n=k
 |0,i,k,h1,h2,_,_=>by omega
 |n+1,i,k,h1,h2,h,hp=>by
  unfold kN
  by_cases e:i=k
  · subst e;rw[aC hp]
  · rw[aB (by rw[h i (aNp _) (by omega)];simp),lM (n:=n) (i:=i+1) (k:=k) (by omega) (by omega) (fun j h3 h4=>h j (by omega) h4) hp]
theorem mD {p:Nat→Bool}: ∀{n i:Nat},(∀j,i≤j→j<i+n→p j=false)→kN p i n= -1
 |0,i,_=>rfl
 |n+1,i,h=>by
  unfold kN
  rw[aB (by rw[h i (aNp _) (by omega)];simp),mD (n:=n) (i:=i+1) fun j h3 h4=>h j (by omega) (by omega)]
theorem jW (p:Nat→Bool): ∀(n i:Nat),kN p i n= -1∨ ∃k:Nat,kN p i n=k∧i≤k∧k<i+n∧p k=true∧ ∀j,i≤j→j<k→p j=false
 |0,i=> .inl rfl
 |n+1,i=>by
  unfold kN
  by_cases h:p i=true
  · rw[aC h];exact .inr ⟨i,rfl,aNp _,by omega,h,fun j h1 h2=>by omega⟩
  · rw[aB h]
    rcases jW p n (i+1) with h1|⟨k,h1,h2,h3,h4,h5⟩
    · exact .inl h1
    · refine .inr ⟨k,h1,by omega,by omega,h4,fun j h6 h7=> ?_⟩
      by_cases e:j=i
      · subst e;simpa using h
      · exact h5 j (by omega) h7
def mS (l:List bF) (f n:Int) (i:Nat):Bool:=(l.getD i .zero).frm==f&&(l.getD i .zero).num==n
def sA (l:List bZ) (f n:Int) (i:Nat):Bool:=(l.getD i .zero).frm==f&&(l.getD i .zero).num==n
def bA (l:List bF) (f n:Int):Int:=kN (mS l f n) 0 l.length
def kB (l:List bZ) (f n:Int):Int:=kN (sA l f n) 0 l.length
def jn (id:Int) (n:bF):Bool:=id != n.to&&(mR id n.frm n.to||mR id n.to n.frm)
structure bH where
 id:Int
 time:Int
 next:Int
 held:List bF
 marks:List bZ
 inbox:List bF
 deriving DecidableEq
def vT (k:bH) (i:Nat):Bool:=
 let n:=k.held.getD i .zero
 !(n.frm==k.id&&decide (k.next≤n.num))&&decide (k.time<n.til)&&jn k.id n&&decide (kB k.marks n.frm n.num<0)
def xZ (k:bH) (i:Nat):Bool:=
 let m:=k.marks.getD i .zero
 !(m.frm==k.id&&decide (k.next≤m.num))&&decide (k.time<m.til)
def sW (k:bH) (i:Nat):Bool:=
 let n:=k.inbox.getD i .zero
 !(n.frm==k.id&&decide (k.next≤n.num))&&n.to==k.id&& !(decide (k.time<n.til)&&decide (kB k.marks n.frm n.num<0))
def dG (k:bH):Bool:=
 eP k.id&&mR k.time 0 999&&mR k.next 1 100&&decide (k.held.length≤6)&&decide (k.marks.length≤12)&&decide (k.inbox.length≤6)&&
 jA k.held&&nG k.marks&&jA k.inbox&&(aNu k.held.length).all (vT k)&&(aNu k.marks.length).all (xZ k)&&(aNu k.inbox.length).all (sW k)
def aBe:Nat→Nat→List UInt8
 |0,n=>[UInt8.ofNat (48+n % 10)]
 |f+1,n=>if n<10 then [UInt8.ofNat (48+n)] else aBe f (n / 10)++[UInt8.ofNat (48+n % 10)]
def jF (n:Nat):List UInt8:=aBe n n
theorem yf: ∀{f g n:Nat},n≤f→n≤g→aBe f n=aBe g n
 |0,0,n,_,_=>rfl
 |0,g+1,n,h,_=>by
  obtain rfl:n=0:=by omega
  rfl
 |f+1,0,n,_,h=>by
  obtain rfl:n=0:=by omega
  rfl
 |f+1,g+1,n,h1,h2=>by
  unfold aBe
  split
  · rfl
  · rw[yf (f:=f) (g:=g) (n:=n / 10) (by omega) (by omega)]
theorem lA {n:Nat} (h:n<10):jF n=[UInt8.ofNat (48+n)]:=by
 unfold jF
 cases n with
 |zero=>rfl
 |succ k=>unfold aBe;rw[aC h]
theorem qT {n:Nat} (h:10≤n):jF n=jF (n / 10)++[UInt8.ofNat (48+n % 10)]:=by
 unfold jF
 cases n with
 |zero=>omega
 |succ k=>
  conv=>lhs;unfold aBe
  rw[aB (by omega),yf (f:=k) (g:=(k+1) / 10) (by omega) (aNp _)]
def eY (b:UInt8):Bool:=decide (48≤b.toNat)&&decide (b.toNat≤57)
def nN:List UInt8→Nat:=fun l=>l.foldl (fun n b=>n*10+(b.toNat - 48)) 0
theorem zJ (l:List UInt8) (b:UInt8):nN (l++[b])=nN l*10+(b.toNat - 48):=by simp[nN]
theorem pV {d:Nat} (h:d<10): (UInt8.ofNat (48+d)).toNat=48+d:=by
 rw[UInt8.toNat_ofNat'];omega
theorem mj {d:Nat} (h:d<10):eY (UInt8.ofNat (48+d))=true:=by
 unfold eY
 rw[pV h,aNi,aD,aD];omega
theorem cr (n:Nat):nN (jF n)=n:=by
 induction n using Nat.strongRecOn with
 |_ n ih=>
  by_cases h:n<10
  · rw[lA h]
    show 0*10+((UInt8.ofNat (48+n)).toNat - 48)=n
    rw[pV h];omega
  · rw[qT (by omega),zJ,ih (n / 10) (by omega),pV (by omega)]
    omega
theorem az (n:Nat): ∀b∈jF n,eY b=true:=by
 induction n using Nat.strongRecOn with
 |_ n ih=>
  intro b hb
  by_cases h:n<10
  · rw[lA h] at hb
    rw[List.mem_singleton] at hb;subst hb
    exact mj h
  · rw[qT (by omega)] at hb
    rcases List.mem_append.1 hb with hb|hb
    · exact ih (n / 10) (by omega) b hb
    · rw[List.mem_singleton] at hb;subst hb
      exact mj (Nat.mod_lt _ (by decide))
theorem aBf (n:Nat):jF n≠[]:=by
 by_cases h:n<10
 · rw[lA h];simp
 · rw[qT (by omega)];simp
theorem aFy (n:Nat): (jF n).getD 0 0=48→n=0:=by
 induction n using Nat.strongRecOn with
 |_ n ih=>
  intro hb
  by_cases h:n<10
  · rw[lA h] at hb
    have h1:=aA UInt8.toNat hb
    simp only[List.getD_cons_zero] at h1
    rw[pV h] at h1
    have: (48:UInt8).toNat=48:=rfl
    omega
  · rw[qT (by omega),aNm,List.getElem?_append_left (List.length_pos_iff.2 (aBf _)),← aNm] at hb
    have:=ih (n / 10) (by omega) hb
    omega
theorem yg: ∀(n:Nat) (l:List UInt8),l.length=n→l≠[]→(∀b∈l,eY b=true)→(l.getD 0 0=48→l.length=1)→jF (nN l)=l
 |0,l,hn,h,_,_=>absurd (List.eq_nil_of_length_eq_zero hn) h
 |n+1,l0,hn,hne,hd,hz=>by
  obtain⟨l,b,rfl⟩: ∃l b,l0=l++[b]:=by
   rcases List.eq_nil_or_concat l0 with h|⟨L,b,h⟩
   · exact absurd h hne
   · exact⟨L,b,by rw[h,List.concat_eq_append]⟩
  have hb:=hd b (by simp)
  simp only[eY,aNi,aD] at hb
  have hbb:UInt8.ofNat (48+(b.toNat - 48))=b:=by
   apply UInt8.toNat_inj.1
   rw[UInt8.toNat_ofNat'];omega
  by_cases hl:l=[]
  · subst hl
    show jF (0*10+(b.toNat - 48))=[b]
    rw[Nat.zero_mul,Nat.zero_add,lA (by omega),hbb]
  · have hlen:0<l.length:=List.length_pos_iff.2 hl
    have hh: (l++[b]).getD 0 0=l.getD 0 0:=by
     rw[aNm,aNm,List.getElem?_append_left hlen]
    have hz2:l.getD 0 0≠48:=fun e=>by
     have:=hz (hh.trans e)
     rw[aNh] at this
     have h9:l.length+1=1:=this
     omega
    have ih2:=yg n l (by simpa using hn) hl (fun x hx=>hd x (List.mem_append_left _ hx)) (fun e=>absurd e hz2)
    have hv:1≤nN l:=by
     by_cases h0:nN l=0
     · rw[h0] at ih2
       rw[← ih2] at hz2
       exact absurd rfl hz2
     · omega
    rw[zJ,qT (by omega),show(nN l*10+(b.toNat - 48)) / 10=nN l by omega,show(nN l*10+(b.toNat - 48)) % 10=b.toNat - 48 by omega,ih2,hbb]
def yA (s:List UInt8):Bool:=s.all eY
def hU (s:List UInt8):Option Nat:=if(1≤s.length∧s.length≤5)∧ ¬(s.getD 0 0=48∧1<s.length)∧yA s=true then some (nN s) else none
def eZ (s:List UInt8):Int:=if(1≤s.length∧s.length≤4)∧yA s=true∧jF (nN s)=s then nN s else -1
theorem sX {s:List UInt8} (h1:1≤s.length) (hd:yA s=true):jF (nN s)=s↔ ¬(s.getD 0 0=48∧1<s.length):=by
 have hne:s≠[]:=fun e=>by subst e;simp at h1
 have hd': ∀b∈s,eY b=true:=aNt.1 hd
 constructor
 · rintro e ⟨h2,h3⟩
   have h4:nN s=0:=aFy (nN s) (by rw[e];exact h2)
   rw[h4] at e
   have:s.length=1:=by rw[← e];rfl
   omega
 · intro h
   exact yg s.length s rfl hne hd' fun h2=>by
    by_cases h3:1<s.length
    · exact absurd ⟨h2,h3⟩ h
    · omega
theorem uO {s:List UInt8} (h:s.length≤4):eZ s=match hU s with|some n=>(n:Int)|none=> -1:=by
 unfold eZ hU
 by_cases h1:1≤s.length
 · by_cases hd:yA s=true
   · by_cases hw: ¬(s.getD 0 0=48∧1<s.length)
     · rw[aC ⟨⟨h1,h⟩,hd,(sX h1 hd).2 hw⟩,aC ⟨⟨h1,by omega⟩,hw,hd⟩]
     · rw[aB (fun e=>hw ((sX h1 hd).1 e.2.2)),aB (fun e=>hw e.2.1)]
   · rw[aB (fun e=>hd e.2.1),aB (fun e=>hd e.2.2)]
 · rw[aB (fun e=>h1 e.1.1),aB (fun e=>h1 e.1.1)]
theorem lb: ∀(n:Nat) (s:List UInt8),s.length=n→(∀b∈s,eY b=true)→nN s<10 ^ n
 |0,s,hn,_=>by rw[List.eq_nil_of_length_eq_zero hn];decide
 |n+1,s0,hn,hd=>by
  obtain⟨s,b,rfl⟩: ∃l b,s0=l++[b]:=by
   rcases List.eq_nil_or_concat s0 with h|⟨L,b,h⟩
   · rw[h] at hn;simp at hn
   · exact⟨L,b,by rw[h,List.concat_eq_append]⟩
  have hb:=hd b (by simp)
  simp only[eY,aNi,aD] at hb
  have ih:=lb n s (by simpa using hn) fun x hx=>hd x (List.mem_append_left _ hx)
  rw[zJ,Nat.pow_succ]
  omega
theorem aDl {s:List UInt8} {i:Nat} (h:i<s.length):nN (s.take (i+1))=nN (s.take i)*10+((s.getD i 0).toNat - 48):=by
 rw[List.take_add_one,aNo h]
 rw[show s[i]=s.getD i 0 by rw[aNm,aNo h];rfl]
 exact zJ _ _
def yB (s:List UInt8):Nat→Nat→Option Nat
 |0,_=>none
 |f+1,i=>if i<s.length then(if s.getD i 0=58 then some i else yB s f (i+1)) else none
def vU (s:List UInt8):Option Nat:=yB s 3 0
def iD (s:List UInt8):Option (List UInt8×Nat):=
 match vU s with
 |none=>none
 |some i=>match hU (s.take i) with
  |none=>none
  |some n=>if 1≤n∧n≤60∧i+2+n≤s.length∧s.getD (i+1+n) 0=59 then some ((s.take (i+1+n)).drop (i+1),i+2+n) else none
theorem yC {s:List UInt8}: ∀{f i k:Nat},yB s f i=some k→i≤k∧k<i+f∧k<s.length∧s.getD k 0=58∧ ∀j,i≤j→j<k→s.getD j 0≠58
 |0,i,k,h=>by cases h
 |f+1,i,k,h=>by
  unfold yB at h
  split at h
  · rename_i h1
    split at h
    · rename_i h2
      cases h
      exact⟨aNp _,by omega,h1,h2,fun j h3 h4=>by omega⟩
    · rename_i h2
      obtain⟨q1,q2,q3,q4,q5⟩:=yC h
      refine⟨by omega,by omega,q3,q4,fun j h3 h4=> ?_⟩
      by_cases e:j=i
      · subst e;exact h2
      · exact q5 j (by omega) h4
  · cases h
theorem sw {s:List UInt8}: ∀{f i k:Nat},i≤k→k<i+f→k<s.length→s.getD k 0=58→(∀j,i≤j→j<k→s.getD j 0≠58)→yB s f i=some k
 |0,i,k,h1,h2,_,_,_=>by omega
 |f+1,i,k,h1,h2,h3,h4,h5=>by
  unfold yB
  rw[aC (by omega)]
  by_cases e:i=k
  · subst e;rw[aC h4]
  · rw[aB (h5 i (aNp _) (by omega))]
    exact sw (by omega) (by omega) h3 h4 fun j h6 h7=>h5 j (by omega) h7
theorem sy {s:List UInt8}: ∀{f i:Nat},(∀j,i≤j→j<i+f→j<s.length→s.getD j 0≠58)→yB s f i=none
 |0,i,_=>rfl
 |f+1,i,h=>by
  unfold yB
  split
  · rename_i h1
    rw[aB (h i (aNp _) (by omega) h1)]
    exact sy fun j h2 h3=>h j (by omega) (by omega)
  · rfl
theorem pD {s r:List UInt8} {n:Nat} (h:iD s=some (r,n)):3≤n∧n≤s.length∧n≤64∧r.length≤60∧1≤r.length:=by
 unfold iD at h
 split at h
 · cases h
 · rename_i i hi
   obtain⟨q1,q2,q3,q4,q5⟩:=yC hi
   split at h
   · cases h
   · rename_i m hm
     split at h
     · rename_i hc
       cases h
       have h1:1≤(s.take i).length:=by
        unfold hU at hm
        split at hm
        · rename_i h9;exact h9.1.1
        · cases hm
       rw[aNn] at h1
       refine⟨by omega,by omega,by omega,?_,?_⟩<;>rw[aNv,aNn]<;>omega
     · cases h
def zT:Nat→List UInt8→List (List UInt8)×Nat
 |0,_=>([],0)
 |f+1,s=>match iD s with
  |none=>([],0)
  |some (r,n)=>(r::(zT f (s.drop n)).1,n+(zT f (s.drop n)).2)
def bR (s:List UInt8):List (List UInt8)×Nat:=zT s.length s
theorem rL:iD []=none:=rfl
theorem gl: ∀{f g:Nat} {s:List UInt8},s.length≤f→s.length≤g→zT f s=zT g s
 |0,0,s,_,_=>rfl
 |0,g+1,s,h,_=>by
  obtain rfl:s=[]:=List.eq_nil_of_length_eq_zero (by omega)
  simp[zT,rL]
 |f+1,0,s,_,h=>by
  obtain rfl:s=[]:=List.eq_nil_of_length_eq_zero (by omega)
  simp[zT,rL]
 |f+1,g+1,s,h1,h2=>by
  unfold zT
  cases hr:iD s with
  |none=>rfl
  |some p=>
   obtain⟨r,n⟩:=p
   have:=pD hr
   have e:=gl (f:=f) (g:=g) (s:=s.drop n) (by rw[aNv];omega) (by rw[aNv];omega)
   simp only[e]
theorem gD {s:List UInt8} (h:iD s=none):bR s=([],0):=by
 unfold bR
 cases s with
 |nil=>rfl
 |cons b t=>simp[zT,h]
theorem oG {s r:List UInt8} {n:Nat} (h:iD s=some (r,n)):bR s=(r::(bR (s.drop n)).1,n+(bR (s.drop n)).2):=by
 have h1:=pD h
 unfold bR
 rw[gl (f:=s.length) (g:=(s.length - 1)+1) (aNp _) (by omega)]
 conv=>lhs;unfold zT
 rw[h]
 simp only
 rw[gl (f:=s.length - 1) (g:=(s.drop n).length) (by rw[aNv];omega) (aNp _)]
theorem qU: ∀(k:Nat) (s:List UInt8),s.length≤k→(bR s).2≤s.length∧(bR s).1.length≤s.length
 |0,s,h=>by
  obtain rfl:s=[]:=List.eq_nil_of_length_eq_zero (by omega)
  rw[gD rL];simp
 |k+1,s,h=>by
  cases hr:iD s with
  |none=>rw[gD hr];simp
  |some p=>
   obtain⟨r,n⟩:=p
   have h1:=pD hr
   have ih:=qU k (s.drop n) (by rw[aNv];omega)
   rw[aNv] at ih
   rw[oG hr]
   simp only[aNk]
   omega
def cO (log:List UInt8) (forced:Int):Bool:=
 decide (log.length≤2400)&&mR forced 0 log.length&&decide ((bR log).2=log.length)&&decide (((bR (log.take forced.toNat)).2:Int)=forced)
theorem qW {l:List bF} {i:Nat} {E c:Bool} (h: (!eM (l.getD i .zero)||decide ((i:Int)>0)&& !E)=c) (hE:0<i→E=cD (l.getD (i - 1) .zero).frm (l.getD (i - 1) .zero).num (l.getD i .zero).frm (l.getD i .zero).num):mX l i= !c:=by
 subst h
 unfold mX
 by_cases h0:i=0
 · subst h0;simp
 · rw[hE (by omega)]
   have h1:decide ((i:Int)>0)=true:=decide_eq_true (by omega)
   have h2: (i==0)=false:=by simpa using h0
   rw[h1,h2,Bool.true_and,Bool.false_or,Bool.not_or,Bool.not_not,Bool.not_not]
theorem qX {l:List bZ} {i:Nat} {E c:Bool} (h: (!lC (l.getD i .zero)||decide ((i:Int)>0)&& !E)=c) (hE:0<i→E=cD (l.getD (i - 1) .zero).frm (l.getD (i - 1) .zero).num (l.getD i .zero).frm (l.getD i .zero).num):mY l i= !c:=by
 subst h
 unfold mY
 by_cases h0:i=0
 · subst h0;simp
 · rw[hE (by omega)]
   have h1:decide ((i:Int)>0)=true:=decide_eq_true (by omega)
   have h2: (i==0)=false:=by simpa using h0
   rw[h1,h2,Bool.true_and,Bool.false_or,Bool.not_or,Bool.not_not,Bool.not_not]
theorem dS {i:Nat} (h:0<i) (hl:i≤1000000):wrap64 ((i:Int) - 1)=((i - 1:Nat):Int):=by
 rw[aH (by omega)];omega
end Go.Ab
namespace Go.Ab
open Int renaming toNat_natCast→aNf
open Nat renaming le_of_ble_eq_true→aNg,zero_le→aNj,le_refl→aNp
open List renaming length_append→aNh,length_cons→aNk,length_nil→aNl,getD_eq_getElem?_getD→aNm,length_take→aNn,getElem?_eq_getElem→aNo,getElem?_eq_some_iff→aNq,mem_map→aNr,mem_cons→aNs,all_eq_true→aNt,range→aNu,length_drop→aNv
open Bool renaming and_eq_true→aNi
open Go Go.RowKit
abbrev bH.V (k:bH):V:= .e (.agg [.d (.i k.id),.d (.i k.time),.d (.i k.next),.d (.sl (aF k.held)),.d (.sl (aJ k.marks)),.d (.sl (aF k.inbox))])
theorem ta (a b:Int):decide (a≥b)= !decide (a<b):=by
 by_cases h:a<b
 · simp[h,Int.not_le.2 h]
 · simp[h,Int.not_lt.1 h]
theorem vV {k:bH} {i:Nat} {c:Bool} (h: ((k.held.getD i .zero).frm==k.id&&decide ((k.held.getD i .zero).num≥k.next)||decide ((k.held.getD i .zero).til≤k.time)|| !jn k.id (k.held.getD i .zero)||decide (kB k.marks (k.held.getD i .zero).frm (k.held.getD i .zero).num≥0))=c):vT k i= !c:=by
 subst h
 unfold vT
 simp only[ta,Bool.not_or,Bool.not_not]
theorem vW {k:bH} {i:Nat} {c:Bool} (h: ((k.marks.getD i .zero).frm==k.id&&decide ((k.marks.getD i .zero).num≥k.next)||decide ((k.marks.getD i .zero).til≤k.time))=c):xZ k i= !c:=by
 subst h
 unfold xZ
 simp only[ta,Bool.not_or,Bool.not_not]
theorem sY {k:bH} {i:Nat} {c:Bool} (h: ((k.inbox.getD i .zero).frm==k.id&&decide ((k.inbox.getD i .zero).num≥k.next)||(k.inbox.getD i .zero).to != k.id||decide ((k.inbox.getD i .zero).til>k.time)&&decide (kB k.marks (k.inbox.getD i .zero).frm (k.inbox.getD i .zero).num<0))=c):sW k i= !c:=by
 subst h
 unfold sW
 simp only[ta,Bool.not_or,Bool.not_not,bne,gt_iff_lt]
theorem bW (k:bH):dG k=true↔(eP k.id=true∧(0≤k.time∧k.time≤999)∧(1≤k.next∧k.next≤100)∧k.held.length≤6∧k.marks.length≤12∧k.inbox.length≤6)∧(jA k.held=true∧nG k.marks=true∧jA k.inbox=true)∧
 (aNu k.held.length).all (vT k)=true∧(aNu k.marks.length).all (xZ k)=true∧(aNu k.inbox.length).all (sW k)=true:=by
 simp only[dG,mR,aNi,aD]
 constructor
 · rintro⟨⟨⟨⟨⟨⟨⟨⟨⟨⟨⟨h1,h2⟩,h3⟩,h4⟩,h5⟩,h6⟩,h7⟩,h8⟩,h9⟩,h10⟩,h11⟩,h12⟩
   exact⟨⟨h1,h2,h3,h4,h5,h6⟩,⟨h7,h8,h9⟩,h10,h11,h12⟩
 · rintro⟨⟨h1,h2,h3,h4,h5,h6⟩,⟨h7,h8,h9⟩,h10,h11,h12⟩
   exact⟨⟨⟨⟨⟨⟨⟨⟨⟨⟨⟨h1,h2⟩,h3⟩,h4⟩,h5⟩,h6⟩,h7⟩,h8⟩,h9⟩,h10⟩,h11⟩,h12⟩
theorem mF {k:bH} (h: ¬dG k=true):dG k=false:=by simpa using h
set_option linter.unusedVariables false
theorem aCo (n:Nat): (jF n).length≤n+1:=by
 induction n using Nat.strongRecOn with
 |_ n ih=>
  by_cases h:n<10
  · rw[lA h];simp
  · rw[qT (by omega),aNh]
    have:=ih (n / 10) (by omega)
    simp only[aNk,aNl];omega
theorem yh {d:Nat} (h:d<10):u8 (wrap64 (48+(d:Int)))=UInt8.ofNat (48+d):=by
 rw[aH (by omega)]
 apply UInt8.toNat_inj.1
 have h1:=yc (48+(d:Int))
 rw[pV h]
 unfold qN at h1
 omega
theorem jo {s:List UInt8} {i:Nat} (h: ∀k,k<i→eY (s.getD k 0)=true) (hi:i≤s.length): ∀b∈s.take i,eY b=true:=by
 intro b hb
 obtain⟨k,hk⟩:=List.mem_iff_getElem?.1 hb
 have hlt:k<i:=by
  have:=(aNq.1 hk).1
  rw[aNn] at this;omega
 rw[List.getElem?_take_of_lt hlt] at hk
 have:=h k hlt
 rw[aNm,hk] at this
 exact this
theorem tb {s:List UInt8} (h: ∀k,k<s.length→eY (s.getD k 0)=true):yA s=true:=by
 have:=jo h (aNp _)
 rw[List.take_length] at this
 exact aNt.2 this
theorem ml {s:List UInt8} {k:Nat} (hk:k<s.length) (h:eY (s.getD k 0)=false):yA s=false:=by
 unfold yA
 rw[List.all_eq_false]
 refine⟨s.getD k 0,?_,by rw[h];decide⟩
 rw[aNm,aNo hk]
 exact List.getElem_mem _
theorem mn (s:List UInt8) (i:Nat):eY (s.getD i 0)=mR (wZ s i) 48 57:=by
 unfold eY mR wZ
 congr 1<;>(apply decide_eq_decide.2;omega)
theorem yi {s:List UInt8} {i a:Nat} (hi:i<s.length) (hd:eY (s.getD i 0)=true) (ha:nN (s.take i)=a) (hb:a<1000000):
 wrap64 (wrap64 (10*(a:Int))+wrap64 (qN (((s.getD i 0).toNat:Int) - 48)))=(nN (s.take (i+1)):Nat)∧wrap64 (wrap64 ((a:Int)*10)+wrap64 (qN (((s.getD i 0).toNat:Int) - 48)))=(nN (s.take (i+1)):Nat):=by
 rw[aDl hi,ha]
 simp only[eY,aNi,aD] at hd
 have h8:qN (((s.getD i 0).toNat:Int) - 48)=((s.getD i 0).toNat:Int) - 48:=by unfold qN;omega
 rw[h8,aH (n:=((s.getD i 0).toNat:Int) - 48) (by omega),aH (n:=10*(a:Int)) (by omega),aH (n:=(a:Int)*10) (by omega),aH (by omega),aH (by omega)]
 omega
theorem gm {s:List UInt8} {i:Nat} (h: ∀k,k<i→eY (s.getD k 0)=true) (hi:i≤s.length) (h5:i≤5):nN (s.take i)<100000:=
 Nat.lt_of_lt_of_le (lb i (s.take i) (by rw[aNn];omega) (jo h hi)) (Nat.pow_le_pow_right (by decide) h5)
set_option linter.unusedVariables false
theorem vX (t:List UInt8): -1≤eZ t∧eZ t≤9999:=by
 unfold eZ
 split
 · rename_i h
   have h1:=lb t.length t rfl (aNt.1 h.2.1)
   have h2:10 ^ t.length≤10 ^ 4:=Nat.pow_le_pow_right (by decide) h.1.2
   have h3: (10:Nat) ^ 4=10000:=rfl
   omega
 · omega
theorem aFz {s:List UInt8} {i:Nat} (hc:vU s=some i):
 iD s=if 1≤eZ (s.take i)∧eZ (s.take i)≤60∧i+2+(eZ (s.take i)).toNat≤s.length∧s.getD (i+1+(eZ (s.take i)).toNat) 0=59 then some ((s.take (i+1+(eZ (s.take i)).toNat)).drop (i+1),i+2+(eZ (s.take i)).toNat) else none:=by
 obtain⟨q1,q2,q3,q4,q5⟩:=yC hc
 have hd:=uO (s:=s.take i) (by rw[aNn];omega)
 unfold iD
 rw[hc]
 simp only
 cases hn:hU (s.take i) with
 |none=>
  rw[hn] at hd
  simp only at hd
  rw[aB (by omega)]
 |some n=>
  rw[hn] at hd
  simp only at hd
  rw[hd]
  simp only[aNf]
  by_cases h:1≤n∧n≤60∧i+2+n≤s.length∧s.getD (i+1+n) 0=59
  · rw[aC h,aC ⟨by omega,by omega,h.2.2.1,h.2.2.2⟩]
  · rw[aB h,aB (fun e=>h ⟨by omega,by omega,e.2.2.1,e.2.2.2⟩)]
def aDm (s:List UInt8):List UInt8:=match iD s with|some p=>p.1|none=>[]
def vi (s:List UInt8):Nat:=match iD s with|some p=>p.2|none=>0
theorem tc {s:List UInt8}:vi s=0↔iD s=none:=by
 unfold vi
 cases h:iD s with
 |none=>simp
 |some p=>
  obtain⟨r,n⟩:=p
  have:=pD h
  simp;omega
theorem ct {s:List UInt8} (h: ∀j,j<3→j<s.length→s.getD j 0≠58):vU s=none:=sy fun j _ h2 h3=>h j (by omega) h3
theorem mq {s:List UInt8} {i:Nat} (h3:i<3) (hi:i<s.length) (hc:s.getD i 0=58) (h: ∀j,j<i→s.getD j 0≠58):vU s=some i:=sw (aNj _) (by omega) hi hc fun j _ h2=>h j h2
theorem zU {s:List UInt8} (h:vU s=none):iD s=none:=by unfold iD;rw[h]
set_option linter.unusedVariables false
def gX (t:List UInt8):Int:=match hU t with|some n=>(n:Int)|none=>0
theorem aBg (t:List UInt8):0≤gX t∧gX t≤99999:=by
 unfold gX hU
 split
 · rename_i n h
   split at h
   · rename_i hc
     cases h
     have h1:=lb t.length t rfl (aNt.1 hc.2.2)
     have h2:10 ^ t.length≤10 ^ 5:=Nat.pow_le_pow_right (by decide) hc.1.2
     have h3: (10:Nat) ^ 5=100000:=rfl
     omega
   · cases h
 · omega
theorem aF0 (s:List UInt8) (a i:Nat): (s.take (a+i)).drop a=(s.drop a).take i:=by
 rw[List.drop_take];congr 1;omega
theorem uP (s:List UInt8) (a j:Nat): (s.drop a).getD j 0=s.getD (a+j) 0:=by
 rw[aNm,aNm,List.getElem?_drop]
theorem aDn {t:List UInt8} (h3:t.length=3) {n:Nat} (h:hU t=some n):100≤n:=by
 unfold hU at h
 split at h
 · rename_i hc
   cases h
   match t,h3 with
   | [x,y,z],_=>
    have hd:=aNt.1 hc.2.2
    have hx:=hd x (by simp)
    simp only[eY,aNi,aD] at hx
    have hx0:x≠48:=fun e=>hc.2.1 ⟨e,by simp⟩
    have hx1:x.toNat≠48:=fun e=>hx0 (UInt8.toNat_inj.1 e)
    show 100≤((0*10+(x.toNat - 48))*10+(y.toNat - 48))*10+(z.toNat - 48)
    omega
 · cases h
section
variable {s:List UInt8} {a c:Nat}
theorem uQ (hk: ∀j,a≤j→j<c→s.getD j 0≠58) (h:s.length≤c∨a+3≤c):iD (s.drop a)=none:=by
 refine zU (ct fun j h3 hj=> ?_)
 rw[aNv] at hj
 rw[uP]
 exact hk (a+j) (by omega) (by omega)
theorem aH9 (ha:a≤c) (hk: ∀j,a≤j→j<c→s.getD j 0≠58) (h3:c<a+3) (hc:c<s.length) (h58:s.getD c 0=58):vU (s.drop a)=some (c - a):=by
 refine mq (by omega) (by rw[aNv];omega) (by rw[uP,show a+(c - a)=c by omega];exact h58) fun j hj=> ?_
 rw[uP]
 exact hk (a+j) (by omega) (by omega)
def aLl (s:List UInt8) (a c:Nat):Prop:= ∃n,hU ((s.take c).drop a)=some n∧1≤n∧n≤60∧c+1+n<s.length∧s.getD (c+1+n) 0=59
theorem aF1 (ha:a≤c) (hk: ∀j,a≤j→j<c→s.getD j 0≠58) (h3:c≤a+3) (hc:c<s.length) (h58:s.getD c 0=58):
 (¬aLl s a c→iD (s.drop a)=none)∧(∀n,hU ((s.take c).drop a)=some n→1≤n→n≤60→c+1+n<s.length→s.getD (c+1+n) 0=59→iD (s.drop a)=some ((s.take (c+1+n)).drop (c+1),c+2+n - a)):=by
 have hcut: (s.take c).drop a=(s.drop a).take (c - a):=by rw[← aF0,show a+(c - a)=c by omega]
 have hlen: ((s.take c).drop a).length=c - a:=by rw[aNv,aNn];omega
 by_cases h4:c=a+3
 · have hno:iD (s.drop a)=none:=uQ hk (.inr (by omega))
   refine⟨fun _=>hno,fun n h1 h2 h5 h6 h7=> ?_⟩
   have:=aDn (by rw[hlen];omega) h1
   omega
 · have hcol:=aH9 ha hk (by omega) hc h58
   have key: ∀n,hU ((s.take c).drop a)=some n→1≤n→n≤60→c+1+n<s.length→s.getD (c+1+n) 0=59→iD (s.drop a)=some ((s.take (c+1+n)).drop (c+1),c+2+n - a):=by
    intro n h1 h2 h5 h6 h7
    unfold iD
    rw[hcol]
    simp only
    rw[← hcut,h1]
    simp only
    rw[aC ⟨h2,h5,by rw[aNv];omega,by rw[uP,show a+(c - a+1+n)=c+1+n by omega];exact h7⟩]
    congr 2
    · rw[← aF0,List.drop_drop,show a+(c - a+1+n)=c+1+n by omega,show a+(c - a+1)=c+1 by omega]
    · omega
   refine⟨fun hno=> ?_,key⟩
   unfold iD
   rw[hcol]
   simp only
   rw[← hcut]
   cases hn:hU ((s.take c).drop a) with
   |none=>rfl
   |some n=>
    simp only
    rw[aB]
    rintro⟨h1,h2,h5,h6⟩
    rw[aNv] at h5
    rw[uP,show a+(c - a+1+n)=c+1+n by omega] at h6
    exact hno ⟨n,hn,h1,h2,by omega,h6⟩
end
open Go Go.RowKit Go.Sort
set_option linter.unusedVariables false
set_option linter.unusedSimpArgs false
theorem cu {P:Program} {f:FuncId} {ds:List D} {X:V} (hc:ax P f) (h: ∀(S:Nat→Prop) (w:World) (args:Array Value),aCy P w→args.size=ds.length→(∀(i:Nat) d v,ds[i]? =some d→args[i]? =some v→DR w S d v)→
 Calls P f args w fun e w'=> ∃v S',e= .returned v∧Fr (fun _=>False) w w'∧(∀σ ι,kZ σ ι w' S' X v)∧ ∀b,S' b→w.heap.size≤b∧b<w'.heap.size):Spec P f ds.length (dA 0 (ds.map Dv)) [(.t 0,.v X)]:=by
 refine⟨hc,fun ι ν S w args hgb hvr hsz hargs=>lK (fun e w'=> ?_) (h S w args (hgb w (Fr.refl _ _)) hsz fun i d v hi hv=> ?_)⟩
 · rintro⟨v,S',rfl,hfr,hx,hS⟩
   refine⟨v,fun _=>undef,S',rfl,hfr.weak (fun _ h=>h.elim),⟨fun s k hk=> ?_,fun o k hk=> ?_,fun o b hm2=> ?_,fun o o' b hm2=> ?_,fun b hb=>(hS b hb).2⟩,fun b hb=> .inr (.inl (hS b hb).1),fun o b hm2=> ?_,fun o k k' hk hk'=> ?_⟩
   · simp only[aP] at hk
     split at hk
     · rename_i e3;cases e3;cases hk;exact hx _ _
     · cases hk
   · simp[aP] at hk
   · obtain⟨⟨k,hk,_⟩,_⟩:=hm2;simp[aP] at hk
   · obtain⟨⟨k,hk,_⟩,_⟩:=hm2;simp[aP] at hk
   · obtain⟨⟨k,hk,_⟩,_⟩:=hm2;simp[aP] at hk
   · simp[aP] at hk'
 · have hlt:i<ds.length:=(aNq.1 hi).1
   have hv2:=hargs i hlt
   rw[hv] at hv2
   cases hv2
   have hl:aP (dA 0 (ds.map Dv)) (.t i)=some (.v (Dv d)):=by
    have:=nM 0 (ds.map Dv) [] i (aNj _) (by simpa using hlt)
    rw[List.append_nil] at this
    rw[this];simp[hi]
   exact hvr.slots i _ hl
theorem aCp (w:World) (k:Nat):Fr (fun _=>False) w (w.drewN k):=⟨rfl,rfl,rfl,aNp _,fun _ _ _=>rfl⟩
theorem vj (w:World) (os:Array Obj):Fr (fun _=>False) w (grow w os):=
 ⟨rfl,rfl,rfl,by simp[grow],fun b hb _=>by simp[grow,Array.getElem?_append_left hb]⟩
theorem gn {P:Program} {w:World} (h:aCy P w) {g:Nat} (hg:P.globalNamed "internal/bytealg.MaxLen" =some g): ∃m,w.cell? ⟨g,0,none⟩=some (.int .i64 m):=by
 obtain⟨_,m,hm⟩:=h
 refine⟨m,?_⟩
 unfold World.var? at hm
 rw[hg] at hm
 simp only[Option.bind_some] at hm
 split at hm
 · rename_i cs t fz hh
   cases hm
   unfold World.cell?
   simp[hh]
 · cases hm
theorem bytesOf (l:List UInt8): (⟨l.toArray⟩:ByteArray).data.toList=l:=rfl
theorem DR.s_inv {w:World} {S:Nat→Prop} {l:List UInt8} {v:Value} (h:DR w S (.s l) v):v= .string ⟨l.toArray⟩:=by cases h;rfl
theorem DR.i_inv {w:World} {S:Nat→Prop} {n:Int} {v:Value} (h:DR w S (.i n) v):v= .int .i64 n:=by cases h;rfl
theorem aIa (n:Nat):Lib.decDigits n=jF n:=by
 induction n using Nat.strongRecOn with
 |_ n ih=>
  unfold Lib.decDigits
  by_cases h:n<10
  · rw[dif_pos h,lA h]
  · rw[dif_neg h,qT (by omega),ih (n / 10) (by omega)]
theorem aDo {P:Program} {f:FuncId} (hc:ax P f) (n:Nat) (hn:n≤1000000)
 (h: ∀(w:World),Lib.TabIs P w "internal/strconv.uint64pow10" .u64 Lib.pow10Tab→Calls P f #[.int .i64 n] w fun e w'=>e= .returned (.string ⟨(Lib.itoa n).toArray⟩)∧ ∃k os,w'=grow (w.drewN k) os):
 Spec P f 1 [(.t 0,.v (I n))] [(.t 0,.v (Dv (.s (jF n))))]:=by
 refine cu (ds:=[.i n]) hc fun S w args hg hsz ha=> ?_
 have ha0:=ha 0 (.i n) (args[0]'(by rw[hsz];simp)) rfl (Array.getElem?_eq_getElem (by rw[hsz];simp))
 have e:args= #[.int .i64 n]:=by
  apply Array.ext
  · rw[hsz];rfl
  · intro i h1 h2
    have:i=0:=by have:i<1:=by simpa using h2
                 omega
    subst this
    exact ha0.i_inv
 subst e
 refine lK (fun e w'=> ?_) (h w hg.1)
 rintro⟨rfl,k,os,rfl⟩
 have e2:Lib.itoa (n:Int)=jF n:=by
  unfold Lib.itoa
  rw[aB (by omega),aNf,aIa]
 exact⟨_,fun _=>False,rfl,(aCp w k).trans (vj _ os) (fun _ _ h=>h),fun σ ι=>by rw[e2];exact DR.s _,fun b hb=>hb.elim⟩
def bD (s:List UInt8):List UInt8:=s.takeWhile (· != 32)
def aM (s:List UInt8):List UInt8:=(s.dropWhile (· != 32)).drop 1
def eE (s:List UInt8):Bool:=s.any (· ==32)
def gL:Nat→List UInt8→List (List UInt8)
 |0,s=>[s]
 |n+1,s=>if eE s then bD s::gL n (aM s) else [s]
theorem eF: ∀(s:List UInt8),(eE s=true→Lib.indexByte s 32=(bD s).length∧s.take (bD s).length=bD s∧s.drop ((bD s).length+1)=aM s∧(bD s).length<s.length)∧(eE s=false→Lib.indexByte s 32= -1∧bD s=s∧aM s=[])
 | []=>⟨fun h=>by simp[eE] at h,fun _=>⟨rfl,rfl,rfl⟩⟩
 |b::l=>by
  obtain⟨h1,h2⟩:=eF l
  unfold Lib.indexByte
  by_cases hb:b=32
  · subst hb
    refine⟨fun _=> ?_,fun h=>by simp[eE] at h⟩
    simp[bD,aM]
  · have e1:eE (b::l)=eE l:=by simp[eE,hb]
    have e2:bD (b::l)=b::bD l:=by simp[bD,hb]
    have e3:aM (b::l)=aM l:=by simp[aM,hb]
    rw[aB (by simpa using hb),e1,e2,e3]
    refine⟨fun h=> ?_,fun h=> ?_⟩
    · obtain⟨q1,q2,q3,q4⟩:=h1 h
      rw[q1,aB (by simp)]
      refine⟨by simp,by simp[q2],by simpa using q3,by simpa using q4⟩
    · obtain⟨q1,q2,q3⟩:=h2 h
      rw[q1,aC (by decide)]
      exact⟨rfl,by rw[q2],q3⟩
theorem aIb (s:List UInt8):Lib.cut s [32]=(bD s,aM s,eE s):=by
 obtain⟨h1,h2⟩:=eF s
 unfold Lib.cut
 rw[Lib.index_one]
 cases h:eE s with
 |true=>
  obtain⟨q1,q2,q3,q4⟩:=h1 h
  rw[q1,aC (by omega),aNf,q2]
  show(_,List.drop ((bD s).length+1) s,_)=_
  rw[q3]
 |false=>
  obtain⟨q1,q2,q3⟩:=h2 h
  rw[q1,aB (by decide),q2,q3]
theorem td: ∀(n:Nat) (s:List UInt8),Lib.splitK [32] 0 n s=gL n s
 |0,s=>rfl
 |n+1,s=>by
  obtain⟨h1,h2⟩:=eF s
  unfold Lib.splitK gL
  rw[Lib.index_one]
  cases h:eE s with
  |true=>
   obtain⟨q1,q2,q3,q4⟩:=h1 h
   rw[q1,aB (by simp),aC rfl,aNf,Nat.add_zero,q2]
   show _::Lib.splitK [32] 0 n (List.drop ((bD s).length+1) s)=_
   rw[q3,td n]
  |false=>
   obtain⟨q1,q2,q3⟩:=h2 h
   rw[q1,aC (by decide),aB (by simp)]
theorem aF2 {P:Program} {f:FuncId} (hc:ax P f) (s:List UInt8) (hs:s.length≤1000000)
 (h: ∀(w:World),aCy P w→Calls P f #[.string ⟨s.toArray⟩,.string ⟨#[32]⟩] w fun e w'=>e= .returned (.tuple #[.string ⟨(Lib.cut s [32]).1.toArray⟩,.string ⟨(Lib.cut s [32]).2.1.toArray⟩,.bool (Lib.cut s [32]).2.2])∧ ∃n,w'=w.drewN n):
 Spec P f 2 [(.t 0,.v (Dv (.s s))),(.t 1,.v (Dv (.s [32])))] [(.t 0,.v (.tup [.c (.d (.s (bD s))),.c (.d (.s (aM s))),.c (.d (.b (eE s)))]))]:=by
 refine cu (ds:=[.s s,.s [32]]) hc fun S w args hg hsz ha=> ?_
 have ha0:=ha 0 (.s s) (args[0]'(by rw[hsz];simp)) rfl (Array.getElem?_eq_getElem (by rw[hsz];simp))
 have ha1:=ha 1 (.s [32]) (args[1]'(by rw[hsz];simp)) rfl (Array.getElem?_eq_getElem (by rw[hsz];simp))
 have e:args= #[.string ⟨s.toArray⟩,.string ⟨#[32]⟩]:=by
  apply Array.ext
  · rw[hsz];rfl
  · intro i h1 h2
    have:i=0∨i=1:=by have:i<2:=by simpa using h2
                     omega
    rcases this with rfl|rfl
    · exact ha0.s_inv
    · exact ha1.s_inv
 subst e
 refine lK (fun e w'=> ?_) (h w hg)
 rintro⟨rfl,n,rfl⟩
 rw[aIb]
 refine⟨_,fun _=>False,rfl,aCp w n,fun σ ι=>⟨[.string ⟨(bD s).toArray⟩,.string ⟨(aM s).toArray⟩,.bool (eE s)],rfl,rfl,fun k x u hx hu=> ?_⟩,fun b hb=>hb.elim⟩
 match k,hx,hu with
 |0,hx,hu=>cases hx;cases hu;exact DR.s _
 |1,hx,hu=>cases hx;cases hu;exact DR.s _
 |2,hx,hu=>cases hx;cases hu;exact DR.b _
 |k+3,hx,hu=>simp at hx
theorem aCq (w:World) (l:List (List UInt8)) (cs:Array Value) (e:TypeId) (cap:Nat) (hl:l.length≤cap) (hm:cap≤maxLen) (hcs: ∀(i:Nat) x,l[i]? =some x→cs[i]? =some (.string ⟨x.toArray⟩)):
 DR (w.alloc (.cells cs e)) (fun b=>b=w.heap.size) (.sl (bT l)) (.slice (some ⟨w.heap.size,0,none⟩) l.length cap):=by
 have hh: (w.alloc (.cells cs e)).heap[w.heap.size]? =some (.cells cs e (0,0)):=heap_alloc_new w _
 have:=DR.sl (w:=w.alloc (.cells cs e)) (S:=fun b=>b=w.heap.size) (bT l) (some ⟨w.heap.size,0,none⟩) cap 1 ⟨w.heap.size,0,none⟩ (fun i k=> .string ⟨(l.getD i []).toArray⟩)
  (by rw[aL];exact hl) hm (vS l) (fun _=>rfl) (fun i r k d hi hk=> ?_) (fun i r k d hi hk=> ?_)
 · rw[aL] at this;exact this
 · have hi2:i<l.length:=by have:=(aNq.1 hi).1;rwa [aL] at this
   have hr:r=[.s (l.getD i [])]:=by
    have h1:=gB hi2
    rw[aNm,hi] at h1
    exact h1
   subst hr
   have hk0:k=0:=by have:=(aNq.1 hk).1;simp at this;exact this
   subst hk0
   refine⟨rfl,?_⟩
   rw[nK,cell_of_row _ _ _ cs e (0,0) hh]
   rw[show 0+(i*1+0)=i by omega]
   exact hcs i (l.getD i []) (by rw[aNm,aNo hi2];rfl)
 · have hi2:i<l.length:=by have:=(aNq.1 hi).1;rwa [aL] at this
   have hr:r=[.s (l.getD i [])]:=by
    have h1:=gB hi2
    rw[aNm,hi] at h1
    exact h1
   subst hr
   have hk0:k=0:=by have:=(aNq.1 hk).1;simp at this;exact this
   subst hk0
   cases hk
   exact DR.s _
theorem go {s:List UInt8} (h:eE s=true): (aM s).length<s.length:=by
 obtain⟨q1,q2,q3,q4⟩:=(eF s).1 h
 rw[← q3,aNv];omega
theorem pW (s:List UInt8):Lib.count s [32]=if eE s=true then 1+Lib.count (aM s) [32] else 0:=by
 obtain⟨h1,h2⟩:=eF s
 cases h:eE s with
 |true=>
  obtain⟨q1,q2,q3,q4⟩:=h1 h
  rw[aC rfl,Lib.count_hit (i:=(bD s).length) (by simp) (by rw[Lib.index_one,q1])]
  show 1+Lib.count (List.drop ((bD s).length+1) s) _=_
  rw[q3]
 |false=>
  rw[aB (by simp),Lib.count_miss (by rw[Lib.index_one,(h2 h).1])]
theorem mr: ∀(n:Nat) (s:List UInt8),Lib.count s [32]=n→(gL n s).length=n+1
 |0,s,h=>rfl
 |n+1,s,h=>by
  rw[pW] at h
  unfold gL
  by_cases hs:eE s=true
  · rw[aC hs] at h
    rw[aC hs,aNk,mr n (aM s) (by omega)]
  · rw[aB hs] at h;omega
theorem ms: ∀(n:Nat) (s:List UInt8),(gL n s).length≤n+1∧1≤(gL n s).length
 |0,s=>⟨aNp _,aNp _⟩
 |n+1,s=>by
  unfold gL
  split
  · have:=ms n (aM s)
    rw[aNk];omega
  · simp
theorem yj: ∀(n m:Nat) (s:List UInt8),s.length≤n→s.length≤m→gL n s=gL m s
 |0,0,s,_,_=>rfl
 |0,m+1,s,h,_=>by
  rw[List.eq_nil_of_length_eq_zero (Nat.le_zero.1 h)];rfl
 |n+1,0,s,_,h=>by
  rw[List.eq_nil_of_length_eq_zero (Nat.le_zero.1 h)];rfl
 |n+1,m+1,s,h1,h2=>by
  unfold gL
  by_cases hs:eE s=true
  · have:=go hs
    rw[aC hs,aC hs,yj n m (aM s) (by omega) (by omega)]
  · rw[aB hs,aB hs]
theorem aF3 (n:Nat) (s:List UInt8):gL (min (n+1) (s.length+1) - 1) s=gL n s:=by
 by_cases h:n≤s.length
 · rw[show min (n+1) (s.length+1) - 1=n by omega]
 · exact yj _ _ s (by omega) (by omega)
def cQ (s:List UInt8):List (List UInt8):=gL (Lib.count s [32]) s
theorem aJ1 {args:Array Value} {w:World} {S:Nat→Prop} {s:List UInt8} {rest:List D} {vs:List Value} (hsz:args.size=vs.length) (h: ∀(i:Nat) d v,rest[i]? =some d→args[i]? =some v→DR w S d v) (hl:rest.length=vs.length) (hd: ∀(i:Nat) d v,rest[i]? =some d→DR w S d v→vs[i]? =some v):args=vs.toArray:=by
 apply Array.ext
 · rw[hsz];simp
 · intro i h1 h2
   have hi:i<rest.length:=by rw[hl,← hsz];exact h1
   have h3:=hd i rest[i] args[i] (aNo hi) (h i rest[i] args[i] (aNo hi) (Array.getElem?_eq_getElem h1))
   rw[List.getElem_toArray]
   rw[aNo (by simpa using h2)] at h3
   exact(Option.some.inj h3).symm
theorem jp (n:Nat) (s:List UInt8): (Lib.splitB ⟨#[32]⟩ 0 n ⟨s.toArray⟩).map (·.data.toList)=gL n s:=by
 rw[Lib.splitB_data];exact td n s
theorem te {n:Nat} {s:List UInt8} {i:Nat} {x:List UInt8} (h: (gL n s)[i]? =some x): ((Lib.splitB ⟨#[32]⟩ 0 n ⟨s.toArray⟩).map Value.string)[i]? =some (.string ⟨x.toArray⟩):=by
 rw[← jp,List.getElem?_map] at h
 rw[List.getElem?_map]
 cases hq: (Lib.splitB ⟨#[32]⟩ 0 n ⟨s.toArray⟩)[i]? with
 |none=>rw[hq] at h;cases h
 |some b=>rw[hq] at h;cases h;rfl
theorem aBh (n:Nat) (s:List UInt8): (Lib.splitB ⟨#[32]⟩ 0 n ⟨s.toArray⟩).length=(gL n s).length:=by rw[← jp,List.length_map]
theorem aBi {P:Program} {f:FuncId} {e:TypeId} (hc:ax P f) (s:List UInt8) (hs:s.length≤1000000)
 (h: ∀(w:World),aCy P w→Calls P f #[.string ⟨s.toArray⟩,.string ⟨#[32]⟩] w fun ex w'=>ex= .returned (.slice (some ⟨w.heap.size,0,none⟩) (Lib.count s [32]+1) (Lib.count s [32]+1))∧w'=w.alloc (.cells ((Lib.splitB ⟨#[32]⟩ 0 (Lib.count s [32]) ⟨s.toArray⟩).map Value.string).toArray e)):
 Spec P f 2 [(.t 0,.v (Dv (.s s))),(.t 1,.v (Dv (.s [32])))] [(.t 0,.v (Dv (.sl (bT (cQ s)))))]:=by
 refine cu (ds:=[.s s,.s [32]]) hc fun S w args hg hsz ha=> ?_
 obtain rfl:args= #[.string ⟨s.toArray⟩,.string ⟨#[32]⟩]:=by
  refine aJ1 (s:=s) (vs:=[.string ⟨s.toArray⟩,.string ⟨#[32]⟩]) hsz ha rfl fun i d v hi hd=> ?_
  match i,hi with
  |0,hi=>cases hi;rw[hd.s_inv];rfl
  |1,hi=>cases hi;rw[hd.s_inv];rfl
  |k+2,hi=>simp at hi
 refine lK (fun ex w'=> ?_) (h w hg)
 rintro⟨rfl,rfl⟩
 have hl: (cQ s).length=Lib.count s [32]+1:=mr _ s rfl
 have hcl:=Lib.count_le s [32]
 refine⟨_,fun b=>b=w.heap.size,rfl,by rw[alloc_eq_grow];exact vj w _,fun σ ι=> ?_,fun b hb=> ?_⟩
 · have:=aCq w (cQ s) ((Lib.splitB ⟨#[32]⟩ 0 (Lib.count s [32]) ⟨s.toArray⟩).map Value.string).toArray e (Lib.count s [32]+1) (by omega) (by unfold maxLen;omega) fun i x hx=>by
    rw[List.getElem?_toArray];exact te hx
   rw[hl] at this
   exact this
 · subst hb
   refine⟨aNp _,?_⟩
   rw[alloc_eq_grow];simp[grow]
theorem yk {P:Program} {f:FuncId} {e:TypeId} (hc:ax P f) (n:Nat) (s:List UInt8) (hs:s.length≤1000000) (hn:n≤1000)
 (h: ∀(w:World),aCy P w→Calls P f #[.string ⟨s.toArray⟩,.string ⟨#[32]⟩,.int .i64 ((n+1:Nat):Int)] w fun ex w'=>ex= .returned (.slice (some ⟨w.heap.size,0,none⟩) (Lib.splitB ⟨#[32]⟩ 0 (min (n+1) (s.length+1) - 1) ⟨s.toArray⟩).length (min (n+1) (s.length+1)))∧w'=w.alloc (.cells (Lib.cellsOf (Lib.splitB ⟨#[32]⟩ 0 (min (n+1) (s.length+1) - 1) ⟨s.toArray⟩) (min (n+1) (s.length+1))) e)):
 Spec P f 3 [(.t 0,.v (Dv (.s s))),(.t 1,.v (Dv (.s [32]))),(.t 2,.v (I ((n+1:Nat):Int)))] [(.t 0,.v (Dv (.sl (bT (gL n s)))))]:=by
 refine cu (ds:=[.s s,.s [32],.i ((n+1:Nat):Int)]) hc fun S w args hg hsz ha=> ?_
 obtain rfl:args= #[.string ⟨s.toArray⟩,.string ⟨#[32]⟩,.int .i64 ((n+1:Nat):Int)]:=by
  refine aJ1 (s:=s) (vs:=[.string ⟨s.toArray⟩,.string ⟨#[32]⟩,.int .i64 ((n+1:Nat):Int)]) hsz ha rfl fun i d v hi hd=> ?_
  match i,hi with
  |0,hi=>cases hi;rw[hd.s_inv];rfl
  |1,hi=>cases hi;rw[hd.s_inv];rfl
  |2,hi=>cases hi;rw[hd.i_inv];rfl
  |k+3,hi=>simp at hi
 refine lK (fun ex w'=> ?_) (h w hg)
 rintro⟨rfl,rfl⟩
 have hcl:=ms (min (n+1) (s.length+1) - 1) s
 refine⟨_,fun b=>b=w.heap.size,rfl,by rw[alloc_eq_grow];exact vj w _,fun σ ι=> ?_,fun b hb=> ?_⟩
 · have:=aCq w (gL (min (n+1) (s.length+1) - 1) s) (Lib.cellsOf (Lib.splitB ⟨#[32]⟩ 0 (min (n+1) (s.length+1) - 1) ⟨s.toArray⟩) (min (n+1) (s.length+1))) e (min (n+1) (s.length+1)) (by omega) (by unfold maxLen;omega) fun i x hx=>by
    have h1:=te hx
    unfold Lib.cellsOf
    rw[List.getElem?_toArray,List.getElem?_append_left (aNq.1 h1).1]
    exact h1
   rw[← aBh,aF3] at this
   exact this
 · subst hb
   refine⟨aNp _,?_⟩
   rw[alloc_eq_grow];simp[grow]
set_option linter.unusedVariables false
set_option linter.unusedSimpArgs false
def jP (n:bF):List UInt8:=jF n.frm.toNat++[32]++jF n.num.toNat++[32]++jF n.to.toNat++[32]++jF n.til.toNat++[32]++n.text
def kO (n:bF):List UInt8:=if eM n then jP n else []
def kV:Nat→List UInt8→List UInt8
 |0,s=>s
 |n+1,s=>aM (kV n s)
def cU (s:List UInt8) (i:Nat):Int:=eZ (bD (kV i s))
def dN (n:Nat) (s:List UInt8):List Int:=(aNu n).map (cU s)
theorem bJ (n:Nat) (s:List UInt8): (dN n s).length=n:=by simp[dN]
theorem aBj (n:Nat) (s:List UInt8):dN (n+1) s=dN n s++[cU s n]:=by simp[dN,List.range_succ]
theorem rM (s:List UInt8): (aM s).length≤s.length:=by
 cases h:eE s with
 |true=>exact Nat.le_of_lt (go h)
 |false=>rw[((eF s).2 h).2.2];exact aNj _
theorem mu (n:Nat) (s:List UInt8): (kV n s).length≤s.length:=by
 induction n with
 |zero=>exact aNp _
 |succ n ih=>exact Nat.le_trans (rM _) ih
theorem zK (s:List UInt8): (bD s).length≤s.length:=by
 cases h:eE s with
 |true=>exact Nat.le_of_lt ((eF s).1 h).2.2.2
 |false=>rw[((eF s).2 h).2.1];exact aNp _
def gE (l:List (List UInt8)):Bool:=l.all fun w=>(hU w).isSome
def jG (l:List (List UInt8)):List Int:=if gE l then l.map gX else []
def yD (t:List UInt8):bF:=⟨cU t 0,cU t 1,cU t 2,cU t 3,kV 4 t⟩
def dB (t:List UInt8):bF×Bool:=if t=[]∨kO (yD t)≠t then(.zero,false) else(yD t,true)
def mZ (t:List UInt8):bF:=⟨gX ((gL 4 t).getD 0 []),gX ((gL 4 t).getD 1 []),gX ((gL 4 t).getD 2 []),gX ((gL 4 t).getD 3 []),(gL 4 t).getD 4 []⟩
def jq (t:List UInt8):bF×Bool:=if(gL 4 t).length≠5∨gE ((gL 4 t).take 4)=false∨eM (mZ t)=false∨kO (mZ t)≠t then(.zero,false) else(mZ t,true)
theorem oH {w r:List UInt8} (h: ∀b∈w,b≠32):bD (w++32::r)=w∧aM (w++32::r)=r∧eE (w++32::r)=true:=by
 induction w with
 |nil=>exact⟨by simp[bD],by simp[aM],by simp[eE]⟩
 |cons b w ih=>
  have hb:b≠32:=h b (List.mem_cons_self ..)
  obtain⟨h1,h2,h3⟩:=ih fun x hx=>h x (List.mem_cons_of_mem _ hx)
  refine⟨?_,?_,?_⟩
  · rw[List.cons_append]
    have:bD (b::(w++32::r))=b::bD (w++32::r):=by simp[bD,hb]
    rw[this,h1]
  · rw[List.cons_append]
    have:aM (b::(w++32::r))=aM (w++32::r):=by simp[aM,hb]
    rw[this,h2]
  · simp[eE]
theorem sB (n:Nat): ∀b∈jF n,b≠32:=by
 intro b hb e
 have:=az n b hb
 subst e
 exact absurd this (by decide)
theorem bU {k:Nat}: ∀{n:Nat},n<10 ^ (k+1)→(jF n).length≤k+1:=by
 induction k with
 |zero=>
  intro n h
  rw[lA (by simpa using h)];simp
 |succ k ih=>
  intro n h
  by_cases hs:n<10
  · rw[lA hs];simp
  · rw[qT (by omega),aNh]
    have:=ih (n:=n / 10) (by rw[Nat.pow_succ] at h;omega)
    simp;omega
theorem oI {n:Nat} (h:n<100000):hU (jF n)=some n:=by
 have hl: (jF n).length≤5:=bU (k:=4) (by simpa using h)
 have h1:1≤(jF n).length:=List.length_pos_iff.2 (aBf n)
 have hd:yA (jF n)=true:=aNt.2 (az n)
 unfold hU
 rw[aC ⟨⟨h1,hl⟩,(sX h1 hd).1 (by rw[cr]),hd⟩,cr]
theorem sC {n:Nat} (h:n<10000):eZ (jF n)=n:=by
 have hl: (jF n).length≤4:=bU (k:=3) (by simpa using h)
 have h1:1≤(jF n).length:=List.length_pos_iff.2 (aBf n)
 unfold eZ
 rw[aC ⟨⟨h1,hl⟩,aNt.2 (az n),by rw[cr]⟩,cr]
theorem mG {n:bF} (h:eM n=true): (0≤n.frm∧n.frm≤3)∧(0≤n.to∧n.to≤3)∧(1≤n.num∧n.num≤99)∧(1≤n.til∧n.til≤999)∧(1≤n.text.length∧n.text.length≤24):=by
 simp only[eM,eP,mR,xY,aNi,aD] at h
 omega
theorem ba (n:bF):jP n=jF n.frm.toNat++32::(jF n.num.toNat++32::(jF n.to.toNat++32::(jF n.til.toNat++32::n.text))):=by simp[jP]
theorem tf {n:bF} (h:eM n=true):yD (jP n)=n∧(gL 4 (jP n)).length=5∧gE ((gL 4 (jP n)).take 4)=true∧mZ (jP n)=n:=by
 obtain⟨p1,p2,p3,p4,p5⟩:=mG h
 obtain⟨a1,a2,a3⟩:=oH (r:=jF n.num.toNat++32::(jF n.to.toNat++32::(jF n.til.toNat++32::n.text))) (sB n.frm.toNat)
 obtain⟨b1,b2,b3⟩:=oH (r:=jF n.to.toNat++32::(jF n.til.toNat++32::n.text)) (sB n.num.toNat)
 obtain⟨c1,c2,c3⟩:=oH (r:=jF n.til.toNat++32::n.text) (sB n.to.toNat)
 obtain⟨d1,d2,d3⟩:=oH (r:=n.text) (sB n.til.toNat)
 have hc:gL 4 (jP n)=[jF n.frm.toNat,jF n.num.toNat,jF n.to.toNat,jF n.til.toNat,n.text]:=by
  rw[ba]
  simp only[gL,a1,a2,a3,b1,b2,b3,c1,c2,c3,d1,d2,d3,if_true]
 have e: ∀{x:Int},0≤x→((x.toNat:Nat):Int)=x:=fun h=>by omega
 have v1:eZ (jF n.frm.toNat)=n.frm:=by rw[sC (by omega),e (by omega)]
 have v2:eZ (jF n.num.toNat)=n.num:=by rw[sC (by omega),e (by omega)]
 have v3:eZ (jF n.to.toNat)=n.to:=by rw[sC (by omega),e (by omega)]
 have v4:eZ (jF n.til.toNat)=n.til:=by rw[sC (by omega),e (by omega)]
 have w1:hU (jF n.frm.toNat)=some n.frm.toNat:=oI (by omega)
 have w2:hU (jF n.num.toNat)=some n.num.toNat:=oI (by omega)
 have w3:hU (jF n.to.toNat)=some n.to.toNat:=oI (by omega)
 have w4:hU (jF n.til.toNat)=some n.til.toNat:=oI (by omega)
 have u1:gX (jF n.frm.toNat)=n.frm:=by rw[gX,w1];exact e (by omega)
 have u2:gX (jF n.num.toNat)=n.num:=by rw[gX,w2];exact e (by omega)
 have u3:gX (jF n.to.toNat)=n.to:=by rw[gX,w3];exact e (by omega)
 have u4:gX (jF n.til.toNat)=n.til:=by rw[gX,w4];exact e (by omega)
 refine⟨?_,by rw[hc];rfl,?_,?_⟩
 · rw[ba]
   simp only[yD,cU,kV,a1,a2,b1,b2,c1,c2,d1,d2,v1,v2,v3,v4]
 · rw[hc]
   simp[gE,w1,w2,w3,w4]
 · simp only[mZ,hc,List.getD_cons_zero,List.getD_cons_succ,u1,u2,u3,u4]
theorem aIc (n:bF):jP n≠[]:=by
 rw[ba];simp
theorem aDp (t:List UInt8) (x:bF) (h:eM x=true) (e:jP x=t):dB t=(x,true):=by
 subst e
 unfold dB
 rw[(tf h).1,aB]
 rintro(h1|h1)
 · exact aIc x h1
 · exact h1 (aC h)
theorem aDq (t:List UInt8) (x:bF) (h:eM x=true) (e:jP x=t):jq t=(x,true):=by
 subst e
 obtain⟨h1,h2,h3,h4⟩:=tf h
 unfold jq
 rw[h4,aB]
 rintro(h5|h5|h5|h5)
 · exact h5 h2
 · rw[h3] at h5;cases h5
 · rw[h] at h5;cases h5
 · exact h5 (aC h)
theorem aId (t:List UInt8): (∃x,eM x=true∧jP x=t∧dB t=(x,true)∧jq t=(x,true))∨(dB t=(.zero,false)∧jq t=(.zero,false)):=by
 by_cases h: ∃x,eM x=true∧jP x=t
 · obtain⟨x,h1,h2⟩:=h
   exact .inl ⟨x,h1,h2,aDp t x h1 h2,aDq t x h1 h2⟩
 · refine .inr ⟨?_,?_⟩
   · unfold dB
     rw[aC]
     by_cases h1:t=[]
     · exact .inl h1
     · refine .inr fun h2=> ?_
       unfold kO at h2
       split at h2
       · rename_i h3;exact h ⟨_,h3,h2⟩
       · exact h1 h2.symm
   · unfold jq
     rw[aC]
     by_cases h1:eM (mZ t)=true
     · refine .inr (.inr (.inr fun h2=> ?_))
       rw[kO,aC h1] at h2
       exact h ⟨_,h1,h2⟩
     · exact .inr (.inr (.inl (by simpa using h1)))
theorem yl (t:List UInt8):jq t=dB t:=by
 rcases aId t with⟨x,_,_,h1,h2⟩|⟨h1,h2⟩<;>rw[h1,h2]
set_option linter.unusedVariables false
set_option linter.unusedSimpArgs false
theorem aF4 {s:List UInt8} {i:Nat} (hk: ∀j,j<i→s.getD j 0≠32) (hi:i<s.length) (h:s.getD i 0=32):bD s=s.take i∧aM s=s.drop (i+1)∧eE s=true:=by
 have e:s=s.take i++32::s.drop (i+1):=by
  rw[← h,aNm,aNo hi]
  show s=List.take i s++s[i]::List.drop (i+1) s
  rw[← List.drop_eq_getElem_cons hi,List.take_append_drop]
 have hw: ∀b∈s.take i,b≠32:=by
  intro b hb
  obtain⟨j,hj⟩:=List.mem_iff_getElem?.1 hb
  have hlt:j<i:=by
   have:=(aNq.1 hj).1
   rw[aNn] at this;omega
  rw[List.getElem?_take_of_lt hlt] at hj
  have:=hk j hlt
  rw[aNm,hj] at this
  exact this
 obtain⟨h1,h2,h3⟩:=oH (r:=s.drop (i+1)) hw
 rw[← e] at h1 h2 h3
 exact⟨h1,h2,h3⟩
theorem aDr {s:List UInt8} (hk: ∀j,j<s.length→s.getD j 0≠32):bD s=s∧aM s=[]∧eE s=false:=by
 have hn:eE s=false:=by
  unfold eE
  rw[List.any_eq_false]
  intro b hb
  obtain⟨j,hj⟩:=List.mem_iff_getElem?.1 hb
  have:=hk j (aNq.1 hj).1
  rw[aNm,hj] at this
  simpa using this
 obtain⟨q1,q2,q3⟩:=(eF s).2 hn
 exact⟨q2,q3,hn⟩
theorem aDs {l:List (List UInt8)} {i:Nat} (hi:i<l.length) (h: (hU (l.getD i [])).isSome=false):gE l=false:=by
 unfold gE
 rw[List.all_eq_false]
 refine⟨l.getD i [],?_,by rw[h];decide⟩
 rw[aNm,aNo hi]
 exact List.getElem_mem _
theorem aBk {l:List (List UInt8)} (h: ∀i,i<l.length→(hU (l.getD i [])).isSome=true):gE l=true:=by
 unfold gE
 rw[aNt]
 intro x hx
 obtain⟨j,hj⟩:=List.mem_iff_getElem?.1 hx
 have:=h j (aNq.1 hj).1
 rw[aNm,hj] at this
 exact this
theorem qe {l:List (List UInt8)} {i:Nat} (h:i<l.length): (l.take (i+1)).map gX=(l.take i).map gX++[gX (l.getD i [])]:=by
 rw[List.take_add_one,aNo h,aNm,aNo h,List.map_append]
 rfl
def ym (n:Int):List UInt8:=if n<0 then 45::jF (-n).toNat else jF n.toNat
theorem dO {α:Type} {l:List α} {i:Nat} {z:α} (h:i<l.length):l.getD i z∈l:=by
 rw[aNm,aNo h]
 exact List.getElem_mem _
set_option linter.unusedVariables false
set_option linter.unusedSimpArgs false
theorem cw: ∀(n:Nat) (s:List UInt8),∀x∈gL n s,x.length≤s.length
 |0,s,x,h=>by
  rw[List.mem_singleton.1 h];exact aNp _
 |n+1,s,x,h=>by
  unfold gL at h
  by_cases hs:eE s=true
  · rw[aC hs] at h
    rcases aNs.1 h with rfl|h
    · exact zK s
    · exact Nat.le_trans (cw n _ x h) (rM s)
  · rw[aB hs] at h
    rw[List.mem_singleton.1 h];exact aNp _
theorem tg {α:Type} {l:List α} {n i:Nat} {z:α} (h:i<n): (l.take n).getD i z=l.getD i z:=by
 rw[aNm,List.getElem?_take_of_lt h,← aNm]
theorem fW {l:List (List UInt8)} (h:gE l=true): (jG l).length=l.length:=by rw[jG,aC h,List.length_map]
theorem yn {l:List (List UInt8)} (h:gE l=true) {i:Nat} (hi:i<l.length): (jG l).getD i 0=gX (l.getD i []):=by
 rw[jG,aC h,aNm,List.getElem?_map,aNo hi,aNm,aNo hi]
 rfl
theorem gF {l:List Int} {i:Nat} (h:i<l.length): (eK l).getD (i:Int).toNat []=[.i (l.getD i 0)]:=by
 rw[aNf,mB h]
theorem vk (l:List (List UInt8)) (n:Nat): (bT l).take n=bT (l.take n):=by simp[bT,List.map_take]
theorem yo {n:Nat} {s:List UInt8} {i:Nat} (h:i<n): (dN n s).getD i 0=cU s i:=by
 unfold dN
 rw[aNm,List.getElem?_map,List.getElem?_range h]
 rfl
theorem mv {t:List UInt8} (h: (gL 4 t).length≠5∨gE ((gL 4 t).take 4)=false∨eM (mZ t)=false∨kO (mZ t)≠t):dB t=(.zero,false):=by
 rw[← yl,jq,aC h]
theorem aDt {t:List UInt8} (h1: (gL 4 t).length=5) (h2:gE ((gL 4 t).take 4)=true) (h3:eM (mZ t)=true) (h4:kO (mZ t)=t):dB t=(mZ t,true):=by
 rw[← yl,jq,aB]
 rintro(h|h|h|h)
 · exact h h1
 · rw[h2] at h;cases h
 · rw[h3] at h;cases h
 · exact h h4
theorem vl {l:List (List UInt8)} (h:gE (l.take 4)=true) (h5:l.length=5) {i:Nat} (hi:i<4):gc (((eK (jG (l.take 4))).getD i []).getD 0 (.i 0))=gX (l.getD i []):=by
 have hl:i< (l.take 4).length:=by rw[aNn];omega
 rw[mB (by rw[fW h];exact hl)]
 show(jG (l.take 4)).getD i 0=_
 rw[yn h hl,tg hi]
theorem lc {s:List UInt8} {i:Nat} (hi:i<4):gc (((eK (dN 4 s)).getD i []).getD 0 (.i 0))=cU s i:=by
 rw[mB (by rw[bJ];exact hi)]
 exact yo hi
set_option linter.unusedVariables false
set_option linter.unusedSimpArgs false
def bH.zero:bH:=⟨0,0,0,[],[],[]⟩
def cE (id:Int):bH:=if eP id then⟨id,0,1,[],[],[]⟩ else .zero
def lD (l:List bF) (n:bF):List bF:=l.takeWhile (fun x=>cD x.frm x.num n.frm n.num)++n::l.dropWhile (fun x=>cD x.frm x.num n.frm n.num)
def qF (l:List bZ) (n:bZ):List bZ:=l.takeWhile (fun x=>cD x.frm x.num n.frm n.num)++n::l.dropWhile (fun x=>cD x.frm x.num n.frm n.num)
def iH (l:List bF) (n:bF):List bF:=l.takeWhile (fun x=> !cD n.frm n.num x.frm x.num)++n::l.dropWhile (fun x=> !cD n.frm n.num x.frm x.num)
def mH (l:List bZ) (n:bZ):List bZ:=l.takeWhile (fun x=> !cD n.frm n.num x.frm x.num)++n::l.dropWhile (fun x=> !cD n.frm n.num x.frm x.num)
def uR {α:Type} (l:List α) (i:Nat):List α:=l.take i++l.drop (i+1)
def jB (k:bH) (t:Int):bH:={k with time:=t,held:=k.held.filter (fun n=>decide (t<n.til)),marks:=k.marks.filter (fun n=>decide (t<n.til))}
def cy (k:bH) (n:bF):Bool:=eM n&&decide (k.time<n.til)&&decide (bA k.held n.frm n.num<0)&&decide (bA k.inbox n.frm n.num<0)&&decide (kB k.marks n.frm n.num<0)
def jH (k:bH) (n:bF):bH×Bool:=
 if cy k n&&decide ((k.held.length:Int)+k.marks.length+1≤12) then
  (if n.to==k.id then{k with inbox:=lD k.inbox n,marks:=qF k.marks ⟨n.frm,n.num,n.til⟩} else{k with held:=lD k.held n},true)
 else(k,false)
def iE:List UInt8:=[116,105,109,101]
def jQ:List UInt8:=[110,101,120,116]
def gT:List UInt8:=[111,119,110]
def iV:List UInt8:=[116,97,107,101]
def gP:List UInt8:=[104,101,108,100]
def fA:List UInt8:=[105,110,98,111,120]
def nO:List UInt8:=[108,101,116]
def iW:List UInt8:=[101,97,116]
def gU:List UInt8:=[109,97,114,107]
def mO (k:bH) (w:List UInt8) (n:Int):bH×Bool:=
 if w==iE&&decide (k.time<n) then(jB k n,true)
 else if w==jQ&&decide (k.next<n) then({k with next:=n},true)
 else(k,false)
def fS (k:bH) (w:List UInt8) (n:bF):bH×Bool:=
 if w==gT&&n.frm==k.id&&n.num==k.next then jH {k with next:=wrap64 (k.next+1)} n
 else if w==iV&&n.frm != k.id then jH k n
 else if decide (0≤bA k.held n.frm n.num)||decide (0≤bA k.inbox n.frm n.num) then(k,false)
 else if w==gP then({k with held:=lD k.held n},true)
 else if w==fA then({k with inbox:=lD k.inbox n},true)
 else(k,false)
def jI (k:bH) (w:List UInt8) (m:bZ):bH×Bool:=
 if w==nO&&decide (0≤bA k.held m.frm m.num)&&(k.held.getD (bA k.held m.frm m.num).toNat .zero).til==m.til then
  ({k with held:=uR k.held (bA k.held m.frm m.num).toNat,marks:=qF k.marks m},true)
 else if w==iW&&decide (0≤bA k.inbox m.frm m.num)&&(k.inbox.getD (bA k.inbox m.frm m.num).toNat .zero).til==m.til then
  ({k with inbox:=uR k.inbox (bA k.inbox m.frm m.num).toNat},true)
 else if w==gU&&decide (kB k.marks m.frm m.num<0) then({k with marks:=qF k.marks m},true)
 else(k,false)
def three (l:List (List UInt8)):bZ:=⟨gX (l.getD 0 []),gX (l.getD 1 []),gX (l.getD 2 [])⟩
def eQ (k:bH) (rec:List UInt8):bH×Bool:=
 if eE rec then
  if bD rec==iE||bD rec==jQ then(if(hU (aM rec)).isSome then mO k (bD rec) (gX (aM rec)) else(k,false))
  else if bD rec==gT||bD rec==iV||bD rec==gP||bD rec==fA then(if(dB (aM rec)).2 then fS k (bD rec) (dB (aM rec)).1 else(k,false))
  else if bD rec==nO||bD rec==iW||bD rec==gU then(if gE (cQ (aM rec))&&(cQ (aM rec)).length==3 then jI k (bD rec) (three (cQ (aM rec))) else(k,false))
  else(k,false)
 else(k,false)
def nP (k:bH) (x:bH×Bool):bH×Bool:=if x.2&&dG x.1 then(x.1,true) else(k,false)
def cR (k:bH) (rec:List UInt8):bH×Bool:=if dG k then nP k (eQ k rec) else(.zero,false)
def bb (k:bH) (n:bF):Bool:=eM n&&decide (k.time<n.til)&&decide (bA k.held n.frm n.num<0)&&decide (kB k.marks n.frm n.num<0)&&decide (bA k.inbox n.frm n.num<0)
def kW (k:bH) (n:bF):bH×Bool:=
 if bb k n then
  if n.to != k.id then({k with held:=iH k.held n},decide (((iH k.held n).length:Int)+k.marks.length≤12))
  else({k with inbox:=iH k.inbox n,marks:=mH k.marks ⟨n.frm,n.num,n.til⟩},decide ((k.held.length:Int)+(mH k.marks ⟨n.frm,n.num,n.til⟩).length≤12))
 else(k,false)
def cz (k:bH) (f m:Int):bH×Bool:=
 if 0≤bA k.held f m then({k with held:=uR k.held (bA k.held f m).toNat,marks:=mH k.marks ⟨f,m,(k.held.getD (bA k.held f m).toNat .zero).til⟩},true) else(k,false)
def da (k:bH) (f m:Int):bH×Bool:=
 if 0≤bA k.inbox f m then({k with inbox:=uR k.inbox (bA k.inbox f m).toNat},true) else(k,false)
def fL (r:List UInt8):bZ:=⟨cU r 0,cU r 1,cU r 2⟩
def zV (m:bZ):List UInt8:=ym m.frm++[32]++ym m.num++[32]++ym m.til
def eR (k:bH) (rec:List UInt8):bH×Bool:=
 if bD rec==iE then(if eZ (aM rec)≤k.time then(k,false) else(jB k (eZ (aM rec)),true))
 else if bD rec==gT then
  (if !(dB (aM rec)).2||(dB (aM rec)).1.frm != k.id||(dB (aM rec)).1.num != k.next then(k,false) else kW {k with next:=wrap64 (k.next+1)} (dB (aM rec)).1)
 else if bD rec==iV then(if !(dB (aM rec)).2||(dB (aM rec)).1.frm==k.id then(k,false) else kW k (dB (aM rec)).1)
 else if bD rec==jQ then(if eZ (aM rec)≤k.next then(k,false) else({k with next:=eZ (aM rec)},true))
 else if bD rec==gP||bD rec==fA then
  (if !(dB (aM rec)).2||decide (bA k.held (dB (aM rec)).1.frm (dB (aM rec)).1.num≥0)||decide (bA k.inbox (dB (aM rec)).1.frm (dB (aM rec)).1.num≥0) then(k,false)
   else if bD rec==gP then({k with held:=iH k.held (dB (aM rec)).1},true) else({k with inbox:=iH k.inbox (dB (aM rec)).1},true))
 else if !(kV 3 (aM rec)==[])|| !(aM rec==zV (fL (aM rec))) then(k,false)
 else if bD rec==nO then
  (if decide (bA k.held (fL (aM rec)).frm (fL (aM rec)).num<0)||(k.held.getD (bA k.held (fL (aM rec)).frm (fL (aM rec)).num).toNat .zero).til != (fL (aM rec)).til then(k,false)
   else cz k (fL (aM rec)).frm (fL (aM rec)).num)
 else if bD rec==iW then
  (if decide (bA k.inbox (fL (aM rec)).frm (fL (aM rec)).num<0)||(k.inbox.getD (bA k.inbox (fL (aM rec)).frm (fL (aM rec)).num).toNat .zero).til != (fL (aM rec)).til then(k,false)
   else da k (fL (aM rec)).frm (fL (aM rec)).num)
 else if bD rec==gU then(if kB k.marks (fL (aM rec)).frm (fL (aM rec)).num≥0 then(k,false) else({k with marks:=mH k.marks (fL (aM rec))},true))
 else(k,false)
def nH (k:bH) (rec:List UInt8):bH×Bool:=if dG k then nP k (eR k rec) else(.zero,false)
def lN:bH→List (List UInt8)→bH×Bool
 |k,[]=>(k,true)
 |k,r::rs=>if(cR k r).2 then lN (cR k r).1 rs else(.zero,false)
def cX (id:Int) (recs:List (List UInt8)):bH×Bool:=if eP id then lN (cE id) recs else(.zero,false)
set_option linter.unusedVariables false
set_option linter.unusedSimpArgs false
section
variable {α:Type} {l:List α} {z:α} {i:Nat}
theorem gK (h:i<l.length):l.take (i+1)=l.take i++[l.getD i z]:=by
 rw[List.take_add_one,aNo h,aNm,aNo h]
 rfl
theorem vm {p:α→Bool} (hi:i≤l.length) (hk: ∀j,j<i→p (l.getD j z)=true) (h:i=l.length∨p (l.getD i z)=false):l.takeWhile p=l.take i∧l.dropWhile p=l.drop i:=by
 induction l generalizing i with
 |nil=>simp at hi;subst hi;simp
 |cons x l ih=>
  cases i with
  |zero=>
   have hx:p x=false:=by
    rcases h with h|h
    · simp at h
    · simpa using h
   simp[List.takeWhile,List.dropWhile,hx]
  |succ i=>
   have hx:p x=true:=by simpa using hk 0 (by omega)
   obtain⟨h1,h2⟩:=ih (i:=i) (by simpa using hi) (fun j hj=>by simpa using hk (j+1) (by omega)) (by
    rcases h with h|h
    · left;simpa using h
    · right;simpa using h)
   simp[List.takeWhile,List.dropWhile,hx,h1,h2]
def pE (p:α→Bool) (n:α) (l:List α):List α:=l.takeWhile p++n::l.dropWhile p
theorem aCr {p:α→Bool} {n:α} (hi:i≤l.length) (hk: ∀j,j<i→p (l.getD j z)=true) (h:i=l.length∨p (l.getD i z)=false):pE p n l=l.take i++n::l.drop i:=by
 obtain⟨h1,h2⟩:=vm hi hk h
 rw[pE,h1,h2]
theorem eB {p:α→Bool} {n:α}: (pE p n l).length=l.length+1:=by
 have h:=aA List.length (List.takeWhile_append_dropWhile (p:=p) (l:=l))
 rw[aNh] at h
 rw[pE,aNh,aNk];omega
theorem uS {p:α→Bool} {n x:α}:x∈pE p n l↔x=n∨x∈l:=by
 have h:x∈l↔x∈l.takeWhile p∨x∈l.dropWhile p:=by
  conv=>lhs;rw[← List.takeWhile_append_dropWhile (p:=p) (l:=l)]
  exact List.mem_append
 rw[pE,List.mem_append,aNs,h]
 constructor
 · rintro(h|h|h)
   · exact .inr (.inl h)
   · exact .inl h
   · exact .inr (.inr h)
 · rintro(h|h|h)
   · exact .inr (.inl h)
   · exact .inl h
   · exact .inr (.inr h)
def midW (q:α→Bool) (n:α) (l:List α):List α:=if l.any q then pE (fun x=> !q x) n l else l
theorem aDu {q:α→Bool} {n x:α} (h:l.any q=true):pE (fun x=> !q x) n (l++[x])=pE (fun x=> !q x) n l++[x]:=by
 induction l with
 |nil=>simp at h
 |cons y l ih=>
  by_cases hy:q y=true
  · simp[pE,hy]
  · have hy':q y=false:=by simpa using hy
    have h2:l.any q=true:=by simpa[hy'] using h
    have:=ih h2
    simp only[pE] at this ⊢
    simp[hy',this]
theorem aDv {q:α→Bool} {n:α} (h:l.any q=false):pE (fun x=> !q x) n l=l++[n]:=by
 induction l with
 |nil=>simp[pE]
 |cons y l ih=>
  have hy:q y=false:=by
   cases hq:q y with
   |false=>rfl
   |true=>simp[hq] at h
  have h2:l.any q=false:=by simpa[hy] using h
  have:=ih h2
  simp only[pE] at this ⊢
  simp[hy,this]
theorem yp {q:α→Bool} {n x:α} (h:l.any q=false) (hx:q x=true):midW q n (l++[x])=midW q n l++[n]++[x]:=by
 have e1: (l++[x]).any q=true:=by simp[hx]
 have e2:midW q n l=l:=by rw[midW,h];rfl
 rw[e2,midW,aC e1]
 induction l with
 |nil=>simp[pE,hx]
 |cons y l ih=>
  have hy:q y=false:=by
   cases hq:q y with
   |false=>rfl
   |true=>simp[hq] at h
  have h2:l.any q=false:=by simpa[hy] using h
  have:=ih h2 (by simp[hx]) (by rw[midW,h2];rfl)
  simp only[pE] at this ⊢
  simp[hy] at this ⊢
  exact this
theorem aCs {q:α→Bool} {n x:α} (h:l.any q=true∨q x=false):midW q n (l++[x])=midW q n l++[x]:=by
 cases ha:l.any q with
 |true=>
  have e1: (l++[x]).any q=true:=by rw[List.any_append,ha];rfl
  rw[midW,aC e1,midW,ha,aC rfl,aDu ha]
 |false=>
  have hx:q x=false:=by
   rcases h with h|h
   · rw[ha] at h;cases h
   · exact h
  have e1: (l++[x]).any q=false:=by rw[List.any_append,ha];simp[hx]
  rw[midW,midW,e1,ha];rfl
theorem db {q:α→Bool} {x:α}: (l++[x]).any q=(l.any q||q x):=by simp
theorem dc {q:α→Bool} {n:α}:pE (fun x=> !q x) n l=if l.any q then midW q n l else midW q n l++[n]:=by
 cases ha:l.any q with
 |true=>rw[aC rfl,midW,ha,aC rfl]
 |false=>rw[aB (by simp),midW,ha,aDv ha];rfl
theorem jr {p:α→Bool} (h:i<l.length): (l.take (i+1)).filter p=(l.take i).filter p++(if p (l.getD i z) then [l.getD i z] else []):=by
 rw[gK (z:=z) h,List.filter_append]
 congr 1
 by_cases hp:p (l.getD i z)=true
 · rw[aC hp,List.filter_cons_of_pos hp];rfl
 · rw[aB hp,List.filter_cons_of_neg hp];rfl
theorem vY {p:α→Bool} (h:i<l.length) (hp:p (l.getD i z)=true): (l.take (i+1)).filter p=(l.take i).filter p++[l.getD i z]:=by
 rw[jr (z:=z) h,aC hp]
theorem zL {p:α→Bool} (h:i<l.length) (hp:p (l.getD i z)=false): (l.take (i+1)).filter p=(l.take i).filter p:=by
 rw[jr (z:=z) h,hp];simp
theorem zM {x:α} (h:x∈uR l i):x∈l:=by
 rcases List.mem_append.1 h with h|h
 · exact List.mem_of_mem_take h
 · exact List.mem_of_mem_drop h
end
theorem zN (l:List bF) (n:bF):lD l n=pE (fun x=>cD x.frm x.num n.frm n.num) n l:=rfl
theorem gp (l:List bZ) (n:bZ):qF l n=pE (fun x=>cD x.frm x.num n.frm n.num) n l:=rfl
theorem vZ (l:List bF) (n:bF):iH l n=pE (fun x=> !cD n.frm n.num x.frm x.num) n l:=rfl
theorem sD (l:List bZ) (n:bZ):mH l n=pE (fun x=> !cD n.frm n.num x.frm x.num) n l:=rfl
theorem bn {b:Bool} (h:b=false): ¬b=true:=by simp[h]
theorem mw {k:bH} {n:bF} {c:Bool} (hb:k.held.length≤100000∧k.marks.length≤100000∧k.inbox.length≤100000)
 (h: (!eM n||decide (n.til≤k.time)||decide (bA k.held n.frm n.num≥0)||decide (bA k.inbox n.frm n.num≥0)||decide (kB k.marks n.frm n.num≥0)||decide (wrap64 (wrap64 ((aF k.held).length+(aJ k.marks).length)+1)>12))=c):
 (cy k n&&decide ((k.held.length:Int)+k.marks.length+1≤12))= !c:=by
 subst h
 rw[aE,aG,aH (n:=(k.held.length:Int)+k.marks.length) (by omega),aH (by omega)]
 unfold cy
 simp only[ta,Bool.not_or,Bool.not_not,gt_iff_lt]
theorem eG (l:List bF) (f m:Int): -1≤bA l f m∧bA l f m<l.length:=by
 rcases jW (mS l f m) l.length 0 with h|⟨k,h,_,h2,_⟩<;>rw[bA,h]<;>omega
theorem th {k:bH} {n:bF} (ha: (cy k n&&decide ((k.held.length:Int)+k.marks.length+1≤12))=true) (hto: (n.to==k.id)=true):jH k n=({k with inbox:=lD k.inbox n,marks:=qF k.marks ⟨n.frm,n.num,n.til⟩},true):=by
 unfold jH
 rw[aC ha,aC hto]
theorem tj {k:bH} {n:bF} (ha: (cy k n&&decide ((k.held.length:Int)+k.marks.length+1≤12))=true) (hto: (n.to==k.id)=false):jH k n=({k with held:=lD k.held n},true):=by
 unfold jH
 rw[aC ha,hto]
 rfl
theorem zW (l:List bF) (x:bF):aF l++[x.row]=aF (l++[x]):=by simp[aF]
theorem zX (l:List bZ) (x:bZ):aJ l++[x.row]=aJ (l++[x]):=by simp[aJ]
theorem iI (l:List bF) (a b:Nat): ∀r∈((aF l).take a).drop b,r.length=5:=fun r hr=>dY l r (List.mem_of_mem_take (List.mem_of_mem_drop hr))
theorem wA (l:List bZ) (a b:Nat): ∀r∈((aJ l).take a).drop b,r.length=3:=fun r hr=>iN l r (List.mem_of_mem_take (List.mem_of_mem_drop hr))
theorem yE (L:List (List D)) (i:Nat): (L.take (kL none L.length)).drop (iU (some (i:Int)))=L.drop i:=by
 simp[kL,iU]
theorem bc (L:List (List D)) (i n:Nat): (L.take (kL (some (i:Int)) n)).drop (iU none)=L.take i:=by
 simp[kL,iU]
theorem jK (n:Nat):kL none n=n:=by simp[kL]
theorem jL (i n:Nat):kL (some (i:Int)) n=i:=by simp[kL]
theorem jM:iU none=0:=rfl
theorem jN (i:Nat):iU (some (i:Int))=i:=by simp[iU]
section
variable {τ σ':St} {rl:List (Nat×Nat)} {bor:List Nat} {r:List (cL×K)}
end
theorem RW.nilBox {P:Program} {cx:Cx P} {σ:St} {ι:Nat→Value} {S:Nat→Prop} {a:Act} {w:World} (h:RW cx σ ι S a w) {b j q:Nat} {ty:TypeId} {cs:List C} (e:TypeId) (es:Nat) (hs:aP σ (.o b)=some (.box ty cs)) (hq:cs[q]? =some .nil) (hj:aP σ (.o j)=none):
 ∃ι',RW cx (kF (kF σ (.o j) (.row e es [])) (.o b) (.box ty (cs.set q (.own j 0)))) ι' S a w:=by
 have hblk: ∀b,sP (.slice none 0 0) b→some b=(none:Option Nat)∨w.heap.size≤b:=fun b hb=>by simp[sP] at hb
 have h1:=h.turn (id:=j) (old:=none) (k:= .row e es []) (p:= .slice none 0 0) (w':=w) ⟨rfl,rfl,rfl,aNp _,(fun _ _ _=>rfl),(fun b hb=>by cases hb),.inl hj,hblk,.inl ⟨rfl,rfl⟩⟩
 have hbj:b≠j:=fun e=>by subst e;rw[hj] at hs;cases hs
 have hs1:aP (kF σ (.o j) (.row e es [])) (.o b)=some (.box ty cs):=by rw[cF _ _ (by simpa using fun h=>hbj h.symm)];exact hs
 obtain⟨blk0,vs,hp,hh,hsz,hc⟩:=h1.vr.objs b _ hs1
 refine⟨_,h1.turn (id:=b) (old:=some blk0) (k:= .box ty (cs.set q (.own j 0))) (p:= .pointer (some ⟨blk0,0,none⟩)) (w':=w) ⟨rfl,rfl,rfl,aNp _,(fun _ _ _=>rfl),(fun b' hb'=> ?_),.inr ⟨_,hs1,?_⟩,(fun b' hb'=> ?_),?_⟩⟩
 · cases hb'
   refine⟨⟨_,hs1,trivial⟩,?_⟩
   show sP (if b=j then Value.slice none 0 0 else ι b) _
   rw[hp];rfl
 · show lF (if b=j then Value.slice none 0 0 else ι b) _ _ _
   rw[hp];rfl
 · simp[sP] at hb';exact .inl (by rw[hb'])
 · refine⟨blk0,vs,rfl,hh,by rw[List.length_set];exact hsz,fun k c u hk hu=> ?_⟩
   have hjj:aP (kF (kF σ (.o j) (.row e es [])) (.o b) (.box ty (cs.set q (.own j 0)))) (.o j)=some (.row e es []):=by
    rw[cF _ _ (by simpa using hbj),cZ]
   by_cases hkq:k=q
   · subst hkq
     have hlt:k<cs.length:=(aNq.1 hq).1
     rw[List.getElem?_set_self hlt] at hk
     cases hk
     have hv:u= .slice none 0 0:=hc k .nil u hq hu
     subst hv
     refine⟨rfl,.inl ⟨e,es,[],hjj,aNp _,fun _=> ?_⟩⟩
     simp[hbj.symm]
   · rw[List.getElem?_set_ne (fun h=>hkq h.symm)] at hk
     refine CR.step ?_ (hc k c u hk hu)
     refine⟨fun _ h=>h,fun _ _=>rfl,fun o k0 ho=> ?_⟩
     by_cases eo:o=b
     · subst eo
       rw[hs1] at ho;cases ho
       refine⟨_,cZ _ _ _,?_⟩
       simp only[if_true]
       rw[hp]
       simp[lF]
     · refine⟨k0,by rw[cF _ _ (by simpa using fun h=>eo h.symm)];exact ho,?_⟩
       simp only[aB eo]
       exact lF.refl' _ _
theorem SW.nilBox {P:Program} {io:List Nat} {Q:Ex→St→Prop} {σ:St} {c:Code} (b j q:Nat) {ty:TypeId} {cs:List C} (e:TypeId) (es:Nat) (hs:aP σ (.o b)=some (.box ty cs)) (hq:cs[q]? =some .nil) (hj:aP σ (.o j)=none)
 (h:mN σ [(.o j,.row e es []),(.o b,.box ty (cs.set q (.own j 0)))] (SW P io c Q)):SW P io c Q σ:=by
 rw[jJ] at h
 intro cx ι S a w hio hw hf
 obtain⟨ι',hw'⟩:=hw.nilBox e es hs hq hj
 exact h cx ι' S a w hio hw' hf
set_option linter.unusedVariables false
set_option linter.unusedSimpArgs false
theorem Spec.told {P:Program} {f:FuncId} {n:Nat} {σin σout σ':St} {rl:List (Nat×Nat)} {bor:List Nat} (h:Spec P f n σin σout) (hm:mL σout σ' rl bor σ') (hm2:xQ σ' rl bor=true) (h0:bO σin=[]):Spec P f n σin σ':=by
 have hno: ∀o k,aP σin (.o o)=some k→False:=fun o k hk=>by have:=dQ hk;rw[h0] at this;cases this
 refine⟨h.1,fun ι ν S w args hg h1 h2 h3=>lK (fun ex w'=> ?_) (h.2 ι ν S w args hg h1 h2 h3)⟩
 rintro⟨v,ι',S',rfl,hp⟩
 have hM:jO σout σ' rl bor:=⟨hm,hm2⟩
 refine⟨v,fun j=>ι' (iB rl j),nZ σout ι' bor S',rfl,hp.fr,pU hM (fun _ _ h=>h) hp.vr,fun b hb=> ?_,fun o b hmu=> ?_,fun o k k' hk hk'=>(hno o k hk).elim⟩
 · rcases hb with hb|⟨o,_,hb⟩
   · exact hp.rd b hb
   · exact .inr (hp.own o b hb)
 · obtain⟨⟨k',hk',hl'⟩,hb⟩:=hmu
   obtain⟨k,hk,hmk⟩:=hM.ids o k' hk'
   exact hp.own (iB rl o) b ⟨⟨k,hk,(aCk hmk).1⟩,hb⟩
theorem aNa {X Y:V} {a a' b b' c c':Int} (e0:a=a') (e1:b=b') (e2:c=c'): [(cL.t 0,K.v X),(.t 1,.v Y),(.t 2,.v (.e (.agg [.d (.i a'),.d (.i b'),.d (.i c')])))]=dA 0 [X,Y,.e (.agg [.d (.i a),.d (.i b),.d (.i c)])]:=by
 subst e0;subst e1;subst e2;rfl
theorem vn {l:List (List UInt8)} (h:gE l=true) {i:Nat} (hi:i<l.length):gc (((eK (jG l)).getD i []).getD 0 (.i 0))=gX (l.getD i []):=by
 rw[mB (by rw[fW h];exact hi)]
 show(jG l).getD i 0=_
 rw[yn h hi]
theorem wB (t:List UInt8): (dB t).1.text.length≤t.length:=by
 unfold dB
 split
 · exact aNj _
 · exact mu 4 t
theorem count_le: ∀(n:Nat) (s:List UInt8),s.length≤n→Lib.count s [32]≤s.length
 |0,s,h=>by
  rw[List.eq_nil_of_length_eq_zero (Nat.le_zero.1 h),pW];exact aNp _
 |n+1,s,h=>by
  rw[pW]
  by_cases hs:eE s=true
  · have:=go hs
    have:=count_le n (aM s) (by omega)
    rw[aC hs];omega
  · rw[aB hs];exact aNj _
theorem aDw (s:List UInt8): (cQ s).length≤s.length+1:=by
 have:=count_le s.length s (aNp _)
 have:=(ms (Lib.count s [32]) s).1
 unfold cQ;omega
theorem aF5 (s:List UInt8): ∀x∈cQ s,x.length≤s.length:=cw _ s
section
variable {k:bH} {rec:List UInt8}
theorem aDx (h:eE rec=false):eQ k rec=(k,false):=aB (bn h)
theorem yq (h:eE rec=true) (hw: (bD rec==iE||bD rec==jQ)=true) (hn: (hU (aM rec)).isSome=true):eQ k rec=mO k (bD rec) (gX (aM rec)):=(aC h).trans ((aC hw).trans (aC hn))
theorem zO (h:eE rec=true) (hw: (bD rec==iE||bD rec==jQ)=true) (hn: (hU (aM rec)).isSome=false):eQ k rec=(k,false):=(aC h).trans ((aC hw).trans (aB (bn hn)))
theorem aDy (h:eE rec=true) (hw: (bD rec==iE||bD rec==jQ)=false) (hw2: (bD rec==gT||bD rec==iV||bD rec==gP||bD rec==fA)=true) (hn: (dB (aM rec)).2=true):eQ k rec=fS k (bD rec) (dB (aM rec)).1:=(aC h).trans ((aB (bn hw)).trans ((aC hw2).trans (aC hn)))
theorem sE (h:eE rec=true) (hw: (bD rec==iE||bD rec==jQ)=false) (hw2: (bD rec==gT||bD rec==iV||bD rec==gP||bD rec==fA)=true) (hn: (dB (aM rec)).2=false):eQ k rec=(k,false):=(aC h).trans ((aB (bn hw)).trans ((aC hw2).trans (aB (bn hn))))
theorem aDz (h:eE rec=true) (hw: (bD rec==iE||bD rec==jQ)=false) (hw2: (bD rec==gT||bD rec==iV||bD rec==gP||bD rec==fA)=false) (hw3: (bD rec==nO||bD rec==iW||bD rec==gU)=true) (hn: (gE (cQ (aM rec))&&(cQ (aM rec)).length==3)=true):
 eQ k rec=jI k (bD rec) (three (cQ (aM rec))):=(aC h).trans ((aB (bn hw)).trans ((aB (bn hw2)).trans ((aC hw3).trans (aC hn))))
theorem wC (h:eE rec=true) (hw: (bD rec==iE||bD rec==jQ)=false) (hw2: (bD rec==gT||bD rec==iV||bD rec==gP||bD rec==fA)=false) (hw3: (bD rec==nO||bD rec==iW||bD rec==gU)=true) (hn: (gE (cQ (aM rec))&&(cQ (aM rec)).length==3)=false):
 eQ k rec=(k,false):=(aC h).trans ((aB (bn hw)).trans ((aB (bn hw2)).trans ((aC hw3).trans (aB (bn hn)))))
theorem de (h:eE rec=true) (hw: (bD rec==iE||bD rec==jQ)=false) (hw2: (bD rec==gT||bD rec==iV||bD rec==gP||bD rec==fA)=false) (hw3: (bD rec==nO||bD rec==iW||bD rec==gU)=false):
 eQ k rec=(k,false):=(aC h).trans ((aB (bn hw)).trans ((aB (bn hw2)).trans (aB (bn hw3))))
theorem tk {l:List (List UInt8)} {c:Bool} (h: (gE l&&((eK (jG l)).length:Int)==3)=c): (gE l&&l.length==3)=c:=by
 subst h
 cases hn:gE l with
 |false=>rfl
 |true=>
  rw[hG,fW hn,Bool.true_and,Bool.true_and]
  by_cases h:l.length=3
  · rw[h];rfl
  · rw[show(l.length==3)=false by simpa using h]
    symm
    rw[beq_eq_false_iff_ne]
    omega
end
def KB (k:bH):Prop:=(k.held.length≤100000∧k.marks.length≤100000∧k.inbox.length≤100000)∧(∀x∈k.held,x.text.length≤140737488355328)∧(∀x∈k.inbox,x.text.length≤140737488355328)
theorem KB.zero:KB .zero:=⟨⟨aNj _,aNj _,aNj _⟩,fun x h=>(by cases h),fun x h=>(by cases h)⟩
theorem yF {l:List bF} (h:jA l=true) {x:bF} (hx:x∈l):eM x=true:=by
 obtain⟨i,hi⟩:=List.mem_iff_getElem?.1 hx
 have hlt:=(aNq.1 hi).1
 have h1:=aNt.1 h i (List.mem_range.2 hlt)
 unfold mX at h1
 rw[aNi] at h1
 have h2:=h1.1
 rw[aNm,hi] at h2
 exact h2
theorem js {n:bF} (h:eM n=true):n.text.length≤140737488355328:=by
 have:=mG h;omega
def KS (k:bH):Prop:=(k.held.length≤7∧k.marks.length≤13∧k.inbox.length≤7)∧(∀x∈k.held,x.text.length≤140737488355328)∧(∀x∈k.inbox,x.text.length≤140737488355328)
theorem KS.big {k:bH} (h:KS k):KB k:=⟨⟨by have:=h.1;omega,by have:=h.1;omega,by have:=h.1;omega⟩,h.2⟩
def K6 (k:bH):Prop:=(k.held.length≤6∧k.marks.length≤12∧k.inbox.length≤6)∧(∀x∈k.held,x.text.length≤140737488355328)∧(∀x∈k.inbox,x.text.length≤140737488355328)
theorem cV {k:bH} (h:dG k=true):K6 k:=by
 obtain⟨⟨_,_,_,h1,h2,h3⟩,⟨h4,h5,h6⟩,_⟩:=(bW k).1 h
 exact⟨⟨h1,h2,h3⟩,fun x hx=>js (yF h4 hx),fun x hx=>js (yF h6 hx)⟩
theorem K6.seven {k:bH} (h:K6 k):KS k:=⟨⟨by have:=h.1;omega,by have:=h.1;omega,by have:=h.1;omega⟩,h.2⟩
theorem df {α:Type} (l:List α) (i:Nat): (uR l i).length≤l.length:=by
 rw[uR,aNh,aNn,aNv];omega
theorem tl {k:bH} {n:bF} (h:K6 k) (hn:n.text.length≤140737488355328):KS (jH k n).1:=by
 unfold jH
 split
 · simp only
   split
   · refine⟨⟨by have:=h.1;simp only;omega,?_,?_⟩,h.2.1,?_⟩
     · have:=h.1;rw[gp,eB];omega
     · have:=h.1;rw[zN,eB];omega
     · intro x hx
       rw[zN,uS] at hx
       rcases hx with rfl|hx
       · exact hn
       · exact h.2.2 x hx
   · refine⟨⟨?_,by have:=h.1;simp only;omega,by have:=h.1;simp only;omega⟩,?_,h.2.2⟩
     · have:=h.1;rw[zN,eB];omega
     · intro x hx
       rw[zN,uS] at hx
       rcases hx with rfl|hx
       · exact hn
       · exact h.2.1 x hx
 · exact h.seven
theorem my {k:bH} {t:Int} (h:K6 k):KS (jB k t):=by
 have h1:=List.length_filter_le (fun n:bF=>decide (t<n.til)) k.held
 have h2:=List.length_filter_le (fun n:bZ=>decide (t<n.til)) k.marks
 exact⟨⟨by have:=h.1;simp only[jB];omega,by have:=h.1;simp only[jB];omega,by have:=h.1;simp only[jB];omega⟩,fun x hx=>h.2.1 x (List.mem_filter.1 hx).1,h.2.2⟩
theorem vo {k:bH} {n:bF} (h:K6 k) (hn:n.text.length≤140737488355328) {p:bF→Bool}:KS {k with held:=pE p n k.held}:=
 ⟨⟨by have:=h.1;simp only[eB];omega,by have:=h.1;simp only;omega,by have:=h.1;simp only;omega⟩,fun x hx=>by rcases uS.1 hx with rfl|hx;exact hn;exact h.2.1 x hx,h.2.2⟩
theorem yr {k:bH} {n:bF} (h:K6 k) (hn:n.text.length≤140737488355328) {p:bF→Bool}:KS {k with inbox:=pE p n k.inbox}:=
 ⟨⟨by have:=h.1;simp only;omega,by have:=h.1;simp only;omega,by have:=h.1;simp only[eB];omega⟩,h.2.1,fun x hx=>by rcases uS.1 hx with rfl|hx;exact hn;exact h.2.2 x hx⟩
theorem aF6 {k:bH} {w:List UInt8} {n:Int} (h:K6 k):KS (mO k w n).1:=by
 unfold mO
 split
 · exact my h
 · split
   · exact h.seven
   · exact h.seven
theorem aD0 {k:bH} {w:List UInt8} {n:bF} (h:K6 k) (hn:n.text.length≤140737488355328):KS (fS k w n).1:=by
 unfold fS
 split
 · exact tl (k:={k with next:=wrap64 (k.next+1)}) h hn
 · split
   · exact tl h hn
   · split
     · exact h.seven
     · split
       · exact vo h hn
       · split
         · exact yr h hn
         · exact h.seven
theorem aD1 {k:bH} {w:List UInt8} {m:bZ} (h:K6 k):KS (jI k w m).1:=by
 unfold jI
 split
 · refine⟨⟨?_,?_,by have:=h.1;simp only;omega⟩,fun x hx=>h.2.1 x (zM hx),h.2.2⟩
   · have:=h.1;have h1:=df k.held (bA k.held m.frm m.num).toNat;simp only;omega
   · have:=h.1;rw[gp,eB];omega
 · split
   · refine⟨⟨by have:=h.1;simp only;omega,by have:=h.1;simp only;omega,?_⟩,h.2.1,fun x hx=>h.2.2 x (zM hx)⟩
     have:=h.1;have h1:=df k.inbox (bA k.inbox m.frm m.num).toNat;simp only;omega
   · split
     · exact⟨⟨by have:=h.1;simp only;omega,by have:=h.1;rw[gp,eB];omega,by have:=h.1;simp only;omega⟩,h.2⟩
     · exact h.seven
theorem rN {k:bH} {rec:List UInt8} (h:K6 k) (hr:rec.length≤1000000):KS (eQ k rec).1:=by
 have ht: (dB (aM rec)).1.text.length≤140737488355328:=by
  have h1:=wB (aM rec)
  have h2:=rM rec
  omega
 unfold eQ
 repeat' split
 all_goals first|exact h.seven|exact aF6 h|exact aD0 h ht|exact aD1 h
theorem gq {k:bH} {rec:List UInt8}:K6 (cR k rec).1:=by
 unfold cR
 split
 · rename_i hk
   unfold nP
   split
   · rename_i h
     rw[aNi] at h
     exact cV h.2
   · exact cV hk
 · exact⟨⟨aNj _,aNj _,aNj _⟩,fun x h=>(by cases h),fun x h=>(by cases h)⟩
theorem wD (id:Int):K6 (cE id):=by
 unfold cE
 split<;>exact⟨⟨aNj _,aNj _,aNj _⟩,fun x h=>(by cases h),fun x h=>(by cases h)⟩
set_option linter.unusedVariables false
set_option linter.unusedSimpArgs false
theorem aCt {a a':Int} (e:a=a'): [(cL.t 0,K.v (I a'))]=dA 0 [I a]:=by subst e;rfl
theorem mz {X:V} {a a' b b':Int} (e0:a=a') (e1:b=b'): [(cL.t 0,K.v X),(.t 1,.v (I a')),(.t 2,.v (I b'))]=dA 0 [X,I a,I b]:=by subst e0;subst e1;rfl
theorem aF7 {X:V} {a a' b b' c c':Int} (e0:a=a') (e1:b=b') (e2:c=c'): [(cL.t 0,K.v X),(.t 1,.v (.e (.agg [.d (.i a'),.d (.i b'),.d (.i c')])))]=dA 0 [X,.e (.agg [.d (.i a),.d (.i b),.d (.i c)])]:=by subst e0;subst e1;subst e2;rfl
theorem na {n:Nat} {s:List UInt8} {i:Nat} (hi:i<n):gc (((eK (dN n s)).getD i []).getD 0 (.i 0))=cU s i:=by
 rw[mB (by rw[bJ];exact hi)]
 exact yo hi
theorem kX {n:Int} (h: -1≤n∧n≤9999): (ym n).length≤6:=by
 unfold ym
 by_cases h0:n<0
 · rw[aC h0]
   have:=bU (k:=3) (n:=(-n).toNat) (by simp;omega)
   simp;omega
 · rw[aB h0]
   have:=bU (k:=3) (n:=n.toNat) (by simp;omega)
   omega
theorem eS (s:List UInt8) (i:Nat): -1≤cU s i∧cU s i≤9999:=vX _
theorem zP {a:Int} {x y c:Bool} (h: (decide (a<0)||x)=c) (hx:0≤a→x=y): (decide (a<0)||y)=c:=by
 by_cases h0:0≤a
 · rw[← hx h0];exact h
 · rw[show decide (a<0)=true from decide_eq_true (by omega),Bool.true_or] at h ⊢; exact h
theorem aF8 {k:bH} {n:bF} (h: (!bb k n)=true):kW k n=(k,false):=aB (by simpa using h)
theorem aF9 {k:bH} {n:bF} (hb:k.held.length≤100000∧k.marks.length≤100000∧k.inbox.length≤100000) (h: (!bb k n)=false) (ht: (n.to != k.id)=true):
 kW k n=({k with held:=iH k.held n},decide (wrap64 ((aF (iH k.held n)).length+(aJ k.marks).length)≤12)):=by
 have hl: (iH k.held n).length=k.held.length+1:=eB
 rw[aE,aG,aH (by omega)]
 exact(aC (by simpa using h)).trans (aC ht)
theorem aGa {k:bH} {n:bF} (hb:k.held.length≤100000∧k.marks.length≤100000∧k.inbox.length≤100000) (h: (!bb k n)=false) (ht: (n.to != k.id)=false):
 kW k n=({k with inbox:=iH k.inbox n,marks:=mH k.marks ⟨n.frm,n.num,n.til⟩},decide (wrap64 ((aF k.held).length+(aJ (mH k.marks ⟨n.frm,n.num,n.til⟩)).length)≤12)):=by
 have hl: (mH k.marks ⟨n.frm,n.num,n.til⟩).length=k.marks.length+1:=eB
 rw[aE,aG,aH (by omega)]
 exact(aC (by simpa using h)).trans (aB (bn ht))
theorem aIe {k:bH} {a b:Int} (h:K6 k):KS (cz k a b).1:=by
 unfold cz
 split
 · refine⟨⟨?_,?_,by have:=h.1;simp only;omega⟩,fun x hx=>h.2.1 x (zM hx),h.2.2⟩
   · have:=h.1;have h1:=df k.held (bA k.held a b).toNat;simp only;omega
   · have:=h.1;rw[sD,eB];omega
 · exact h.seven
theorem aIf {k:bH} {a b:Int} (h:K6 k):KS (da k a b).1:=by
 unfold da
 split
 · refine⟨⟨by have:=h.1;simp only;omega,by have:=h.1;simp only;omega,?_⟩,h.2.1,fun x hx=>h.2.2 x (zM hx)⟩
   have:=h.1;have h1:=df k.inbox (bA k.inbox a b).toNat;simp only;omega
 · exact h.seven
theorem yt {k:bH} {n:bF} (h:K6 k) (hn:n.text.length≤140737488355328):KS (kW k n).1:=by
 unfold kW
 split
 · split
   · exact vo h hn
   · refine⟨⟨by have:=h.1;simp only;omega,?_,?_⟩,h.2.1,?_⟩
     · have:=h.1;rw[sD,eB];omega
     · have:=h.1;rw[vZ,eB];omega
     · intro x hx
       rw[vZ,uS] at hx
       rcases hx with rfl|hx
       · exact hn
       · exact h.2.2 x hx
 · exact h.seven
theorem lE {c:Prop} [Decidable c] {a b:bH×Bool} (ha:KS a.1) (hb:KS b.1):KS (if c then a else b).1:=by
 split
 · exact ha
 · exact hb
theorem zQ {k:bH} {rec:List UInt8} (h:K6 k) (hr:rec.length≤1000000):KS (eR k rec).1:=by
 have ht: (dB (aM rec)).1.text.length≤140737488355328:=by
  have h1:=wB (aM rec)
  have h2:=rM rec
  omega
 have hm:KS {k with marks:=mH k.marks (fL (aM rec))}:=⟨⟨by have:=h.1;simp only;omega,by have:=h.1;simp only[sD,eB];omega,by have:=h.1;simp only;omega⟩,h.2⟩
 unfold eR
 exact lE (lE h.seven (my h)) (lE (lE h.seven (yt (k:={k with next:=wrap64 (k.next+1)}) h ht)) (lE (lE h.seven (yt h ht)) (lE (lE h.seven h.seven)
  (lE (lE h.seven (lE (vo h ht) (yr h ht))) (lE h.seven (lE (lE h.seven (aIe h)) (lE (lE h.seven (aIf h)) (lE (lE h.seven hm) h.seven))))))))
set_option linter.unusedVariables false
set_option linter.unusedSimpArgs false
theorem aNb {X:V} {a a':List UInt8} (e:a=a'): [(cL.t 0,K.v X),(.t 1,.v (Dv (.s a')))]=dA 0 [X,Dv (.s a)]:=by subst e;rfl
theorem dg {a b c d:Int} (h: ¬(a=c∧b=d)):cD a b c d= !cD c d a b:=by
 unfold cD
 by_cases h1:a=c
 · subst h1
   have h2: ¬b=d:=fun e=>h ⟨rfl,e⟩
   by_cases h3:b<d
   · simp[h3,Int.not_lt.2 (Int.le_of_lt h3)]
   · simp[h3,show d<b by omega]
 · by_cases h3:a<c
   · simp[h3,Int.not_lt.2 (Int.le_of_lt h3)]
     exact .inl fun e=>h1 e.symm
   · simp[h3,h1,show c<a by omega]
theorem qG {α:Type} {p q:α→Bool}: ∀{l:List α},(∀x∈l,p x=q x)→l.takeWhile p=l.takeWhile q∧l.dropWhile p=l.dropWhile q
 | [],_=>⟨rfl,rfl⟩
 |x::l,h=>by
  have hx:=h x (List.mem_cons_self ..)
  obtain⟨h1,h2⟩:=qG (l:=l) fun y hy=>h y (List.mem_cons_of_mem _ hy)
  simp only[List.takeWhile,List.dropWhile,hx,h1,h2,and_self]
theorem nb {l:List bF} {f m:Int} (h:bA l f m<0) {x:bF} (hx:x∈l): ¬(x.frm=f∧x.num=m):=by
 rintro⟨e1,e2⟩
 obtain⟨i,hi⟩:=List.mem_iff_getElem?.1 hx
 have hlt:=(aNq.1 hi).1
 rcases jW (mS l f m) l.length 0 with h1|⟨k,h1,_,h2,_⟩
 · have h3:mS l f m i=true:=by
    unfold mS
    rw[aNm,hi]
    simp[e1,e2]
   have: ∀n j,j≤i→i<j+n→kN (mS l f m) j n≠ -1:=by
    intro n
    induction n with
    |zero=>intro j h4 h5;omega
    |succ n ih=>
     intro j h4 h5
     unfold kN
     split
     · omega
     · rename_i h6
       by_cases e:j=i
       · subst e;exact absurd h3 h6
       · exact ih (j+1) (by omega) (by omega)
   exact this l.length 0 (aNj _) (by omega) h1
 · rw[bA,h1] at h;omega
theorem aBl {l:List bZ} {f m:Int} (h:kB l f m<0) {x:bZ} (hx:x∈l): ¬(x.frm=f∧x.num=m):=by
 rintro⟨e1,e2⟩
 obtain⟨i,hi⟩:=List.mem_iff_getElem?.1 hx
 have hlt:=(aNq.1 hi).1
 rcases jW (sA l f m) l.length 0 with h1|⟨k,h1,_,h2,_⟩
 · have h3:sA l f m i=true:=by
    unfold sA
    rw[aNm,hi]
    simp[e1,e2]
   have: ∀n j,j≤i→i<j+n→kN (sA l f m) j n≠ -1:=by
    intro n
    induction n with
    |zero=>intro j h4 h5;omega
    |succ n ih=>
     intro j h4 h5
     unfold kN
     split
     · omega
     · rename_i h6
       by_cases e:j=i
       · subst e;exact absurd h3 h6
       · exact ih (j+1) (by omega) (by omega)
   exact this l.length 0 (aNj _) (by omega) h1
 · rw[kB,h1] at h;omega
theorem wE {l:List bF} {n:bF} (h:bA l n.frm n.num<0):iH l n=lD l n:=by
 obtain⟨h1,h2⟩:=qG (p:=fun x:bF=> !cD n.frm n.num x.frm x.num) (q:=fun x=>cD x.frm x.num n.frm n.num) (l:=l) fun x hx=>(dg (nb h hx)).symm
 unfold iH lD
 rw[h1,h2]
theorem bd {l:List bZ} {n:bZ} (h:kB l n.frm n.num<0):mH l n=qF l n:=by
 obtain⟨h1,h2⟩:=qG (p:=fun x:bZ=> !cD n.frm n.num x.frm x.num) (q:=fun x=>cD x.frm x.num n.frm n.num) (l:=l) fun x hx=>(dg (aBl h hx)).symm
 unfold mH qF
 rw[h1,h2]
theorem aD2 (k:bH) (n:bF):bb k n=cy k n:=by
 unfold bb cy
 cases decide (bA k.inbox n.frm n.num<0)<;>cases decide (kB k.marks n.frm n.num<0)<;>simp
def oJ (k:bH) (x y:bH×Bool):Prop:=nP k x=nP k y
theorem oJ.rfl {k:bH} {x:bH×Bool}:oJ k x x:=Eq.refl _
theorem oJ.of {k:bH} {x y:bH×Bool} (h:x=y):oJ k x y:=h▸oJ.rfl
theorem oK {k:bH} {x:bH×Bool} (h:x.2=false∨dG x.1=false):nP k x=(k,false):=by
 unfold nP
 rw[aB]
 rcases h with h|h<;>simp[h]
theorem oJ.no {k:bH} {x y:bH×Bool} (h:x.2=false∨dG x.1=false) (h':y.2=false∨dG y.1=false):oJ k x y:=(oK h).trans (oK h').symm
theorem nc {k0 k:bH} (n:bF):oJ k0 (jH k n) (kW k n):=by
 unfold jH kW
 rw[aD2]
 cases hf:cy k n with
 |false=>exact .of (by simp)
 |true=>
  have h2:=hf
  simp only[cy,aNi,aD] at h2
  obtain⟨⟨⟨⟨_,_⟩,q1⟩,q2⟩,q3⟩:=h2
  have hm: (qF k.marks ⟨n.frm,n.num,n.til⟩).length=k.marks.length+1:=eB
  have hh: (lD k.held n).length=k.held.length+1:=eB
  rw[wE q1,wE q2,bd (n:=⟨n.frm,n.num,n.til⟩) q3,hm,hh]
  by_cases hl: (k.held.length:Int)+k.marks.length+1≤12
  · have e1:decide ((k.held.length:Int)+k.marks.length+1≤12)=true:=decide_eq_true hl
    have e2:decide (((k.held.length+1:Nat):Int)+k.marks.length≤12)=true:=decide_eq_true (by omega)
    have e3:decide ((k.held.length:Int)+((k.marks.length+1:Nat):Int)≤12)=true:=decide_eq_true (by omega)
    rw[e1,e2,e3]
    by_cases ht:n.to=k.id
    · simp[ht];exact .rfl
    · simp[ht];exact .rfl
  · have e1:decide ((k.held.length:Int)+k.marks.length+1≤12)=false:=decide_eq_false hl
    have e2:decide (((k.held.length+1:Nat):Int)+k.marks.length≤12)=false:=decide_eq_false (by omega)
    have e3:decide ((k.held.length:Int)+((k.marks.length+1:Nat):Int)≤12)=false:=decide_eq_false (by omega)
    rw[e1,e2,e3]
    refine .no (.inl (by simp)) (.inl ?_)
    by_cases ht:n.to=k.id<;>simp[ht]
theorem rO {s:List UInt8} {n:Nat} (h:hU s=some n):jF n=s∧1≤s.length∧s.length≤5:=by
 unfold hU at h
 split at h
 · rename_i hc
   cases h
   exact⟨(sX hc.1.1 hc.2.2).2 hc.2.1,hc.1.1,hc.1.2⟩
 · cases h
theorem aGb {s:List UInt8} {n:Nat} (h:hU s=some n) (h5:4<s.length):10000≤n:=by
 obtain⟨h1,_,_⟩:=rO h
 by_cases hn:n<10 ^ (3+1)
 · have:=bU hn
   rw[h1] at this;omega
 · simpa using hn
theorem nd {s:List UInt8} {n:Nat} (h:hU s=some n) (hn:n<10000):eZ s=n:=by
 have hl:s.length≤4:=by
  by_cases h5:4<s.length
  · have:=aGb h h5;omega
  · omega
 rw[uO hl,h]
theorem tn {s:List UInt8} (h:hU s=none):eZ s= -1:=by
 by_cases hl:s.length≤4
 · rw[uO hl,h]
 · unfold eZ
   rw[aB (by omega)]
theorem tp {s:List UInt8} (h:4<s.length):eZ s= -1:=by
 unfold eZ
 rw[aB (by omega)]
theorem yu {k:bH} {n:Int} (h:999<n):dG (jB k n)=false:=by
 cases hk:dG (jB k n) with
 |false=>rfl
 |true=>
  obtain⟨⟨_,⟨_,h2⟩,_⟩,_⟩:=(bW _).1 hk
  simp only[jB] at h2
  omega
theorem aGc {k:bH} {n:Int} (h:100<n):dG {k with next:=n}=false:=by
 cases hk:dG {k with next:=n} with
 |false=>rfl
 |true=>
  obtain⟨⟨_,_,⟨_,h2⟩,_⟩,_⟩:=(bW _).1 hk
  simp only at h2
  omega
theorem rP {s:List UInt8} {n:Nat} (h:hU s=some n):gX s=n:=by rw[gX,h]
theorem aBm {k:bH} (hk:dG k=true) (r:List UInt8):oJ k (if(hU r).isSome then mO k iE (gX r) else(k,false)) (if eZ r≤k.time then(k,false) else(jB k (eZ r),true)):=by
 obtain⟨⟨_,⟨t0,t1⟩,_⟩,_⟩:=(bW _).1 hk
 cases h:hU r with
 |none=>
  rw[tn h,aB (show ¬((none:Option Nat).isSome=true) by simp),aC (show(-1:Int)≤k.time by omega)]
  exact .rfl
 |some n=>
  rw[rP h,aC (show(some n).isSome=true from rfl)]
  by_cases hn:n<10000
  · rw[nd h hn]
    by_cases ht:k.time<n
    · rw[aB (by omega)]
      exact .of (aC (by simp[ht]))
    · rw[aC (by omega)]
      exact .of ((aB (by simp[ht])).trans (aB (by simp[iE,jQ])))
  · have hl:eZ r= -1:=tp (by
     by_cases h5:4<r.length
     · exact h5
     · have:=rO h
       have h6:=uO (s:=r) (by omega)
       rw[h] at h6
       have h7:=vX r
       simp only at h6
       omega)
    rw[hl,aC (by omega),mO,aC (by simp;omega)]
    exact .no (.inr (yu (by omega))) (.inl rfl)
theorem aBn {k:bH} (hk:dG k=true) (r:List UInt8):oJ k (if(hU r).isSome then mO k jQ (gX r) else(k,false)) (if eZ r≤k.next then(k,false) else({k with next:=eZ r},true)):=by
 obtain⟨⟨_,_,⟨t0,t1⟩,_⟩,_⟩:=(bW _).1 hk
 cases h:hU r with
 |none=>
  rw[tn h,aB (show ¬((none:Option Nat).isSome=true) by simp),aC (show(-1:Int)≤k.next by omega)]
  exact .rfl
 |some n=>
  rw[rP h,aC (show(some n).isSome=true from rfl)]
  have e1: (jQ==iE)=false:=by decide
  by_cases hn:n<10000
  · rw[nd h hn]
    by_cases ht:k.next<n
    · rw[aB (by omega)]
      exact .of ((aB (by simp[e1])).trans (aC (by simp[ht])))
    · rw[aC (by omega)]
      exact .of ((aB (by simp[e1])).trans (aB (by simp[ht])))
  · have hl:eZ r= -1:=tp (by
     by_cases h5:4<r.length
     · exact h5
     · have:=rO h
       have h6:=uO (s:=r) (by omega)
       rw[h] at h6
       have h7:=vX r
       simp only at h6
       omega)
    rw[hl,aC (by omega),mO,aB (by simp[e1]),aC (by simp;omega)]
    exact .no (.inr (aGc (by omega))) (.inl rfl)
theorem aD3 {k:bH} (x:bF×Bool):oJ k (if x.2 then fS k gT x.1 else(k,false)) (if !x.2||x.1.frm != k.id||x.1.num != k.next then(k,false) else kW {k with next:=wrap64 (k.next+1)} x.1):=by
 obtain⟨n,b⟩:=x
 cases b with
 |false=>exact .of (by simp)
 |true=>
  rw[aC (show(n,true).2=true from rfl)]
  show oJ k (fS k gT n) (if(!true)||n.frm != k.id||n.num != k.next then(k,false) else kW {k with next:=wrap64 (k.next+1)} n)
  by_cases h:n.frm=k.id∧n.num=k.next
  · have hL:fS k gT n=jH {k with next:=wrap64 (k.next+1)} n:=aC (by simp[h])
    rw[hL,aB (by simp[h])]
    exact nc n
  · have hL:fS k gT n=(k,false):=by
     refine(aB (by simp;exact fun a b=>h ⟨a,b⟩)).trans ((aB (by simp[gT,iV])).trans ?_)
     split
     · rfl
     · simp[gT,gP,fA]
    have hR: ((!true)||n.frm != k.id||n.num != k.next)=true:=by
     by_cases h1:n.frm=k.id
     · have h2: ¬n.num=k.next:=fun h2=>h ⟨h1,h2⟩
       simp[h2]
     · simp[h1]
    rw[hL,aC hR]
    exact .rfl
theorem yv {k:bH} (x:bF×Bool):oJ k (if x.2 then fS k iV x.1 else(k,false)) (if !x.2||x.1.frm==k.id then(k,false) else kW k x.1):=by
 obtain⟨n,b⟩:=x
 cases b with
 |false=>exact .of (by simp)
 |true=>
  rw[aC (show(n,true).2=true from rfl)]
  show oJ k (fS k iV n) (if(!true)||n.frm==k.id then(k,false) else kW k n)
  by_cases h:n.frm=k.id
  · have hL:fS k iV n=(k,false):=by
     refine(aB (by simp[iV,gT])).trans ((aB (by simp[h])).trans ?_)
     split
     · rfl
     · simp[iV,gP,fA]
    rw[hL,aC (by simp[h])]
    exact .rfl
  · have hL:fS k iV n=jH k n:=(aB (by simp[iV,gT])).trans (aC (by simp[h]))
    rw[hL,aB (by simp[h])]
    exact nc n
theorem aBo {k:bH} (w:List UInt8) (hw:w=gP∨w=fA) (x:bF×Bool):oJ k (if x.2 then fS k w x.1 else(k,false))
 (if !x.2||decide (bA k.held x.1.frm x.1.num≥0)||decide (bA k.inbox x.1.frm x.1.num≥0) then(k,false)
  else if w==gP then({k with held:=iH k.held x.1},true) else({k with inbox:=iH k.inbox x.1},true)):=by
 obtain⟨n,b⟩:=x
 cases b with
 |false=>exact .of (by simp)
 |true=>
  have e1: (w==gT)=false:=by rcases hw with rfl|rfl<;>decide
  have e2: (w==iV)=false:=by rcases hw with rfl|rfl<;>decide
  rw[aC (show(n,true).2=true from rfl)]
  show oJ k (fS k w n) (if(!true)||decide (bA k.held n.frm n.num≥0)||decide (bA k.inbox n.frm n.num≥0) then(k,false)
   else if w==gP then({k with held:=iH k.held n},true) else({k with inbox:=iH k.inbox n},true))
  by_cases h:0≤bA k.held n.frm n.num∨0≤bA k.inbox n.frm n.num
  · have hL:fS k w n=(k,false):=(aB (by simp[e1])).trans ((aB (by simp[e2])).trans (aC (by simpa using h)))
    rw[hL,aC (by simpa using h)]
    exact .rfl
  · have h1:bA k.held n.frm n.num<0:=by omega
    have h2:bA k.inbox n.frm n.num<0:=by omega
    have h3: ¬(decide (0≤bA k.held n.frm n.num)||decide (0≤bA k.inbox n.frm n.num))=true:=by simpa using h
    have h4: ¬((!true)||decide (bA k.held n.frm n.num≥0)||decide (bA k.inbox n.frm n.num≥0))=true:=by simpa using h
    rw[aB h4]
    rcases hw with rfl|rfl
    · have hL:fS k gP n=({k with held:=lD k.held n},true):=(aB (by simp[e1])).trans ((aB (by simp[e2])).trans ((aB h3).trans (aC (by decide))))
      rw[hL,aC (by decide),wE h1]
      exact .rfl
    · have hL:fS k fA n=({k with inbox:=lD k.inbox n},true):=(aB (by simp[e1])).trans ((aB (by simp[e2])).trans ((aB h3).trans ((aB (by decide)).trans (aC (by decide)))))
      rw[hL,aB (by decide),wE h2]
      exact .rfl
set_option linter.unusedVariables false
set_option linter.unusedSimpArgs false
def yG (m:bZ):List UInt8:=jF m.frm.toNat++32::(jF m.num.toNat++32::jF m.til.toNat)
theorem qY {m:bZ} (h:lC m=true): (0≤m.frm∧m.frm≤3)∧(1≤m.num∧m.num≤99)∧(1≤m.til∧m.til≤999):=by
 simp only[lC,eP,mR,aNi,aD] at h
 omega
theorem yw {n:bF} (h:eM n=true):lC ⟨n.frm,n.num,n.til⟩=true:=by
 simp only[eM,lC,aNi] at h ⊢
 exact⟨⟨h.1.1.1.1,h.1.1.2⟩,h.1.2⟩
theorem aGd {s:List UInt8} (h: ∀b∈s,b≠32):eE s=false:=by
 unfold eE
 rw[List.any_eq_false]
 intro b hb
 have:=h b hb
 simpa using this
theorem nf {s:List UInt8} (h:eE s=false):Lib.count s [32]=0:=by rw[pW,h];rfl
theorem aLm {a b c:List UInt8} (ha: ∀x∈a,x≠32) (hb: ∀x∈b,x≠32) (hc: ∀x∈c,x≠32):
 cQ (a++32::(b++32::c))=[a,b,c]∧kV 3 (a++32::(b++32::c))=[]∧bD (a++32::(b++32::c))=a∧bD (kV 1 (a++32::(b++32::c)))=b∧bD (kV 2 (a++32::(b++32::c)))=c:=by
 obtain⟨a1,a2,a3⟩:=oH (r:=b++32::c) ha
 obtain⟨b1,b2,b3⟩:=oH (r:=c) hb
 have c3:=aGd hc
 obtain⟨_,c1,c2⟩:=(eF c).2 c3
 have hn:Lib.count (a++32::(b++32::c)) [32]=2:=by
  rw[pW,aC a3,a2,pW,aC b3,b2,nf c3]
 refine⟨?_,?_,a1,?_,?_⟩
 · rw[cQ,hn]
   simp only[gL,a1,a2,a3,b1,b2,b3,if_true]
 · simp only[kV,a2,b2,c2]
 · simp only[kV,a2,b1]
 · simp only[kV,a2,b2,c1]
theorem ng {n:Int} (h:0≤n):ym n=jF n.toNat:=aB (by omega)
theorem yx {m:bZ} (h:lC m=true):zV m=yG m:=by
 obtain⟨h1,h2,h3⟩:=qY h
 unfold zV yG
 rw[ng (by omega),ng (by omega),ng (by omega)]
 simp
theorem aD4 {m:bZ} (h:lC m=true):gE (cQ (yG m))=true∧(cQ (yG m)).length=3∧three (cQ (yG m))=m∧kV 3 (yG m)=[]∧fL (yG m)=m:=by
 obtain⟨h1,h2,h3⟩:=qY h
 obtain⟨q1,q2,q3,q4,q5⟩:=aLm (sB m.frm.toNat) (sB m.num.toNat) (sB m.til.toNat)
 have e: ∀{x:Int},0≤x→((x.toNat:Nat):Int)=x:=fun h=>by omega
 have w1:hU (jF m.frm.toNat)=some m.frm.toNat:=oI (by omega)
 have w2:hU (jF m.num.toNat)=some m.num.toNat:=oI (by omega)
 have w3:hU (jF m.til.toNat)=some m.til.toNat:=oI (by omega)
 have u1:gX (jF m.frm.toNat)=m.frm:=by rw[gX,w1];exact e (by omega)
 have u2:gX (jF m.num.toNat)=m.num:=by rw[gX,w2];exact e (by omega)
 have u3:gX (jF m.til.toNat)=m.til:=by rw[gX,w3];exact e (by omega)
 have v1:eZ (jF m.frm.toNat)=m.frm:=by rw[sC (by omega),e (by omega)]
 have v2:eZ (jF m.num.toNat)=m.num:=by rw[sC (by omega),e (by omega)]
 have v3:eZ (jF m.til.toNat)=m.til:=by rw[sC (by omega),e (by omega)]
 unfold yG
 refine⟨?_,?_,?_,q2,?_⟩
 · rw[q1];simp[gE,w1,w2,w3]
 · rw[q1];rfl
 · rw[q1];simp[three,u1,u2,u3]
 · unfold fL cU
   have q6:bD (kV 0 (jF m.frm.toNat++32::(jF m.num.toNat++32::jF m.til.toNat)))=jF m.frm.toNat:=q3
   rw[q6,q4,q5,v1,v2,v3]
theorem nh {s:List UInt8} (h:eE s=true):s=bD s++32::aM s:=by
 obtain⟨q1,q2,q3,q4⟩:=(eF s).1 h
 have h3:s[(bD s).length]'q4=32:=by
  have h1:Lib.indexByte s 32=(bD s).length:=q1
  have h2:s.drop (bD s).length=s[(bD s).length]'q4::s.drop ((bD s).length+1):=List.drop_eq_getElem_cons q4
  have h4:s.drop (bD s).length=s.dropWhile (· != 32):=by
   have h5:=List.takeWhile_append_dropWhile (p:=(· != (32:UInt8))) (l:=s)
   have h6:s.take (bD s).length++s.drop (bD s).length=s:=List.take_append_drop _ _
   rw[q2] at h6
   exact List.append_cancel_left (h6.trans h5.symm)
  have h7: ∀l:List UInt8,∀x t,l.dropWhile (· != 32)=x::t→x=32:=by
   intro l
   induction l with
   |nil=>intro x t h;cases h
   |cons y l ih=>
    intro x t h
    by_cases hy:y=32
    · subst hy
      simp at h
      exact h.1.symm
    · rw[List.dropWhile_cons_of_pos (by simpa using hy)] at h
      exact ih x t h
  exact h7 s _ _ (h4.symm.trans h2)
 have h8:s.take (bD s).length++s.drop (bD s).length=s:=List.take_append_drop _ _
 rw[q2,List.drop_eq_getElem_cons q4,h3,q3] at h8
 exact h8.symm
theorem yy {s:List UInt8} (h: (cQ s).length=3): ∃a b c,cQ s=[a,b,c]∧s=a++32::(b++32::c):=by
 have h0:=mr _ s rfl
 have hn:Lib.count s [32]=2:=by
  rw[cQ] at h;omega
 have h1:eE s=true:=by
  cases hs:eE s with
  |true=>rfl
  |false=>rw[nf hs] at hn;cases hn
 rw[pW,aC h1] at hn
 have h2:eE (aM s)=true:=by
  cases hs:eE (aM s) with
  |true=>rfl
  |false=>rw[nf hs] at hn;cases hn
 have hn2:Lib.count s [32]=2:=by rw[pW,aC h1];exact hn
 refine⟨bD s,bD (aM s),aM (aM s),?_,?_⟩
 · rw[cQ,hn2]
   simp only[gL,h1,h2,if_true]
 · rw[← nh h2,← nh h1]
theorem aD5 {s:List UInt8} (h: (gE (cQ s)&&(cQ s).length==3)=true):s=yG (three (cQ s)):=by
 rw[aNi,beq_iff_eq] at h
 obtain⟨a,b,c,hl,hs⟩:=yy h.2
 have hk:=h.1
 rw[hl] at hk ⊢
 simp only[gE,List.all_cons,List.all_nil,Bool.and_true,aNi] at hk
 obtain⟨ha,hb,hc⟩:=hk
 obtain⟨x,hx⟩:=Option.isSome_iff_exists.1 ha
 obtain⟨y,hy⟩:=Option.isSome_iff_exists.1 hb
 obtain⟨z,hz⟩:=Option.isSome_iff_exists.1 hc
 unfold yG three
 simp only[List.getD_cons_zero,List.getD_cons_succ,rP hx,rP hy,rP hz,aNf,(rO hx).1,(rO hy).1,(rO hz).1]
 exact hs
theorem be {l:List bF} (hk:jA l=true) {f m:Int} (hp:0≤bA l f m):eM (l.getD (bA l f m).toNat .zero)=true∧(l.getD (bA l f m).toNat .zero).frm=f∧(l.getD (bA l f m).toNat .zero).num=m∧(bA l f m).toNat<l.length:=by
 rcases jW (mS l f m) l.length 0 with h|⟨k,h,_,h2,h3,_⟩
 · rw[bA,h] at hp;omega
 · have e:bA l f m=k:=h
   rw[e,aNf]
   have h4:=h3
   unfold mS at h4
   simp only[aNi,beq_iff_eq] at h4
   exact⟨yF hk (dO (by omega)),h4.1,h4.2,by omega⟩
theorem yH {l:List bZ} (h:nG l=true) {x:bZ} (hx:x∈l):lC x=true:=by
 obtain⟨i,hi⟩:=List.mem_iff_getElem?.1 hx
 have hlt:=(aNq.1 hi).1
 have h1:=aNt.1 h i (List.mem_range.2 hlt)
 unfold mY at h1
 rw[aNi] at h1
 have h2:=h1.1
 rw[aNm,hi] at h2
 exact h2
theorem yz {k:bH} {m:bZ} (hm:lC m=false) {p:bZ→Bool}:dG {k with marks:=pE p m k.marks}=false:=by
 cases h:dG {k with marks:=pE p m k.marks} with
 |false=>rfl
 |true=>
  obtain⟨_,⟨_,h2,_⟩,_⟩:=(bW _).1 h
  rw[yH h2 (uS.2 (.inl rfl))] at hm
  cases hm
theorem dh {l:List bF} (hk:jA l=true) {m:bZ} (hm:lC m=false): ¬(0≤bA l m.frm m.num∧(l.getD (bA l m.frm m.num).toNat .zero).til=m.til):=by
 rintro⟨h1,h2⟩
 obtain⟨q1,q2,q3,_⟩:=be hk h1
 have:=yw q1
 rw[q2,q3,h2] at this
 rw[show m=⟨m.frm,m.num,m.til⟩ from rfl,this] at hm
 cases hm
theorem aBp {k:bH} (hk:dG k=true) {w:List UInt8} {m:bZ} (hm:lC m=false):nP k (jI k w m)=(k,false):=by
 obtain⟨_,⟨h1,_,h2⟩,_⟩:=(bW _).1 hk
 unfold jI
 rw[aB (by
  intro h
  simp only[aNi,aD,beq_iff_eq] at h
  exact dh h1 hm ⟨h.1.2,h.2⟩),aB (by
  intro h
  simp only[aNi,aD,beq_iff_eq] at h
  exact dh h2 hm ⟨h.1.2,h.2⟩)]
 split
 · exact oK (.inr (yz hm))
 · exact oK (.inl rfl)
def dj (k:bH) (w:List UInt8) (m:bZ):bH×Bool:=
 if w==nO then(if decide (bA k.held m.frm m.num<0)||(k.held.getD (bA k.held m.frm m.num).toNat .zero).til != m.til then(k,false) else cz k m.frm m.num)
 else if w==iW then(if decide (bA k.inbox m.frm m.num<0)||(k.inbox.getD (bA k.inbox m.frm m.num).toNat .zero).til != m.til then(k,false) else da k m.frm m.num)
 else if w==gU then(if kB k.marks m.frm m.num≥0 then(k,false) else({k with marks:=mH k.marks m},true))
 else(k,false)
theorem dk {l:List bF} {m:bZ} (h: ¬(0≤bA l m.frm m.num∧(l.getD (bA l m.frm m.num).toNat .zero).til=m.til)): (decide (bA l m.frm m.num<0)||(l.getD (bA l m.frm m.num).toNat .zero).til != m.til)=true:=by
 by_cases h1:bA l m.frm m.num<0
 · simp[h1]
 · have h2: ¬(l.getD (bA l m.frm m.num).toNat .zero).til=m.til:=fun e=>h ⟨by omega,e⟩
   rw[Bool.or_eq_true]
   exact .inr (by simpa only[bne_iff_ne,ne_eq] using h2)
theorem aD6 {k:bH} (hk:dG k=true) {w:List UInt8} {m:bZ} (hm:lC m=false):nP k (dj k w m)=(k,false):=by
 obtain⟨_,⟨h1,_,h2⟩,_⟩:=(bW _).1 hk
 unfold dj
 rw[aC (dk (dh h1 hm)),aC (dk (dh h2 hm))]
 split
 · exact oK (.inl rfl)
 · split
   · exact oK (.inl rfl)
   · split
     · split
       · exact oK (.inl rfl)
       · exact oK (.inr (yz hm))
     · exact oK (.inl rfl)
theorem qf {k:bH} (hk:dG k=true) {i:Nat} (hi:i<k.held.length):kB k.marks (k.held.getD i .zero).frm (k.held.getD i .zero).num<0:=by
 obtain⟨_,_,h,_⟩:=(bW _).1 hk
 have h1:=aNt.1 h i (List.mem_range.2 hi)
 unfold vT at h1
 simp only[aNi,aD] at h1
 exact h1.2
theorem aD7 {k:bH} (hk:dG k=true) (w:List UInt8) (m:bZ):jI k w m=dj k w m:=by
 obtain⟨_,⟨h1,_,h2⟩,_⟩:=(bW _).1 hk
 have l1: (nO==iW)=false:=by decide
 have l2: (nO==gU)=false:=by decide
 have l3: (iW==gU)=false:=by decide
 have l4: (iW==nO)=false:=by decide
 have l5: (gU==nO)=false:=by decide
 have l6: (gU==iW)=false:=by decide
 unfold jI dj
 by_cases w1:w=nO
 · subst w1
   rw[aC (show(nO==nO)=true by decide)]
   by_cases h:0≤bA k.held m.frm m.num∧(k.held.getD (bA k.held m.frm m.num).toNat .zero).til=m.til
   · obtain⟨q1,q2,q3,q4⟩:=be h1 h.1
     have hu:=qf hk q4
     rw[q2,q3] at hu
     rw[aC (by rw[h.2];simp[h.1]),aB (by rw[h.2];simp[h.1]),cz,aC h.1,h.2,bd (n:=⟨m.frm,m.num,m.til⟩) hu]
   · rw[aC (dk h),aB (by
      intro h9
      simp only[aNi,aD,beq_iff_eq] at h9
      exact h ⟨h9.1.2,h9.2⟩),aB (by rw[l1];simp),aB (by rw[l2];simp)]
 · have w1': (w==nO)=false:=by simpa using w1
   rw[aB (by rw[w1'];simp),aB (show ¬(w==nO)=true by rw[w1'];simp)]
   by_cases w2:w=iW
   · subst w2
     rw[aC (show(iW==iW)=true by decide)]
     by_cases h:0≤bA k.inbox m.frm m.num∧(k.inbox.getD (bA k.inbox m.frm m.num).toNat .zero).til=m.til
     · rw[aC (by rw[h.2];simp[h.1]),aB (by rw[h.2];simp[h.1]),da,aC h.1]
     · rw[aC (dk h),aB (by
        intro h9
        simp only[aNi,aD,beq_iff_eq] at h9
        exact h ⟨h9.1.2,h9.2⟩),aB (by rw[l3];simp)]
   · have w2': (w==iW)=false:=by simpa using w2
     rw[aB (by rw[w2'];simp),aB (show ¬(w==iW)=true by rw[w2'];simp)]
     by_cases w3:w=gU
     · subst w3
       rw[aC (show(gU==gU)=true by decide)]
       by_cases h:kB k.marks m.frm m.num<0
       · rw[aC (by simp[h]),aB (by omega),bd h]
       · rw[aB (by simp[h]),aC (by omega)]
     · have w3': (w==gU)=false:=by simpa using w3
       rw[aB (by rw[w3'];simp),aB (show ¬(w==gU)=true by rw[w3'];simp)]
theorem aBq {k:bH} (hk:dG k=true) (w r:List UInt8):
 oJ k (if gE (cQ r)&&(cQ r).length==3 then jI k w (three (cQ r)) else(k,false)) (if !(kV 3 r==[])|| !(r==zV (fL r)) then(k,false) else dj k w (fL r)):=by
 by_cases h: ∃m,lC m=true∧r=yG m
 · obtain⟨m,hm,rfl⟩:=h
   obtain⟨q1,q2,q3,q4,q5⟩:=aD4 hm
   rw[q3,q4,q5,yx hm,q1,q2,aC (by decide),aB (by simp),aD7 hk]
   exact .rfl
 · have hL:nP k (if gE (cQ r)&&(cQ r).length==3 then jI k w (three (cQ r)) else(k,false))=(k,false):=by
    split
    · rename_i h1
      refine aBp hk ?_
      cases h2:lC (three (cQ r)) with
      |false=>rfl
      |true=>exact absurd ⟨_,h2,aD5 h1⟩ h
    · exact oK (.inl rfl)
   have hR:nP k (if !(kV 3 r==[])|| !(r==zV (fL r)) then(k,false) else dj k w (fL r))=(k,false):=by
    split
    · exact oK (.inl rfl)
    · rename_i h1
      refine aD6 hk ?_
      cases h2:lC (fL r) with
      |false=>rfl
      |true=>
       refine absurd ⟨_,h2,?_⟩ h
       rw[← yx h2]
       simp only[Bool.or_eq_true,Bool.not_eq_true',not_or,Bool.not_eq_false,beq_iff_eq] at h1
       exact h1.2
   exact hL.trans hR.symm
theorem gr (k:bH) (rec:List UInt8):nH k rec=cR k rec:=by
 unfold nH cR
 by_cases hk:dG k=true
 · rw[aC hk,aC hk]
   symm
   show oJ k _ _
   obtain⟨⟨_,⟨t0,_⟩,⟨n0,_⟩,_⟩,_⟩:=(bW _).1 hk
   have hS: ∀w r,bD rec=w→aM rec=r→eR k rec=(if w==iE then(if eZ r≤k.time then(k,false) else(jB k (eZ r),true))
    else if w==gT then(if !(dB r).2||(dB r).1.frm != k.id||(dB r).1.num != k.next then(k,false) else kW {k with next:=wrap64 (k.next+1)} (dB r).1)
    else if w==iV then(if !(dB r).2||(dB r).1.frm==k.id then(k,false) else kW k (dB r).1)
    else if w==jQ then(if eZ r≤k.next then(k,false) else({k with next:=eZ r},true))
    else if w==gP||w==fA then
     (if !(dB r).2||decide (bA k.held (dB r).1.frm (dB r).1.num≥0)||decide (bA k.inbox (dB r).1.frm (dB r).1.num≥0) then(k,false)
      else if w==gP then({k with held:=iH k.held (dB r).1},true) else({k with inbox:=iH k.inbox (dB r).1},true))
    else if !(kV 3 r==[])|| !(r==zV (fL r)) then(k,false) else dj k w (fL r)):=by
    rintro w r rfl rfl;rfl
   have hI: ∀w r,bD rec=w→aM rec=r→eQ k rec=(if eE rec then
    if w==iE||w==jQ then(if(hU r).isSome then mO k w (gX r) else(k,false))
    else if w==gT||w==iV||w==gP||w==fA then(if(dB r).2 then fS k w (dB r).1 else(k,false))
    else if w==nO||w==iW||w==gU then(if gE (cQ r)&&(cQ r).length==3 then jI k w (three (cQ r)) else(k,false))
    else(k,false)
    else(k,false)):=by
    rintro w r rfl rfl;rfl
   cases hs:eE rec with
   |false=>
    obtain⟨_,_,hr⟩:=(eF rec).2 hs
    rw[hI _ _ rfl rfl,hs,hS _ _ rfl hr]
    have hd:eZ []= -1:=rfl
    have hrd:dB []=(.zero,false):=rfl
    have hl: ([]==zV (fL []))=false:=by
     have:zV (fL [])≠[]:=by simp[zV]
     simpa using this
    rw[hd,hrd,hl]
    refine .no (.inl rfl) (.inl ?_)
    rw[aC (show(-1:Int)≤k.time by omega),aC (show(-1:Int)≤k.next by omega)]
    simp
   |true=>
    rw[hI _ _ rfl rfl,hs,hS _ _ rfl rfl,aC rfl]
    generalize aM rec=r
    generalize bD rec=w
    by_cases e1:w=iE
    · subst e1;exact aBm hk r
    by_cases e2:w=jQ
    · subst e2;exact aBn hk r
    by_cases e3:w=gT
    · subst e3;exact aD3 (dB r)
    by_cases e4:w=iV
    · subst e4;exact yv (dB r)
    by_cases e5:w=gP∨w=fA
    · have hx:=aBo (k:=k) w e5 (dB r)
      rcases e5 with rfl|rfl<;>exact hx
    have b1: (w==iE)=false:=by simpa using e1
    have b2: (w==jQ)=false:=by simpa using e2
    have b3: (w==gT)=false:=by simpa using e3
    have b4: (w==iV)=false:=by simpa using e4
    have b5: (w==gP)=false:=by simpa using fun h=>e5 (.inl h)
    have b6: (w==fA)=false:=by simpa using fun h=>e5 (.inr h)
    rw[b1,b2,b3,b4,b5,b6]
    show oJ k (if w==nO||w==iW||w==gU then _ else(k,false)) (if !(kV 3 r==[])|| !(r==zV (fL r)) then(k,false) else dj k w (fL r))
    cases h7: (w==nO||w==iW||w==gU) with
    |true=>exact aBq hk w r
    |false=>
     simp only[Bool.or_eq_false_iff] at h7
     refine .no (.inl rfl) (.inl ?_)
     split
     · rfl
     · unfold dj
       rw[h7.1.1,h7.1.2,h7.2];rfl
 · rw[aB hk,aB hk]
set_option linter.unusedVariables false
set_option linter.unusedSimpArgs false
structure eO where
 num:Int
 data:List UInt8
 deriving DecidableEq
structure bV where
 frm:Int
 num:Int
 to:Int
 til:Int
 size:Int
 got:List eO
 deriving DecidableEq
structure aN where
 id:Int
 up:Bool
 log:List UInt8
 forced:Int
 halves:List bV
 deriving DecidableEq
def eO.row (m:eO):List D:=[.i m.num,.s m.data]
def bI (l:List eO):List (List D):=l.map eO.row
def bV.row (h:bV):List D:=[.i h.frm,.i h.num,.i h.to,.i h.til,.i h.size,.sl (bI h.got)]
def aY (l:List bV):List (List D):=l.map bV.row
abbrev eO.V (m:eO):V:= .e (.agg [.d (.i m.num),.d (.s m.data)])
abbrev bV.V (h:bV):V:= .e (.agg [.d (.i h.frm),.d (.i h.num),.d (.i h.to),.d (.i h.til),.d (.i h.size),.d (.sl (bI h.got))])
abbrev aN.V (k:aN):V:= .e (.agg [.d (.i k.id),.d (.b k.up),.d (.s k.log),.d (.i k.forced),.d (.sl (aY k.halves))])
def eO.zero:eO:=⟨0,[]⟩
def bV.zero:bV:=⟨0,0,0,0,0,[]⟩
def aN.zero:aN:=⟨0,false,[],0,[]⟩
theorem aW (l:List eO): (bI l).length=l.length:=by simp[bI]
theorem aO (l:List bV): (aY l).length=l.length:=by simp[aY]
theorem qZ (l:List eO): ∀r∈bI l,r.length=2:=by
 intro r hr
 obtain⟨b,_,rfl⟩:=aNr.1 hr
 rfl
theorem qg (l:List bV): ∀r∈aY l,r.length=6:=by
 intro r hr
 obtain⟨b,_,rfl⟩:=aNr.1 hr
 rfl
theorem fB {l:List eO} {i:Nat} (h:i<l.length): (bI l).getD i []=(l.getD i .zero).row:=by
 rw[aNm,aNm]
 simp[bI,h]
theorem eH {l:List bV} {i:Nat} (h:i<l.length): (aY l).getD i []=(l.getD i .zero).row:=by
 rw[aNm,aNm]
 simp[aY,h]
def zY (m:eO):Bool:=mR m.num 0 999&&decide ((m.data.length:Int)=4)
def rA (l:List eO) (i:Nat):Bool:=zY (l.getD i .zero)&&(aNu i).all fun j=> !((l.getD j .zero).num==(l.getD i .zero).num)
def yI (h:bV):Bool:=eP h.frm&&eP h.to&&mR h.num 1 99&&mR h.til 1 999&&mR h.size 1 24&&decide ((h.got.length:Int)≤14)
def lO (h:bV):Bool:=yI h&&(aNu h.got.length).all (rA h.got)
def kP (l:List bV) (f n:Int) (i:Nat):Bool:=(l.getD i .zero).frm==f&&(l.getD i .zero).num==n
def gt (l:List bV) (f n:Int):Int:=kN (kP l f n) 0 l.length
def fX (l:List bV) (i:Nat):Bool:=lO (l.getD i .zero)&&(aNu i).all fun j=> !kP l (l.getD i .zero).frm (l.getD i .zero).num j
def hZ (k:aN):Bool:=eP k.id&&cO k.log k.forced&&decide ((k.halves.length:Int)≤3)&&(k.up||decide (k.halves.length=0))
def bY (k:aN):bH×Bool:=cX k.id (bR k.log).1
def bf (k:aN):bH×Bool:=cX k.id (bR (k.log.take k.forced.toNat)).1
def aX (k:aN):Bool:=hZ k&&(bY k).2&&(bf k).2&&(aNu k.halves.length).all (fX k.halves)
theorem iO {l:List UInt8} {f:Int} (h:cO l f=true):l.length≤2400∧(0≤f∧f≤l.length)∧(bR l).2=l.length∧((bR (l.take f.toNat)).2:Int)=f:=by
 simp only[cO,mR,aNi,aD] at h
 exact⟨h.1.1.1,h.1.1.2,h.1.2,h.2⟩
theorem aD8 {s r:List UInt8} {n:Nat} (h:iD s=some (r,n)):r.length≤s.length:=by
 unfold iD at h
 split at h
 · cases h
 · split at h
   · cases h
   · split at h
     · cases h
       rw[aNv,aNn];omega
     · cases h
theorem zZ: ∀(k:Nat) (s:List UInt8),s.length≤k→ ∀x∈(bR s).1,x.length≤s.length
 |0,s,h,x,hx=>by
  obtain rfl:s=[]:=List.eq_nil_of_length_eq_zero (by omega)
  rw[gD rL] at hx;cases hx
 |k+1,s,h,x,hx=>by
  cases hr:iD s with
  |none=>rw[gD hr] at hx;cases hx
  |some p=>
   obtain⟨r,n⟩:=p
   have h1:=pD hr
   rw[oG hr] at hx
   rcases aNs.1 hx with rfl|hx
   · exact aD8 hr
   · have:=zZ k (s.drop n) (by rw[aNv];omega) x hx
     rw[aNv] at this;omega
theorem lP (s:List UInt8) (h:s.length≤900000): (bR s).1.length≤900000∧ ∀x∈(bR s).1,x.length≤900000:=
 ⟨by have:=(qU s.length s (aNp _)).2;omega,fun x hx=>by have:=zZ s.length s (aNp _) x hx;omega⟩
theorem sF {h:bV} (hh:yI h=true):eP h.frm=true∧eP h.to=true∧(1≤h.num∧h.num≤99)∧(1≤h.til∧h.til≤999)∧(1≤h.size∧h.size≤24)∧h.got.length≤14:=by
 simp only[yI,mR,aNi,aD] at hh
 obtain⟨⟨⟨⟨⟨h1,h2⟩,h3⟩,h4⟩,h5⟩,h6⟩:=hh
 exact⟨h1,h2,h3,h4,h5,by omega⟩
theorem cK {k:aN} (h:hZ k=true):eP k.id=true∧cO k.log k.forced=true∧k.halves.length≤3∧(k.up=true∨k.halves.length=0):=by
 simp only[hZ,aNi,Bool.or_eq_true,aD] at h
 obtain⟨⟨⟨h1,h2⟩,h3⟩,h4⟩:=h
 exact⟨h1,h2,by omega,h4⟩
theorem jt {l:List eO} {i:Nat} (h1:zY (l.getD i .zero)=true) (h2: ∀j,j<i→((l.getD j .zero).num==(l.getD i .zero).num)=false):rA l i=true:=by
 unfold rA
 rw[h1,Bool.true_and]
 exact gC fun j hj=>by rw[h2 j hj];rfl
theorem ju {l:List eO} {i:Nat} (h1:zY (l.getD i .zero)=false):rA l i=false:=by
 unfold rA;rw[h1];rfl
theorem ni {l:List eO} {i j:Nat} (hj:j<i) (h2: ((l.getD j .zero).num==(l.getD i .zero).num)=true):rA l i=false:=by
 unfold rA
 rw[eC hj (by rw[h2];rfl),Bool.and_false]
theorem vp {l:List bV} {i:Nat} (h1:lO (l.getD i .zero)=true) (h2: ∀j,j<i→kP l (l.getD i .zero).frm (l.getD i .zero).num j=false):fX l i=true:=by
 unfold fX
 rw[h1,Bool.true_and]
 exact gC fun j hj=>by rw[h2 j hj];rfl
theorem vt {l:List bV} {i:Nat} (h1:lO (l.getD i .zero)=false):fX l i=false:=by
 unfold fX;rw[h1];rfl
theorem za {l:List bV} {i j:Nat} (hj:j<i) (h2:kP l (l.getD i .zero).frm (l.getD i .zero).num j=true):fX l i=false:=by
 unfold fX
 rw[eC hj (by rw[h2];rfl),Bool.and_false]
theorem aBr {l:List bV} {i:Nat} (hi:i<l.length): (decide (gt l (l.getD i .zero).frm (l.getD i .zero).num< (i:Int)))= !((aNu i).all fun j=> !kP l (l.getD i .zero).frm (l.getD i .zero).num j):=by
 have hself:kP l (l.getD i .zero).frm (l.getD i .zero).num i=true:=by simp[kP]
 by_cases h: ∃j,j<i∧kP l (l.getD i .zero).frm (l.getD i .zero).num j=true
 · obtain⟨j,hj,hji⟩:=h
   rw[eC hj (by rw[hji];rfl)]
   rcases jW (kP l (l.getD i .zero).frm (l.getD i .zero).num) l.length 0 with h1|⟨k,h1,_,h2,h3,h4⟩
   · exact decide_eq_true (by rw[gt,h1];omega)
   · refine decide_eq_true ?_
     rw[gt,h1]
     by_cases hk:k<i
     · omega
     · have:=h4 j (aNj _) (by omega)
       rw[hji] at this;cases this
 · have h0: ∀j,j<i→kP l (l.getD i .zero).frm (l.getD i .zero).num j=false:=fun j hj=>by
    cases hh:kP l (l.getD i .zero).frm (l.getD i .zero).num j with
    |false=>rfl
    |true=>exact absurd ⟨j,hj,hh⟩ h
   rw[gC (fun j hj=>by rw[h0 j hj];rfl),gt,lM (aNj _) (by omega) (fun j _ hj=>h0 j hj) hself]
   simp
theorem aJ2 (a b:Int):decide (a>b)= !decide (a≤b):=by
 by_cases h:a≤b
 · simp[h,Int.not_lt.2 h]
 · simp[h,Int.not_le.1 h]
theorem mixC {a:Bool} {n:Int} (h: (!a||n != 4)=true): (!a|| !decide (n=4))=true:=by
 have e: (n != 4)= !decide (n=4):=by by_cases h:n=4<;>simp[h]
 rw[← e];exact h
theorem aNc {a:Bool} {n:Int} (h: (!a||n != 4)=false): (a&&decide (n=4))=true:=by
 have e: (n != 4)= !decide (n=4):=by by_cases h:n=4<;>simp[h]
 rw[e] at h
 cases a<;>simp_all
theorem dl {l:List bV} {i:Nat} {c:Bool} (hi:i<l.length) (h: (!lO (l.getD i .zero)||decide (gt l (l.getD i .zero).frm (l.getD i .zero).num< (i:Int)))=c):fX l i= !c:=by
 subst h
 rw[aBr hi,fX,Bool.not_or,Bool.not_not,Bool.not_not]
theorem tS {k:aN} (h:hZ k=false):aX k=false:=by rw[aX,h];rfl
theorem jv {k:aN} {a b:Bool} (h: (!a|| !b)=true) (h2: ((bY k).2=a∧(bf k).2=b)∨((bY k).2=b∧(bf k).2=a)):aX k=false:=by
 unfold aX
 rcases h2 with⟨h1,h2⟩|⟨h1,h2⟩<;>rw[h1,h2]<;>cases a<;>cases b<;>simp_all
theorem dm {k:aN} {a b:Bool} (hh:hZ k=true) (h: (!a|| !b)=false) (h2: ((bY k).2=a∧(bf k).2=b)∨((bY k).2=b∧(bf k).2=a)):aX k=(aNu k.halves.length).all (fX k.halves):=by
 unfold aX
 rcases h2 with⟨h1,h2⟩|⟨h1,h2⟩<;>rw[h1,h2,hh]<;>cases a<;>cases b<;>simp_all
theorem dn {h:bV} {c:Bool} (hh: (!eP h.frm|| !eP h.to|| !mR h.num 1 99|| !mR h.til 1 999|| !mR h.size 1 24||decide (((bI h.got).length:Int)>14))=c):yI h= !c:=by
 subst hh
 rw[aW,aJ2]
 unfold yI
 simp only[Bool.not_or,Bool.not_not]
theorem wF {k:aN} {c:Bool} (hh: (!eP k.id|| !cO k.log k.forced||decide (((aY k.halves).length:Int)>3)||(!k.up&&decide (((aY k.halves).length:Int)>0)))=c):hZ k= !c:=by
 subst hh
 have e:decide ((k.halves.length:Int)>0)= !decide (k.halves.length=0):=by
  by_cases h:k.halves.length=0
  · rw[h];rfl
  · rw[decide_eq_true (show(k.halves.length:Int)>0 by omega),decide_eq_false h];rfl
 rw[aO,aJ2,e]
 unfold hZ
 simp only[Bool.not_or,Bool.not_not,Bool.not_and]
theorem nj {l:List UInt8} {f:Int} (h: (decide ((l.length:Int)>2400)|| !mR f 0 l.length)=true):cO l f=false:=by
 unfold cO
 rcases Bool.or_eq_true _ _▸h with h|h
 · rw[decide_eq_false (show ¬l.length≤2400 by have:=of_decide_eq_true h;omega)];rfl
 · rw[Bool.not_eq_true'] at h
   rw[h];simp
theorem jw {l:List UInt8} {f:Int} (h: (decide ((l.length:Int)>2400)|| !mR f 0 l.length)=false): (l.length≤2400∧0≤f∧f≤l.length)∧cO l f=(((bR l).2:Int)==(l.length:Int)&&((bR (l.take f.toNat)).2:Int)==f):=by
 rw[Bool.or_eq_false_iff] at h
 have h1:l.length≤2400:=by have:=of_decide_eq_false h.1;omega
 have h2:mR f 0 l.length=true:=by simpa using h.2
 have h3:0≤f∧f≤l.length:=by simpa[mR] using h2
 refine⟨⟨h1,h3⟩,?_⟩
 unfold cO
 rw[decide_eq_true h1,h2,Bool.true_and,Bool.true_and]
 congr 1
 by_cases e: (bR l).2=l.length
 · rw[e];simp
 · rw[decide_eq_false e]
   symm
   rw[beq_eq_false_iff_ne]
   omega
set_option linter.unusedVariables false
set_option linter.unusedSimpArgs false
theorem bg {α:Type} {f:α→List D} {p:α→Prop}: ∀{rows:List (List D)},(∀r∈rows,∃x,r=f x∧p x)→ ∃l:List α,rows=l.map f∧ ∀x∈l,p x
 | [],_=>⟨[],rfl,fun x h=>(by cases h)⟩
 |r::rows,h=>by
  obtain⟨x,rfl,hp⟩:=h r (List.mem_cons_self ..)
  obtain⟨l,rfl,hl⟩:=bg (rows:=rows) fun r hr=>h r (List.mem_cons_of_mem _ hr)
  exact⟨x::l,rfl,fun y hy=>by rcases aNs.1 hy with rfl|hy;exact hp;exact hl y hy⟩
theorem wG {α:Type} {z:α} {a b:List α} (hl:a.length=b.length) (h: ∀j,j<a.length→a.getD j z=b.getD j z):a=b:=by
 apply List.ext_getElem hl
 intro i h1 h2
 have:=h i h1
 rw[aNm,aNm,aNo h1,aNo h2] at this
 exact this
theorem wH {α:Type} {z:α} {a b:List α} {j:Nat} (h: ¬a.getD j z=b.getD j z): ¬a=b:=fun e=>h (by rw[e])
def aN.row (k:aN):List D:=[.i k.id,.b k.up,.s k.log,.i k.forced,.sl (aY k.halves)]
def KRB (k:aN):Prop:=k.log.length≤140737488355328∧k.halves.length*64≤140737488355328∧ ∀h∈k.halves,h.got.length*24≤140737488355328
theorem bh {l:List eO} {i:Nat} (h:i<l.length): (bI ((l.take i)++List.replicate (l.length - i) eO.zero)).getD i []=eO.zero.row:=by
 rw[fB (by simp;omega),aNm,List.getElem?_append_right (by simp;omega)]
 rw[List.getElem?_replicate,aC (by simp;omega)]
 rfl
theorem dp {l:List eO} {i:Nat} (h:i<l.length): (bI ((l.take i)++List.replicate (l.length - i) eO.zero)).set i (dC ((bI ((l.take i)++List.replicate (l.length - i) eO.zero)).getD i []) 0 (l.getD i .zero).row)=bI ((l.take (i+1))++List.replicate (l.length - (i+1)) .zero):=by
 rw[bh h]
 show(bI _).set i (l.getD i .zero).row=_
 have e:l.length - i=(l.length - (i+1))+1:=by omega
 rw[e,List.replicate_succ]
 unfold bI
 rw[List.map_append,List.map_cons,aFw (by simp;omega),gK (z:=eO.zero) h,List.append_assoc,List.map_append,List.map_append]
 rfl
theorem jx {l:List bV} {i:Nat} (h:i<l.length): (aY ((l.take i)++List.replicate (l.length - i) bV.zero)).getD i []=bV.zero.row:=by
 rw[eH (by simp;omega),aNm,List.getElem?_append_right (by simp;omega)]
 rw[List.getElem?_replicate,aC (by simp;omega)]
 rfl
theorem qh {l:List bV} {i:Nat} (h:i<l.length): (aY ((l.take i)++List.replicate (l.length - i) bV.zero)).set i (dC ((aY ((l.take i)++List.replicate (l.length - i) bV.zero)).getD i []) 0 (l.getD i .zero).row)=aY ((l.take (i+1))++List.replicate (l.length - (i+1)) .zero):=by
 rw[jx h]
 show(aY _).set i (l.getD i .zero).row=_
 have e:l.length - i=(l.length - (i+1))+1:=by omega
 rw[e,List.replicate_succ]
 unfold aY
 rw[List.map_append,List.map_cons,aFw (by simp;omega),gK (z:=bV.zero) h,List.append_assoc,List.map_append,List.map_append]
 rfl
set_option linter.unusedVariables false
set_option linter.unusedSimpArgs false
def gY (l:List UInt8) (f:Int):List UInt8×Int:=if cO l f then(l,l.length) else([],0)
def fM (l:List UInt8) (f keep:Int):Int:=f+(if 0<min keep (l.length - f) then min keep (l.length - f) else 0)
def sZ (l:List UInt8) (f keep:Int):Nat:=(bR (l.take (fM l f keep).toNat)).2
def eI (l:List UInt8) (f keep:Int):List UInt8×Int:=if cO l f then(l.take (sZ l f keep),sZ l f keep) else([],0)
def jZ (rec:List UInt8):List UInt8:=jF rec.length++[58]++rec++[59]
def pX (rec:List UInt8):Bool:=mR rec.length 1 60
def cC (l:List UInt8) (f:Int) (rec:List UInt8): (List UInt8×Int)×Bool:=
 if cO l f then(if pX rec&&decide (l.length+(jZ rec).length≤2400) then((l++jZ rec,f),true) else((l,f),false)) else(([],0),false)
def fF (recs:List (List UInt8)):List UInt8:=(recs.map jZ).flatten
def dH (l:List UInt8) (f:Int) (recs:List (List UInt8)): (List UInt8×Int)×Bool:=
 if cO l f then(if recs.all pX&&decide ((fF recs).length≤2400) then((fF recs,(fF recs).length),true) else((l,f),false)) else(([],0),false)
theorem dq {l:List UInt8} {f keep:Int} (h:0≤f∧f≤l.length):f≤fM l f keep∧fM l f keep≤l.length:=by
 unfold fM
 split<;>omega
theorem aBt (l:List UInt8) (f keep:Int):sZ l f keep≤l.length:=by
 have:=(qU _ (l.take (fM l f keep).toNat) (aNp _)).1
 rw[aNn] at this
 unfold sZ;omega
theorem nk {l:List UInt8} {f keep:Int}:sZ l f keep≤(fM l f keep).toNat:=by
 have:=(qU _ (l.take (fM l f keep).toNat) (aNp _)).1
 rw[aNn] at this
 unfold sZ;omega
theorem aD9 {l:List UInt8} {f keep:Int}: (l.take (fM l f keep).toNat).take (sZ l f keep)=l.take (sZ l f keep):=by
 rw[List.take_take];congr 1;have:=nk (l:=l) (f:=f) (keep:=keep);omega
theorem pY {rec:List UInt8} (h:rec.length≤900000): (jZ rec).length≤rec.length+8:=by
 have h2:=bU (k:=5) (n:=rec.length) (by simp;omega)
 simp only[jZ,aNh,aNk,aNl];omega
theorem vu (recs:List (List UInt8)) (r:List UInt8):fF (recs++[r])=fF recs++jZ r:=by simp[fF]
def bN (k:aN) (keep:Int):aN:=if aX k then⟨k.id,false,(eI k.log k.forced keep).1,(eI k.log k.forced keep).2,[]⟩ else .zero
def bL (k:aN):aN:=if aX k then{k with up:=true} else .zero
def eT (k:aN):aN:={k with log:=(gY k.log k.forced).1,forced:=(gY k.log k.forced).2}
def aU (k:aN):aN×Bool:=if aX k then(if !k.up||k.forced==k.log.length then(k,false) else(eT k,true)) else(.zero,false)
def bS (k:aN):bH:=if aX k then(bY k).1 else .zero
theorem cJ {k:aN} (h:aX k=true):hZ k=true∧k.log.length≤2400∧(0≤k.forced∧k.forced≤k.log.length)∧k.halves.length≤3∧(k.up=true∨k.halves=[])∧ ∀x∈k.halves,x.got.length≤14:=by
 have h1:hZ k=true:=by
  cases hh:hZ k with
  |true=>rfl
  |false=>rw[tS hh] at h;cases h
 obtain⟨_,q1,q2,q3⟩:=cK h1
 obtain⟨q4,q5,_,_⟩:=iO q1
 refine⟨h1,q4,q5,q2,q3.imp (fun h=>h) (fun h=>List.eq_nil_of_length_eq_zero h),fun x hx=> ?_⟩
 unfold aX at h
 rw[aNi] at h
 obtain⟨i,hi⟩:=List.mem_iff_getElem?.1 hx
 have hlt:=(aNq.1 hi).1
 have h2:=aNt.1 h.2 i (List.mem_range.2 hlt)
 unfold fX at h2
 rw[aNi] at h2
 have h3:=h2.1
 rw[aNm,hi] at h3
 have h3:lO x=true:=h3
 unfold lO at h3
 rw[aNi] at h3
 exact(sF h3.1).2.2.2.2.2
def KSm (k:aN):Prop:=k.log.length≤2400∧k.halves.length≤4∧ ∀x∈k.halves,x.got.length≤15
theorem KSm.krb {k:aN} (h:KSm k):KRB k:=⟨by have:=h.1;omega,by have:=h.2.1;omega,fun x hx=>by have:=h.2.2 x hx;omega⟩
theorem aEa {k:aN} (h:aX k=true) (hu:k.up=false):bL k=⟨k.id,true,k.log,k.forced,[]⟩:=by
 obtain⟨_,_,_,_,h4,_⟩:=cJ h
 have h5:k.halves=[]:=by
  rcases h4 with h4|h4
  · rw[hu] at h4;cases h4
  · exact h4
 rw[bL,aC h,← h5]
set_option linter.unusedVariables false
set_option linter.unusedSimpArgs false
def kQ (n:Nat):List UInt8:=iE++[32]++jF n
def dt (n:Nat):List UInt8:=jQ++[32]++jF n
def lH (w:List UInt8) (m:bZ):List UInt8:=w++[32]++jF m.frm.toNat++[32]++jF m.num.toNat++[32]++jF m.til.toNat
def fG (w:List UInt8) (n:bF):List UInt8:=w++[32]++kO n
def vv (k:bH):List (List UInt8):=
 (if 0<k.time then [kQ k.time.toNat] else [])++(if 1<k.next then [dt k.next.toNat] else [])++k.marks.map (lH gU)++k.held.map (fG gP)++k.inbox.map (fG fA)
def gG (k:bH):List (List UInt8):=if dG k then vv k else []
def kR (k:aN) (s:List UInt8×Int):aN:={k with log:=s.1,forced:=s.2}
def iX (k:aN) (rec:List UInt8):aN×Bool:=
 if(cR (bY k).1 rec).2 then
  if(cC k.log k.forced rec).2 then(kR k (cC k.log k.forced rec).1,true)
  else if(dH k.log k.forced (gG (bY k).1)).2 then
   if(cC (dH k.log k.forced (gG (bY k).1)).1.1 (dH k.log k.forced (gG (bY k).1)).1.2 rec).2 then
    (kR k (cC (dH k.log k.forced (gG (bY k).1)).1.1 (dH k.log k.forced (gG (bY k).1)).1.2 rec).1,true)
   else(k,false)
  else(k,false)
 else(k,false)
def cP (k:aN) (rec:List UInt8):aN×Bool:=if(iX k rec).2 then(eT (iX k rec).1,true) else(k,false)
def bB (k:aN):aN×Bool:=if aX k then(if k.up then cP k (kQ ((bY k).1.time+1).toNat) else(k,false)) else(.zero,false)
def fP (k:aN) (to til:Int) (text:List UInt8):bF:=⟨k.id,(bY k).1.next,to,til,text⟩
def bE (k:aN) (to til:Int) (text:List UInt8):aN×Int:=
 if aX k then(if k.up then(if(cP k (fG gT (fP k to til text))).2 then((cP k (fG gT (fP k to til text))).1,(bY k).1.next) else(k,0)) else(k,0)) else(.zero,0)
def lQ (k:aN) (f n:Int):List UInt8:=lH iW ⟨f,n,((bY k).1.inbox.getD (bA (bY k).1.inbox f n).toNat .zero).til⟩
def aQ (k:aN) (f n:Int):aN×bF×Bool:=
 if aX k then
  (if k.up&&decide (0≤bA (bY k).1.inbox f n) then(if(cP k (lQ k f n)).2 then((cP k (lQ k f n)).1,(bY k).1.inbox.getD (bA (bY k).1.inbox f n).toNat .zero,true) else(k,.zero,false)) else(k,.zero,false))
 else(.zero,.zero,false)
def lL.zero:lL:=⟨0,0,0,0,0,0,0,0,0,[]⟩
def aZ (k:aN):aN×Bool:=
 if aX k then(if k.up&&(dH k.log k.forced (gG (bY k).1)).2 then(kR k (dH k.log k.forced (gG (bY k).1)).1,true) else(k,false)) else(.zero,false)
set_option linter.unusedVariables false
set_option linter.unusedSimpArgs false
theorem getD_none {α:Type} {l:List α} {i:Nat} {z:α} (h:l.length≤i):l.getD i z=z:=by
 rw[aNm,List.getElem?_eq_none h];rfl
set_option linter.unusedVariables false
set_option linter.unusedSimpArgs false
deriving instance DecidableEq for lL
theorem aEb {k:bH} {r:List UInt8} (h: (cR k r).2=true):dG (cR k r).1=true:=by
 unfold cR at h ⊢
 split at h
 · rename_i hk
   rw[aC hk]
   unfold nP at h ⊢
   split at h
   · rename_i hx
     rw[aC hx]
     simp only[aNi] at hx
     exact hx.2
   · cases h
 · cases h
theorem tq: ∀{rs:List (List UInt8)} {k:bH},dG k=true→(lN k rs).2=true→dG (lN k rs).1=true
 | [],k,hk,h=>hk
 |r::rs,k,hk,h=>by
  unfold lN at h ⊢
  split at h
  · rename_i hd
    rw[aC hd]
    exact tq (aEb hd) h
  · cases h
theorem vw {id:Int} (h:eP id=true):dG (cE id)=true:=by
 simp[dG,cE,h,mR,jA,nG]
theorem aEc {id:Int} {rs:List (List UInt8)} (h: (cX id rs).2=true):dG (cX id rs).1=true:=by
 unfold cX at h ⊢
 split at h
 · rename_i hn
   rw[aC hn]
   exact tq (vw hn) h
 · cases h
theorem dP {k:aN} (h:aX k=true):dG (bY k).1=true:=by
 unfold aX at h
 simp only[aNi] at h
 exact aEc h.1.1.2
theorem dK {k:aN} (h:aX k=true):bS k=(bY k).1:=aC h
theorem wI {k:aN} (h: ¬aX k=true):bS k= .zero:=aB h
set_option linter.unusedVariables false
set_option linter.unusedSimpArgs false
structure rB where
 frm:Int
 to:Int
 data:List UInt8
 done:Bool
 deriving DecidableEq
def rB.row (p:rB):List D:=[.i p.frm,.i p.to,.s p.data,.b p.done]
abbrev rB.V (p:rB):V:= .e (.agg [.d (.i p.frm),.d (.i p.to),.d (.s p.data),.d (.b p.done)])
def rB.zero:rB:=⟨0,0,[],false⟩
def nl (l:List rB):List (List D):=l.map rB.row
def nm (l:List aN):List (List D):=l.map aN.row
structure gu where
 time:Int
 keepers:List aN
 links:List Bool
 radio:List rB
 sent:List bF
 got:List bF
 deriving DecidableEq
def gu.row (r:gu):List D:=[.i r.time,.sl (nm r.keepers),.sl (yd r.links),.sl (nl r.radio),.sl (aF r.sent),.sl (aF r.got)]
abbrev gu.V (r:gu):V:= .e (.agg [.d (.i r.time),.d (.sl (nm r.keepers)),.d (.sl (yd r.links)),.d (.sl (nl r.radio)),.d (.sl (aF r.sent)),.d (.sl (aF r.got))])
def gu.zero:gu:=⟨0,[],[],[],[],[]⟩
set_option linter.unusedVariables false
set_option linter.unusedSimpArgs false
theorem du {l:List UInt8} {f:Int} {rec:List UInt8} (h: ¬cO l f=true):cC l f rec=(([],0),false):=aB h
theorem jy {l:List UInt8} {f:Int} {rec:List UInt8} (h:cO l f=true) (h2: ¬(pX rec=true∧l.length+(jZ rec).length≤2400)):cC l f rec=((l,f),false):=by
 unfold cC
 rw[aC h,aB (by simpa using h2)]
theorem dw {l:List UInt8} {f:Int} {rec:List UInt8} (h:cO l f=true) (h2:pX rec=true∧l.length+(jZ rec).length≤2400):cC l f rec=((l++jZ rec,f),true):=by
 unfold cC
 rw[aC h,aC (by simpa using h2)]
theorem aa {l:List UInt8} {f:Int} {recs:List (List UInt8)} (h: ¬cO l f=true):dH l f recs=(([],0),false):=aB h
theorem rC {l:List UInt8} {f:Int} {recs:List (List UInt8)} (h:cO l f=true) (h2: ¬(recs.all pX=true∧(fF recs).length≤2400)):dH l f recs=((l,f),false):=by
 unfold dH
 rw[aC h,aB (by simpa using h2)]
theorem ab {l:List UInt8} {f:Int} {recs:List (List UInt8)} (h:cO l f=true) (h2:recs.all pX=true∧(fF recs).length≤2400):dH l f recs=((fF recs,((fF recs).length:Int)),true):=by
 unfold dH
 rw[aC h,aC (by simpa using h2)]
theorem dx {recs:List (List UInt8)} {i:Nat} (h:i<recs.length):fF (recs.take (i+1))=fF (recs.take i)++jZ (recs.getD i []):=by
 rw[gK (z:=[]) h,vu]
theorem nn (recs:List (List UInt8)) (i:Nat): (fF (recs.take i)).length≤(fF recs).length:=by
 conv=>rhs;rw[← List.take_append_drop i recs]
 unfold fF
 rw[List.map_append,List.flatten_append,aNh]
 omega
theorem tT: ∀{recs:List (List UInt8)},(∀r∈recs,r.length≤900000)→(fF recs).length≤recs.length*900008
 | [],_=>by simp[fF]
 |r::recs,h=>by
  have h1:=pY (h r (List.mem_cons_self ..))
  have h2:=tT (recs:=recs) fun x hx=>h x (List.mem_cons_of_mem _ hx)
  have h3:=h r (List.mem_cons_self ..)
  have e:fF (r::recs)=jZ r++fF recs:=by simp[fF]
  rw[e,aNh,aNk]
  omega
theorem zb {recs:List (List UInt8)} {i:Nat} (h:i<recs.length) (hb:pX (recs.getD i [])=false): ¬recs.all pX=true:=by
 intro h9
 rw[aNt.1 h9 _ (dO h)] at hb
 cases hb
theorem tt {recs:List (List UInt8)} (hk: ∀j,j<recs.length→pX (recs.getD j [])=true):recs.all pX=true:=by
 rw[aNt]
 intro x hx
 obtain⟨i,hi⟩:=List.mem_iff_getElem?.1 hx
 have hlt:=(aNq.1 hi).1
 have:=hk i hlt
 rw[aNm,hi] at this
 exact this
theorem dy {a:Bool} {n m:Nat} {c:Bool} (h: (!a||decide (wrap64 ((n:Int)+(m:Int))>2400))=c) (hn:n≤2400) (hm:m≤1000000): (a=true∧n+m≤2400)↔c=false:=by
 subst h
 rw[aH (by omega)]
 cases a
 · simp
 · simp;omega
theorem aGe {a:Bool} {n:Nat} (h: (!a||decide ((n:Int)>2400))=false):a=true∧n≤2400:=by
 cases a
 · cases h
 · exact⟨rfl,by have h9:=of_decide_eq_false (show decide ((n:Int)>2400)=false from h);omega⟩
theorem aEd {a:Bool} {n:Nat} (h: (!a||decide ((n:Int)>2400))=true):a=false∨2400<n:=by
 cases a
 · exact .inl rfl
 · exact .inr (by have h9:=of_decide_eq_true (show decide ((n:Int)>2400)=true from h);omega)
set_option linter.unusedVariables false
set_option linter.unusedSimpArgs false
def sG (k:bH):List (List UInt8):=if 0<k.time then [kQ k.time.toNat] else []
def uT (k:bH):List (List UInt8):=sG k++(if 1<k.next then [dt k.next.toNat] else [])
def mP (k:bH) (i:Nat):List (List UInt8):=uT k++(k.marks.take i).map (lH gU)
def nT (k:bH) (i:Nat):List (List UInt8):=mP k k.marks.length++(k.held.take i).map (fG gP)
def mQ (k:bH) (i:Nat):List (List UInt8):=nT k k.held.length++(k.inbox.take i).map (fG fA)
theorem tv {k:bH} (h:k.time>0):sG k=[kQ k.time.toNat]:=aC h
theorem zc {k:bH} (h: ¬k.time>0):sG k=[]:=aB h
theorem tw {k:bH} (h:k.next>1):uT k=sG k++[dt k.next.toNat]:=by rw[uT,aC h]
theorem zd {k:bH} (h: ¬k.next>1):uT k=sG k:=by rw[uT,aB h,List.append_nil]
theorem np (k:bH):mP k 0=uT k:=by simp[mP]
theorem nq (k:bH):nT k 0=mP k k.marks.length:=by simp[nT]
theorem nr (k:bH):mQ k 0=nT k k.held.length:=by simp[mQ]
theorem nt {k:bH} {i:Nat} (h:i<k.marks.length):mP k (i+1)=mP k i++[lH gU (k.marks.getD i .zero)]:=by
 unfold mP
 rw[gK (z:=bZ.zero) h,List.map_append,← List.append_assoc];rfl
theorem nu {k:bH} {i:Nat} (h:i<k.held.length):nT k (i+1)=nT k i++[fG gP (k.held.getD i .zero)]:=by
 unfold nT
 rw[gK (z:=bF.zero) h,List.map_append,← List.append_assoc];rfl
theorem nw {k:bH} {i:Nat} (h:i<k.inbox.length):mQ k (i+1)=mQ k i++[fG fA (k.inbox.getD i .zero)]:=by
 unfold mQ
 rw[gK (z:=bF.zero) h,List.map_append,← List.append_assoc];rfl
theorem tz (k:bH):mQ k k.inbox.length=vv k:=by
 unfold mQ nT mP uT sG vv
 rw[List.take_length,List.take_length,List.take_length]
theorem nx (k:bH): (uT k).length≤2:=by
 unfold uT sG
 split<;>split<;>simp
theorem ny (k:bH) (i:Nat): (mP k i).length≤2+k.marks.length:=by
 have:=nx k
 unfold mP
 rw[aNh,List.length_map,aNn];omega
theorem nz (k:bH) (i:Nat): (nT k i).length≤2+k.marks.length+k.held.length:=by
 have:=ny k k.marks.length
 unfold nT
 rw[aNh,List.length_map,aNn];omega
theorem dz (k:bH) (i:Nat): (mQ k i).length≤2+k.marks.length+k.held.length+k.inbox.length:=by
 have:=nz k k.held.length
 unfold mQ
 rw[aNh,List.length_map,aNn];omega
theorem wJ {k:bH} (h:dG k=true):gG k=mQ k k.inbox.length:=by rw[tz];exact aC h
theorem yJ {k:bH} (h: ¬dG k=true):gG k=[]:=aB h
theorem oa {k:bH} (hk:dG k=true) {i:Nat} (h:i<k.marks.length): (0≤(k.marks.getD i .zero).frm∧(k.marks.getD i .zero).frm≤3)∧(1≤(k.marks.getD i .zero).num∧(k.marks.getD i .zero).num≤99)∧(1≤(k.marks.getD i .zero).til∧(k.marks.getD i .zero).til≤999):=by
 obtain⟨_,⟨_,h5,_⟩,_⟩:=(bW k).1 hk
 exact qY (yH h5 (dO h))
theorem lR (n:bF): (kO n).length≤60:=by
 by_cases h:eM n=true
 · obtain⟨p1,p2,p3,p4,p5⟩:=mG h
   have q1:=bU (k:=3) (n:=n.frm.toNat) (by simp;omega)
   have q2:=bU (k:=3) (n:=n.num.toNat) (by simp;omega)
   have q3:=bU (k:=3) (n:=n.to.toNat) (by simp;omega)
   have q4:=bU (k:=3) (n:=n.til.toNat) (by simp;omega)
   rw[kO,aC h]
   simp only[jP,aNh,aNk,aNl];omega
 · rw[kO,aB h];simp
theorem tC {w:List UInt8} {m:bZ} (h: (0≤m.frm∧m.frm≤1000000)∧(0≤m.num∧m.num≤1000000)∧(0≤m.til∧m.til≤1000000)): (lH w m).length≤w.length+30:=by
 have q1:=bU (k:=6) (n:=m.frm.toNat) (by simp;omega)
 have q2:=bU (k:=6) (n:=m.num.toNat) (by simp;omega)
 have q3:=bU (k:=6) (n:=m.til.toNat) (by simp;omega)
 unfold lH
 simp only[aNh,aNk,aNl];omega
theorem pZ (w:List UInt8) (n:bF): (fG w n).length≤w.length+61:=by
 have:=lR n
 unfold fG
 simp only[aNh,aNk,aNl];omega
theorem tE {n:Nat} (h:n≤1000000): (kQ n).length≤12:=by
 have:=bU (k:=6) (n:=n) (by simp;omega)
 unfold kQ iE
 simp only[aNh,aNk,aNl];omega
theorem ze {n:Nat} (h:n≤1000000): (dt n).length≤12:=by
 have:=bU (k:=6) (n:=n) (by simp;omega)
 unfold dt jQ
 simp only[aNh,aNk,aNl];omega
theorem iY {k:bH}: (gG k).length≤26∧ ∀r∈gG k,r.length≤100:=by
 by_cases hk:dG k=true
 · obtain⟨⟨_,ht,hn,h1,h2,h3⟩,⟨h4,h5,h6⟩,_⟩:=(bW k).1 hk
   rw[wJ hk]
   refine⟨by have:=dz k k.inbox.length;omega,fun r hr=> ?_⟩
   rw[tz] at hr
   unfold vv at hr
   simp only[List.mem_append,aNr] at hr
   rcases hr with(((hr|hr)|⟨m,hm,rfl⟩)|⟨m,hm,rfl⟩)|⟨m,hm,rfl⟩
   · split at hr
     · rw[List.mem_singleton.1 hr];have:=tE (n:=k.time.toNat) (by omega);omega
     · cases hr
   · split at hr
     · rw[List.mem_singleton.1 hr];have:=ze (n:=k.next.toNat) (by omega);omega
     · cases hr
   · obtain⟨q1,q2,q3⟩:=qY (yH h5 hm)
     have:=tC (w:=gU) (m:=m) (by omega)
     have e:gU.length=4:=rfl
     omega
   · have:=pZ gP m
     have e:gP.length=4:=rfl
     omega
   · have:=pZ fA m
     have e:fA.length=5:=rfl
     omega
 · rw[yJ hk];exact⟨by simp,fun r hr=>by cases hr⟩
set_option linter.unusedVariables false
set_option linter.unusedSimpArgs false
def cM (k:aN): (List UInt8×Int)×Bool:=dH k.log k.forced (gG (bY k).1)
theorem vz {k:aN} {rec:List UInt8} (h1: ¬(cR (bY k).1 rec).2=true):iX k rec=(k,false):=by
 unfold iX;rw[aB h1]
theorem nA {k:aN} {rec:List UInt8} (h1: (cR (bY k).1 rec).2=true) (h2: (cC k.log k.forced rec).2=true):iX k rec=(kR k (cC k.log k.forced rec).1,true):=by
 unfold iX;rw[aC h1,aC h2]
theorem jz {k:aN} {rec:List UInt8} (h1: (cR (bY k).1 rec).2=true) (h2: ¬(cC k.log k.forced rec).2=true) (h3: ¬(cM k).2=true):iX k rec=(k,false):=by
 unfold iX
 rw[aC h1,aB h2]
 show(if(cM k).2=true then(if(cC (cM k).1.1 (cM k).1.2 rec).2=true then(kR k (cC (cM k).1.1 (cM k).1.2 rec).1,true) else(k,false)) else(k,false))=_
 rw[aB h3]
theorem gv {k:aN} {rec:List UInt8} (h1: (cR (bY k).1 rec).2=true) (h2: ¬(cC k.log k.forced rec).2=true) (h3: (cM k).2=true) (h4: ¬(cC (cM k).1.1 (cM k).1.2 rec).2=true):iX k rec=(k,false):=by
 unfold iX
 rw[aC h1,aB h2]
 show(if(cM k).2=true then(if(cC (cM k).1.1 (cM k).1.2 rec).2=true then(kR k (cC (cM k).1.1 (cM k).1.2 rec).1,true) else(k,false)) else(k,false))=_
 rw[aC h3,aB h4]
theorem gw {k:aN} {rec:List UInt8} (h1: (cR (bY k).1 rec).2=true) (h2: ¬(cC k.log k.forced rec).2=true) (h3: (cM k).2=true) (h4: (cC (cM k).1.1 (cM k).1.2 rec).2=true):iX k rec=(kR k (cC (cM k).1.1 (cM k).1.2 rec).1,true):=by
 unfold iX
 rw[aC h1,aB h2]
 show(if(cM k).2=true then(if(cC (cM k).1.1 (cM k).1.2 rec).2=true then(kR k (cC (cM k).1.1 (cM k).1.2 rec).1,true) else(k,false)) else(k,false))=_
 rw[aC h3,aC h4]
theorem ua {k:aN} (hs:cO k.log k.forced=true) (h: ¬(cM k).2=true): (cM k).1=(k.log,k.forced):=by
 unfold cM dH at h ⊢
 rw[aC hs] at h ⊢
 split at h
 · exact absurd rfl h
 · rename_i h9
   rw[aB h9]
theorem sH {k:aN} (hl:k.log.length≤140737488355328): (cM k).1.1.length≤140737488355328:=by
 unfold cM dH
 split
 · split
   · rename_i h9
     simp only[aNi,aD] at h9
     show(fF _).length≤_
     omega
   · exact hl
 · simp
theorem oc {k:aN} {rec:List UInt8} (hs:cO k.log k.forced=true) (h1: (cR (bY k).1 rec).2=true) (h2: ¬(cC k.log k.forced rec).2=true) (h4: ¬(cC (cM k).1.1 (cM k).1.2 rec).2=true):iX k rec=(k,false):=by
 by_cases h3: (cM k).2=true
 · exact gv h1 h2 h3 h4
 · exact jz h1 h2 h3
theorem lS {k:aN} {rec:List UInt8} (hs:cO k.log k.forced=true) (h1: (cR (bY k).1 rec).2=true) (h2: ¬(cC k.log k.forced rec).2=true) (h4: (cC (cM k).1.1 (cM k).1.2 rec).2=true):iX k rec=(kR k (cC (cM k).1.1 (cM k).1.2 rec).1,true):=by
 by_cases h3: (cM k).2=true
 · exact gw h1 h2 h3 h4
 · rw[ua hs h3] at h4
   exact absurd h4 h2
def kC (k:aN) (rec:List UInt8) (fc:Bool):aN×Bool:=if(iX k rec).2 then(if fc then eT (iX k rec).1 else(iX k rec).1,true) else(k,false)
theorem mI {l:List UInt8} {f:Int} {rec:List UInt8} (hl:l.length≤140737488355328): (cC l f rec).1.1.length≤140737488355328:=by
 unfold cC
 split
 · split
   · rename_i h9
     simp only[aNi,aD] at h9
     show(l++jZ rec).length≤_
     rw[aNh];omega
   · exact hl
 · simp
theorem od {k:aN} {rec:List UInt8} (hl:k.log.length≤140737488355328): (iX k rec).1.log.length≤140737488355328∧(iX k rec).1.halves=k.halves:=by
 unfold iX
 split
 · split
   · exact⟨mI hl,rfl⟩
   · split
     · split
       · exact⟨mI (sH hl),rfl⟩
       · exact⟨hl,rfl⟩
     · exact⟨hl,rfl⟩
 · exact⟨hl,rfl⟩
theorem ka {k:aN} {rec:List UInt8} (h: (iX k rec).2=true):cP k rec=(eT (iX k rec).1,true):=aC h
theorem oe {k:aN} {rec:List UInt8} (h: ¬(iX k rec).2=true):cP k rec=(k,false):=aB h
theorem iF {k:aN} (h:aX k=true):KB (bY k).1:=(cV (dP h)).seven.big
theorem dD {a:Bool} (h: (!a)=false):a=true:=by simpa using h
theorem fE {a:Bool} (h: (!a)=true): ¬a=true:=by simpa using h
set_option linter.unusedVariables false
set_option linter.unusedSimpArgs false
theorem aBu (k:bH) {n:Nat} (hn:n<100000):eQ k (kQ n)=mO k iE n:=by
 have e:kQ n=iE++32::jF n:=by simp[kQ]
 obtain⟨h1,h2,h3⟩:=oH (w:=iE) (r:=jF n) (by decide)
 rw[e,yq h3 (by rw[h1];rfl) (by rw[h2,oI hn];rfl),h1,h2,rP (oI hn)]
theorem ea {k:bH} (hk:dG k=true) (rec:List UInt8):cR k rec=nP k (eQ k rec):=aC hk
theorem aEe {k:bH} (hk:dG k=true) (h:k.time≥999): ¬(cR k (kQ (k.time+1).toNat)).2=true:=by
 obtain⟨⟨_,ht,_⟩,_⟩:=(bW k).1 hk
 rw[ea hk,aBu k (by omega)]
 have e: (((k.time+1).toNat:Nat):Int)=k.time+1:=by omega
 rw[e]
 have hd:mO k iE (k.time+1)=(jB k (k.time+1),true):=by
  unfold mO
  rw[aC (by rw[decide_eq_true (by omega)];rfl)]
 rw[hd]
 unfold nP
 rw[aB]
 · simp
 · intro h9
   simp only[Bool.true_and] at h9
   obtain⟨⟨_,ht2,_⟩,_⟩:=(bW _).1 h9
   have e2: (jB k (k.time+1)).time=k.time+1:=rfl
   omega
theorem aEf {k:bH} (hk:dG k=true) {n:bF} (h:kO n=[]): ¬(cR k (fG gT n)).2=true:=by
 have e:fG gT n=gT++32::[]:=by rw[fG,h];simp
 obtain⟨h1,h2,h3⟩:=oH (w:=gT) (r:=[]) (by decide)
 rw[ea hk,e,sE h3 (by rw[h1];rfl) (by rw[h1];rfl) (by rw[h2];rfl)]
 simp[nP]
set_option linter.unusedVariables false
set_option linter.unusedSimpArgs false
theorem rF {k:aN} {rec:List UInt8} (h: ¬(cP k rec).2=true): (cP k rec).1=k:=by
 unfold cP at h ⊢
 split at h
 · exact absurd rfl h
 · rename_i h9;rw[aB h9]
theorem eb {k:aN} {rec:List UInt8} (h: ¬(cR (bY k).1 rec).2=true):cP k rec=(k,false):=by
 unfold cP;rw[vz h];rfl
theorem sI {k:aN} (h: ¬aX k=true):bB k=(.zero,false):=aB h
theorem nI {k:aN} (h:aX k=true) (hu: ¬k.up=true):bB k=(k,false):=by rw[bB,aC h,aB hu]
theorem pL {k:aN} (h:aX k=true) (hu:k.up=true):bB k=cP k (kQ ((bY k).1.time+1).toNat):=by rw[bB,aC h,aC hu]
theorem kj {k:aN} (h:aX k=true) (ht: (bY k).1.time≥999):bB k=(k,false):=by
 by_cases hu:k.up=true
 · rw[pL h hu,eb (aEe (dP h) ht)]
 · exact nI h hu
theorem tU {k:aN} {to til:Int} {text:List UInt8} (h: ¬aX k=true):bE k to til text=(.zero,0):=aB h
theorem sJ {k:aN} {to til:Int} {text:List UInt8} (h:aX k=true) (hu: ¬k.up=true):bE k to til text=(k,0):=by rw[bE,aC h,aB hu]
theorem rG {k:aN} {to til:Int} {text:List UInt8} (h:aX k=true) (hl: ¬(cP k (fG gT (fP k to til text))).2=true):bE k to til text=(k,0):=by
 rw[bE,aC h]
 split
 · first|rfl|rw[aB hl]
 · rfl
theorem wK {k:aN} {to til:Int} {text:List UInt8} (h:aX k=true) (hu:k.up=true) (hl: (cP k (fG gT (fP k to til text))).2=true):bE k to til text=((cP k (fG gT (fP k to til text))).1,(bY k).1.next):=by
 rw[bE,aC h,aC hu,aC hl]
theorem og {k:aN} {to til:Int} {text:List UInt8} (h:aX k=true) (hn:kO (fP k to til text)=[]):bE k to til text=(k,0):=by
 refine rG h ?_
 rw[eb (aEf (dP h) hn)]
 simp
theorem tW {k:aN} {f n:Int} (h: ¬aX k=true):aQ k f n=(.zero,.zero,false):=aB h
theorem wL {k:aN} {f n:Int} (h:aX k=true) (hc: ¬(k.up=true∧0≤bA (bY k).1.inbox f n)):aQ k f n=(k,.zero,false):=by
 rw[aQ,aC h,aB (by simpa using hc)]
theorem sK {k:aN} {f n:Int} (h:aX k=true) (hc:k.up=true∧0≤bA (bY k).1.inbox f n) (hl: ¬(cP k (lQ k f n)).2=true):aQ k f n=(k,.zero,false):=by
 rw[aQ,aC h,aC (by simpa using hc),aB hl]
theorem wM {k:aN} {f n:Int} (h:aX k=true) (hc:k.up=true∧0≤bA (bY k).1.inbox f n) (hl: (cP k (lQ k f n)).2=true):aQ k f n=((cP k (lQ k f n)).1,(bY k).1.inbox.getD (bA (bY k).1.inbox f n).toNat .zero,true):=by
 rw[aQ,aC h,aC (by simpa using hc),aC hl]
theorem bi {k:aN} (h:aX k=true) {f n:Int} (hp:0≤bA (bY k).1.inbox f n): ∃j:Nat,bA (bY k).1.inbox f n=j∧j< (bY k).1.inbox.length∧((0≤f∧f≤1000000)∧(0≤n∧n≤1000000)∧(0≤((bY k).1.inbox.getD j .zero).til∧((bY k).1.inbox.getD j .zero).til≤1000000)):=by
 obtain⟨j,hj⟩:=Int.eq_ofNat_of_zero_le hp
 have hlt:=(eG (bY k).1.inbox f n).2
 obtain⟨_,⟨_,_,h6⟩,_⟩:=(bW _).1 (dP h)
 obtain⟨q1,q2,q3⟩:=be h6 hp
 rw[hj,aNf] at q1 q2 q3
 obtain⟨p1,p2,p3,p4,p5⟩:=mG q1
 exact⟨j,hj,by omega,by omega,by omega,by omega⟩
theorem sL {k:aN} (h: ¬aX k=true):aZ k=(.zero,false):=aB h
theorem qH {k:aN} (h:aX k=true) (hu: ¬k.up=true):aZ k=(k,false):=by
 rw[aZ,aC h,aB (by simp[hu])]
theorem ae {k:aN} (h:aX k=true) (hp: ¬(cM k).2=true):aZ k=(k,false):=by
 rw[aZ,aC h,aB]
 intro h9
 simp only[aNi] at h9
 exact hp h9.2
theorem af {k:aN} (h:aX k=true) (hu:k.up=true) (hp: (cM k).2=true):aZ k=(kR k (cM k).1,true):=by
 rw[aZ,aC h,aC]
 · rfl
 · rw[hu];exact hp
theorem yK {k:aN} (h:aX k=true) (hs:cO k.log k.forced=true) (hu:k.up=true):aZ k=(kR k (cM k).1,(cM k).2):=by
 by_cases hp: (cM k).2=true
 · rw[af h hu hp,hp]
 · rw[ae h hp,ua hs hp]
   have e: (cM k).2=false:=by simpa using hp
   rw[e];rfl
set_option linter.unusedVariables false
set_option linter.unusedSimpArgs false
def aNd (b:Int) (kn:List (List UInt8)):Prop:=(kn.length:Int)=b∧ ∀x∈kn,x.length=0∨x.length=4
theorem aNd.at {b:Int} {kn:List (List UInt8)} (h:aNd b kn) {j:Nat} (hj:j<kn.length): (kn.getD j []).length=0∨(kn.getD j []).length=4:=h.2 _ (dO hj)
set_option linter.unusedVariables false
set_option linter.unusedSimpArgs false
def aBv (kind:Int) (f:lL):lL:=⟨kind,f.dst,f.src,f.frm,f.num,f.to,f.til,0,0,[]⟩
def gx (k:aN) (l:List bV):aN:={k with halves:=l}
set_option linter.unusedVariables false
set_option linter.unusedSimpArgs false
def HOk (l:List bV):Prop:=(∀h∈l,lO h=true)∧l.Pairwise fun a b=> ¬(a.frm=b.frm∧a.num=b.num)
theorem gy {n:Nat} {p:Nat→Bool}: (aNu n).all p=true↔ ∀i,i<n→p i=true:=by
 rw[aNt]
 exact⟨fun h i hi=>h i (List.mem_range.2 hi),fun h i hi=>h i (List.mem_range.1 hi)⟩
theorem yL {α:Type} {l:List α} {i:Nat} {z:α} (h:i<l.length):l.getD i z=l[i]:=by
 rw[aNm,aNo h];rfl
theorem aGf (l:List bV): (aNu l.length).all (fX l)=true↔HOk l:=by
 rw[gy]
 constructor
 · intro h
   refine⟨fun m hm=> ?_,List.pairwise_iff_getElem.2 fun i j hi hj hij=> ?_⟩
   · obtain⟨i,hi,rfl⟩:=List.mem_iff_getElem.1 hm
     have:=h i hi
     unfold fX at this
     rw[aNi,yL hi] at this
     exact this.1
   · have:=h j hj
     unfold fX at this
     rw[aNi,gy,yL hj] at this
     have:=this.2 i hij
     unfold kP at this
     rw[yL hi] at this
     rintro⟨e1,e2⟩
     rw[e1,e2] at this
     simp at this
 · rintro⟨h1,h2⟩ i hi
   unfold fX
   rw[aNi,gy,yL hi]
   refine⟨h1 _ (List.getElem_mem hi),fun j hj=> ?_⟩
   unfold kP
   rw[yL (by omega)]
   have h3:=List.pairwise_iff_getElem.1 h2 j i (by omega) hi hj
   cases hq: (l[j].frm==l[i].frm&&l[j].num==l[i].num) with
   |false=>rfl
   |true=>rw[aNi,beq_iff_eq,beq_iff_eq] at hq;exact absurd hq h3
theorem wb {k:aN} {l:List bV} (hok:aX k=true) (hu:k.up=true) (hl:l.length≤3) (h:HOk l):aX (gx k l)=true:=by
 have hl': ((l.length:Nat):Int)≤3:=by omega
 unfold aX hZ at hok ⊢
 simp only[aNi] at hok ⊢
 obtain⟨⟨⟨⟨⟨⟨h1,h2⟩,h3⟩,h4⟩,h5⟩,h6⟩,h7⟩:=hok
 exact⟨⟨⟨⟨⟨⟨h1,h2⟩,decide_eq_true hl'⟩,by show(k.up||_)=true;rw[hu];rfl⟩,h5⟩,h6⟩,(aGf _).2 h⟩
section
variable {k:aN} {f:lL} {l:List bV} {i:Nat}
end
section
variable {k:aN} {f:lL}
end
set_option linter.unusedVariables false
set_option linter.unusedSimpArgs false
structure EvR where
 kind:Int
 at_:Int
 frm:Int
 num:Int
 word:Int
 mix:Int
 keep:Int
 dst:Int
 til:Int
 text:List UInt8
def EvR.row (e:EvR):List D:=[.i e.kind,.i e.at_,.i e.frm,.i e.num,.i e.word,.i e.mix,.i e.keep,.i e.dst,.i e.til,.s e.text]
abbrev EvR.V (e:EvR):V:= .e (.agg [.d (.i e.kind),.d (.i e.at_),.d (.i e.frm),.d (.i e.num),.d (.i e.word),.d (.i e.mix),.d (.i e.keep),.d (.i e.dst),.d (.i e.til),.d (.s e.text)])
def Sm (k' k:aN):Prop:=k'.log.length≤2400∧k'.halves=k.halves
theorem Sm.ks {k k':aN} (h:Sm k' k) (hk:KSm k):KSm k':=⟨h.1,by rw[h.2];exact hk.2.1,by rw[h.2];exact hk.2.2⟩
theorem Sm.refl {k:aN} (h:k.log.length≤2400):Sm k k:=⟨h,rfl⟩
set_option linter.unusedVariables false
set_option linter.unusedSimpArgs false
section
variable {P:Program} {T:fT} {o:Oper} {σ σ1:St} {x:Operand} {t e:TypeId} {s1 s2 d j es n:Nat} {s3:List C} {Z:lf} {R:List (cL×Option K)} {g:Bool} {k:List (cL×Option K)→V→Prop}
end
structure WOk (ks:List aN) (ls:List Bool) (a b c:Nat):Prop where
 four:ks.length=4
 small: ∀k∈ks,KSm k
 three:ls.length=3
 ra:a≤30
 rb:b≤6
 rc:c≤6
theorem WOk.at {ks:List aN} {ls:List Bool} {a b c i:Nat} (h:WOk ks ls a b c) (hi:i<4):KSm (ks.getD i .zero):=h.small _ (dO (by rw[h.four];exact hi))
theorem WOk.set {ks:List aN} {ls:List Bool} {a b c:Nat} (h:WOk ks ls a b c) {k:aN} (hk:KSm k) (i:Nat):WOk (ks.set i k) ls a b c:=
 ⟨by rw[List.length_set];exact h.four,fun x hx=>by rcases List.mem_or_eq_of_mem_set hx with hx|rfl;exact h.small x hx;exact hk,h.three,h.ra,h.rb,h.rc⟩
theorem WOk.to {ks:List aN} {ls:List Bool} {a b c a' b' c':Nat} (h:WOk ks ls a b c) (h1:a'≤30) (h2:b'≤6) (h3:c'≤6):WOk ks ls a' b' c':=⟨h.four,h.small,h.three,h1,h2,h3⟩
theorem WOk.links {ks:List aN} {ls ls':List Bool} {a b c:Nat} (h:WOk ks ls a b c) (h1:ls'.length=3):WOk ks ls' a b c:=⟨h.four,h.small,h1,h.ra,h.rb,h.rc⟩
set_option linter.unusedVariables false
set_option linter.unusedSimpArgs false
theorem vq {p:Prop} (h:p:=by first|exact True.intro|rfl|exact aNg rfl|exact⟨rfl,aNg rfl⟩|exact⟨by kernel_rfl,aNg (by kernel_rfl)⟩|omega|((repeat' apply And.intro)<;>first|trivial|rfl|exact aNg rfl|omega)|(simp;done)|(simp;omega)):p:=h
theorem s1 {p1 k:Prop} (x:k) (h1:p1:=by exact vq):p1∧k:=⟨h1,x⟩
theorem s2 {p1 p2 k:Prop} (x:k) (h1:p1:=by exact vq) (h2:p2:=by exact vq):p1∧p2∧k:=⟨h1,h2,x⟩
theorem s3 {p1 p2 p3 k:Prop} (x:k) (h1:p1:=by exact vq) (h2:p2:=by exact vq) (h3:p3:=by exact vq):p1∧p2∧p3∧k:=⟨h1,h2,h3,x⟩
theorem s4 {p1 p2 p3 p4 k:Prop} (x:k) (h1:p1:=by exact vq) (h2:p2:=by exact vq) (h3:p3:=by exact vq) (h4:p4:=by exact vq):p1∧p2∧p3∧p4∧k:=⟨h1,h2,h3,h4,x⟩
theorem s5 {p1 p2 p3 p4 p5 k:Prop} (x:k) (h1:p1:=by exact vq) (h2:p2:=by exact vq) (h3:p3:=by exact vq) (h4:p4:=by exact vq) (h5:p5:=by exact vq):p1∧p2∧p3∧p4∧p5∧k:=⟨h1,h2,h3,h4,h5,x⟩
theorem s6 {p1 p2 p3 p4 p5 p6 k:Prop} (x:k) (h1:p1:=by exact vq) (h2:p2:=by exact vq) (h3:p3:=by exact vq) (h4:p4:=by exact vq) (h5:p5:=by exact vq) (h6:p6:=by exact vq):p1∧p2∧p3∧p4∧p5∧p6∧k:=⟨h1,h2,h3,h4,h5,h6,x⟩
theorem s7 {p1 p2 p3 p4 p5 p6 p7 k:Prop} (x:k) (h1:p1:=by exact vq) (h2:p2:=by exact vq) (h3:p3:=by exact vq) (h4:p4:=by exact vq) (h5:p5:=by exact vq) (h6:p6:=by exact vq) (h7:p7:=by exact vq):p1∧p2∧p3∧p4∧p5∧p6∧p7∧k:=⟨h1,h2,h3,h4,h5,h6,h7,x⟩
theorem s8 {p1 p2 p3 p4 p5 p6 p7 p8 k:Prop} (x:k) (h1:p1:=by exact vq) (h2:p2:=by exact vq) (h3:p3:=by exact vq) (h4:p4:=by exact vq) (h5:p5:=by exact vq) (h6:p6:=by exact vq) (h7:p7:=by exact vq) (h8:p8:=by exact vq):p1∧p2∧p3∧p4∧p5∧p6∧p7∧p8∧k:=⟨h1,h2,h3,h4,h5,h6,h7,h8,x⟩
theorem s9 {p1 p2 p3 p4 p5 p6 p7 p8 p9 k:Prop} (x:k) (h1:p1:=by exact vq) (h2:p2:=by exact vq) (h3:p3:=by exact vq) (h4:p4:=by exact vq) (h5:p5:=by exact vq) (h6:p6:=by exact vq) (h7:p7:=by exact vq) (h8:p8:=by exact vq) (h9:p9:=by exact vq):p1∧p2∧p3∧p4∧p5∧p6∧p7∧p8∧p9∧k:=⟨h1,h2,h3,h4,h5,h6,h7,h8,h9,x⟩
theorem y1 {w1 p1 q1 k:Prop} (x:k) (h1:w1→p1:=by intro _;exact vq) (j1:q1:=by exact rk): (w1→p1)∧q1∧k:=⟨h1,j1,x⟩
theorem y2 {w1 p1 q1 w2 p2 q2 k:Prop} (x:k) (h1:w1→p1:=by intro _;exact vq) (j1:q1:=by exact rk) (h2:w2→p2:=by intro _;exact vq) (j2:q2:=by exact rk): (w1→p1)∧q1∧(w2→p2)∧q2∧k:=⟨h1,j1,h2,j2,x⟩
theorem y3 {w1 p1 q1 w2 p2 q2 w3 p3 q3 k:Prop} (x:k) (h1:w1→p1:=by intro _;exact vq) (j1:q1:=by exact rk) (h2:w2→p2:=by intro _;exact vq) (j2:q2:=by exact rk) (h3:w3→p3:=by intro _;exact vq) (j3:q3:=by exact rk): (w1→p1)∧q1∧(w2→p2)∧q2∧(w3→p3)∧q3∧k:=⟨h1,j1,h2,j2,h3,j3,x⟩
theorem y4 {w1 p1 q1 w2 p2 q2 w3 p3 q3 w4 p4 q4 k:Prop} (x:k) (h1:w1→p1:=by intro _;exact vq) (j1:q1:=by exact rk) (h2:w2→p2:=by intro _;exact vq) (j2:q2:=by exact rk) (h3:w3→p3:=by intro _;exact vq) (j3:q3:=by exact rk) (h4:w4→p4:=by intro _;exact vq) (j4:q4:=by exact rk): (w1→p1)∧q1∧(w2→p2)∧q2∧(w3→p3)∧q3∧(w4→p4)∧q4∧k:=⟨h1,j1,h2,j2,h3,j3,h4,j4,x⟩
section
variable {P:Program} {σ σ1 σin:St} {o:Oper} {f n:Nat} {X:V}
def aCu (σ:St) (o:Oper) (f n:Nat) (σin:St) (X:V) (k:List (cL×Option K)→Tmp→Prop):Prop:=match o.op,o.dst with
 | .call c,some d=>match c.callee,kz σ c.args.toList with
  | .value (.func f'),some (Xs,Ra)=>match Nat.beq f' f&&(Nat.beq Xs.length n&&(Xs.all lB&&lB X)) with
   |true=>σin=dA 0 Xs∧k Ra d
   |false=>False
  |_,_=>False
 |_,_=>False
theorem oh {k:List (cL×Option K)→Tmp→Prop} (h:aCu σ o f n σin X k): ∃c d Xs Ra,o.op= .call c∧c.callee= .value (.func f)∧o.dst=some d∧kz σ c.args.toList=some (Xs,Ra)∧Xs.length=n∧σin=dA 0 Xs∧Xs.all lB=true∧lB X=true∧k Ra d:=by
 unfold aCu at h
 split at h<;>try exact h.elim
 rename_i c d ho hd
 split at h<;>try exact h.elim
 rename_i f' Xs Ra hc hx
 split at h<;>try exact h.elim
 rename_i hb
 simp only[aNi] at hb
 obtain⟨h1,h2,h3,h4⟩:=hb
 have h1:=Nat.eq_of_beq_eq_true h1
 subst h1
 exact⟨c,d,Xs,Ra,ho,hc,hd,hx,Nat.eq_of_beq_eq_true h2,h.1,h3,h4,h.2⟩
theorem xp {k:List (cL×Option K)→List (cL×K)→Prop} (hs:Spec P f n σin [(.t 0,.v X)]) (h:aCu σ o f n σin X fun Ra d=>k Ra [(.t d,.v X)]): ∃R W,xH P o R W∧bX R σ∧k R W:=by
 obtain⟨c,d,Xs,Ra,h1,h2,h3,h4,h5,h6,h7,h8,h9⟩:=oh h
 exact ck hs h1 h2 h3 h4 h5 h6 h7 h8 h9
theorem xc {g:Bool} {d:Tmp} {k:List (cL×Option K)→V→Prop} (hs:g=true→Spec P f n σin [(.t 0,.v X)]) (h:aCu σ1 o f n σin X fun Ra d'=>match Nat.beq d' d with|true=>(g=true→oE σ Ra)∧k Ra X|false=>False): ∃R X,(g=true→xH P o R [(.t d,.v X)]∧bX R σ1)∧(g=true→oE σ R)∧k R X:=by
 obtain⟨c,d',Xs,Ra,h1,h2,h3,h4,h5,h6,h7,h8,h9⟩:=oh h
 split at h9
 · rename_i hb
   have hb:=Nat.eq_of_beq_eq_true hb
   subst hb
   exact aFn hs h1 h2 h3 h4 h5 h6 h7 h8 h9.1 h9.2
 · exact h9.elim
end
section
variable {P:Program} {io:List Nat} {Q:Ex→St→Prop} {s σ':St} {rl:List (Nat×Nat)} {bor:List Nat}
theorem wq {J:St→Prop} (rl:List (Nat×Nat)) (bor:List Nat) (h:J σ') (h1:qL s σ' rl bor σ') (h2:xQ σ' rl bor=true:=by rfl) (h3:vM io σ' rl bor=true:=by rfl):WK io J s:=Ab.wk σ' rl bor h (qs h1) h2 h3
theorem wa {c:Code} (σ':St) (rl:List (Nat×Nat)) (bor:List Nat) (h1:qL s σ' rl bor σ') (h:SW P io c Q σ') (h2:xQ σ' rl bor=true:=by rfl) (h3:vM io σ' rl bor=true:=by rfl):SW P io c Q s:=SW.weaken σ' rl bor ⟨qs h1,h2⟩ h3 h
theorem rq {T:fT} {rs:List ResultVar} {X:V} (rl:List (Nat×Nat)) (bor:List Nat) (h1:aAo T s rs=some X) (h2:qL ((.t 0,.v X)::cT s) σ' rl bor σ') (h3:xQ σ' rl bor=true:=by rfl) (h4:lv io σ' rl bor=true:=by rfl):uK T io rs σ' s:=fV X rl bor h1 (qs h2) h3 h4
theorem sq {x y:Code} (h:SW P io x (ja (SW P io y Q) Q) s):SW P io (.seq x y) Q s:=SW.seq h
theorem sk (h:Q .norm s):SW P io .skip Q s:=SW.skip h
theorem bk {id:Nat} {c:Code} (h:SW P io c (aAm id Q) s):SW P io (.block id c) Q s:=SW.block h
theorem xt {id:Nat} (h:Q (.exit id) s):SW P io (.exit id) Q s:=SW.exit h
theorem rt (h:Q .ret s):SW P io .ret Q s:=SW.ret h
theorem cd {c:Operand} {x y:Code} {t:Bool} {R:List (cL×Option K)} (hc:ev s c=some (B t,R)) (h1:t=true→SW P io x Q s) (h2:t=false→SW P io y Q s):SW P io (.cond c x y) Q s:=SW.cond hc h1 h2
end
theorem qx {p:Prop} (h:p:=by first|exact True.intro|with_reducible rfl|exact aM8):p:=h
theorem qz {p:Prop} (h:p:=by(repeat' apply ai)<;>first|exact True.intro|with_reducible rfl|exact aM8|rfl|(simp;done)|omega):p:=h
abbrev tI (s:Nat) (x:Int):cL×K:=(.t s,.v (I x))
abbrev tB (s:Nat) (x:Bool):cL×K:=(.t s,.v (B x))
abbrev tD (s:Nat) (x:D):cL×K:=(.t s,.v (Dv x))
abbrev tP (s o:Nat):cL×K:=(.t s,.v (.e (.c (.pt o 0))))
abbrev tO (s o n:Nat):cL×K:=(.t s,.v (.e (.c (.own o n))))
abbrev tV (s:Nat) (x:V):cL×K:=(.t s,.v x)
abbrev oB (o:Nat) (t:TypeId) (cs:List C):cL×K:=(.o o,.box t cs)
abbrev oR (o:Nat) (t:TypeId) (n:Nat) (r:List (List D)):cL×K:=(.o o,.row t n r)
end Go.Ab
namespace Go.Proofs.YtmabaopgkimfmaaGreatDoor
open Int renaming toNat_natCast→aNf
open Nat renaming le_of_ble_eq_true→aNg,zero_le→aNj,le_refl→aNp
open List renaming length_append→aNh,length_cons→aNk,length_nil→aNl,getD_eq_getElem?_getD→aNm,length_take→aNn,getElem?_eq_getElem→aNo,getElem?_eq_some_iff→aNq,mem_map→aNr,mem_cons→aNs,all_eq_true→aNt,range→aNu,length_drop→aNv
open Bool renaming and_eq_true→aNi
open Go Go.Ab Go.RowKit
set_option linter.unusedVariables false
abbrev Sp:=Ab.Spec Tryz.prog
abbrev wu:=Ab.SpecE Tryz.prog
theorem mo:Tryz.prog.follows .mixedOrders=true:=by kernel_rfl
theorem rT {io:List Nat} {Q:Ex→St→Prop} {σ:St} (ks:List Nat) {id:Nat} {ops:Array Oper} (h:goC Tryz.prog tab ops.toList false ops.toList σ [] fun σ' _=>rV ks σ' (Q .norm)):SW Tryz.prog io (.region id ops false) Q σ:=SW.regT jE ks h
theorem rD {io:List Nat} {Q:Ex→St→Prop} {σ:St} (ks:List Nat) {id:Nat} {ops:Array Oper} (h:goC Tryz.prog tab ops.toList true ops.toList σ [] fun σ' ns=>gg ops.toList ns=true∧rV ks σ' (Q .norm)):SW Tryz.prog io (.region id ops true) Q σ:=SW.regD jE mo ks h
theorem rE {io:List Nat} {Q:Ex→St→Prop} {σ:St} (ks:List Nat) {id:Nat} {ops:Array Oper} (h:goE Tryz.prog tab io ops.toList ops.toList σ fun σ'=>rV ks σ' (Q .norm)):SW Tryz.prog io (.region id ops false) Q σ:=SW.regE jE ks h
theorem sb {f:FuncId} {fn:Func} {c:Code} {n:Nat} {σin:St} {σout:St} (hf:Tryz.prog.funcs[f]? =some fn) (hb:fn.body=some c) (h:SW Tryz.prog ((bO σin).filter fun o=>gW o (bO σout)) c (aIq tab ((bO σin).filter fun o=>gW o (bO σout)) fn.results.toList σout) σin) (hname: (fn.name== "runtime.NumGoroutine")=false:=by kernel_rfl) (hn:n≤fn.ntmps:=by decide) (hfit:qP fn.ntmps c=true:=by kernel_rfl) (hsl:oA n σin=true:=by rfl):Sp f n σin σout:=uu jE hf hb hname hn hfit hsl h
theorem zf {f:FuncId} {fn:Func} {c:Code} {n:Nat} {σin:St} {Qo:St→Prop} (hf:Tryz.prog.funcs[f]? =some fn) (hb:fn.body=some c) (h:SW Tryz.prog (bO σin) c (aA8 tab (bO σin) fn.results.toList Qo) σin) (hname: (fn.name== "runtime.NumGoroutine")=false:=by kernel_rfl) (hn:n≤fn.ntmps:=by decide) (hfit:qP fn.ntmps c=true:=by kernel_rfl) (hsl:oA n σin=true:=by rfl):wu f n σin Qo:=qd jE hf hb hname hn hfit hsl h
end Go.Proofs.YtmabaopgkimfmaaGreatDoor
namespace Go.Ab
open Int renaming toNat_natCast→aNf
open Nat renaming le_of_ble_eq_true→aNg,zero_le→aNj,le_refl→aNp
open List renaming length_append→aNh,length_cons→aNk,length_nil→aNl,getD_eq_getElem?_getD→aNm,length_take→aNn,getElem?_eq_getElem→aNo,getElem?_eq_some_iff→aNq,mem_map→aNr,mem_cons→aNs,all_eq_true→aNt,range→aNu,length_drop→aNv
open Bool renaming and_eq_true→aNi
open Go Go.RowKit
set_option linter.unusedVariables false
set_option linter.unusedSimpArgs false
def gz (T:fT) (sz:Nat):Nat→List (Nat×TypeId)→Bool
 |off,[]=>Nat.beq off sz
 |off,p::r=>Nat.beq p.1 off&&(match T p.2 with|some fi=>gz T sz (off+fi.size) r|none=>false)
def bj (T:fT):Nat→TypeId→Bool
 |0,_=>false
 |n+1,t=>match T t with
  |none=>false
  |some ti=>match ti.kind with
   | .int .i64=>true
   | .int .u8=>true
   | .bool=>true
   | .str=>true
   | .sl e=>bj T n e
   | .st fs=>gz T ti.size 0 fs&&fs.all fun p=>bj T n p.2
   |_=>false
def oL (T:fT) (B:Nat):Nat→TypeId→List D→Prop
 |0,_,_=>False
 |n+1,t,ds=>match T t with
  |none=>False
  |some ti=>match ti.kind with
   | .int .i64=> ∃x,ds=[.i x]∧(Lit.int .i64 x).wf=true
   | .int .u8=> ∃x,ds=[.u x]∧(Lit.int .u8 x).wf=true
   | .bool=> ∃b,ds=[.b b]
   | .str=> ∃l,ds=[.s l]∧l.length≤B
   | .sl e=> ∃rows,ds=[.sl rows]∧(match T e with|some ei=>rows.length*ei.bytes≤B|none=>False)∧ ∀r∈rows,oL T B n e r
   | .st fs=>ds.length=ti.size∧ ∀p∈fs,match T p.2 with|some fi=>oL T B n p.2 ((ds.drop p.1).take fi.size)|none=>False
   |_=>False
section
variable {H:Type} {enc:TypeId×Value→H} {P:Program} {W:World} {sp:Nat→Bool} {held:Bool} {T:fT} {B:Nat}
theorem bl (hT:dL P T) {t:TypeId} {ti:TI} (h:T t=some ti):P.cellsOf t=ti.size∧P.bytesOf t=ti.bytes:=by
 obtain⟨i,z,hi,h1,h2,_⟩:=(hT t ti h).info
 exact⟨by simp[Program.cellsOf,hi,h1],by simp[Program.bytesOf,hi,h2]⟩
theorem aIg {a:Addr} {v:Value} (h:W.cell? a=some v):a.block<W.heap.size:=by
 unfold World.cell? at h
 cases hq:W.heap[a.block]? with
 |none=>rw[hq] at h;simp at h
 |some o=>exact(Array.getElem?_eq_some_iff.1 hq).1
theorem zg {base:Nat} {a:Addr} {n:Nat} {cs:List Value} (h:W.cells? base a n=some cs):cs.length=n∧ ∀(k:Nat) v,cs[k]? =some v→W.cell? (a.add k)=some v:=by
 unfold World.cells? at h
 split at h
 · have key: ∀(l:List Nat) (cs:List Value),l.mapM (fun i=>W.cell? (a.add i))=some cs→cs.length=l.length∧ ∀(k:Nat) v,cs[k]? =some v→ ∃i,l[k]? =some i∧W.cell? (a.add i)=some v:=by
    intro l
    induction l with
    |nil=>intro cs h;simp at h;subst h;exact⟨rfl,by simp⟩
    |cons x r ih=>
     intro cs h
     rw[List.mapM_cons] at h
     obtain⟨v,h1,h⟩:=Option.bind_eq_some_iff.1 h
     obtain⟨vs,h2,h⟩:=Option.bind_eq_some_iff.1 h
     cases h
     obtain⟨q1,q2⟩:=ih vs h2
     refine⟨by simp[q1],fun k u hu=> ?_⟩
     cases k with
     |zero=>simp at hu;subst hu;exact⟨x,rfl,h1⟩
     |succ k=>simpa using q2 k u (by simpa using hu)
   obtain⟨q1,q2⟩:=key _ _ h
   refine⟨by simpa using q1,fun k v hv=> ?_⟩
   obtain⟨i,h1,h2⟩:=q2 k v hv
   have:=(aNq.1 h1)
   obtain⟨h3,h4⟩:=this
   simp at h4
   rw[h4];exact h2
 · cases h
def SW0 (W:World):Nat→Prop:=fun b=>b<W.heap.size
def Rd (W:World) (ds:List D) (cs:List Value):Prop:=ds.length=cs.length∧ ∀(k:Nat) x v,ds[k]? =some x→cs[k]? =some v→DR W (SW0 W) x v
theorem Rd.one {x:D} {v:Value} (h:DR W (SW0 W) x v):Rd W [x] [v]:=⟨rfl,fun k y u h1 h2=>by
 cases k with
 |zero=>simp at h1 h2;subst h1;subst h2;exact h
 |succ k=>simp at h1⟩
theorem Rd.append {ds es:List D} {cs vs:List Value} (h:Rd W ds cs) (k:Rd W es vs):Rd W (ds++es) (cs++vs):=by
 refine⟨by simp[h.1,k.1],fun i x v h1 h2=> ?_⟩
 by_cases hi:i<ds.length
 · rw[List.getElem?_append_left hi] at h1
   rw[List.getElem?_append_left (by rw[← h.1];exact hi)] at h2
   exact h.2 i x v h1 h2
 · rw[List.getElem?_append_right (by omega)] at h1
   rw[List.getElem?_append_right (by rw[← h.1];omega),← h.1] at h2
   exact k.2 _ x v h1 h2
def aGg (enc:TypeId×Value→H) (P:Program) (W:World) (sp:Nat→Bool) (held:Bool) (T:fT) (B N:Nat) (t:TypeId):Prop:=
 ∀fuel cs d ps,DataW.trod enc P W 0 sp held fuel t cs=some (d,ps)→(d.weights P t).all (· ≤B)=true→ ∃ds,Rd W ds cs∧oL T B N t ds
theorem ec (hT:dL P T) {N sz fuel:Nat}: ∀(fs:List Field) (off:Nat) (cs:List Value) (xs:List (DataW H×List MemPlace)),gz T sz off (fs.map fun f=>(f.offset,f.type))=true→cs.length=sz→off≤sz→
 (∀f∈fs,aGg enc P W sp held T B N f.type)→fs.mapM (fun f=>DataW.trod enc P W 0 sp held fuel f.type ((cs.drop f.offset).take (P.cellsOf f.type)))=some xs→(DataW.weightsEach P (fs.map (·.type)) (xs.map (·.1))).all (· ≤B)=true→
 ∃ds,Rd W ds (cs.drop off)∧ ∀p∈fs.map (fun f=>(f.offset,f.type)),off≤p.1∧match T p.2 with|some fi=>oL T B N p.2 ((ds.drop (p.1 - off)).take fi.size)|none=>False
 | [],off,cs,xs,ht,hl,ho,_,_,_=>by
  have:off=sz:=Nat.eq_of_beq_eq_true ht
  exact⟨[],by rw[List.drop_eq_nil_of_le (by omega)];exact⟨rfl,by simp⟩,by simp⟩
 |f::fs,off,cs,xs,ht,hl,ho,hop,hm,hw=>by
  simp only[List.map_cons,gz,aNi] at ht
  obtain⟨h1,h2⟩:=ht
  have h1:=Nat.eq_of_beq_eq_true h1
  cases hf:T f.type with
  |none=>rw[hf] at h2;cases h2
  |some fi=>
   rw[hf] at h2
   simp only at h2
   rw[List.mapM_cons] at hm
   obtain⟨x,hx,hm⟩:=Option.bind_eq_some_iff.1 hm
   obtain⟨ys,hy,hm⟩:=Option.bind_eq_some_iff.1 hm
   cases hm
   obtain⟨hc1,hc2⟩:=bl hT hf
   simp only[List.map_cons,DataW.weightsEach,List.all_append,aNi] at hw
   obtain⟨ds,hr,hty⟩:=hop f (List.mem_cons_self ..) _ _ _ _ hx hw.1
   have hoff:off+fi.size≤sz:=by
    have key: ∀(l:List (Nat×TypeId)) (o:Nat),gz T sz o l=true→o≤sz:=by
     intro l
     induction l with
     |nil=>intro o h;exact Nat.le_of_eq (Nat.eq_of_beq_eq_true h)
     |cons p r ih=>
      intro o h
      simp only[gz,aNi] at h
      cases hq:T p.2 with
      |none=>rw[hq] at h;cases h.2
      |some qi=>rw[hq] at h;have:=ih _ h.2;omega
    exact key _ _ h2
   obtain⟨es,hr2,hty2⟩:=ec hT fs (off+fi.size) cs ys h2 hl hoff (fun g hg=>hop g (List.mem_cons_of_mem _ hg)) hy hw.2
   rw[hc1,h1] at hr
   have hdl:ds.length=fi.size:=by rw[hr.1,aNn,aNv];omega
   refine⟨ds++es,?_,fun p hp=> ?_⟩
   · have e:cs.drop off=(cs.drop off).take fi.size++cs.drop (off+fi.size):=by
      rw[← List.drop_drop,List.take_append_drop]
     rw[e];exact hr.append hr2
   · rcases aNs.1 hp with rfl|hp
     · refine⟨Nat.le_of_eq h1.symm,?_⟩
       simp only[hf,h1,Nat.sub_self,List.drop_zero]
       rw[List.take_append_of_le_length (by omega),← hdl,List.take_length];exact hty
     · obtain⟨q1,q2⟩:=hty2 p hp
       refine⟨by omega,?_⟩
       cases hq:T p.2 with
       |none=>rw[hq] at q2;exact q2
       |some qi=>
        rw[hq] at q2
        simp only at q2 ⊢
        rw[List.drop_append,List.drop_eq_nil_of_le (by omega),List.nil_append,hdl,show p.1 - off - fi.size=p.1 - (off+fi.size) by omega]
        exact q2
theorem yM {e:TypeId}: ∀{l:List (DataW H)},(DataW.weightsAll P e l).all (· ≤B)=true→ ∀d∈l,(d.weights P e).all (· ≤B)=true
 | [],_,d,hd=>by cases hd
 |x::r,h,d,hd=>by
  simp only[DataW.weightsAll,List.all_append,aNi] at h
  rcases aNs.1 hd with rfl|hd
  · exact h.1
  · exact yM h.2 d hd
theorem bm (hT:dL P T): ∀(N:Nat) (t:TypeId),bj T N t=true→aGg enc P W sp held T B N t
 |0,t,h=>by cases h
 |N+1,t,h=>by
  intro fuel cs d ps htr hw
  unfold bj at h
  cases ht:T t with
  |none=>rw[ht] at h;cases h
  |some ti=>
   rw[ht] at h
   simp only at h
   have hok:=hT t ti ht
   have hk:=hok.kind
   cases fuel with
   |zero=>cases htr
   |succ fuel=>
    cases hkk:ti.kind with
    |int k=>
     rw[hkk] at h hk
     simp only[lW] at hk
     unfold DataW.trod at htr
     rw[hk] at htr
     split at htr<;>rename_i he<;>try(cases he;done)
     · rename_i _ _ kk mm
       cases he
       split at htr
       · rename_i hc
         cases htr
         obtain⟨rfl,hwf⟩:=hc
         cases kk<;>try(cases h;done)
         · exact⟨[.i mm],.one (.i _),by unfold oL;simp only[ht,hkk];exact⟨_,rfl,hwf⟩⟩
         · exact⟨[.u mm],.one (.u _),by unfold oL;simp only[ht,hkk];exact⟨_,rfl,hwf⟩⟩
       · cases htr
     all_goals cases htr
    |bool=>
     rw[hkk] at hk
     simp only[lW] at hk
     unfold DataW.trod at htr
     rw[hk] at htr
     split at htr<;>rename_i he<;>try(cases he;done)
     · cases htr
       exact⟨[.b _],.one (.b _),by unfold oL;simp only[ht,hkk];exact⟨_,rfl⟩⟩
     all_goals cases htr
    |str=>
     rw[hkk] at hk
     simp only[lW] at hk
     unfold DataW.trod at htr
     rw[hk] at htr
     split at htr<;>rename_i he<;>try(cases he;done)
     · rename_i _ s
       split at htr
       · cases htr
         refine⟨[.s s.data.toList],.one (.s _),?_⟩
         unfold oL;simp only[ht,hkk]
         exact⟨_,rfl,by simpa[DataW.weights] using hw⟩
       · cases htr
     all_goals cases htr
    |sl e=>
     rw[hkk] at h hk
     simp only[lW] at hk
     simp only at h
     have hih:=bm hT N e h
     cases he:T e with
     |none=>cases N with
      |zero=>cases h
      |succ N=>unfold bj at h;rw[he] at h;cases h
     |some ei=>
      obtain⟨hc1,hc2⟩:=bl hT he
      have hep:=(hT e ei he).pos
      rcases Deep.open_slice hk htr with⟨rfl,hx⟩|⟨a,len,cap,m,n,Df,Pl,rfl,hb,hl,hm,hmm,hx,hel⟩
      · refine⟨[.sl []],.one (.sl [] none 0 0 ⟨0,0,none⟩ (fun _ _=>undef) (by simp) (by simp[maxLen]) (by simp) (by simp) (by simp) (by simp)),?_⟩
        unfold oL;simp only[ht,hkk]
        exact⟨[],rfl,by simp[he],by simp⟩
      · cases hx
        simp only[DataW.weights,hk,List.all_cons,List.all_append,aNi,aD,List.length_map,List.length_range] at hw
        have hlm:len≤m:=by rw[hmm];split<;>omega
        have hrow: ∀i,i<len→ ∃r,(∃cs',W.cells? 0 (a.add (i*ei.size)) ei.size=some cs'∧Rd W r cs')∧oL T B N e r:=by
         intro i hi
         obtain⟨cs',h1,h2⟩:=hel i (by omega)
         rw[hc1] at h1
         obtain⟨r,q1,q2⟩:=hih _ _ _ _ h2 (yM hw.2.1 _ (aNr.2 ⟨i,List.mem_range.2 hi,rfl⟩))
         exact⟨r,⟨cs',h1,q1⟩,q2⟩
        obtain⟨rf,hrf⟩: ∃rf:Nat→List D,∀i,i<len→(∃cs',W.cells? 0 (a.add (i*ei.size)) ei.size=some cs'∧Rd W (rf i) cs')∧oL T B N e (rf i):=
         ⟨fun i=>if hi:i<len then Classical.choose (hrow i hi) else [],fun i hi=>by dsimp only;rw[dif_pos hi];exact Classical.choose_spec (hrow i hi)⟩
        have hget: ∀(i:Nat) r,((aNu len).map rf)[i]? =some r→i<len∧r=rf i:=by
         intro i r hr
         rw[List.getElem?_map] at hr
         by_cases hi:i<len
         · rw[List.getElem?_range hi] at hr;simp at hr;exact⟨hi,hr.symm⟩
         · rw[List.getElem?_eq_none (by simpa using hi)] at hr;cases hr
        have hlen: ∀i,i<len→(rf i).length=ei.size:=by
         intro i hi
         obtain⟨⟨cs',h1,h2⟩,_⟩:=hrf i hi
         rw[h2.1,(zg h1).1]
        have hcell: ∀i,i<len→ ∀(k:Nat) x,(rf i)[k]? =some x→ ∃v,W.cell? (a.add (i*ei.size+k))=some v∧DR W (SW0 W) x v:=by
         intro i hi k x hx
         obtain⟨⟨cs',h1,h2⟩,_⟩:=hrf i hi
         have hk':k<cs'.length:=by rw[← h2.1];exact(aNq.1 hx).1
         refine⟨cs'[k],?_,h2.2 k x _ hx (aNo hk')⟩
         have:=(zg h1).2 k _ (aNo hk')
         rwa [Deep.add_add] at this
        refine⟨[.sl ((aNu len).map rf)],.one ?_,?_⟩
        · have e1: ((aNu len).map rf).length=len:=by simp
          have:=DR.sl (w:=W) (S:=SW0 W) ((aNu len).map rf) (some a) cap ei.size a (fun i k=>(W.cell? (a.add (i*ei.size+k))).getD undef) (by rw[e1];exact hl) hm
           (fun r hr=>by obtain⟨i,hi,rfl⟩:=aNr.1 hr;exact hlen i (List.mem_range.1 hi)) (fun _=>rfl)
           (fun i r k d hi hk=>by
            obtain⟨h1,rfl⟩:=hget i r hi
            obtain⟨v,h2,h3⟩:=hcell i h1 k d hk
            have hb: (a.add (i*ei.size+k)).block=a.block:=by unfold Addr.add;split<;>rfl
            exact⟨by have:=aIg h2;rw[hb] at this;exact this,by rw[h2];rfl⟩)
           (fun i r k d hi hk=>by
            obtain⟨h1,rfl⟩:=hget i r hi
            obtain⟨v,h2,h3⟩:=hcell i h1 k d hk
            rw[h2];exact h3)
          rw[e1] at this;exact this
        · unfold oL;simp only[ht,hkk]
          refine⟨_,rfl,?_,fun r hr=> ?_⟩
          · simp only[he]
            rw[List.length_map,List.length_range,← hc2]
            have:=hw.1
            rw[Nat.add_mul] at this
            omega
          · obtain⟨i,hi,rfl⟩:=aNr.1 hr
            exact(hrf i (List.mem_range.1 hi)).2
    |st fs=>
     rw[hkk] at h hk
     simp only[lW] at hk
     obtain⟨fields,hu,hfs⟩:=hk
     simp only[aNi] at h
     unfold DataW.trod at htr
     rw[hu] at htr
     have htr: (if cs.length=P.cellsOf t then(fields.toList.mapM fun f=>DataW.trod enc P W 0 sp held fuel f.type ((cs.drop f.offset).take (P.cellsOf f.type))).map fun xs=>(DataW.agg (xs.map (·.1)),xs.flatMap (·.2)) else none)=some (d,ps):=htr
     split at htr
     · rename_i hcl
       obtain⟨xs,hxs,hmk⟩:=Option.map_eq_some_iff.1 htr
       cases hmk
       have hsz:=(bl hT ht).1
       simp only[DataW.weights,hu] at hw
       obtain⟨ds,h1,h2⟩:=ec hT fields.toList 0 cs xs (by rw[hfs];exact h.1) (by rw[hcl,hsz]) (aNj _)
        (fun f hf=>bm hT N f.type (by
         have:=aNt.1 h.2 (f.offset,f.type) (by rw[← hfs];exact aNr.2 ⟨f,hf,rfl⟩)
         exact this)) hxs hw
       refine⟨ds,by simpa using h1,?_⟩
       unfold oL;simp only[ht,hkk]
       refine⟨by have:=h1.1;simp at this;rw[this,hcl,hsz],fun p hp=> ?_⟩
       rw[← hfs] at hp
       have:=(h2 p hp).2
       simpa using this
     · cases htr
    |arr n e=>rw[hkk] at h;cases h
    |ptr e=>rw[hkk] at h;cases h
end
section
variable {H:Type} {enc:TypeId×Value→H} {P:Program} {W:World} {sp:Nat→Bool} {held:Bool} {T:fT} {B:Nat}
theorem hP (hT:dL P T) (N:Nat) {t:TypeId} {ti:TI} (ht:T t=some ti) (hd:bj T N t=true) {v:Value} {d:DataW H} {ps:List MemPlace} {r:Reach} {base:Nat} (h:DataW.Trod enc P W 0 sp held t v d ps) (hv:Value.okWide P W r base t v) (hw: (d.weights P t).all (· ≤B)=true):
 ∃ds,oL T B N t ds∧(ti.kind.agg=true→ ∀σ ι,kZ σ ι W (SW0 W) (.e (.agg (ds.map C.d))) v)∧(ti.kind.agg=false→ ∃x,ds=[x]∧ ∀σ ι,kZ σ ι W (SW0 W) (Dv x) v):=by
 obtain⟨fuel,hf⟩:=h
 obtain⟨ds,h1,h2⟩:=bm hT N t hd _ _ _ _ hf hw
 refine⟨ds,h2,fun ha=> ?_,fun ha=> ?_⟩
 · have hk:=(hT t ti ht).kind
   have hcs: ∃cs,v= .agg cs:=by
    cases hkk:ti.kind<;>rw[hkk] at ha hk<;>simp only[TK.agg] at ha<;>try(cases ha;done)
    · simp only[lW] at hk
      obtain⟨fields,hu,_⟩:=hk
      obtain⟨cs,hcs,_⟩:=WideShapes.okWide_struct hu hv
      exact⟨cs,hcs⟩
    · cases N with
      |zero=>cases hd
      |succ N=>unfold bj at hd;rw[ht] at hd;simp only[hkk] at hd;cases hd
   obtain⟨cs,rfl⟩:=hcs
   intro σ ι
   have h1:Rd W ds cs.toList:=h1
   refine⟨cs.toList,by simp,by rw[List.length_map,h1.1],fun k c u hc hu=> ?_⟩
   rw[List.getElem?_map] at hc
   cases hq:ds[k]? with
   |none=>rw[hq] at hc;cases hc
   |some x=>rw[hq] at hc;cases hc;exact h1.2 k x u hq hu
 · have hk:=(hT t ti ht).kind
   have hone:v.cells.toList=[v]:=by
    cases hkk:ti.kind<;>rw[hkk] at ha hk<;>simp only[TK.agg] at ha<;>try(cases ha;done)
    all_goals simp only[lW] at hk
    · obtain⟨n,rfl⟩:=WideShapes.okWide_int hk hv;rfl
    · obtain⟨n,rfl⟩:=WideShapes.okWide_bool hk hv;rfl
    · obtain⟨n,rfl⟩:=WideShapes.okWide_string hk hv;rfl
    · obtain⟨a,l,c,rfl⟩:=WideShapes.okWide_slice hk hv;rfl
    · obtain⟨a,rfl⟩:=WideShapes.okWide_pointer hk hv;rfl
   rw[hone] at h1
   match ds,h1.1 with
   | [x],_=>exact⟨x,rfl,fun σ ι=>h1.2 0 x v rfl rfl⟩
theorem lT (hgb:GB P W fun _=>False) {f:FuncId} {n:Nat} {Xs:List V} (hs:Spec P f n (dA 0 Xs) [(.t 0,.v (Ab.B true))]) {args:Array Value} (hn:Xs.length=n) (hsz:args.size=n) (hX: ∀(i:Nat) X v,Xs[i]? =some X→args[i]? =some v→ ∀σ ι,kZ σ ι W (SW0 W) X v):
 Calls P f args W fun e W'=>e= .returned (.bool true)∧Below W.heap.size W W':=by
 have hlo: ∀o,aP (dA 0 Xs) (.o o)=none:=fun o=>by have:=gZ 0 Xs [] o;simpa[aP] using this
 have hvr:VR (dA 0 Xs) (fun _=>undef) (fun i=>(args[i]?).getD undef) (SW0 W) W:=by
  refine⟨fun s k hk=> ?_,(fun o k hk=>by rw[hlo] at hk;cases hk),fun o b hm=> ?_,fun o o' b hm=> ?_,fun b hb=>hb⟩
  · rcases qR 0 Xs [] s k (by simpa using hk) with⟨X,h1,rfl,_,h2⟩|h
    · have h3:s<args.size:=by omega
      have:args[s]? =some args[s]:=Array.getElem?_eq_getElem h3
      show kZ _ _ _ _ X ((args[s]?).getD undef)
      rw[this]
      exact hX s X _ (by simpa using h1) this _ _
    · cases h
  · obtain⟨⟨k,hk,_⟩,_⟩:=hm;rw[hlo] at hk;cases hk
  · obtain⟨⟨k,hk,_⟩,_⟩:=hm;rw[hlo] at hk;cases hk
 refine(hs.2 _ _ _ W args (hgb.weak fun b ⟨o,⟨k,hk,_⟩,_⟩=>by rw[hlo] at hk;cases hk) hvr hsz fun i hi=> ?_).mono fun e W' ⟨v,ι',S',he,hp⟩=> ?_
 · rw[Array.getElem?_eq_getElem (by omega)];rfl
 · have hv:=hp.vr.slots 0 (.v (Ab.B true)) rfl
   simp only[oU,kZ,ER,CR] at hv
   refine⟨?_,hp.fr.os,hp.fr.tape,hp.fr.output,hp.fr.size,fun k hk=>hp.fr.block k hk fun⟨o,⟨q,hq,_⟩,_⟩=>by rw[hlo] at hq;cases hq⟩
   rw[he];cases hv;rfl
end
end Go.Ab
