/- Plain functions, and contracts of the functions that the law reaches. -/
import Derived.Laws.StructEq
import Derived.Sort.Grow
import Derived.Deep.Draws
import Derived.Lib.Split
import Derived.Lib.IndexMore
import Derived.Lib.IndexBytes
import Derived.Lib.CountLaws
import Derived.Test.YtcbjphphppaoiaaGreatDoorB0
namespace Go.Ab
open Int renaming toNat_natCast→aSd
open List renaming length_append→aSe,length_nil→aSh,length_cons→aSi,length_take→aSk,getD_eq_getElem?_getD→aSl,getElem?_eq_some_iff→aSm,getElem?_eq_getElem→aSn,range→aSp,mem_map→aSq,length_drop→aSr,mem_singleton→aSs,all_eq_true→aSu,take_length→aSv,mem_cons→aSw
open Nat renaming le_of_ble_eq_true→aSf,zero_le→aSj,le_refl→aSo,add_mul→aSt
open Bool renaming and_eq_true→aSg
open Go Go.RowKit
set_option linter.unusedVariables false
set_option linter.unusedSimpArgs false
def keep (ks:List Nat):St→St
 | []=>[]
 |(.t s,k)::r=>match iH s ks with|true=>(.t s,k)::keep ks r|false=>keep ks r
 |(.o n,k)::r=>(.o n,k)::keep ks r
def pV (ks:List Nat):St→(St→Prop)→Prop
 | [],c=>c []
 |(.t s,k)::r,c=>match iH s ks with|true=>pV ks r fun r'=>c ((.t s,k)::r')|false=>pV ks r c
 |(.o n,k)::r,c=>pV ks r fun r'=>c ((.o n,k)::r')
theorem lN {ks:List Nat}: ∀{σ:St} {c:St→Prop},pV ks σ c↔c (keep ks σ)
 | [],c=>Iff.rfl
 |(.t s,k)::r,c=>by
  unfold pV keep
  cases iH s ks
  · exact lN
  · exact lN
 |(.o n,k)::r,c=>by unfold pV keep;exact lN
theorem mD (ks:List Nat): ∀(σ:St) (o:Nat),aS (keep ks σ) (.o o)=aS σ (.o o)
 | [],o=>rfl
 |(.t s,k)::r,o=>by
  unfold keep
  cases iH s ks
  · simp only[aS];rw[if_neg (by simp)];exact mD ks r o
  · simp only[aS];rw[if_neg (by simp),if_neg (by simp)];exact mD ks r o
 |(.o n,k)::r,o=>by
  unfold keep
  simp only[aS]
  rw[mD ks r o]
theorem uH (ks:List Nat): ∀(σ:St) (s:Nat) (k:K),aS (keep ks σ) (.t s)=some k→aS σ (.t s)=some k
 | [],s,k,h=>h
 |(.t a,x)::r,s,k,h=>by
  unfold keep at h
  cases hm:iH a ks with
  |false=>
   rw[hm] at h
   simp only[aS]
   by_cases e:a=s
   ·
    have hno: ∀(r:St),aS (keep ks r) (.t a)=none:=by
     intro r
     induction r with
     |nil=>rfl
     |cons p r ih=>
      obtain⟨l,y⟩:=p
      cases l with
      |o n=>unfold keep;simp only[aS];rw[if_neg (by simp)];exact ih
      |t b=>
       unfold keep
       cases hb:iH b ks with
       |false=>exact ih
       |true=>
        simp only[aS]
        by_cases e2:b=a
        · subst e2;rw[hm] at hb;cases hb
        · rw[if_neg (by simpa using e2)];exact ih
    subst e
    have h:aS (keep ks r) (.t a)=some k:=h
    rw[hno r] at h;cases h
   · rw[if_neg (by simpa using e)];exact uH ks r s k h
  |true=>
   rw[hm] at h
   simp only[aS] at h ⊢
   by_cases e:dD.t a=dD.t s
   · rw[if_pos e] at h ⊢; exact h
   · rw[if_neg e] at h ⊢; exact uH ks r s k h
 |(.o n,x)::r,s,k,h=>by
  unfold keep at h
  simp only[aS] at h ⊢
  rw[if_neg (by simp)] at h ⊢
  exact uH ks r s k h
theorem RW.keep (ks:List Nat) {P:Program} {cx:Cx P} {σ:St} {ι:Nat→Value} {S:Nat→Prop} {a:Act} {w:World} (h:RW cx σ ι S a w):RW cx (keep ks σ) ι S a w:=by
 have st:pR σ ι S w (Ab.keep ks σ) ι S w:=⟨fun _ h=>h,fun _ _=>rfl,fun o k hk=>⟨k,by rw[mD];exact hk,lZ.refl' _ _⟩⟩
 have hmut: ∀o b,jY (Ab.keep ks σ) ι o b↔jY σ ι o b:=fun o b=>by unfold jY;rw[mD]
 refine⟨⟨fun s x hx=>pS.step st (h.vr.slots s x (uH ks σ s _ hx)),fun o k hk=>OR.step st (fun _ _=>rfl) (h.vr.objs o k (by rw[← mD ks];exact hk)),fun o b q=>h.vr.mutS o b ((hmut o b).1 q),fun o o' b q q'=>h.vr.inj o o' b ((hmut o b).1 q) ((hmut o' b).1 q'),h.vr.sz⟩,
  h.size,h.defers,h.fr,fun o b q=>h.own o b ((hmut o b).1 q),h.rd,fun o k hk=>by rw[mD];exact h.io o k hk⟩
section
variable {P:Program} {io:List Nat} {Q:Ex→St→Prop} {σ:St}
theorem SW.keep (ks:List Nat) {c:Code} (h:pV ks σ (SW P io c Q)):SW P io c Q σ:=by
 rw[lN] at h
 intro cx ι S a w hio hw hf
 exact h cx ι S a w hio (hw.keep ks) hf
theorem SW.mid (J:St→Prop) {x y:Code} (h:SW P io x (ew J Q) σ) (hy: ∀s,J s→SW P io y Q s):SW P io (.seq x y) Q σ:=
 SW.seq (h.mono fun e s hq=>by
  cases e with
  |norm=>exact hy s hq
  |exit id=>exact hq
  |ret=>exact hq)
end
theorem eE {T:gB} {io:List Nat} {rs:List ResultVar} {σout s:St} (X:V) (rl:List (Nat×Nat)) (bor:List Nat) (h1:aDz T s rs=some X) (h2:mL ((.t 0,.v X)::dO s) σout rl bor σout) (h3:yC σout rl bor=true) (h4:oh io σout rl bor=true):yD T io rs σout s:=
 ⟨X,rl,bor,h1,⟨h2,h3⟩,h4⟩
theorem bQ {T:gB} {io:List Nat} {rs:List ResultVar} {s:St} {x y:D} (h1:aDz T s rs=some (Dv x)) (h2:x=y):yD T io rs [(.t 0,.v (Dv y))] s:=
 ⟨Dv x,[],[],h1,⟨⟨⟨Dv x,rfl,h2⟩,trivial⟩,rfl⟩,by simp[oh,bX];exact fun x _=> .inl rfl⟩
def gb (want x:Bool):Bool:=match want with|true=>x|false=> !x
def gOf (want:Bool):Option K→Option Bool
 |some (.v (.e (.c (.d (.b x)))))=>some (gb want x)
 |some (.cv _ _ b (.e (.c (.d (.b x)))))=>some (b&&gb want x)
 |_=>none
def iV (s:Nat) (want:Bool):St→St
 | []=>[]
 |(.t t,.cv s' want' b X)::r=>match Nat.beq s' s&&(want'==want) with
  |true=>(.t t,.v X)::iV s want r
  |false=>(.t t,.cv s' want' b X)::iV s want r
 |p::r=>p::iV s want r
def oX (σ:St):List (dD×Option K)→Prop
 | []=>True
 |p::r=>match aS σ p.1,p.2 with
  |some (.cv _ _ b _),some (.v _)=>b=true∧oX σ r
  |_,_=>oX σ r
def jm (σ:St) (R:List (dD×Option K)):List (dD×Option K):=R.map fun p=>(p.1,aS σ p.1)
theorem jA (s:Nat) (want:Bool): ∀(σ:St) (l:dD),aS (iV s want σ) l=aS σ l∨ ∃s' w' b X,aS σ l=some (.cv s' w' b X)∧aS (iV s want σ) l=some (.v X)
 | [],l=> .inl rfl
 |(.t t,.v X)::r,l=>by
  simp only[iV,aS]
  by_cases e:dD.t t=l
  · rw[if_pos e,if_pos e];exact .inl rfl
  · rw[if_neg e,if_neg e];exact jA s want r l
 |(.t t,.box a b)::r,l=>by
  simp only[iV,aS]
  by_cases e:dD.t t=l
  · rw[if_pos e,if_pos e];exact .inl rfl
  · rw[if_neg e,if_neg e];exact jA s want r l
 |(.t t,.row a b c)::r,l=>by
  simp only[iV,aS]
  by_cases e:dD.t t=l
  · rw[if_pos e,if_pos e];exact .inl rfl
  · rw[if_neg e,if_neg e];exact jA s want r l
 |(.t t,.dead)::r,l=>by
  simp only[iV,aS]
  by_cases e:dD.t t=l
  · rw[if_pos e,if_pos e];exact .inl rfl
  · rw[if_neg e,if_neg e];exact jA s want r l
 |(.t t,.zone a)::r,l=>by
  simp only[iV,aS]
  by_cases e:dD.t t=l
  · rw[if_pos e,if_pos e];exact .inl rfl
  · rw[if_neg e,if_neg e];exact jA s want r l
 |(.o t,k)::r,l=>by
  simp only[iV,aS]
  by_cases e:dD.o t=l
  · rw[if_pos e,if_pos e];exact .inl rfl
  · rw[if_neg e,if_neg e];exact jA s want r l
 |(.t t,.cv s' w' b X)::r,l=>by
  simp only[iV]
  cases Nat.beq s' s&&(w'==want) with
  |true=>
   simp only[aS]
   by_cases e:dD.t t=l
   · rw[if_pos e,if_pos e];exact .inr ⟨s',w',b,X,rfl,rfl⟩
   · rw[if_neg e,if_neg e];exact jA s want r l
  |false=>
   simp only[aS]
   by_cases e:dD.t t=l
   · rw[if_pos e,if_pos e];exact .inl rfl
   · rw[if_neg e,if_neg e];exact jA s want r l
theorem RW.reslot {P:Program} {cx:Cx P} {σ σ2:St} {ι:Nat→Value} {S:Nat→Prop} {a:Act} {w:World} (h:RW cx σ ι S a w) (ho: ∀o,aS σ2 (.o o)=aS σ (.o o)) (hs: ∀t k,aS σ2 (.t t)=some k→pS σ ι w S k (gZ a t)):RW cx σ2 ι S a w:=by
 have st:pR σ ι S w σ2 ι S w:=⟨fun _ h=>h,fun _ _=>rfl,fun o k hk=>⟨k,by rw[ho];exact hk,lZ.refl' _ _⟩⟩
 have hmut: ∀o b,jY σ2 ι o b↔jY σ ι o b:=fun o b=>by unfold jY;rw[ho]
 exact⟨⟨fun s x hx=>pS.step st (hs s x hx),fun o k hk=>OR.step st (fun _ _=>rfl) (h.vr.objs o k (by rw[← ho];exact hk)),fun o b q=>h.vr.mutS o b ((hmut o b).1 q),fun o o' b q q'=>h.vr.inj o o' b ((hmut o b).1 q) ((hmut o' b).1 q'),h.vr.sz⟩,
  h.size,h.defers,h.fr,fun o b q=>h.own o b ((hmut o b).1 q),h.rd,fun o k hk=>by rw[ho];exact h.io o k hk⟩
theorem ol {σ:St}: ∀{R:List (dD×Option K)},oX σ R→ ∀p∈R,∀s w b X Y,aS σ p.1=some (.cv s w b X)→p.2=some (.v Y)→b=true
 | [],_,p,hp=>by cases hp
 |q::r,h,p,hp=>by
  intro s w b X Y hl hy
  rcases aSw.1 hp with rfl|hp
  · simp only[oX,hl,hy] at h;exact h.1
  · refine ol (R:=r) ?_ p hp s w b X Y hl hy
    simp only[oX] at h
    split at h
    · exact h.2
    · exact h
theorem om {P:Program} {cx:Cx P} {σ:St} {ι:Nat→Value} {S:Nat→Prop} {a:Act} {w:World} (hw:RW cx σ ι S a w) {ops:Array Oper} {o:Oper} {j s:Nat} {want g:Bool} (hg:o.guard=some (j,want)) (hs: (ops[j]?).bind (·.dst)=some s) (hl:gOf want (aS σ (.t s))=some g):
 Region.wanted o (yielded ops a.tmps)=g:=by
 have key: ∀x,gZ a s= .bool x→yielded ops a.tmps j=some x:=by
  intro x h2
  have h3:a.tmps[s]? =some (.bool x):=by
   unfold gZ at h2
   rw[Array.getD_eq_getD_getElem?] at h2
   cases hq:a.tmps[s]? with
   |none=>rw[hq] at h2;simp[undef] at h2
   |some v=>rw[hq] at h2;simp at h2;rw[h2]
  simp[yielded,hs,h3]
 have keyu:gZ a s=undef→yielded ops a.tmps j=none:=by
  intro h2
  unfold gZ at h2
  rw[Array.getD_eq_getD_getElem?] at h2
  cases hq:a.tmps[s]? with
  |none=>simp[yielded,hs,hq]
  |some v=>rw[hq] at h2;simp at h2;simp[yielded,hs,hq,h2,undef]
 unfold gOf at hl
 split at hl
 · rename_i x hx
   cases hl
   have h1:=hw.vr.slots s _ hx
   simp only[pS,kU,ER,CR] at h1
   have h2:gZ a s= .bool x:=by generalize gZ a s=v at h1;cases h1;rfl
   cases want<;>cases x<;>simp[Region.wanted,hg,key _ h2,gb]
 · rename_i s' w' b x hx
   cases hl
   have h1:=hw.vr.slots s _ hx
   cases b with
   |true=>
    have h1:=h1.1 rfl
    simp only[kU,ER,CR] at h1
    have h2:gZ a s= .bool x:=by generalize gZ a s=v at h1;cases h1;rfl
    cases want<;>cases x<;>simp[Region.wanted,hg,key _ h2,gb]
   |false=>
    have h2:=h1.2 rfl
    simp[Region.wanted,hg,keyu h2]
 · cases hl
theorem jB (s:Nat) (want:Bool): ∀(σ:St) (o:Nat),aS (iV s want σ) (.o o)=aS σ (.o o)
 | [],l=>rfl
 |(.o t,k)::r,l=>by
  simp only[iV,aS]
  rw[jB s want r l]
 |(.t t,.v X)::r,l=>by simp only[iV,aS];rw[if_neg (by simp),if_neg (by simp)];exact jB s want r l
 |(.t t,.box a b)::r,l=>by simp only[iV,aS];rw[if_neg (by simp),if_neg (by simp)];exact jB s want r l
 |(.t t,.row a b c)::r,l=>by simp only[iV,aS];rw[if_neg (by simp),if_neg (by simp)];exact jB s want r l
 |(.t t,.dead)::r,l=>by simp only[iV,aS];rw[if_neg (by simp),if_neg (by simp)];exact jB s want r l
 |(.t t,.zone a)::r,l=>by simp only[iV,aS];rw[if_neg (by simp),if_neg (by simp)];exact jB s want r l
 |(.t t,.cv s' w' b X)::r,l=>by
  simp only[iV]
  cases Nat.beq s' s&&(w'==want)<;>(simp only[aS];rw[if_neg (by simp),if_neg (by simp)];exact jB s want r l)
theorem nn: ∀{W:List (dD×K)} {l:dD} {k:K},wr W l=some k→(l,k)∈W
 | [],l,k,h=>by cases h
 |p::r,l,k,h=>by
  unfold wr at h
  cases hq:wr r l with
  |some k'=>rw[hq] at h;cases h;exact List.mem_cons_of_mem _ (nn hq)
  |none=>
   rw[hq] at h
   simp only at h
   split at h
   · rename_i e;cases h;rw[← e];exact List.mem_cons_self ..
   · cases h
def aP7 (p:dD×Option K):Option (dD×K):=match p.2 with
 |some (.v X)=>some (p.1,.v X)
 |_=>none
theorem yq {P:Program} {ops:Array Oper} {o:Oper} {σ:St} {R:List (dD×Option K)} {X:V} {d j s:Nat} {want g:Bool} (hg:o.guard=some (j,want)) (hs: (ops[j]?).bind (·.dst)=some s) (hd:o.dst=some d) (hl:gOf want (aS σ (.t s))=some g)
 (hop:g=true→wG P o R [(.t d,.v X)]∧bJ R (iV s want σ)) (hok:g=true→oX σ R):ItT P ops o ((.t s,aS σ (.t s))::jm σ R,[(.t d,.cv s want g X)]):=by
 intro cx σ1 ι S a w hr hw hb next Q hn
 have hls:aS σ1 (.t s)=aS σ (.t s):=hr (.t s,aS σ (.t s)) (List.mem_cons_self ..)
 have hact: ∀p∈R,aS σ1 p.1=aS σ p.1:=fun p hp=>hr (p.1,aS σ p.1) (List.mem_cons_of_mem _ (aSq.2 ⟨p,hp,rfl⟩))
 rw[om hw hg hs (by rw[hls];exact hl)]
 have hdN:=hb d hd
 cases g with
 |false=>
  rw[if_neg (by simp)]
  rw[hd]
  have h1:=hw.putDead hdN undef
  refine hn ι S _ w (h1.reslot (fun o=>by simp only[hD];rw[cI _ _ (by simp),cI _ _ (by simp)]) fun t k hk=> ?_)
  simp only[hD] at hk
  rw[nJ] at hk
  split at hk
  · rename_i e;cases e;cases hk
    refine⟨(by simp),fun _=> ?_⟩
    rw[cr (by rw[hw.size];exact hdN),if_pos rfl]
  · rename_i e
    exact h1.vr.slots t k (by rw[cI _ _ e];exact hk)
 |true=>
  rw[if_pos rfl]
  left
  obtain⟨hop,hrd⟩:=hop rfl
  have hok:=hok rfl
  let L:List (dD×K):=R.filterMap aP7
  have hL: ∀l k,(l,k)∈L→ ∃Y,k= .v Y∧aS (iV s want σ) l=some (.v Y)∧aS σ1 l=aS σ l∧(aS σ l=some (.v Y)∨ ∃s' w',aS σ l=some (.cv s' w' true Y)):=by
   intro l k hm
   obtain⟨p,hp,hpe⟩:=List.mem_filterMap.1 hm
   obtain⟨pl,pk⟩:=p
   unfold aP7 at hpe
   split at hpe
   · rename_i e1 Y e2
     cases hpe
     simp only at e2 ⊢
     have h1:=hrd _ hp
     simp only at h1
     refine⟨Y,rfl,h1.trans e2,hact _ hp,?_⟩
     rcases jA s want σ pl with h3|⟨s2,w2,b2,X2,h3,h4⟩
     · left;rw[← h3,h1,e2]
     · rw[h4,e2] at h1;cases h1
       have:=ol hok _ hp _ _ _ _ _ h3 e2
       subst this
       exact .inr ⟨_,_,h3⟩
   · cases hpe
  have hσ2: ∀l,aS (hD σ1 L) l=aS σ1 l∨ ∃Y s' w',aS (hD σ1 L) l=some (.v Y)∧aS σ1 l=some (.cv s' w' true Y):=by
   intro l
   rw[kM]
   cases hq:wr L l with
   |none=>exact .inl rfl
   |some k=>
    obtain⟨Y,rfl,h1,h2,h3⟩:=hL l k (nn hq)
    rcases h3 with h3|⟨s',w',h3⟩
    · left;rw[h2,h3]
    · right;exact⟨Y,s',w',rfl,by rw[h2,h3]⟩
  have hσ2o: ∀o,aS (hD σ1 L) (.o o)=aS σ1 (.o o):=by
   intro o'
   rw[kM]
   cases hq:wr L (.o o') with
   |none=>rfl
   |some k=>
    obtain⟨Y,rfl,h1,h2,h3⟩:=hL _ k (nn hq)
    rw[jB] at h1
    rw[h2,h1]
  have hrw2:RW cx (hD σ1 L) ι S a w:=hw.reslot hσ2o fun t k hk=>by
   rcases hσ2 (.t t) with h|⟨Y,s',w',h1,h2⟩
   · rw[h] at hk;exact hw.vr.slots t k hk
   · rw[h1] at hk;cases hk
     exact(hw.vr.slots t _ h2).1 rfl
  have hrd2:bJ R (hD σ1 L):=by
   intro p hp
   have h1:=hrd p hp
   rw[kM]
   cases hq:wr L p.1 with
   |some k=>
    obtain⟨Y,rfl,h2,_,_⟩:=hL _ k (nn hq)
    rw[← h1,h2]
   |none=>
    show aS σ1 p.1=p.2
    rw[hact p hp]
    rcases jA s want σ p.1 with h3|⟨s2,w2,b2,X2,h3,h4⟩
    · rw[← h3];exact h1
    · exfalso
      have: (p.1,K.v X2)∈L:=List.mem_filterMap.2 ⟨p,hp,by unfold aP7;rw[← h1,h4]⟩
      obtain⟨k,hk⟩:=aLx (W:=L) (l:=p.1) (aSq.2 ⟨_,this,rfl⟩)
      rw[hk] at hq;cases hq
  refine hop cx (hD σ1 L) ι S a w hrd2 hrw2 hb next Q fun ι' S' a' w' hw'=>hn ι' S' a' w' ?_
  simp only[hD] at hw' ⊢
  refine hw'.reslot (fun o'=>by rw[cI _ _ (by simp),cI _ _ (by simp),hσ2o]) fun t k hk=> ?_
  rw[nJ] at hk
  by_cases e:d=t
  · subst e
    rw[if_pos rfl] at hk;cases hk
    exact⟨fun _=>hw'.vr.slots d _ (cQ _ _ _),by simp⟩
  · rw[if_neg (by simpa using e)] at hk
    rcases hσ2 (.t t) with h|⟨Y,s',w',h1,h2⟩
    · exact hw'.vr.slots t k (by rw[cI _ _ (by simpa using e),h];exact hk)
    · rw[h2] at hk;cases hk
      exact⟨fun _=>hw'.vr.slots t (.v Y) (by rw[cI _ _ (by simpa using e)];exact h1),by simp⟩
def evc (σ:St):Operand→Option (V×List (dD×Option K)×Option Bool)
 | .tmp t=>match aS σ (.t t) with
  |some (.v X)=>some (X,[(.t t,some (.v X))],none)
  |some (.cv s w b X)=>some (X,[(.t t,some (.cv s w b X))],some b)
  |_=>none
 | .const v=>if v.oneCell' then some (.e (.c (yd v)),[],none) else none
 |_=>none
def de:Option Bool→Prop
 |none=>True
 |some b=>b=true
theorem wc {σ:St} {x:Operand} {X:V} {R:List (dD×Option K)} {c:Option Bool} (h:evc σ x=some (X,R,c)):bJ R σ:=by
 cases x with
 |tmp t=>
  simp only[evc] at h
  split at h
  · rename_i X' hl;cases h;exact bJ.one hl
  · rename_i hl;cases h;exact bJ.one hl
  · cases h
 |const v=>
  simp only[evc] at h
  split at h
  · cases h;exact bJ.nil
  · cases h
 |global g=>simp[evc] at h
 |func f=>simp[evc] at h
theorem wd {σ0:St} {x:Operand} {X:V} {R:List (dD×Option K)} {c:Option Bool} (h:evc σ0 x=some (X,R,c)) (hc:de c) {P:Program} {cx:Cx P} {σ:St} {ι:Nat→Value} {S:Nat→Prop} {a:Act} {w:World}
 (hr:bJ R σ) (hw:RW cx σ ι S a w):kU σ ι w S X (a.eval x):=by
 cases x with
 |tmp t=>
  simp only[evc] at h
  split at h
  · rename_i X' hl;cases h;exact hw.vr.slots t _ (hr (.t t,some (.v X)) (by simp))
  · rename_i s w' b X' hl
    cases h
    exact(hw.vr.slots t (.cv s w' b X) (hr (.t t,some (.cv s w' b X)) (by simp))).1 hc
  · cases h
 |const v=>
  simp only[evc] at h
  split at h
  · rename_i hv;cases h;exact ek hv
  · cases h
 |global g=>simp[evc] at h
 |func f=>simp[evc] at h
def aEf (b:Bool):D→D→Option D
 | .i m,.i n=>some (.i (bif b then m else n))
 | .u m,.u n=>some (.u (bif b then m else n))
 | .b m,.b n=>some (.b (bif b then m else n))
 | .s m,.s n=>some (.s (bif b then m else n))
 |_,_=>none
def aJ5 (x y:Operand) (b:Bool) (X Y:D):Option D:=match x,y with
 |_,.const (.bool false)=>match X with| .b m=>some (.b (b&&m))|_=>none
 | .const (.bool true),_=>match Y with| .b n=>some (.b (b||n))|_=>none
 |_,_=>aEf b X Y
def aEg (σ:St) (c x y:Operand) (d:Option Tmp):tp:=
 match ev σ c,evc σ x,evc σ y,d with
 |some (.e (.c (.d (.b b))),R),some (.e (.c (.d X)),R1,c1),some (.e (.c (.d Y)),R2,c2),some d=>match aJ5 x y b X Y with
  |some Z=>some ((b=true→de c1)∧(b=false→de c2),R++R1++R2,[(.t d,.v (Dv Z))])
  |none=>none
 |_,_,_,_=>none
theorem yr {b:Bool} {X Y Z:D} {w:World} {S:Nat→Prop} {vx vy:Value} (h:aEf b X Y=some Z) (hx:b=true→DR w S X vx) (hy:b=false→DR w S Y vy):DR w S Z (if b then vx else vy):=by
 cases X<;>cases Y<;>simp only[aEf] at h<;>cases h
 all_goals
  cases b with
  |true=>have:=hx rfl;cases this;first|exact .i _|exact .u _|exact .b _|exact .s _
  |false=>have:=hy rfl;cases this;first|exact .i _|exact .u _|exact .b _|exact .s _
theorem aEh {P:Program} {o:Oper} {σ0:St} {c x y:Operand} (ho:o.op= .pick c x y):kV P o σ0 (aEg σ0 c x y o.dst):=by
 intro p R W h hp
 unfold aEg at h
 split at h<;>try(cases h;done)
 rename_i b Rc X R1 c1 Y R2 c2 d hc hx hy hd
 split at h<;>try(cases h;done)
 rename_i Z hz
 cases h
 refine⟨mT hd fun cx σ ι S a w hr hw=> ?_,((cZ hc).append (wc hx)).append (wc hy)⟩
 have hC:=dA hc hr.left.left hw
 have hX:b=true→kU σ ι w S (Dv X) (a.eval x):=fun hb=>wd hx (hp.1 hb) hr.left.right hw
 have hY:b=false→kU σ ι w S (Dv Y) (a.eval y):=fun hb=>wd hy (hp.2 hb) hr.right hw
 have hcv:a.eval c= .bool b:=by
  simp only[kU,ER,CR] at hC
  generalize a.eval c=v at hC;cases hC;rfl
 have hX:b=true→DR w S X (a.eval x):=hX
 have hY:b=false→DR w S Y (a.eval y):=hY
 refine⟨if b then a.eval x else a.eval y,?_,?_⟩
 · cases b<;>simp[execOp,ho,hcv,asBool]
 · show DR w S Z (if b then a.eval x else a.eval y)
   unfold aJ5 at hz
   split at hz
   · split at hz
     · cases hz
       cases b with
       |true=>have:=hX rfl;simpa using this
       |false=>simp[Act.eval];exact .b _
     · cases hz
   · split at hz
     · cases hz
       cases b with
       |true=>simp[Act.eval];exact .b _
       |false=>have:=hY rfl;simpa using this
     · cases hz
   · exact yr hz hX hY
def jn (T:gB) (o:Oper) (σ:St):tp:=
 match o.op with
 | .pick c x y=>match aEg σ c x y o.dst with
  |some r=>some r
  |none=>aGb σ c x y o.dst
 |_=>yo T o σ
theorem uI {P:Program} {T:gB} (hT:dK P T) (o:Oper) (σ:St):kV P o σ (jn T o σ):=by
 unfold jn
 split
 · rename_i ho
   split
   · rename_i r hr
     have:=aEh (P:=P) (σ0:=σ) ho
     rw[hr] at this;exact this
   · exact vo ho
 · exact lu hT o σ
def aJ6 (m i:Nat):Bool:=Nat.beq (Nat.land (Nat.shiftRight m i) 1) 1
theorem aJ7 (m i:Nat):aJ6 m i=m.testBit i:=by
 have h:aJ6 m i=decide ((m >>> i) % 2=1):=by
  show Nat.beq ((m >>> i) &&& 1) 1=_
  rw[Nat.and_one_is_mod,Bool.eq_iff_iff,Nat.beq_eq,decide_eq_true_eq]
 rw[h,Nat.testBit,Nat.one_and_eq_mod_two,Bool.eq_iff_iff,decide_eq_true_eq,bne_iff_ne]
 omega
def bits:List Nat→Nat
 | []=>0
 |x::r=>Nat.lor (Nat.shiftLeft 1 x) (bits r)
theorem tJ {b:Nat}: ∀{l:List Nat},(bits l).testBit b=true↔b∈l
 | []=>by simp[bits]
 |x::r=>by
  show((1 <<< x) ||| bits r).testBit b=true↔_
  rw[Nat.testBit_or,Bool.or_eq_true,tJ (l:=r),aSw,Nat.shiftLeft_eq,Nat.one_mul,Nat.testBit_two_pow,decide_eq_true_eq]
  exact⟨fun h=>h.imp Eq.symm id,fun h=>h.imp Eq.symm id⟩
def oo (acc:List Nat):List Nat→Nat
 | []=>0
 |i::r=>Nat.lor (Nat.lor (Nat.shiftLeft 1 i) (acc.getD i 0)) (oo acc r)
def oq:List Oper→List Nat→List Nat
 | [],acc=>acc
 |o::os,acc=>oq os (acc++[oo acc (jS o)])
def aEi (accM:List Nat) (accP:List (List Nat)):Prop:=accM.length=accP.length∧ ∀i b,(accM.getD i 0).testBit b=true→b∈accP.getD i []
theorem lw {accM:List Nat} {accP:List (List Nat)} (h:aEi accM accP) {b:Nat}: ∀{l:List Nat},(oo accM l).testBit b=true→b∈l.flatMap fun i=>i::accP.getD i []
 | [],hb=>by simp[oo] at hb
 |i::r,hb=>by
  have hb: (((1 <<< i) ||| accM.getD i 0) ||| oo accM r).testBit b=true:=hb
  rw[Nat.testBit_or,Nat.testBit_or,Bool.or_eq_true,Bool.or_eq_true,Nat.shiftLeft_eq,Nat.one_mul,Nat.testBit_two_pow,decide_eq_true_eq] at hb
  rw[List.flatMap_cons,List.mem_append,aSw]
  rcases hb with(hb|hb)|hb
  · exact .inl (.inl hb.symm)
  · exact .inl (.inr (h.2 i b hb))
  · exact .inr (lw h hb)
theorem ot: ∀(l:List Oper) {accM:List Nat} {accP:List (List Nat)},aEi accM accP→aEi (oq l accM) (lF l accP)
 | [],accM,accP,h=>h
 |o::os,accM,accP,h=>by
  unfold oq lF
  refine ot os ⟨by simp[h.1],fun i b hb=> ?_⟩
  rw[aSl] at hb ⊢
  by_cases hi:i<accM.length
  · rw[List.getElem?_append_left hi] at hb
    rw[List.getElem?_append_left (by rw[← h.1];exact hi)]
    have:=h.2 i b (by rw[aSl];exact hb)
    rwa [aSl] at this
  · rw[List.getElem?_append_right (by omega)] at hb
    rw[List.getElem?_append_right (by rw[← h.1];omega),← h.1]
    by_cases e:i - accM.length=0
    · rw[e] at hb ⊢
      exact lw h hb
    · rw[List.getElem?_eq_none (by simp;omega)] at hb
      simp at hb
abbrev RWM:=Nat×Nat
def rwM (x:bv):RWM:=(bits x.1,bits x.2)
def aBd (x y:RWM):Bool:=Nat.beq (Nat.land x.2 (Nat.lor y.1 y.2)) 0&&Nat.beq (Nat.land x.1 y.2) 0
theorem vC {xs ys:List Nat} (h: ∀b,b∈xs→b∈ys→False):nX xs ys=true:=by
 induction xs with
 |nil=>rfl
 |cons x r ih=>
  simp only[nX,aSg,Bool.not_eq_true']
  refine⟨?_,ih fun b hb=>h b (List.mem_cons_of_mem _ hb)⟩
  rw[← Bool.not_eq_true,gC]
  exact h x (List.mem_cons_self ..)
theorem jo {m n b:Nat} (h:Nat.beq (Nat.land m n) 0=true) (hm:m.testBit b=true) (hn:n.testBit b=true):False:=by
 have h:m &&& n=0:=Nat.eq_of_beq_eq_true h
 have: (m &&& n).testBit b=true:=by rw[Nat.testBit_and,hm,hn];rfl
 rw[h] at this;simp at this
theorem aEj {x y:bv} (h:aBd (rwM x) (rwM y)=true):nY x y=true:=by
 simp only[aBd,rwM,aSg] at h
 simp only[nY,aSg]
 have hor: ∀b,(b∈y.1∨b∈y.2)→(Nat.lor (bits y.1) (bits y.2)).testBit b=true:=fun b hb=>by
  show(bits y.1 ||| bits y.2).testBit b=true
  rw[Nat.testBit_or,Bool.or_eq_true,tJ,tJ];exact hb
 exact⟨⟨vC fun b h1 h2=>jo h.1 (tJ.2 h1) (hor b (.inr h2)),vC fun b h1 h2=>jo h.1 (tJ.2 h1) (hor b (.inl h2))⟩,vC fun b h1 h2=>jo h.2 (tJ.2 h1) (tJ.2 h2)⟩
def aMx (pm:Nat) (y:RWM):Nat→List RWM→Bool
 |_,[]=>true
 |i,x::r=>(aJ6 pm i||aBd x y)&&aMx pm y (i+1) r
def aJ8:List RWM→List Nat→List RWM→Bool
 | [],_,_=>true
 |y::ys,pm::pms,done=>aMx pm y 0 done&&aJ8 ys pms (done++[y])
 |_::_,[],_=>false
theorem we {pm:Nat} {y:RWM}: ∀{l:List RWM} {i:Nat},aMx pm y i l=true→ ∀(k:Nat) x,l[k]? =some x→pm.testBit (i+k)=true∨aBd x y=true
 | [],i,_,k,x,hx=>by simp at hx
 |z::r,i,h,k,x,hx=>by
  simp only[aMx,aSg,Bool.or_eq_true] at h
  cases k with
  |zero=>simp at hx;subst hx;rw[← aJ7];exact h.1
  |succ k=>
   have:=we h.2 k x (by simpa using hx)
   rwa [show i+1+k=i+(k+1) by omega] at this
theorem wg: ∀{ys:List RWM} {pms:List Nat} {done:List RWM},aJ8 ys pms done=true→ ∀(k:Nat) y pm,ys[k]? =some y→pms[k]? =some pm→ ∀(i:Nat) x,i<done.length+k→(done++ys)[i]? =some x→pm.testBit i=true∨aBd x y=true
 | [],pms,done,_,k,y,pm,hy,_,i,x,_,_=>by simp at hy
 |z::ys,[],done,h,k,y,pm,hy,hp,i,x,_,_=>by simp[aJ8] at h
 |z::ys,p::pms,done,h,k,y,pm,hy,hp,i,x,hi,hx=>by
  simp only[aJ8,aSg] at h
  cases k with
  |zero=>
   simp at hy hp;subst hy;subst hp
   have:=we h.1 i x (by rw[List.getElem?_append_left (by omega)] at hx;exact hx)
   rwa [Nat.zero_add] at this
  |succ k=>exact wg h.2 k y pm (by simpa using hy) (by simpa using hp) i x (by simp;omega) (by simpa using hx)
theorem ou {ns:List bv} {pl:List (List Nat)}: ∀(n:Nat),(∀k,k<n→ ∀i,i<k→ ∀x y pk,ns[i]? =some x→ns[k]? =some y→pl[k]? =some pk→i∈pk∨nY x y=true)→wN ns pl n=true
 |0,_=>rfl
 |n+1,h=>by
  simp only[wN,aSg]
  refine⟨?_,ou n fun k hk=>h k (by omega)⟩
  split
  · rename_i y pk hy hp
    rw[aSu]
    intro i hi
    rw[Bool.or_eq_true]
    cases hx:ns[i]? with
    |none=>exact .inr rfl
    |some x=>exact(h n (by omega) i (List.mem_range.1 hi) x y pk hx hy hp).imp gC.2 id
  · rfl
def zB (l:List Oper) (ns:List bv):Bool:=qQ 0 l&&aJ8 (ns.map rwM) (oq l []) []
theorem zC {l:List Oper} {ns:List bv} (h:zB l ns=true):vB l ns=true:=by
 simp only[zB,aSg] at h
 simp only[vB,aSg]
 refine⟨h.1,ou _ fun k hk i hi x y pk hx hy hp=> ?_⟩
 have hm:=ot l (accM:=[]) (accP:=[]) ⟨rfl,by simp⟩
 have hpl:k< (lF l []).length:=(aSm.1 hp).1
 have hml:k< (oq l []).length:=by rw[hm.1];exact hpl
 have hpm: (oq l [])[k]? =some (oq l [])[k]:=aSn hml
 rcases wg h.2 k (rwM y) _ (by simp[hy]) hpm i (rwM x) (by simpa using hi) (by simp[hx]) with h1|h1
 · left
   have:=hm.2 k i (by rw[aSl,hpm];exact h1)
   rwa [aSl,hp] at this
 · exact .inr (aEj h1)
def aGl (P:Program) (T:gB) (o:Oper) (σ:St) (k:List (dD×Option K)→List (dD×K)→Prop):Prop:=
 match jn T o σ with
 |some (p,R,W)=>p∧k R W
 |none=> ∃R W,wG P o R W∧bJ R σ∧k R W
theorem lx {P:Program} {T:gB} (hT:dK P T) {o:Oper} {σ:St} {k:List (dD×Option K)→List (dD×K)→Prop} (h:aGl P T o σ k): ∃R W,wG P o R W∧bJ R σ∧k R W:=by
 unfold aGl at h
 split at h
 · rename_i p R W he
   obtain⟨h1,h2⟩:=uI hT o σ p R W he h.1
   exact⟨R,W,h1,h2,h.2⟩
 · exact h
def aMy (dr:Bool) (acc:List bv) (R:List (dD×Option K)) (W:List (dD×K)):List bv:=match dr with
 |true=>acc++[oG (R,W)]
 |false=>[]
def fb (P:Program) (T:gB) (o:Oper) (σ:St) (s:Nat) (want g:Bool) (d:Nat) (k:List (dD×Option K)→V→Prop):Prop:=
 match jn T o (iV s want σ) with
 |some (p,R,[(.t d',.v X)])=>match Nat.beq d' d with
  |true=>(g=true→p)∧(g=true→oX σ R)∧k R X
  |false=>False
 |some _=>False
 |none=> ∃R X,(g=true→wG P o R [(.t d,.v X)]∧bJ R (iV s want σ))∧(g=true→oX σ R)∧k R X
def goC (P:Program) (T:gB) (ops:List Oper) (dr:Bool):List Oper→St→List bv→(St→List bv→Prop)→Prop
 | [],σ,acc,k=>k σ acc
 |o::os,σ,acc,k=>match o.guard with
  |none=>aGl P T o σ fun R W=>mB σ W fun σ'=>goC P T ops dr os σ' (aMy dr acc R W) k
  |some (j,want)=>match(ops[j]?).bind (·.dst),o.dst with
   |some s,some d=>match gOf want (aS σ (.t s)) with
    |some g=>fb P T o σ s want g d fun R X=>mw σ (.t d) (.cv s want g X) fun σ'=>goC P T ops dr os σ' (aMy dr acc ((.t s,none)::R) [(.t d,.dead)]) k
    |none=>False
   |_,_=>False
theorem zD {P:Program} {T:gB} (hT:dK P T) {ops:Array Oper} {o:Oper} {σ:St} {j s d:Nat} {want g:Bool} {k:List (dD×Option K)→V→Prop} (hg:o.guard=some (j,want)) (hs: (ops[j]?).bind (·.dst)=some s) (hd:o.dst=some d) (hl:gOf want (aS σ (.t s))=some g)
 (h:fb P T o σ s want g d k): ∃R X,ItT P ops o ((.t s,aS σ (.t s))::jm σ R,[(.t d,.cv s want g X)])∧k R X:=by
 unfold fb at h
 split at h
 · rename_i p R d' X he
   split at h
   · rename_i hdd
     have hdd:=Nat.eq_of_beq_eq_true hdd
     subst hdd
     obtain⟨h1,h2,h3⟩:=h
     exact⟨R,X,yq hg hs hd hl (fun hgt=>uI hT o _ p R _ he (h1 hgt)) h2,h3⟩
   · exact h.elim
 · exact h.elim
 · obtain⟨R,X,h1,h2,h3⟩:=h
   exact⟨R,X,yq hg hs hd hl h1 h2,h3⟩
theorem wU {σ:St} {s:Nat} {R:List (dD×Option K)}:bJ ((.t s,aS σ (.t s))::jm σ R) σ:=by
 intro p hp
 rcases aSw.1 hp with rfl|hp
 · rfl
 · obtain⟨q,hq,rfl⟩:=aSq.1 hp;rfl
theorem aEk {σ:St} {s d:Nat} {R:List (dD×Option K)} {k:K} {o:Option K} {k':K}:oG ((.t s,o)::R,[(.t d,k)])=oG ((.t s,aS σ (.t s))::jm σ R,[(.t d,k')]):=by
 simp[oG,jm,Function.comp_def]
theorem vU {P:Program} {T:gB} (hT:dK P T) {ops:Array Oper} {dr:Bool} {k:St→List bv→Prop}: ∀(l:List Oper) (σ:St) (acc:List bv),goC P T ops.toList dr l σ acc k→
 ∃ts:List lE,yB P ops l ts∧jH ts σ∧ ∃acc',(dr=true→acc'=acc++ts.map oG)∧k (eQ ts σ) acc'
 | [],σ,acc,h=>⟨[],trivial,trivial,acc,fun _=>by simp,by simpa[goC,eQ] using h⟩
 |o::os,σ,acc,h=>by
  simp only[goC] at h
  split at h
  · rename_i hg
    obtain⟨R,W,h1,h2,h3⟩:=lx hT h
    rw[jW] at h3
    obtain⟨ts,q1,q2,acc',q3,q4⟩:=vU hT os _ _ h3
    refine⟨(R,W)::ts,⟨yU hg h1,q1⟩,⟨h2,q2⟩,acc',fun hd=> ?_,by simpa[eQ] using q4⟩
    rw[q3 hd];subst hd;simp[aMy]
  · rename_i j want hg
    split at h<;>try(exact h.elim)
    rename_i s d hs hd
    split at h<;>try(exact h.elim)
    rename_i g hl
    have hs': (ops[j]?).bind (·.dst)=some s:=by simpa using hs
    obtain⟨R,X,h1,h2⟩:=zD hT hg hs' hd hl h
    rw[nM] at h2
    obtain⟨ts,q1,q2,acc',q3,q4⟩:=vU hT os _ _ h2
    refine⟨((.t s,aS σ (.t s))::jm σ R,[(.t d,.cv s want g X)])::ts,⟨h1,q1⟩,⟨wU,q2⟩,acc',fun hdr=> ?_,by simpa[eQ,hD] using q4⟩
    rw[q3 hdr];subst hdr
    simp only[aMy,List.map_cons,List.append_assoc,List.singleton_append]
    rw[aEk (σ:=σ) (k':= .cv s want g X)]
section
variable {P:Program} {io:List Nat} {Q:Ex→St→Prop} {σ:St}
theorem SW.regT {T:gB} (hT:dK P T) (ks:List Nat) {id:Nat} {ops:Array Oper} (h:goC P T ops.toList false ops.toList σ [] fun σ' _=>pV ks σ' (Q .norm)):SW P io (.region id ops false) Q σ:=by
 intro cx ι S a w hio hw hf
 have hfit: ∀o∈ops.toList,∀d,o.dst=some d→d<cx.N:=fun o ho=>wK (by simpa[rR] using hf) ho
 obtain⟨ts,h1,h2,acc,_,h4⟩:=vU hT ops.toList σ [] h
 rw[lN] at h4
 exact wp_region_list (wL ops.toList ts σ ι S a w h1 h2 hw hfit fun ι' S' a' w' hw'=>⟨_,ι',S',h4,hw'.keep ks⟩)
theorem SW.regD {T:gB} (hT:dK P T) (hm:P.follows .mixedOrders=true) (ks:List Nat) {id:Nat} {ops:Array Oper} (h:goC P T ops.toList true ops.toList σ [] fun σ' ns=>zB ops.toList ns=true∧pV ks σ' (Q .norm)):SW P io (.region id ops true) Q σ:=by
 intro cx ι S a w hio hw hf
 have hfit: ∀o∈ops.toList,∀d,o.dst=some d→d<cx.N:=fun o ho=>wK (by simpa[rR] using hf) ho
 obtain⟨ts,h1,h2,acc,h3,h4,h5⟩:=vU hT ops.toList σ [] h
 have h3:=h3 rfl
 rw[List.nil_append] at h3
 subst h3
 rw[lN] at h5
 have hlen: ∀(l:List Oper) (ts:List lE),yB P ops l ts→ts.length=l.length∧ ∀(i:Nat) o t,l[i]? =some o→ts[i]? =some t→ItT P ops o t:=by
  intro l
  induction l with
  |nil=>intro ts h;cases ts with
   |nil=>exact⟨rfl,by simp⟩
   |cons t ts=>exact h.elim
  |cons o os ih=>intro ts h;cases ts with
   |nil=>exact h.elim
   |cons t ts=>
    obtain⟨q1,q2⟩:=ih ts h.2
    refine⟨by simp[q1],fun i o' t' ho ht=> ?_⟩
    cases i with
    |zero=>simp at ho ht;subst ho;subst ht;exact h.1
    |succ i=>exact q2 i o' t' (by simpa using ho) (by simpa using ht)
 obtain⟨q1,q2⟩:=hlen _ _ h1
 refine wp_region_any hm (au (cx:=cx) (σ:=σ) (ts:=ts) (by simpa using q1) (fun i o t ho ht=>q2 i o t (by simpa using ho) ht) h2 (by have:=zC h4;simpa[oP,vB] using this) hfit (fun ι' S' a' w' hw'=>⟨_,ι',S',h5,hw'.keep ks⟩)
  ops.size (Array.replicate ops.size false) σ ι S a _ (by simp) (fun l=> ?_) hw.drew (fun k o ho hk=> ?_) ?_)
 · have hL: ∀i,(Array.replicate ops.size false).getD i false=false:=fun i=>by
    rw[Array.getD_eq_getD_getElem?,Array.getElem?_replicate];split<;>rfl
   have: ∀n,part ts (fun i=>(Array.replicate ops.size false).getD i false) σ l n=aS σ l:=by
    intro n
    induction n with
    |zero=>rfl
    |succ n ih=>rw[lM,if_neg (by rw[hL];simp),ih]
   rw[this]
 · rw[Array.getD_eq_getD_getElem?,Array.getElem?_replicate] at hk;split at hk<;>cases hk
 · exact Nat.le_trans (List.length_filter_le _ _) (by simp)
end
def wV:C→Bool
 | .d _=>true
 | .nil=>true
 | .rp _=>true
 |_=>false
def df:E→Bool
 | .c x=>wV x
 | .agg cs=>cs.all wV
def nF:V→Bool
 | .e x=>df x
 | .tup xs=>xs.all df
section
variable {τ σ':St} {rl:List (Nat×Nat)} {bor:List Nat}
theorem aBe {c:C} (h:wV c=true):mC τ σ' rl bor c c:=by cases c<;>simp_all[wV,mC]
theorem wh: ∀{cs:List C},cs.all wV=true→tk τ σ' rl bor cs cs
 | [],_=>trivial
 |c::cs,h=>by
  simp only[List.all_cons,aSg] at h
  exact⟨aBe h.1,wh h.2⟩
theorem aBf {c:E} (h:df c=true):mE τ σ' rl bor c c:=by
 cases c with
 |c x=>exact aBe h
 |agg cs=>exact wh h
theorem wj: ∀{cs:List E},cs.all df=true→mEs τ σ' rl bor cs cs
 | [],_=>trivial
 |c::cs,h=>by
  simp only[List.all_cons,aSg] at h
  exact⟨aBf h.1,wj h.2⟩
theorem aBg {c:V} (h:nF c=true):mV τ σ' rl bor c c:=by
 cases c with
 |e x=>exact aBf h
 |tup cs=>exact wj h
theorem ov {c:C} (h:wV c=true):aD1 rl c=c:=by cases c<;>simp_all[wV,aD1]
theorem aBh {cs:List C} (h:cs.all wV=true):cs.map (aD1 rl)=cs:=by
 rw[aSu] at h
 exact(List.map_congr_left fun c hc=>ov (h c hc)).trans (List.map_id cs)
theorem ow {c:E} (h:df c=true):aHg rl c=c:=by
 cases c with
 |c x=>simp[aHg,ov (show wV x=true from h)]
 |agg cs=>simp only[aHg];rw[aBh h]
theorem aEl {c:V} (h:nF c=true):aD2 rl c=c:=by
 cases c with
 |e x=>simp[aD2,ow (show df x=true from h)]
 |tup cs=>
  simp only[aD2]
  have h:cs.all df=true:=h
  rw[aSu] at h
  rw[(List.map_congr_left fun c hc=>ow (h c hc)).trans (List.map_id cs)]
theorem oz: ∀{Ys:List V} {i:Nat},(∀j Y,Ys[j]? =some Y→aS τ (.t (i+j))=some (.v Y))→Ys.all nF=true→mL τ σ' rl bor (eH i Ys)
 | [],i,_,_=>trivial
 |Y::Ys,i,h,hp=>by
  simp only[List.all_cons,aSg] at hp
  refine⟨⟨Y,h 0 Y rfl,aBg hp.1⟩,oz (fun j Z hj=> ?_) hp.2⟩
  rw[show i+1+j=i+(j+1) by omega]
  exact h (j+1) Z hj
theorem oY: ∀(Ys:List V) (i:Nat),bX (eH i Ys)=[]
 | [],i=>rfl
 |Y::Ys,i=>oY Ys (i+1)
theorem aBi {Xs:List V} (h:Xs.all nF=true):nK (eH 0 Xs++pU []) (eH 0 Xs) [] []:=by
 refine⟨oz (fun j Y hj=> ?_) h,?_⟩
 · have hlt:=(aSm.1 hj).1
   rw[Nat.zero_add,nZ 0 Xs _ j (aSj _) (by omega),Nat.sub_zero,hj];rfl
 · simp[yC,oY,tF,nX]
end
section
variable {P:Program} {T:gB} {f:FuncId} {n:Nat} {σin:St} {X:V} {o:Oper} {c:Call} {d:Nat} {σ:St} {Xs:List V} {Ra:List (dD×Option K)}
theorem aBj (hs:Spec P f n σin [(.t 0,.v X)]) (ho:o.op= .call c) (hc:c.callee= .value (.func f)) (hd:o.dst=some d) (hx:evA σ c.args.toList=some (Xs,Ra)) (hn:Xs.length=n) (hin:σin=eH 0 Xs) (hp:Xs.all nF=true) (hX:nF X=true):
 wG P o Ra [(.t d,.v X)]:=by
 subst hin
 have:=aBc (robj:=[]) (rl:=[]) (bor:=[]) hs ho hc hx hn (aBi hp) (by simp[jN,bX,nQ,oY,tF,qR]) (.inl rfl)
 have e1:lp Ra [] [] (eH 0 Xs) [(.t 0,.v X)]=Ra:=by simp[lp,nE,bX]
 have e2:sC [] (eH 0 Xs) [(.t 0,.v X)] o.dst=[(.t d,.v X)]:=by
  simp[sC,wS,uF,nQ,oY,hd,tt,aS,aEl hX]
 rw[e1,e2] at this
 exact this
theorem fd {k:List (dD×Option K)→List (dD×K)→Prop} (hs:Spec P f n σin [(.t 0,.v X)]) (ho:o.op= .call c) (hc:c.callee= .value (.func f)) (hd:o.dst=some d) (hx:evA σ c.args.toList=some (Xs,Ra)) (hn:Xs.length=n) (hin:σin=eH 0 Xs) (hp:Xs.all nF=true) (hX:nF X=true)
 (h:k Ra [(.t d,.v X)]): ∃R W,wG P o R W∧bJ R σ∧k R W:=
 ⟨Ra,_,aBj hs ho hc hd hx hn hin hp hX,sV hx,h⟩
theorem aJ9 {σ1:St} {g:Bool} {k:List (dD×Option K)→V→Prop} (hs:g=true→Spec P f n σin [(.t 0,.v X)]) (ho:o.op= .call c) (hc:c.callee= .value (.func f)) (hd:o.dst=some d) (hx:evA σ1 c.args.toList=some (Xs,Ra)) (hn:Xs.length=n) (hin:σin=eH 0 Xs) (hp:Xs.all nF=true) (hX:nF X=true)
 (hr:g=true→oX σ Ra) (h:k Ra X): ∃R X,(g=true→wG P o R [(.t d,.v X)]∧bJ R σ1)∧(g=true→oX σ R)∧k R X:=
 ⟨Ra,X,fun hg=>⟨aBj (hs hg) ho hc hd hx hn hin hp hX,sV hx⟩,hr,h⟩
theorem bH {σout:St} {rl:List (Nat×Nat)} {bor:List Nat} {robj:List (Nat×K)} {k:List (dD×Option K)→List (dD×K)→Prop} (hs:Spec P f n σin σout) (ho:o.op= .call c) (hc:c.callee= .value (.func f)) (hx:evA σ c.args.toList=some (Xs,Ra)) (hn:Xs.length=n)
 (hm:nK (eH 0 Xs++pU robj) σin rl bor) (hk:jN rl σin σout=true) (hb:bor=[]∨mA σout) (h1: ∀p∈robj,aS σ (.o p.1)=some p.2) (h2: ∀j∈nE σin σout,aS σ (.o (jG rl j))=none)
 (h:k (lp Ra robj rl σin σout) (sC rl σin σout o.dst)): ∃R W,wG P o R W∧bJ R σ∧k R W:=
 ⟨_,_,aBc hs ho hc hx hn hm hk hb,aD5 hx h1 h2,h⟩
end
def WK (io:List Nat) (J:St→Prop) (s:St):Prop:= ∃σ' rl bor,J σ'∧nK s σ' rl bor∧wR io σ' rl bor=true
theorem wk {io:List Nat} {J:St→Prop} {s:St} (σ':St) (rl:List (Nat×Nat)) (bor:List Nat) (h:J σ') (h1:mL s σ' rl bor σ') (h2:yC σ' rl bor=true) (h3:wR io σ' rl bor=true):WK io J s:=⟨σ',rl,bor,h,⟨h1,h2⟩,h3⟩
section
variable {P:Program} {io:List Nat} {Q:Ex→St→Prop} {σ:St}
theorem SW.wk {c:Code} {J:St→Prop} (h:WK io J σ) (hJ: ∀s,J s→SW P io c Q s):SW P io c Q σ:=by
 obtain⟨σ',rl,bor,h1,h2,h3⟩:=h
 exact SW.weaken σ' rl bor h2 h3 (hJ σ' h1)
theorem SW.loopW {c:Code} (I:Nat→St→Prop) {n:Nat} (h0:WK io (I n) σ) (hr: ∀n s,I n s→SW P io c (ew (fun s'=>WK io (fun s2=> ∃m,m<n∧I m s2) s') Q) s):SW P io (.loop c) Q σ:=by
 refine SW.loop (fun n s=>WK io (I n) s) h0 fun n s hs=>SW.wk hs fun s2 h2=>SW.mono (fun e s3 h3=> ?_) (hr n s2 h2)
 cases e with
 |norm=>
  obtain⟨σ',rl,bor,⟨m,hm,h1⟩,h2,h4⟩:=h3
  exact⟨m,hm,σ',rl,bor,h1,h2,h4⟩
 |exit id=>exact h3
 |ret=>exact h3
theorem SW.midW (J:St→Prop) {x y:Code} (h:SW P io x (ew (fun s=>WK io J s) Q) σ) (hy: ∀s,J s→SW P io y Q s):SW P io (.seq x y) Q σ:=
 SW.seq (h.mono fun e s hq=>by
  cases e with
  |norm=>exact SW.wk hq hy
  |exit id=>exact hq
  |ret=>exact hq)
end
section
variable {τ σ':St} {rl:List (Nat×Nat)} {bor:List Nat} {r:List (dD×K)}
theorem cK {s:Nat} {x y:D} (h:aS τ (.t s)=some (.v (Dv x))) (e:x=y) (hr:mL τ σ' rl bor r):mL τ σ' rl bor ((.t s,.v (Dv y))::r):=⟨⟨_,h,e⟩,hr⟩
theorem kN {s:Nat} (h:aS τ (.t s)=some (.v (.e (.c .nil)))) (hr:mL τ σ' rl bor r):mL τ σ' rl bor ((.t s,.v (.e (.c .nil)))::r):=⟨⟨_,h,trivial⟩,hr⟩
theorem aBk {s:Nat} {y:D} (h:aS τ (.t s)=some (.v (.e (.c .nil)))) (e:y= .sl []) (hr:mL τ σ' rl bor r):mL τ σ' rl bor ((.t s,.v (Dv y))::r):=⟨⟨_,h,e⟩,hr⟩
theorem iQ {s o n j m:Nat} {e:TypeId} {es:Nat} {rows:List (List D)} (h:aS τ (.t s)=some (.v (.e (.c (.own o n))))) (ho:o=jG rl j) (e1:n=m) (hj:aS σ' (.o j)=some (.row e es rows)) (hr:mL τ σ' rl bor r):mL τ σ' rl bor ((.t s,.v (.e (.c (.own j m))))::r):=
 ⟨⟨_,h,ho,e1,e,es,rows,hj⟩,hr⟩
theorem fM {s o n:Nat} {y:D} {e:TypeId} {es:Nat} {rows:List (List D)} (h:aS τ (.t s)=some (.v (.e (.c (.own o n))))) (hb:iH o bor=true) (hj:aS τ (.o o)=some (.row e es rows)) (e1:rows.length=n) (e2:y= .sl rows) (hr:mL τ σ' rl bor r):mL τ σ' rl bor ((.t s,.v (Dv y))::r):=
 ⟨⟨_,h,gC.1 hb,e,es,rows,hj,e1,e2⟩,hr⟩
theorem bU {s o k j m:Nat} {ty:TypeId} {cs:List C} (h:aS τ (.t s)=some (.v (.e (.c (.pt o k))))) (ho:o=jG rl j) (e1:k=m) (hj:aS σ' (.o j)=some (.box ty cs)) (hr:mL τ σ' rl bor r):mL τ σ' rl bor ((.t s,.v (.e (.c (.pt j m))))::r):=
 ⟨⟨_,h,ho,e1,ty,cs,hj⟩,hr⟩
theorem cY {s:Nat} {cs ds:List C} (h:aS τ (.t s)=some (.v (.e (.agg cs)))) (e:tk τ σ' rl bor cs ds) (hr:mL τ σ' rl bor r):mL τ σ' rl bor ((.t s,.v (.e (.agg ds)))::r):=⟨⟨_,h,e⟩,hr⟩
theorem bT {j:Nat} {e:TypeId} {es:Nat} {rows rows':List (List D)} (h:aS τ (.o (jG rl j))=some (.row e es rows)) (e1:rows=rows') (hr:mL τ σ' rl bor r):mL τ σ' rl bor ((.o j,.row e es rows')::r):=⟨⟨_,h,rfl,rfl,e1⟩,hr⟩
theorem aW {j:Nat} {ty:TypeId} {cs ds:List C} (h:aS τ (.o (jG rl j))=some (.box ty cs)) (e1:tk τ σ' rl bor cs ds) (hr:mL τ σ' rl bor r):mL τ σ' rl bor ((.o j,.box ty ds)::r):=⟨⟨_,h,rfl,e1⟩,hr⟩
theorem aH:tk τ σ' rl bor [] []:=trivial
theorem aD {x y:D} {cs ds:List C} (e:x=y) (h:tk τ σ' rl bor cs ds):tk τ σ' rl bor (.d x::cs) (.d y::ds):=⟨e,h⟩
theorem iK {cs ds:List C} (h:tk τ σ' rl bor cs ds):tk τ σ' rl bor (.nil::cs) (.nil::ds):=⟨trivial,h⟩
theorem bI {o n j m:Nat} {e:TypeId} {es:Nat} {rows:List (List D)} {cs ds:List C} (ho:o=jG rl j) (e1:n=m) (hj:aS σ' (.o j)=some (.row e es rows)) (h:tk τ σ' rl bor cs ds):tk τ σ' rl bor (.own o n::cs) (.own j m::ds):=⟨⟨ho,e1,e,es,rows,hj⟩,h⟩
theorem ax {o n:Nat} {y:D} {e:TypeId} {es:Nat} {rows:List (List D)} {cs ds:List C} (hb:iH o bor=true) (hj:aS τ (.o o)=some (.row e es rows)) (e1:rows.length=n) (e2:y= .sl rows) (h:tk τ σ' rl bor cs ds):tk τ σ' rl bor (.own o n::cs) (.d y::ds):=⟨⟨gC.1 hb,e,es,rows,hj,e1,e2⟩,h⟩
theorem dZ {o k j m:Nat} {ty:TypeId} {xs cs ds:List C} (ho:o=jG rl j) (e1:k=m) (hj:aS σ' (.o j)=some (.box ty xs)) (h:tk τ σ' rl bor cs ds):tk τ σ' rl bor (.pt o k::cs) (.pt j m::ds):=⟨⟨ho,e1,ty,xs,hj⟩,h⟩
end
theorem RW.nilOwn {P:Program} {cx:Cx P} {σ:St} {ι:Nat→Value} {S:Nat→Prop} {a:Act} {w:World} (h:RW cx σ ι S a w) {s j:Nat} (e:TypeId) (es:Nat) (hs:aS σ (.t s)=some (.v (.e (.c .nil)))) (hj:aS σ (.o j)=none):
 RW cx (oO (oO σ (.o j) (.row e es [])) (.t s) (.v (.e (.c (.own j 0))))) (fun o=>if o=j then .slice none 0 0 else ι o) S a w:=by
 have hblk: ∀b,wF (.slice none 0 0) b→some b=(none:Option Nat)∨w.heap.size≤b:=fun b hb=>by simp[wF] at hb
 have h1:=h.turn (id:=j) (old:=none) (k:= .row e es []) (p:= .slice none 0 0) (w':=w) ⟨rfl,rfl,rfl,aSo _,(fun _ _ _=>rfl),(fun b hb=>by cases hb),.inl hj,hblk,.inl ⟨rfl,rfl⟩⟩
 have hv:gZ a s= .slice none 0 0:=h.vr.slots s _ hs
 refine h1.reslot (fun o=>cI _ _ (by simp)) fun t k hk=> ?_
 rw[nJ] at hk
 by_cases e1:s=t
 · subst e1
   rw[if_pos rfl] at hk;cases hk
   show CR (oO σ (.o j) (.row e es [])) (fun o=>if o=j then .slice none 0 0 else ι o) w S (.own j 0) (gZ a s)
   rw[hv]
   exact⟨rfl,.inl ⟨e,es,[],cQ _ _ _,aSo _,fun _=>by simp⟩⟩
 · rw[if_neg (by simpa using e1)] at hk
   exact h1.vr.slots t k hk
theorem SW.nilOwn {P:Program} {io:List Nat} {Q:Ex→St→Prop} {σ:St} {c:Code} (s j:Nat) (e:TypeId) (es:Nat) (hs:aS σ (.t s)=some (.v (.e (.c .nil)))) (hj:aS σ (.o j)=none)
 (h:mB σ [(.o j,.row e es []),(.t s,.v (.e (.c (.own j 0))))] (SW P io c Q)):SW P io c Q σ:=by
 rw[jW] at h
 intro cx ι S a w hio hw hf
 exact h cx _ S a w hio (hw.nilOwn e es hs hj) hf
theorem ai {a b:Prop} (x:a) (y:b):a∧b:=⟨x,y⟩
theorem vc {p:Prop} (h:p:=by first|trivial|exact aSf rfl|exact⟨rfl,aSf rfl⟩|omega|((repeat' apply And.intro)<;>first|trivial|rfl|exact aSf rfl|omega)|(simp;done)|(simp;omega)):p:=h
theorem rk {p:Prop} (h:p:=by intro h;(repeat' apply And.intro)<;>first|exact h|trivial):p:=h
theorem pk {p:Prop} (h:p:=by constructor<;>intro h<;>first|trivial|exact h|(simp[gb,de];done)|(simpa[gb,de] using h)|(simp only[gb,de] at *; grind)|(simp_all[gb,de];done)):p:=h
def OpE (P:Program) (o:Oper) (R:List (dD×Option K)) (Ws:List (dD×K)→Prop):Prop:=
 ∀(cx:Cx P) (σ:St) (ι:Nat→Value) (S:Nat→Prop) (a:Act) (w:World),bJ R σ→RW cx σ ι S a w→(∀d,o.dst=some d→d<cx.N)→
  ∀(next:Act→World→Prop) (Q:Exit→Act→World→Prop),(∀W,Ws W→ ∀ι' S' a' w',RW cx (hD σ W) ι' S' a' w'→next a' w')→o.wp P a w next Q
theorem wG.toE {P:Program} {o:Oper} {R:List (dD×Option K)} {W:List (dD×K)} (h:wG P o R W):OpE P o R (· =W):=
 fun cx σ ι S a w hr hw hd next Q hn=>h cx σ ι S a w hr hw hd next Q fun ι' S' a' w' hw'=>hn W rfl ι' S' a' w' hw'
def SpecE (P:Program) (f:FuncId) (n:Nat) (σin:St) (Qo:St→Prop):Prop:=
 da P f∧ ∀(ι ν:Nat→Value) (S:Nat→Prop) (w:World) (args:Array Value),(GB P w fun b=> ∃o,jY σin ι o b)→VR σin ι ν S w→args.size=n→(∀i,i<n→args[i]? =some (ν i))→
  Calls P f args w fun e w'=> ∃v ι' S' σout,Qo σout∧e= .returned v∧aJ0 σin ι S w σout ι' S' w' v
theorem mF {P:Program} {f:FuncId} {args:Array Value} {w:World} {Q Q':Ending→World→Prop} (hq: ∀e w',Q e w'→Q' e w') (h:Calls P f args w Q):Calls P f args w Q':=by
 intro cs
 obtain⟨e,w',fr,h1,h2⟩:=h cs
 exact⟨e,w',fr,hq e w' h1,h2⟩
theorem Spec.toE {P:Program} {f:FuncId} {n:Nat} {σin σout:St} {Qo:St→Prop} (h:Spec P f n σin σout) (hq:Qo σout):SpecE P f n σin Qo:=by
 refine⟨h.1,fun ι ν S w args h0 h1 h2 h3=>mF (fun e w'=> ?_) (h.2 ι ν S w args h0 h1 h2 h3)⟩
 rintro⟨v,ι',S',rfl,hp⟩
 exact⟨v,ι',S',σout,hq,rfl,hp⟩
def aKa (T:gB) (io:List Nat) (rs:List ResultVar) (Qo:St→Prop):Ex→St→Prop
 | .norm,s=> ∃σout,Qo σout∧yD T io rs σout s
 | .ret,s=> ∃σout,Qo σout∧yD T io rs σout s
 | .exit _,_=>False
theorem tv {P:Program} {T:gB} (hT:dK P T) {f:FuncId} {fn:Func} {c:Code} {n:Nat} {σin:St} {Qo:St→Prop} (hf:P.funcs[f]? =some fn) (hb:fn.body=some c) (hname: (fn.name== "runtime.NumGoroutine")=false) (hn:n≤fn.ntmps) (hfit:rR fn.ntmps c=true)
 (hsl:qR n σin=true) (h:SW P (bX σin) c (aKa T (bX σin) fn.results.toList Qo) σin):SpecE P f n σin Qo:=by
 refine⟨⟨fn,hf,by rw[hb];rfl,hname⟩,fun ι ν S w args hgb hvr hsz hargs=> ?_⟩
 have hnu: ∀s,s<n→(args++Array.replicate (fn.ntmps - args.size) undef).getD s undef=ν s:=by
  intro s hs
  rw[Array.getD_eq_getD_getElem?,Array.getElem?_append_left (by omega),hargs s hs];rfl
 let cx:Cx P:={N:=fn.ntmps,w0:=w,S0:=S,k0:=fun o=>aS σin (.o o),kio:=fun o=>aS σin (.o o),ι0:=ι,gb:=hgb.weak fun b ⟨o,k,q1,q2,q3⟩=>⟨o,⟨k,q1,q2⟩,q3⟩}
 have hM: ∀b,cx.M b↔ ∃o,jY σin ι o b:=fun b=>⟨fun⟨o,k,q1,q2,q3⟩=>⟨o,⟨k,q1,q2⟩,q3⟩,fun⟨o,⟨k,q1,q2⟩,q3⟩=>⟨o,k,q1,q2,q3⟩⟩
 have hw:RW cx σin ι S {tmps:=args++Array.replicate (fn.ntmps - args.size) undef,defers:=[]} w:=by
  refine⟨⟨fun s x hx=> ?_,hvr.objs,hvr.mutS,hvr.inj,hvr.sz⟩,?_,rfl,Fr.refl _ _,fun o b ⟨⟨k,q1,q2⟩,q3⟩=> .inr ⟨o,k,q1,q2,q3⟩,fun b hb=> .inl hb,fun o k hk=>⟨k,hk,lZ.refl' _ _⟩⟩
  · have hs:=sG hsl s _ hx
    have:gZ {tmps:=args++Array.replicate (fn.ntmps - args.size) undef,defers:=[]} s=ν s:=hnu s hs
    rw[this];exact hvr.slots s x hx
  · show(args++Array.replicate (fn.ntmps - args.size) undef).size=fn.ntmps
    simp;omega
 refine calls_of_wp hf hb (wp_mono (h cx ι S _ w (fun o k hk=>eR hk) hw hfit) fun e a' w' hq=> ?_)
 have fin: (∃σ' ι' S',(∃σout,Qo σout∧yD T (bX σin) fn.results.toList σout σ')∧RW cx σ' ι' S' a' w')→a'.defers=[]∧ ∃v,(results fn a'.tmps).run P w'= .ok v w'∧ ∃v_1 ι' S' σout,Qo σout∧Ending.returned v= .returned v_1∧aJ0 σin ι S w σout ι' S' w' v_1:=by
  rintro⟨σ',ι',S',⟨σout,hQo,X,rl,bor,hX,hm,hio⟩,hw'⟩
  obtain⟨v,hr,hv⟩:=og hT hw' hX
  refine⟨hw'.defers,v,hr,v,fun j=>ι' (jG rl j),oU σ' ι' bor S',σout,hQo,rfl,?_⟩
  have hlo: ∀o,aS ((dD.t 0,K.v X)::dO σ') (.o o)=aS σ' (.o o):=fun o=>by simp only[aS];rw[if_neg (by simp),oV]
  have st:pR σ' ι' S' w' ((dD.t 0,K.v X)::dO σ') ι' S' w':=⟨fun _ h=>h,fun _ _=>rfl,fun o k hk=>⟨k,by rw[hlo];exact hk,lZ.refl' _ _⟩⟩
  have hmut: ∀o b,jY ((dD.t 0,K.v X)::dO σ') ι' o b↔jY σ' ι' o b:=fun o b=>by unfold jY;rw[hlo]
  have hlt: ∀(r:St) s k,aS (dO r) (.t s)=some k→False:=by
   intro r s k
   induction r with
   |nil=>intro h;cases h
   |cons p r ih=>
    obtain⟨l,k'⟩:=p
    cases l with
    |t n=>exact ih
    |o n=>simp only[dO,aS];rw[if_neg (by simp)];exact ih
  have hvr0:VR ((dD.t 0,K.v X)::dO σ') ι' (fun _=>v) S' w':=by
   refine⟨fun s x hx=> ?_,fun o k hk=>OR.step st (fun _ _=>rfl) (hw'.vr.objs o k (by rw[← hlo];exact hk)),fun o b q=>hw'.vr.mutS o b ((hmut o b).1 q),fun o o' b q q'=>hw'.vr.inj o o' b ((hmut o b).1 q) ((hmut o' b).1 q'),hw'.vr.sz⟩
   simp only[aS] at hx
   split at hx
   · cases hx;exact kU.step st hv
   · exact(hlt σ' s _ hx).elim
  have hvr1:=tG hm (fun _ _ h=>h) hvr0
  have hio2: ∀o∈bX σin,iH o (bX σout)=false∨Nat.beq (jG rl o) o=true:=by simpa only[oh,aSu,Bool.or_eq_true,Bool.not_eq_true'] using hio
  have hgive: ∀b,oU ((dD.t 0,K.v X)::dO σ') ι' bor S' b→oU σ' ι' bor S' b:=fun b hb=>hb.imp id fun⟨o,ho,q⟩=>⟨o,ho,(hmut o b).1 q⟩
  refine⟨⟨hw'.fr.os,hw'.fr.tape,hw'.fr.output,hw'.fr.size,fun b hb hnm=>hw'.fr.block b hb (fun h=>hnm ((hM b).1 h))⟩,?_,fun b hb=> ?_,fun j b hmu=> ?_,fun o k k' hk hk'=> ?_⟩
  · have e:oU ((dD.t 0,K.v X)::dO σ') ι' bor S'=oU σ' ι' bor S':=by
     funext b;apply propext;exact⟨hgive b,fun hb=>hb.imp id fun⟨o,ho,q⟩=>⟨o,ho,(hmut o b).2 q⟩⟩
    rw[← e];exact hvr1
  · rcases hb with hb|⟨o,ho,hmo⟩
    · exact(hw'.rd b hb).imp id fun h=>h.imp id fun h=>(hM b).1 h
    · exact .inr ((hw'.own o b hmo).imp id fun h=>(hM b).1 h)
  · exact(hw'.own _ b ((hmut _ b).1 (hm.mut (fun _ _ h=>h) hmu))).imp id fun h=>(hM b).1 h
  · have hren:jG rl o=o:=by
     rcases hio2 o (eR hk) with h4|h4
     · rw[gC.2 (eR hk')] at h4;cases h4
     · exact Nat.eq_of_beq_eq_true h4
    obtain⟨k1,hk1,hev⟩:=hw'.io o k hk
    have hev:lZ (ι o) (ι' o) k k1:=hev
    obtain⟨k2,hk2,hmk⟩:=hm.ids o k' hk'
    rw[hren,hlo,hk1] at hk2;cases hk2
    rw[hren]
    exact yk hev hmk
 cases e with
 |normal=>
  obtain⟨σ',ι',S',h1,h2⟩:=hq
  exact fin ⟨σ',ι',S',h1,h2⟩
 |ret=>
  obtain⟨σ',ι',S',h1,h2⟩:=hq
  exact fin ⟨σ',ι',S',h1,h2⟩
 |exit id=>obtain⟨σ',ι',S',h1,h2⟩:=hq;exact h1.elim
 |goto l=>exact hq.elim
 |panic ch=>exact hq.elim
 |outgrown=>exact hq.elim
section
variable {P:Program} {f:FuncId} {n:Nat} {σin:St} {Qo:St→Prop} {rl:List (Nat×Nat)} {bor:List Nat} {σ0:St} {Xs:List V} {Ra:List (dD×Option K)} {robj:List (Nat×K)} {news:List Nat}
def aKb (Ra:List (dD×Option K)) (robj:List (Nat×K)) (rl:List (Nat×Nat)) (news:List Nat):List (dD×Option K):=
 Ra++robj.map (fun p=>(.o p.1,some p.2))++news.map fun j=>(.o (jG rl j),none)
theorem wl (hs:SpecE P f n σin Qo) {o:Oper} {c:Call} (ho:o.op= .call c) (hc:c.callee= .value (.func f)) (hx:evA σ0 c.args.toList=some (Xs,Ra)) (hn:Xs.length=n)
 (hm:nK (eH 0 Xs++pU robj) σin rl bor) (hq: ∀σout,Qo σout→jN rl σin σout=true∧(bor=[]∨mA σout)∧ ∀j∈nE σin σout,j∈news):
 OpE P o (aKb Ra robj rl news) fun W=> ∃σout,Qo σout∧W=sC rl σin σout o.dst:=by
 intro cx σ ι S a w hr hw hd next Q hnext
 obtain⟨⟨fn,hf,hbody,hname⟩,hcall⟩:=hs
 obtain⟨hlen,hargs⟩:=jk hw hx hr.left.left
 let args:Array Value:=c.args.map a.eval
 let ν:Nat→Value:=fun i=>(args[i]?).getD undef
 have hsz:args.size=n:=by show(c.args.map a.eval).size=n;rw[Array.size_map,← hn,hlen,Array.length_toList]
 have hargν: ∀i,i<n→args[i]? =some (ν i):=fun i hi=>by
  show args[i]? =some ((args[i]?).getD undef)
  rw[Array.getElem?_eq_getElem (by omega)];rfl
 have hνr: ∀s X,Xs[s]? =some X→kU σ ι w S X (ν s):=fun s X hX=>by
  obtain⟨x,h1,h2⟩:=hargs s X hX
  have:ν s=a.eval x:=by
   show((c.args.map a.eval)[s]?).getD undef=a.eval x
   rw[Array.getElem?_toList] at h1
   rw[Array.getElem?_map,h1];rfl
  rw[this];exact h2
 have hlo: ∀o,aS (eH 0 Xs++dO σ) (.o o)=aS σ (.o o):=fun o=>by rw[jZ,oV]
 have st:pR σ ι S w (eH 0 Xs++dO σ) ι S w:=⟨fun _ h=>h,fun _ _=>rfl,fun o k hk=>⟨k,by rw[hlo];exact hk,lZ.refl' _ _⟩⟩
 have hmut: ∀o b,jY (eH 0 Xs++dO σ) ι o b↔jY σ ι o b:=fun o b=>by unfold jY;rw[hlo]
 have hvr0:VR (eH 0 Xs++dO σ) ι ν S w:=by
  refine⟨fun s x hx=> ?_,fun o k hk=>OR.step st (fun _ _=>rfl) (hw.vr.objs o k (by rw[← hlo];exact hk)),fun o b q=>hw.vr.mutS o b ((hmut o b).1 q),fun o o' b q q'=>hw.vr.inj o o' b ((hmut o b).1 q) ((hmut o' b).1 q'),hw.vr.sz⟩
  obtain⟨X,h1,h2⟩:=yE hx
  cases h2
  exact kU.step st (hνr s _ h1)
 have hsub: ∀l k,aS (eH 0 Xs++pU robj) l=some k→aS (eH 0 Xs++dO σ) l=some k:=fun l k h=>by
  cases l with
  |o o=>
   rw[hlo]
   rw[jZ] at h
   exact hr (.o o,some k) (List.mem_append_left _ (List.mem_append_right _ (aSq.2 ⟨(o,k),db h,rfl⟩)))
  |t s=>
   obtain⟨X,h1,rfl⟩:=tH h
   have hs:=(aSm.1 h1).1
   rw[nZ 0 Xs _ s (aSj _) (by omega)];simp[h1]
 have hvr1:=tG hm hsub hvr0
 have hgb:GB P w fun b=> ∃o,jY σin (fun j=>ι (jG rl j)) o b:=fun w2 h2=>cx.gb w2 (hw.fr.trans h2 fun x hx ⟨o,ho⟩=>by
  rcases hw.own _ x ((hmut _ _).1 (hm.mut hsub ho)) with h3|h3
  · omega
  · exact h3)
 have hcl:=hcall _ ν _ w args hgb hvr1 hsz hargν
 obtain⟨callee,cargs,argTypes⟩:=c
 dsimp only at hc
 subst hc
 have hbd: ∃cd,fn.body=some cd:=by
  cases hq:fn.body with
  |none=>rw[hq] at hbody;cases hbody
  |some cd=>exact⟨cd,rfl⟩
 obtain⟨cd,hbd⟩:=hbd
 have hrun: (execOp a.eval o).run P w= .ok (.enter f args) w:=by
  have h1:=MuLone.run_callFunc_enter (P:=P) hf hname hbd args w
  have e: (execOp a.eval o).run P w=(callFunc f (args++ #[])).run P w:=by
   simp[execOp,ho,resolve,invoke,Deferred.ofValue,args,Act.eval]
  rw[e,Array.append_empty];exact h1
 unfold Oper.wp
 rw[hrun,Oper.upon_enter]
 intro cs
 obtain⟨e,w',fr,⟨v,ι',S',σout,hQo,rfl,hpost⟩,hcomes⟩:=hcl cs
 refine⟨_,w',fr,?_,hcomes⟩
 dsimp only
 obtain⟨hk,hb,hnw⟩:=hq σout hQo
 have hr':bJ (lp Ra robj rl σin σout) σ:=by
  intro p hp
  rcases List.mem_append.1 hp with hp|hp
  · exact hr p (List.mem_append_left _ hp)
  · obtain⟨j,hj,rfl⟩:=aSq.1 hp
    exact hr (.o (jG rl j),none) (List.mem_append_right _ (aSq.2 ⟨j,hnw j hj,rfl⟩))
 have hrw:=aGi (Ra:=Ra) hm hk hb hr' hw hνr hpost
 have hSK: ∀{l:dD} {k:K},aS σout l=some k→(∀b,S' b→(S b∨(bor=[]∧S' b)))∨uG k:=fun{l k} h=>by
  rcases hb with e|hs
  · exact .inl fun b hb=> .inr ⟨e,hb⟩
  · exact .inr (hs (l,k) (tE h))
 have hnext:=hnext _ ⟨σout,hQo,rfl⟩
 cases hdst:o.dst with
 |none=>
  refine hnext (nL rl σout ι' ι) (fun b=>S b∨(bor=[]∧S' b)) _ w' ?_
  rw[hdst]
  simp only[sC,tt,List.append_nil]
  exact hrw
 |some d=>
  have hd':=hd d hdst
  cases hq:aS σout (.t 0) with
  |none=>
   refine hnext (nL rl σout ι' ι) (fun b=>S b∨(bor=[]∧S' b)) _ w' ?_
   rw[hdst]
   simp only[sC,tt,oH,hq,hD]
   exact hrw.putDead hd' v
  |some k=>
   cases k with
   |v X=>
    refine hnext (nL rl σout ι' ι) (fun b=>S b∨(bor=[]∧S' b)) _ w' ?_
    rw[hdst]
    simp only[sC,tt,oH,hq,hD]
    exact hrw.put hd' (aGh hk (hSK hq) (hpost.vr.slots 0 (.v X) hq))
   |_=>
    refine hnext (nL rl σout ι' ι) (fun b=>S b∨(bor=[]∧S' b)) _ w' ?_
    rw[hdst]
    simp only[sC,tt,oH,hq,hD]
    exact hrw.putDead hd' v
end
theorem RW.weaken {P:Program} {cx:Cx P} {io:List Nat} {σ:St} {ι:Nat→Value} {S:Nat→Prop} {a:Act} {w:World} (σ':St) (rl:List (Nat×Nat)) (bor:List Nat) (hm:nK σ σ' rl bor) (hk:wR io σ' rl bor=true) (hio: ∀o k,cx.kio o=some k→o∈io) (hw:RW cx σ ι S a w):RW cx σ' (fun j=>ι (jG rl j)) (oU σ ι bor S) a w:=by
 have hkk: ∀o k,cx.kio o=some k→jG rl o=o∧o∈bX σ'∧o∉bor:=fun o k ho=>by
  have:=aSu.1 hk o (hio o k ho)
  simp only[aSg,Bool.not_eq_true'] at this
  refine⟨Nat.eq_of_beq_eq_true this.1.1,gC.1 this.1.2,fun hb=> ?_⟩
  rw[gC.2 hb] at this;cases this.2
 have hvr:=tG hm (fun _ _ h=>h) hw.vr
 refine⟨hvr,hw.size,hw.defers,hw.fr,fun j b hmu=> ?_,fun b hb=> ?_,fun o k ho=> ?_⟩
 · exact hw.own _ b (hm.mut (fun _ _ h=>h) hmu)
 · rcases hb with hb|⟨o,ho,hmo⟩
   · exact hw.rd b hb
   · exact .inr (hw.own o b hmo)
 · obtain⟨q1,q2,q3⟩:=hkk o k ho
   obtain⟨k1,hk1,hev⟩:=hw.io o k ho
   obtain⟨p,hp⟩:=oT q2
   obtain⟨k2,hk2,hmk⟩:=hm.ids o p hp
   rw[q1] at hk2
   rw[hk1] at hk2;cases hk2
   refine⟨p,hp,?_⟩
   rw[q1]
   exact yk hev hmk
theorem RW.freeze {P:Program} {cx:Cx P} {σ:St} {ι:Nat→Value} {S:Nat→Prop} {a:Act} {w:World} (hw:RW cx σ ι S a w) {s o n:Nat} {e:TypeId} {es:Nat} {rows:List (List D)} (hs:aS σ (.t s)=some (.v (.e (.c (.own o n))))) (ho:aS σ (.o o)=some (.row e es rows)) (hn:rows.length=n):
 RW cx (oO (oO σ (.o o) .dead) (.t s) (.v (Dv (.sl rows)))) ι (fun b=>S b∨wF (ι o) b) a w:=by
 have hlo: ∀o',aS (oO (oO σ (.o o) .dead) (.t s) (.v (Dv (.sl rows)))) (.o o')=if o'=o then some .dead else aS σ (.o o'):=fun o'=>by
  rw[cI _ _ (by simp),nJ]
  by_cases h:o'=o
  · subst h;simp
  · rw[if_neg (by simpa using fun e=>h e.symm),if_neg h]
 have hmut: ∀o' b,jY (oO (oO σ (.o o) .dead) (.t s) (.v (Dv (.sl rows)))) ι o' b→o'≠o∧jY σ ι o' b:=fun o' b ⟨⟨k,hk,hl⟩,hb⟩=>by
  rw[hlo] at hk
  by_cases h:o'=o
  · rw[if_pos h] at hk;cases hk;exact hl.elim
  · rw[if_neg h] at hk;exact⟨h,⟨k,hk,hl⟩,hb⟩
 have hmo: ∀b,wF (ι o) b→jY σ ι o b:=fun b hb=>⟨⟨_,ho,trivial⟩,hb⟩
 have st:pR σ ι S w (oO (oO σ (.o o) .dead) (.t s) (.v (Dv (.sl rows)))) ι (fun b=>S b∨wF (ι o) b) w:=by
  refine⟨fun b h=> .inl h,fun _ _=>rfl,fun o' k hk=> ?_⟩
  by_cases h:o'=o
  · exact⟨.dead,by rw[hlo,if_pos h],by cases k<;>simp[lZ]⟩
  · exact⟨k,by rw[hlo,if_neg h];exact hk,lZ.refl' _ _⟩
 have hrow:=hw.vr.objs o _ ho
 have hv:gZ a s=ι o:=by
  obtain⟨_,h2⟩:=(show CR σ ι w S (.own o n) (gZ a s) from hw.vr.slots s _ hs)
  rcases h2 with⟨e2,es2,rows2,hl,_,hv⟩|hd
  · rw[ho] at hl;cases hl;exact hv hn
  · rw[ho] at hd;cases hd
 refine⟨⟨fun t k hkt=> ?_,fun o' k hk=> ?_,fun o' b hm hS=> ?_,fun o1 o2 b h1 h2=> ?_,fun b hb=> ?_⟩,hw.size,hw.defers,hw.fr,fun o' b hm=>hw.own o' b (hmut o' b hm).2,fun b hb=> ?_,fun o' k hk'=> ?_⟩
 · rw[nJ] at hkt
   by_cases e2:s=t
   · subst e2
     rw[if_pos rfl] at hkt;cases hkt
     show DR w _ (.sl rows) (gZ a s)
     rw[hv]
     rcases hrow with⟨h1,h2⟩|⟨g,off,cap,cur,fz,h1,hh,hfz,h2,h3,h4,h5⟩
     · rw[h1,h2]
       exact DR.sl [] none 0 es ⟨0,0,none⟩ (fun _ _=>undef) (aSo _) (by decide) (by simp) (by simp) (by simp) (by simp)
     · rw[h1]
       let u:Nat→Nat→Value:=fun i k=>(cur[off+i*es+k]?).getD undef
       refine DR.sl rows (some ⟨g,off,none⟩) cap es ⟨g,off,none⟩ u h2 h3 (fun r hr=> ?_) (fun _=>rfl) (fun i r k d hi hd=> ?_) (fun i r k d hi hd=> ?_)
       · obtain⟨i,hi⟩:=List.mem_iff_getElem?.1 hr
         exact(h5 i r hi).1
       · obtain⟨v,hv1,_⟩:=(h5 i r hi).2 k d hd
         refine⟨.inr rfl,?_⟩
         rw[kL,cell_of_row w g _ cur e fz hh,← Nat.add_assoc]
         show cur[off+i*es+k]? =some ((cur[off+i*es+k]?).getD undef)
         rw[hv1];rfl
       · obtain⟨v,hv1,hv2⟩:=(h5 i r hi).2 k d hd
         have:u i k=v:=by show(cur[off+i*es+k]?).getD undef=v;rw[hv1];rfl
         rw[this]
         exact DR.mono (fun b h=> .inl h) (fun _ _=>rfl) hv2
   · rw[if_neg (by simpa using e2),cI _ _ (by simp)] at hkt
     exact pS.step st (hw.vr.slots t k hkt)
 · rw[hlo] at hk
   by_cases h:o'=o
   · rw[if_pos h] at hk;cases hk;trivial
   · rw[if_neg h] at hk
     exact OR.step st (fun _ _=>rfl) (hw.vr.objs o' k hk)
 · obtain⟨hne,hm⟩:=hmut o' b hm
   rcases hS with hS|hS
   · exact hw.vr.mutS o' b hm hS
   · exact hne (hw.vr.inj o' o b hm (hmo b hS))
 · exact hw.vr.inj o1 o2 b (hmut o1 b h1).2 (hmut o2 b h2).2
 · rcases hb with hb|hb
   · exact hw.vr.sz b hb
   · exact OR.lt hrow trivial hb
 · rcases hb with hb|hb
   · exact hw.rd b hb
   · exact .inr (hw.own o b (hmo b hb))
 · obtain⟨k2,q1,q2⟩:=hw.io o' k hk'
   by_cases hne:o'=o
   · exact⟨.dead,by rw[hlo,if_pos hne],by cases k<;>trivial⟩
   · exact⟨k2,by rw[hlo,if_neg hne];exact q1,q2⟩
def pa (io:List Nat) (σ σ1:St):Prop:= ∀(P:Program) (cx:Cx P) (ι:Nat→Value) (S:Nat→Prop) (a:Act) (w:World),(∀o k,cx.kio o=some k→o∈io)→RW cx σ ι S a w→ ∃ι' S',RW cx σ1 ι' S' a w
theorem pa.rfl {io:List Nat} {σ:St}:pa io σ σ:=fun _ cx ι S a w _ h=>⟨ι,S,h⟩
theorem pa.trans {io:List Nat} {σ σ1 σ2:St} (h:pa io σ σ1) (k:pa io σ1 σ2):pa io σ σ2:=fun _ cx ι S a w hio hw=>by
 obtain⟨ι1,S1,h1⟩:=h _ cx ι S a w hio hw
 exact k _ cx ι1 S1 a w hio h1
theorem pa.weak {io:List Nat} {σ σ1:St} (rl:List (Nat×Nat)) (bor:List Nat) (hm:mL σ σ1 rl bor σ1) (hm2:yC σ1 rl bor=true) (hk:wR io σ1 rl bor=true):pa io σ σ1:=fun _ cx ι S a w hio hw=>⟨_,_,RW.weaken σ1 rl bor ⟨hm,hm2⟩ hk hio hw⟩
theorem pa.frz {io:List Nat} {σ:St} {s o n:Nat} {e:TypeId} {es:Nat} {rows:List (List D)} (hs:aS σ (.t s)=some (.v (.e (.c (.own o n))))) (ho:aS σ (.o o)=some (.row e es rows)) (hn:rows.length=n) (hk:iH o io=false):pa io σ (oO (oO σ (.o o) .dead) (.t s) (.v (Dv (.sl rows)))):=fun _ cx ι S a w hio hw=>
 ⟨_,_,hw.freeze hs ho hn⟩
theorem SW.frz {P:Program} {io:List Nat} {Q:Ex→St→Prop} {σ:St} {c:Code} (s o:Nat) {n:Nat} {e:TypeId} {es:Nat} {rows:List (List D)} (hs:aS σ (.t s)=some (.v (.e (.c (.own o n))))) (ho:aS σ (.o o)=some (.row e es rows)) (hn:rows.length=n) (hk:iH o io=false)
 (h:mw σ (.o o) .dead fun σ'=>mw σ' (.t s) (.v (Dv (.sl rows))) fun σ2=>SW P io c Q σ2):SW P io c Q σ:=fun cx ι S a w hio hw hf=>by
 rw[nM,nM] at h
 obtain⟨ι1,S1,h1⟩:=pa.frz hs ho hn hk _ cx ι S a w hio hw
 exact h cx ι1 S1 a w hio h1 hf
def wm (P:Program) (T:gB) (io:List Nat) (o:Oper) (σ:St) (k:St→Prop):Prop:=
 match jn T o σ with
 |some (p,_,W)=>p∧mB σ W k
 |none=> ∃σ1,pa io σ σ1∧ ∃R Ws,OpE P o R Ws∧bJ R σ1∧ ∀W,Ws W→mB σ1 W k
theorem ly {P:Program} {T:gB} (hT:dK P T) {io:List Nat} {o:Oper} {σ:St} {k:St→Prop} (h:wm P T io o σ k): ∃σ1,pa io σ σ1∧ ∃R Ws,OpE P o R Ws∧bJ R σ1∧ ∀W,Ws W→mB σ1 W k:=by
 unfold wm at h
 split at h
 · rename_i p R W he
   obtain⟨h1,h2⟩:=uI hT o σ p R W he h.1
   exact⟨σ,pa.rfl,R,_,h1.toE,h2,fun W' e=>by subst e;exact h.2⟩
 · exact h
def goE (P:Program) (T:gB) (io:List Nat) (ops:List Oper):List Oper→St→(St→Prop)→Prop
 | [],σ,k=>k σ
 |o::os,σ,k=>match o.guard with
  |none=>wm P T io o σ fun σ'=>goE P T io ops os σ' k
  |some (j,want)=>match(ops[j]?).bind (·.dst),o.dst with
   |some s,some d=>match gOf want (aS σ (.t s)) with
    |some g=>fb P T o σ s want g d fun R X=>mw σ (.t d) (.cv s want g X) fun σ'=>goE P T io ops os σ' k
    |none=>False
   |_,_=>False
theorem jp {P:Program} {T:gB} (hT:dK P T) {io:List Nat} {ops:Array Oper} {cx:Cx P} (hio: ∀o k,cx.kio o=some k→o∈io) {Q:Exit→Act→World→Prop} {k:St→Prop} (hk: ∀σ ι S a w,k σ→RW cx σ ι S a w→Q .normal a w): ∀(l:List Oper) (σ:St) (ι:Nat→Value) (S:Nat→Prop) (a:Act) (w:World),goE P T io ops.toList l σ k→RW cx σ ι S a w→(∀o∈l,∀d,o.dst=some d→d<cx.N)→wpList P ops Q l a w
 | [],σ,ι,S,a,w,h,hw,hf=>hk σ ι S a w h hw
 |o::os,σ,ι,S,a,w,h,hw,hf=>by
  have hfo:=hf o (List.mem_cons_self ..)
  have hfs: ∀o∈os,∀d,o.dst=some d→d<cx.N:=fun o ho=>hf o (List.mem_cons_of_mem _ ho)
  unfold wpList
  simp only[goE] at h
  split at h
  · rename_i hg
    obtain⟨σ1,hwk,R,Ws,h1,h2,h3⟩:=ly hT h
    rw[if_pos (by simp[Region.wanted,hg])]
    obtain⟨ι1,S1,hw1⟩:=hwk _ cx ι S a w hio hw
    refine .inl (h1 cx σ1 ι1 S1 a w h2 hw1 hfo _ Q fun W hW ι' S' a' w' hw'=> ?_)
    have h3:=h3 W hW
    rw[jW] at h3
    exact jp hT hio hk os _ ι' S' a' w' h3 hw' hfs
  · rename_i j want hg
    split at h<;>try(exact h.elim)
    rename_i s d hs hd
    split at h<;>try(exact h.elim)
    rename_i g hl
    have hs': (ops[j]?).bind (·.dst)=some s:=by simpa using hs
    obtain⟨R,X,h1,h2⟩:=zD hT hg hs' hd hl h
    rw[nM] at h2
    exact h1 cx σ ι S a w wU hw hfo _ Q fun ι' S' a' w' hw'=>jp hT hio hk os _ ι' S' a' w' (by simpa[hD] using h2) hw' hfs
section
variable {P:Program} {io:List Nat} {Q:Ex→St→Prop} {σ:St}
theorem SW.regE {T:gB} (hT:dK P T) (ks:List Nat) {id:Nat} {ops:Array Oper} (h:goE P T io ops.toList ops.toList σ fun σ'=>pV ks σ' (Q .norm)):SW P io (.region id ops false) Q σ:=by
 intro cx ι S a w hio hw hf
 have hfit: ∀o∈ops.toList,∀d,o.dst=some d→d<cx.N:=fun o ho=>wK (by simpa[rR] using hf) ho
 refine wp_region_list (jp hT hio (fun σ' ι' S' a' w' h4 hw'=> ?_) ops.toList σ ι S a w h hw hfit)
 rw[lN] at h4
 exact⟨_,ι',S',h4,hw'.keep ks⟩
end
section
variable {P:Program} {T:gB} {io:List Nat} {f:FuncId} {n:Nat} {σin:St} {o:Oper} {c:Call} {d:Nat} {σ σ1:St} {Xs:List V} {Ra:List (dD×Option K)}
theorem cU {Qo:St→Prop} {rl:List (Nat×Nat)} {bor news:List Nat} {robj:List (Nat×K)} {k:St→Prop} (hs:SpecE P f n σin Qo) (ho:o.op= .call c) (hc:c.callee= .value (.func f)) (hx:evA σ c.args.toList=some (Xs,Ra)) (hn:Xs.length=n)
 (hm:nK (eH 0 Xs++pU robj) σin rl bor) (hq: ∀σout,Qo σout→jN rl σin σout=true∧(bor=[]∨mA σout)∧ ∀j∈nE σin σout,j∈news) (h1: ∀p∈robj,aS σ (.o p.1)=some p.2) (h2: ∀j∈news,aS σ (.o (jG rl j))=none)
 (h: ∀σout,Qo σout→mB σ (sC rl σin σout o.dst) k): ∃σ1,pa io σ σ1∧ ∃R Ws,OpE P o R Ws∧bJ R σ1∧ ∀W,Ws W→mB σ1 W k:=by
 refine⟨σ,pa.rfl,_,_,wl hs ho hc hx hn hm hq,fun p hp=> ?_,fun W ⟨σout,hQ,e⟩=>e▸h σout hQ⟩
 rcases List.mem_append.1 hp with hp|hp
 · rcases List.mem_append.1 hp with hp|hp
   · exact sV hx p hp
   · obtain⟨q,hq,rfl⟩:=aSq.1 hp
     exact h1 q hq
 · obtain⟨j,hj,rfl⟩:=aSq.1 hp
   exact h2 j hj
theorem wW {k:St→Prop} (s o':Nat) {m:Nat} {e:TypeId} {es:Nat} {rows:List (List D)} (hs:aS σ (.t s)=some (.v (.e (.c (.own o' m))))) (ho:aS σ (.o o')=some (.row e es rows)) (hn:rows.length=m) (hk:iH o' io=false)
 (h:mw σ (.o o') .dead fun σ'=>mw σ' (.t s) (.v (Dv (.sl rows))) fun σ2=> ∃σ1,pa io σ2 σ1∧ ∃R Ws,OpE P o R Ws∧bJ R σ1∧ ∀W,Ws W→mB σ1 W k): ∃σ1,pa io σ σ1∧ ∃R Ws,OpE P o R Ws∧bJ R σ1∧ ∀W,Ws W→mB σ1 W k:=by
 rw[nM,nM] at h
 obtain⟨σ1,h1,h2⟩:=h
 exact⟨σ1,(pa.frz hs ho hn hk).trans h1,h2⟩
theorem gQ {k:St→Prop} (h: ∃R W,wG P o R W∧bJ R σ∧mB σ W k): ∃σ1,pa io σ σ1∧ ∃R Ws,OpE P o R Ws∧bJ R σ1∧ ∀W,Ws W→mB σ1 W k:=by
 obtain⟨R,W,h1,h2,h3⟩:=h
 exact⟨σ,pa.rfl,R,_,h1.toE,h2,fun W' e=>by subst e;exact h3⟩
end
theorem cS {T:gB} {io:List Nat} {rs:List ResultVar} {Qo:St→Prop} {s:St} (σout:St) (hq:Qo σout) (h:yD T io rs σout s): ∃σout,Qo σout∧yD T io rs σout s:=⟨σout,hq,h⟩
def pb (p v:Value):Prop:= ∃vs,p= .tuple vs∧v∈vs.toList
abbrev my (b tot:Nat):Value:= .slice (some ⟨b,0,none⟩) tot tot
def fe (w:World) (S:Nat→Prop) (e:TypeId) (es:Nat) (Pr:List D→Prop) (b tot:Nat):Prop:=
 ∃(cur:Array Value) (fz:Nat×Nat),w.heap[b]? =some (.cells cur e fz)∧aJi fz cur.size∧cur.size=tot*es∧ ∀i,i<tot→ ∃r:List D,r.length=es∧Pr r∧ ∀(k:Nat) d,r[k]? =some d→ ∃u,cur[i*es+k]? =some u∧DR w S d u
theorem fe.mono {w w':World} {S S':Nat→Prop} {e:TypeId} {es:Nat} {Pr:List D→Prop} {b tot:Nat} (hS: ∀b,S b→S' b) (hw: ∀b,S b→w'.heap[b]? =w.heap[b]?) (hb:w'.heap[b]? =w.heap[b]?) (h:fe w S e es Pr b tot):fe w' S' e es Pr b tot:=by
 obtain⟨cur,fz,hh,hf,hs,hr⟩:=h
 refine⟨cur,fz,by rw[hb];exact hh,hf,hs,fun i hi=> ?_⟩
 obtain⟨r,q1,q2,q3⟩:=hr i hi
 exact⟨r,q1,q2,fun k d hk=>by obtain⟨u,hu,hd⟩:=q3 k d hk;exact⟨u,hu,DR.mono hS hw hd⟩⟩
def aKc (e:TypeId) (es:Nat) (Pr:List D→Prop):ej where
 le p q:= ∀v,pb p v→pb q v
 R w S p:=(∃vs,p= .tuple vs)∧ ∀v,pb p v→ ∃b tot,v=my b tot∧fe w S e es Pr b tot
 refl _ _ h:=h
 trans h k v hv:=k v (h v hv)
 mono:=by
  intro w w' S S' p hS hw hb ⟨h1,h2⟩
  refine⟨h1,fun v hv=> ?_⟩
  obtain⟨b,tot,rfl,hp⟩:=h2 v hv
  obtain⟨vs,rfl,hm⟩:=hv
  exact⟨b,tot,rfl,hp.mono hS hw (hb b ⟨_,hm,rfl⟩)⟩
 lt:=by
  intro w S p b ⟨⟨vs,hp⟩,h2⟩ hb
  subst hp
  obtain⟨v,hv,hbv⟩:=hb
  obtain⟨b',tot,rfl,cur,fz,hh,_⟩:=h2 v ⟨vs,rfl,hv⟩
  simp[blk] at hbv;subst hbv
  exact(Array.getElem?_eq_some_iff.1 hh).1
abbrev aI (e:TypeId) (es:Nat) (Pr:List D→Prop):K:= .zone (aKc e es Pr)
def slQ (es n:Nat) (p v:Value):Prop:=(v= .slice none 0 0∧n=0)∨ ∃b i0 cap tot,v= .slice (some ⟨b,i0*es,none⟩) n cap∧n≤cap∧cap≤maxLen∧i0+cap≤tot∧pb p (my b tot)
def ptQ (es k:Nat) (p v:Value):Prop:= ∃b i tot,v= .pointer (some ⟨b,i*es+k,none⟩)∧i<tot∧pb p (my b tot)
abbrev ps (j es n:Nat):C:= .z j (slQ es n)
theorem slQ.mono {es n:Nat} {p p' v:Value} (h: ∀v,pb p v→pb p' v) (hq:slQ es n p v):slQ es n p' v:=by
 rcases hq with hq|⟨b,i0,cap,tot,q1,q2,q3,q4,q5⟩
 · exact .inl hq
 · exact .inr ⟨b,i0,cap,tot,q1,q2,q3,q4,h _ q5⟩
theorem ptQ.mono {es n:Nat} {p p' v:Value} (h: ∀v,pb p v→pb p' v) (hq:ptQ es n p v):ptQ es n p' v:=by
 obtain⟨b,i,tot,q1,q2,q3⟩:=hq
 exact⟨b,i,tot,q1,q2,h _ q3⟩
theorem slQ.one {es n:Nat} {p v:Value} (h:slQ es n p v):v.oneCell'=true:=by
 rcases h with⟨rfl,_⟩|⟨b,i0,cap,tot,rfl,_⟩<;>rfl
section
variable {P:Program} {T:gB} {cx:Cx P} {σ:St} {ι:Nat→Value} {S:Nat→Prop} {a:Act} {w:World} {j es n:Nat} {e:TypeId} {Pr:List D→Prop} {Z:ej} {Q:Value→Value→Prop} {v:Value}
theorem rJ (h:CR σ ι w S (.z j Q) v) (hl:aS σ (.o j)=some (.zone Z)):Q (ι j) v:=by
 rcases h.2 with⟨Z',hl',hq⟩|hd
 · rw[hl] at hl';cases hl';exact hq _ (Z.refl _)
 · rw[hl] at hd;cases hd
theorem aGm (hl:aS σ (.o j)=some (aI e es Pr)) (hq:slQ es n (ι j) v):CR σ ι w S (ps j es n) v:=⟨hq.one,.inl ⟨_,hl,fun p hp=>hq.mono hp⟩⟩
theorem aOk {k:Nat} (hl:aS σ (.o j)=some (aI e es Pr)) (hq:ptQ es k (ι j) v):CR σ ι w S (.z j (ptQ es k)) v:=
 ⟨by obtain⟨b,i,tot,rfl,_⟩:=hq;rfl,.inl ⟨_,hl,fun p hp=>hq.mono hp⟩⟩
theorem ff (hv:OR σ ι w S (ι j) (aI e es Pr)) (hl:aS σ (.o j)=some (aI e es Pr)) {b tot:Nat} (hb:pb (ι j) (my b tot)):fe w S e es Pr b tot∧jY σ ι j b:=by
 obtain⟨h1,h2⟩:=hv
 obtain⟨b',tot',he,hp⟩:=h2 _ hb
 cases he
 exact⟨hp,⟨_,hl,trivial⟩,by obtain⟨vs,e,hm⟩:=hb;rw[e];exact⟨_,hm,rfl⟩⟩
end
section
variable {P:Program} {T:gB} {o:Oper} {σ:St} {x y:Operand} {t e:TypeId} {s1 s2 d j es n:Nat} {s3:List C} {Z:ej} {R R2:List (dD×Option K)} {k:List (dD×Option K)→List (dD×K)→Prop} {Pr:List D→Prop} {ti:TI}
theorem dg (hT:dK P T) (ho:o.op= .call {callee:= .builtin .len,args:= #[x],argTypes:= #[t]}) (hd:o.dst=some d) (ht:T t=some ⟨.sl e,s1,s2,s3⟩) (hx:ev σ x=some (.e (.c (ps j es n)),R)) (hl:aS σ (.o j)=some (.zone Z))
 (h:k (R++[(.o j,some (.zone Z))]) [(.t d,.v (I n))]): ∃R W,wG P o R W∧bJ R σ∧k R W:=by
 have hu:=(hT t _ ht).kind
 simp only[kW] at hu
 refine⟨_,_,mT hd fun cx σ' ι S a w hr hw=> ?_,(cZ hx).append (bJ.one hl),h⟩
 have hl':=hr.right (.o j,some (.zone Z)) (by simp)
 dsimp only at hl'
 have hq:slQ es n (ι j) (a.eval x):=rJ (S:=S) (w:=w) (dA hx hr.left hw) hl'
 rcases hq with⟨hv,rfl⟩|⟨b,i0,cap,tot,hv,_⟩
 · exact⟨_,by simp[execOp,ho,hv,resolve,invoke,builtin,Builtin.len_,run_underlying hu]<;>rfl,.i _⟩
 · exact⟨_,by simp[execOp,ho,hv,resolve,invoke,builtin,Builtin.len_,run_underlying hu]<;>rfl,.i _⟩
theorem aEm {m:Int} (hT:dK P T) (ho:o.op= .indexAddr t x y) (hd:o.dst=some d) (ht:T t=some ⟨.sl e,s1,s2,s3⟩) (hte:T e=some ti) (hes:ti.size=es) (hx:ev σ x=some (.e (.c (ps j es n)),R)) (hy:ev σ y=some (I m,R2)) {e':TypeId} (hl:aS σ (.o j)=some (aI e' es Pr))
 (hm:0≤m∧m<n) (h:k (R++R2++[(.o j,some (aI e' es Pr))]) [(.t d,.v (.e (.c (.z j (ptQ es 0)))))]): ∃R W,wG P o R W∧bJ R σ∧k R W:=by
 have hu:=(hT t _ ht).kind
 simp only[kW] at hu
 refine⟨_,_,mT hd fun cx σ' ι S a w hr hw=> ?_,((cZ hx).append (cZ hy)).append (bJ.one hl),h⟩
 have hl':=hr.right (.o j,some (aI e' es Pr)) (by simp)
 dsimp only at hl'
 have hq:slQ es n (ι j) (a.eval x):=rJ (S:=S) (w:=w) (dA hx hr.left.left hw) hl'
 have hY:=dA hy hr.left.right hw
 simp only[kU,ER,CR] at hY
 cases hv2:a.eval y<;>rw[hv2] at hY<;>cases hY
 rcases hq with⟨hv,rfl⟩|⟨b,i0,cap,tot,hv,q2,q3,q4,q5⟩
 · have:=hm.1;have:=hm.2;omega
 · refine⟨.pointer (some ⟨b,(i0+m.toNat)*es+0,none⟩),?_,aOk (S:=S) (w:=w) hl' ⟨b,i0+m.toNat,tot,rfl,by have:=hm.1;have:=hm.2;omega,q5⟩⟩
   simp[execOp,ho,hv,hv2,sZ hu (hT e ti hte) ⟨b,i0*es,none⟩ n cap m hm.1 hm.2,kL,hes,aSt]
theorem aKd {s f off k0:Nat} (hT:dK P T) (ho:o.op= .fieldAddr s x f) (hd:o.dst=some d) (hf:sF T s f=some (off,ti)) (hx:ev σ x=some (.e (.c (.z j (ptQ es k0))),R)) (hl:aS σ (.o j)=some (aI e es Pr))
 (h:k (R++[(.o j,some (aI e es Pr))]) [(.t d,.v (.e (.c (.z j (ptQ es (k0+off))))))]): ∃R W,wG P o R W∧bJ R σ∧k R W:=by
 refine⟨_,_,mT hd fun cx σ' ι S a w hr hw=> ?_,(cZ hx).append (bJ.one hl),h⟩
 have hl':=hr.right (.o j,some (aI e es Pr)) (by simp)
 dsimp only at hl'
 obtain⟨b,i,tot,hv,q2,q3⟩:ptQ es k0 (ι j) (a.eval x):=rJ (S:=S) (w:=w) (dA hx hr.left hw) hl'
 exact⟨.pointer (some ⟨b,i*es+(k0+off),none⟩),by simp[execOp,ho,hv,uD hT hf,kL];omega,aOk (S:=S) (w:=w) hl' ⟨b,i,tot,rfl,q2,q3⟩⟩
theorem aKe {cx:Cx P} {ι:Nat→Value} {S:Nat→Prop} {a:Act} {w:World} (hw:RW cx σ ι S a w) {k0:Nat} {v:Value} (hl:aS σ (.o j)=some (aI e es Pr)) (hq:ptQ es k0 (ι j) v):
 ∃(b i tot:Nat) (r:List D),v= .pointer (some ⟨b,i*es+k0,none⟩)∧i<tot∧pb (ι j) (my b tot)∧r.length=es∧Pr r∧ ∀(q:Nat) d,r[q]? =some d→ ∃u,w.cell? ⟨b,i*es+q,none⟩=some u∧DR w S d u:=by
 obtain⟨b,i,tot,hv,q2,q3⟩:=hq
 obtain⟨⟨cur,fz,hh,hf,hs,hr⟩,hm⟩:=ff (hw.vr.objs j _ hl) hl q3
 obtain⟨r,p1,p2,p3⟩:=hr i q2
 refine⟨b,i,tot,r,hv,q2,q3,p1,p2,fun q d hd=> ?_⟩
 obtain⟨u,hu,hdr⟩:=p3 q d hd
 exact⟨u,by rw[cell_of_row w b _ cur e fz hh];exact hu,hdr⟩
theorem aMz {Ws:V→Prop} (hd:o.dst=some d)
 (h: ∀(cx:Cx P) (σ:St) (ι:Nat→Value) (S:Nat→Prop) (a:Act) (w:World),bJ R σ→RW cx σ ι S a w→ ∃v x,(execOp a.eval o).run P w= .ok (.value v) w∧kU σ ι w S x v∧Ws x):
 OpE P o R fun W=> ∃x,Ws x∧W=[(.t d,.v x)]:=by
 intro cx σ ι S a w hr hw hb next Q hn
 obtain⟨v,x,he,hx,hs⟩:=h cx σ ι S a w hr hw
 unfold Oper.wp
 rw[he]
 simp only[Oper.upon,hd]
 exact hn _ ⟨x,hs,rfl⟩ ι S _ w (hw.put (hb d hd) hx)
theorem aKf {io:List Nat} {k0:Nat} {k:St→Prop} (hT:dK P T) (ho:o.op= .load t x) (hd:o.dst=some d) (hti:T t=some ti) (hag:ti.kind.agg=true) (hx:ev σ x=some (.e (.c (.z j (ptQ es k0))),R)) (hl:aS σ (.o j)=some (aI e es Pr)) (hk:k0+ti.size≤es)
 (h: ∀r:List D,r.length=es→Pr r→mB σ [(.t d,.v (.e (.agg (((r.drop k0).take ti.size).map C.d))))] k): ∃σ1,pa io σ σ1∧ ∃R Ws,OpE P o R Ws∧bJ R σ1∧ ∀W,Ws W→mB σ1 W k:=by
 refine⟨σ,pa.rfl,_,_,aMz (Ws:=fun X=> ∃r:List D,r.length=es∧Pr r∧X= .e (.agg (((r.drop k0).take ti.size).map C.d))) hd (fun cx σ' ι S a w hr hw=> ?_),(cZ hx).append (bJ.one hl),fun W ⟨X,⟨r,h1,h2,h3⟩,h4⟩=>by subst h3;subst h4;exact h r h1 h2⟩
 have hl':=hr.right (.o j,some (aI e es Pr)) (by simp)
 dsimp only at hl'
 have hok:=hT t ti hti
 obtain⟨b,i,tot,r,hv,q1,q2,hrl,hpr,hcell⟩:=aKe hw hl' (rJ (S:=S) (w:=w) (dA hx hr.left hw) hl')
 have hex: ∃vs:List Value,vs.length=ti.size∧(∀(q:Nat) v,vs[q]? =some v→w.cell? ⟨b,i*es+k0+q,none⟩=some v)∧ ∀(q:Nat) d u,((r.drop k0).take ti.size)[q]? =some d→vs[q]? =some u→DR w S d u:=by
  refine⟨(aSp ti.size).map fun q=>(w.cell? ⟨b,i*es+k0+q,none⟩).getD undef,by simp,fun q v hq=> ?_,fun q d u h1 h2=> ?_⟩
  · have hql:q<ti.size:=by have:=(aSm.1 hq).1;simpa using this
    simp[hql] at hq
    have hlt:k0+q<r.length:=by omega
    obtain⟨u,hu,_⟩:=hcell (k0+q) _ (aSn hlt)
    rw[← Nat.add_assoc] at hu
    rw[hu] at hq ⊢
    simpa using hq
  · have hql:q<ti.size:=by have:=(aSm.1 h2).1;simpa using this
    rw[List.getElem?_take,if_pos hql,List.getElem?_drop] at h1
    obtain⟨u',hu,hdr⟩:=hcell (k0+q) d h1
    rw[← Nat.add_assoc] at hu
    simp[hql,hu] at h2
    subst h2;exact hdr
 obtain⟨vs,hvl,hvc,hvd⟩:=hex
 refine⟨.agg vs.toArray,.e (.agg (((r.drop k0).take ti.size).map C.d)),?_,⟨vs,rfl,by rw[List.length_map,aSk,aSr,hvl];omega,fun q c u h1 h2=> ?_⟩,r,hrl,hpr,rfl⟩
 · have:=lC (w:=w) hok hag ⟨b,i*es+k0,none⟩ vs hvl (fun q v hq=>by rw[kL];exact hvc q v hq)
   simp[execOp,ho,hv,Instr.loadAt,Instr.sureAddr,this]
 · rw[List.getElem?_map] at h1
   cases hq: ((r.drop k0).take ti.size)[q]? with
   |none=>rw[hq] at h1;cases h1
   |some d=>rw[hq] at h1;cases h1;exact hvd q d u hq h2
end
structure pc (σ:St) (ι:Nat→Value) (S:Nat→Prop) (w:World) (id:Nat) (k:K) (p:Value) (w':World):Prop where
 os:w'.os=w.os
 tape:w'.tape=w.tape
 output:w'.output=w.output
 size:w.heap.size≤w'.heap.size
 block: ∀b,b<w.heap.size→ ¬jY σ ι id b→w'.heap[b]? =w.heap[b]?
 evo:aS σ (.o id)=none∨ ∃k0,aS σ (.o id)=some k0∧lZ (ι id) p k0 k
 new: ∀b,wF p b→jY σ ι id b∨w.heap.size≤b
 or_:OR (oO σ (.o id) k) (fun o=>if o=id then p else ι o) w' S p k
section
variable {σ:St} {ι:Nat→Value} {S:Nat→Prop} {w:World}
theorem aKg {ν:Nat→Value} (h:VR σ ι ν S w) {id:Nat} {k:K} {p:Value} {w':World} (block: ∀b,b<w.heap.size→ ¬jY σ ι id b→w'.heap[b]? =w.heap[b]?) (evo:aS σ (.o id)=none∨ ∃k0,aS σ (.o id)=some k0∧lZ (ι id) p k0 k):
 pR σ ι S w (oO σ (.o id) k) (fun o=>if o=id then p else ι o) S w':=by
 refine⟨fun _ h=>h,fun b hb=>block b (h.sz b hb) (fun hm=>h.mutS id b hm hb),fun o k0 hk=> ?_⟩
 by_cases e:o=id
 · subst e
   refine⟨k,cQ _ _ _,?_⟩
   rcases evo with hn|⟨k1,hk1,hev⟩
   · rw[hn] at hk;cases hk
   · rw[hk1] at hk;cases hk;rw[if_pos rfl];exact hev
 · refine⟨k0,by rw[cI _ _ (by simpa using fun h=>e h.symm)];exact hk,?_⟩
   rw[if_neg e];exact lZ.refl' _ _
theorem VR.turnZ {ν:Nat→Value} (h:VR σ ι ν S w) {id:Nat} {k:K} {p:Value} {w':World} (t:pc σ ι S w id k p w'):
 VR (oO σ (.o id) k) (fun o=>if o=id then p else ι o) ν S w':=by
 have st:=aKg h t.block t.evo
 have mut_ne: ∀o b,o≠id→jY (oO σ (.o id) k) (fun o=>if o=id then p else ι o) o b→jY σ ι o b:=by
  intro o b ne hm
  obtain⟨⟨k0,hk,hl⟩,hb⟩:=hm
  rw[cI _ _ (by simpa using fun h=>ne h.symm)] at hk
  dsimp only at hb
  rw[if_neg ne] at hb
  exact⟨⟨k0,hk,hl⟩,hb⟩
 have mlt: ∀o b,jY σ ι o b→b<w.heap.size:=fun o b ⟨⟨k0,hk,hl⟩,hb⟩=>OR.lt (h.objs o k0 hk) hl hb
 have mid: ∀b,jY (oO σ (.o id) k) (fun o=>if o=id then p else ι o) id b→jY σ ι id b∨w.heap.size≤b:=by
  intro b hm
  have hb:=hm.2
  dsimp only at hb
  rw[if_pos rfl] at hb
  exact t.new b hb
 refine⟨fun s x hx=> ?_,fun o k0 hk=> ?_,fun o b hm hS=> ?_,fun o o' b hm hm'=> ?_,fun b hb=>Nat.lt_of_lt_of_le (h.sz b hb) t.size⟩
 · rw[cI _ _ (by simp)] at hx
   exact pS.step st (h.slots s x hx)
 · by_cases e:o=id
   · subst e
     rw[cQ] at hk;cases hk
     rw[if_pos rfl]
     exact t.or_
   · rw[cI _ _ (by simpa using fun h=>e h.symm)] at hk
     rw[if_neg e]
     have ho:=h.objs o k0 hk
     by_cases hl:k0.live
     · refine OR.step st (fun b hb=> ?_) ho
       have hmut:jY σ ι o b:=⟨⟨k0,hk,hl⟩,hb⟩
       exact t.block b (mlt o b hmut) (fun e2=>e (h.inj o id b hmut e2))
     · cases k0<;>simp[K.live] at hl<;>trivial
 · by_cases e:o=id
   · subst e
     rcases mid b hm with h1|h1
     · exact h.mutS o b h1 hS
     · have:=h.sz b hS;omega
   · exact h.mutS o b (mut_ne o b e hm) hS
 · by_cases e:o=id
   · by_cases e':o'=id
     · rw[e,e']
     · subst e
       have h2:=mut_ne o' b e' hm'
       rcases mid b hm with h1|h1
       · exact absurd (h.inj o' o b h2 h1) e'
       · have:=mlt o' b h2;omega
   · by_cases e':o'=id
     · subst e'
       have h2:=mut_ne o b e hm
       rcases mid b hm' with h1|h1
       · exact absurd (h.inj o o' b h2 h1) e
       · have:=mlt o b h2;omega
     · exact h.inj o o' b (mut_ne o b e hm) (mut_ne o' b e' hm')
theorem RW.turnZ {P:Program} {cx:Cx P} {a:Act} (h:RW cx σ ι S a w) {id:Nat} {k:K} {p:Value} {w':World} (t:pc σ ι S w id k p w'):
 RW cx (oO σ (.o id) k) (fun o=>if o=id then p else ι o) S a w':=by
 refine⟨h.vr.turnZ t,h.size,h.defers,⟨t.os.trans h.fr.os,t.tape.trans h.fr.tape,t.output.trans h.fr.output,Nat.le_trans h.fr.size t.size,fun b hb hm=> ?_⟩,fun o b hm=> ?_,h.rd,fun o k1 ho=> ?_⟩
 · rw[t.block b (Nat.lt_of_lt_of_le hb h.fr.size) (fun e=> ?_)]
   · exact h.fr.block b hb hm
   · rcases h.own id b e with h1|h1
     · omega
     · exact hm h1
 · by_cases e:o=id
   · subst e
     have hb:=hm.2
     dsimp only at hb
     rw[if_pos rfl] at hb
     rcases t.new b hb with h1|h1
     · exact h.own o b h1
     · exact .inl (Nat.le_trans h.fr.size h1)
   · obtain⟨⟨k0,hk,hl⟩,hb⟩:=hm
     rw[cI _ _ (by simpa using fun h=>e h.symm)] at hk
     dsimp only at hb
     rw[if_neg e] at hb
     exact h.own o b ⟨⟨k0,hk,hl⟩,hb⟩
 · obtain⟨k',hk',hev⟩:=h.io o k1 ho
   by_cases e:o=id
   · subst e
     refine⟨k,cQ _ _ _,?_⟩
     rw[if_pos rfl]
     rcases t.evo with hn|⟨k2,hk2,hev2⟩
     · rw[hn] at hk';cases hk'
     · rw[hk2] at hk';cases hk';exact hev.trans hev2
   · refine⟨k',by rw[cI _ _ (by simpa using fun h=>e h.symm)];exact hk',?_⟩
     rw[if_neg e];exact hev
end
section
variable {P:Program} {T:gB} {o:Oper} {σ:St} {x y:Operand} {t e:TypeId} {s1 s2 d j es n:Nat} {s3:List C} {Z:ej} {R R2:List (dD×Option K)} {k:List (dD×Option K)→List (dD×K)→Prop} {Pr:List D→Prop} {ti:TI}
theorem wn {cx:Cx P} {ι:Nat→Value} {S:Nat→Prop} {a:Act} {w w':World} (hw:RW cx σ ι S a w) (hl:aS σ (.o j)=some (aI e es Pr)) {b tot:Nat} (hb:pb (ι j) (my b tot)) {cur cur':Array Value} {fz:Nat×Nat}
 (hos:w'.os=w.os∧w'.tape=w.tape∧w'.output=w.output∧w'.heap.size=w.heap.size) (hc:w.heap[b]? =some (.cells cur e fz)) (hh:w'.heap[b]? =some (.cells cur' e fz)) (hs:cur'.size=cur.size) (ho: ∀b',b'≠b→w'.heap[b']? =w.heap[b']?)
 (hr: (∀b,S b→w'.heap[b]? =w.heap[b]?)→ ∀i,(i+1)*es≤cur.size→(∃r:List D,r.length=es∧Pr r∧ ∀(q:Nat) d,r[q]? =some d→ ∃u,cur[i*es+q]? =some u∧DR w S d u)→ ∃r:List D,r.length=es∧Pr r∧ ∀(q:Nat) d,r[q]? =some d→ ∃u,cur'[i*es+q]? =some u∧DR w' S d u):
 pc σ ι S w j (aI e es Pr) (ι j) w'∧pR σ ι S w (oO σ (.o j) (aI e es Pr)) (fun o=>if o=j then ι j else ι o) S w':=by
 obtain⟨hblk,hmut⟩:=ff (hw.vr.objs j _ hl) hl hb
 have hblock: ∀b',b'<w.heap.size→ ¬jY σ ι j b'→w'.heap[b']? =w.heap[b']?:=fun b' _ hne=>ho b' (fun h=>hne (by rw[h];exact hmut))
 have hevo:aS σ (.o j)=none∨ ∃k0,aS σ (.o j)=some k0∧lZ (ι j) (ι j) k0 (aI e es Pr):= .inr ⟨_,hl,rfl,fun _ h=>h⟩
 have st:=aKg hw.vr (p:=ι j) hblock hevo
 refine⟨⟨hos.1,hos.2.1,hos.2.2.1,by rw[hos.2.2.2];exact aSo _,hblock,hevo,fun b' hb'=> .inl ⟨⟨_,hl,trivial⟩,hb'⟩,?_⟩,st⟩
 obtain⟨h1,h2⟩:=hw.vr.objs j _ hl
 refine⟨h1,fun v hv=> ?_⟩
 obtain⟨b',tot',rfl,hp⟩:=h2 v hv
 refine⟨b',tot',rfl,?_⟩
 by_cases e1:b'=b
 · subst e1
   obtain⟨cur0,fz0,q1,q2,q3,q4⟩:=hp
   rw[hc] at q1;cases q1
   exact⟨cur',fz,hh,by rw[hs];exact q2,by rw[hs];exact q3,fun i hi=>hr st.keep i (by rw[q3];exact Nat.mul_le_mul_right _ hi) (q4 i hi)⟩
 · exact hp.mono st.sub st.keep (ho b' e1)
theorem aHp (hd:o.dst=none)
 (h: ∀(cx:Cx P) (σ:St) (ι:Nat→Value) (S:Nat→Prop) (a:Act) (w:World),bJ R σ→RW cx σ ι S a w→ ∃p w',(execOp a.eval o).run P w= .ok .skip w'∧pc σ ι S w j (.zone Z) p w'):
 wG P o R [(.o j,.zone Z)]:=by
 intro cx σ ι S a w hr hw hb next Q hn
 obtain⟨p,w',he,ht⟩:=h cx σ ι S a w hr hw
 unfold Oper.wp
 rw[he]
 simp only[Oper.upon,hd,aAx]
 exact hn _ S _ w' (hw.turnZ ht)
theorem pd {X:V} (hd:o.dst=some d)
 (h: ∀(cx:Cx P) (σ:St) (ι:Nat→Value) (S:Nat→Prop) (a:Act) (w:World),bJ R σ→RW cx σ ι S a w→ ∃v p w',(execOp a.eval o).run P w= .ok (.value v) w'∧pc σ ι S w j (.zone Z) p w'∧kU (oO σ (.o j) (.zone Z)) (fun o=>if o=j then p else ι o) w' S X v):
 wG P o R [(.o j,.zone Z),(.t d,.v X)]:=by
 intro cx σ ι S a w hr hw hb next Q hn
 obtain⟨v,p,w',he,ht,hx⟩:=h cx σ ι S a w hr hw
 unfold Oper.wp
 rw[he]
 simp only[Oper.upon,hd]
 exact hn _ S _ w' ((hw.turnZ ht).put (hb d hd) hx)
theorem aBl {k0:Nat} {Y:V} {ccs:List C} {vs:List D} (hT:dK P T) (ho:o.op= .store t x y) (hd:o.dst=none) (hti:T t=some ti) (hx:ev σ x=some (.e (.c (.z j (ptQ es k0))),R)) (hy:ev σ y=some (Y,R2)) (hc:cellsOf Y=some ccs) (hv:je ccs=some vs) (hl:aS σ (.o j)=some (aI e es Pr))
 (hvl:vs.length=ti.size) (hk:k0+vs.length≤es) (hPr: ∀r:List D,r.length=es→Pr r→Pr (cX r k0 vs)) (h:k (R++R2++[(.o j,some (aI e es Pr))]) [(.o j,aI e es Pr)]): ∃R W,wG P o R W∧bJ R σ∧k R W:=by
 refine⟨_,_,aHp hd fun cx σ' ι S a w hr hw=> ?_,((cZ hx).append (cZ hy)).append (bJ.one hl),h⟩
 have hl':=hr.right (.o j,some (aI e es Pr)) (by simp)
 dsimp only at hl'
 have hok:=hT t ti hti
 obtain⟨b,i,tot,hvx,q2,q3⟩:ptQ es k0 (ι j) (a.eval x):=rJ (S:=S) (w:=w) (dA hx hr.left.left hw) hl'
 obtain⟨⟨cur,fz,hh,hf,hs,hrows⟩,hm⟩:=ff (hw.vr.objs j _ hl') hl' q3
 obtain⟨us,hu,hul,huk⟩:=lL hc (dA hy hr.left.right hw)
 have hvl2:=oF hv
 have hdr: ∀(q:Nat) d u,vs[q]? =some d→us[q]? =some u→DR w S d u:=fun q d u hj hu'=>by
  obtain⟨c,hc,htd⟩:=vR hv q d hj
  exact vQ htd (huk q c u hc hu')
 have hone: ∀u∈us,u.oneCell'=true:=fun u hu'=>by
  obtain⟨q,hj⟩:=List.mem_iff_getElem?.1 hu'
  have hlt:q<ccs.length:=by rw[← hul];exact(aSm.1 hj).1
  exact CR.one (huk q _ u (aSn hlt) hj)
 have hin: (i+1)*es≤tot*es:=Nat.mul_le_mul_right _ q2
 rw[aSt,Nat.one_mul] at hin
 have hfit:i*es+k0+us.length≤cur.size:=by rw[hul,← hvl2,hs];omega
 have hrun:=pZ (P:=P) hok b (i*es+k0) cur hf hh (a.eval y) us hu (by rw[hul,← hvl2];exact hvl) hfit hone
 have h9:cur.toList.length=cur.size:=Array.length_toList
 obtain⟨ht,_⟩:=wn (w':=w.setRow b (cX cur.toList (i*es+k0) us).toArray) (cur':=(cX cur.toList (i*es+k0) us).toArray) hw hl' q3 ⟨rfl,rfl,rfl,by simp⟩ hh (setRow_heap w b cur _ e _ hh) (by rw[List.size_toArray,eU (by omega),h9]) (fun b' hne=>setRow_other w b b' _ hne) (fun hkeep i2 hi2 ⟨r,p1,p2,p3⟩=>by
  have get: ∀q,(cX cur.toList (i*es+k0) us).toArray[q]? =if q<i*es+k0 then cur[q]? else if q<i*es+k0+us.length then us[q - (i*es+k0)]? else cur[q]?:=fun q=>by
   rw[← Array.getElem?_toList,List.toList_toArray,hO (by omega)]
   simp
  by_cases hii:i2=i
  · subst hii
    refine⟨cX r k0 vs,by rw[eU (by omega)];exact p1,hPr r p1 p2,fun q d hd=> ?_⟩
    rw[hO (by omega)] at hd
    rw[get]
    split at hd
    · obtain⟨u,hu1,hu2⟩:=p3 q d hd
      exact⟨u,by rw[if_pos (by omega)];exact hu1,DR.mono (fun _ h=>h) hkeep hu2⟩
    · split at hd
      · have hjl:q - k0<us.length:=by omega
        refine⟨us[q - k0],?_,DR.mono (fun _ h=>h) hkeep (hdr _ d _ hd (aSn hjl))⟩
        rw[if_neg (by omega),if_pos (by omega),show i2*es+q - (i2*es+k0)=q - k0 by omega]
        exact aSn hjl
      · obtain⟨u,hu1,hu2⟩:=p3 q d hd
        exact⟨u,by rw[if_neg (by omega),if_neg (by omega)];exact hu1,DR.mono (fun _ h=>h) hkeep hu2⟩
  · refine⟨r,p1,p2,fun q d hd=> ?_⟩
    obtain⟨u,hu1,hu2⟩:=p3 q d hd
    refine⟨u,?_,DR.mono (fun _ h=>h) hkeep hu2⟩
    rw[get]
    have hq:q<es:=by rw[← p1];exact(aSm.1 hd).1
    rcases Nat.lt_or_gt_of_ne hii with h1|h1
    · have: (i2+1)*es≤i*es:=Nat.mul_le_mul_right _ h1
      rw[aSt,Nat.one_mul] at this
      rw[if_pos (by omega)];exact hu1
    · have: (i+1)*es≤i2*es:=Nat.mul_le_mul_right _ h1
      rw[aSt,Nat.one_mul] at this
      rw[if_neg (by omega),if_neg (by omega)];exact hu1)
 exact⟨ι j,_,by simp[execOp,ho,hvx,Instr.storeAt,Instr.sureAddr,hrun],ht⟩
theorem aBm {lo hi:Option Operand} {lo' hi':Option Int} {R3:List (dD×Option K)} {e':TypeId} (hT:dK P T) (ho:o.op= .slice t x lo hi none) (hd:o.dst=some d) (ht:T t=some ⟨.sl e,s1,s2,s3⟩) (hte:T e=some ti) (hes:ti.size=es) (hx:ev σ x=some (.e (.c (ps j es n)),R)) (hlo:evI σ lo=some (lo',R2)) (hhi:evI σ hi=some (hi',R3)) (hl:aS σ (.o j)=some (aI e' es Pr))
 (hb:bnd lo' hi' n) {m:Nat} (hm:m=gF hi' n - fE lo') (h:k (R++R2++R3++[(.o j,some (aI e' es Pr))]) [(.t d,.v (.e (.c (ps j es m))))]): ∃R W,wG P o R W∧bJ R σ∧k R W:=by
 subst hm
 have hu:=(hT t _ ht).kind
 simp only[kW] at hu
 have hok:=hT e ti hte
 refine⟨_,_,mT hd fun cx σ' ι S a w hr hw=> ?_,(((cZ hx).append (sT hlo)).append (sT hhi)).append (bJ.one hl),h⟩
 have hl':=hr.right (.o j,some (aI e' es Pr)) (by simp)
 dsimp only at hl'
 have h1:=sU hlo hr.left.left.right hw
 have h2:=sU hhi hr.left.right hw
 have hq:slQ es n (ι j) (a.eval x):=rJ (S:=S) (w:=w) (dA hx hr.left.left.left hw) hl'
 rcases hq with⟨hv,rfl⟩|⟨b,i0,cap,tot,hv,q2,q3,q4,q5⟩
 · have hb2:=wP (P:=P) (w:=w) (isSl:=true) (len:=0) (cap:=0) (aSo _) hb
   have e1:fE lo'=0:=by obtain⟨p1,p2,p3⟩:=hb;unfold fE;omega
   have e2:gF hi' 0=0:=by obtain⟨p1,p2,p3⟩:=hb;unfold gF;omega
   rw[e1,e2] at hb2 ⊢
   exact⟨.slice none 0 0,by simp[execOp,ho,hv,Instr.sliceAt,run_underlying hu,Instr.slice,h1,h2,hb2,fB hok],aGm (S:=S) (w:=w) hl' (.inl ⟨rfl,rfl⟩)⟩
 · have hb2:=wP (P:=P) (w:=w) (isSl:=true) (len:=n) (cap:=cap) q2 hb
   have e1:fE lo'≤cap:=by obtain⟨p1,p2,p3⟩:=hb;unfold fE;omega
   have e2:gF hi' n≤n:=by obtain⟨p1,p2,p3⟩:=hb;unfold gF;omega
   refine⟨.slice (if cap=fE lo' then some ⟨b,i0*es,none⟩ else(some (⟨b,i0*es,none⟩:Addr)).map (·.add (fE lo'*ti.size))) (gF hi' n - fE lo') (cap - fE lo'),by simp[execOp,ho,hv,Instr.sliceAt,run_underlying hu,Instr.slice,h1,h2,hb2,fB hok],aGm (S:=S) (w:=w) hl' ?_⟩
   by_cases hc:cap=fE lo'
   · exact .inr ⟨b,i0,cap - fE lo',tot,by rw[if_pos hc],by omega,by omega,by omega,q5⟩
   · exact .inr ⟨b,i0+fE lo',cap - fE lo',tot,by rw[if_neg hc,Option.map_some,kL,hes,aSt],by omega,by omega,by omega,q5⟩
end
structure Src (P:Program) (σ:St) (y:Operand) (t2:TypeId) (es m:Nat) (Pr:List D→Prop) (R:List (dD×Option K)):Prop where
 rd:bJ R σ
 ty: ∃d2,P.underlying t2=some d2∧ ∀k,d2≠ .int k
 run: ∀(cx:Cx P) (σ':St) (ι:Nat→Value) (S:Nat→Prop) (a:Act) (w:World),bJ R σ'→RW cx σ' ι S a w→ ∃rows nv,rows.length=m∧(∀r∈rows,r.length=es∧Pr r)∧er P w S es rows (a.eval y) nv
section
variable {P:Program} {T:gB} {o:Oper} {σ:St} {x y:Operand} {t t2 e:TypeId} {s1 s2 d j es n m:Nat} {s3:List C} {Z:ej} {R R2 R3:List (dD×Option K)} {k:List (dD×Option K)→List (dD×K)→Prop} {Pr:List D→Prop} {ti:TI}
theorem fg (hT:dK P T) {Y:V} {q:Prop} {rows:List (List D)} (hes:0<es) (hy:ev σ y=some (Y,R)) (h:qO T σ t2 Y=some (q,rows,R2)) (hq:q) (hr: ∀r∈rows,r.length=es∧Pr r) (hm:m=rows.length):Src P σ y t2 es m Pr (R++R2):=
 ⟨(cZ hy).append (qP h),wJ hT h,fun cx σ' ι S a w hrd hw=>by
  obtain⟨nv,hs⟩:=ar hT h hq hes (fun r hr'=>(hr r hr').1) hrd.right hw (dA hy hrd.left hw)
  exact⟨rows,nv,hm.symm,hr,hs⟩⟩
theorem aHq {w:World} {S:Nat→Prop} {g off cap:Nat} {cur:Array Value} {fz:Nat×Nat} {vx:Value} {rows:List (List D)} (hes:0<es) (hv:vx= .slice (some ⟨g,off,none⟩) rows.length cap) (hh:w.heap[g]? =some (.cells cur e fz)) (hle:off+rows.length*es≤cur.size)
 (hrows: ∀(i:Nat) r,rows[i]? =some r→r.length=es∧ ∀(k:Nat) d,r[k]? =some d→ ∃u,cur[off+i*es+k]? =some u∧DR w S d u): ∃nv,er P w S es rows vx nv:=by
 have h9:cur.toList.length=cur.size:=Array.length_toList
 have hget: ∀j,j<rows.length*es→((cur.toList.drop off).take (rows.length*es))[j]? =cur[off+j]?:=by
  intro j hj
  rw[List.getElem?_take,if_pos hj,List.getElem?_drop];simp
 refine⟨(cur.toList.drop off).take (rows.length*es),⟨by rw[hv];simp[Builtin.lenOf],fun w1=>by rw[hv];simp[Builtin.lenOf],fun w1 m h1 hm=> ?_,by simp;omega,?_,fun i r hri k d hk=> ?_⟩⟩
 · rw[hv]
   have hle2:m*es≤rows.length*es:=Nat.mul_le_mul_right _ hm
   refine run_firstCells_some (P:=P) w1 es m ⟨g,off,none⟩ rows.length cap _ (by rw[aSk,aSk,aSr];omega) (fun j v hj=> ?_)
   have hjl:j<m*es:=by have:=(aSm.1 hj).1;rw[aSk] at this;omega
   rw[List.getElem?_take,if_pos hjl] at hj
   have hjl:j<rows.length*es:=by omega
   rw[hget j hjl] at hj
   rw[tC h1,kL,cell_of_row w g _ cur e fz hh];exact hj
 · intro v hv2
   obtain⟨j,hj⟩:=List.mem_iff_getElem?.1 hv2
   have hjl:j<rows.length*es:=by have:=(aSm.1 hj).1;simp at this;omega
   rw[hget j hjl] at hj
   have h1:j / es<rows.length:=(Nat.div_lt_iff_lt_mul hes).2 hjl
   have h2:j % es<es:=Nat.mod_lt _ hes
   have hrr:=hrows (j / es) _ (aSn h1)
   have h3:j % es< (rows[j / es]).length:=by rw[hrr.1];exact h2
   obtain⟨u,hu,hdr⟩:=hrr.2 (j % es) _ (aSn h3)
   rw[Nat.add_assoc,Nat.div_add_mod'] at hu
   rw[hu] at hj;cases hj
   exact DR.oneCell hdr
 · have hil:i<rows.length:=(aSm.1 hri).1
   have hr:=hrows i r hri
   have hkl:k<es:=by rw[← hr.1];exact(aSm.1 hk).1
   obtain⟨u,hu,hdr⟩:=hr.2 k d hk
   exact⟨u,by rw[hget _ (kG hil hkl),← Nat.add_assoc];exact hu,hdr⟩
theorem aBn {α:Type} {n:Nat} {p:Nat→α→Prop} (h: ∀i,i<n→ ∃a,p i a): ∃l:List α,l.length=n∧ ∀(i:Nat) a,l[i]? =some a→p i a:=by
 induction n with
 |zero=>exact⟨[],rfl,by simp⟩
 |succ n ih=>
  obtain⟨l,h1,h2⟩:=ih fun i hi=>h i (by omega)
  obtain⟨a,ha⟩:=h n (by omega)
  refine⟨l++[a],by simp[h1],fun i b hb=> ?_⟩
  by_cases hi:i<l.length
  · rw[List.getElem?_append_left hi] at hb;exact h2 i b hb
  · rw[List.getElem?_append_right (by omega)] at hb
    have:i=n:=by
     have:=(aSm.1 hb).1
     simp at this;omega
    subst this
    rw[h1,Nat.sub_self] at hb;cases hb;exact ha
theorem aBo (hT:dK P T) (hes:0<es) (hy:ev σ y=some (.e (.c (ps j es m)),R)) (hl:aS σ (.o j)=some (aI e es Pr)) {e2:TypeId} (ht2:T t2=some ⟨.sl e2,s1,s2,s3⟩):Src P σ y t2 es m Pr (R++[(.o j,some (aI e es Pr))]):=
 ⟨(cZ hy).append (bJ.one hl),⟨_,(hT t2 _ ht2).kind,fun k h=>by cases h⟩,fun cx σ' ι S a w hr hw=>by
  have hl':=hr.right (.o j,some (aI e es Pr)) (by simp)
  dsimp only at hl'
  have hq:slQ es m (ι j) (a.eval y):=rJ (S:=S) (w:=w) (dA hy hr.left hw) hl'
  rcases hq with⟨hv,rfl⟩|⟨b,i0,cap,tot,hv,q2,q3,q4,q5⟩
  · exact⟨[],[],rfl,by simp,by rw[hv];simp[Builtin.lenOf],fun w1=>by rw[hv];simp[Builtin.lenOf],fun w1 m h1 hm=>by(obtain rfl:m=0:=by simpa using hm);rw[hv];simp[Builtin.firstCells],by simp,by simp,by simp⟩
  · obtain⟨⟨cur,fz,hh,hf,hs,hrows⟩,hm⟩:=ff (hw.vr.objs j _ hl') hl' q5
    obtain⟨rows,h1,h2⟩:=aBn (n:=m) fun i hi=>hrows (i0+i) (by omega)
    have hle: (i0+m)*es≤tot*es:=Nat.mul_le_mul_right _ (by omega)
    rw[aSt] at hle
    obtain⟨nv,hs2⟩:=aHq (P:=P) (rows:=rows) (off:=i0*es) (vx:=a.eval y) (cap:=cap) hes (by rw[hv,h1]) hh (by rw[h1,hs];exact hle) fun i r hi=>by
     obtain⟨p1,p2,p3⟩:=h2 i r hi
     exact⟨p1,fun k d hd=>by rw[← aSt];exact p3 k d hd⟩
    exact⟨rows,nv,h1,fun r hr=>by obtain⟨i,hi⟩:=List.mem_iff_getElem?.1 hr;exact⟨(h2 i r hi).1,(h2 i r hi).2.1⟩,hs2⟩⟩
theorem fh {w:World} {ty:TypeId} {d2:TypeDesc} (hu:P.underlying t=some (.slice e)) (hok:eK P e ti) (hu2:P.underlying t2=some d2) (hd2: ∀k,d2≠ .int k)
 {S:Nat→Prop} {rows:List (List D)} {vx:Value} {news:List Value} (hs:er P w S ti.size rows vx news) (base:Option Addr) (sLen sCap:Nat) (olds:List Value)
 (hold: ∀w1,w1.heap=w.heap→(Builtin.firstCells ti.size sLen (.slice base sLen sCap)).run P w1= .ok olds.toArray w1)
 (hgrow:sCap<sLen+rows.length) (hbytes: (sLen+rows.length)*ti.bytes≤140737488355328) {z:List D} (hz0:je ti.zero=some z):
 ∃cap zs,(Builtin.append_ #[t,t2] ty #[.slice base sLen sCap,vx]).run P w= .ok (.slice (some ⟨w.heap.size,0,none⟩) (sLen+rows.length) cap) (w.drew.alloc (.cells (olds++news++zs).toArray e))∧sLen+rows.length≤cap∧cap≤maxLen∧
  zs.length=(cap - (sLen+rows.length))*ti.size∧ ∀(i:Nat),i<cap - (sLen+rows.length)→ ∀(q:Nat) d,z[q]? =some d→ ∃u,zs[i*ti.size+q]? =some u∧ ∀w' S',DR w' S' d u:=by
 have hz: (match d2 with| .int _=>true|_=>false)=false:=by cases d2<;>first|rfl|exact absurd rfl (hd2 _)
 obtain⟨i,zz,hi,hsz,hby,hzero,hzc⟩:=hok.info
 have hb:=hok.bpos
 have hle:sLen+rows.length≤(sLen+rows.length)*ti.bytes:=Nat.le_mul_of_pos_right _ hb
 have hfit: ¬(281474976710656<Builtin.nextslicecap (sLen+rows.length) sCap*ti.bytes):=by
  have:=growslice_fits hgrow hbytes;omega
 have hcl:=grownCap_ge w (sLen+rows.length) sCap e
 have hcm:=grownCap_le_maxLen w (sLen+rows.length) sCap e (by simp only[maxLen];omega)
 have hzl:zz.cells.size=ti.size:=by rw[← Array.length_toList,hzc,List.length_map,hok.zlen]
 refine⟨grownCap w (sLen+rows.length) sCap e,(Builtin.zeroCells zz.cells (grownCap w (sLen+rows.length) sCap e - (sLen+rows.length))).toList,?_,hcl,hcm,?_,fun i hil q d hq=> ?_⟩
 · have hn: ¬(sLen+rows.length≤sCap):=by omega
   have h63: ¬(9223372036854775807< ((sLen:Int)+(rows.length:Int))):=by omega
   have ho:=hold w.drew rfl
   have hf:=hs.first w.drew rfl
   simp[Builtin.append_,run_underlying hu,run_underlying hu2,fB hok,hs.len,hn,h63,typeInfo,hi,hby,hfit,hz,Question.forced,zeroValue,hzero,newRow,grownCap]
   rw[ho,Result.andThen_ok,hf,Result.andThen_ok]
   simp
   congr 2
   apply Array.toList_inj.1
   simp
 · simp[size_zeroCells,hzl]
 · obtain⟨c,hc,htd⟩:=vR hz0 q d hq
   have hkl:q<ti.size:=by rw[← hok.zlen];exact(aSm.1 hc).1
   have hlt:=kG hil hkl
   have hzk:zz.cells[q]? =some (zv c):=by rw[← Array.getElem?_toList,hzc,List.getElem?_map,hc];rfl
   refine⟨zv c,?_,fun w' S'=>vQ (σ:=[]) (ι:=fun _=>undef) htd (sE (aSu.1 hok.zok c (List.mem_of_getElem? hc)))⟩
   have hm: (i*ti.size+q) % zz.cells.size=q:=by rw[hzl,Nat.mul_comm,Nat.mul_add_mod,Nat.mod_eq_of_lt hkl]
   have hk2:q<zz.cells.size:=by rw[hzl];exact hkl
   have e1:zz.cells[q]! =zv c:=by rw[getElem!_pos zz.cells q hk2];rw[Array.getElem?_eq_getElem hk2] at hzk;exact Option.some.inj hzk
   have hlt':i*ti.size+q< (grownCap w (sLen+rows.length) sCap e - (sLen+rows.length))*zz.cells.size:=by rw[hzl];exact hlt
   simp only[Builtin.zeroCells,Array.toList_map,List.getElem?_map,Array.getElem?_toList,Array.getElem?_range,hlt',if_true,Option.map_some,hm,e1]
theorem wo {cx:Cx P} {ι:Nat→Value} {S:Nat→Prop} {a:Act} {w w0:World} (hw:RW cx σ ι S a w) (hl:aS σ (.o j)=some (aI e es Pr)) {cells:Array Value} {tot:Nat} (hw0:w0.heap=w.heap∧w0.os=w.os∧w0.tape=w.tape∧w0.output=w.output)
 (hs:cells.size=tot*es) (hr: (∀b,S b→(w0.alloc (.cells cells e)).heap[b]? =w.heap[b]?)→ ∀i,i<tot→ ∃r:List D,r.length=es∧Pr r∧ ∀(q:Nat) d,r[q]? =some d→ ∃u,cells[i*es+q]? =some u∧DR (w0.alloc (.cells cells e)) S d u):
 ∃p',pc σ ι S w j (aI e es Pr) p' (w0.alloc (.cells cells e))∧(∀v,pb (ι j) v→pb p' v)∧pb p' (my w.heap.size tot):=by
 obtain⟨⟨vs,hp⟩,h2⟩:=hw.vr.objs j _ hl
 have hold: ∀b,b<w.heap.size→(w0.alloc (.cells cells e)).heap[b]? =w.heap[b]?:=fun b hb=>by rw[heap_alloc_old w0 _ b (by rw[hw0.1];exact hb),hw0.1]
 have hnew: (w0.alloc (.cells cells e)).heap[w.heap.size]? =some (.cells cells e (0,0)):=by
  have:=heap_alloc_new w0 (.cells cells e)
  rw[hw0.1] at this;exact this
 have hsub: ∀v,pb (ι j) v→pb (.tuple (vs.push (my w.heap.size tot))) v:=fun v ⟨vs',h3,h4⟩=>by
  rw[hp] at h3;cases h3
  exact⟨_,rfl,by simp[h4]⟩
 have hevo:aS σ (.o j)=none∨ ∃k0,aS σ (.o j)=some k0∧lZ (ι j) (.tuple (vs.push (my w.heap.size tot))) k0 (aI e es Pr):= .inr ⟨_,hl,rfl,hsub⟩
 have hblock: ∀b,b<w.heap.size→ ¬jY σ ι j b→(w0.alloc (.cells cells e)).heap[b]? =w.heap[b]?:=fun b hb _=>hold b hb
 have st:=aKg hw.vr hblock hevo
 refine⟨.tuple (vs.push (my w.heap.size tot)),⟨hw0.2.1,hw0.2.2.1,hw0.2.2.2,by simp[hw0.1],hblock,hevo,fun b hb=> ?_,⟨_,rfl⟩,fun v hv=> ?_⟩,hsub,⟨_,rfl,by simp⟩⟩
 · obtain⟨v,hv,hb⟩:=hb
   have hv:v∈vs.toList∨v=my w.heap.size tot:=by simpa using hv
   rcases hv with hv|rfl
   · exact .inl ⟨⟨_,hl,trivial⟩,by rw[hp];exact⟨v,hv,hb⟩⟩
   · simp[blk] at hb;exact .inr (by omega)
 · obtain⟨vs',h3,h4⟩:=hv
   cases h3
   have h4:v∈vs.toList∨v=my w.heap.size tot:=by simpa using h4
   rcases h4 with h4|rfl
   · obtain⟨b,tot',rfl,hpb⟩:=h2 v (by rw[hp];exact⟨vs,rfl,h4⟩)
     refine⟨b,tot',rfl,hpb.mono st.sub st.keep (hold b ?_)⟩
     obtain⟨cur,fz,hh,_⟩:=hpb
     exact(Array.getElem?_eq_some_iff.1 hh).1
   · exact⟨_,tot,rfl,cells,(0,0),hnew,.inl rfl,hs,hr st.keep⟩
theorem jq {z:List D} (hT:dK P T) (ho:o.op= .call {callee:= .builtin .append,args:= #[x,y],argTypes:= #[t,t2]}) (hd:o.dst=some d) (ht:T t=some ⟨.sl e,s1,s2,s3⟩) (hte:T e=some ti) (hes:ti.size=es) (hx:ev σ x=some (.e (.c (ps j es n)),R)) (hl:aS σ (.o j)=some (aI e es Pr))
 (hz:je ti.zero=some z) (hPz:Pr z) (hs:Src P σ y t2 es m Pr R2) (hb: (n+m)*ti.bytes≤140737488355328) (h:k (R++R2++[(.o j,some (aI e es Pr))]) [(.o j,aI e es Pr),(.t d,.v (.e (.c (ps j es (n+m)))))]): ∃R W,wG P o R W∧bJ R σ∧k R W:=by
 subst hes
 have hu:=(hT t _ ht).kind
 simp only[kW] at hu
 have hok:=hT e ti hte
 have hes:=hok.pos
 obtain⟨d2,hu2,hd2⟩:=hs.ty
 refine⟨_,_,pd hd fun cx σ' ι S a w hr hw=> ?_,((cZ hx).append hs.rd).append (bJ.one hl),h⟩
 have hl':=hr.right (.o j,some (aI e ti.size Pr)) (by simp)
 dsimp only at hl'
 obtain⟨rows,nv,rfl,hrows,hsr⟩:=hs.run cx σ' ι S a w hr.left.right hw
 have hq:slQ ti.size n (ι j) (a.eval x):=rJ (S:=S) (w:=w) (dA hx hr.left.left hw) hl'
 have hzl:z.length=ti.size:=by rw[oF hz,hok.zlen]
 have fin: ∀{w' p v},slQ ti.size (n+rows.length) p v→kU (oO σ' (.o j) (aI e ti.size Pr)) (fun o=>if o=j then p else ι o) w' S (.e (.c (ps j ti.size (n+rows.length)))) v:=fun{w' p v} hq=>(aGm (cQ σ' (.o j) (aI e ti.size Pr)) (by show slQ _ _ (if j=j then p else ι j) v;rw[if_pos rfl];exact hq):CR (oO σ' (.o j) (aI e ti.size Pr)) (fun o=>if o=j then p else ι o) w' S (ps j ti.size (n+rows.length)) v)
 have grow: ∀(base:Option Addr) (cap:Nat) (olds:List Value),a.eval x= .slice base n cap→cap<n+rows.length→olds.length=n*ti.size→(∀w1,w1.heap=w.heap→(Builtin.firstCells ti.size n (.slice base n cap)).run P w1= .ok olds.toArray w1)→
  (∀i,i<n→ ∃r:List D,r.length=ti.size∧Pr r∧ ∀(q:Nat) d,r[q]? =some d→ ∃u,olds[i*ti.size+q]? =some u∧DR w S d u)→
  ∃v p w',(execOp a.eval o).run P w= .ok (.value v) w'∧pc σ' ι S w j (aI e ti.size Pr) p w'∧kU (oO σ' (.o j) (aI e ti.size Pr)) (fun o=>if o=j then p else ι o) w' S (.e (.c (ps j ti.size (n+rows.length)))) v:=by
  intro base cap olds hv hlt hol hold hor
  obtain⟨cap',zs,hrun,hle,hm,hzsl,hzs⟩:=fh (w:=w) (ty:=o.type) hu hok hu2 hd2 hsr base n cap olds hold hlt hb hz
  obtain⟨p',ht',hsub,hnew⟩:=wo (w0:=w.drew) (cells:=(olds++nv++zs).toArray) (tot:=cap') hw hl' ⟨rfl,rfl,rfl,rfl⟩ (by rw[List.size_toArray,aSe,aSe,hsr.size,hzsl,hol,← aSt,← aSt,Nat.add_sub_cancel' hle]) (fun hkeep i hi=>by
   simp only[List.getElem?_toArray]
   by_cases h1:i<n
   · obtain⟨r,q1,q2,q3⟩:=hor i h1
     refine⟨r,q1,q2,fun q d hd=> ?_⟩
     obtain⟨u,hu1,hu2⟩:=q3 q d hd
     have hlt:=(aSm.1 hu1).1
     exact⟨u,by rw[List.append_assoc,List.getElem?_append_left hlt];exact hu1,DR.mono (fun _ h=>h) hkeep hu2⟩
   · by_cases h2:i<n+rows.length
     · have hil:i - n<rows.length:=by omega
       obtain⟨r1,r2⟩:=hrows _ (List.getElem_mem hil)
       refine⟨rows[i - n],r1,r2,fun q d hd=> ?_⟩
       obtain⟨u,hu1,hu2⟩:=hsr.rel (i - n) _ (aSn hil) q d hd
       have hlt:=(aSm.1 hu1).1
       have hmul:i*ti.size=n*ti.size+(i - n)*ti.size:=by rw[← aSt];congr 1;omega
       exact⟨u,by rw[List.append_assoc,List.getElem?_append_right (by omega),show i*ti.size+q - olds.length=(i - n)*ti.size+q by omega,List.getElem?_append_left hlt];exact hu1,DR.mono (fun _ h=>h) hkeep hu2⟩
     · refine⟨z,hzl,hPz,fun q d hd=> ?_⟩
       obtain⟨u,hu1,hu2⟩:=hzs (i - (n+rows.length)) (by omega) q d hd
       have hmul:i*ti.size=(n+rows.length)*ti.size+(i - (n+rows.length))*ti.size:=by rw[← aSt];congr 1;omega
       have hsz: (olds++nv).length=(n+rows.length)*ti.size:=by rw[aSe,hsr.size,hol,aSt]
       exact⟨u,by rw[List.getElem?_append_right (by omega),show i*ti.size+q - (olds++nv).length=(i - (n+rows.length))*ti.size+q by omega];exact hu1,hu2 _ _⟩)
  refine⟨_,p',_,?_,ht',fin (.inr ⟨w.heap.size,0,cap',cap',by rw[Nat.zero_mul],hle,hm,by omega,hnew⟩)⟩
  simp[execOp,ho,resolve,invoke,builtin,hv,hrun]
 rcases hq with⟨hv,rfl⟩|⟨b,i0,cap,tot,hv,q2,q3,q4,q5⟩
 · by_cases hnz:rows=[]
   · subst hnz
     have hrun:=rQ (w:=w) (ty:=o.type) hu hok hu2 hd2 hsr
     refine⟨.slice none 0 0,ι j,w,by simp[execOp,ho,resolve,invoke,builtin,hv,hrun],⟨rfl,rfl,rfl,aSo _,fun _ _ _=>rfl,.inr ⟨_,hl',rfl,fun _ h=>h⟩,fun b hb=> .inl ⟨⟨_,hl',trivial⟩,hb⟩,hw.vr.objs j _ hl'⟩,fin (.inl ⟨rfl,rfl⟩)⟩
   · have hnpos:0<rows.length:=List.length_pos_iff.2 hnz
     exact grow none 0 [] hv (by omega) (by simp) (fun w1 _=>by simp[Builtin.firstCells]) (fun i hi=>by omega)
 · obtain⟨⟨cur,fz,hh,hf,hcs,hrs⟩,hmu⟩:=ff (hw.vr.objs j _ hl') hl' q5
   have h9:cur.toList.length=cur.size:=Array.length_toList
   have hcap: (i0+cap)*ti.size≤tot*ti.size:=Nat.mul_le_mul_right _ q4
   rw[aSt] at hcap
   by_cases hroom:n+rows.length≤cap
   · have hrun:=yA (w:=w) (ty:=o.type) hu hok hu2 hd2 hsr b (i0*ti.size) n cap cur e hf hh hroom (by rw[hcs];exact hcap)
     have hmul: (n+rows.length)*ti.size≤cap*ti.size:=Nat.mul_le_mul_right _ hroom
     rw[aSt,← hsr.size] at hmul
     obtain⟨htt,_⟩:=wn (w':=w.setRow b (cX cur.toList (i0*ti.size+n*ti.size) nv).toArray) (cur':=(cX cur.toList (i0*ti.size+n*ti.size) nv).toArray) hw hl' q5 ⟨rfl,rfl,rfl,by simp⟩ hh (setRow_heap w b cur _ e _ hh) (by rw[List.size_toArray,eU (by omega),h9]) (fun b' hne=>setRow_other w b b' _ hne) (fun hkeep i hi ⟨r,p1,p2,p3⟩=>by
      have get: ∀q,(cX cur.toList (i0*ti.size+n*ti.size) nv).toArray[q]? =if q<i0*ti.size+n*ti.size then cur[q]? else if q<i0*ti.size+n*ti.size+nv.length then nv[q - (i0*ti.size+n*ti.size)]? else cur[q]?:=fun q=>by
       rw[← Array.getElem?_toList,List.toList_toArray,hO (by omega)]
       simp
      have hnv:=hsr.size
      by_cases h1:i<i0+n
      · refine⟨r,p1,p2,fun q d hd=> ?_⟩
        obtain⟨u,hu1,hu2⟩:=p3 q d hd
        have hql:q<ti.size:=by rw[← p1];exact(aSm.1 hd).1
        have:=kG h1 hql
        rw[aSt] at this
        exact⟨u,by rw[get,if_pos (by omega)];exact hu1,DR.mono (fun _ h=>h) hkeep hu2⟩
      · by_cases h2:i<i0+n+rows.length
        · have hil:i - (i0+n)<rows.length:=by omega
          obtain⟨r1,r2⟩:=hrows _ (List.getElem_mem hil)
          refine⟨rows[i - (i0+n)],r1,r2,fun q d hd=> ?_⟩
          obtain⟨u,hu1,hu2⟩:=hsr.rel _ _ (aSn hil) q d hd
          have hlt:=(aSm.1 hu1).1
          have hmul:i*ti.size=i0*ti.size+n*ti.size+(i - (i0+n))*ti.size:=by rw[← aSt,← aSt];congr 1;omega
          exact⟨u,by rw[get,if_neg (by omega),if_pos (by omega),show i*ti.size+q - (i0*ti.size+n*ti.size)=(i - (i0+n))*ti.size+q by omega];exact hu1,DR.mono (fun _ h=>h) hkeep hu2⟩
        · refine⟨r,p1,p2,fun q d hd=> ?_⟩
          obtain⟨u,hu1,hu2⟩:=p3 q d hd
          have: (i0+n+rows.length)*ti.size≤i*ti.size:=Nat.mul_le_mul_right _ (by omega)
          rw[aSt,aSt] at this
          exact⟨u,by rw[get,if_neg (by omega),if_neg (by omega)];exact hu1,DR.mono (fun _ h=>h) hkeep hu2⟩)
     refine⟨_,ι j,_,?_,htt,fin (.inr ⟨b,i0,cap,tot,rfl,hroom,q3,q4,q5⟩)⟩
     simp[execOp,ho,resolve,invoke,builtin,hv,hrun]
   · have hle9:n*ti.size≤cap*ti.size:=Nat.mul_le_mul_right _ q2
     obtain⟨olds,hold⟩: ∃olds,olds=(cur.toList.drop (i0*ti.size)).take (n*ti.size):=⟨_,rfl⟩
     have holdl:olds.length=n*ti.size:=by rw[hold];simp;omega
     have hget: ∀q,q<n*ti.size→olds[q]? =cur[i0*ti.size+q]?:=by
      intro q hq
      rw[hold,List.getElem?_take,if_pos hq,List.getElem?_drop];simp
     refine grow (some ⟨b,i0*ti.size,none⟩) cap olds hv (by omega) holdl (fun w1 h1=>by
      refine run_firstCells_some (P:=P) w1 ti.size n ⟨b,i0*ti.size,none⟩ n cap _ holdl (fun q v hq=> ?_)
      have hql:q<n*ti.size:=by rw[← holdl];exact(aSm.1 hq).1
      rw[hget q hql] at hq
      rw[tC h1,kL,cell_of_row w b _ cur e fz hh];exact hq) (fun i hi=> ?_)
     obtain⟨r,p1,p2,p3⟩:=hrs (i0+i) (by omega)
     refine⟨r,p1,p2,fun q d hd=> ?_⟩
     obtain⟨u,hu1,hu2⟩:=p3 q d hd
     have hql:q<ti.size:=by rw[← p1];exact(aSm.1 hd).1
     exact⟨u,by rw[hget _ (kG hi hql),← Nat.add_assoc,← aSt];exact hu1,hu2⟩
end
section
variable {P:Program} {ops:Array Oper} {cx:Cx P} {Q:Exit→Act→World→Prop} {σ:St}
theorem yt (hedge:qQ 0 ops.toList=true) {listed:Array Bool} (hcl: ∀k o,ops[k]? =some o→listed.getD k false=true→ ∀i∈jS o,listed.getD i false=true): ∀(k:Nat),∀o,ops[k]? =some o→(∀i∈jS o,listed.getD i false=true)→ ∀i∈(lF ops.toList []).getD k [],listed.getD i false=true:=by
 have hedge': ∀(j:Nat) o,ops[j]? =some o→ ∀i∈jS o,i<j:=fun j o ho i hi=>by
  have:=oQ 0 ops.toList hedge j o (by simpa using ho) i hi;omega
 have hpl: ∀(j:Nat) o,ops[j]? =some o→(lF ops.toList [])[j]? =some ((jS o).flatMap fun i=>i::(lF ops.toList []).getD i []):=fun j o ho=>by
  have:=eu ops.toList [] j o (by simpa using ho) hedge
  simpa using this
 intro k
 induction k using Nat.strongRecOn with
 |_ k ih=>
  intro o ho hp i hi
  rw[aSl,hpl k o ho] at hi
  simp only[Option.getD_some,List.mem_flatMap] at hi
  obtain⟨i',hi',hi⟩:=hi
  rcases aSw.1 hi with rfl|hi
  · exact hp i hi'
  · have hlt:=hedge' k o ho i' hi'
    have hsz':k<ops.size:=(Array.getElem?_eq_some_iff.1 ho).1
    have ho':ops[i']? =some ops[i']:=Array.getElem?_eq_getElem (by omega)
    exact ih i' hlt _ ho' (hcl i' _ ho' (hp i' hi')) i hi
theorem pf {ts:List lE} (hlen:ts.length=ops.size) (hr:jH ts σ) (hok:oP ops.toList ts=true):
 ∀(fuel:Nat) (listed:Array Bool) (σL:St) (ι:Nat→Value) (S:Nat→Prop) (a:Act) (w:World),listed.size=ops.size→(∀l,aS σL l=part ts (fun i=>listed.getD i false) σ l ts.length)→RW cx σL ι S a w→
  (∀k o,ops[k]? =some o→listed.getD k false=true→ ∀i∈jS o,listed.getD i false=true)→
  (Region.ready .any ops listed=[]→RW cx (eQ ts σ) ι S a w)∧ ∀i∈Region.ready .any ops listed,∃o t,ops[i]? =some o∧ts[i]? =some t∧i<ops.size∧listed.getD i false=false∧bJ t.1 σL∧
   (∀k o,ops[k]? =some o→(listed.setIfInBounds i true).getD k false=true→ ∀i'∈jS o,(listed.setIfInBounds i true).getD i' false=true)∧(∀j,(listed.setIfInBounds i true).getD j false=if j=i then true else listed.getD j false)∧
   ∀l,aS (hD σL t.2) l=part ts (fun j=>(listed.setIfInBounds i true).getD j false) σ l ts.length:=by
 simp only[oP,aSg] at hok
 obtain⟨hedge,hpair⟩:=hok
 have hedge': ∀(j:Nat) o,ops[j]? =some o→ ∀i∈jS o,i<j:=fun j o ho i hi=>by
  have:=oQ 0 ops.toList hedge j o (by simpa using ho) i hi;omega
 have hpl: ∀(j:Nat) o,ops[j]? =some o→(lF ops.toList [])[j]? =some ((jS o).flatMap fun i=>i::(lF ops.toList []).getD i []):=fun j o ho=>by
  have:=eu ops.toList [] j o (by simpa using ho) hedge
  simpa using this
 intro fuel listed σL ι S a w hsz hlook hw hcl
 have hclosed: ∀(k:Nat),∀o,ops[k]? =some o→(∀i∈jS o,listed.getD i false=true)→ ∀i∈(lF ops.toList []).getD k [],listed.getD i false=true:=by
  intro k
  induction k using Nat.strongRecOn with
  |_ k ih=>
   intro o ho hp i hi
   rw[aSl,hpl k o ho] at hi
   simp only[Option.getD_some,List.mem_flatMap] at hi
   obtain⟨i',hi',hi⟩:=hi
   rcases aSw.1 hi with rfl|hi
   · exact hp i hi'
   · have hlt:=hedge' k o ho i' hi'
     have hsz':k<ops.size:=(Array.getElem?_eq_some_iff.1 ho).1
     have ho':ops[i']? =some ops[i']:=Array.getElem?_eq_getElem (by omega)
     exact ih i' hlt _ ho' (hcl i' _ ho' (hp i' hi')) i hi
 refine⟨fun hnil=> ?_,fun i hi=> ?_⟩
 · have hall: ∀k,k<ops.size→listed.getD k false=true:=by
    intro k
    induction k using Nat.strongRecOn with
    |_ k ih=>
     intro hk
     cases hL:listed.getD k false with
     |true=>rfl
     |false=>
      have ho:ops[k]? =some ops[k]:=Array.getElem?_eq_getElem hk
      have:k∈Region.ready .any ops listed:=mem_ready.2 ⟨nP.2 ⟨by omega,hL⟩,_,ho,fun e he hb=>by
       have hm:e.on∈jS ops[k]:=aSq.2 ⟨e,List.mem_filter.2 ⟨by simpa using he,hb⟩,rfl⟩
       have:=hedge' k _ ho _ hm
       exact ih e.on this (by omega)⟩
      rw[hnil] at this;cases this
   refine hw.congr fun l=> ?_
   rw[hlook l,yV ts σ l _ ts.length (aSo _) (fun i hi=>hall i (by omega)),aSv]
 · obtain⟨hun,o,ho,hall⟩:=mem_ready.1 hi
   obtain⟨hisz,hLi⟩:=nP.1 hun
   have hit':i<ts.length:=by omega
   have hti:ts[i]? =some ts[i]:=aSn hit'
   have hpreds: ∀i'∈jS o,listed.getD i' false=true:=by
    intro i' hi'
    obtain⟨e,he,rfl⟩:=aSq.1 hi'
    obtain⟨he1,he2⟩:=List.mem_filter.1 he
    exact hall e (by simpa using he1) he2
   have hset: ∀j,(listed.setIfInBounds i true).getD j false=if j=i then true else listed.getD j false:=by
    intro j
    rw[Array.getD_eq_getD_getElem?,Array.getD_eq_getD_getElem?]
    by_cases e:j=i
    · subst e;simp[hisz]
    · rw[if_neg e,Array.getElem?_setIfInBounds_ne (fun h=>e h.symm)]
   have later: ∀j u,i<j→listed.getD j false=true→ts[j]? =some u→nY (oG ts[i]) (oG u)=true:=by
    intro j u hij hLj hu
    have hjl:j<ts.length:=(aSm.1 hu).1
    have hoj:ops[j]? =some ops[j]:=Array.getElem?_eq_getElem (by omega)
    rcases oS hpair j i hjl hij (oG ts[i]) (oG u) _ (by simp[hti]) (by simp[hu]) (hpl j _ hoj) with h|h
    · have:=hclosed j _ hoj (hcl j _ hoj hLj) i (by rw[aSl,hpl j _ hoj];exact h)
      rw[hLi] at this;cases this
    · exact h
   have earlier: ∀j u,j<i→listed.getD j false=false→ts[j]? =some u→nY (oG u) (oG ts[i])=true:=by
    intro j u hij hLj hu
    rcases oS hpair i j hit' hij (oG u) (oG ts[i]) _ (by simp[hu]) (by simp[hti]) (hpl i _ ho) with h|h
    · have:=hclosed i _ ho hpreds j (by rw[aSl,hpl i _ ho];exact h)
      rw[hLj] at this;cases this
    · exact h
   have hreads:bJ ts[i].1 σL:=by
    intro p hp
    rw[hlook p.1,cy hLi (fun j u hj hLj hu=>by
     have:=earlier j u hj hLj hu
     simp only[nY,aSg] at this
     exact aA6 this.1.2 hp) (fun j u hj hLj hu=>by
     have:=later j u hj hLj hu
     simp only[nY,aSg] at this
     exact aA5 this.2 hp),show min ts.length i=i by omega,yV ts σ p.1 _ i (by omega) (fun _ _=>rfl)]
    exact yW ts σ hr i _ hti p hp
   refine⟨o,ts[i],ho,hti,by omega,hLi,hreads,fun k o' ho' hk i' hi'=> ?_,hset,fun l=> ?_⟩
   · rw[hset] at hk ⊢
     by_cases e:i'=i
     · rw[if_pos e]
     · rw[if_neg e]
       by_cases e2:k=i
       · subst e2;rw[ho] at ho';cases ho';exact hpreds i' hi'
       · rw[if_neg e2] at hk;exact hcl k o' ho' hk i' hi'
   · rw[kM,od hti hLi hset (fun j u hj hLj hu hne=>by
      have:=later j u hj hLj hu
      simp only[nY,aSg] at this
      exact aA4 this.1.1 hne) ts.length,if_pos hit',hlook l]
     all_goals(cases wr ts[i].2 l<;>rfl)
theorem aEn {κ:Type} {ts:κ→List lE} {i0:Nat} {o0:Oper} {R0:List (dD×Option K)} {Ws:List (dD×K)→Prop} (hlen: ∀c,(ts c).length=ops.size) (ho0:ops[i0]? =some o0) (hg0:o0.guard=none) (h0:OpE P o0 R0 Ws) (hR0: ∀c t,(ts c)[i0]? =some t→t.1=R0) (hW0: ∀W,Ws W→ ∃c,(ts c)[i0]? =some (R0,W))
 (hit: ∀c (i:Nat) o t,i≠i0→ops[i]? =some o→(ts c)[i]? =some t→ItT P ops o t) (hind: ∀c c' (j:Nat),j≠i0→i0∉ (lF ops.toList []).getD j []→(ts c)[j]? =(ts c')[j]?) (hr: ∀c,jH (ts c) σ) (hok: ∀c,oP ops.toList (ts c)=true) (hf: ∀o∈ops.toList,∀d,o.dst=some d→d<cx.N)
 (hq: ∀c ι' S' a' w',RW cx (eQ (ts c) σ) ι' S' a' w'→Q .normal a' w'):
 ∀(fuel:Nat) (c:κ) (listed:Array Bool) (σL:St) (ι:Nat→Value) (S:Nat→Prop) (a:Act) (w:World),listed.size=ops.size→(∀l,aS σL l=part (ts c) (fun i=>listed.getD i false) σ l (ts c).length)→RW cx σL ι S a w→
  (∀k o,ops[k]? =some o→listed.getD k false=true→ ∀i∈jS o,listed.getD i false=true)→((aSp ops.size).filter fun i=> !listed.getD i false).length≤fuel→wpAny P .any ops Q fuel listed a w:=by
 have hedge: ∀c,qQ 0 ops.toList=true:=fun c=>by have:=hok c;simp only[oP,aSg] at this;exact this.1
 intro fuel
 induction fuel with
 |zero=>
  intro c listed σL ι S a w hsz hlook hw hcl hcount
  obtain⟨h1,h2⟩:=pf (hlen c) (hr c) (hok c) 0 listed σL ι S a w hsz hlook hw hcl
  have hnil:Region.ready .any ops listed=[]:=by
   apply List.eq_nil_iff_forall_not_mem.2
   intro i hi
   obtain⟨o,t,ho,ht,hlt,hLi,_⟩:=h2 i hi
   have:i∈(aSp ops.size).filter fun i=> !listed.getD i false:=List.mem_filter.2 ⟨List.mem_range.2 hlt,by rw[hLi];rfl⟩
   rw[List.eq_nil_of_length_eq_zero (by omega: ((aSp ops.size).filter fun i=> !listed.getD i false).length=0)] at this
   cases this
  exact⟨hnil,hq c _ _ _ _ (h1 hnil)⟩
 |succ fuel ih=>
  intro c listed σL ι S a w hsz hlook hw hcl hcount
  obtain⟨h1,h2⟩:=pf (hlen c) (hr c) (hok c) 0 listed σL ι S a w hsz hlook hw hcl
  refine⟨fun hn=>hq c _ _ _ _ (h1 hn),fun i hi=> ?_⟩
  obtain⟨o,t,ho,ht,hlt,hLi,hreads,hcl',hset,hlook'⟩:=h2 i hi
  unfold wpOp
  rw[ho]
  have hfo:=hf o (by have:=Array.mem_of_getElem? ho;simpa using this)
  have hdrop:=ll (N:=ops.size) (L:=fun j=>listed.getD j false) (L':=fun j=>(listed.setIfInBounds i true).getD j false) hlt hLi hset
  by_cases hi0:i=i0
  · subst hi0
    rw[ho0] at ho;cases ho
    have hRt:=hR0 c t ht
    dsimp only
    rw[if_pos (by simp[Region.wanted,hg0])]
    refine .inl (h0 cx σL ι S a w (by rw[← hRt];exact hreads) hw hfo _ Q fun W hW ι' S' a' w' hw'=> ?_)
    obtain⟨c',hc'⟩:=hW0 W hW
    have hsame: ∀l,aS σL l=part (ts c') (fun i=>listed.getD i false) σ l (ts c').length:=fun l=>by
     rw[hlook l,hlen c,hlen c']
     have hclosed:=yt (hedge c) hcl
     have: ∀n,n≤ops.size→part (ts c) (fun i=>listed.getD i false) σ l n=part (ts c') (fun i=>listed.getD i false) σ l n:=by
      intro n
      induction n with
      |zero=>intro _;rfl
      |succ n ihn=>
       intro hn
       rw[lM,lM,ihn (by omega)]
       by_cases hLn:listed.getD n false=true
       · have hon:ops[n]? =some ops[n]:=Array.getElem?_eq_getElem (by omega)
         have hne:n≠i:=fun e=>by rw[e,hLi] at hLn;cases hLn
         have hni:i∉ (lF ops.toList []).getD n []:=fun hm=>by
          have:=hclosed n _ hon (hcl n _ hon hLn) i hm
          rw[hLi] at this;cases this
         rw[hind c c' n hne hni]
       · rw[if_neg hLn,if_neg hLn]
     exact this _ (aSo _)
    obtain⟨_,h2'⟩:=pf (hlen c') (hr c') (hok c') 0 listed σL ι S a w hsz hsame hw hcl
    obtain⟨o2,t2,ho2,ht2,_,_,_,_,_,hlook2⟩:=h2' i hi
    rw[hc'] at ht2;cases ht2
    exact ih c' (listed.setIfInBounds i true) (hD σL W) ι' S' a' w' (by simpa using hsz) hlook2 hw' hcl' (by omega)
  · refine hit c i o t hi0 ho ht cx σL ι S a w hreads hw hfo _ Q fun ι' S' a' w' hw'=> ?_
    exact ih c (listed.setIfInBounds i true) (hD σL t.2) ι' S' a' w' (by simpa using hsz) hlook' hw' hcl' (by omega)
end
def aP8:Option lE→lE→Prop
 |none,_=>True
 |some t,t'=>t'=t
def aKh (P:Program) (T:gB) (fx:Nat→Option lE):List Oper→Nat→St→List bv→(St→List bv→Prop)→Prop
 | [],_,σ,acc,k=>k σ acc
 |o::os,i,σ,acc,k=>match o.guard with
  |none=>aGl P T o σ fun R W=>aP8 (fx i) (R,W)∧mB σ W fun σ'=>aKh P T fx os (i+1) σ' (acc++[oG (R,W)]) k
  |some _=>False
theorem pg {P:Program} {T:gB} (hT:dK P T) {ops:Array Oper} {fx:Nat→Option lE} {k:St→List bv→Prop}: ∀(l:List Oper) (i:Nat) (σ:St) (acc:List bv),aKh P T fx l i σ acc k→
 ∃ts:List lE,yB P ops l ts∧jH ts σ∧(∀j t,ts[j]? =some t→aP8 (fx (i+j)) t)∧k (eQ ts σ) (acc++ts.map oG)
 | [],i,σ,acc,h=>⟨[],trivial,trivial,by simp,by simpa[aKh,eQ] using h⟩
 |o::os,i,σ,acc,h=>by
  simp only[aKh] at h
  split at h
  · rename_i hg
    obtain⟨R,W,h1,h2,h3,h4⟩:=lx hT h
    rw[jW] at h4
    obtain⟨ts,q1,q2,q3,q4⟩:=pg hT os _ _ _ h4
    refine⟨(R,W)::ts,⟨yU hg h1,q1⟩,⟨h2,q2⟩,fun j t hj=> ?_,by simpa[eQ] using q4⟩
    cases j with
    |zero=>simp at hj;subst hj;exact h3
    |succ j=>rw[show i+(j+1)=i+1+j by omega];exact q3 j t (by simpa using hj)
  · exact h.elim
def aP9 (i0:Nat) (fx:Nat→Option lE) (ops:Array Oper):Bool:=(aSp ops.size).all fun j=>decide (j≤i0)||(fx j).isSome||iH i0 ((lF ops.toList []).getD j [])
theorem zE {P:Program} {ops:Array Oper}: ∀(l:List Oper) (ts:List lE),yB P ops l ts→ts.length=l.length∧ ∀(i:Nat) o t,l[i]? =some o→ts[i]? =some t→ItT P ops o t:=by
 intro l
 induction l with
 |nil=>intro ts h;cases ts with
  |nil=>exact⟨rfl,by simp⟩
  |cons t ts=>exact h.elim
 |cons o os ih=>intro ts h;cases ts with
  |nil=>exact h.elim
  |cons t ts=>
   obtain⟨q1,q2⟩:=ih ts h.2
   refine⟨by simp[q1],fun i o' t' ho ht=> ?_⟩
   cases i with
   |zero=>simp at ho ht;subst ho;subst ht;exact h.1
   |succ i=>exact q2 i o' t' (by simpa using ho) (by simpa using ht)
theorem yF: ∀(ts us:List lE) (σ:St),jH ts σ→jH us (eQ ts σ)→jH (ts++us) σ
 | [],us,σ,_,h=>h
 |t::ts,us,σ,h1,h2=>⟨h1.1,yF ts us _ h1.2 h2⟩
theorem SW.regDE {P:Program} {T:gB} {io:List Nat} {Q:Ex→St→Prop} {σ:St} (hT:dK P T) (hm:P.follows .mixedOrders=true) (ks:List Nat) (i0:Nat) (fx:Nat→Option lE) {id:Nat} {ops:Array Oper} {o0:Oper} (ho:ops.toList[i0]? =some o0) (hg:o0.guard=none) (hfx:aP9 i0 fx ops=true)
 (h:goC P T ops.toList true (ops.toList.take i0) σ [] fun σ1 acc=> ∃R0 Ws,OpE P o0 R0 Ws∧bJ R0 σ1∧(∃W,Ws W)∧ ∀W,Ws W→mB σ1 W fun σ2=>aKh P T fx (ops.toList.drop (i0+1)) (i0+1) σ2 (acc++[oG (R0,W)]) fun σ' ns=>zB ops.toList ns=true∧pV ks σ' (Q .norm)):
 SW P io (.region id ops true) Q σ:=by
 intro cx ι S a w hio hw hf
 have hfit: ∀o∈ops.toList,∀d,o.dst=some d→d<cx.N:=fun o ho=>wK (by simpa[rR] using hf) ho
 obtain⟨tA,h1,h2,acc,h3,R0,Ws,h4,h5,⟨W0,hW0⟩,h6⟩:=vU hT (ops.toList.take i0) σ [] h
 have h3:=h3 rfl
 rw[List.nil_append] at h3
 subst h3
 have hi0:i0<ops.toList.length:=(aSm.1 ho).1
 have hsz:ops.toList.length=ops.size:=Array.length_toList
 have hAl:tA.length=i0:=by rw[(zE _ _ h1).1,aSk];omega
 have h7: ∀W: {W // Ws W},∃tB:List lE,yB P ops (ops.toList.drop (i0+1)) tB∧jH tB (hD (eQ tA σ) W.1)∧(∀j t,tB[j]? =some t→aP8 (fx (i0+1+j)) t)∧zB ops.toList ((tA.map oG++[oG (R0,W.1)])++tB.map oG)=true∧Q .norm (Ab.keep ks (eQ tB (hD (eQ tA σ) W.1))):=fun⟨W,hW⟩=>by
  have h8:=h6 W hW
  rw[jW] at h8
  obtain⟨tB,q1,q2,q3,q4,q5⟩:=pg (ops:=ops) hT _ _ _ _ h8
  rw[lN] at q5
  exact⟨tB,q1,q2,q3,q4,q5⟩
 let tB:=fun W: {W // Ws W}=>Classical.choose (h7 W)
 have hB:=fun W: {W // Ws W}=>Classical.choose_spec (h7 W)
 let ts:=fun W: {W // Ws W}=>tA++(R0,W.1)::tB W
 have hBl: ∀W,(tB W).length=ops.size - (i0+1):=fun W=>by have:=(zE _ _ (hB W).1).1;rw[aSr,hsz] at this;exact this
 have hrun: ∀W,eQ (ts W) σ=eQ (tB W) (hD (eQ tA σ) W.1):=fun W=>by
  show eQ (tA++(R0,W.1)::tB W) σ=_
  rw[vA];rfl
 have hget: ∀W j,(ts W)[j]? =if j<i0 then tA[j]? else if j=i0 then some (R0,W.1) else(tB W)[j - (i0+1)]?:=fun W j=>by
  show(tA++(R0,W.1)::tB W)[j]? =_
  by_cases c1:j<i0
  · rw[if_pos c1,List.getElem?_append_left (by omega)]
  · rw[if_neg c1,List.getElem?_append_right (by omega),hAl]
    by_cases c2:j=i0
    · rw[if_pos c2,c2,Nat.sub_self];rfl
    · rw[if_neg c2,show j - i0=(j - (i0+1))+1 by omega,List.getElem?_cons_succ]
 have hlen: ∀W,(ts W).length=ops.size:=fun W=>by
  show(tA++(R0,W.1)::tB W).length=_
  rw[aSe,aSi,hBl,hAl];omega
 have ho':ops[i0]? =some o0:=by simpa using ho
 refine wp_region_any hm (aEn (κ:={W // Ws W}) (cx:=cx) (σ:=σ) (ts:=ts) (i0:=i0) hlen ho' hg h4 (fun W t ht=>by rw[hget,if_neg (by omega),if_pos rfl] at ht;cases ht;rfl) (fun W hW=>⟨⟨W,hW⟩,by rw[hget,if_neg (by omega),if_pos rfl]⟩)
  (fun W i o t hne ho2 ht=> ?_) (fun W W' j hne hni=> ?_) (fun W=>yF _ _ _ h2 ⟨h5,(hB W).2.1⟩) (fun W=> ?_) hfit (fun W ι' S' a' w' hw'=>⟨_,ι',S',(hB W).2.2.2.2,by rw[hrun] at hw';exact hw'.keep ks⟩)
  ops.size ⟨W0,hW0⟩ (Array.replicate ops.size false) σ ι S a _ (by simp) (fun l=> ?_) hw.drew (fun k o ho hk=> ?_) ?_)
 · rw[hget] at ht
   by_cases c1:i<i0
   · rw[if_pos c1] at ht
     exact(zE _ _ h1).2 i o t (by rw[List.getElem?_take,if_pos c1];simpa using ho2) ht
   · rw[if_neg c1,if_neg hne] at ht
     exact(zE _ _ (hB W).1).2 (i - (i0+1)) o t (by rw[List.getElem?_drop,show i0+1+(i - (i0+1))=i by omega];simpa using ho2) ht
 · rw[hget,hget]
   by_cases c1:j<i0
   · rw[if_pos c1,if_pos c1]
   · rw[if_neg c1,if_neg c1,if_neg hne,if_neg hne]
     by_cases c3:j<ops.size
     · have hd:=aSu.1 hfx j (List.mem_range.2 c3)
       simp only[Bool.or_eq_true,decide_eq_true_eq] at hd
       rcases hd with(hd|hd)|hd
       · omega
       · obtain⟨t,ht⟩:=Option.isSome_iff_exists.1 hd
         have e: ∀W,(tB W)[j - (i0+1)]? =some t:=fun W=>by
          have hl:j - (i0+1)< (tB W).length:=by rw[hBl];omega
          have:=(hB W).2.2.1 (j - (i0+1)) _ (aSn hl)
          rw[show i0+1+(j - (i0+1))=j by omega,ht] at this
          rw[aSn hl]
          exact congrArg some this
         rw[e W,e W']
       · exact absurd (gC.1 hd) hni
     · rw[List.getElem?_eq_none (by rw[hBl];omega),List.getElem?_eq_none (by rw[hBl];omega)]
 · have:=zC (hB W).2.2.2.1
   have e: (tA.map oG++[oG (R0,W.1)])++(tB W).map oG=(ts W).map oG:=by
    show _=(tA++(R0,W.1)::tB W).map oG
    simp
   have this:vB ops.toList ((tA.map oG++[oG (R0,W.1)])++(tB W).map oG)=true:=this
   rw[e] at this
   simpa[oP,vB] using this
 · have hL: ∀i,(Array.replicate ops.size false).getD i false=false:=fun i=>by
    rw[Array.getD_eq_getD_getElem?,Array.getElem?_replicate];split<;>rfl
   have: ∀n,part (ts ⟨W0,hW0⟩) (fun i=>(Array.replicate ops.size false).getD i false) σ l n=aS σ l:=by
    intro n
    induction n with
    |zero=>rfl
    |succ n ih=>rw[lM,if_neg (by rw[hL];simp),ih]
   rw[this]
 · rw[Array.getD_eq_getD_getElem?,Array.getElem?_replicate] at hk;split at hk<;>cases hk
 · exact Nat.le_trans (List.length_filter_le _ _) (by simp)
section
variable {P:Program} {T:gB} {io:List Nat} {f:FuncId} {n:Nat} {σin:St} {o:Oper} {c:Call} {d:Nat} {σ σ1:St} {Xs:List V} {Ra:List (dD×Option K)}
theorem uJ {Qo:St→Prop} {rl:List (Nat×Nat)} {bor news:List Nat} {robj:List (Nat×K)} {k:List (dD×Option K)→List (dD×K)→Prop} (hs:SpecE P f n σin Qo) (ho:o.op= .call c) (hc:c.callee= .value (.func f)) (hx:evA σ c.args.toList=some (Xs,Ra)) (hn:Xs.length=n)
 (hm:nK (eH 0 Xs++pU robj) σin rl bor) (hq: ∀σout,Qo σout→jN rl σin σout=true∧(bor=[]∨mA σout)∧ ∀j∈nE σin σout,j∈news) (h1: ∀p∈robj,aS σ (.o p.1)=some p.2) (h2: ∀j∈news,aS σ (.o (jG rl j))=none) (hne: ∃σout,Qo σout)
 (h: ∀σout,Qo σout→k (aKb Ra robj rl news) (sC rl σin σout o.dst)): ∃R Ws,OpE P o R Ws∧bJ R σ∧(∃W,Ws W)∧ ∀W,Ws W→k R W:=by
 refine⟨_,_,wl hs ho hc hx hn hm hq,fun p hp=> ?_,?_,fun W ⟨σout,hQ,e⟩=>e▸h σout hQ⟩
 · rcases List.mem_append.1 hp with hp|hp
   · rcases List.mem_append.1 hp with hp|hp
     · exact sV hx p hp
     · obtain⟨q,hq,rfl⟩:=aSq.1 hp
       exact h1 q hq
   · obtain⟨j,hj,rfl⟩:=aSq.1 hp
     exact h2 j hj
 · obtain⟨σout,hQ⟩:=hne
   exact⟨_,σout,hQ,rfl⟩
end
section
variable {P:Program} {T:gB} {o:Oper} {σ:St} {t e:TypeId} {s1 s2 d j es:Nat} {s3:List C} {k:List (dD×Option K)→List (dD×K)→Prop} {Pr:List D→Prop} {ti:TI}
theorem aM0 (hT:dK P T) (ho:o.op= .buildSlice t 0 #[]) (hd:o.dst=some d) (ht:T t=some ⟨.sl e,s1,s2,s3⟩) (hte:T e=some ti) (hes:ti.size=es) (hl:aS σ (.o j)=some (aI e es Pr))
 (h:k [(.o j,some (aI e es Pr))] [(.o j,aI e es Pr),(.t d,.v (.e (.c (ps j es 0))))]): ∃R W,wG P o R W∧bJ R σ∧k R W:=by
 have hu:=(hT t _ ht).kind
 simp only[kW] at hu
 have hok:=hT e ti hte
 refine⟨_,_,pd hd fun cx σ' ι S a w hr hw=> ?_,bJ.one hl,h⟩
 have hl':=hr (.o j,some (aI e es Pr)) (by simp)
 dsimp only at hl'
 obtain⟨p',ht',hsub,hnew⟩:=wo (w0:=w) (cells:= #[]) (tot:=0) hw hl' ⟨rfl,rfl,rfl,rfl⟩ (by simp) (fun _ i hi=>by omega)
 refine⟨.slice (some ⟨w.heap.size,0,none⟩) 0 0,p',w.alloc (.cells #[] e),?_,ht',show CR (oO σ' (.o j) (aI e es Pr)) (fun o=>if o=j then p' else ι o) (w.alloc (.cells #[] e)) S (ps j es 0) _ from aGm (cQ σ' (.o j) (aI e es Pr)) ?_⟩
 · have hrun: (Instr.buildSlice t 0 #[]).run P w= .ok (.slice (some ⟨w.heap.size,0,none⟩) 0 0) (w.alloc (.cells #[] e)):=by
    simp only[Instr.buildSlice,Sem.run_bind,run_underlying hu,Result.andThen_ok,fB hok]
    rw[if_neg (by omega)]
    simp[Instr.fill,newRow,Array.range_zero']
   simp[execOp,ho]
   rw[hrun];rfl
 · show slQ es 0 (if j=j then p' else ι j) _
   rw[if_pos rfl]
   exact .inr ⟨w.heap.size,0,0,0,by rw[Nat.zero_mul],aSo _,by simp only[maxLen];omega,aSo _,hnew⟩
end
theorem RW.newPool {P:Program} {cx:Cx P} {σ:St} {ι:Nat→Value} {S:Nat→Prop} {a:Act} {w:World} (h:RW cx σ ι S a w) {j:Nat} (e:TypeId) (es:Nat) (Pr:List D→Prop) (hj:aS σ (.o j)=none):
 RW cx (oO σ (.o j) (aI e es Pr)) (fun o=>if o=j then .tuple #[] else ι o) S a w:=
 h.turnZ ⟨rfl,rfl,rfl,aSo _,fun _ _ _=>rfl,.inl hj,fun b hb=>by obtain⟨v,hv,_⟩:=hb;simp at hv,⟨_,rfl⟩,fun v hv=>by obtain⟨vs,h1,h2⟩:=hv;cases h1;simp at h2⟩
theorem SW.newPool {P:Program} {io:List Nat} {Q:Ex→St→Prop} {σ:St} {c:Code} (j:Nat) (e:TypeId) (es:Nat) (Pr:List D→Prop) (hj:aS σ (.o j)=none) (h:mw σ (.o j) (aI e es Pr) (SW P io c Q)):SW P io c Q σ:=by
 rw[nM] at h
 intro cx ι S a w hio hw hf
 exact h cx _ S a w hio (hw.newPool e es Pr hj) hf
section
variable {τ σ':St} {rl:List (Nat×Nat)} {bor:List Nat} {r:List (dD×K)}
theorem aKi {s o es n j m:Nat} {Z:ej} (h:aS τ (.t s)=some (.v (.e (.c (ps o es n))))) (ho:o=jG rl j) (e:n=m) (hj:aS σ' (.o j)=some (.zone Z)) (hr:mL τ σ' rl bor r):mL τ σ' rl bor ((.t s,.v (.e (.c (ps j es m))))::r):=
 ⟨⟨_,h,ho,fun p v hv=>by rw[← e];exact hv,Z,hj⟩,hr⟩
theorem aV {j:Nat} {Z Z':ej} (h:aS τ (.o (jG rl j))=some (.zone Z)) (e:Z=Z') (hr:mL τ σ' rl bor r):mL τ σ' rl bor ((.o j,.zone Z')::r):=⟨⟨_,h,by rw[← e];exact⟨rfl,fun _ _ _ h=>h⟩⟩,hr⟩
theorem bD {o es n j m:Nat} {Z:ej} {cs ds:List C} (ho:o=jG rl j) (e:n=m) (hj:aS σ' (.o j)=some (.zone Z)) (h:tk τ σ' rl bor cs ds):tk τ σ' rl bor (ps o es n::cs) (ps j es m::ds):=⟨⟨ho,fun p v hv=>by rw[← e];exact hv,Z,hj⟩,h⟩
end
def goX (P:Program):List Oper→St→List bv→(St→List bv→Prop)→Prop
 | [],σ,acc,k=>k σ acc
 |o::os,σ,acc,k=>match o.guard with
  |none=> ∃R W,wG P o R W∧bJ R σ∧mB σ W fun σ'=>goX P os σ' (acc++[oG (R,W)]) k
  |some _=>False
theorem sx {P:Program} {T:gB} (hT:dK P T) {o:Oper} {σ:St} {p:Prop} {R:List (dD×Option K)} {W:List (dD×K)} {k:List (dD×Option K)→List (dD×K)→Prop} (h:jn T o σ=some (p,R,W)) (hp:p) (hk:k R W): ∃R W,wG P o R W∧bJ R σ∧k R W:=by
 obtain⟨h1,h2⟩:=uI hT o σ p R W h hp
 exact⟨R,W,h1,h2,hk⟩
theorem wt {P:Program} {ops:Array Oper} {k:St→List bv→Prop}: ∀(l:List Oper) (σ:St) (acc:List bv),goX P l σ acc k→ ∃ts:List lE,yB P ops l ts∧jH ts σ∧k (eQ ts σ) (acc++ts.map oG)
 | [],σ,acc,h=>⟨[],trivial,trivial,by simpa[goX,eQ] using h⟩
 |o::os,σ,acc,h=>by
  simp only[goX] at h
  split at h
  · rename_i hg
    obtain⟨R,W,h1,h2,h3⟩:=h
    rw[jW] at h3
    obtain⟨ts,q1,q2,q4⟩:=wt os _ _ h3
    exact⟨(R,W)::ts,⟨yU hg h1,q1⟩,⟨h2,q2⟩,by simpa[eQ] using q4⟩
  · exact h.elim
theorem SW.regX {P:Program} {io:List Nat} {Q:Ex→St→Prop} {σ:St} (hm:P.follows .mixedOrders=true) (ks:List Nat) {id:Nat} {ops:Array Oper} (h:goX P ops.toList σ [] fun σ' ns=>zB ops.toList ns=true∧pV ks σ' (Q .norm)):SW P io (.region id ops true) Q σ:=by
 intro cx ι S a w hio hw hf
 have hfit: ∀o∈ops.toList,∀d,o.dst=some d→d<cx.N:=fun o ho=>wK (by simpa[rR] using hf) ho
 obtain⟨ts,h1,h2,h4,h5⟩:=wt (ops:=ops) ops.toList σ [] h
 rw[List.nil_append] at h4
 rw[lN] at h5
 obtain⟨q1,q2⟩:=zE _ _ h1
 refine wp_region_any hm (au (cx:=cx) (σ:=σ) (ts:=ts) (by simpa using q1) (fun i o t ho ht=>q2 i o t (by simpa using ho) ht) h2 (by have:=zC h4;simpa[oP,vB] using this) hfit (fun ι' S' a' w' hw'=>⟨_,ι',S',h5,hw'.keep ks⟩)
  ops.size (Array.replicate ops.size false) σ ι S a _ (by simp) (fun l=> ?_) hw.drew (fun k o ho hk=> ?_) ?_)
 · have hL: ∀i,(Array.replicate ops.size false).getD i false=false:=fun i=>by
    rw[Array.getD_eq_getD_getElem?,Array.getElem?_replicate];split<;>rfl
   have: ∀n,part ts (fun i=>(Array.replicate ops.size false).getD i false) σ l n=aS σ l:=by
    intro n
    induction n with
    |zero=>rfl
    |succ n ih=>rw[lM,if_neg (by rw[hL];simp),ih]
   rw[this]
 · rw[Array.getD_eq_getD_getElem?,Array.getElem?_replicate] at hk;split at hk<;>cases hk
 · exact Nat.le_trans (List.length_filter_le _ _) (by simp)
def aKj:Option K→Bool
 |some (.row ..)=>true
 |_=>false
def aKk:Option K→Bool
 |some (.box ..)=>true
 |_=>false
def yu:Option K→Bool
 |some (.zone ..)=>true
 |_=>false
def qC (τ σ':St) (rl:List (Nat×Nat)) (bor:List Nat):C→C→Prop→Prop
 | .d x,.d y,p=>x=y∧p
 | .nil,.nil,p=>p
 | .nil,.d y,p=>y= .sl []∧p
 | .own o n,.d y,p=>match iH o bor,aS τ (.o o) with
  |true,some (.row e es rows)=>rows.length=n∧y= .sl rows∧p
  |_,_=>False
 | .own o n,.own j m,p=>match Nat.beq o (jG rl j)&&aKj (aS σ' (.o j)) with
  |true=>n=m∧p
  |false=>False
 | .pt o k,.pt j m,p=>match Nat.beq o (jG rl j)&&(Nat.beq k m&&aKk (aS σ' (.o j))) with
  |true=>p
  |false=>False
 | .rp cs,.rp cs',p=>cs=cs'∧p
 | .nil,.z j Q',p=>match yu (aS σ' (.o j)) with
  |true=>(∀p,Q' p (.slice none 0 0))∧p
  |false=>False
 | .z o Q,.z j Q',p=>match Nat.beq o (jG rl j)&&yu (aS σ' (.o j)) with
  |true=>Q=Q'∧p
  |false=>False
 |_,_,_=>False
def qCs (τ σ':St) (rl:List (Nat×Nat)) (bor:List Nat):List C→List C→Prop→Prop
 | [],[],p=>p
 |c::cs,d::ds,p=>qC τ σ' rl bor c d (qCs τ σ' rl bor cs ds p)
 |_,_,_=>False
def qE (τ σ':St) (rl:List (Nat×Nat)) (bor:List Nat):E→E→Prop→Prop
 | .c x,.c y,p=>qC τ σ' rl bor x y p
 | .agg cs,.agg ds,p=>qCs τ σ' rl bor cs ds p
 |_,_,_=>False
def qEs (τ σ':St) (rl:List (Nat×Nat)) (bor:List Nat):List E→List E→Prop→Prop
 | [],[],p=>p
 |c::cs,d::ds,p=>qE τ σ' rl bor c d (qEs τ σ' rl bor cs ds p)
 |_,_,_=>False
def qV (τ σ':St) (rl:List (Nat×Nat)) (bor:List Nat):V→V→Prop→Prop
 | .e x,.e y,p=>qE τ σ' rl bor x y p
 | .tup xs,.tup ys,p=>qEs τ σ' rl bor xs ys p
 |_,_,_=>False
def qK (τ σ':St) (rl:List (Nat×Nat)) (bor:List Nat):K→K→Prop→Prop
 | .box ty cs,.box ty' ds,p=>match Nat.beq ty ty' with
  |true=>qCs τ σ' rl bor cs ds p
  |false=>False
 | .row e es rows,.row e' es' rows',p=>match Nat.beq e e'&&Nat.beq es es' with
  |true=>rows=rows'∧p
  |false=>False
 | .zone Z,.zone Z',p=>Z=Z'∧p
 |_,_,_=>False
def qL (τ σ':St) (rl:List (Nat×Nat)) (bor:List Nat):List (dD×K)→Prop
 | []=>True
 |(.t s,.v X')::r=>match aS τ (.t s) with
  |some (.v X)=>qV τ σ' rl bor X X' (qL τ σ' rl bor r)
  |_=>False
 |(.o j,k')::r=>match aS τ (.o (jG rl j)) with
  |some k=>qK τ σ' rl bor k k' (qL τ σ' rl bor r)
  |_=>False
 |_::_=>False
section
variable {τ σ':St} {rl:List (Nat×Nat)} {bor:List Nat} {p:Prop}
theorem aBp {k:Option K} (h:aKj k=true): ∃e es rows,k=some (.row e es rows):=by
 cases k with
 |none=>cases h
 |some k=>cases k<;>first|exact⟨_,_,_,rfl⟩|cases h
theorem aBq {k:Option K} (h:aKk k=true): ∃e es,k=some (.box e es):=by
 cases k with
 |none=>cases h
 |some k=>cases k<;>first|exact⟨_,_,rfl⟩|cases h
theorem fj {k:Option K} (h:yu k=true): ∃e,k=some (.zone e):=by
 cases k with
 |none=>cases h
 |some k=>cases k<;>first|exact⟨_,rfl⟩|cases h
theorem aBr: ∀{c d:C},qC τ σ' rl bor c d p→mC τ σ' rl bor c d∧p:=by
 intro c d h
 cases c<;>cases d<;>simp only[qC] at h<;>try exact h.elim
 · exact h
 · exact h
 · exact⟨trivial,h⟩
 · split at h
   · rename_i hz
     exact⟨⟨h.1,fj hz⟩,h.2⟩
   · exact h.elim
 · split at h
   · rename_i hb hl
     exact⟨⟨gC.1 hb,_,_,_,hl,h.1,h.2.1⟩,h.2.2⟩
   · exact h.elim
 · split at h
   · rename_i hb
     simp only[aSg] at hb
     exact⟨⟨Nat.eq_of_beq_eq_true hb.1,h.1,aBp hb.2⟩,h.2⟩
   · exact h.elim
 · split at h
   · rename_i hb
     simp only[aSg] at hb
     exact⟨⟨Nat.eq_of_beq_eq_true hb.1,Nat.eq_of_beq_eq_true hb.2.1,aBq hb.2.2⟩,h⟩
   · exact h.elim
 · exact h
 · split at h
   · rename_i hb
     simp only[aSg] at hb
     exact⟨⟨Nat.eq_of_beq_eq_true hb.1,fun p v hv=>by rw[← h.1];exact hv,fj hb.2⟩,h.2⟩
   · exact h.elim
theorem jr: ∀{cs ds:List C},qCs τ σ' rl bor cs ds p→tk τ σ' rl bor cs ds∧p
 | [],[],h=>⟨trivial,h⟩
 |c::cs,d::ds,h=>by
  obtain⟨h1,h2⟩:=aBr h
  obtain⟨h3,h4⟩:=jr h2
  exact⟨⟨h1,h3⟩,h4⟩
 | [],_::_,h=>h.elim
 |_::_,[],h=>h.elim
theorem aBs {x y:E} (h:qE τ σ' rl bor x y p):mE τ σ' rl bor x y∧p:=by
 cases x<;>cases y<;>simp only[qE] at h<;>first|exact h.elim|exact aBr h|exact jr h
theorem wu: ∀{cs ds:List E},qEs τ σ' rl bor cs ds p→mEs τ σ' rl bor cs ds∧p
 | [],[],h=>⟨trivial,h⟩
 |c::cs,d::ds,h=>by
  obtain⟨h1,h2⟩:=aBs h
  obtain⟨h3,h4⟩:=wu h2
  exact⟨⟨h1,h3⟩,h4⟩
 | [],_::_,h=>h.elim
 |_::_,[],h=>h.elim
theorem aKl {x y:V} (h:qV τ σ' rl bor x y p):mV τ σ' rl bor x y∧p:=by
 cases x<;>cases y<;>simp only[qV] at h<;>first|exact h.elim|exact aBs h|exact wu h
theorem aKm {x y:K} (h:qK τ σ' rl bor x y p):mK τ σ' rl bor x y∧p:=by
 cases x<;>cases y<;>simp only[qK] at h<;>try exact h.elim
 · split at h
   · rename_i hb
     obtain⟨h1,h2⟩:=jr h
     exact⟨⟨Nat.eq_of_beq_eq_true hb,h1⟩,h2⟩
   · exact h.elim
 · split at h
   · rename_i hb
     simp only[aSg] at hb
     exact⟨⟨Nat.eq_of_beq_eq_true hb.1,Nat.eq_of_beq_eq_true hb.2,h.1⟩,h.2⟩
   · exact h.elim
 · obtain⟨rfl,h2⟩:=h
   exact⟨⟨rfl,fun _ _ _ h=>h⟩,h2⟩
theorem qs: ∀{L:List (dD×K)},qL τ σ' rl bor L→mL τ σ' rl bor L
 | [],_=>trivial
 |(.t s,.v X')::r,h=>by
  simp only[qL] at h
  split at h
  · rename_i X hl
    obtain⟨h1,h2⟩:=aKl h
    exact⟨⟨X,hl,h1⟩,qs h2⟩
  · exact h.elim
 |(.o j,k')::r,h=>by
  have h: (match aS τ (.o (jG rl j)) with
   |some k=>qK τ σ' rl bor k k' (qL τ σ' rl bor r)
   |_=>False):=by cases k'<;>exact h
  split at h
  · rename_i k hl
    obtain⟨h1,h2⟩:=aKm h
    have h3: (∃k,aS τ (.o (jG rl j))=some k∧mK τ σ' rl bor k k')∧mL τ σ' rl bor r:=⟨⟨k,hl,h1⟩,qs h2⟩
    cases k'<;>exact h3
  · exact h.elim
 |(.t s,.box ..)::r,h=>h.elim
 |(.t s,.row ..)::r,h=>h.elim
 |(.t s,.dead)::r,h=>h.elim
 |(.t s,.cv ..)::r,h=>h.elim
 |(.t s,.zone ..)::r,h=>h.elim
end
theorem aR1 {es:Nat}: ∀p,slQ es 0 p (.slice none 0 0):=fun p=> .inl ⟨rfl,rfl⟩
def gX (n lo hi:Int):Bool:=decide (lo≤n)&&decide (n≤hi)
def eB (n:Int):Bool:=gX n 0 3
def hG (at_ to:Int):Int:=if !eB at_|| !eB to||at_==to then -1 else if at_<to then at_+1 else at_ - 1
theorem aF {n:Int} (h: -9223372036854775808≤n∧n<9223372036854775808):wrap64 n=n:=by
 unfold wrap64;omega
structure cF where
 kind:Int
 src:Int
 dst:Int
 frm:Int
 num:Int
 to:Int
 til:Int
 size:Int
 mix:Int
 data:List UInt8
def cF.row (f:cF):List D:=[.i f.kind,.i f.src,.i f.dst,.i f.frm,.i f.num,.i f.to,.i f.til,.i f.size,.i f.mix,.s f.data]
abbrev cF.V (f:cF):V:= .e (.agg [.d (.i f.kind),.d (.i f.src),.d (.i f.dst),.d (.i f.frm),.d (.i f.num),.d (.i f.to),.d (.i f.til),.d (.i f.size),.d (.i f.mix),.d (.s f.data)])
def eL (f:cF):Bool:=
 eB f.src&&eB f.dst&&eB f.frm&&eB f.to&&gX f.num 1 99&&gX f.til 1 999&&
 (if f.kind=1 then gX f.size 1 24&&gX f.mix 0 999&&decide (f.data.length=4)&&decide (f.dst=hG f.src f.to)
  else if f.kind=2∨f.kind=3 then decide (f.size=0)&&decide (f.mix=0)&&decide (f.data=[])&&decide (f.src=hG f.dst f.to) else false)
theorem bN {T:gB} {io:List Nat} {rs:List ResultVar} {s:St} {X Y:V} (h1:aDz T s rs=some X) (hp:nF Y=true) (e:X=Y):yD T io rs [(.t 0,.v Y)] s:=by
 subst e
 exact⟨X,[],[],h1,⟨⟨⟨X,rfl,aBg hp⟩,trivial⟩,rfl⟩,by simp[oh,bX,nX];exact fun x _=> .inl rfl⟩
theorem iF {l:List UInt8} {i:Nat} (h:i<l.length): (aC l).getD i []=[.u (l.getD i 0).toNat]:=by
 rw[aSl,aSl]
 simp[aC,h]
theorem fR (l m:List UInt8):aC l++aC m=aC (l++m):=by simp[aC]
theorem aKn (b:UInt8):b.toNat<256:=b.toNat_lt
def bs (l:List UInt8):Nat→Nat
 |0=>0
 |n+1=>(bs l n+(l.getD n 0).toNat*(n % 1000+1)) % 65521
theorem yv (l:List UInt8) (n:Nat):bs l n<65521:=by
 cases n with
 |zero=>simp[bs]
 |succ n=>exact Nat.mod_lt _ (by decide)
theorem aHr (l:List UInt8) (n:Nat):wrap64 ((bs l n:Int)+wrap64 (((l.getD n 0).toNat:Int)*wrap64 ((n:Int) % 1000+1))) % 65521=(bs l (n+1):Int):=by
 show _=(((bs l n+(l.getD n 0).toNat*(n % 1000+1)) % 65521:Nat):Int)
 have h1:=yv l n
 have h2:=aKn (l.getD n 0)
 generalize (l.getD n 0).toNat=b at*
 have h3: (n:Int) % 1000<1000:=Int.emod_lt_of_pos _ (by decide)
 have h4:0≤(n:Int) % 1000:=Int.emod_nonneg _ (by decide)
 rw[aF (n:=(n:Int) % 1000+1) (by omega)]
 have h5: (b:Int)*((n:Int) % 1000+1)≤255*1000:=Int.mul_le_mul (by omega) (by omega) (by omega) (by omega)
 have h6:0≤(b:Int)*((n:Int) % 1000+1):=Int.mul_nonneg (by omega) (by omega)
 rw[aF (n:=(b:Int)*((n:Int) % 1000+1)) (by omega),aF (by omega)]
 have e: ((b*(n % 1000+1):Nat):Int)=(b:Int)*((n:Int) % 1000+1):=by rw[Int.natCast_mul,Int.natCast_add,Int.natCast_emod];rfl
 rw[← e]
 generalize b*(n % 1000+1)=q
 omega
theorem aEo (l:List UInt8) (n:Nat): (wrap64 ((bs l n:Int)+wrap64 (wrap64 ((l.getD n 0).toNat:Int)*wrap64 (Int.tmod (n:Int) 1000+1)))).tmod 65521=(bs l (n+1):Int):=by
 have h2:=aKn (l.getD n 0)
 have h1:=yv l n
 have h3: (n:Int) % 1000<1000:=Int.emod_lt_of_pos _ (by decide)
 have h4:0≤(n:Int) % 1000:=Int.emod_nonneg _ (by decide)
 have h:=aHr l n
 rw[aF (n:=((l.getD n 0).toNat:Int)) (by omega),Int.tmod_eq_emod_of_nonneg (by omega:0≤(n:Int)),Int.tmod_eq_emod_of_nonneg]
 · exact h
 · rw[aF (n:=(n:Int) % 1000+1) (by omega)]
   have h5: ((l.getD n 0).toNat:Int)*((n:Int) % 1000+1)≤255*1000:=Int.mul_le_mul (by omega) (by omega) (by omega) (by omega)
   have h6:0≤((l.getD n 0).toNat:Int)*((n:Int) % 1000+1):=Int.mul_nonneg (by omega) (by omega)
   rw[aF (n:=((l.getD n 0).toNat:Int)*((n:Int) % 1000+1)) (by omega),aF (by omega)]
   omega
theorem ph (l:List UInt8) (n:Nat): (wrap64 ((bs l n:Int)+wrap64 (wrap64 (Int.tmod (n:Int) 1000+1)*wrap64 ((l.getD n 0).toNat:Int)))).tmod 65521=(bs l (n+1):Int):=by
 rw[Int.mul_comm];exact aEo l n
def b8 (x:Int):UInt8:=UInt8.ofNat x.toNat
def two (n:Int):List UInt8:=[b8 (n / 256),b8 (n % 256)]
def oI (f:cF):List UInt8:=
 if eL f then
  let body:=[b8 f.kind,b8 f.src,b8 f.dst,b8 f.frm,b8 f.num,b8 f.to]++two f.til++(if f.kind=1 then [b8 f.size]++two f.mix++f.data else [])
  body++two (bs body body.length)
 else []
theorem pj {x:Int} (h:0≤x∧x<256): ((b8 x).toNat:Int)=x:=by
 unfold b8
 rw[UInt8.toNat_ofNat']
 omega
theorem pn {x:Int} (h:0≤x∧x<256):hF x=x:=by unfold hF;omega
theorem dh {x:Int} (h:0≤x∧x<256): [D.u (hF x)]=[D.u (b8 x).toNat]:=by rw[pn h,pj h]
theorem aKo {n:Int} (h:0≤n∧n<65536): [[D.u (hF (wrap64 (n.tdiv 256)))],[D.u (hF (n.tmod 256))]]=aC (two n):=by
 rw[Int.tdiv_eq_ediv_of_nonneg h.1,Int.tmod_eq_emod_of_nonneg h.1,aF (by omega),pn (by omega),pn (by omega)]
 simp only[aC,two,List.map_cons,List.map_nil]
 rw[pj (by omega),pj (by omega)]
theorem po (n:Int):mA [(.t 0,.v (I n))]:=by
 intro p hp
 simp at hp
 subst hp;trivial
def kA (f:cF):List UInt8:=[b8 f.kind,b8 f.src,b8 f.dst,b8 f.frm,b8 f.num,b8 f.to]++two f.til
def eP (f:cF):List UInt8:=kA f++(if f.kind=1 then [b8 f.size]++two f.mix++f.data else [])
theorem oZ (f:cF):oI f=if eL f then eP f++two (bs (eP f) (eP f).length) else []:=by
 unfold oI eP kA
 rfl
theorem kX {f:cF} (h:eL f=true): (0≤f.src∧f.src≤3)∧(0≤f.dst∧f.dst≤3)∧(0≤f.frm∧f.frm≤3)∧(0≤f.to∧f.to≤3)∧(1≤f.num∧f.num≤99)∧(1≤f.til∧f.til≤999)∧(1≤f.kind∧f.kind≤3)∧(f.kind=1→(1≤f.size∧f.size≤24)∧(0≤f.mix∧f.mix≤999)∧f.data.length=4):=by
 simp only[eL,eB,gX,aSg,decide_eq_true_eq] at h
 obtain⟨⟨⟨⟨⟨⟨h1,h2⟩,h3⟩,h4⟩,h5⟩,h6⟩,h7⟩:=h
 split at h7
 · rename_i hk
   simp only[aSg,decide_eq_true_eq] at h7
   exact⟨h1,h2,h3,h4,h5,h6,by omega,fun _=>⟨h7.1.1.1,h7.1.1.2,h7.1.2⟩⟩
 · split at h7
   · rename_i hk hk2
     exact⟨h1,h2,h3,h4,h5,h6,by omega,fun h=>absurd h hk⟩
   · cases h7
theorem fk {f:cF} (h:eL f=true): (eP f).length≤15:=by
 have:=(kX h).2.2.2.2.2.2.2
 unfold eP kA two
 split
 · rename_i hk;simp[(this hk).2.2]
 · simp
theorem zF {f:cF} (hk: ¬f.kind=1):eP f=kA f:=by simp[eP,hk]
def ay (f:cF):List UInt8:=[b8 f.kind,b8 f.src,b8 f.dst,b8 f.frm,b8 f.num,b8 f.to]
theorem yw {f:cF} (h:eL f=true): []++[[D.u (hF f.kind)],[.u (hF f.src)],[.u (hF f.dst)],[.u (hF f.frm)],[.u (hF f.num)],[.u (hF f.to)]]=aC (ay f):=by
 obtain⟨k1,k2,k3,k4,k5,k6,k7,k8⟩:=kX h
 simp only[ay,aC,List.map_cons,List.map_nil,List.nil_append]
 rw[dh (x:=f.kind) (by omega),dh (x:=f.src) (by omega),dh (x:=f.dst) (by omega),dh (x:=f.frm) (by omega),dh (x:=f.num) (by omega),dh (x:=f.to) (by omega)]
def aOl (k:Int) (n:Nat):List UInt8:=(aSp n).map fun i=>UInt8.ofNat (k.toNat+i)
theorem yx (k:Int) (n:Nat): (aOl k n).length=n:=by simp[aOl]
theorem tw (f:cF): (oI f).length≤17:=by
 rw[oZ]
 split
 · rename_i h
   have:=fk h
   simp[two];omega
 · simp
def aKp (σ:St):List (Nat×K)→Prop
 | []=>True
 |p::r=>aS σ (.o p.1)=some p.2∧aKp σ r
theorem aJ {σ:St}: ∀{l:List (Nat×K)},aKp σ l→ ∀p∈l,aS σ (.o p.1)=some p.2
 |q::r,h,p,hp=>by
  rcases aSw.1 hp with rfl|hp
  · exact h.1
  · exact aJ h.2 p hp
section
variable {P:Program} {f:FuncId} {n:Nat} {σin σout:St} {o:Oper} {c:Call} {σ:St} {Xs:List V} {Ra:List (dD×Option K)}
theorem pq {k:List (dD×Option K)→List (dD×K)→Prop} (rl:List (Nat×Nat)) (hs:Spec P f n σin σout) (ho:o.op= .call c) (hc:c.callee= .value (.func f)) (hx:evA σ c.args.toList=some (Xs,Ra)) (hn:Xs.length=n) (hin:σin=eH 0 Xs) (hp:Xs.all nF=true)
 (hk:jN rl σin σout=true) (h2: ∀j∈nE σin σout,aS σ (.o (jG rl j))=none) (h:k (lp Ra [] rl σin σout) (sC rl σin σout o.dst)): ∃R W,wG P o R W∧bJ R σ∧k R W:=by
 subst hin
 refine bH (robj:=[]) (rl:=rl) (bor:=[]) hs ho hc hx hn ⟨oz (fun j Y hj=> ?_) hp,?_⟩ hk (.inl rfl) (by simp) h2 h
 · have hlt:=(aSm.1 hj).1
   rw[Nat.zero_add,nZ 0 Xs _ j (aSj _) (by omega),Nat.sub_zero,hj];rfl
 · simp[yC,oY,tF,nX]
end
theorem ixB {l:List UInt8} {j:Int} (h0:0≤j) (h:j<l.length): (0≤j∧j< (aC l).length)∧((aC l).getD j.toNat []).length=1:=by
 refine⟨⟨h0,by rw[aT];exact h⟩,?_⟩
 rw[iF (by omega)];rfl
theorem ldB {l:List UInt8} {j:Int} (h0:0≤j) (h:j<l.length):1≤((aC l).getD j.toNat []).length∧((aC l).getD j.toNat []).take 1=lV [.d (.u 0)] ((aC l).getD j.toNat []) 0:=by
 rw[iF (by omega)];exact⟨aSo _,rfl⟩
theorem valB {l:List UInt8} {j:Int} (h0:0≤j) (h:j<l.length):toU (((aC l).getD j.toNat []).getD 0 (.i 0))=((l.getD j.toNat 0).toNat:Int):=by
 rw[iF (by omega)];rfl
theorem vD (l:List UInt8) (a b:Nat):iJ (((aC l).take b).drop a)=(l.take b).drop a:=by
 have:=cC ((l.take b).drop a)
 rw[← this]
 congr 1
 simp[aC]
theorem vE (l:List UInt8) (a b:Nat): ((aC l).take b).drop a=aC ((l.take b).drop a):=by simp[aC]
def aQa:D→Bool
 | .sl rows=>rows.isEmpty
 |_=>true
def aEp:C→Bool
 | .d x=>aQa x
 | .rp _=>false
 |_=>true
def aEq:E→Bool
 | .c x=>aEp x
 | .agg cs=>cs.all aEp
def aKq:V→Bool
 | .e x=>aEq x
 | .tup xs=>xs.all aEq
theorem lz {c:C} (h:aEp c=true):aw c:=by
 cases c with
 |d x=>cases x<;>first|trivial|exact List.isEmpty_iff.1 h
 |rp _=>cases h
 |_=>trivial
theorem ma {c:E} (h:aEq c=true):ey c:=by
 cases c with
 |c x=>exact lz h
 |agg cs=>exact fun c hc=>lz (aSu.1 h c hc)
theorem aBt {c:V} (h:aKq c=true):ez c:=by
 cases c with
 |e x=>exact ma h
 |tup cs=>exact fun c hc=>ma (aSu.1 h c hc)
theorem aEr {X:V} (h:aKq X=true):mA [(.t 0,.v X)]:=by
 intro p hp
 simp at hp
 subst hp
 exact aBt h
def iB (l:List UInt8) (i:Nat):Int:=(l.getD i 0).toNat
theorem jC (l:List UInt8) (i:Nat):0≤iB l i∧iB l i<256:=by
 have:=aKn (l.getD i 0)
 unfold iB;omega
theorem yy {l:List UInt8} {j:Int} (h0:0≤j) (h:j.toNat<l.length):wrap64 (toU (((aC l).getD j.toNat []).getD 0 (.i 0)))=iB l j.toNat:=by
 rw[valB h0 (by omega)]
 have:=jC l j.toNat
 exact aF (by unfold iB at this;omega)
theorem wv {x y:Int} (h:0≤x∧x<256) (k:0≤y∧y<256):wrap64 (wrap64 (x*256)+y)=x*256+y∧wrap64 (wrap64 (256*x)+y)=x*256+y:=by
 constructor
 · rw[aF (n:=x*256) (by omega),aF (by omega)]
 · rw[aF (n:=256*x) (by omega),aF (by omega)];omega
def az:cF:=⟨0,0,0,0,0,0,0,0,0,[]⟩
def cN (l:List UInt8):cF:=
 ⟨iB l 0,iB l 1,iB l 2,iB l 3,iB l 4,iB l 5,iB l 6*256+iB l 7,
  if l.length=17 then iB l 8 else 0,if l.length=17 then iB l 9*256+iB l 10 else 0,if l.length=17 then(l.take 15).drop 11 else []⟩
def lG (l:List UInt8):Bool:=(l.length==10||l.length==17)&&oI (cN l)==l
def fX (l:List UInt8):cF:=if lG l then cN l else az
theorem aKr {m:Int} (hm:0≤m):BitVec.ofInt 64 m=BitVec.ofNat 64 m.toNat:=by
 obtain⟨k,rfl⟩:=Int.eq_ofNat_of_zero_le hm
 exact BitVec.ofInt_natCast ..
theorem aHs {m n:Int} (hm:0≤m∧m<4611686018427387904) (hn:0≤n∧n<4611686018427387904):vm m n=((m.toNat ^^^ n.toNat:Nat):Int):=by
 have hlt:m.toNat ^^^ n.toNat<2 ^ 62:=Nat.xor_lt_two_pow (by omega) (by omega)
 show IntKind.i64.wrap ((BitVec.ofInt 64 m ^^^ BitVec.ofInt 64 n).toNat:Int)=_
 rw[aKr hm.1,aKr hn.1,BitVec.toNat_xor,BitVec.toNat_ofNat,BitVec.toNat_ofNat,Nat.mod_eq_of_lt (by omega),Nat.mod_eq_of_lt (by omega),vO]
 exact aF (by omega)
theorem yz {m n:Int} (hm:0≤m∧m<4611686018427387904) (hn:0≤n∧n<4611686018427387904):0≤vm m n:=by
 rw[aHs hm hn];omega
theorem mG {x n:Int} (hx:0≤x) (hn:1≤n):0≤Int.tmod x n∧Int.tmod x n<n:=
 ⟨Int.tmod_nonneg n hx,Int.tmod_lt_of_pos x (by omega)⟩
theorem oA {x n:Int} (hx:0≤x) (hn:1≤n):0≤Int.tdiv x n∧Int.tdiv x n≤x:=by
 rw[Int.tdiv_eq_ediv_of_nonneg hx]
 exact⟨Int.ediv_nonneg hx (by omega),Int.ediv_le_self n hx⟩
theorem aR2 {a b k q:Int} (ha:0≤a∧a<256) (hb:0≤b∧b<256) (hk:0≤k∧k≤1000000) (hq:0≤q∧q≤k):
 0≤wrap64 (wrap64 (wrap64 (wrap64 (a*131)+wrap64 (b*1117))+wrap64 (k*29))+wrap64 (wrap64 q*53))∧wrap64 (wrap64 (wrap64 (wrap64 (a*131)+wrap64 (b*1117))+wrap64 (k*29))+wrap64 (wrap64 q*53))<4611686018427387904:=by
 rw[aF (n:=a*131) (by omega),aF (n:=b*1117) (by omega),aF (n:=k*29) (by omega),aF (n:=q) (by omega),aF (n:=q*53) (by omega),aF (n:=a*131+b*1117) (by omega),aF (n:=a*131+b*1117+k*29) (by omega),aF (by omega)]
 omega
theorem aM1 {x:Int} (h:0≤x∧x<4611686018427387904):0≤vm x (wrap64 (Int.tdiv x 64)):=by
 have:=oA (x:=x) (n:=64) h.1 (by omega)
 rw[aF (by omega)]
 exact yz h ⟨this.1,by omega⟩
end Go.Ab
namespace Go.Ab
open Int renaming toNat_natCast→aSd
open List renaming length_append→aSe,length_nil→aSh,length_cons→aSi,length_take→aSk,getD_eq_getElem?_getD→aSl,getElem?_eq_some_iff→aSm,getElem?_eq_getElem→aSn,range→aSp,mem_map→aSq,length_drop→aSr,mem_singleton→aSs,all_eq_true→aSu,take_length→aSv,mem_cons→aSw
open Nat renaming le_of_ble_eq_true→aSf,zero_le→aSj,le_refl→aSo,add_mul→aSt
open Bool renaming and_eq_true→aSg
open Go Go.RowKit
def aP (l:List UInt8) (p n:Int):Int:=
 if n<1∨l.length=0 then 0
 else if p<l.length then Int.tmod (iB l p.toNat) n
 else Int.tmod (vm (wrap64 (wrap64 (wrap64 (wrap64 (iB l (Int.tmod p l.length).toNat*131)+wrap64 (iB l (Int.tmod (wrap64 (wrap64 (p*7)+3)) l.length).toNat*1117))+wrap64 (p*29))+wrap64 (wrap64 (Int.tdiv p l.length)*53)))
  (wrap64 (Int.tdiv (wrap64 (wrap64 (wrap64 (wrap64 (iB l (Int.tmod p l.length).toNat*131)+wrap64 (iB l (Int.tmod (wrap64 (wrap64 (p*7)+3)) l.length).toNat*1117))+wrap64 (p*29))+wrap64 (wrap64 (Int.tdiv p l.length)*53))) 64))) n
theorem cE (l:List UInt8) {p n:Int} (hp:0≤p∧p≤1000000) (hn:1≤n):0≤aP l p n∧aP l p n<n:=by
 unfold aP
 split
 · omega
 · rename_i h
   have hl: ¬l.length=0:=fun e=>h (.inr e)
   split
   · exact mG (jC _ _).1 hn
   · exact mG (aM1 (aR2 (jC _ _) (jC _ _) hp (oA hp.1 (by omega)))) hn
set_option linter.unusedVariables false
def u8 (x:Int):UInt8:=UInt8.ofNat (hF x).toNat
theorem aBu (x:Int): ((u8 x).toNat:Int)=hF x:=by
 unfold u8 hF
 rw[UInt8.toNat_ofNat']
 omega
theorem za (x:Int): [D.u (hF x)]=[D.u (u8 x).toNat]:=by rw[aBu]
theorem ww (b:List UInt8) (x:Int):aC b++[[D.u (hF x)]]=aC (b++[u8 x]):=by rw[za,← fR];rfl
theorem aKs {b:List UInt8} {i:Nat} {x:Int} (hi:i<b.length) (hx:x=hF x):
 (aC b).set i (cX ((aC b).getD i []) 0 [D.u x])=aC (b.set i (u8 x)):=by
 rw[iF hi]
 have e:cX [D.u (b.getD i 0).toNat] 0 [D.u x]=[D.u (u8 x).toNat]:=by rw[← za,← hx];rfl
 rw[e,aC,aC,← List.map_set (f:=fun b:UInt8=>[D.u (b.toNat:Int)])]
theorem aBv (x:Int):hF x=hF (hF x):=by unfold hF;omega
theorem weights: ∀d,1≤d→d≤255→ ∀w,1≤w→w≤1000→d*w≠65521∧d*w≠131042∧d*w≠196563:=by
 intro d h1 h2 w h3 h4
 have key: ∀d,d≤255→d≠0→(65521 % d=0→1000<65521 / d)∧(131042 % d=0→1000<131042 / d)∧(196563 % d=0→1000<196563 / d):=by
  decide+kernel
 obtain⟨k1,k2,k3⟩:=key d h2 (by omega)
 · have hd:0<d:=by omega
   refine⟨fun e=> ?_,fun e=> ?_,fun e=> ?_⟩
   · have:=k1 (by rw[← e];exact Nat.mul_mod_right d w)
     rw[← e,Nat.mul_div_cancel_left w hd] at this;omega
   · have:=k2 (by rw[← e];exact Nat.mul_mod_right d w)
     rw[← e,Nat.mul_div_cancel_left w hd] at this;omega
   · have:=k3 (by rw[← e];exact Nat.mul_mod_right d w)
     rw[← e,Nat.mul_div_cancel_left w hd] at this;omega
set_option linter.unusedVariables false
def cR (l:List Int):List (List D):=l.map fun x=>[.i x]
def aK (l:List Bool):List (List D):=l.map fun x=>[.b x]
def bL (l:List (List UInt8)):List (List D):=l.map fun x=>[.s x]
theorem cD (l:List Int): (cR l).length=l.length:=by simp[cR]
theorem cO (l:List Bool): (aK l).length=l.length:=by simp[aK]
theorem aU (l:List (List UInt8)): (bL l).length=l.length:=by simp[bL]
theorem fm (l:List (List UInt8)): ∀r∈bL l,r.length=1:=by
 intro r hr
 obtain⟨b,_,rfl⟩:=aSq.1 hr
 rfl
theorem dF {l:List Int} {i:Nat} (h:i<l.length): (cR l).getD i []=[.i (l.getD i 0)]:=by
 rw[aSl,aSl]
 simp[cR,h]
theorem kH {l:List Bool} {i:Nat} (h:i<l.length): (aK l).getD i []=[.b (l.getD i false)]:=by
 rw[aSl,aSl]
 simp[aK,h]
theorem gG {l:List (List UInt8)} {i:Nat} (h:i<l.length): (bL l).getD i []=[.s (l.getD i [])]:=by
 rw[aSl,aSl]
 simp[bL,h]
theorem fo {l:List Int} {j:Int} (h0:0≤j) (h:j<l.length): (0≤j∧j< (cR l).length)∧((cR l).getD j.toNat []).length=1:=by
 refine⟨⟨h0,by rw[cD];exact h⟩,?_⟩
 rw[dF (by omega)];rfl
theorem ixS {l:List (List UInt8)} {j:Int} (h0:0≤j) (h:j<l.length): (0≤j∧j< (bL l).length)∧((bL l).getD j.toNat []).length=1:=by
 refine⟨⟨h0,by rw[aU];exact h⟩,?_⟩
 rw[gG (by omega)];rfl
theorem ldS {l:List (List UInt8)} {j:Int} (h0:0≤j) (h:j<l.length):1≤((bL l).getD j.toNat []).length∧((bL l).getD j.toNat []).take 1=lV [.d (.s [])] ((bL l).getD j.toNat []) 0:=by
 rw[gG (by omega)];exact⟨aSo _,rfl⟩
theorem aM2 {l:List (List UInt8)} {j:Int} (h0:0≤j) (h:j<l.length):toS (((bL l).getD j.toNat []).getD 0 (.i 0))=l.getD j.toNat []:=by
 rw[gG (by omega)];rfl
theorem aR5 {l:List UInt8} {j:Int} {n:Nat} (h0:0≤j) (h:j<l.length) (e:l.length=n): (aC l).length=n∧0≤j∧j<n:=⟨by rw[aT];exact e,h0,by omega⟩
theorem aEs {l:List Int} {j n:Nat} (h:j<l.length) (e:l.length=n): ((cR l).length=n∧j<n)∧0+1≤((cR l).getD j []).length∧(((cR l).getD j []).drop 0).take 1=lV [.d (.i 0)] ((cR l).getD j []) 0:=by
 rw[dF h,cD];exact⟨⟨e,by omega⟩,aSo _,rfl⟩
theorem aHt {l:List Bool} {i:Nat} {x:Bool} (hi:i<l.length): (aK l).set i (cX ((aK l).getD i []) 0 [D.b x])=aK (l.set i x):=by
 rw[kH hi]
 show(aK l).set i [D.b x]=_
 rw[aK,aK,← List.map_set (f:=fun b:Bool=>[D.b b])]
theorem mW (l:List Int) (x:Int):cR l++[[D.i x]]=cR (l++[x]):=by simp[cR]
theorem iW (l:List (List UInt8)) (x:List UInt8):bL l++[[D.s x]]=bL (l++[x]):=by simp[bL]
theorem repT (n:Nat):List.replicate n [D.b false]=aK (List.replicate n false):=by simp[aK]
def eI (x:Int):Int:=if gX x 0 65535 then Int.tmod (wrap64 (wrap64 (x*25173)+13849)) 65536 else 0
theorem zG (x:Int):0≤eI x∧eI x<65536:=by
 unfold eI
 split
 · rename_i h
   simp[gX] at h
   rw[aF (n:=x*25173) (by omega),aF (by omega)]
   exact mG (by omega) (by omega)
 · omega
def rS (b n:Int):Bool:=gX b 1 6&&gX n 0 999
theorem vV {b n:Int} (h:rS b n=true): (1≤b∧b≤6)∧0≤n∧n≤999:=by
 simp[rS,gX] at h;omega
def mH (b d:Int):Int:=if d=1 then wrap64 (wrap64 (Int.tdiv 60 b)+10) else wrap64 (Int.tdiv 60 (wrap64 (d*wrap64 (d - 1))))
theorem tK {b d:Int} (hb:1≤b∧b≤6) (hd:1≤d∧d≤6):0≤mH b d∧mH b d≤70∧(d=1→10≤mH b d):=by
 obtain⟨hb1,hb2⟩:=hb
 obtain⟨hd1,hd2⟩:=hd
 have key: ∀b:Fin 7,∀d:Fin 7,1≤b.val→1≤d.val→0≤mH b.val d.val∧mH b.val d.val≤70∧((d.val:Int)=1→10≤mH b.val d.val):=by decide+kernel
 obtain⟨m,rfl⟩:=Int.eq_ofNat_of_zero_le (show 0≤b by omega)
 obtain⟨n,rfl⟩:=Int.eq_ofNat_of_zero_le (show 0≤d by omega)
 exact key ⟨m,by omega⟩ ⟨n,by omega⟩ (by simp;omega) (by simp;omega)
theorem aEt {b f at_:Int} (hb:1≤b∧b≤6) (hf:0≤f∧f<b) (ha:0≤at_∧at_<b) (hne:at_≠f):
 ((f+b - Int.tmod (wrap64 (at_+1)) b) % b).toNat< ((f+b - at_) % b).toNat∧0≤Int.tmod (wrap64 (at_+1)) b∧Int.tmod (wrap64 (at_+1)) b<b:=by
 rw[aF (by omega)]
 have h:=mG (x:=at_+1) (n:=b) (by omega) hb.1
 refine⟨?_,h⟩
 rw[Int.tmod_eq_emod_of_nonneg (by omega)]
 obtain⟨h1,h2⟩:=hb
 have:b=1∨b=2∨b=3∨b=4∨b=5∨b=6:=by omega
 rcases this with rfl|rfl|rfl|rfl|rfl|rfl<;>omega
theorem aBw {u:List Bool} (h:u.count true<u.length): ∃f,f<u.length∧u.getD f false=false:=by
 induction u with
 |nil=>simp at h
 |cons x u ih=>
  cases x with
  |false=>exact⟨0,by simp,rfl⟩
  |true=>
   simp at h
   obtain⟨f,h1,h2⟩:=ih h
   exact⟨f+1,by simpa using h1,by simpa using h2⟩
theorem aHu {u:List Bool} {i:Nat} (hi:i<u.length) (h:u.getD i false=false): (u.set i true).count true=u.count true+1:=by
 induction u generalizing i with
 |nil=>simp at hi
 |cons x u ih=>
  cases i with
  |zero=>simp at h;subst h;simp
  |succ i=>
   simp at hi
   have:=ih hi (by simpa using h)
   simp only[List.set_cons_succ,List.count_cons,this]
   omega
theorem dj (m n:Int):jb m n=hF (jb m n):=by
 unfold jb
 rw[el]
 exact aBv _
theorem aHv (b:List UInt8) (m n:Int):aC b++[[D.u (jb m n)]]=aC (b++[u8 (jb m n)]):=by
 rw[dj]
 rw[ww,← dj]
set_option linter.unusedVariables false
theorem mb {f:cF} (h:eL f=true): (f.kind=1→f.dst=hG f.src f.to)∧(f.kind≠1→f.src=hG f.dst f.to∧f.size=0∧f.mix=0∧f.data=[]):=by
 simp only[eL,aSg] at h
 obtain⟨_,h7⟩:=h
 split at h7
 · rename_i hk
   simp only[aSg,decide_eq_true_eq] at h7
   exact⟨fun _=>h7.2,fun h=>absurd hk h⟩
 · rename_i hk
   split at h7
   · simp only[aSg,decide_eq_true_eq] at h7
     exact⟨fun h=>absurd h hk,fun _=>⟨h7.2,h7.1.1.1,h7.1.1.2,h7.1.2⟩⟩
   · cases h7
theorem bw {a b n:Int} (h:n=hG a b) (hn:0≤n):a - n=1∨n - a=1:=by
 unfold hG at h
 split at h
 · omega
 · split at h<;>omega
theorem aHw {f:cF} (h:eL f=true) (hk:f.kind=1):hG f.src f.to=f.dst∧(f.src - f.dst=1∨f.dst - f.src=1):=by
 obtain⟨k1,k2,_⟩:=kX h
 have:=(mb h).1 hk
 exact⟨this.symm,bw this (by omega)⟩
theorem aHx {f:cF} (h:eL f=true) (hk:f.kind≠1):hG f.dst f.to=f.src∧(f.src - f.dst=1∨f.dst - f.src=1):=by
 obtain⟨k1,k2,_⟩:=kX h
 have:=((mb h).2 hk).1
 exact⟨this.symm,(bw this (by omega)).symm⟩
set_option linter.unusedVariables false
set_option linter.unusedSimpArgs false
def eqD:D→D→Bool
 | .i m,.i n=>m==n
 | .b m,.b n=>m==n
 | .s l,.s r=>l==r
 |_,_=>false
def jt:List D→List D→Bool
 |x::xs,y::ys=>eqD x y&&jt xs ys
 |_,_=>true
def wx:TK→D→D→Bool
 | .int _,.i _,.i _=>true
 | .bool,.b _,.b _=>true
 | .str,.s _,.s _=>true
 |_,_,_=>false
def mc (T:gB):List Field→Nat→List D→List D→Bool
 | [],_,[],[]=>true
 |f::fs,k,x::xs,y::ys=>(f.name != "_")&&Nat.beq f.offset k&&(match T f.type with|some ti=>wx ti.kind x y|none=>false)&&mc T fs (k+1) xs ys
 |_,_,_,_=>false
theorem aGp {P:Program} {T:gB} (hT:dK P T) {w:World} {S:Nat→Prop} {va vb:Array Value} (d:Nat): ∀(fs:List Field) (k:Nat) (xs ys:List D),mc T fs k xs ys=true→(∀(j:Nat) x,xs[j]? =some x→ ∃v,va[k+j]? =some v∧DR w S x v)→(∀(j:Nat) x,ys[j]? =some x→ ∃v,vb[k+j]? =some v∧DR w S x v)→
 (Op.eqFields (d+1) va vb fs).run P w= .ok (jt xs ys) w
 | [],k,xs,ys,h,_,_=>by
  cases xs<;>cases ys<;>first|rfl|(simp[mc] at h)
 |f::fs,k,[],ys,h,_,_=>by simp[mc] at h
 |f::fs,k,x::xs,[],h,_,_=>by simp[mc] at h
 |f::fs,k,x::xs,y::ys,h,hx,hy=>by
  simp only[mc,aSg] at h
  obtain⟨⟨⟨h1,h2⟩,h3⟩,h4⟩:=h
  have h2:=Nat.eq_of_beq_eq_true h2
  split at h3<;>try(cases h3;done)
  rename_i ti hti
  have ok:=hT _ _ hti
  obtain⟨u,hu,hxu⟩:=hx 0 x rfl
  obtain⟨v,hv,hyv⟩:=hy 0 y rfl
  have ih:=aGp hT d fs (k+1) xs ys h4 (fun j z hj=>by rw[Nat.add_assoc,Nat.add_comm 1 j];exact hx (j+1) z hj) (fun j z hj=>by rw[Nat.add_assoc,Nat.add_comm 1 j];exact hy (j+1) z hj)
  have hag:ti.kind.agg=false:=by
   cases hk:ti.kind<;>rw[hk] at h3<;>first|rfl|(simp[wx] at h3)
  have pu: (Go.part f.type va f.offset).run P w= .ok u w:=by
   rw[h2];simp only[Go.part,Sem.run_bind,pW ok,hag,Result.andThen_ok]
   simp only[Nat.add_zero] at hu
   simp[hu]
  have pv: (Go.part f.type vb f.offset).run P w= .ok v w:=by
   rw[h2];simp only[Go.part,Sem.run_bind,pW ok,hag,Result.andThen_ok]
   simp only[Nat.add_zero] at hv
   simp[hv]
  have heq: (Op.equalIn (d+1) f.type u v).run P w= .ok (eqD x y) w:=by
   have hkd:=ok.kind
   cases hk:ti.kind with
   |int k'=>
    rw[hk] at h3 hkd
    cases x<;>cases y<;>simp[wx] at h3
    cases hxu;cases hyv
    exact run_equalIn_int w d f.type .i64 k' _ _ hkd
   |bool=>
    rw[hk] at h3 hkd
    cases x<;>cases y<;>simp[wx] at h3
    cases hxu;cases hyv
    exact run_equalIn_bool w d f.type _ _ hkd
   |str=>
    rw[hk] at h3 hkd
    cases x<;>cases y<;>simp[wx] at h3
    rename_i l r
    cases hxu;cases hyv
    rw[run_equalIn_string w d f.type _ _ hkd]
    simp[eqD,ByteArray.toList_eq]
   |_=>rw[hk] at h3;simp[wx] at h3
  simp only[Op.eqFields,if_pos (by simpa using h1),Sem.run_bind,pu,pv,heq,Result.andThen_ok]
  cases hxy:eqD x y
  · simp[jt,hxy]
  · simp[jt,hxy,ih]
theorem aM3 {P:Program} {T:gB} (hT:dK P T) {o:Oper} {op:BinOp} {t u:TypeId} {x y:Operand} {d:Nat} {σ0:St} {xs ys:List D} {Rx Ry:List (dD×Option K)} (ho:o.op= .binOp op t x y u) (hd:o.dst=some d) (hop: (match op with| .eql=>true| .neq=>true|_=>false)=true)
 (ht:P.underlying t=some (.struct (P.fieldsOf t))) (hp:P.stoodInHeld t=false) (hm:P.eqGuardType P.depth t=false) (hf:mc T (P.fieldsOf t).toList 0 xs ys=true)
 (hx:ev σ0 x=some (.e (.agg (xs.map .d)),Rx)) (hy:ev σ0 y=some (.e (.agg (ys.map .d)),Ry)):
 wG P o (Rx++Ry) [(.t d,.v (B (match op with| .neq=> !jt xs ys|_=>jt xs ys)))]:=by
 refine mT hd fun cx σ ι S a w hr hw=> ?_
 obtain⟨va,ea,la,ha⟩:=(show ER σ ι w S (.agg (xs.map .d)) _ from dA hx hr.left hw)
 obtain⟨vb,eb,lb,hb⟩:=(show ER σ ι w S (.agg (ys.map .d)) _ from dA hy hr.right hw)
 have hA: ∀(j:Nat) z,xs[j]? =some z→ ∃v,va.toArray[0+j]? =some v∧DR w S z v:=fun j z hj=>by
  have hj': (xs.map C.d)[j]? =some (.d z):=by simp[hj]
  have hlt:j<va.length:=by rw[la];exact(aSm.1 hj').1
  refine⟨va[j],by simp[hlt],ha j _ _ hj' (by simp[hlt])⟩
 have hB: ∀(j:Nat) z,ys[j]? =some z→ ∃v,vb.toArray[0+j]? =some v∧DR w S z v:=fun j z hj=>by
  have hj': (ys.map C.d)[j]? =some (.d z):=by simp[hj]
  have hlt:j<vb.length:=by rw[lb];exact(aSm.1 hj').1
  refine⟨vb[j],by simp[hlt],hb j _ _ hj' (by simp[hlt])⟩
 have key:=aGp hT 9998 (P.fieldsOf t).toList 0 xs ys hf hA hB
 have key2: (Op.equalIn 10000 t (.agg va.toArray) (.agg vb.toArray)).run P w= .ok (jt xs ys) w:=by
  rw[show(10000:Nat)=9999+1 from rfl,run_equalIn_struct w 9999 t _ _ ht hp];exact key
 cases op<;>simp at hop
 · refine⟨.bool (jt xs ys),?_,.b _⟩
   unfold execOp
   simp only[ho,Act.eval] at*
   simp only[ea,eb]
   rw[Sem.run_bind,Sem.run_bind,run_eqGuard_agg w .eql t x y _ _ hm,Result.andThen_ok,run_eql_struct,key2]
   rfl
 · refine⟨.bool (!jt xs ys),?_,.b _⟩
   unfold execOp
   simp only[ho,Act.eval] at*
   simp only[ea,eb]
   rw[Sem.run_bind,Sem.run_bind,run_eqGuard_agg w .neq t x y _ _ hm,Result.andThen_ok,run_neq_struct,key2]
   rfl
theorem aKt {P:Program} {T:gB} (hT:dK P T) {o:Oper} {op:BinOp} {t u:TypeId} {x y:Operand} {d:Nat} {σ:St} (xs ys:List D) {Rx Ry:List (dD×Option K)} {k:List (dD×Option K)→List (dD×K)→Prop} (ho:o.op= .binOp op t x y u) (hd:o.dst=some d) (hop: (match op with| .eql=>true| .neq=>true|_=>false)=true)
 (ht:P.underlying t=some (.struct (P.fieldsOf t))) (hp:P.stoodInHeld t=false) (hm:P.eqGuardType P.depth t=false) (hf:mc T (P.fieldsOf t).toList 0 xs ys=true)
 (hx:ev σ x=some (.e (.agg (xs.map .d)),Rx)) (hy:ev σ y=some (.e (.agg (ys.map .d)),Ry)) (h:k (Rx++Ry) [(.t d,.v (B (match op with| .neq=> !jt xs ys|_=>jt xs ys)))]): ∃R W,wG P o R W∧bJ R σ∧k R W:=
 ⟨_,_,aM3 hT ho hd hop ht hp hm hf hx hy,(fun p hp=>by
  rcases List.mem_append.1 hp with hp|hp
  · exact cZ hx p hp
  · exact cZ hy p hp),h⟩
set_option linter.unusedVariables false
set_option linter.unusedSimpArgs false
theorem Spec.freeze {P:Program} {f:FuncId} {n m:Nat} {σin:St} {e:TypeId} {es:Nat} {rows:List (List D)} (h:Spec P f n σin [(.t 0,.v (.e (.c (.own 0 m)))),(.o 0,.row e es rows)]) (hm:rows.length=m) (h0:bX σin=[]):Spec P f n σin [(.t 0,.v (Dv (.sl rows)))]:=by
 have hno: ∀o k,aS σin (.o o)=some k→False:=fun o k hk=>by have:=eR hk;rw[h0] at this;cases this
 refine⟨h.1,fun ι ν S w args hg h1 h2 h3=>mF (fun ex w'=> ?_) (h.2 ι ν S w args hg h1 h2 h3)⟩
 rintro⟨v,ι',S',rfl,hp⟩
 have hrow:=hp.vr.objs 0 (.row e es rows) rfl
 have hv:v=ι' 0:=by
  obtain⟨_,h2⟩:=(show CR _ ι' w' S' (.own 0 m) v from hp.vr.slots 0 _ rfl)
  rcases h2 with⟨e2,es2,rows2,hl,_,hv⟩|hd
  · cases hl;exact hv hm
  · cases hd
 have hmut: ∀b,wF (ι' 0) b→jY [(dD.t 0,K.v (.e (.c (.own 0 m)))),(.o 0,.row e es rows)] ι' 0 b:=fun b hb=>⟨⟨_,rfl,trivial⟩,hb⟩
 refine⟨v,ι',fun b=>S' b∨wF (ι' 0) b,rfl,hp.fr,⟨fun s k hk=> ?_,fun o k hk=> ?_,fun o b hm2=> ?_,fun o o' b hm2=> ?_,fun b hb=> ?_⟩,fun b hb=> ?_,fun o b hm2=> ?_,fun o k k' hk hk'=> ?_⟩
 · simp only[aS] at hk
   split at hk
   · rename_i e3;cases e3;cases hk
     show DR w' _ (.sl rows) v
     rw[hv];exact vz hrow (fun b h=> .inl h) (fun b h=> .inr h)
   · cases hk
 · simp[aS] at hk
 · obtain⟨⟨k,hk,_⟩,_⟩:=hm2;simp[aS] at hk
 · obtain⟨⟨k,hk,_⟩,_⟩:=hm2;simp[aS] at hk
 · rcases hb with hb|hb
   · exact hp.vr.sz b hb
   · exact OR.lt hrow trivial hb
 · rcases hb with hb|hb
   · exact hp.rd b hb
   · exact .inr (hp.own 0 b (hmut b hb))
 · obtain⟨⟨k,hk,_⟩,_⟩:=hm2;simp[aS] at hk
 · exact(hno o k hk).elim
def goF (P:Program) (T:gB) (io:List Nat) (ops:List Oper):List Oper→St→(St→Prop)→Prop
 | [],σ,k=>k σ
 |o::os,σ,k=>match o.guard with
  |none=>wm P T io o σ fun σ'=>goF P T io ops os σ' k
  |some (j,want)=>match(ops[j]?).bind (·.dst),o.dst with
   |some s,some d=>match gOf want (aS σ (.t s)) with
    |some g=>(g=true→wm P T io o σ fun σ'=>goF P T io ops os σ' k)∧(g=false→ ∃X,mw σ (.t d) (.cv s want false X) fun σ'=>goF P T io ops os σ' k)
    |none=>False
   |_,_=>False
theorem ju {P:Program} {T:gB} (hT:dK P T) {io:List Nat} {ops:Array Oper} {cx:Cx P} (hio: ∀o k,cx.kio o=some k→o∈io) {Q:Exit→Act→World→Prop} {k:St→Prop} (hk: ∀σ ι S a w,k σ→RW cx σ ι S a w→Q .normal a w): ∀(l:List Oper) (σ:St) (ι:Nat→Value) (S:Nat→Prop) (a:Act) (w:World),goF P T io ops.toList l σ k→RW cx σ ι S a w→(∀o∈l,∀d,o.dst=some d→d<cx.N)→wpList P ops Q l a w
 | [],σ,ι,S,a,w,h,hw,hf=>hk σ ι S a w h hw
 |o::os,σ,ι,S,a,w,h,hw,hf=>by
  have hfo:=hf o (List.mem_cons_self ..)
  have hfs: ∀o∈os,∀d,o.dst=some d→d<cx.N:=fun o ho=>hf o (List.mem_cons_of_mem _ ho)
  have run: (wm P T io o σ fun σ'=>goF P T io ops.toList os σ' k)→o.wp P a w (fun a w=>wpList P ops Q os a w) Q:=fun h=>by
   obtain⟨σ1,hwk,R,Ws,h1,h2,h3⟩:=ly hT h
   obtain⟨ι1,S1,hw1⟩:=hwk _ cx ι S a w hio hw
   refine h1 cx σ1 ι1 S1 a w h2 hw1 hfo _ Q fun W hW ι' S' a' w' hw'=> ?_
   have h3:=h3 W hW
   rw[jW] at h3
   exact ju hT hio hk os _ ι' S' a' w' h3 hw' hfs
  unfold wpList
  simp only[goF] at h
  split at h
  · rename_i hg
    rw[if_pos (by simp[Region.wanted,hg])]
    exact .inl (run h)
  · rename_i j want hg
    split at h<;>try(exact h.elim)
    rename_i s d hs hd
    split at h<;>try(exact h.elim)
    rename_i g hl
    have hs': (ops[j]?).bind (·.dst)=some s:=by simpa using hs
    cases g with
    |true=>
     rw[om hw hg hs' hl,if_pos rfl]
     exact .inl (run (h.1 rfl))
    |false=>
     obtain⟨X,h2⟩:=h.2 rfl
     rw[nM] at h2
     exact yq (R:=[]) (X:=X) hg hs' hd hl (by simp) (by simp) cx σ ι S a w wU hw hfo _ Q fun ι' S' a' w' hw'=>ju hT hio hk os _ ι' S' a' w' (by simpa[hD] using h2) hw' hfs
theorem SW.regF {P:Program} {io:List Nat} {Q:Ex→St→Prop} {σ:St} {T:gB} (hT:dK P T) (ks:List Nat) {id:Nat} {ops:Array Oper} (h:goF P T io ops.toList ops.toList σ fun σ'=>pV ks σ' (Q .norm)):SW P io (.region id ops false) Q σ:=by
 intro cx ι S a w hio hw hf
 have hfit: ∀o∈ops.toList,∀d,o.dst=some d→d<cx.N:=fun o ho=>wK (by simpa[rR] using hf) ho
 refine wp_region_list (ju hT hio (fun σ' ι' S' a' w' h4 hw'=> ?_) ops.toList σ ι S a w h hw hfit)
 rw[lN] at h4
 exact⟨_,ι',S',h4,hw'.keep ks⟩
set_option linter.unusedVariables false
structure bB where
 frm:Int
 num:Int
 to:Int
 til:Int
 text:List UInt8
 deriving DecidableEq
structure bZ where
 frm:Int
 num:Int
 til:Int
 deriving DecidableEq
def bB.row (n:bB):List D:=[.i n.frm,.i n.num,.i n.to,.i n.til,.s n.text]
def bZ.row (n:bZ):List D:=[.i n.frm,.i n.num,.i n.til]
abbrev bB.V (n:bB):V:= .e (.agg [.d (.i n.frm),.d (.i n.num),.d (.i n.to),.d (.i n.til),.d (.s n.text)])
abbrev bZ.V (n:bZ):V:= .e (.agg [.d (.i n.frm),.d (.i n.num),.d (.i n.til)])
def bB.zero:bB:=⟨0,0,0,0,[]⟩
def bZ.zero:bZ:=⟨0,0,0⟩
def aE (l:List bB):List (List D):=l.map bB.row
def aL (l:List bZ):List (List D):=l.map bZ.row
theorem aA (l:List bB): (aE l).length=l.length:=by simp[aE]
theorem aB (l:List bZ): (aL l).length=l.length:=by simp[aL]
theorem eG (l:List bB): ∀r∈aE l,r.length=5:=by
 intro r hr
 obtain⟨b,_,rfl⟩:=aSq.1 hr
 rfl
theorem gP (l:List bZ): ∀r∈aL l,r.length=3:=by
 intro r hr
 obtain⟨b,_,rfl⟩:=aSq.1 hr
 rfl
theorem aQ {l:List bB} {i:Nat} (h:i<l.length): (aE l).getD i []=(l.getD i .zero).row:=by
 rw[aSl,aSl]
 simp[aE,h]
theorem bR {l:List bZ} {i:Nat} (h:i<l.length): (aL l).getD i []=(l.getD i .zero).row:=by
 rw[aSl,aSl]
 simp[aL,h]
def tL (s:List UInt8) (i:Nat):Bool:=gX (iB s i) 32 126
def vF (s:List UInt8):Bool:=(aSp s.length).all (tL s)&&gX s.length 1 24
def eZ (n:bB):Bool:=eB n.frm&&eB n.to&&gX n.num 1 99&&gX n.til 1 999&&vF n.text
def lS (m:bZ):Bool:=eB m.frm&&gX m.num 1 99&&gX m.til 1 999
def cG (a b c d:Int):Bool:=decide (a<c)||a==c&&decide (b<d)
def mI (l:List bB) (i:Nat):Bool:=eZ (l.getD i .zero)&&(i==0||cG (l.getD (i - 1) .zero).frm (l.getD (i - 1) .zero).num (l.getD i .zero).frm (l.getD i .zero).num)
def jO (l:List bB):Bool:=(aSp l.length).all (mI l)
def nN (l:List bZ) (i:Nat):Bool:=lS (l.getD i .zero)&&(i==0||cG (l.getD (i - 1) .zero).frm (l.getD (i - 1) .zero).num (l.getD i .zero).frm (l.getD i .zero).num)
def nR (l:List bZ):Bool:=(aSp l.length).all (nN l)
theorem iR {p:Nat→Bool} {n:Nat} (h: ∀k,k<n→p k=true): (aSp n).all p=true:=by
 rw[aSu];intro k hk;exact h k (List.mem_range.1 hk)
theorem gA {p:Nat→Bool} {n k:Nat} (hk:k<n) (h:p k=false): (aSp n).all p=false:=by
 rw[List.all_eq_false];exact⟨k,List.mem_range.2 hk,by simp[h]⟩
def kB (p:Nat→Bool):Nat→Nat→Int
 |_,0=> -1
 |i,n+1=>if p i then i else kB p (i+1) n
theorem oJ {p:Nat→Bool}: ∀{n i k:Nat},i≤k→k<i+n→(∀j,i≤j→j<k→p j=false)→p k=true→kB p i n=k
 |0,i,k,h1,h2,_,_=>by omega
 |n+1,i,k,h1,h2,h,hp=>by
  unfold kB
  by_cases e:i=k
  · subst e;rw[if_pos hp]
  · rw[if_neg (by rw[h i (aSo _) (by omega)];simp),oJ (n:=n) (i:=i+1) (k:=k) (by omega) (by omega) (fun j h3 h4=>h j (by omega) h4) hp]
theorem mX {p:Nat→Bool}: ∀{n i:Nat},(∀j,i≤j→j<i+n→p j=false)→kB p i n= -1
 |0,i,_=>rfl
 |n+1,i,h=>by
  unfold kB
  rw[if_neg (by rw[h i (aSo _) (by omega)];simp),mX (n:=n) (i:=i+1) fun j h3 h4=>h j (by omega) (by omega)]
theorem jD (p:Nat→Bool): ∀(n i:Nat),kB p i n= -1∨ ∃k:Nat,kB p i n=k∧i≤k∧k<i+n∧p k=true∧ ∀j,i≤j→j<k→p j=false
 |0,i=> .inl rfl
 |n+1,i=>by
  unfold kB
  by_cases h:p i=true
  · rw[if_pos h];exact .inr ⟨i,rfl,aSo _,by omega,h,fun j h1 h2=>by omega⟩
  · rw[if_neg h]
    rcases jD p n (i+1) with h1|⟨k,h1,h2,h3,h4,h5⟩
    · exact .inl h1
    · refine .inr ⟨k,h1,by omega,by omega,h4,fun j h6 h7=> ?_⟩
      by_cases e:j=i
      · subst e;simpa using h
      · exact h5 j (by omega) h7
def pA (l:List bB) (f n:Int) (i:Nat):Bool:=(l.getD i .zero).frm==f&&(l.getD i .zero).num==n
def tM (l:List bZ) (f n:Int) (i:Nat):Bool:=(l.getD i .zero).frm==f&&(l.getD i .zero).num==n
def aX (l:List bB) (f n:Int):Int:=kB (pA l f n) 0 l.length
def jI (l:List bZ) (f n:Int):Int:=kB (tM l f n) 0 l.length
def fp (id:Int) (n:bB):Bool:=id != n.to&&(gX id n.frm n.to||gX id n.to n.frm)
structure aR where
 id:Int
 time:Int
 next:Int
 held:List bB
 marks:List bZ
 inbox:List bB
 deriving DecidableEq
def vG (k:aR) (i:Nat):Bool:=
 let n:=k.held.getD i .zero
 !(n.frm==k.id&&decide (k.next≤n.num))&&decide (k.time<n.til)&&fp k.id n&&decide (jI k.marks n.frm n.num<0)
def zH (k:aR) (i:Nat):Bool:=
 let m:=k.marks.getD i .zero
 !(m.frm==k.id&&decide (k.next≤m.num))&&decide (k.time<m.til)
def uK (k:aR) (i:Nat):Bool:=
 let n:=k.inbox.getD i .zero
 !(n.frm==k.id&&decide (k.next≤n.num))&&n.to==k.id&& !(decide (k.time<n.til)&&decide (jI k.marks n.frm n.num<0))
def dS (k:aR):Bool:=
 eB k.id&&gX k.time 0 999&&gX k.next 1 100&&decide (k.held.length≤6)&&decide (k.marks.length≤12)&&decide (k.inbox.length≤6)&&
 jO k.held&&nR k.marks&&jO k.inbox&&(aSp k.held.length).all (vG k)&&(aSp k.marks.length).all (zH k)&&(aSp k.inbox.length).all (uK k)
set_option linter.unusedVariables false
def aEu:Nat→Nat→List UInt8
 |0,n=>[UInt8.ofNat (48+n % 10)]
 |f+1,n=>if n<10 then [UInt8.ofNat (48+n)] else aEu f (n / 10)++[UInt8.ofNat (48+n % 10)]
def jQ (n:Nat):List UInt8:=aEu n n
theorem aBx: ∀{f g n:Nat},n≤f→n≤g→aEu f n=aEu g n
 |0,0,n,_,_=>rfl
 |0,g+1,n,h,_=>by
  obtain rfl:n=0:=by omega
  rfl
 |f+1,0,n,_,h=>by
  obtain rfl:n=0:=by omega
  rfl
 |f+1,g+1,n,h1,h2=>by
  unfold aEu
  split
  · rfl
  · rw[aBx (f:=f) (g:=g) (n:=n / 10) (by omega) (by omega)]
theorem lO {n:Nat} (h:n<10):jQ n=[UInt8.ofNat (48+n)]:=by
 unfold jQ
 cases n with
 |zero=>rfl
 |succ k=>unfold aEu;rw[if_pos h]
theorem sI {n:Nat} (h:10≤n):jQ n=jQ (n / 10)++[UInt8.ofNat (48+n % 10)]:=by
 unfold jQ
 cases n with
 |zero=>omega
 |succ k=>
  conv=>lhs;unfold aEu
  rw[if_neg (by omega),aBx (f:=k) (g:=(k+1) / 10) (by omega) (aSo _)]
def fY (b:UInt8):Bool:=decide (48≤b.toNat)&&decide (b.toNat≤57)
def oC:List UInt8→Nat:=fun l=>l.foldl (fun n b=>n*10+(b.toNat - 48)) 0
theorem ba (l:List UInt8) (b:UInt8):oC (l++[b])=oC l*10+(b.toNat - 48):=by simp[oC]
theorem rK {d:Nat} (h:d<10): (UInt8.ofNat (48+d)).toNat=48+d:=by
 rw[UInt8.toNat_ofNat'];omega
theorem pr {d:Nat} (h:d<10):fY (UInt8.ofNat (48+d))=true:=by
 unfold fY
 rw[rK h,aSg,decide_eq_true_eq,decide_eq_true_eq];omega
theorem fq (n:Nat):oC (jQ n)=n:=by
 induction n using Nat.strongRecOn with
 |_ n ih=>
  by_cases h:n<10
  · rw[lO h]
    show 0*10+((UInt8.ofNat (48+n)).toNat - 48)=n
    rw[rK h];omega
  · rw[sI (by omega),ba,ih (n / 10) (by omega),rK (by omega)]
    omega
theorem dk (n:Nat): ∀b∈jQ n,fY b=true:=by
 induction n using Nat.strongRecOn with
 |_ n ih=>
  intro b hb
  by_cases h:n<10
  · rw[lO h] at hb
    rw[aSs] at hb;subst hb
    exact pr h
  · rw[sI (by omega)] at hb
    rcases List.mem_append.1 hb with hb|hb
    · exact ih (n / 10) (by omega) b hb
    · rw[aSs] at hb;subst hb
      exact pr (Nat.mod_lt _ (by decide))
theorem aEv (n:Nat):jQ n≠[]:=by
 by_cases h:n<10
 · rw[lO h];simp
 · rw[sI (by omega)];simp
theorem aKu (n:Nat): (jQ n).getD 0 0=48→n=0:=by
 induction n using Nat.strongRecOn with
 |_ n ih=>
  intro hb
  by_cases h:n<10
  · rw[lO h] at hb
    have h1:=congrArg UInt8.toNat hb
    simp only[List.getD_cons_zero] at h1
    rw[rK h] at h1
    have: (48:UInt8).toNat=48:=rfl
    omega
  · rw[sI (by omega),aSl,List.getElem?_append_left (List.length_pos_iff.2 (aEv _)),← aSl] at hb
    have:=ih (n / 10) (by omega) hb
    omega
theorem aBy: ∀(n:Nat) (l:List UInt8),l.length=n→l≠[]→(∀b∈l,fY b=true)→(l.getD 0 0=48→l.length=1)→jQ (oC l)=l
 |0,l,hn,h,_,_=>absurd (List.eq_nil_of_length_eq_zero hn) h
 |n+1,l0,hn,hne,hd,hz=>by
  obtain⟨l,b,rfl⟩: ∃l b,l0=l++[b]:=by
   rcases List.eq_nil_or_concat l0 with h|⟨L,b,h⟩
   · exact absurd h hne
   · exact⟨L,b,by rw[h,List.concat_eq_append]⟩
  have hb:=hd b (by simp)
  simp only[fY,aSg,decide_eq_true_eq] at hb
  have hbb:UInt8.ofNat (48+(b.toNat - 48))=b:=by
   apply UInt8.toNat_inj.1
   rw[UInt8.toNat_ofNat'];omega
  by_cases hl:l=[]
  · subst hl
    show jQ (0*10+(b.toNat - 48))=[b]
    rw[Nat.zero_mul,Nat.zero_add,lO (by omega),hbb]
  · have hlen:0<l.length:=List.length_pos_iff.2 hl
    have hh: (l++[b]).getD 0 0=l.getD 0 0:=by
     rw[aSl,aSl,List.getElem?_append_left hlen]
    have hz2:l.getD 0 0≠48:=fun e=>by
     have:=hz (hh.trans e)
     rw[aSe] at this
     have h9:l.length+1=1:=this
     omega
    have ih2:=aBy n l (by simpa using hn) hl (fun x hx=>hd x (List.mem_append_left _ hx)) (fun e=>absurd e hz2)
    have hv:1≤oC l:=by
     by_cases h0:oC l=0
     · rw[h0] at ih2
       rw[← ih2] at hz2
       exact absurd rfl hz2
     · omega
    rw[ba,sI (by omega),show(oC l*10+(b.toNat - 48)) / 10=oC l by omega,show(oC l*10+(b.toNat - 48)) % 10=b.toNat - 48 by omega,ih2,hbb]
set_option linter.unusedVariables false
def zI (s:List UInt8):Bool:=s.all fY
def kI (s:List UInt8):Option Nat:=if(1≤s.length∧s.length≤5)∧ ¬(s.getD 0 0=48∧1<s.length)∧zI s=true then some (oC s) else none
def fS (s:List UInt8):Int:=if(1≤s.length∧s.length≤4)∧zI s=true∧jQ (oC s)=s then oC s else -1
theorem uL {s:List UInt8} (h1:1≤s.length) (hd:zI s=true):jQ (oC s)=s↔ ¬(s.getD 0 0=48∧1<s.length):=by
 have hne:s≠[]:=fun e=>by subst e;simp at h1
 have hd': ∀b∈s,fY b=true:=aSu.1 hd
 constructor
 · rintro e ⟨h2,h3⟩
   have h4:oC s=0:=aKu (oC s) (by rw[e];exact h2)
   rw[h4] at e
   have:s.length=1:=by rw[← e];rfl
   omega
 · intro h
   exact aBy s.length s rfl hne hd' fun h2=>by
    by_cases h3:1<s.length
    · exact absurd ⟨h2,h3⟩ h
    · omega
theorem vW {s:List UInt8} (h:s.length≤4):fS s=match kI s with|some n=>(n:Int)|none=> -1:=by
 unfold fS kI
 by_cases h1:1≤s.length
 · by_cases hd:zI s=true
   · by_cases hw: ¬(s.getD 0 0=48∧1<s.length)
     · rw[if_pos ⟨⟨h1,h⟩,hd,(uL h1 hd).2 hw⟩,if_pos ⟨⟨h1,by omega⟩,hw,hd⟩]
     · rw[if_neg (fun e=>hw ((uL h1 hd).1 e.2.2)),if_neg (fun e=>hw e.2.1)]
   · rw[if_neg (fun e=>hd e.2.1),if_neg (fun e=>hd e.2.2)]
 · rw[if_neg (fun e=>h1 e.1.1),if_neg (fun e=>h1 e.1.1)]
theorem zb: ∀(n:Nat) (s:List UInt8),s.length=n→(∀b∈s,fY b=true)→oC s<10 ^ n
 |0,s,hn,_=>by rw[List.eq_nil_of_length_eq_zero hn];decide
 |n+1,s0,hn,hd=>by
  obtain⟨s,b,rfl⟩: ∃l b,s0=l++[b]:=by
   rcases List.eq_nil_or_concat s0 with h|⟨L,b,h⟩
   · rw[h] at hn;simp at hn
   · exact⟨L,b,by rw[h,List.concat_eq_append]⟩
  have hb:=hd b (by simp)
  simp only[fY,aSg,decide_eq_true_eq] at hb
  have ih:=zb n s (by simpa using hn) fun x hx=>hd x (List.mem_append_left _ hx)
  rw[ba,Nat.pow_succ]
  omega
theorem aHy {s:List UInt8} {i:Nat} (h:i<s.length):oC (s.take (i+1))=oC (s.take i)*10+((s.getD i 0).toNat - 48):=by
 rw[List.take_add_one,aSn h]
 rw[show s[i]=s.getD i 0 by rw[aSl,aSn h];rfl]
 exact ba _ _
set_option linter.unusedVariables false
def zJ (s:List UInt8):Nat→Nat→Option Nat
 |0,_=>none
 |f+1,i=>if i<s.length then(if s.getD i 0=58 then some i else zJ s f (i+1)) else none
def bb (s:List UInt8):Option Nat:=zJ s 3 0
def lW (s:List UInt8):Option (List UInt8×Nat):=
 match bb s with
 |none=>none
 |some i=>match kI (s.take i) with
  |none=>none
  |some n=>if 1≤n∧n≤60∧i+2+n≤s.length∧s.getD (i+1+n) 0=59 then some ((s.take (i+1+n)).drop (i+1),i+2+n) else none
theorem zK {s:List UInt8}: ∀{f i k:Nat},zJ s f i=some k→i≤k∧k<i+f∧k<s.length∧s.getD k 0=58∧ ∀j,i≤j→j<k→s.getD j 0≠58
 |0,i,k,h=>by cases h
 |f+1,i,k,h=>by
  unfold zJ at h
  split at h
  · rename_i h1
    split at h
    · rename_i h2
      cases h
      exact⟨aSo _,by omega,h1,h2,fun j h3 h4=>by omega⟩
    · rename_i h2
      obtain⟨q1,q2,q3,q4,q5⟩:=zK h
      refine⟨by omega,by omega,q3,q4,fun j h3 h4=> ?_⟩
      by_cases e:j=i
      · subst e;exact h2
      · exact q5 j (by omega) h4
  · cases h
theorem wy {s:List UInt8}: ∀{f i k:Nat},i≤k→k<i+f→k<s.length→s.getD k 0=58→(∀j,i≤j→j<k→s.getD j 0≠58)→zJ s f i=some k
 |0,i,k,h1,h2,_,_,_=>by omega
 |f+1,i,k,h1,h2,h3,h4,h5=>by
  unfold zJ
  rw[if_pos (by omega)]
  by_cases e:i=k
  · subst e;rw[if_pos h4]
  · rw[if_neg (h5 i (aSo _) (by omega))]
    exact wy (by omega) (by omega) h3 h4 fun j h6 h7=>h5 j (by omega) h7
theorem wz {s:List UInt8}: ∀{f i:Nat},(∀j,i≤j→j<i+f→j<s.length→s.getD j 0≠58)→zJ s f i=none
 |0,i,_=>rfl
 |f+1,i,h=>by
  unfold zJ
  split
  · rename_i h1
    rw[if_neg (h i (aSo _) (by omega) h1)]
    exact wz fun j h2 h3=>h j (by omega) (by omega)
  · rfl
theorem qB {s r:List UInt8} {n:Nat} (h:lW s=some (r,n)):3≤n∧n≤s.length∧n≤64∧r.length≤60∧1≤r.length:=by
 unfold lW at h
 split at h
 · cases h
 · rename_i i hi
   obtain⟨q1,q2,q3,q4,q5⟩:=zK hi
   split at h
   · cases h
   · rename_i m hm
     split at h
     · rename_i hc
       cases h
       have h1:1≤(s.take i).length:=by
        unfold kI at hm
        split at hm
        · rename_i h9;exact h9.1.1
        · cases hm
       rw[aSk] at h1
       refine⟨by omega,by omega,by omega,?_,?_⟩<;>rw[aSr,aSk]<;>omega
     · cases h
def bx:Nat→List UInt8→List (List UInt8)×Nat
 |0,_=>([],0)
 |f+1,s=>match lW s with
  |none=>([],0)
  |some (r,n)=>(r::(bx f (s.drop n)).1,n+(bx f (s.drop n)).2)
def dB (s:List UInt8):List (List UInt8)×Nat:=bx s.length s
theorem vX:lW []=none:=rfl
theorem jv: ∀{f g:Nat} {s:List UInt8},s.length≤f→s.length≤g→bx f s=bx g s
 |0,0,s,_,_=>rfl
 |0,g+1,s,h,_=>by
  obtain rfl:s=[]:=List.eq_nil_of_length_eq_zero (by omega)
  simp[bx,vX]
 |f+1,0,s,_,h=>by
  obtain rfl:s=[]:=List.eq_nil_of_length_eq_zero (by omega)
  simp[bx,vX]
 |f+1,g+1,s,h1,h2=>by
  unfold bx
  cases hr:lW s with
  |none=>rfl
  |some p=>
   obtain⟨r,n⟩:=p
   have:=qB hr
   have e:=jv (f:=f) (g:=g) (s:=s.drop n) (by rw[aSr];omega) (by rw[aSr];omega)
   simp only[e]
theorem kO {s:List UInt8} (h:lW s=none):dB s=([],0):=by
 unfold dB
 cases s with
 |nil=>rfl
 |cons b t=>simp[bx,h]
theorem tN {s r:List UInt8} {n:Nat} (h:lW s=some (r,n)):dB s=(r::(dB (s.drop n)).1,n+(dB (s.drop n)).2):=by
 have h1:=qB h
 unfold dB
 rw[jv (f:=s.length) (g:=(s.length - 1)+1) (aSo _) (by omega)]
 conv=>lhs;unfold bx
 rw[h]
 simp only
 rw[jv (f:=s.length - 1) (g:=(s.drop n).length) (by rw[aSr];omega) (aSo _)]
theorem wX: ∀(k:Nat) (s:List UInt8),s.length≤k→(dB s).2≤s.length∧(dB s).1.length≤s.length
 |0,s,h=>by
  obtain rfl:s=[]:=List.eq_nil_of_length_eq_zero (by omega)
  rw[kO vX];simp
 |k+1,s,h=>by
  cases hr:lW s with
  |none=>rw[kO hr];simp
  |some p=>
   obtain⟨r,n⟩:=p
   have h1:=qB hr
   have ih:=wX k (s.drop n) (by rw[aSr];omega)
   rw[aSr] at ih
   rw[tN hr]
   simp only[aSi]
   omega
def eV (log:List UInt8) (forced:Int):Bool:=
 decide (log.length≤2400)&&gX forced 0 log.length&&decide ((dB log).2=log.length)&&decide (((dB (log.take forced.toNat)).2:Int)=forced)
set_option linter.unusedVariables false
theorem sJ {l:List bB} {i:Nat} {E c:Bool} (h: (!eZ (l.getD i .zero)||decide ((i:Int)>0)&& !E)=c) (hE:0<i→E=cG (l.getD (i - 1) .zero).frm (l.getD (i - 1) .zero).num (l.getD i .zero).frm (l.getD i .zero).num):mI l i= !c:=by
 subst h
 unfold mI
 by_cases h0:i=0
 · subst h0;simp
 · rw[hE (by omega)]
   have h1:decide ((i:Int)>0)=true:=decide_eq_true (by omega)
   have h2: (i==0)=false:=by simpa using h0
   rw[h1,h2,Bool.true_and,Bool.false_or,Bool.not_or,Bool.not_not,Bool.not_not]
theorem sK {l:List bZ} {i:Nat} {E c:Bool} (h: (!lS (l.getD i .zero)||decide ((i:Int)>0)&& !E)=c) (hE:0<i→E=cG (l.getD (i - 1) .zero).frm (l.getD (i - 1) .zero).num (l.getD i .zero).frm (l.getD i .zero).num):nN l i= !c:=by
 subst h
 unfold nN
 by_cases h0:i=0
 · subst h0;simp
 · rw[hE (by omega)]
   have h1:decide ((i:Int)>0)=true:=decide_eq_true (by omega)
   have h2: (i==0)=false:=by simpa using h0
   rw[h1,h2,Bool.true_and,Bool.false_or,Bool.not_or,Bool.not_not,Bool.not_not]
theorem eN {i:Nat} (h:0<i) (hl:i≤1000000):wrap64 ((i:Int) - 1)=((i - 1:Nat):Int):=by
 rw[aF (by omega)];omega
end Go.Ab
namespace Go.Ab
open Int renaming toNat_natCast→aSd
open List renaming length_append→aSe,length_nil→aSh,length_cons→aSi,length_take→aSk,getD_eq_getElem?_getD→aSl,getElem?_eq_some_iff→aSm,getElem?_eq_getElem→aSn,range→aSp,mem_map→aSq,length_drop→aSr,mem_singleton→aSs,all_eq_true→aSu,take_length→aSv,mem_cons→aSw
open Nat renaming le_of_ble_eq_true→aSf,zero_le→aSj,le_refl→aSo,add_mul→aSt
open Bool renaming and_eq_true→aSg
open Go Go.RowKit
abbrev aR.V (k:aR):V:= .e (.agg [.d (.i k.id),.d (.i k.time),.d (.i k.next),.d (.sl (aE k.held)),.d (.sl (aL k.marks)),.d (.sl (aE k.inbox))])
theorem xa (a b:Int):decide (a≥b)= !decide (a<b):=by
 by_cases h:a<b
 · simp[h,Int.not_le.2 h]
 · simp[h,Int.not_lt.1 h]
theorem wY {k:aR} {i:Nat} {c:Bool} (h: ((k.held.getD i .zero).frm==k.id&&decide ((k.held.getD i .zero).num≥k.next)||decide ((k.held.getD i .zero).til≤k.time)|| !fp k.id (k.held.getD i .zero)||decide (jI k.marks (k.held.getD i .zero).frm (k.held.getD i .zero).num≥0))=c):vG k i= !c:=by
 subst h
 unfold vG
 simp only[xa,Bool.not_or,Bool.not_not]
theorem wZ {k:aR} {i:Nat} {c:Bool} (h: ((k.marks.getD i .zero).frm==k.id&&decide ((k.marks.getD i .zero).num≥k.next)||decide ((k.marks.getD i .zero).til≤k.time))=c):zH k i= !c:=by
 subst h
 unfold zH
 simp only[xa,Bool.not_or,Bool.not_not]
theorem uM {k:aR} {i:Nat} {c:Bool} (h: ((k.inbox.getD i .zero).frm==k.id&&decide ((k.inbox.getD i .zero).num≥k.next)||(k.inbox.getD i .zero).to != k.id||decide ((k.inbox.getD i .zero).til>k.time)&&decide (jI k.marks (k.inbox.getD i .zero).frm (k.inbox.getD i .zero).num<0))=c):uK k i= !c:=by
 subst h
 unfold uK
 simp only[xa,Bool.not_or,Bool.not_not,bne,gt_iff_lt]
theorem bV (k:aR):dS k=true↔(eB k.id=true∧(0≤k.time∧k.time≤999)∧(1≤k.next∧k.next≤100)∧k.held.length≤6∧k.marks.length≤12∧k.inbox.length≤6)∧(jO k.held=true∧nR k.marks=true∧jO k.inbox=true)∧
 (aSp k.held.length).all (vG k)=true∧(aSp k.marks.length).all (zH k)=true∧(aSp k.inbox.length).all (uK k)=true:=by
 simp only[dS,gX,aSg,decide_eq_true_eq]
 constructor
 · rintro⟨⟨⟨⟨⟨⟨⟨⟨⟨⟨⟨h1,h2⟩,h3⟩,h4⟩,h5⟩,h6⟩,h7⟩,h8⟩,h9⟩,h10⟩,h11⟩,h12⟩
   exact⟨⟨h1,h2,h3,h4,h5,h6⟩,⟨h7,h8,h9⟩,h10,h11,h12⟩
 · rintro⟨⟨h1,h2,h3,h4,h5,h6⟩,⟨h7,h8,h9⟩,h10,h11,h12⟩
   exact⟨⟨⟨⟨⟨⟨⟨⟨⟨⟨⟨h1,h2⟩,h3⟩,h4⟩,h5⟩,h6⟩,h7⟩,h8⟩,h9⟩,h10⟩,h11⟩,h12⟩
theorem mY {k:aR} (h: ¬dS k=true):dS k=false:=by simpa using h
set_option linter.unusedVariables false
theorem aGq (n:Nat): (jQ n).length≤n+1:=by
 induction n using Nat.strongRecOn with
 |_ n ih=>
  by_cases h:n<10
  · rw[lO h];simp
  · rw[sI (by omega),aSe]
    have:=ih (n / 10) (by omega)
    simp only[aSi,aSh];omega
theorem aBz {d:Nat} (h:d<10):u8 (wrap64 (48+(d:Int)))=UInt8.ofNat (48+d):=by
 rw[aF (by omega)]
 apply UInt8.toNat_inj.1
 have h1:=aBu (48+(d:Int))
 rw[rK h]
 unfold hF at h1
 omega
theorem md {s:List UInt8} {i:Nat} (h: ∀k,k<i→fY (s.getD k 0)=true) (hi:i≤s.length): ∀b∈s.take i,fY b=true:=by
 intro b hb
 obtain⟨k,hk⟩:=List.mem_iff_getElem?.1 hb
 have hlt:k<i:=by
  have:=(aSm.1 hk).1
  rw[aSk] at this;omega
 rw[List.getElem?_take_of_lt hlt] at hk
 have:=h k hlt
 rw[aSl,hk] at this
 exact this
theorem xb {s:List UInt8} (h: ∀k,k<s.length→fY (s.getD k 0)=true):zI s=true:=by
 have:=md h (aSo _)
 rw[aSv] at this
 exact aSu.2 this
theorem pw {s:List UInt8} {k:Nat} (hk:k<s.length) (h:fY (s.getD k 0)=false):zI s=false:=by
 unfold zI
 rw[List.all_eq_false]
 refine⟨s.getD k 0,?_,by rw[h];decide⟩
 rw[aSl,aSn hk]
 exact List.getElem_mem _
theorem px (s:List UInt8) (i:Nat):fY (s.getD i 0)=gX (iB s i) 48 57:=by
 unfold fY gX iB
 congr 1<;>(apply decide_eq_decide.2;omega)
theorem aB0 {s:List UInt8} {i a:Nat} (hi:i<s.length) (hd:fY (s.getD i 0)=true) (ha:oC (s.take i)=a) (hb:a<1000000):
 wrap64 (wrap64 (10*(a:Int))+wrap64 (hF (((s.getD i 0).toNat:Int) - 48)))=(oC (s.take (i+1)):Nat)∧wrap64 (wrap64 ((a:Int)*10)+wrap64 (hF (((s.getD i 0).toNat:Int) - 48)))=(oC (s.take (i+1)):Nat):=by
 rw[aHy hi,ha]
 simp only[fY,aSg,decide_eq_true_eq] at hd
 have h8:hF (((s.getD i 0).toNat:Int) - 48)=((s.getD i 0).toNat:Int) - 48:=by unfold hF;omega
 rw[h8,aF (n:=((s.getD i 0).toNat:Int) - 48) (by omega),aF (n:=10*(a:Int)) (by omega),aF (n:=(a:Int)*10) (by omega),aF (by omega),aF (by omega)]
 omega
theorem jw {s:List UInt8} {i:Nat} (h: ∀k,k<i→fY (s.getD k 0)=true) (hi:i≤s.length) (h5:i≤5):oC (s.take i)<100000:=
 Nat.lt_of_lt_of_le (zb i (s.take i) (by rw[aSk];omega) (md h hi)) (Nat.pow_le_pow_right (by decide) h5)
set_option linter.unusedVariables false
theorem xA (t:List UInt8): -1≤fS t∧fS t≤9999:=by
 unfold fS
 split
 · rename_i h
   have h1:=zb t.length t rfl (aSu.1 h.2.1)
   have h2:10 ^ t.length≤10 ^ 4:=Nat.pow_le_pow_right (by decide) h.1.2
   have h3: (10:Nat) ^ 4=10000:=rfl
   omega
 · omega
theorem aKv {s:List UInt8} {i:Nat} (hc:bb s=some i):
 lW s=if 1≤fS (s.take i)∧fS (s.take i)≤60∧i+2+(fS (s.take i)).toNat≤s.length∧s.getD (i+1+(fS (s.take i)).toNat) 0=59 then some ((s.take (i+1+(fS (s.take i)).toNat)).drop (i+1),i+2+(fS (s.take i)).toNat) else none:=by
 obtain⟨q1,q2,q3,q4,q5⟩:=zK hc
 have hd:=vW (s:=s.take i) (by rw[aSk];omega)
 unfold lW
 rw[hc]
 simp only
 cases hn:kI (s.take i) with
 |none=>
  rw[hn] at hd
  simp only at hd
  rw[if_neg (by omega)]
 |some n=>
  rw[hn] at hd
  simp only at hd
  rw[hd]
  simp only[aSd]
  by_cases h:1≤n∧n≤60∧i+2+n≤s.length∧s.getD (i+1+n) 0=59
  · rw[if_pos h,if_pos ⟨by omega,by omega,h.2.2.1,h.2.2.2⟩]
  · rw[if_neg h,if_neg (fun e=>h ⟨by omega,by omega,e.2.2.1,e.2.2.2⟩)]
def aHz (s:List UInt8):List UInt8:=match lW s with|some p=>p.1|none=>[]
def zc (s:List UInt8):Nat:=match lW s with|some p=>p.2|none=>0
theorem xd {s:List UInt8}:zc s=0↔lW s=none:=by
 unfold zc
 cases h:lW s with
 |none=>simp
 |some p=>
  obtain⟨r,n⟩:=p
  have:=qB h
  simp;omega
theorem zd {s:List UInt8} (h: ∀j,j<3→j<s.length→s.getD j 0≠58):bb s=none:=wz fun j _ h2 h3=>h j (by omega) h3
theorem aEw {s:List UInt8} {i:Nat} (h3:i<3) (hi:i<s.length) (hc:s.getD i 0=58) (h: ∀j,j<i→s.getD j 0≠58):bb s=some i:=wy (aSj _) (by omega) hi hc fun j _ h2=>h j h2
theorem tz {s:List UInt8} (h:bb s=none):lW s=none:=by unfold lW;rw[h]
set_option linter.unusedVariables false
def kJ (t:List UInt8):Int:=match kI t with|some n=>(n:Int)|none=>0
section
variable {s:List UInt8} {a c:Nat}
end
open Go Go.RowKit Go.Sort
set_option linter.unusedVariables false
set_option linter.unusedSimpArgs false
theorem fu {P:Program} {f:FuncId} {ds:List D} {X:V} (hc:da P f) (h: ∀(S:Nat→Prop) (w:World) (args:Array Value),aG5 P w→args.size=ds.length→(∀(i:Nat) d v,ds[i]? =some d→args[i]? =some v→DR w S d v)→
 Calls P f args w fun e w'=> ∃v S',e= .returned v∧Fr (fun _=>False) w w'∧(∀σ ι,kU σ ι w' S' X v)∧ ∀b,S' b→w.heap.size≤b∧b<w'.heap.size):Spec P f ds.length (eH 0 (ds.map Dv)) [(.t 0,.v X)]:=by
 refine⟨hc,fun ι ν S w args hgb hvr hsz hargs=>mF (fun e w'=> ?_) (h S w args (hgb w (Fr.refl _ _)) hsz fun i d v hi hv=> ?_)⟩
 · rintro⟨v,S',rfl,hfr,hx,hS⟩
   refine⟨v,fun _=>undef,S',rfl,hfr.weak (fun _ h=>h.elim),⟨fun s k hk=> ?_,fun o k hk=> ?_,fun o b hm2=> ?_,fun o o' b hm2=> ?_,fun b hb=>(hS b hb).2⟩,fun b hb=> .inr (.inl (hS b hb).1),fun o b hm2=> ?_,fun o k k' hk hk'=> ?_⟩
   · simp only[aS] at hk
     split at hk
     · rename_i e3;cases e3;cases hk;exact hx _ _
     · cases hk
   · simp[aS] at hk
   · obtain⟨⟨k,hk,_⟩,_⟩:=hm2;simp[aS] at hk
   · obtain⟨⟨k,hk,_⟩,_⟩:=hm2;simp[aS] at hk
   · obtain⟨⟨k,hk,_⟩,_⟩:=hm2;simp[aS] at hk
   · simp[aS] at hk'
 · have hlt:i<ds.length:=(aSm.1 hi).1
   have hv2:=hargs i hlt
   rw[hv] at hv2
   cases hv2
   have hl:aS (eH 0 (ds.map Dv)) (.t i)=some (.v (Dv d)):=by
    have:=nZ 0 (ds.map Dv) [] i (aSj _) (by simpa using hlt)
    rw[List.append_nil] at this
    rw[this];simp[hi]
   exact hvr.slots i _ hl
theorem aGr (w:World) (k:Nat):Fr (fun _=>False) w (w.drewN k):=⟨rfl,rfl,rfl,aSo _,fun _ _ _=>rfl⟩
theorem ze (w:World) (os:Array Obj):Fr (fun _=>False) w (grow w os):=
 ⟨rfl,rfl,rfl,by simp[grow],fun b hb _=>by simp[grow,Array.getElem?_append_left hb]⟩
theorem jx {P:Program} {w:World} (h:aG5 P w) {g:Nat} (hg:P.globalNamed "internal/bytealg.MaxLen" =some g): ∃m,w.cell? ⟨g,0,none⟩=some (.int .i64 m):=by
 obtain⟨_,m,hm⟩:=h
 refine⟨m,?_⟩
 unfold World.var? at hm
 rw[hg] at hm
 simp only[Option.bind_some] at hm
 split at hm
 · rename_i cs t fz hh
   cases hm
   unfold World.cell?
   simp[hh]
 · cases hm
theorem bytesOf (l:List UInt8): (⟨l.toArray⟩:ByteArray).data.toList=l:=rfl
theorem DR.s_inv {w:World} {S:Nat→Prop} {l:List UInt8} {v:Value} (h:DR w S (.s l) v):v= .string ⟨l.toArray⟩:=by cases h;rfl
theorem DR.i_inv {w:World} {S:Nat→Prop} {n:Int} {v:Value} (h:DR w S (.i n) v):v= .int .i64 n:=by cases h;rfl
theorem aM4 (n:Nat):Lib.decDigits n=jQ n:=by
 induction n using Nat.strongRecOn with
 |_ n ih=>
  unfold Lib.decDigits
  by_cases h:n<10
  · rw[dif_pos h,lO h]
  · rw[dif_neg h,sI (by omega),ih (n / 10) (by omega)]
theorem aH0 {P:Program} {f:FuncId} (hc:da P f) (n:Nat) (hn:n≤1000000)
 (h: ∀(w:World),Lib.TabIs P w "internal/strconv.uint64pow10" .u64 Lib.pow10Tab→Calls P f #[.int .i64 n] w fun e w'=>e= .returned (.string ⟨(Lib.itoa n).toArray⟩)∧ ∃k os,w'=grow (w.drewN k) os):
 Spec P f 1 [(.t 0,.v (I n))] [(.t 0,.v (Dv (.s (jQ n))))]:=by
 refine fu (ds:=[.i n]) hc fun S w args hg hsz ha=> ?_
 have ha0:=ha 0 (.i n) (args[0]'(by rw[hsz];simp)) rfl (Array.getElem?_eq_getElem (by rw[hsz];simp))
 have e:args= #[.int .i64 n]:=by
  apply Array.ext
  · rw[hsz];rfl
  · intro i h1 h2
    have:i=0:=by have:i<1:=by simpa using h2
                 omega
    subst this
    exact ha0.i_inv
 subst e
 refine mF (fun e w'=> ?_) (h w hg.1)
 rintro⟨rfl,k,os,rfl⟩
 have e2:Lib.itoa (n:Int)=jQ n:=by
  unfold Lib.itoa
  rw[if_neg (by omega),aSd,aM4]
 exact⟨_,fun _=>False,rfl,(aGr w k).trans (ze _ os) (fun _ _ h=>h),fun σ ι=>by rw[e2];exact DR.s _,fun b hb=>hb.elim⟩
def bA (s:List UInt8):List UInt8:=s.takeWhile (· != 32)
def aN (s:List UInt8):List UInt8:=(s.dropWhile (· != 32)).drop 1
def fH (s:List UInt8):Bool:=s.any (· ==32)
def gW:Nat→List UInt8→List (List UInt8)
 |0,s=>[s]
 |n+1,s=>if fH s then bA s::gW n (aN s) else [s]
theorem fI: ∀(s:List UInt8),(fH s=true→Lib.indexByte s 32=(bA s).length∧s.take (bA s).length=bA s∧s.drop ((bA s).length+1)=aN s∧(bA s).length<s.length)∧(fH s=false→Lib.indexByte s 32= -1∧bA s=s∧aN s=[])
 | []=>⟨fun h=>by simp[fH] at h,fun _=>⟨rfl,rfl,rfl⟩⟩
 |b::l=>by
  obtain⟨h1,h2⟩:=fI l
  unfold Lib.indexByte
  by_cases hb:b=32
  · subst hb
    refine⟨fun _=> ?_,fun h=>by simp[fH] at h⟩
    simp[bA,aN]
  · have e1:fH (b::l)=fH l:=by simp[fH,hb]
    have e2:bA (b::l)=b::bA l:=by simp[bA,hb]
    have e3:aN (b::l)=aN l:=by simp[aN,hb]
    rw[if_neg (by simpa using hb),e1,e2,e3]
    refine⟨fun h=> ?_,fun h=> ?_⟩
    · obtain⟨q1,q2,q3,q4⟩:=h1 h
      rw[q1,if_neg (by simp)]
      refine⟨by simp,by simp[q2],by simpa using q3,by simpa using q4⟩
    · obtain⟨q1,q2,q3⟩:=h2 h
      rw[q1,if_pos (by decide)]
      exact⟨rfl,by rw[q2],q3⟩
theorem aM5 (s:List UInt8):Lib.cut s [32]=(bA s,aN s,fH s):=by
 obtain⟨h1,h2⟩:=fI s
 unfold Lib.cut
 rw[Lib.index_one]
 cases h:fH s with
 |true=>
  obtain⟨q1,q2,q3,q4⟩:=h1 h
  rw[q1,if_pos (by omega),aSd,q2]
  show(_,List.drop ((bA s).length+1) s,_)=_
  rw[q3]
 |false=>
  obtain⟨q1,q2,q3⟩:=h2 h
  rw[q1,if_neg (by decide),q2,q3]
theorem xe: ∀(n:Nat) (s:List UInt8),Lib.splitK [32] 0 n s=gW n s
 |0,s=>rfl
 |n+1,s=>by
  obtain⟨h1,h2⟩:=fI s
  unfold Lib.splitK gW
  rw[Lib.index_one]
  cases h:fH s with
  |true=>
   obtain⟨q1,q2,q3,q4⟩:=h1 h
   rw[q1,if_neg (by simp),if_pos rfl,aSd,Nat.add_zero,q2]
   show _::Lib.splitK [32] 0 n (List.drop ((bA s).length+1) s)=_
   rw[q3,xe n]
  |false=>
   obtain⟨q1,q2,q3⟩:=h2 h
   rw[q1,if_pos (by decide),if_neg (by simp)]
theorem aKw {P:Program} {f:FuncId} (hc:da P f) (s:List UInt8) (hs:s.length≤1000000)
 (h: ∀(w:World),aG5 P w→Calls P f #[.string ⟨s.toArray⟩,.string ⟨#[32]⟩] w fun e w'=>e= .returned (.tuple #[.string ⟨(Lib.cut s [32]).1.toArray⟩,.string ⟨(Lib.cut s [32]).2.1.toArray⟩,.bool (Lib.cut s [32]).2.2])∧ ∃n,w'=w.drewN n):
 Spec P f 2 [(.t 0,.v (Dv (.s s))),(.t 1,.v (Dv (.s [32])))] [(.t 0,.v (.tup [.c (.d (.s (bA s))),.c (.d (.s (aN s))),.c (.d (.b (fH s)))]))]:=by
 refine fu (ds:=[.s s,.s [32]]) hc fun S w args hg hsz ha=> ?_
 have ha0:=ha 0 (.s s) (args[0]'(by rw[hsz];simp)) rfl (Array.getElem?_eq_getElem (by rw[hsz];simp))
 have ha1:=ha 1 (.s [32]) (args[1]'(by rw[hsz];simp)) rfl (Array.getElem?_eq_getElem (by rw[hsz];simp))
 have e:args= #[.string ⟨s.toArray⟩,.string ⟨#[32]⟩]:=by
  apply Array.ext
  · rw[hsz];rfl
  · intro i h1 h2
    have:i=0∨i=1:=by have:i<2:=by simpa using h2
                     omega
    rcases this with rfl|rfl
    · exact ha0.s_inv
    · exact ha1.s_inv
 subst e
 refine mF (fun e w'=> ?_) (h w hg)
 rintro⟨rfl,n,rfl⟩
 rw[aM5]
 refine⟨_,fun _=>False,rfl,aGr w n,fun σ ι=>⟨[.string ⟨(bA s).toArray⟩,.string ⟨(aN s).toArray⟩,.bool (fH s)],rfl,rfl,fun k x u hx hu=> ?_⟩,fun b hb=>hb.elim⟩
 match k,hx,hu with
 |0,hx,hu=>cases hx;cases hu;exact DR.s _
 |1,hx,hu=>cases hx;cases hu;exact DR.s _
 |2,hx,hu=>cases hx;cases hu;exact DR.b _
 |k+3,hx,hu=>simp at hx
theorem aGs (w:World) (l:List (List UInt8)) (cs:Array Value) (e:TypeId) (cap:Nat) (hl:l.length≤cap) (hm:cap≤maxLen) (hcs: ∀(i:Nat) x,l[i]? =some x→cs[i]? =some (.string ⟨x.toArray⟩)):
 DR (w.alloc (.cells cs e)) (fun b=>b=w.heap.size) (.sl (bL l)) (.slice (some ⟨w.heap.size,0,none⟩) l.length cap):=by
 have hh: (w.alloc (.cells cs e)).heap[w.heap.size]? =some (.cells cs e (0,0)):=heap_alloc_new w _
 have:=DR.sl (w:=w.alloc (.cells cs e)) (S:=fun b=>b=w.heap.size) (bL l) (some ⟨w.heap.size,0,none⟩) cap 1 ⟨w.heap.size,0,none⟩ (fun i k=> .string ⟨(l.getD i []).toArray⟩)
  (by rw[aU];exact hl) hm (fm l) (fun _=>rfl) (fun i r k d hi hk=> ?_) (fun i r k d hi hk=> ?_)
 · rw[aU] at this;exact this
 · have hi2:i<l.length:=by have:=(aSm.1 hi).1;rwa [aU] at this
   have hr:r=[.s (l.getD i [])]:=by
    have h1:=gG hi2
    rw[aSl,hi] at h1
    exact h1
   subst hr
   have hk0:k=0:=by have:=(aSm.1 hk).1;simp at this;exact this
   subst hk0
   refine⟨rfl,?_⟩
   rw[kL,cell_of_row _ _ _ cs e (0,0) hh]
   rw[show 0+(i*1+0)=i by omega]
   exact hcs i (l.getD i []) (by rw[aSl,aSn hi2];rfl)
 · have hi2:i<l.length:=by have:=(aSm.1 hi).1;rwa [aU] at this
   have hr:r=[.s (l.getD i [])]:=by
    have h1:=gG hi2
    rw[aSl,hi] at h1
    exact h1
   subst hr
   have hk0:k=0:=by have:=(aSm.1 hk).1;simp at this;exact this
   subst hk0
   cases hk
   exact DR.s _
theorem jy {s:List UInt8} (h:fH s=true): (aN s).length<s.length:=by
 obtain⟨q1,q2,q3,q4⟩:=(fI s).1 h
 rw[← q3,aSr];omega
theorem rL (s:List UInt8):Lib.count s [32]=if fH s=true then 1+Lib.count (aN s) [32] else 0:=by
 obtain⟨h1,h2⟩:=fI s
 cases h:fH s with
 |true=>
  obtain⟨q1,q2,q3,q4⟩:=h1 h
  rw[if_pos rfl,Lib.count_hit (i:=(bA s).length) (by simp) (by rw[Lib.index_one,q1])]
  show 1+Lib.count (List.drop ((bA s).length+1) s) _=_
  rw[q3]
 |false=>
  rw[if_neg (by simp),Lib.count_miss (by rw[Lib.index_one,(h2 h).1])]
theorem py: ∀(n:Nat) (s:List UInt8),Lib.count s [32]=n→(gW n s).length=n+1
 |0,s,h=>rfl
 |n+1,s,h=>by
  rw[rL] at h
  unfold gW
  by_cases hs:fH s=true
  · rw[if_pos hs] at h
    rw[if_pos hs,aSi,py n (aN s) (by omega)]
  · rw[if_neg hs] at h;omega
theorem pz: ∀(n:Nat) (s:List UInt8),(gW n s).length≤n+1∧1≤(gW n s).length
 |0,s=>⟨aSo _,aSo _⟩
 |n+1,s=>by
  unfold gW
  split
  · have:=pz n (aN s)
    rw[aSi];omega
  · simp
theorem aB1: ∀(n m:Nat) (s:List UInt8),s.length≤n→s.length≤m→gW n s=gW m s
 |0,0,s,_,_=>rfl
 |0,m+1,s,h,_=>by
  rw[List.eq_nil_of_length_eq_zero (Nat.le_zero.1 h)];rfl
 |n+1,0,s,_,h=>by
  rw[List.eq_nil_of_length_eq_zero (Nat.le_zero.1 h)];rfl
 |n+1,m+1,s,h1,h2=>by
  unfold gW
  by_cases hs:fH s=true
  · have:=jy hs
    rw[if_pos hs,if_pos hs,aB1 n m (aN s) (by omega) (by omega)]
  · rw[if_neg hs,if_neg hs]
theorem aKx (n:Nat) (s:List UInt8):gW (min (n+1) (s.length+1) - 1) s=gW n s:=by
 by_cases h:n≤s.length
 · rw[show min (n+1) (s.length+1) - 1=n by omega]
 · exact aB1 _ _ s (by omega) (by omega)
def cV (s:List UInt8):List (List UInt8):=gW (Lib.count s [32]) s
theorem aOn {args:Array Value} {w:World} {S:Nat→Prop} {s:List UInt8} {rest:List D} {vs:List Value} (hsz:args.size=vs.length) (h: ∀(i:Nat) d v,rest[i]? =some d→args[i]? =some v→DR w S d v) (hl:rest.length=vs.length) (hd: ∀(i:Nat) d v,rest[i]? =some d→DR w S d v→vs[i]? =some v):args=vs.toArray:=by
 apply Array.ext
 · rw[hsz];simp
 · intro i h1 h2
   have hi:i<rest.length:=by rw[hl,← hsz];exact h1
   have h3:=hd i rest[i] args[i] (aSn hi) (h i rest[i] args[i] (aSn hi) (Array.getElem?_eq_getElem h1))
   rw[List.getElem_toArray]
   rw[aSn (by simpa using h2)] at h3
   exact(Option.some.inj h3).symm
theorem me (n:Nat) (s:List UInt8): (Lib.splitB ⟨#[32]⟩ 0 n ⟨s.toArray⟩).map (·.data.toList)=gW n s:=by
 rw[Lib.splitB_data];exact xe n s
theorem xf {n:Nat} {s:List UInt8} {i:Nat} {x:List UInt8} (h: (gW n s)[i]? =some x): ((Lib.splitB ⟨#[32]⟩ 0 n ⟨s.toArray⟩).map Value.string)[i]? =some (.string ⟨x.toArray⟩):=by
 rw[← me,List.getElem?_map] at h
 rw[List.getElem?_map]
 cases hq: (Lib.splitB ⟨#[32]⟩ 0 n ⟨s.toArray⟩)[i]? with
 |none=>rw[hq] at h;cases h
 |some b=>rw[hq] at h;cases h;rfl
theorem aEx (n:Nat) (s:List UInt8): (Lib.splitB ⟨#[32]⟩ 0 n ⟨s.toArray⟩).length=(gW n s).length:=by rw[← me,List.length_map]
theorem aEy {P:Program} {f:FuncId} {e:TypeId} (hc:da P f) (s:List UInt8) (hs:s.length≤1000000)
 (h: ∀(w:World),aG5 P w→Calls P f #[.string ⟨s.toArray⟩,.string ⟨#[32]⟩] w fun ex w'=>ex= .returned (.slice (some ⟨w.heap.size,0,none⟩) (Lib.count s [32]+1) (Lib.count s [32]+1))∧w'=w.alloc (.cells ((Lib.splitB ⟨#[32]⟩ 0 (Lib.count s [32]) ⟨s.toArray⟩).map Value.string).toArray e)):
 Spec P f 2 [(.t 0,.v (Dv (.s s))),(.t 1,.v (Dv (.s [32])))] [(.t 0,.v (Dv (.sl (bL (cV s)))))]:=by
 refine fu (ds:=[.s s,.s [32]]) hc fun S w args hg hsz ha=> ?_
 obtain rfl:args= #[.string ⟨s.toArray⟩,.string ⟨#[32]⟩]:=by
  refine aOn (s:=s) (vs:=[.string ⟨s.toArray⟩,.string ⟨#[32]⟩]) hsz ha rfl fun i d v hi hd=> ?_
  match i,hi with
  |0,hi=>cases hi;rw[hd.s_inv];rfl
  |1,hi=>cases hi;rw[hd.s_inv];rfl
  |k+2,hi=>simp at hi
 refine mF (fun ex w'=> ?_) (h w hg)
 rintro⟨rfl,rfl⟩
 have hl: (cV s).length=Lib.count s [32]+1:=py _ s rfl
 have hcl:=Lib.count_le s [32]
 refine⟨_,fun b=>b=w.heap.size,rfl,by rw[alloc_eq_grow];exact ze w _,fun σ ι=> ?_,fun b hb=> ?_⟩
 · have:=aGs w (cV s) ((Lib.splitB ⟨#[32]⟩ 0 (Lib.count s [32]) ⟨s.toArray⟩).map Value.string).toArray e (Lib.count s [32]+1) (by omega) (by unfold maxLen;omega) fun i x hx=>by
    rw[List.getElem?_toArray];exact xf hx
   rw[hl] at this
   exact this
 · subst hb
   refine⟨aSo _,?_⟩
   rw[alloc_eq_grow];simp[grow]
theorem aB2 {P:Program} {f:FuncId} {e:TypeId} (hc:da P f) (n:Nat) (s:List UInt8) (hs:s.length≤1000000) (hn:n≤1000)
 (h: ∀(w:World),aG5 P w→Calls P f #[.string ⟨s.toArray⟩,.string ⟨#[32]⟩,.int .i64 ((n+1:Nat):Int)] w fun ex w'=>ex= .returned (.slice (some ⟨w.heap.size,0,none⟩) (Lib.splitB ⟨#[32]⟩ 0 (min (n+1) (s.length+1) - 1) ⟨s.toArray⟩).length (min (n+1) (s.length+1)))∧w'=w.alloc (.cells (Lib.cellsOf (Lib.splitB ⟨#[32]⟩ 0 (min (n+1) (s.length+1) - 1) ⟨s.toArray⟩) (min (n+1) (s.length+1))) e)):
 Spec P f 3 [(.t 0,.v (Dv (.s s))),(.t 1,.v (Dv (.s [32]))),(.t 2,.v (I ((n+1:Nat):Int)))] [(.t 0,.v (Dv (.sl (bL (gW n s)))))]:=by
 refine fu (ds:=[.s s,.s [32],.i ((n+1:Nat):Int)]) hc fun S w args hg hsz ha=> ?_
 obtain rfl:args= #[.string ⟨s.toArray⟩,.string ⟨#[32]⟩,.int .i64 ((n+1:Nat):Int)]:=by
  refine aOn (s:=s) (vs:=[.string ⟨s.toArray⟩,.string ⟨#[32]⟩,.int .i64 ((n+1:Nat):Int)]) hsz ha rfl fun i d v hi hd=> ?_
  match i,hi with
  |0,hi=>cases hi;rw[hd.s_inv];rfl
  |1,hi=>cases hi;rw[hd.s_inv];rfl
  |2,hi=>cases hi;rw[hd.i_inv];rfl
  |k+3,hi=>simp at hi
 refine mF (fun ex w'=> ?_) (h w hg)
 rintro⟨rfl,rfl⟩
 have hcl:=pz (min (n+1) (s.length+1) - 1) s
 refine⟨_,fun b=>b=w.heap.size,rfl,by rw[alloc_eq_grow];exact ze w _,fun σ ι=> ?_,fun b hb=> ?_⟩
 · have:=aGs w (gW (min (n+1) (s.length+1) - 1) s) (Lib.cellsOf (Lib.splitB ⟨#[32]⟩ 0 (min (n+1) (s.length+1) - 1) ⟨s.toArray⟩) (min (n+1) (s.length+1))) e (min (n+1) (s.length+1)) (by omega) (by unfold maxLen;omega) fun i x hx=>by
    have h1:=xf hx
    unfold Lib.cellsOf
    rw[List.getElem?_toArray,List.getElem?_append_left (aSm.1 h1).1]
    exact h1
   rw[← aEx,aKx] at this
   exact this
 · subst hb
   refine⟨aSo _,?_⟩
   rw[alloc_eq_grow];simp[grow]
set_option linter.unusedVariables false
set_option linter.unusedSimpArgs false
def kC (n:bB):List UInt8:=jQ n.frm.toNat++[32]++jQ n.num.toNat++[32]++jQ n.to.toNat++[32]++jQ n.til.toNat++[32]++n.text
def gJ (n:bB):List UInt8:=if eZ n then kC n else []
def lH:Nat→List UInt8→List UInt8
 |0,s=>s
 |n+1,s=>aN (lH n s)
def dG (s:List UInt8) (i:Nat):Int:=fS (bA (lH i s))
def eM (n:Nat) (s:List UInt8):List Int:=(aSp n).map (dG s)
theorem bG (n:Nat) (s:List UInt8): (eM n s).length=n:=by simp[eM]
theorem aEz (n:Nat) (s:List UInt8):eM (n+1) s=eM n s++[dG s n]:=by simp[eM,List.range_succ]
theorem sW (s:List UInt8): (aN s).length≤s.length:=by
 cases h:fH s with
 |true=>exact Nat.le_of_lt (jy h)
 |false=>rw[((fI s).2 h).2.2];exact aSj _
theorem qa (n:Nat) (s:List UInt8): (lH n s).length≤s.length:=by
 induction n with
 |zero=>exact aSo _
 |succ n ih=>exact Nat.le_trans (sW _) ih
theorem bc (s:List UInt8): (bA s).length≤s.length:=by
 cases h:fH s with
 |true=>exact Nat.le_of_lt ((fI s).1 h).2.2.2
 |false=>rw[((fI s).2 h).2.1];exact aSo _
def gR (l:List (List UInt8)):Bool:=l.all fun w=>(kI w).isSome
def jT (l:List (List UInt8)):List Int:=if gR l then l.map kJ else []
def zL (t:List UInt8):bB:=⟨dG t 0,dG t 1,dG t 2,dG t 3,lH 4 t⟩
def dR (t:List UInt8):bB×Bool:=if t=[]∨gJ (zL t)≠t then(.zero,false) else(zL t,true)
def nO (t:List UInt8):bB:=⟨kJ ((gW 4 t).getD 0 []),kJ ((gW 4 t).getD 1 []),kJ ((gW 4 t).getD 2 []),kJ ((gW 4 t).getD 3 []),(gW 4 t).getD 4 []⟩
def mf (t:List UInt8):bB×Bool:=if(gW 4 t).length≠5∨gR ((gW 4 t).take 4)=false∨eZ (nO t)=false∨gJ (nO t)≠t then(.zero,false) else(nO t,true)
theorem pB {w r:List UInt8} (h: ∀b∈w,b≠32):bA (w++32::r)=w∧aN (w++32::r)=r∧fH (w++32::r)=true:=by
 induction w with
 |nil=>exact⟨by simp[bA],by simp[aN],by simp[fH]⟩
 |cons b w ih=>
  have hb:b≠32:=h b (List.mem_cons_self ..)
  obtain⟨h1,h2,h3⟩:=ih fun x hx=>h x (List.mem_cons_of_mem _ hx)
  refine⟨?_,?_,?_⟩
  · rw[List.cons_append]
    have:bA (b::(w++32::r))=b::bA (w++32::r):=by simp[bA,hb]
    rw[this,h1]
  · rw[List.cons_append]
    have:aN (b::(w++32::r))=aN (w++32::r):=by simp[aN,hb]
    rw[this,h2]
  · simp[fH]
theorem tQ (n:Nat): ∀b∈jQ n,b≠32:=by
 intro b hb e
 have:=dk n b hb
 subst e
 exact absurd this (by decide)
theorem cA {k:Nat}: ∀{n:Nat},n<10 ^ (k+1)→(jQ n).length≤k+1:=by
 induction k with
 |zero=>
  intro n h
  rw[lO (by simpa using h)];simp
 |succ k ih=>
  intro n h
  by_cases hs:n<10
  · rw[lO hs];simp
  · rw[sI (by omega),aSe]
    have:=ih (n:=n / 10) (by rw[Nat.pow_succ] at h;omega)
    simp;omega
theorem pC {n:Nat} (h:n<100000):kI (jQ n)=some n:=by
 have hl: (jQ n).length≤5:=cA (k:=4) (by simpa using h)
 have h1:1≤(jQ n).length:=List.length_pos_iff.2 (aEv n)
 have hd:zI (jQ n)=true:=aSu.2 (dk n)
 unfold kI
 rw[if_pos ⟨⟨h1,hl⟩,(uL h1 hd).1 (by rw[fq]),hd⟩,fq]
theorem tR {n:Nat} (h:n<10000):fS (jQ n)=n:=by
 have hl: (jQ n).length≤4:=cA (k:=3) (by simpa using h)
 have h1:1≤(jQ n).length:=List.length_pos_iff.2 (aEv n)
 unfold fS
 rw[if_pos ⟨⟨h1,hl⟩,aSu.2 (dk n),by rw[fq]⟩,fq]
theorem mZ {n:bB} (h:eZ n=true): (0≤n.frm∧n.frm≤3)∧(0≤n.to∧n.to≤3)∧(1≤n.num∧n.num≤99)∧(1≤n.til∧n.til≤999)∧(1≤n.text.length∧n.text.length≤24):=by
 simp only[eZ,eB,gX,vF,aSg,decide_eq_true_eq] at h
 omega
theorem dl (n:bB):kC n=jQ n.frm.toNat++32::(jQ n.num.toNat++32::(jQ n.to.toNat++32::(jQ n.til.toNat++32::n.text))):=by simp[kC]
theorem xg {n:bB} (h:eZ n=true):zL (kC n)=n∧(gW 4 (kC n)).length=5∧gR ((gW 4 (kC n)).take 4)=true∧nO (kC n)=n:=by
 obtain⟨p1,p2,p3,p4,p5⟩:=mZ h
 obtain⟨a1,a2,a3⟩:=pB (r:=jQ n.num.toNat++32::(jQ n.to.toNat++32::(jQ n.til.toNat++32::n.text))) (tQ n.frm.toNat)
 obtain⟨b1,b2,b3⟩:=pB (r:=jQ n.to.toNat++32::(jQ n.til.toNat++32::n.text)) (tQ n.num.toNat)
 obtain⟨c1,c2,c3⟩:=pB (r:=jQ n.til.toNat++32::n.text) (tQ n.to.toNat)
 obtain⟨d1,d2,d3⟩:=pB (r:=n.text) (tQ n.til.toNat)
 have hc:gW 4 (kC n)=[jQ n.frm.toNat,jQ n.num.toNat,jQ n.to.toNat,jQ n.til.toNat,n.text]:=by
  rw[dl]
  simp only[gW,a1,a2,a3,b1,b2,b3,c1,c2,c3,d1,d2,d3,if_true]
 have e: ∀{x:Int},0≤x→((x.toNat:Nat):Int)=x:=fun h=>by omega
 have v1:fS (jQ n.frm.toNat)=n.frm:=by rw[tR (by omega),e (by omega)]
 have v2:fS (jQ n.num.toNat)=n.num:=by rw[tR (by omega),e (by omega)]
 have v3:fS (jQ n.to.toNat)=n.to:=by rw[tR (by omega),e (by omega)]
 have v4:fS (jQ n.til.toNat)=n.til:=by rw[tR (by omega),e (by omega)]
 have w1:kI (jQ n.frm.toNat)=some n.frm.toNat:=pC (by omega)
 have w2:kI (jQ n.num.toNat)=some n.num.toNat:=pC (by omega)
 have w3:kI (jQ n.to.toNat)=some n.to.toNat:=pC (by omega)
 have w4:kI (jQ n.til.toNat)=some n.til.toNat:=pC (by omega)
 have u1:kJ (jQ n.frm.toNat)=n.frm:=by rw[kJ,w1];exact e (by omega)
 have u2:kJ (jQ n.num.toNat)=n.num:=by rw[kJ,w2];exact e (by omega)
 have u3:kJ (jQ n.to.toNat)=n.to:=by rw[kJ,w3];exact e (by omega)
 have u4:kJ (jQ n.til.toNat)=n.til:=by rw[kJ,w4];exact e (by omega)
 refine⟨?_,by rw[hc];rfl,?_,?_⟩
 · rw[dl]
   simp only[zL,dG,lH,a1,a2,b1,b2,c1,c2,d1,d2,v1,v2,v3,v4]
 · rw[hc]
   simp[gR,w1,w2,w3,w4]
 · simp only[nO,hc,List.getD_cons_zero,List.getD_cons_succ,u1,u2,u3,u4]
theorem aM6 (n:bB):kC n≠[]:=by
 rw[dl];simp
theorem aH1 (t:List UInt8) (x:bB) (h:eZ x=true) (e:kC x=t):dR t=(x,true):=by
 subst e
 unfold dR
 rw[(xg h).1,if_neg]
 rintro(h1|h1)
 · exact aM6 x h1
 · exact h1 (if_pos h)
theorem aH2 (t:List UInt8) (x:bB) (h:eZ x=true) (e:kC x=t):mf t=(x,true):=by
 subst e
 obtain⟨h1,h2,h3,h4⟩:=xg h
 unfold mf
 rw[h4,if_neg]
 rintro(h5|h5|h5|h5)
 · exact h5 h2
 · rw[h3] at h5;cases h5
 · rw[h] at h5;cases h5
 · exact h5 (if_pos h)
theorem aM7 (t:List UInt8): (∃x,eZ x=true∧kC x=t∧dR t=(x,true)∧mf t=(x,true))∨(dR t=(.zero,false)∧mf t=(.zero,false)):=by
 by_cases h: ∃x,eZ x=true∧kC x=t
 · obtain⟨x,h1,h2⟩:=h
   exact .inl ⟨x,h1,h2,aH1 t x h1 h2,aH2 t x h1 h2⟩
 · refine .inr ⟨?_,?_⟩
   · unfold dR
     rw[if_pos]
     by_cases h1:t=[]
     · exact .inl h1
     · refine .inr fun h2=> ?_
       unfold gJ at h2
       split at h2
       · rename_i h3;exact h ⟨_,h3,h2⟩
       · exact h1 h2.symm
   · unfold mf
     rw[if_pos]
     by_cases h1:eZ (nO t)=true
     · refine .inr (.inr (.inr fun h2=> ?_))
       rw[gJ,if_pos h1] at h2
       exact h ⟨_,h1,h2⟩
     · exact .inr (.inr (.inl (by simpa using h1)))
theorem aB3 (t:List UInt8):mf t=dR t:=by
 rcases aM7 t with⟨x,_,_,h1,h2⟩|⟨h1,h2⟩<;>rw[h1,h2]
set_option linter.unusedVariables false
set_option linter.unusedSimpArgs false
theorem aKy {s:List UInt8} {i:Nat} (hk: ∀j,j<i→s.getD j 0≠32) (hi:i<s.length) (h:s.getD i 0=32):bA s=s.take i∧aN s=s.drop (i+1)∧fH s=true:=by
 have e:s=s.take i++32::s.drop (i+1):=by
  rw[← h,aSl,aSn hi]
  show s=List.take i s++s[i]::List.drop (i+1) s
  rw[← List.drop_eq_getElem_cons hi,List.take_append_drop]
 have hw: ∀b∈s.take i,b≠32:=by
  intro b hb
  obtain⟨j,hj⟩:=List.mem_iff_getElem?.1 hb
  have hlt:j<i:=by
   have:=(aSm.1 hj).1
   rw[aSk] at this;omega
  rw[List.getElem?_take_of_lt hlt] at hj
  have:=hk j hlt
  rw[aSl,hj] at this
  exact this
 obtain⟨h1,h2,h3⟩:=pB (r:=s.drop (i+1)) hw
 rw[← e] at h1 h2 h3
 exact⟨h1,h2,h3⟩
theorem aH3 {s:List UInt8} (hk: ∀j,j<s.length→s.getD j 0≠32):bA s=s∧aN s=[]∧fH s=false:=by
 have hn:fH s=false:=by
  unfold fH
  rw[List.any_eq_false]
  intro b hb
  obtain⟨j,hj⟩:=List.mem_iff_getElem?.1 hb
  have:=hk j (aSm.1 hj).1
  rw[aSl,hj] at this
  simpa using this
 obtain⟨q1,q2,q3⟩:=(fI s).2 hn
 exact⟨q2,q3,hn⟩
theorem aH4 {l:List (List UInt8)} {i:Nat} (hi:i<l.length) (h: (kI (l.getD i [])).isSome=false):gR l=false:=by
 unfold gR
 rw[List.all_eq_false]
 refine⟨l.getD i [],?_,by rw[h];decide⟩
 rw[aSl,aSn hi]
 exact List.getElem_mem _
theorem aE0 {l:List (List UInt8)} (h: ∀i,i<l.length→(kI (l.getD i [])).isSome=true):gR l=true:=by
 unfold gR
 rw[aSu]
 intro x hx
 obtain⟨j,hj⟩:=List.mem_iff_getElem?.1 hx
 have:=h j (aSm.1 hj).1
 rw[aSl,hj] at this
 exact this
theorem ua {l:List (List UInt8)} {i:Nat} (h:i<l.length): (l.take (i+1)).map kJ=(l.take i).map kJ++[kJ (l.getD i [])]:=by
 rw[List.take_add_one,aSn h,aSl,aSn h,List.map_append]
 rfl
def fv (n:Int):List UInt8:=if n<0 then 45::jQ (-n).toNat else jQ n.toNat
theorem dU {α:Type} {l:List α} {i:Nat} {z:α} (h:i<l.length):l.getD i z∈l:=by
 rw[aSl,aSn h]
 exact List.getElem_mem _
set_option linter.unusedVariables false
set_option linter.unusedSimpArgs false
theorem fw: ∀(n:Nat) (s:List UInt8),∀x∈gW n s,x.length≤s.length
 |0,s,x,h=>by
  rw[aSs.1 h];exact aSo _
 |n+1,s,x,h=>by
  unfold gW at h
  by_cases hs:fH s=true
  · rw[if_pos hs] at h
    rcases aSw.1 h with rfl|h
    · exact bc s
    · exact Nat.le_trans (fw n _ x h) (sW s)
  · rw[if_neg hs] at h
    rw[aSs.1 h];exact aSo _
theorem bd {α:Type} {l:List α} {n i:Nat} {z:α} (h:i<n): (l.take n).getD i z=l.getD i z:=by
 rw[aSl,List.getElem?_take_of_lt h,← aSl]
theorem gK {l:List (List UInt8)} (h:gR l=true): (jT l).length=l.length:=by rw[jT,if_pos h,List.length_map]
theorem aB4 {l:List (List UInt8)} (h:gR l=true) {i:Nat} (hi:i<l.length): (jT l).getD i 0=kJ (l.getD i []):=by
 rw[jT,if_pos h,aSl,List.getElem?_map,aSn hi,aSl,aSn hi]
 rfl
theorem gS {l:List Int} {i:Nat} (h:i<l.length): (cR l).getD (i:Int).toNat []=[.i (l.getD i 0)]:=by
 rw[aSd,dF h]
theorem zf (l:List (List UInt8)) (n:Nat): (bL l).take n=bL (l.take n):=by simp[bL,List.map_take]
theorem aB5 {n:Nat} {s:List UInt8} {i:Nat} (h:i<n): (eM n s).getD i 0=dG s i:=by
 unfold eM
 rw[aSl,List.getElem?_map,List.getElem?_range h]
 rfl
theorem qb {t:List UInt8} (h: (gW 4 t).length≠5∨gR ((gW 4 t).take 4)=false∨eZ (nO t)=false∨gJ (nO t)≠t):dR t=(.zero,false):=by
 rw[← aB3,mf,if_pos h]
theorem aH5 {t:List UInt8} (h1: (gW 4 t).length=5) (h2:gR ((gW 4 t).take 4)=true) (h3:eZ (nO t)=true) (h4:gJ (nO t)=t):dR t=(nO t,true):=by
 rw[← aB3,mf,if_neg]
 rintro(h|h|h|h)
 · exact h h1
 · rw[h2] at h;cases h
 · rw[h3] at h;cases h
 · exact h h4
theorem zg {l:List (List UInt8)} (h:gR (l.take 4)=true) (h5:l.length=5) {i:Nat} (hi:i<4):dc (((cR (jT (l.take 4))).getD i []).getD 0 (.i 0))=kJ (l.getD i []):=by
 have hl:i< (l.take 4).length:=by rw[aSk];omega
 rw[dF (by rw[gK h];exact hl)]
 show(jT (l.take 4)).getD i 0=_
 rw[aB4 h hl,bd hi]
theorem np {s:List UInt8} {i:Nat} (hi:i<4):dc (((cR (eM 4 s)).getD i []).getD 0 (.i 0))=dG s i:=by
 rw[dF (by rw[bG];exact hi)]
 exact aB5 hi
set_option linter.unusedVariables false
set_option linter.unusedSimpArgs false
def aR.zero:aR:=⟨0,0,0,[],[],[]⟩
def aY (id:Int):aR:=if eB id then⟨id,0,1,[],[],[]⟩ else .zero
def nG (l:List bB) (n:bB):List bB:=l.takeWhile (fun x=>cG x.frm x.num n.frm n.num)++n::l.dropWhile (fun x=>cG x.frm x.num n.frm n.num)
def rU (l:List bZ) (n:bZ):List bZ:=l.takeWhile (fun x=>cG x.frm x.num n.frm n.num)++n::l.dropWhile (fun x=>cG x.frm x.num n.frm n.num)
def iX (l:List bB) (n:bB):List bB:=l.takeWhile (fun x=> !cG n.frm n.num x.frm x.num)++n::l.dropWhile (fun x=> !cG n.frm n.num x.frm x.num)
def nA (l:List bZ) (n:bZ):List bZ:=l.takeWhile (fun x=> !cG n.frm n.num x.frm x.num)++n::l.dropWhile (fun x=> !cG n.frm n.num x.frm x.num)
def gL {α:Type} (l:List α) (i:Nat):List α:=l.take i++l.drop (i+1)
def jP (k:aR) (t:Int):aR:={k with time:=t,held:=k.held.filter (fun n=>decide (t<n.til)),marks:=k.marks.filter (fun n=>decide (t<n.til))}
def fy (k:aR) (n:bB):Bool:=eZ n&&decide (k.time<n.til)&&decide (aX k.held n.frm n.num<0)&&decide (aX k.inbox n.frm n.num<0)&&decide (jI k.marks n.frm n.num<0)
def hP (k:aR) (n:bB):aR×Bool:=
 if fy k n&&decide ((k.held.length:Int)+k.marks.length+1≤12) then
  (if n.to==k.id then{k with inbox:=nG k.inbox n,marks:=rU k.marks ⟨n.frm,n.num,n.til⟩} else{k with held:=nG k.held n},true)
 else(k,false)
def iS:List UInt8:=[116,105,109,101]
def kD:List UInt8:=[110,101,120,116]
def jU:List UInt8:=[111,119,110]
def fQ:List UInt8:=[116,97,107,101]
def gY:List UInt8:=[104,101,108,100]
def fT:List UInt8:=[105,110,98,111,120]
def nH:List UInt8:=[108,101,116]
def lY:List UInt8:=[101,97,116]
def iC:List UInt8:=[109,97,114,107]
def kP (k:aR) (w:List UInt8) (n:Int):aR×Bool:=
 if w==iS&&decide (k.time<n) then(jP k n,true)
 else if w==kD&&decide (k.next<n) then({k with next:=n},true)
 else(k,false)
def fN (k:aR) (w:List UInt8) (n:bB):aR×Bool:=
 if w==jU&&n.frm==k.id&&n.num==k.next then hP {k with next:=wrap64 (k.next+1)} n
 else if w==fQ&&n.frm != k.id then hP k n
 else if decide (0≤aX k.held n.frm n.num)||decide (0≤aX k.inbox n.frm n.num) then(k,false)
 else if w==gY then({k with held:=nG k.held n},true)
 else if w==fT then({k with inbox:=nG k.inbox n},true)
 else(k,false)
def hZ (k:aR) (w:List UInt8) (m:bZ):aR×Bool:=
 if w==nH&&decide (0≤aX k.held m.frm m.num)&&(k.held.getD (aX k.held m.frm m.num).toNat .zero).til==m.til then
  ({k with held:=gL k.held (aX k.held m.frm m.num).toNat,marks:=rU k.marks m},true)
 else if w==lY&&decide (0≤aX k.inbox m.frm m.num)&&(k.inbox.getD (aX k.inbox m.frm m.num).toNat .zero).til==m.til then
  ({k with inbox:=gL k.inbox (aX k.inbox m.frm m.num).toNat},true)
 else if w==iC&&decide (jI k.marks m.frm m.num<0) then({k with marks:=rU k.marks m},true)
 else(k,false)
def three (l:List (List UInt8)):bZ:=⟨kJ (l.getD 0 []),kJ (l.getD 1 []),kJ (l.getD 2 [])⟩
def fA (k:aR) (rec:List UInt8):aR×Bool:=
 if fH rec then
  if bA rec==iS||bA rec==kD then(if(kI (aN rec)).isSome then kP k (bA rec) (kJ (aN rec)) else(k,false))
  else if bA rec==jU||bA rec==fQ||bA rec==gY||bA rec==fT then(if(dR (aN rec)).2 then fN k (bA rec) (dR (aN rec)).1 else(k,false))
  else if bA rec==nH||bA rec==lY||bA rec==iC then(if gR (cV (aN rec))&&(cV (aN rec)).length==3 then hZ k (bA rec) (three (cV (aN rec))) else(k,false))
  else(k,false)
 else(k,false)
def kY (k:aR) (x:aR×Bool):aR×Bool:=if x.2&&dS x.1 then(x.1,true) else(k,false)
def bY (k:aR) (rec:List UInt8):aR×Bool:=if dS k then kY k (fA k rec) else(.zero,false)
def dm (k:aR) (n:bB):Bool:=eZ n&&decide (k.time<n.til)&&decide (aX k.held n.frm n.num<0)&&decide (jI k.marks n.frm n.num<0)&&decide (aX k.inbox n.frm n.num<0)
def lI (k:aR) (n:bB):aR×Bool:=
 if dm k n then
  if n.to != k.id then({k with held:=iX k.held n},decide (((iX k.held n).length:Int)+k.marks.length≤12))
  else({k with inbox:=iX k.inbox n,marks:=nA k.marks ⟨n.frm,n.num,n.til⟩},decide ((k.held.length:Int)+(nA k.marks ⟨n.frm,n.num,n.til⟩).length≤12))
 else(k,false)
def ga (k:aR) (f m:Int):aR×Bool:=
 if 0≤aX k.held f m then({k with held:=gL k.held (aX k.held f m).toNat,marks:=nA k.marks ⟨f,m,(k.held.getD (aX k.held f m).toNat .zero).til⟩},true) else(k,false)
def gc (k:aR) (f m:Int):aR×Bool:=
 if 0≤aX k.inbox f m then({k with inbox:=gL k.inbox (aX k.inbox f m).toNat},true) else(k,false)
def gD (r:List UInt8):bZ:=⟨dG r 0,dG r 1,dG r 2⟩
def bz (m:bZ):List UInt8:=fv m.frm++[32]++fv m.num++[32]++fv m.til
def fJ (k:aR) (rec:List UInt8):aR×Bool:=
 if bA rec==iS then(if fS (aN rec)≤k.time then(k,false) else(jP k (fS (aN rec)),true))
 else if bA rec==jU then
  (if !(dR (aN rec)).2||(dR (aN rec)).1.frm != k.id||(dR (aN rec)).1.num != k.next then(k,false) else lI {k with next:=wrap64 (k.next+1)} (dR (aN rec)).1)
 else if bA rec==fQ then(if !(dR (aN rec)).2||(dR (aN rec)).1.frm==k.id then(k,false) else lI k (dR (aN rec)).1)
 else if bA rec==kD then(if fS (aN rec)≤k.next then(k,false) else({k with next:=fS (aN rec)},true))
 else if bA rec==gY||bA rec==fT then
  (if !(dR (aN rec)).2||decide (aX k.held (dR (aN rec)).1.frm (dR (aN rec)).1.num≥0)||decide (aX k.inbox (dR (aN rec)).1.frm (dR (aN rec)).1.num≥0) then(k,false)
   else if bA rec==gY then({k with held:=iX k.held (dR (aN rec)).1},true) else({k with inbox:=iX k.inbox (dR (aN rec)).1},true))
 else if !(lH 3 (aN rec)==[])|| !(aN rec==bz (gD (aN rec))) then(k,false)
 else if bA rec==nH then
  (if decide (aX k.held (gD (aN rec)).frm (gD (aN rec)).num<0)||(k.held.getD (aX k.held (gD (aN rec)).frm (gD (aN rec)).num).toNat .zero).til != (gD (aN rec)).til then(k,false)
   else ga k (gD (aN rec)).frm (gD (aN rec)).num)
 else if bA rec==lY then
  (if decide (aX k.inbox (gD (aN rec)).frm (gD (aN rec)).num<0)||(k.inbox.getD (aX k.inbox (gD (aN rec)).frm (gD (aN rec)).num).toNat .zero).til != (gD (aN rec)).til then(k,false)
   else gc k (gD (aN rec)).frm (gD (aN rec)).num)
 else if bA rec==iC then(if jI k.marks (gD (aN rec)).frm (gD (aN rec)).num≥0 then(k,false) else({k with marks:=nA k.marks (gD (aN rec))},true))
 else(k,false)
def gH (k:aR) (rec:List UInt8):aR×Bool:=if dS k then kY k (fJ k rec) else(.zero,false)
def nI:aR→List (List UInt8)→aR×Bool
 |k,[]=>(k,true)
 |k,r::rs=>if(bY k r).2 then nI (bY k r).1 rs else(.zero,false)
def gT (id:Int) (recs:List (List UInt8)):aR×Bool:=if eB id then nI (aY id) recs else(.zero,false)
set_option linter.unusedVariables false
set_option linter.unusedSimpArgs false
section
variable {α:Type} {l:List α} {z:α} {i:Nat}
theorem fU (h:i<l.length):l.take (i+1)=l.take i++[l.getD i z]:=by
 rw[List.take_add_one,aSn h,aSl,aSn h]
 rfl
theorem zh {p:α→Bool} (hi:i≤l.length) (hk: ∀j,j<i→p (l.getD j z)=true) (h:i=l.length∨p (l.getD i z)=false):l.takeWhile p=l.take i∧l.dropWhile p=l.drop i:=by
 induction l generalizing i with
 |nil=>simp at hi;subst hi;simp
 |cons x l ih=>
  cases i with
  |zero=>
   have hx:p x=false:=by
    rcases h with h|h
    · simp at h
    · simpa using h
   simp[List.takeWhile,List.dropWhile,hx]
  |succ i=>
   have hx:p x=true:=by simpa using hk 0 (by omega)
   obtain⟨h1,h2⟩:=ih (i:=i) (by simpa using hi) (fun j hj=>by simpa using hk (j+1) (by omega)) (by
    rcases h with h|h
    · left;simpa using h
    · right;simpa using h)
   simp[List.takeWhile,List.dropWhile,hx,h1,h2]
def rV (p:α→Bool) (n:α) (l:List α):List α:=l.takeWhile p++n::l.dropWhile p
theorem aGt {p:α→Bool} {n:α} (hi:i≤l.length) (hk: ∀j,j<i→p (l.getD j z)=true) (h:i=l.length∨p (l.getD i z)=false):rV p n l=l.take i++n::l.drop i:=by
 obtain⟨h1,h2⟩:=zh hi hk h
 rw[rV,h1,h2]
theorem fC {p:α→Bool} {n:α}: (rV p n l).length=l.length+1:=by
 have h:=congrArg List.length (List.takeWhile_append_dropWhile (p:=p) (l:=l))
 rw[aSe] at h
 rw[rV,aSe,aSi];omega
theorem vY {p:α→Bool} {n x:α}:x∈rV p n l↔x=n∨x∈l:=by
 have h:x∈l↔x∈l.takeWhile p∨x∈l.dropWhile p:=by
  conv=>lhs;rw[← List.takeWhile_append_dropWhile (p:=p) (l:=l)]
  exact List.mem_append
 rw[rV,List.mem_append,aSw,h]
 constructor
 · rintro(h|h|h)
   · exact .inr (.inl h)
   · exact .inl h
   · exact .inr (.inr h)
 · rintro(h|h|h)
   · exact .inr (.inl h)
   · exact .inl h
   · exact .inr (.inr h)
def midW (q:α→Bool) (n:α) (l:List α):List α:=if l.any q then rV (fun x=> !q x) n l else l
theorem aH6 {q:α→Bool} {n x:α} (h:l.any q=true):rV (fun x=> !q x) n (l++[x])=rV (fun x=> !q x) n l++[x]:=by
 induction l with
 |nil=>simp at h
 |cons y l ih=>
  by_cases hy:q y=true
  · simp[rV,hy]
  · have hy':q y=false:=by simpa using hy
    have h2:l.any q=true:=by simpa[hy'] using h
    have:=ih h2
    simp only[rV] at this ⊢
    simp[hy',this]
theorem aH7 {q:α→Bool} {n:α} (h:l.any q=false):rV (fun x=> !q x) n l=l++[n]:=by
 induction l with
 |nil=>simp[rV]
 |cons y l ih=>
  have hy:q y=false:=by
   cases hq:q y with
   |false=>rfl
   |true=>simp[hq] at h
  have h2:l.any q=false:=by simpa[hy] using h
  have:=ih h2
  simp only[rV] at this ⊢
  simp[hy,this]
theorem aB6 {q:α→Bool} {n x:α} (h:l.any q=false) (hx:q x=true):midW q n (l++[x])=midW q n l++[n]++[x]:=by
 have e1: (l++[x]).any q=true:=by simp[hx]
 have e2:midW q n l=l:=by rw[midW,h];rfl
 rw[e2,midW,if_pos e1]
 induction l with
 |nil=>simp[rV,hx]
 |cons y l ih=>
  have hy:q y=false:=by
   cases hq:q y with
   |false=>rfl
   |true=>simp[hq] at h
  have h2:l.any q=false:=by simpa[hy] using h
  have:=ih h2 (by simp[hx]) (by rw[midW,h2];rfl)
  simp only[rV] at this ⊢
  simp[hy] at this ⊢
  exact this
theorem aGu {q:α→Bool} {n x:α} (h:l.any q=true∨q x=false):midW q n (l++[x])=midW q n l++[x]:=by
 cases ha:l.any q with
 |true=>
  have e1: (l++[x]).any q=true:=by rw[List.any_append,ha];rfl
  rw[midW,if_pos e1,midW,ha,if_pos rfl,aH6 ha]
 |false=>
  have hx:q x=false:=by
   rcases h with h|h
   · rw[ha] at h;cases h
   · exact h
  have e1: (l++[x]).any q=false:=by rw[List.any_append,ha];simp[hx]
  rw[midW,midW,e1,ha];rfl
theorem gd {q:α→Bool} {x:α}: (l++[x]).any q=(l.any q||q x):=by simp
theorem gf {q:α→Bool} {n:α}:rV (fun x=> !q x) n l=if l.any q then midW q n l else midW q n l++[n]:=by
 cases ha:l.any q with
 |true=>rw[if_pos rfl,midW,ha,if_pos rfl]
 |false=>rw[if_neg (by simp),midW,ha,aH7 ha];rfl
theorem mh {p:α→Bool} (h:i<l.length): (l.take (i+1)).filter p=(l.take i).filter p++(if p (l.getD i z) then [l.getD i z] else []):=by
 rw[fU (z:=z) h,List.filter_append]
 congr 1
 by_cases hp:p (l.getD i z)=true
 · rw[if_pos hp,List.filter_cons_of_pos hp];rfl
 · rw[if_neg hp,List.filter_cons_of_neg hp];rfl
theorem xB {p:α→Bool} (h:i<l.length) (hp:p (l.getD i z)=true): (l.take (i+1)).filter p=(l.take i).filter p++[l.getD i z]:=by
 rw[mh (z:=z) h,if_pos hp]
theorem be {p:α→Bool} (h:i<l.length) (hp:p (l.getD i z)=false): (l.take (i+1)).filter p=(l.take i).filter p:=by
 rw[mh (z:=z) h,hp];simp
theorem bf {x:α} (h:x∈gL l i):x∈l:=by
 rcases List.mem_append.1 h with h|h
 · exact List.mem_of_mem_take h
 · exact List.mem_of_mem_drop h
end
theorem bg (l:List bB) (n:bB):nG l n=rV (fun x=>cG x.frm x.num n.frm n.num) n l:=rfl
theorem jz (l:List bZ) (n:bZ):rU l n=rV (fun x=>cG x.frm x.num n.frm n.num) n l:=rfl
theorem xC (l:List bB) (n:bB):iX l n=rV (fun x=> !cG n.frm n.num x.frm x.num) n l:=rfl
theorem tS (l:List bZ) (n:bZ):nA l n=rV (fun x=> !cG n.frm n.num x.frm x.num) n l:=rfl
theorem bn {b:Bool} (h:b=false): ¬b=true:=by simp[h]
theorem qc {k:aR} {n:bB} {c:Bool} (hb:k.held.length≤100000∧k.marks.length≤100000∧k.inbox.length≤100000)
 (h: (!eZ n||decide (n.til≤k.time)||decide (aX k.held n.frm n.num≥0)||decide (aX k.inbox n.frm n.num≥0)||decide (jI k.marks n.frm n.num≥0)||decide (wrap64 (wrap64 ((aE k.held).length+(aL k.marks).length)+1)>12))=c):
 (fy k n&&decide ((k.held.length:Int)+k.marks.length+1≤12))= !c:=by
 subst h
 rw[aA,aB,aF (n:=(k.held.length:Int)+k.marks.length) (by omega),aF (by omega)]
 unfold fy
 simp only[xa,Bool.not_or,Bool.not_not,gt_iff_lt]
theorem fD (l:List bB) (f m:Int): -1≤aX l f m∧aX l f m<l.length:=by
 rcases jD (pA l f m) l.length 0 with h|⟨k,h,_,h2,_⟩<;>rw[aX,h]<;>omega
theorem xh {k:aR} {n:bB} (ha: (fy k n&&decide ((k.held.length:Int)+k.marks.length+1≤12))=true) (hto: (n.to==k.id)=true):hP k n=({k with inbox:=nG k.inbox n,marks:=rU k.marks ⟨n.frm,n.num,n.til⟩},true):=by
 unfold hP
 rw[if_pos ha,if_pos hto]
theorem xi {k:aR} {n:bB} (ha: (fy k n&&decide ((k.held.length:Int)+k.marks.length+1≤12))=true) (hto: (n.to==k.id)=false):hP k n=({k with held:=nG k.held n},true):=by
 unfold hP
 rw[if_pos ha,hto]
 rfl
theorem bP (l:List bB) (x:bB):aE l++[x.row]=aE (l++[x]):=by simp[aE]
theorem eW (l:List bZ) (x:bZ):aL l++[x.row]=aL (l++[x]):=by simp[aL]
theorem iY (l:List bB) (a b:Nat): ∀r∈((aE l).take a).drop b,r.length=5:=fun r hr=>eG l r (List.mem_of_mem_take (List.mem_of_mem_drop hr))
theorem xD (l:List bZ) (a b:Nat): ∀r∈((aL l).take a).drop b,r.length=3:=fun r hr=>gP l r (List.mem_of_mem_take (List.mem_of_mem_drop hr))
theorem tT (L:List (List D)) (i:Nat): (L.take (gF none L.length)).drop (fE (some (i:Int)))=L.drop i:=by
 simp[gF,fE]
theorem dn (L:List (List D)) (i n:Nat): (L.take (gF (some (i:Int)) n)).drop (fE none)=L.take i:=by
 simp[gF,fE]
theorem iL (n:Nat):gF none n=n:=by simp[gF]
theorem iM (i n:Nat):gF (some (i:Int)) n=i:=by simp[gF]
theorem iN:fE none=0:=rfl
theorem iO (i:Nat):fE (some (i:Int))=i:=by simp[fE]
section
variable {τ σ':St} {rl:List (Nat×Nat)} {bor:List Nat} {r:List (dD×K)}
theorem aQb {s:Nat} {xs ys:List E} (h:aS τ (.t s)=some (.v (.tup xs))) (e:mEs τ σ' rl bor xs ys) (hr:mL τ σ' rl bor r):mL τ σ' rl bor ((.t s,.v (.tup ys))::r):=⟨⟨_,h,e⟩,hr⟩
theorem aKz:mEs τ σ' rl bor [] []:=trivial
theorem aM8 {cs ds:List C} {xs ys:List E} (e:tk τ σ' rl bor cs ds) (h:mEs τ σ' rl bor xs ys):mEs τ σ' rl bor (.agg cs::xs) (.agg ds::ys):=⟨e,h⟩
theorem aR6 {x y:D} {xs ys:List E} (e:x=y) (h:mEs τ σ' rl bor xs ys):mEs τ σ' rl bor (.c (.d x)::xs) (.c (.d y)::ys):=⟨e,h⟩
end
theorem RW.nilBox {P:Program} {cx:Cx P} {σ:St} {ι:Nat→Value} {S:Nat→Prop} {a:Act} {w:World} (h:RW cx σ ι S a w) {b j q:Nat} {ty:TypeId} {cs:List C} (e:TypeId) (es:Nat) (hs:aS σ (.o b)=some (.box ty cs)) (hq:cs[q]? =some .nil) (hj:aS σ (.o j)=none):
 ∃ι',RW cx (oO (oO σ (.o j) (.row e es [])) (.o b) (.box ty (cs.set q (.own j 0)))) ι' S a w:=by
 have hblk: ∀b,wF (.slice none 0 0) b→some b=(none:Option Nat)∨w.heap.size≤b:=fun b hb=>by simp[wF] at hb
 have h1:=h.turn (id:=j) (old:=none) (k:= .row e es []) (p:= .slice none 0 0) (w':=w) ⟨rfl,rfl,rfl,aSo _,(fun _ _ _=>rfl),(fun b hb=>by cases hb),.inl hj,hblk,.inl ⟨rfl,rfl⟩⟩
 have hbj:b≠j:=fun e=>by subst e;rw[hj] at hs;cases hs
 have hs1:aS (oO σ (.o j) (.row e es [])) (.o b)=some (.box ty cs):=by rw[cI _ _ (by simpa using fun h=>hbj h.symm)];exact hs
 obtain⟨blk0,vs,hp,hh,hsz,hc⟩:=h1.vr.objs b _ hs1
 refine⟨_,h1.turn (id:=b) (old:=some blk0) (k:= .box ty (cs.set q (.own j 0))) (p:= .pointer (some ⟨blk0,0,none⟩)) (w':=w) ⟨rfl,rfl,rfl,aSo _,(fun _ _ _=>rfl),(fun b' hb'=> ?_),.inr ⟨_,hs1,?_⟩,(fun b' hb'=> ?_),?_⟩⟩
 · cases hb'
   refine⟨⟨_,hs1,trivial⟩,?_⟩
   show wF (if b=j then Value.slice none 0 0 else ι b) _
   rw[hp];rfl
 · show lZ (if b=j then Value.slice none 0 0 else ι b) _ _ _
   rw[hp];rfl
 · simp[wF] at hb';exact .inl (by rw[hb'])
 · refine⟨blk0,vs,rfl,hh,by rw[List.length_set];exact hsz,fun k c u hk hu=> ?_⟩
   have hjj:aS (oO (oO σ (.o j) (.row e es [])) (.o b) (.box ty (cs.set q (.own j 0)))) (.o j)=some (.row e es []):=by
    rw[cI _ _ (by simpa using hbj),cQ]
   by_cases hkq:k=q
   · subst hkq
     have hlt:k<cs.length:=(aSm.1 hq).1
     rw[List.getElem?_set_self hlt] at hk
     cases hk
     have hv:u= .slice none 0 0:=hc k .nil u hq hu
     subst hv
     refine⟨rfl,.inl ⟨e,es,[],hjj,aSo _,fun _=> ?_⟩⟩
     simp[hbj.symm]
   · rw[List.getElem?_set_ne (fun h=>hkq h.symm)] at hk
     refine CR.step ?_ (hc k c u hk hu)
     refine⟨fun _ h=>h,fun _ _=>rfl,fun o k0 ho=> ?_⟩
     by_cases eo:o=b
     · subst eo
       rw[hs1] at ho;cases ho
       refine⟨_,cQ _ _ _,?_⟩
       simp only[if_true]
       rw[hp]
       simp[lZ]
     · refine⟨k0,by rw[cI _ _ (by simpa using fun h=>eo h.symm)];exact ho,?_⟩
       simp only[if_neg eo]
       exact lZ.refl' _ _
theorem SW.nilBox {P:Program} {io:List Nat} {Q:Ex→St→Prop} {σ:St} {c:Code} (b j q:Nat) {ty:TypeId} {cs:List C} (e:TypeId) (es:Nat) (hs:aS σ (.o b)=some (.box ty cs)) (hq:cs[q]? =some .nil) (hj:aS σ (.o j)=none)
 (h:mB σ [(.o j,.row e es []),(.o b,.box ty (cs.set q (.own j 0)))] (SW P io c Q)):SW P io c Q σ:=by
 rw[jW] at h
 intro cx ι S a w hio hw hf
 obtain⟨ι',hw'⟩:=hw.nilBox e es hs hq hj
 exact h cx ι' S a w hio hw' hf
set_option linter.unusedVariables false
set_option linter.unusedSimpArgs false
theorem Spec.told {P:Program} {f:FuncId} {n:Nat} {σin σout σ':St} {rl:List (Nat×Nat)} {bor:List Nat} (h:Spec P f n σin σout) (hm:mL σout σ' rl bor σ') (hm2:yC σ' rl bor=true) (h0:bX σin=[]):Spec P f n σin σ':=by
 have hno: ∀o k,aS σin (.o o)=some k→False:=fun o k hk=>by have:=eR hk;rw[h0] at this;cases this
 refine⟨h.1,fun ι ν S w args hg h1 h2 h3=>mF (fun ex w'=> ?_) (h.2 ι ν S w args hg h1 h2 h3)⟩
 rintro⟨v,ι',S',rfl,hp⟩
 have hM:nK σout σ' rl bor:=⟨hm,hm2⟩
 refine⟨v,fun j=>ι' (jG rl j),oU σout ι' bor S',rfl,hp.fr,tG hM (fun _ _ h=>h) hp.vr,fun b hb=> ?_,fun o b hmu=> ?_,fun o k k' hk hk'=>(hno o k hk).elim⟩
 · rcases hb with hb|⟨o,_,hb⟩
   · exact hp.rd b hb
   · exact .inr (hp.own o b hb)
 · obtain⟨⟨k',hk',hl'⟩,hb⟩:=hmu
   obtain⟨k,hk,hmk⟩:=hM.ids o k' hk'
   exact hp.own (jG rl o) b ⟨⟨k,hk,(aGg hmk).1⟩,hb⟩
theorem aR7 {X Y:V} {a a' b b' c c':Int} (e0:a=a') (e1:b=b') (e2:c=c'): [(dD.t 0,K.v X),(.t 1,.v Y),(.t 2,.v (.e (.agg [.d (.i a'),.d (.i b'),.d (.i c')])))]=eH 0 [X,Y,.e (.agg [.d (.i a),.d (.i b),.d (.i c)])]:=by
 subst e0;subst e1;subst e2;rfl
theorem zi {l:List (List UInt8)} (h:gR l=true) {i:Nat} (hi:i<l.length):dc (((cR (jT l)).getD i []).getD 0 (.i 0))=kJ (l.getD i []):=by
 rw[dF (by rw[gK h];exact hi)]
 show(jT l).getD i 0=_
 rw[aB4 h hi]
theorem xE (t:List UInt8): (dR t).1.text.length≤t.length:=by
 unfold dR
 split
 · exact aSj _
 · exact qa 4 t
theorem count_le: ∀(n:Nat) (s:List UInt8),s.length≤n→Lib.count s [32]≤s.length
 |0,s,h=>by
  rw[List.eq_nil_of_length_eq_zero (Nat.le_zero.1 h),rL];exact aSo _
 |n+1,s,h=>by
  rw[rL]
  by_cases hs:fH s=true
  · have:=jy hs
    have:=count_le n (aN s) (by omega)
    rw[if_pos hs];omega
  · rw[if_neg hs];exact aSj _
theorem aH8 (s:List UInt8): (cV s).length≤s.length+1:=by
 have:=count_le s.length s (aSo _)
 have:=(pz (Lib.count s [32]) s).1
 unfold cV;omega
theorem aK0 (s:List UInt8): ∀x∈cV s,x.length≤s.length:=fw _ s
section
variable {k:aR} {rec:List UInt8}
theorem aH9 (h:fH rec=false):fA k rec=(k,false):=if_neg (bn h)
theorem aB7 (h:fH rec=true) (hw: (bA rec==iS||bA rec==kD)=true) (hn: (kI (aN rec)).isSome=true):fA k rec=kP k (bA rec) (kJ (aN rec)):=(if_pos h).trans ((if_pos hw).trans (if_pos hn))
theorem bh (h:fH rec=true) (hw: (bA rec==iS||bA rec==kD)=true) (hn: (kI (aN rec)).isSome=false):fA k rec=(k,false):=(if_pos h).trans ((if_pos hw).trans (if_neg (bn hn)))
theorem aIa (h:fH rec=true) (hw: (bA rec==iS||bA rec==kD)=false) (hw2: (bA rec==jU||bA rec==fQ||bA rec==gY||bA rec==fT)=true) (hn: (dR (aN rec)).2=true):fA k rec=fN k (bA rec) (dR (aN rec)).1:=(if_pos h).trans ((if_neg (bn hw)).trans ((if_pos hw2).trans (if_pos hn)))
theorem tU (h:fH rec=true) (hw: (bA rec==iS||bA rec==kD)=false) (hw2: (bA rec==jU||bA rec==fQ||bA rec==gY||bA rec==fT)=true) (hn: (dR (aN rec)).2=false):fA k rec=(k,false):=(if_pos h).trans ((if_neg (bn hw)).trans ((if_pos hw2).trans (if_neg (bn hn))))
theorem aIb (h:fH rec=true) (hw: (bA rec==iS||bA rec==kD)=false) (hw2: (bA rec==jU||bA rec==fQ||bA rec==gY||bA rec==fT)=false) (hw3: (bA rec==nH||bA rec==lY||bA rec==iC)=true) (hn: (gR (cV (aN rec))&&(cV (aN rec)).length==3)=true):
 fA k rec=hZ k (bA rec) (three (cV (aN rec))):=(if_pos h).trans ((if_neg (bn hw)).trans ((if_neg (bn hw2)).trans ((if_pos hw3).trans (if_pos hn))))
theorem xF (h:fH rec=true) (hw: (bA rec==iS||bA rec==kD)=false) (hw2: (bA rec==jU||bA rec==fQ||bA rec==gY||bA rec==fT)=false) (hw3: (bA rec==nH||bA rec==lY||bA rec==iC)=true) (hn: (gR (cV (aN rec))&&(cV (aN rec)).length==3)=false):
 fA k rec=(k,false):=(if_pos h).trans ((if_neg (bn hw)).trans ((if_neg (bn hw2)).trans ((if_pos hw3).trans (if_neg (bn hn)))))
theorem gg (h:fH rec=true) (hw: (bA rec==iS||bA rec==kD)=false) (hw2: (bA rec==jU||bA rec==fQ||bA rec==gY||bA rec==fT)=false) (hw3: (bA rec==nH||bA rec==lY||bA rec==iC)=false):
 fA k rec=(k,false):=(if_pos h).trans ((if_neg (bn hw)).trans ((if_neg (bn hw2)).trans (if_neg (bn hw3))))
theorem xj {l:List (List UInt8)} {c:Bool} (h: (gR l&&((cR (jT l)).length:Int)==3)=c): (gR l&&l.length==3)=c:=by
 subst h
 cases hn:gR l with
 |false=>rfl
 |true=>
  rw[cD,gK hn,Bool.true_and,Bool.true_and]
  by_cases h:l.length=3
  · rw[h];rfl
  · rw[show(l.length==3)=false by simpa using h]
    symm
    rw[beq_eq_false_iff_ne]
    omega
end
def KB (k:aR):Prop:=(k.held.length≤100000∧k.marks.length≤100000∧k.inbox.length≤100000)∧(∀x∈k.held,x.text.length≤140737488355328)∧(∀x∈k.inbox,x.text.length≤140737488355328)
theorem KB.zero:KB .zero:=⟨⟨aSj _,aSj _,aSj _⟩,fun x h=>(by cases h),fun x h=>(by cases h)⟩
theorem oK {l:List bB} (h:jO l=true) {x:bB} (hx:x∈l):eZ x=true:=by
 obtain⟨i,hi⟩:=List.mem_iff_getElem?.1 hx
 have hlt:=(aSm.1 hi).1
 have h1:=aSu.1 h i (List.mem_range.2 hlt)
 unfold mI at h1
 rw[aSg] at h1
 have h2:=h1.1
 rw[aSl,hi] at h2
 exact h2
theorem mi {n:bB} (h:eZ n=true):n.text.length≤140737488355328:=by
 have:=mZ h;omega
def KS (k:aR):Prop:=(k.held.length≤7∧k.marks.length≤13∧k.inbox.length≤7)∧(∀x∈k.held,x.text.length≤140737488355328)∧(∀x∈k.inbox,x.text.length≤140737488355328)
theorem KS.big {k:aR} (h:KS k):KB k:=⟨⟨by have:=h.1;omega,by have:=h.1;omega,by have:=h.1;omega⟩,h.2⟩
def K6 (k:aR):Prop:=(k.held.length≤6∧k.marks.length≤12∧k.inbox.length≤6)∧(∀x∈k.held,x.text.length≤140737488355328)∧(∀x∈k.inbox,x.text.length≤140737488355328)
theorem eC {k:aR} (h:dS k=true):K6 k:=by
 obtain⟨⟨_,_,_,h1,h2,h3⟩,⟨h4,h5,h6⟩,_⟩:=(bV k).1 h
 exact⟨⟨h1,h2,h3⟩,fun x hx=>mi (oK h4 hx),fun x hx=>mi (oK h6 hx)⟩
theorem K6.seven {k:aR} (h:K6 k):KS k:=⟨⟨by have:=h.1;omega,by have:=h.1;omega,by have:=h.1;omega⟩,h.2⟩
theorem vZ {α:Type} (l:List α) (i:Nat): (gL l i).length≤l.length:=by
 rw[gL,aSe,aSk,aSr];omega
theorem xk {k:aR} {n:bB} (h:K6 k) (hn:n.text.length≤140737488355328):KS (hP k n).1:=by
 unfold hP
 split
 · simp only
   split
   · refine⟨⟨by have:=h.1;simp only;omega,?_,?_⟩,h.2.1,?_⟩
     · have:=h.1;rw[jz,fC];omega
     · have:=h.1;rw[bg,fC];omega
     · intro x hx
       rw[bg,vY] at hx
       rcases hx with rfl|hx
       · exact hn
       · exact h.2.2 x hx
   · refine⟨⟨?_,by have:=h.1;simp only;omega,by have:=h.1;simp only;omega⟩,?_,h.2.2⟩
     · have:=h.1;rw[bg,fC];omega
     · intro x hx
       rw[bg,vY] at hx
       rcases hx with rfl|hx
       · exact hn
       · exact h.2.1 x hx
 · exact h.seven
theorem qe {k:aR} {t:Int} (h:K6 k):KS (jP k t):=by
 have h1:=List.length_filter_le (fun n:bB=>decide (t<n.til)) k.held
 have h2:=List.length_filter_le (fun n:bZ=>decide (t<n.til)) k.marks
 exact⟨⟨by have:=h.1;simp only[jP];omega,by have:=h.1;simp only[jP];omega,by have:=h.1;simp only[jP];omega⟩,fun x hx=>h.2.1 x (List.mem_filter.1 hx).1,h.2.2⟩
theorem zj {k:aR} {n:bB} (h:K6 k) (hn:n.text.length≤140737488355328) {p:bB→Bool}:KS {k with held:=rV p n k.held}:=
 ⟨⟨by have:=h.1;simp only[fC];omega,by have:=h.1;simp only;omega,by have:=h.1;simp only;omega⟩,fun x hx=>by rcases vY.1 hx with rfl|hx;exact hn;exact h.2.1 x hx,h.2.2⟩
theorem aB8 {k:aR} {n:bB} (h:K6 k) (hn:n.text.length≤140737488355328) {p:bB→Bool}:KS {k with inbox:=rV p n k.inbox}:=
 ⟨⟨by have:=h.1;simp only;omega,by have:=h.1;simp only;omega,by have:=h.1;simp only[fC];omega⟩,h.2.1,fun x hx=>by rcases vY.1 hx with rfl|hx;exact hn;exact h.2.2 x hx⟩
theorem aK1 {k:aR} {w:List UInt8} {n:Int} (h:K6 k):KS (kP k w n).1:=by
 unfold kP
 split
 · exact qe h
 · split
   · exact h.seven
   · exact h.seven
theorem aIc {k:aR} {w:List UInt8} {n:bB} (h:K6 k) (hn:n.text.length≤140737488355328):KS (fN k w n).1:=by
 unfold fN
 split
 · exact xk (k:={k with next:=wrap64 (k.next+1)}) h hn
 · split
   · exact xk h hn
   · split
     · exact h.seven
     · split
       · exact zj h hn
       · split
         · exact aB8 h hn
         · exact h.seven
theorem aId {k:aR} {w:List UInt8} {m:bZ} (h:K6 k):KS (hZ k w m).1:=by
 unfold hZ
 split
 · refine⟨⟨?_,?_,by have:=h.1;simp only;omega⟩,fun x hx=>h.2.1 x (bf hx),h.2.2⟩
   · have:=h.1;have h1:=vZ k.held (aX k.held m.frm m.num).toNat;simp only;omega
   · have:=h.1;rw[jz,fC];omega
 · split
   · refine⟨⟨by have:=h.1;simp only;omega,by have:=h.1;simp only;omega,?_⟩,h.2.1,fun x hx=>h.2.2 x (bf hx)⟩
     have:=h.1;have h1:=vZ k.inbox (aX k.inbox m.frm m.num).toNat;simp only;omega
   · split
     · exact⟨⟨by have:=h.1;simp only;omega,by have:=h.1;rw[jz,fC];omega,by have:=h.1;simp only;omega⟩,h.2⟩
     · exact h.seven
theorem ka {k:aR} {rec:List UInt8} (h:K6 k) (hr:rec.length≤1000000):KS (fA k rec).1:=by
 have ht: (dR (aN rec)).1.text.length≤140737488355328:=by
  have h1:=xE (aN rec)
  have h2:=sW rec
  omega
 unfold fA
 repeat' split
 all_goals first|exact h.seven|exact aK1 h|exact aIc h ht|exact aId h
theorem kc {k:aR} {rec:List UInt8}:K6 (bY k rec).1:=by
 unfold bY
 split
 · rename_i hk
   unfold kY
   split
   · rename_i h
     rw[aSg] at h
     exact eC h.2
   · exact eC hk
 · exact⟨⟨aSj _,aSj _,aSj _⟩,fun x h=>(by cases h),fun x h=>(by cases h)⟩
theorem gh (id:Int):K6 (aY id):=by
 unfold aY
 split<;>exact⟨⟨aSj _,aSj _,aSj _⟩,fun x h=>(by cases h),fun x h=>(by cases h)⟩
set_option linter.unusedVariables false
set_option linter.unusedSimpArgs false
theorem aGv {a a':Int} (e:a=a'): [(dD.t 0,K.v (I a'))]=eH 0 [I a]:=by subst e;rfl
theorem qf {X:V} {a a' b b':Int} (e0:a=a') (e1:b=b'): [(dD.t 0,K.v X),(.t 1,.v (I a')),(.t 2,.v (I b'))]=eH 0 [X,I a,I b]:=by subst e0;subst e1;rfl
theorem aK2 {X:V} {a a' b b' c c':Int} (e0:a=a') (e1:b=b') (e2:c=c'): [(dD.t 0,K.v X),(.t 1,.v (.e (.agg [.d (.i a'),.d (.i b'),.d (.i c')])))]=eH 0 [X,.e (.agg [.d (.i a),.d (.i b),.d (.i c)])]:=by subst e0;subst e1;subst e2;rfl
theorem qg {n:Nat} {s:List UInt8} {i:Nat} (hi:i<n):dc (((cR (eM n s)).getD i []).getD 0 (.i 0))=dG s i:=by
 rw[dF (by rw[bG];exact hi)]
 exact aB5 hi
theorem kQ {n:Int} (h: -1≤n∧n≤9999): (fv n).length≤6:=by
 unfold fv
 by_cases h0:n<0
 · rw[if_pos h0]
   have:=cA (k:=3) (n:=(-n).toNat) (by simp;omega)
   simp;omega
 · rw[if_neg h0]
   have:=cA (k:=3) (n:=n.toNat) (by simp;omega)
   omega
theorem fO (s:List UInt8) (i:Nat): -1≤dG s i∧dG s i≤9999:=xA _
theorem bi {a:Int} {x y c:Bool} (h: (decide (a<0)||x)=c) (hx:0≤a→x=y): (decide (a<0)||y)=c:=by
 by_cases h0:0≤a
 · rw[← hx h0];exact h
 · rw[show decide (a<0)=true from decide_eq_true (by omega),Bool.true_or] at h ⊢; exact h
theorem aK3 {k:aR} {n:bB} (h: (!dm k n)=true):lI k n=(k,false):=if_neg (by simpa using h)
theorem aK4 {k:aR} {n:bB} (hb:k.held.length≤100000∧k.marks.length≤100000∧k.inbox.length≤100000) (h: (!dm k n)=false) (ht: (n.to != k.id)=true):
 lI k n=({k with held:=iX k.held n},decide (wrap64 ((aE (iX k.held n)).length+(aL k.marks).length)≤12)):=by
 have hl: (iX k.held n).length=k.held.length+1:=fC
 rw[aA,aB,aF (by omega)]
 exact(if_pos (by simpa using h)).trans (if_pos ht)
theorem aK5 {k:aR} {n:bB} (hb:k.held.length≤100000∧k.marks.length≤100000∧k.inbox.length≤100000) (h: (!dm k n)=false) (ht: (n.to != k.id)=false):
 lI k n=({k with inbox:=iX k.inbox n,marks:=nA k.marks ⟨n.frm,n.num,n.til⟩},decide (wrap64 ((aE k.held).length+(aL (nA k.marks ⟨n.frm,n.num,n.til⟩)).length)≤12)):=by
 have hl: (nA k.marks ⟨n.frm,n.num,n.til⟩).length=k.marks.length+1:=fC
 rw[aA,aB,aF (by omega)]
 exact(if_pos (by simpa using h)).trans (if_neg (bn ht))
theorem aM9 {k:aR} {a b:Int} (h:K6 k):KS (ga k a b).1:=by
 unfold ga
 split
 · refine⟨⟨?_,?_,by have:=h.1;simp only;omega⟩,fun x hx=>h.2.1 x (bf hx),h.2.2⟩
   · have:=h.1;have h1:=vZ k.held (aX k.held a b).toNat;simp only;omega
   · have:=h.1;rw[tS,fC];omega
 · exact h.seven
theorem aNa {k:aR} {a b:Int} (h:K6 k):KS (gc k a b).1:=by
 unfold gc
 split
 · refine⟨⟨by have:=h.1;simp only;omega,by have:=h.1;simp only;omega,?_⟩,h.2.1,fun x hx=>h.2.2 x (bf hx)⟩
   have:=h.1;have h1:=vZ k.inbox (aX k.inbox a b).toNat;simp only;omega
 · exact h.seven
theorem aB9 {k:aR} {n:bB} (h:K6 k) (hn:n.text.length≤140737488355328):KS (lI k n).1:=by
 unfold lI
 split
 · split
   · exact zj h hn
   · refine⟨⟨by have:=h.1;simp only;omega,?_,?_⟩,h.2.1,?_⟩
     · have:=h.1;rw[tS,fC];omega
     · have:=h.1;rw[xC,fC];omega
     · intro x hx
       rw[xC,vY] at hx
       rcases hx with rfl|hx
       · exact hn
       · exact h.2.2 x hx
 · exact h.seven
theorem lT {c:Prop} [Decidable c] {a b:aR×Bool} (ha:KS a.1) (hb:KS b.1):KS (if c then a else b).1:=by
 split
 · exact ha
 · exact hb
theorem oL {k:aR} {rec:List UInt8} (h:K6 k) (hr:rec.length≤1000000):KS (fJ k rec).1:=by
 have ht: (dR (aN rec)).1.text.length≤140737488355328:=by
  have h1:=xE (aN rec)
  have h2:=sW rec
  omega
 have hm:KS {k with marks:=nA k.marks (gD (aN rec))}:=⟨⟨by have:=h.1;simp only;omega,by have:=h.1;simp only[tS,fC];omega,by have:=h.1;simp only;omega⟩,h.2⟩
 unfold fJ
 exact lT (lT h.seven (qe h)) (lT (lT h.seven (aB9 (k:={k with next:=wrap64 (k.next+1)}) h ht)) (lT (lT h.seven (aB9 h ht)) (lT (lT h.seven h.seven)
  (lT (lT h.seven (lT (zj h ht) (aB8 h ht))) (lT h.seven (lT (lT h.seven (aM9 h)) (lT (lT h.seven (aNa h)) (lT (lT h.seven hm) h.seven))))))))
set_option linter.unusedVariables false
set_option linter.unusedSimpArgs false
theorem aR8 {X:V} {a a':List UInt8} (e:a=a'): [(dD.t 0,K.v X),(.t 1,.v (Dv (.s a')))]=eH 0 [X,Dv (.s a)]:=by subst e;rfl
theorem gi {a b c d:Int} (h: ¬(a=c∧b=d)):cG a b c d= !cG c d a b:=by
 unfold cG
 by_cases h1:a=c
 · subst h1
   have h2: ¬b=d:=fun e=>h ⟨rfl,e⟩
   by_cases h3:b<d
   · simp[h3,Int.not_lt.2 (Int.le_of_lt h3)]
   · simp[h3,show d<b by omega]
 · by_cases h3:a<c
   · simp[h3,Int.not_lt.2 (Int.le_of_lt h3)]
     exact .inl fun e=>h1 e.symm
   · simp[h3,h1,show c<a by omega]
theorem rW {α:Type} {p q:α→Bool}: ∀{l:List α},(∀x∈l,p x=q x)→l.takeWhile p=l.takeWhile q∧l.dropWhile p=l.dropWhile q
 | [],_=>⟨rfl,rfl⟩
 |x::l,h=>by
  have hx:=h x (List.mem_cons_self ..)
  obtain⟨h1,h2⟩:=rW (l:=l) fun y hy=>h y (List.mem_cons_of_mem _ hy)
  simp only[List.takeWhile,List.dropWhile,hx,h1,h2,and_self]
theorem aE1 {l:List bB} {f m:Int} (h:aX l f m<0) {x:bB} (hx:x∈l): ¬(x.frm=f∧x.num=m):=by
 rintro⟨e1,e2⟩
 obtain⟨i,hi⟩:=List.mem_iff_getElem?.1 hx
 have hlt:=(aSm.1 hi).1
 rcases jD (pA l f m) l.length 0 with h1|⟨k,h1,_,h2,_⟩
 · have h3:pA l f m i=true:=by
    unfold pA
    rw[aSl,hi]
    simp[e1,e2]
   have: ∀n j,j≤i→i<j+n→kB (pA l f m) j n≠ -1:=by
    intro n
    induction n with
    |zero=>intro j h4 h5;omega
    |succ n ih=>
     intro j h4 h5
     unfold kB
     split
     · omega
     · rename_i h6
       by_cases e:j=i
       · subst e;exact absurd h3 h6
       · exact ih (j+1) (by omega) (by omega)
   exact this l.length 0 (aSj _) (by omega) h1
 · rw[aX,h1] at h;omega
theorem aE2 {l:List bZ} {f m:Int} (h:jI l f m<0) {x:bZ} (hx:x∈l): ¬(x.frm=f∧x.num=m):=by
 rintro⟨e1,e2⟩
 obtain⟨i,hi⟩:=List.mem_iff_getElem?.1 hx
 have hlt:=(aSm.1 hi).1
 rcases jD (tM l f m) l.length 0 with h1|⟨k,h1,_,h2,_⟩
 · have h3:tM l f m i=true:=by
    unfold tM
    rw[aSl,hi]
    simp[e1,e2]
   have: ∀n j,j≤i→i<j+n→kB (tM l f m) j n≠ -1:=by
    intro n
    induction n with
    |zero=>intro j h4 h5;omega
    |succ n ih=>
     intro j h4 h5
     unfold kB
     split
     · omega
     · rename_i h6
       by_cases e:j=i
       · subst e;exact absurd h3 h6
       · exact ih (j+1) (by omega) (by omega)
   exact this l.length 0 (aSj _) (by omega) h1
 · rw[jI,h1] at h;omega
theorem xG {l:List bB} {n:bB} (h:aX l n.frm n.num<0):iX l n=nG l n:=by
 obtain⟨h1,h2⟩:=rW (p:=fun x:bB=> !cG n.frm n.num x.frm x.num) (q:=fun x=>cG x.frm x.num n.frm n.num) (l:=l) fun x hx=>(gi (aE1 h hx)).symm
 unfold iX nG
 rw[h1,h2]
theorem dp {l:List bZ} {n:bZ} (h:jI l n.frm n.num<0):nA l n=rU l n:=by
 obtain⟨h1,h2⟩:=rW (p:=fun x:bZ=> !cG n.frm n.num x.frm x.num) (q:=fun x=>cG x.frm x.num n.frm n.num) (l:=l) fun x hx=>(gi (aE2 h hx)).symm
 unfold nA rU
 rw[h1,h2]
theorem aIe (k:aR) (n:bB):dm k n=fy k n:=by
 unfold dm fy
 cases decide (aX k.inbox n.frm n.num<0)<;>cases decide (jI k.marks n.frm n.num<0)<;>simp
def pD (k:aR) (x y:aR×Bool):Prop:=kY k x=kY k y
theorem pD.rfl {k:aR} {x:aR×Bool}:pD k x x:=Eq.refl _
theorem pD.of {k:aR} {x y:aR×Bool} (h:x=y):pD k x y:=h▸pD.rfl
theorem pE {k:aR} {x:aR×Bool} (h:x.2=false∨dS x.1=false):kY k x=(k,false):=by
 unfold kY
 rw[if_neg]
 rcases h with h|h<;>simp[h]
theorem pD.no {k:aR} {x y:aR×Bool} (h:x.2=false∨dS x.1=false) (h':y.2=false∨dS y.1=false):pD k x y:=(pE h).trans (pE h').symm
theorem qh {k0 k:aR} (n:bB):pD k0 (hP k n) (lI k n):=by
 unfold hP lI
 rw[aIe]
 cases hf:fy k n with
 |false=>exact .of (by simp)
 |true=>
  have h2:=hf
  simp only[fy,aSg,decide_eq_true_eq] at h2
  obtain⟨⟨⟨⟨_,_⟩,q1⟩,q2⟩,q3⟩:=h2
  have hm: (rU k.marks ⟨n.frm,n.num,n.til⟩).length=k.marks.length+1:=fC
  have hh: (nG k.held n).length=k.held.length+1:=fC
  rw[xG q1,xG q2,dp (n:=⟨n.frm,n.num,n.til⟩) q3,hm,hh]
  by_cases hl: (k.held.length:Int)+k.marks.length+1≤12
  · have e1:decide ((k.held.length:Int)+k.marks.length+1≤12)=true:=decide_eq_true hl
    have e2:decide (((k.held.length+1:Nat):Int)+k.marks.length≤12)=true:=decide_eq_true (by omega)
    have e3:decide ((k.held.length:Int)+((k.marks.length+1:Nat):Int)≤12)=true:=decide_eq_true (by omega)
    rw[e1,e2,e3]
    by_cases ht:n.to=k.id
    · simp[ht];exact .rfl
    · simp[ht];exact .rfl
  · have e1:decide ((k.held.length:Int)+k.marks.length+1≤12)=false:=decide_eq_false hl
    have e2:decide (((k.held.length+1:Nat):Int)+k.marks.length≤12)=false:=decide_eq_false (by omega)
    have e3:decide ((k.held.length:Int)+((k.marks.length+1:Nat):Int)≤12)=false:=decide_eq_false (by omega)
    rw[e1,e2,e3]
    refine .no (.inl (by simp)) (.inl ?_)
    by_cases ht:n.to=k.id<;>simp[ht]
theorem sX {s:List UInt8} {n:Nat} (h:kI s=some n):jQ n=s∧1≤s.length∧s.length≤5:=by
 unfold kI at h
 split at h
 · rename_i hc
   cases h
   exact⟨(uL hc.1.1 hc.2.2).2 hc.2.1,hc.1.1,hc.1.2⟩
 · cases h
theorem aK6 {s:List UInt8} {n:Nat} (h:kI s=some n) (h5:4<s.length):10000≤n:=by
 obtain⟨h1,_,_⟩:=sX h
 by_cases hn:n<10 ^ (3+1)
 · have:=cA hn
   rw[h1] at this;omega
 · simpa using hn
theorem qj {s:List UInt8} {n:Nat} (h:kI s=some n) (hn:n<10000):fS s=n:=by
 have hl:s.length≤4:=by
  by_cases h5:4<s.length
  · have:=aK6 h h5;omega
  · omega
 rw[vW hl,h]
theorem xl {s:List UInt8} (h:kI s=none):fS s= -1:=by
 by_cases hl:s.length≤4
 · rw[vW hl,h]
 · unfold fS
   rw[if_neg (by omega)]
theorem xm {s:List UInt8} (h:4<s.length):fS s= -1:=by
 unfold fS
 rw[if_neg (by omega)]
theorem aCa {k:aR} {n:Int} (h:999<n):dS (jP k n)=false:=by
 cases hk:dS (jP k n) with
 |false=>rfl
 |true=>
  obtain⟨⟨_,⟨_,h2⟩,_⟩,_⟩:=(bV _).1 hk
  simp only[jP] at h2
  omega
theorem aK7 {k:aR} {n:Int} (h:100<n):dS {k with next:=n}=false:=by
 cases hk:dS {k with next:=n} with
 |false=>rfl
 |true=>
  obtain⟨⟨_,_,⟨_,h2⟩,_⟩,_⟩:=(bV _).1 hk
  simp only at h2
  omega
theorem sY {s:List UInt8} {n:Nat} (h:kI s=some n):kJ s=n:=by rw[kJ,h]
theorem aE3 {k:aR} (hk:dS k=true) (r:List UInt8):pD k (if(kI r).isSome then kP k iS (kJ r) else(k,false)) (if fS r≤k.time then(k,false) else(jP k (fS r),true)):=by
 obtain⟨⟨_,⟨t0,t1⟩,_⟩,_⟩:=(bV _).1 hk
 cases h:kI r with
 |none=>
  rw[xl h,if_neg (show ¬((none:Option Nat).isSome=true) by simp),if_pos (show(-1:Int)≤k.time by omega)]
  exact .rfl
 |some n=>
  rw[sY h,if_pos (show(some n).isSome=true from rfl)]
  by_cases hn:n<10000
  · rw[qj h hn]
    by_cases ht:k.time<n
    · rw[if_neg (by omega)]
      exact .of (if_pos (by simp[ht]))
    · rw[if_pos (by omega)]
      exact .of ((if_neg (by simp[ht])).trans (if_neg (by simp[iS,kD])))
  · have hl:fS r= -1:=xm (by
     by_cases h5:4<r.length
     · exact h5
     · have:=sX h
       have h6:=vW (s:=r) (by omega)
       rw[h] at h6
       have h7:=xA r
       simp only at h6
       omega)
    rw[hl,if_pos (by omega),kP,if_pos (by simp;omega)]
    exact .no (.inr (aCa (by omega))) (.inl rfl)
theorem aE4 {k:aR} (hk:dS k=true) (r:List UInt8):pD k (if(kI r).isSome then kP k kD (kJ r) else(k,false)) (if fS r≤k.next then(k,false) else({k with next:=fS r},true)):=by
 obtain⟨⟨_,_,⟨t0,t1⟩,_⟩,_⟩:=(bV _).1 hk
 cases h:kI r with
 |none=>
  rw[xl h,if_neg (show ¬((none:Option Nat).isSome=true) by simp),if_pos (show(-1:Int)≤k.next by omega)]
  exact .rfl
 |some n=>
  rw[sY h,if_pos (show(some n).isSome=true from rfl)]
  have e1: (kD==iS)=false:=by decide
  by_cases hn:n<10000
  · rw[qj h hn]
    by_cases ht:k.next<n
    · rw[if_neg (by omega)]
      exact .of ((if_neg (by simp[e1])).trans (if_pos (by simp[ht])))
    · rw[if_pos (by omega)]
      exact .of ((if_neg (by simp[e1])).trans (if_neg (by simp[ht])))
  · have hl:fS r= -1:=xm (by
     by_cases h5:4<r.length
     · exact h5
     · have:=sX h
       have h6:=vW (s:=r) (by omega)
       rw[h] at h6
       have h7:=xA r
       simp only at h6
       omega)
    rw[hl,if_pos (by omega),kP,if_neg (by simp[e1]),if_pos (by simp;omega)]
    exact .no (.inr (aK7 (by omega))) (.inl rfl)
theorem aIf {k:aR} (x:bB×Bool):pD k (if x.2 then fN k jU x.1 else(k,false)) (if !x.2||x.1.frm != k.id||x.1.num != k.next then(k,false) else lI {k with next:=wrap64 (k.next+1)} x.1):=by
 obtain⟨n,b⟩:=x
 cases b with
 |false=>exact .of (by simp)
 |true=>
  rw[if_pos (show(n,true).2=true from rfl)]
  show pD k (fN k jU n) (if(!true)||n.frm != k.id||n.num != k.next then(k,false) else lI {k with next:=wrap64 (k.next+1)} n)
  by_cases h:n.frm=k.id∧n.num=k.next
  · have hL:fN k jU n=hP {k with next:=wrap64 (k.next+1)} n:=if_pos (by simp[h])
    rw[hL,if_neg (by simp[h])]
    exact qh n
  · have hL:fN k jU n=(k,false):=by
     refine(if_neg (by simp;exact fun a b=>h ⟨a,b⟩)).trans ((if_neg (by simp[jU,fQ])).trans ?_)
     split
     · rfl
     · simp[jU,gY,fT]
    have hR: ((!true)||n.frm != k.id||n.num != k.next)=true:=by
     by_cases h1:n.frm=k.id
     · have h2: ¬n.num=k.next:=fun h2=>h ⟨h1,h2⟩
       simp[h2]
     · simp[h1]
    rw[hL,if_pos hR]
    exact .rfl
theorem aCb {k:aR} (x:bB×Bool):pD k (if x.2 then fN k fQ x.1 else(k,false)) (if !x.2||x.1.frm==k.id then(k,false) else lI k x.1):=by
 obtain⟨n,b⟩:=x
 cases b with
 |false=>exact .of (by simp)
 |true=>
  rw[if_pos (show(n,true).2=true from rfl)]
  show pD k (fN k fQ n) (if(!true)||n.frm==k.id then(k,false) else lI k n)
  by_cases h:n.frm=k.id
  · have hL:fN k fQ n=(k,false):=by
     refine(if_neg (by simp[fQ,jU])).trans ((if_neg (by simp[h])).trans ?_)
     split
     · rfl
     · simp[fQ,gY,fT]
    rw[hL,if_pos (by simp[h])]
    exact .rfl
  · have hL:fN k fQ n=hP k n:=(if_neg (by simp[fQ,jU])).trans (if_pos (by simp[h]))
    rw[hL,if_neg (by simp[h])]
    exact qh n
theorem aE5 {k:aR} (w:List UInt8) (hw:w=gY∨w=fT) (x:bB×Bool):pD k (if x.2 then fN k w x.1 else(k,false))
 (if !x.2||decide (aX k.held x.1.frm x.1.num≥0)||decide (aX k.inbox x.1.frm x.1.num≥0) then(k,false)
  else if w==gY then({k with held:=iX k.held x.1},true) else({k with inbox:=iX k.inbox x.1},true)):=by
 obtain⟨n,b⟩:=x
 cases b with
 |false=>exact .of (by simp)
 |true=>
  have e1: (w==jU)=false:=by rcases hw with rfl|rfl<;>decide
  have e2: (w==fQ)=false:=by rcases hw with rfl|rfl<;>decide
  rw[if_pos (show(n,true).2=true from rfl)]
  show pD k (fN k w n) (if(!true)||decide (aX k.held n.frm n.num≥0)||decide (aX k.inbox n.frm n.num≥0) then(k,false)
   else if w==gY then({k with held:=iX k.held n},true) else({k with inbox:=iX k.inbox n},true))
  by_cases h:0≤aX k.held n.frm n.num∨0≤aX k.inbox n.frm n.num
  · have hL:fN k w n=(k,false):=(if_neg (by simp[e1])).trans ((if_neg (by simp[e2])).trans (if_pos (by simpa using h)))
    rw[hL,if_pos (by simpa using h)]
    exact .rfl
  · have h1:aX k.held n.frm n.num<0:=by omega
    have h2:aX k.inbox n.frm n.num<0:=by omega
    have h3: ¬(decide (0≤aX k.held n.frm n.num)||decide (0≤aX k.inbox n.frm n.num))=true:=by simpa using h
    have h4: ¬((!true)||decide (aX k.held n.frm n.num≥0)||decide (aX k.inbox n.frm n.num≥0))=true:=by simpa using h
    rw[if_neg h4]
    rcases hw with rfl|rfl
    · have hL:fN k gY n=({k with held:=nG k.held n},true):=(if_neg (by simp[e1])).trans ((if_neg (by simp[e2])).trans ((if_neg h3).trans (if_pos (by decide))))
      rw[hL,if_pos (by decide),xG h1]
      exact .rfl
    · have hL:fN k fT n=({k with inbox:=nG k.inbox n},true):=(if_neg (by simp[e1])).trans ((if_neg (by simp[e2])).trans ((if_neg h3).trans ((if_neg (by decide)).trans (if_pos (by decide)))))
      rw[hL,if_neg (by decide),xG h2]
      exact .rfl
set_option linter.unusedVariables false
set_option linter.unusedSimpArgs false
def zM (m:bZ):List UInt8:=jQ m.frm.toNat++32::(jQ m.num.toNat++32::jQ m.til.toNat)
theorem sL {m:bZ} (h:lS m=true): (0≤m.frm∧m.frm≤3)∧(1≤m.num∧m.num≤99)∧(1≤m.til∧m.til≤999):=by
 simp only[lS,eB,gX,aSg,decide_eq_true_eq] at h
 omega
theorem aCc {n:bB} (h:eZ n=true):lS ⟨n.frm,n.num,n.til⟩=true:=by
 simp only[eZ,lS,aSg] at h ⊢
 exact⟨⟨h.1.1.1.1,h.1.1.2⟩,h.1.2⟩
theorem aK8 {s:List UInt8} (h: ∀b∈s,b≠32):fH s=false:=by
 unfold fH
 rw[List.any_eq_false]
 intro b hb
 have:=h b hb
 simpa using this
theorem qk {s:List UInt8} (h:fH s=false):Lib.count s [32]=0:=by rw[rL,h];rfl
theorem aQc {a b c:List UInt8} (ha: ∀x∈a,x≠32) (hb: ∀x∈b,x≠32) (hc: ∀x∈c,x≠32):
 cV (a++32::(b++32::c))=[a,b,c]∧lH 3 (a++32::(b++32::c))=[]∧bA (a++32::(b++32::c))=a∧bA (lH 1 (a++32::(b++32::c)))=b∧bA (lH 2 (a++32::(b++32::c)))=c:=by
 obtain⟨a1,a2,a3⟩:=pB (r:=b++32::c) ha
 obtain⟨b1,b2,b3⟩:=pB (r:=c) hb
 have c3:=aK8 hc
 obtain⟨_,c1,c2⟩:=(fI c).2 c3
 have hn:Lib.count (a++32::(b++32::c)) [32]=2:=by
  rw[rL,if_pos a3,a2,rL,if_pos b3,b2,qk c3]
 refine⟨?_,?_,a1,?_,?_⟩
 · rw[cV,hn]
   simp only[gW,a1,a2,a3,b1,b2,b3,if_true]
 · simp only[lH,a2,b2,c2]
 · simp only[lH,a2,b1]
 · simp only[lH,a2,b2,c1]
theorem ql {n:Int} (h:0≤n):fv n=jQ n.toNat:=if_neg (by omega)
theorem aCd {m:bZ} (h:lS m=true):bz m=zM m:=by
 obtain⟨h1,h2,h3⟩:=sL h
 unfold bz zM
 rw[ql (by omega),ql (by omega),ql (by omega)]
 simp
theorem aIg {m:bZ} (h:lS m=true):gR (cV (zM m))=true∧(cV (zM m)).length=3∧three (cV (zM m))=m∧lH 3 (zM m)=[]∧gD (zM m)=m:=by
 obtain⟨h1,h2,h3⟩:=sL h
 obtain⟨q1,q2,q3,q4,q5⟩:=aQc (tQ m.frm.toNat) (tQ m.num.toNat) (tQ m.til.toNat)
 have e: ∀{x:Int},0≤x→((x.toNat:Nat):Int)=x:=fun h=>by omega
 have w1:kI (jQ m.frm.toNat)=some m.frm.toNat:=pC (by omega)
 have w2:kI (jQ m.num.toNat)=some m.num.toNat:=pC (by omega)
 have w3:kI (jQ m.til.toNat)=some m.til.toNat:=pC (by omega)
 have u1:kJ (jQ m.frm.toNat)=m.frm:=by rw[kJ,w1];exact e (by omega)
 have u2:kJ (jQ m.num.toNat)=m.num:=by rw[kJ,w2];exact e (by omega)
 have u3:kJ (jQ m.til.toNat)=m.til:=by rw[kJ,w3];exact e (by omega)
 have v1:fS (jQ m.frm.toNat)=m.frm:=by rw[tR (by omega),e (by omega)]
 have v2:fS (jQ m.num.toNat)=m.num:=by rw[tR (by omega),e (by omega)]
 have v3:fS (jQ m.til.toNat)=m.til:=by rw[tR (by omega),e (by omega)]
 unfold zM
 refine⟨?_,?_,?_,q2,?_⟩
 · rw[q1];simp[gR,w1,w2,w3]
 · rw[q1];rfl
 · rw[q1];simp[three,u1,u2,u3]
 · unfold gD dG
   have q6:bA (lH 0 (jQ m.frm.toNat++32::(jQ m.num.toNat++32::jQ m.til.toNat)))=jQ m.frm.toNat:=q3
   rw[q6,q4,q5,v1,v2,v3]
theorem qm {s:List UInt8} (h:fH s=true):s=bA s++32::aN s:=by
 obtain⟨q1,q2,q3,q4⟩:=(fI s).1 h
 have h3:s[(bA s).length]'q4=32:=by
  have h1:Lib.indexByte s 32=(bA s).length:=q1
  have h2:s.drop (bA s).length=s[(bA s).length]'q4::s.drop ((bA s).length+1):=List.drop_eq_getElem_cons q4
  have h4:s.drop (bA s).length=s.dropWhile (· != 32):=by
   have h5:=List.takeWhile_append_dropWhile (p:=(· != (32:UInt8))) (l:=s)
   have h6:s.take (bA s).length++s.drop (bA s).length=s:=List.take_append_drop _ _
   rw[q2] at h6
   exact List.append_cancel_left (h6.trans h5.symm)
  have h7: ∀l:List UInt8,∀x t,l.dropWhile (· != 32)=x::t→x=32:=by
   intro l
   induction l with
   |nil=>intro x t h;cases h
   |cons y l ih=>
    intro x t h
    by_cases hy:y=32
    · subst hy
      simp at h
      exact h.1.symm
    · rw[List.dropWhile_cons_of_pos (by simpa using hy)] at h
      exact ih x t h
  exact h7 s _ _ (h4.symm.trans h2)
 have h8:s.take (bA s).length++s.drop (bA s).length=s:=List.take_append_drop _ _
 rw[q2,List.drop_eq_getElem_cons q4,h3,q3] at h8
 exact h8.symm
theorem aCe {s:List UInt8} (h: (cV s).length=3): ∃a b c,cV s=[a,b,c]∧s=a++32::(b++32::c):=by
 have h0:=py _ s rfl
 have hn:Lib.count s [32]=2:=by
  rw[cV] at h;omega
 have h1:fH s=true:=by
  cases hs:fH s with
  |true=>rfl
  |false=>rw[qk hs] at hn;cases hn
 rw[rL,if_pos h1] at hn
 have h2:fH (aN s)=true:=by
  cases hs:fH (aN s) with
  |true=>rfl
  |false=>rw[qk hs] at hn;cases hn
 have hn2:Lib.count s [32]=2:=by rw[rL,if_pos h1];exact hn
 refine⟨bA s,bA (aN s),aN (aN s),?_,?_⟩
 · rw[cV,hn2]
   simp only[gW,h1,h2,if_true]
 · rw[← qm h2,← qm h1]
theorem aIh {s:List UInt8} (h: (gR (cV s)&&(cV s).length==3)=true):s=zM (three (cV s)):=by
 rw[aSg,beq_iff_eq] at h
 obtain⟨a,b,c,hl,hs⟩:=aCe h.2
 have hk:=h.1
 rw[hl] at hk ⊢
 simp only[gR,List.all_cons,List.all_nil,Bool.and_true,aSg] at hk
 obtain⟨ha,hb,hc⟩:=hk
 obtain⟨x,hx⟩:=Option.isSome_iff_exists.1 ha
 obtain⟨y,hy⟩:=Option.isSome_iff_exists.1 hb
 obtain⟨z,hz⟩:=Option.isSome_iff_exists.1 hc
 unfold zM three
 simp only[List.getD_cons_zero,List.getD_cons_succ,sY hx,sY hy,sY hz,aSd,(sX hx).1,(sX hy).1,(sX hz).1]
 exact hs
theorem dq {l:List bB} (hk:jO l=true) {f m:Int} (hp:0≤aX l f m):eZ (l.getD (aX l f m).toNat .zero)=true∧(l.getD (aX l f m).toNat .zero).frm=f∧(l.getD (aX l f m).toNat .zero).num=m∧(aX l f m).toNat<l.length:=by
 rcases jD (pA l f m) l.length 0 with h|⟨k,h,_,h2,h3,_⟩
 · rw[aX,h] at hp;omega
 · have e:aX l f m=k:=h
   rw[e,aSd]
   have h4:=h3
   unfold pA at h4
   simp only[aSg,beq_iff_eq] at h4
   exact⟨oK hk (dU (by omega)),h4.1,h4.2,by omega⟩
theorem zN {l:List bZ} (h:nR l=true) {x:bZ} (hx:x∈l):lS x=true:=by
 obtain⟨i,hi⟩:=List.mem_iff_getElem?.1 hx
 have hlt:=(aSm.1 hi).1
 have h1:=aSu.1 h i (List.mem_range.2 hlt)
 unfold nN at h1
 rw[aSg] at h1
 have h2:=h1.1
 rw[aSl,hi] at h2
 exact h2
theorem aCf {k:aR} {m:bZ} (hm:lS m=false) {p:bZ→Bool}:dS {k with marks:=rV p m k.marks}=false:=by
 cases h:dS {k with marks:=rV p m k.marks} with
 |false=>rfl
 |true=>
  obtain⟨_,⟨_,h2,_⟩,_⟩:=(bV _).1 h
  rw[zN h2 (vY.2 (.inl rfl))] at hm
  cases hm
theorem gj {l:List bB} (hk:jO l=true) {m:bZ} (hm:lS m=false): ¬(0≤aX l m.frm m.num∧(l.getD (aX l m.frm m.num).toNat .zero).til=m.til):=by
 rintro⟨h1,h2⟩
 obtain⟨q1,q2,q3,_⟩:=dq hk h1
 have:=aCc q1
 rw[q2,q3,h2] at this
 rw[show m=⟨m.frm,m.num,m.til⟩ from rfl,this] at hm
 cases hm
theorem aE6 {k:aR} (hk:dS k=true) {w:List UInt8} {m:bZ} (hm:lS m=false):kY k (hZ k w m)=(k,false):=by
 obtain⟨_,⟨h1,_,h2⟩,_⟩:=(bV _).1 hk
 unfold hZ
 rw[if_neg (by
  intro h
  simp only[aSg,decide_eq_true_eq,beq_iff_eq] at h
  exact gj h1 hm ⟨h.1.2,h.2⟩),if_neg (by
  intro h
  simp only[aSg,decide_eq_true_eq,beq_iff_eq] at h
  exact gj h2 hm ⟨h.1.2,h.2⟩)]
 split
 · exact pE (.inr (aCf hm))
 · exact pE (.inl rfl)
def gk (k:aR) (w:List UInt8) (m:bZ):aR×Bool:=
 if w==nH then(if decide (aX k.held m.frm m.num<0)||(k.held.getD (aX k.held m.frm m.num).toNat .zero).til != m.til then(k,false) else ga k m.frm m.num)
 else if w==lY then(if decide (aX k.inbox m.frm m.num<0)||(k.inbox.getD (aX k.inbox m.frm m.num).toNat .zero).til != m.til then(k,false) else gc k m.frm m.num)
 else if w==iC then(if jI k.marks m.frm m.num≥0 then(k,false) else({k with marks:=nA k.marks m},true))
 else(k,false)
theorem gl {l:List bB} {m:bZ} (h: ¬(0≤aX l m.frm m.num∧(l.getD (aX l m.frm m.num).toNat .zero).til=m.til)): (decide (aX l m.frm m.num<0)||(l.getD (aX l m.frm m.num).toNat .zero).til != m.til)=true:=by
 by_cases h1:aX l m.frm m.num<0
 · simp[h1]
 · have h2: ¬(l.getD (aX l m.frm m.num).toNat .zero).til=m.til:=fun e=>h ⟨by omega,e⟩
   rw[Bool.or_eq_true]
   exact .inr (by simpa only[bne_iff_ne,ne_eq] using h2)
theorem aIi {k:aR} (hk:dS k=true) {w:List UInt8} {m:bZ} (hm:lS m=false):kY k (gk k w m)=(k,false):=by
 obtain⟨_,⟨h1,_,h2⟩,_⟩:=(bV _).1 hk
 unfold gk
 rw[if_pos (gl (gj h1 hm)),if_pos (gl (gj h2 hm))]
 split
 · exact pE (.inl rfl)
 · split
   · exact pE (.inl rfl)
   · split
     · split
       · exact pE (.inl rfl)
       · exact pE (.inr (aCf hm))
     · exact pE (.inl rfl)
theorem ub {k:aR} (hk:dS k=true) {i:Nat} (hi:i<k.held.length):jI k.marks (k.held.getD i .zero).frm (k.held.getD i .zero).num<0:=by
 obtain⟨_,_,h,_⟩:=(bV _).1 hk
 have h1:=aSu.1 h i (List.mem_range.2 hi)
 unfold vG at h1
 simp only[aSg,decide_eq_true_eq] at h1
 exact h1.2
theorem aIj {k:aR} (hk:dS k=true) (w:List UInt8) (m:bZ):hZ k w m=gk k w m:=by
 obtain⟨_,⟨h1,_,h2⟩,_⟩:=(bV _).1 hk
 have l1: (nH==lY)=false:=by decide
 have l2: (nH==iC)=false:=by decide
 have l3: (lY==iC)=false:=by decide
 have l4: (lY==nH)=false:=by decide
 have l5: (iC==nH)=false:=by decide
 have l6: (iC==lY)=false:=by decide
 unfold hZ gk
 by_cases w1:w=nH
 · subst w1
   rw[if_pos (show(nH==nH)=true by decide)]
   by_cases h:0≤aX k.held m.frm m.num∧(k.held.getD (aX k.held m.frm m.num).toNat .zero).til=m.til
   · obtain⟨q1,q2,q3,q4⟩:=dq h1 h.1
     have hu:=ub hk q4
     rw[q2,q3] at hu
     rw[if_pos (by rw[h.2];simp[h.1]),if_neg (by rw[h.2];simp[h.1]),ga,if_pos h.1,h.2,dp (n:=⟨m.frm,m.num,m.til⟩) hu]
   · rw[if_pos (gl h),if_neg (by
      intro h9
      simp only[aSg,decide_eq_true_eq,beq_iff_eq] at h9
      exact h ⟨h9.1.2,h9.2⟩),if_neg (by rw[l1];simp),if_neg (by rw[l2];simp)]
 · have w1': (w==nH)=false:=by simpa using w1
   rw[if_neg (by rw[w1'];simp),if_neg (show ¬(w==nH)=true by rw[w1'];simp)]
   by_cases w2:w=lY
   · subst w2
     rw[if_pos (show(lY==lY)=true by decide)]
     by_cases h:0≤aX k.inbox m.frm m.num∧(k.inbox.getD (aX k.inbox m.frm m.num).toNat .zero).til=m.til
     · rw[if_pos (by rw[h.2];simp[h.1]),if_neg (by rw[h.2];simp[h.1]),gc,if_pos h.1]
     · rw[if_pos (gl h),if_neg (by
        intro h9
        simp only[aSg,decide_eq_true_eq,beq_iff_eq] at h9
        exact h ⟨h9.1.2,h9.2⟩),if_neg (by rw[l3];simp)]
   · have w2': (w==lY)=false:=by simpa using w2
     rw[if_neg (by rw[w2'];simp),if_neg (show ¬(w==lY)=true by rw[w2'];simp)]
     by_cases w3:w=iC
     · subst w3
       rw[if_pos (show(iC==iC)=true by decide)]
       by_cases h:jI k.marks m.frm m.num<0
       · rw[if_pos (by simp[h]),if_neg (by omega),dp h]
       · rw[if_neg (by simp[h]),if_pos (by omega)]
     · have w3': (w==iC)=false:=by simpa using w3
       rw[if_neg (by rw[w3'];simp),if_neg (show ¬(w==iC)=true by rw[w3'];simp)]
theorem aE7 {k:aR} (hk:dS k=true) (w r:List UInt8):
 pD k (if gR (cV r)&&(cV r).length==3 then hZ k w (three (cV r)) else(k,false)) (if !(lH 3 r==[])|| !(r==bz (gD r)) then(k,false) else gk k w (gD r)):=by
 by_cases h: ∃m,lS m=true∧r=zM m
 · obtain⟨m,hm,rfl⟩:=h
   obtain⟨q1,q2,q3,q4,q5⟩:=aIg hm
   rw[q3,q4,q5,aCd hm,q1,q2,if_pos (by decide),if_neg (by simp),aIj hk]
   exact .rfl
 · have hL:kY k (if gR (cV r)&&(cV r).length==3 then hZ k w (three (cV r)) else(k,false))=(k,false):=by
    split
    · rename_i h1
      refine aE6 hk ?_
      cases h2:lS (three (cV r)) with
      |false=>rfl
      |true=>exact absurd ⟨_,h2,aIh h1⟩ h
    · exact pE (.inl rfl)
   have hR:kY k (if !(lH 3 r==[])|| !(r==bz (gD r)) then(k,false) else gk k w (gD r))=(k,false):=by
    split
    · exact pE (.inl rfl)
    · rename_i h1
      refine aIi hk ?_
      cases h2:lS (gD r) with
      |false=>rfl
      |true=>
       refine absurd ⟨_,h2,?_⟩ h
       rw[← aCd h2]
       simp only[Bool.or_eq_true,Bool.not_eq_true',not_or,Bool.not_eq_false,beq_iff_eq] at h1
       exact h1.2
   exact hL.trans hR.symm
theorem bj (k:aR) (rec:List UInt8):gH k rec=bY k rec:=by
 unfold gH bY
 by_cases hk:dS k=true
 · rw[if_pos hk,if_pos hk]
   symm
   show pD k _ _
   obtain⟨⟨_,⟨t0,_⟩,⟨n0,_⟩,_⟩,_⟩:=(bV _).1 hk
   have hS: ∀w r,bA rec=w→aN rec=r→fJ k rec=(if w==iS then(if fS r≤k.time then(k,false) else(jP k (fS r),true))
    else if w==jU then(if !(dR r).2||(dR r).1.frm != k.id||(dR r).1.num != k.next then(k,false) else lI {k with next:=wrap64 (k.next+1)} (dR r).1)
    else if w==fQ then(if !(dR r).2||(dR r).1.frm==k.id then(k,false) else lI k (dR r).1)
    else if w==kD then(if fS r≤k.next then(k,false) else({k with next:=fS r},true))
    else if w==gY||w==fT then
     (if !(dR r).2||decide (aX k.held (dR r).1.frm (dR r).1.num≥0)||decide (aX k.inbox (dR r).1.frm (dR r).1.num≥0) then(k,false)
      else if w==gY then({k with held:=iX k.held (dR r).1},true) else({k with inbox:=iX k.inbox (dR r).1},true))
    else if !(lH 3 r==[])|| !(r==bz (gD r)) then(k,false) else gk k w (gD r)):=by
    rintro w r rfl rfl;rfl
   have hI: ∀w r,bA rec=w→aN rec=r→fA k rec=(if fH rec then
    if w==iS||w==kD then(if(kI r).isSome then kP k w (kJ r) else(k,false))
    else if w==jU||w==fQ||w==gY||w==fT then(if(dR r).2 then fN k w (dR r).1 else(k,false))
    else if w==nH||w==lY||w==iC then(if gR (cV r)&&(cV r).length==3 then hZ k w (three (cV r)) else(k,false))
    else(k,false)
    else(k,false)):=by
    rintro w r rfl rfl;rfl
   cases hs:fH rec with
   |false=>
    obtain⟨_,_,hr⟩:=(fI rec).2 hs
    rw[hI _ _ rfl rfl,hs,hS _ _ rfl hr]
    have hd:fS []= -1:=rfl
    have hrd:dR []=(.zero,false):=rfl
    have hl: ([]==bz (gD []))=false:=by
     have:bz (gD [])≠[]:=by simp[bz]
     simpa using this
    rw[hd,hrd,hl]
    refine .no (.inl rfl) (.inl ?_)
    rw[if_pos (show(-1:Int)≤k.time by omega),if_pos (show(-1:Int)≤k.next by omega)]
    simp
   |true=>
    rw[hI _ _ rfl rfl,hs,hS _ _ rfl rfl,if_pos rfl]
    generalize aN rec=r
    generalize bA rec=w
    by_cases e1:w=iS
    · subst e1;exact aE3 hk r
    by_cases e2:w=kD
    · subst e2;exact aE4 hk r
    by_cases e3:w=jU
    · subst e3;exact aIf (dR r)
    by_cases e4:w=fQ
    · subst e4;exact aCb (dR r)
    by_cases e5:w=gY∨w=fT
    · have hx:=aE5 (k:=k) w e5 (dR r)
      rcases e5 with rfl|rfl<;>exact hx
    have b1: (w==iS)=false:=by simpa using e1
    have b2: (w==kD)=false:=by simpa using e2
    have b3: (w==jU)=false:=by simpa using e3
    have b4: (w==fQ)=false:=by simpa using e4
    have b5: (w==gY)=false:=by simpa using fun h=>e5 (.inl h)
    have b6: (w==fT)=false:=by simpa using fun h=>e5 (.inr h)
    rw[b1,b2,b3,b4,b5,b6]
    show pD k (if w==nH||w==lY||w==iC then _ else(k,false)) (if !(lH 3 r==[])|| !(r==bz (gD r)) then(k,false) else gk k w (gD r))
    cases h7: (w==nH||w==lY||w==iC) with
    |true=>exact aE7 hk w r
    |false=>
     simp only[Bool.or_eq_false_iff] at h7
     refine .no (.inl rfl) (.inl ?_)
     split
     · rfl
     · unfold gk
       rw[h7.1.1,h7.1.2,h7.2];rfl
 · rw[if_neg hk,if_neg hk]
set_option linter.unusedVariables false
set_option linter.unusedSimpArgs false
structure gI where
 num:Int
 data:List UInt8
 deriving DecidableEq
structure dY where
 frm:Int
 num:Int
 to:Int
 til:Int
 size:Int
 got:List gI
 deriving DecidableEq
structure aO where
 id:Int
 up:Bool
 log:List UInt8
 forced:Int
 halves:List dY
 deriving DecidableEq
def gI.row (m:gI):List D:=[.i m.num,.s m.data]
def dM (l:List gI):List (List D):=l.map gI.row
def dY.row (h:dY):List D:=[.i h.frm,.i h.num,.i h.to,.i h.til,.i h.size,.sl (dM h.got)]
def bM (l:List dY):List (List D):=l.map dY.row
abbrev gI.V (m:gI):V:= .e (.agg [.d (.i m.num),.d (.s m.data)])
abbrev dY.V (h:dY):V:= .e (.agg [.d (.i h.frm),.d (.i h.num),.d (.i h.to),.d (.i h.til),.d (.i h.size),.d (.sl (dM h.got))])
abbrev aO.V (k:aO):V:= .e (.agg [.d (.i k.id),.d (.b k.up),.d (.s k.log),.d (.i k.forced),.d (.sl (bM k.halves))])
def gI.zero:gI:=⟨0,[]⟩
def dY.zero:dY:=⟨0,0,0,0,0,[]⟩
def aO.zero:aO:=⟨0,false,[],0,[]⟩
theorem bO (l:List gI): (dM l).length=l.length:=by simp[dM]
theorem aM (l:List dY): (bM l).length=l.length:=by simp[bM]
theorem xH (l:List gI): ∀r∈dM l,r.length=2:=by
 intro r hr
 obtain⟨b,_,rfl⟩:=aSq.1 hr
 rfl
theorem vH (l:List dY): ∀r∈bM l,r.length=6:=by
 intro r hr
 obtain⟨b,_,rfl⟩:=aSq.1 hr
 rfl
theorem sM {l:List gI} {i:Nat} (h:i<l.length): (dM l).getD i []=(l.getD i .zero).row:=by
 rw[aSl,aSl]
 simp[dM,h]
theorem iD {l:List dY} {i:Nat} (h:i<l.length): (bM l).getD i []=(l.getD i .zero).row:=by
 rw[aSl,aSl]
 simp[bM,h]
theorem xI (l:List gI) (x:gI):dM l++[x.row]=dM (l++[x]):=by simp[dM]
theorem qS (l:List dY) (x:dY):bM l++[x.row]=bM (l++[x]):=by simp[bM]
theorem aCg (l:List gI) (a b:Nat): ∀r∈((dM l).take a).drop b,r.length=2:=fun r hr=>xH l r (List.mem_of_mem_take (List.mem_of_mem_drop hr))
theorem gm (l:List dY) (a b:Nat): ∀r∈((bM l).take a).drop b,r.length=6:=fun r hr=>vH l r (List.mem_of_mem_take (List.mem_of_mem_drop hr))
def zO (m:gI):Bool:=gX m.num 0 999&&decide ((m.data.length:Int)=4)
def nS (l:List gI) (i:Nat):Bool:=zO (l.getD i .zero)&&(aSp i).all fun j=> !((l.getD j .zero).num==(l.getD i .zero).num)
def pF (h:dY):Bool:=eB h.frm&&eB h.to&&gX h.num 1 99&&gX h.til 1 999&&gX h.size 1 24&&decide ((h.got.length:Int)≤14)
def qD (h:dY):Bool:=pF h&&(aSp h.got.length).all (nS h.got)
def kR (l:List dY) (f n:Int) (i:Nat):Bool:=(l.getD i .zero).frm==f&&(l.getD i .zero).num==n
def iA (l:List dY) (f n:Int):Int:=kB (kR l f n) 0 l.length
def kE (l:List dY) (i:Nat):Bool:=qD (l.getD i .zero)&&(aSp i).all fun j=> !kR l (l.getD i .zero).frm (l.getD i .zero).num j
def jJ (k:aO):Bool:=eB k.id&&eV k.log k.forced&&decide ((k.halves.length:Int)≤3)&&(k.up||decide (k.halves.length=0))
def aZ (k:aO):aR×Bool:=gT k.id (dB k.log).1
def qn (k:aO):aR×Bool:=gT k.id (dB (k.log.take k.forced.toNat)).1
def bF (k:aO):Bool:=jJ k&&(aZ k).2&&(qn k).2&&(aSp k.halves.length).all (kE k.halves)
theorem qT {l:List UInt8} {f:Int} (h:eV l f=true):l.length≤2400∧(0≤f∧f≤l.length)∧(dB l).2=l.length∧((dB (l.take f.toNat)).2:Int)=f:=by
 simp only[eV,gX,aSg,decide_eq_true_eq] at h
 exact⟨h.1.1.1,h.1.1.2,h.1.2,h.2⟩
theorem aIk {s r:List UInt8} {n:Nat} (h:lW s=some (r,n)):r.length≤s.length:=by
 unfold lW at h
 split at h
 · cases h
 · split at h
   · cases h
   · split at h
     · cases h
       rw[aSr,aSk];omega
     · cases h
theorem ca: ∀(k:Nat) (s:List UInt8),s.length≤k→ ∀x∈(dB s).1,x.length≤s.length
 |0,s,h,x,hx=>by
  obtain rfl:s=[]:=List.eq_nil_of_length_eq_zero (by omega)
  rw[kO vX] at hx;cases hx
 |k+1,s,h,x,hx=>by
  cases hr:lW s with
  |none=>rw[kO hr] at hx;cases hx
  |some p=>
   obtain⟨r,n⟩:=p
   have h1:=qB hr
   rw[tN hr] at hx
   rcases aSw.1 hx with rfl|hx
   · exact aIk hr
   · have:=ca k (s.drop n) (by rw[aSr];omega) x hx
     rw[aSr] at this;omega
theorem mJ (s:List UInt8) (h:s.length≤900000): (dB s).1.length≤900000∧ ∀x∈(dB s).1,x.length≤900000:=
 ⟨by have:=(wX s.length s (aSo _)).2;omega,fun x hx=>by have:=ca s.length s (aSo _) x hx;omega⟩
theorem mM {h:dY} (hh:pF h=true):eB h.frm=true∧eB h.to=true∧(1≤h.num∧h.num≤99)∧(1≤h.til∧h.til≤999)∧(1≤h.size∧h.size≤24)∧h.got.length≤14:=by
 simp only[pF,gX,aSg,decide_eq_true_eq] at hh
 obtain⟨⟨⟨⟨⟨h1,h2⟩,h3⟩,h4⟩,h5⟩,h6⟩:=hh
 exact⟨h1,h2,h3,h4,h5,by omega⟩
theorem gM {k:aO} (h:jJ k=true):eB k.id=true∧eV k.log k.forced=true∧k.halves.length≤3∧(k.up=true∨k.halves.length=0):=by
 simp only[jJ,aSg,Bool.or_eq_true,decide_eq_true_eq] at h
 obtain⟨⟨⟨h1,h2⟩,h3⟩,h4⟩:=h
 exact⟨h1,h2,by omega,h4⟩
theorem aCh {l:List gI} {i:Nat} (h1:zO (l.getD i .zero)=true) (h2: ∀j,j<i→((l.getD j .zero).num==(l.getD i .zero).num)=false):nS l i=true:=by
 unfold nS
 rw[h1,Bool.true_and]
 exact iR fun j hj=>by rw[h2 j hj];rfl
theorem aCi {l:List gI} {i:Nat} (h1:zO (l.getD i .zero)=false):nS l i=false:=by
 unfold nS;rw[h1];rfl
theorem aE8 {l:List gI} {i j:Nat} (hj:j<i) (h2: ((l.getD j .zero).num==(l.getD i .zero).num)=true):nS l i=false:=by
 unfold nS
 rw[gA hj (by rw[h2];rfl),Bool.and_false]
theorem zk {l:List dY} {i:Nat} (h1:qD (l.getD i .zero)=true) (h2: ∀j,j<i→kR l (l.getD i .zero).frm (l.getD i .zero).num j=false):kE l i=true:=by
 unfold kE
 rw[h1,Bool.true_and]
 exact iR fun j hj=>by rw[h2 j hj];rfl
theorem zl {l:List dY} {i:Nat} (h1:qD (l.getD i .zero)=false):kE l i=false:=by
 unfold kE;rw[h1];rfl
theorem aCj {l:List dY} {i j:Nat} (hj:j<i) (h2:kR l (l.getD i .zero).frm (l.getD i .zero).num j=true):kE l i=false:=by
 unfold kE
 rw[gA hj (by rw[h2];rfl),Bool.and_false]
theorem aIl (l:List dY) (f m:Int): -1≤iA l f m∧iA l f m<l.length:=by
 rcases jD (kR l f m) l.length 0 with h|⟨k,h,_,h2,_⟩<;>rw[iA,h]<;>omega
theorem aOo (a b:Int):decide (a>b)= !decide (a≤b):=by
 by_cases h:a≤b
 · simp[h,Int.not_lt.2 h]
 · simp[h,Int.not_le.1 h]
theorem cc {k:aO} (h:jJ k=false):bF k=false:=by rw[bF,h];rfl
theorem aCk {k:aO} {a b:Bool} (h: (!a|| !b)=true) (h2: ((aZ k).2=a∧(qn k).2=b)∨((aZ k).2=b∧(qn k).2=a)):bF k=false:=by
 unfold bF
 rcases h2 with⟨h1,h2⟩|⟨h1,h2⟩<;>rw[h1,h2]<;>cases a<;>cases b<;>simp_all
theorem zm {k:aO} {a b:Bool} (hh:jJ k=true) (h: (!a|| !b)=false) (h2: ((aZ k).2=a∧(qn k).2=b)∨((aZ k).2=b∧(qn k).2=a)):bF k=(aSp k.halves.length).all (kE k.halves):=by
 unfold bF
 rcases h2 with⟨h1,h2⟩|⟨h1,h2⟩<;>rw[h1,h2,hh]<;>cases a<;>cases b<;>simp_all
theorem aCl {h:dY} {c:Bool} (hh: (!eB h.frm|| !eB h.to|| !gX h.num 1 99|| !gX h.til 1 999|| !gX h.size 1 24||decide (((dM h.got).length:Int)>14))=c):pF h= !c:=by
 subst hh
 rw[bO,aOo]
 unfold pF
 simp only[Bool.not_or,Bool.not_not]
theorem qo {k:aO} {c:Bool} (hh: (!eB k.id|| !eV k.log k.forced||decide (((bM k.halves).length:Int)>3)||(!k.up&&decide (((bM k.halves).length:Int)>0)))=c):jJ k= !c:=by
 subst hh
 have e:decide ((k.halves.length:Int)>0)= !decide (k.halves.length=0):=by
  by_cases h:k.halves.length=0
  · rw[h];rfl
  · rw[decide_eq_true (show(k.halves.length:Int)>0 by omega),decide_eq_false h];rfl
 rw[aM,aOo,e]
 unfold jJ
 simp only[Bool.not_or,Bool.not_not,Bool.not_and]
theorem aE9 {l:List UInt8} {f:Int} (h: (decide ((l.length:Int)>2400)|| !gX f 0 l.length)=true):eV l f=false:=by
 unfold eV
 rcases Bool.or_eq_true _ _▸h with h|h
 · rw[decide_eq_false (show ¬l.length≤2400 by have:=of_decide_eq_true h;omega)];rfl
 · rw[Bool.not_eq_true'] at h
   rw[h];simp
theorem aCm {l:List UInt8} {f:Int} (h: (decide ((l.length:Int)>2400)|| !gX f 0 l.length)=false): (l.length≤2400∧0≤f∧f≤l.length)∧eV l f=(((dB l).2:Int)==(l.length:Int)&&((dB (l.take f.toNat)).2:Int)==f):=by
 rw[Bool.or_eq_false_iff] at h
 have h1:l.length≤2400:=by have:=of_decide_eq_false h.1;omega
 have h2:gX f 0 l.length=true:=by simpa using h.2
 have h3:0≤f∧f≤l.length:=by simpa[gX] using h2
 refine⟨⟨h1,h3⟩,?_⟩
 unfold eV
 rw[decide_eq_true h1,h2,Bool.true_and,Bool.true_and]
 congr 1
 by_cases e: (dB l).2=l.length
 · rw[e];simp
 · rw[decide_eq_false e]
   symm
   rw[beq_eq_false_iff_ne]
   omega
set_option linter.unusedVariables false
set_option linter.unusedSimpArgs false
def aO.row (k:aO):List D:=[.i k.id,.b k.up,.s k.log,.i k.forced,.sl (bM k.halves)]
set_option linter.unusedVariables false
set_option linter.unusedSimpArgs false
def mN (l:List UInt8) (f:Int):List UInt8×Int:=if eV l f then(l,l.length) else([],0)
def jV (l:List UInt8) (f keep:Int):Int:=f+(if 0<min keep (l.length - f) then min keep (l.length - f) else 0)
def nq (l:List UInt8) (f keep:Int):Nat:=(dB (l.take (jV l f keep).toNat)).2
def jE (l:List UInt8) (f keep:Int):List UInt8×Int:=if eV l f then(l.take (nq l f keep),nq l f keep) else([],0)
def kZ (rec:List UInt8):List UInt8:=jQ rec.length++[58]++rec++[59]
def uN (rec:List UInt8):Bool:=gX rec.length 1 60
def cB (l:List UInt8) (f:Int) (rec:List UInt8): (List UInt8×Int)×Bool:=
 if eV l f then(if uN rec&&decide (l.length+(kZ rec).length≤2400) then((l++kZ rec,f),true) else((l,f),false)) else(([],0),false)
def gU (recs:List (List UInt8)):List UInt8:=(recs.map kZ).flatten
def eO (l:List UInt8) (f:Int) (recs:List (List UInt8)): (List UInt8×Int)×Bool:=
 if eV l f then(if recs.all uN&&decide ((gU recs).length≤2400) then((gU recs,(gU recs).length),true) else((l,f),false)) else(([],0),false)
theorem zn {l:List UInt8} {f keep:Int} (h:0≤f∧f≤l.length):f≤jV l f keep∧jV l f keep≤l.length:=by
 unfold jV
 split<;>omega
theorem aFa (l:List UInt8) (f keep:Int):nq l f keep≤l.length:=by
 have:=(wX _ (l.take (jV l f keep).toNat) (aSo _)).1
 rw[aSk] at this
 unfold nq;omega
theorem zP {rec:List UInt8} (h:rec.length≤900000): (kZ rec).length≤rec.length+8:=by
 have h2:=cA (k:=5) (n:=rec.length) (by simp;omega)
 simp only[kZ,aSe,aSi,aSh];omega
theorem zo (recs:List (List UInt8)) (r:List UInt8):gU (recs++[r])=gU recs++kZ r:=by simp[gU]
def mO (k:aO) (keep:Int):aO:=if bF k then⟨k.id,false,(jE k.log k.forced keep).1,(jE k.log k.forced keep).2,[]⟩ else .zero
def jK (k:aO):aO:=if bF k then{k with up:=true} else .zero
def tW (k:aO):aO:={k with log:=(mN k.log k.forced).1,forced:=(mN k.log k.forced).2}
def eF (k:aO):aO×Bool:=if bF k then(if !k.up||k.forced==k.log.length then(k,false) else(tW k,true)) else(.zero,false)
def dI (k:aO):aR:=if bF k then(aZ k).1 else .zero
theorem fV {k:aO} (h:bF k=true):jJ k=true∧k.log.length≤2400∧(0≤k.forced∧k.forced≤k.log.length)∧k.halves.length≤3∧(k.up=true∨k.halves=[])∧ ∀x∈k.halves,x.got.length≤14:=by
 have h1:jJ k=true:=by
  cases hh:jJ k with
  |true=>rfl
  |false=>rw[cc hh] at h;cases h
 obtain⟨_,q1,q2,q3⟩:=gM h1
 obtain⟨q4,q5,_,_⟩:=qT q1
 refine⟨h1,q4,q5,q2,q3.imp (fun h=>h) (fun h=>List.eq_nil_of_length_eq_zero h),fun x hx=> ?_⟩
 unfold bF at h
 rw[aSg] at h
 obtain⟨i,hi⟩:=List.mem_iff_getElem?.1 hx
 have hlt:=(aSm.1 hi).1
 have h2:=aSu.1 h.2 i (List.mem_range.2 hlt)
 unfold kE at h2
 rw[aSg] at h2
 have h3:=h2.1
 rw[aSl,hi] at h3
 have h3:qD x=true:=h3
 unfold qD at h3
 rw[aSg] at h3
 exact(mM h3.1).2.2.2.2.2
def mz (k:aO):Prop:=k.log.length≤2400∧k.halves.length≤4∧ ∀x∈k.halves,x.got.length≤15
theorem aIm {k:aO} (h:bF k=true) (hu:k.up=false):jK k=⟨k.id,true,k.log,k.forced,[]⟩:=by
 obtain⟨_,_,_,_,h4,_⟩:=fV h
 have h5:k.halves=[]:=by
  rcases h4 with h4|h4
  · rw[hu] at h4;cases h4
  · exact h4
 rw[jK,if_pos h,← h5]
end Go.Ab
