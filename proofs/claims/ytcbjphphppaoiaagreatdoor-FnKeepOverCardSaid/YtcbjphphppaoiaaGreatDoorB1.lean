/- Plain functions, and contracts of the functions that the law reaches. -/
import Derived.Laws.StructEq
import Derived.Sort.Grow
import Derived.Deep.Draws
import Derived.Lib.Split
import Derived.Lib.IndexMore
import Derived.Lib.IndexBytes
import Derived.Lib.CountLaws
import Derived.Test.YtcbjphphppaoiaaGreatDoorB0
namespace Go.Ab
open Int renaming toNat_natCast→aU4,tmod→aVg
open List renaming length_append→aU5,length_nil→aU8,length_cons→aU9,getD_eq_getElem?_getD→aVb,length_take→aVc,getElem?_eq_getElem→aVd,getElem?_eq_some_iff→aVe,range→aVh,all_eq_true→aVi,mem_map→aVj,length_drop→aVk,take_length→aVl,mem_cons→aVm,mem_singleton→aVn,mem_iff_getElem?→aVp
open Nat renaming le_of_ble_eq_true→aU6,zero_le→aVa,le_refl→aVf,add_mul→aVo
open Bool renaming and_eq_true→aU7
open Go Go.RowKit
set_option linter.unusedVariables false
set_option linter.unusedSimpArgs false
def keep (ks:List Nat):St→St
 | []=>[]
 |(.t s,k)::r=>match iU s ks with|true=>(.t s,k)::keep ks r|false=>keep ks r
 |(.o n,k)::r=>(.o n,k)::keep ks r
def qY (ks:List Nat):St→(St→Prop)→Prop
 | [],c=>c []
 |(.t s,k)::r,c=>match iU s ks with|true=>qY ks r fun r'=>c ((.t s,k)::r')|false=>qY ks r c
 |(.o n,k)::r,c=>qY ks r fun r'=>c ((.o n,k)::r')
theorem mQ {ks:List Nat}: ∀{σ:St} {c:St→Prop},qY ks σ c↔c (keep ks σ)
 | [],c=>Iff.rfl
 |(.t s,k)::r,c=>by
  unfold qY keep
  cases iU s ks
  · exact mQ
  · exact mQ
 |(.o n,k)::r,c=>by unfold qY keep;exact mQ
theorem nD (ks:List Nat): ∀(σ:St) (o:Nat),aU (keep ks σ) (.o o)=aU σ (.o o)
 | [],o=>rfl
 |(.t s,k)::r,o=>by
  unfold keep
  cases iU s ks
  · simp only[aU];rw[if_neg (by simp)];exact nD ks r o
  · simp only[aU];rw[if_neg (by simp),if_neg (by simp)];exact nD ks r o
 |(.o n,k)::r,o=>by
  unfold keep
  simp only[aU]
  rw[nD ks r o]
theorem vO (ks:List Nat): ∀(σ:St) (s:Nat) (k:K),aU (keep ks σ) (.t s)=some k→aU σ (.t s)=some k
 | [],s,k,h=>h
 |(.t a,x)::r,s,k,h=>by
  unfold keep at h
  cases hm:iU a ks with
  |false=>
   rw[hm] at h
   simp only[aU]
   by_cases e:a=s
   ·
    have hno: ∀(r:St),aU (keep ks r) (.t a)=none:=by
     intro r
     induction r with
     |nil=>rfl
     |cons p r ih=>
      obtain⟨l,y⟩:=p
      cases l with
      |o n=>unfold keep;simp only[aU];rw[if_neg (by simp)];exact ih
      |t b=>
       unfold keep
       cases hb:iU b ks with
       |false=>exact ih
       |true=>
        simp only[aU]
        by_cases e2:b=a
        · subst e2;rw[hm] at hb;cases hb
        · rw[if_neg (by simpa using e2)];exact ih
    subst e
    have h:aU (keep ks r) (.t a)=some k:=h
    rw[hno r] at h;cases h
   · rw[if_neg (by simpa using e)];exact vO ks r s k h
  |true=>
   rw[hm] at h
   simp only[aU] at h ⊢
   by_cases e:dF.t a=dF.t s
   · rw[if_pos e] at h ⊢; exact h
   · rw[if_neg e] at h ⊢; exact vO ks r s k h
 |(.o n,x)::r,s,k,h=>by
  unfold keep at h
  simp only[aU] at h ⊢
  rw[if_neg (by simp)] at h ⊢
  exact vO ks r s k h
theorem RW.keep (ks:List Nat) {P:Program} {cx:Cx P} {σ:St} {ι:Nat→Value} {S:Nat→Prop} {a:Act} {w:World} (h:RW cx σ ι S a w):RW cx (keep ks σ) ι S a w:=by
 have st:qT σ ι S w (Ab.keep ks σ) ι S w:=⟨fun _ h=>h,fun _ _=>rfl,fun o k hk=>⟨k,by rw[nD];exact hk,nA.refl' _ _⟩⟩
 have hmut: ∀o b,kR (Ab.keep ks σ) ι o b↔kR σ ι o b:=fun o b=>by unfold kR;rw[nD]
 refine⟨⟨fun s x hx=>qU.step st (h.vr.slots s x (vO ks σ s _ hx)),fun o k hk=>OR.step st (fun _ _=>rfl) (h.vr.objs o k (by rw[← nD ks];exact hk)),fun o b q=>h.vr.mutS o b ((hmut o b).1 q),fun o o' b q q'=>h.vr.inj o o' b ((hmut o b).1 q) ((hmut o' b).1 q'),h.vr.sz⟩,
  h.size,h.defers,h.fr,fun o b q=>h.own o b ((hmut o b).1 q),h.rd,fun o k hk=>by rw[nD];exact h.io o k hk⟩
section
variable {P:Program} {io:List Nat} {Q:Ex→St→Prop} {σ:St}
theorem SW.keep (ks:List Nat) {c:Code} (h:qY ks σ (SW P io c Q)):SW P io c Q σ:=by
 rw[mQ] at h
 intro cx ι S a w hio hw hf
 exact h cx ι S a w hio (hw.keep ks) hf
theorem SW.mid (J:St→Prop) {x y:Code} (h:SW P io x (il J Q) σ) (hy: ∀s,J s→SW P io y Q s):SW P io (.seq x y) Q σ:=
 SW.seq (h.mono fun e s hq=>by
  cases e with
  |norm=>exact hy s hq
  |exit id=>exact hq
  |ret=>exact hq)
end
theorem eN {T:gQ} {io:List Nat} {rs:List ResultVar} {σout s:St} (X:V) (rl:List (Nat×Nat)) (bor:List Nat) (h1:aGc T s rs=some X) (h2:mL ((.t 0,.v X)::dY s) σout rl bor σout) (h3:zQ σout rl bor=true) (h4:sa io σout rl bor=true):zR T io rs σout s:=
 ⟨X,rl,bor,h1,⟨h2,h3⟩,h4⟩
theorem bH {T:gQ} {io:List Nat} {rs:List ResultVar} {s:St} {x y:D} (h1:aGc T s rs=some (Dv x)) (h2:x=y):zR T io rs [(.t 0,.v (Dv y))] s:=
 ⟨Dv x,[],[],h1,⟨⟨⟨Dv x,rfl,h2⟩,trivial⟩,rfl⟩,by simp[sa,cA];exact fun x _=> .inl rfl⟩
def gb (want x:Bool):Bool:=match want with|true=>x|false=> !x
def gOf (want:Bool):Option K→Option Bool
 |some (.v (.e (.c (.d (.b x)))))=>some (gb want x)
 |some (.cv _ _ b (.e (.c (.d (.b x)))))=>some (b&&gb want x)
 |_=>none
def jM (s:Nat) (want:Bool):St→St
 | []=>[]
 |(.t t,.cv s' want' b X)::r=>match Nat.beq s' s&&(want'==want) with
  |true=>(.t t,.v X)::jM s want r
  |false=>(.t t,.cv s' want' b X)::jM s want r
 |p::r=>p::jM s want r
def oF (σ:St):List (dF×Option K)→Prop
 | []=>True
 |p::r=>match aU σ p.1,p.2 with
  |some (.cv _ _ b _),some (.v _)=>b=true∧oF σ r
  |_,_=>oF σ r
def md (σ:St) (R:List (dF×Option K)):List (dF×Option K):=R.map fun p=>(p.1,aU σ p.1)
theorem jU (s:Nat) (want:Bool): ∀(σ:St) (l:dF),aU (jM s want σ) l=aU σ l∨ ∃s' w' b X,aU σ l=some (.cv s' w' b X)∧aU (jM s want σ) l=some (.v X)
 | [],l=> .inl rfl
 |(.t t,.v X)::r,l=>by
  simp only[jM,aU]
  by_cases e:dF.t t=l
  · rw[if_pos e,if_pos e];exact .inl rfl
  · rw[if_neg e,if_neg e];exact jU s want r l
 |(.t t,.box a b)::r,l=>by
  simp only[jM,aU]
  by_cases e:dF.t t=l
  · rw[if_pos e,if_pos e];exact .inl rfl
  · rw[if_neg e,if_neg e];exact jU s want r l
 |(.t t,.row a b c)::r,l=>by
  simp only[jM,aU]
  by_cases e:dF.t t=l
  · rw[if_pos e,if_pos e];exact .inl rfl
  · rw[if_neg e,if_neg e];exact jU s want r l
 |(.t t,.dead)::r,l=>by
  simp only[jM,aU]
  by_cases e:dF.t t=l
  · rw[if_pos e,if_pos e];exact .inl rfl
  · rw[if_neg e,if_neg e];exact jU s want r l
 |(.t t,.zone a)::r,l=>by
  simp only[jM,aU]
  by_cases e:dF.t t=l
  · rw[if_pos e,if_pos e];exact .inl rfl
  · rw[if_neg e,if_neg e];exact jU s want r l
 |(.o t,k)::r,l=>by
  simp only[jM,aU]
  by_cases e:dF.o t=l
  · rw[if_pos e,if_pos e];exact .inl rfl
  · rw[if_neg e,if_neg e];exact jU s want r l
 |(.t t,.cv s' w' b X)::r,l=>by
  simp only[jM]
  cases Nat.beq s' s&&(w'==want) with
  |true=>
   simp only[aU]
   by_cases e:dF.t t=l
   · rw[if_pos e,if_pos e];exact .inr ⟨s',w',b,X,rfl,rfl⟩
   · rw[if_neg e,if_neg e];exact jU s want r l
  |false=>
   simp only[aU]
   by_cases e:dF.t t=l
   · rw[if_pos e,if_pos e];exact .inl rfl
   · rw[if_neg e,if_neg e];exact jU s want r l
theorem RW.reslot {P:Program} {cx:Cx P} {σ σ2:St} {ι:Nat→Value} {S:Nat→Prop} {a:Act} {w:World} (h:RW cx σ ι S a w) (ho: ∀o,aU σ2 (.o o)=aU σ (.o o)) (hs: ∀t k,aU σ2 (.t t)=some k→qU σ ι w S k (iJ a t)):RW cx σ2 ι S a w:=by
 have st:qT σ ι S w σ2 ι S w:=⟨fun _ h=>h,fun _ _=>rfl,fun o k hk=>⟨k,by rw[ho];exact hk,nA.refl' _ _⟩⟩
 have hmut: ∀o b,kR σ2 ι o b↔kR σ ι o b:=fun o b=>by unfold kR;rw[ho]
 exact⟨⟨fun s x hx=>qU.step st (hs s x hx),fun o k hk=>OR.step st (fun _ _=>rfl) (h.vr.objs o k (by rw[← ho];exact hk)),fun o b q=>h.vr.mutS o b ((hmut o b).1 q),fun o o' b q q'=>h.vr.inj o o' b ((hmut o b).1 q) ((hmut o' b).1 q'),h.vr.sz⟩,
  h.size,h.defers,h.fr,fun o b q=>h.own o b ((hmut o b).1 q),h.rd,fun o k hk=>by rw[ho];exact h.io o k hk⟩
theorem sf {σ:St}: ∀{R:List (dF×Option K)},oF σ R→ ∀p∈R,∀s w b X Y,aU σ p.1=some (.cv s w b X)→p.2=some (.v Y)→b=true
 | [],_,p,hp=>by cases hp
 |q::r,h,p,hp=>by
  intro s w b X Y hl hy
  rcases aVm.1 hp with rfl|hp
  · simp only[oF,hl,hy] at h;exact h.1
  · refine sf (R:=r) ?_ p hp s w b X Y hl hy
    simp only[oF] at h
    split at h
    · exact h.2
    · exact h
theorem sg {P:Program} {cx:Cx P} {σ:St} {ι:Nat→Value} {S:Nat→Prop} {a:Act} {w:World} (hw:RW cx σ ι S a w) {ops:Array Oper} {o:Oper} {j s:Nat} {want g:Bool} (hg:o.guard=some (j,want)) (hs: (ops[j]?).bind (·.dst)=some s) (hl:gOf want (aU σ (.t s))=some g):
 Region.wanted o (yielded ops a.tmps)=g:=by
 have key: ∀x,iJ a s= .bool x→yielded ops a.tmps j=some x:=by
  intro x h2
  have h3:a.tmps[s]? =some (.bool x):=by
   unfold iJ at h2
   rw[Array.getD_eq_getD_getElem?] at h2
   cases hq:a.tmps[s]? with
   |none=>rw[hq] at h2;simp[undef] at h2
   |some v=>rw[hq] at h2;simp at h2;rw[h2]
  simp[yielded,hs,h3]
 have keyu:iJ a s=undef→yielded ops a.tmps j=none:=by
  intro h2
  unfold iJ at h2
  rw[Array.getD_eq_getD_getElem?] at h2
  cases hq:a.tmps[s]? with
  |none=>simp[yielded,hs,hq]
  |some v=>rw[hq] at h2;simp at h2;simp[yielded,hs,hq,h2,undef]
 unfold gOf at hl
 split at hl
 · rename_i x hx
   cases hl
   have h1:=hw.vr.slots s _ hx
   simp only[qU,lR,ER,CR] at h1
   have h2:iJ a s= .bool x:=by generalize iJ a s=v at h1;cases h1;rfl
   cases want<;>cases x<;>simp[Region.wanted,hg,key _ h2,gb]
 · rename_i s' w' b x hx
   cases hl
   have h1:=hw.vr.slots s _ hx
   cases b with
   |true=>
    have h1:=h1.1 rfl
    simp only[lR,ER,CR] at h1
    have h2:iJ a s= .bool x:=by generalize iJ a s=v at h1;cases h1;rfl
    cases want<;>cases x<;>simp[Region.wanted,hg,key _ h2,gb]
   |false=>
    have h2:=h1.2 rfl
    simp[Region.wanted,hg,keyu h2]
 · cases hl
theorem jV (s:Nat) (want:Bool): ∀(σ:St) (o:Nat),aU (jM s want σ) (.o o)=aU σ (.o o)
 | [],l=>rfl
 |(.o t,k)::r,l=>by
  simp only[jM,aU]
  rw[jV s want r l]
 |(.t t,.v X)::r,l=>by simp only[jM,aU];rw[if_neg (by simp),if_neg (by simp)];exact jV s want r l
 |(.t t,.box a b)::r,l=>by simp only[jM,aU];rw[if_neg (by simp),if_neg (by simp)];exact jV s want r l
 |(.t t,.row a b c)::r,l=>by simp only[jM,aU];rw[if_neg (by simp),if_neg (by simp)];exact jV s want r l
 |(.t t,.dead)::r,l=>by simp only[jM,aU];rw[if_neg (by simp),if_neg (by simp)];exact jV s want r l
 |(.t t,.zone a)::r,l=>by simp only[jM,aU];rw[if_neg (by simp),if_neg (by simp)];exact jV s want r l
 |(.t t,.cv s' w' b X)::r,l=>by
  simp only[jM]
  cases Nat.beq s' s&&(w'==want)<;>(simp only[aU];rw[if_neg (by simp),if_neg (by simp)];exact jV s want r l)
theorem qq: ∀{W:List (dF×K)} {l:dF} {k:K},wr W l=some k→(l,k)∈W
 | [],l,k,h=>by cases h
 |p::r,l,k,h=>by
  unfold wr at h
  cases hq:wr r l with
  |some k'=>rw[hq] at h;cases h;exact List.mem_cons_of_mem _ (qq hq)
  |none=>
   rw[hq] at h
   simp only at h
   split at h
   · rename_i e;cases h;rw[← e];exact List.mem_cons_self ..
   · cases h
def aSx (p:dF×Option K):Option (dF×K):=match p.2 with
 |some (.v X)=>some (p.1,.v X)
 |_=>none
theorem aBg {P:Program} {ops:Array Oper} {o:Oper} {σ:St} {R:List (dF×Option K)} {X:V} {d j s:Nat} {want g:Bool} (hg:o.guard=some (j,want)) (hs: (ops[j]?).bind (·.dst)=some s) (hd:o.dst=some d) (hl:gOf want (aU σ (.t s))=some g)
 (hop:g=true→wY P o R [(.t d,.v X)]∧bL R (jM s want σ)) (hok:g=true→oF σ R):ItT P ops o ((.t s,aU σ (.t s))::md σ R,[(.t d,.cv s want g X)]):=by
 intro cx σ1 ι S a w hr hw hb next Q hn
 have hls:aU σ1 (.t s)=aU σ (.t s):=hr (.t s,aU σ (.t s)) (List.mem_cons_self ..)
 have hact: ∀p∈R,aU σ1 p.1=aU σ p.1:=fun p hp=>hr (p.1,aU σ p.1) (List.mem_cons_of_mem _ (aVj.2 ⟨p,hp,rfl⟩))
 rw[sg hw hg hs (by rw[hls];exact hl)]
 have hdN:=hb d hd
 cases g with
 |false=>
  rw[if_neg (by simp)]
  rw[hd]
  have h1:=hw.putDead hdN undef
  refine hn ι S _ w (h1.reslot (fun o=>by simp only[iL];rw[cM _ _ (by simp),cM _ _ (by simp)]) fun t k hk=> ?_)
  simp only[iL] at hk
  rw[oI] at hk
  split at hk
  · rename_i e;cases e;cases hk
    refine⟨(by simp),fun _=> ?_⟩
    rw[fh (by rw[hw.size];exact hdN),if_pos rfl]
  · rename_i e
    exact h1.vr.slots t k (by rw[cM _ _ e];exact hk)
 |true=>
  rw[if_pos rfl]
  left
  obtain⟨hop,hrd⟩:=hop rfl
  have hok:=hok rfl
  let L:List (dF×K):=R.filterMap aSx
  have hL: ∀l k,(l,k)∈L→ ∃Y,k= .v Y∧aU (jM s want σ) l=some (.v Y)∧aU σ1 l=aU σ l∧(aU σ l=some (.v Y)∨ ∃s' w',aU σ l=some (.cv s' w' true Y)):=by
   intro l k hm
   obtain⟨p,hp,hpe⟩:=List.mem_filterMap.1 hm
   obtain⟨pl,pk⟩:=p
   unfold aSx at hpe
   split at hpe
   · rename_i e1 Y e2
     cases hpe
     simp only at e2 ⊢
     have h1:=hrd _ hp
     simp only at h1
     refine⟨Y,rfl,h1.trans e2,hact _ hp,?_⟩
     rcases jU s want σ pl with h3|⟨s2,w2,b2,X2,h3,h4⟩
     · left;rw[← h3,h1,e2]
     · rw[h4,e2] at h1;cases h1
       have:=sf hok _ hp _ _ _ _ _ h3 e2
       subst this
       exact .inr ⟨_,_,h3⟩
   · cases hpe
  have hσ2: ∀l,aU (iL σ1 L) l=aU σ1 l∨ ∃Y s' w',aU (iL σ1 L) l=some (.v Y)∧aU σ1 l=some (.cv s' w' true Y):=by
   intro l
   rw[lG]
   cases hq:wr L l with
   |none=>exact .inl rfl
   |some k=>
    obtain⟨Y,rfl,h1,h2,h3⟩:=hL l k (qq hq)
    rcases h3 with h3|⟨s',w',h3⟩
    · left;rw[h2,h3]
    · right;exact⟨Y,s',w',rfl,by rw[h2,h3]⟩
  have hσ2o: ∀o,aU (iL σ1 L) (.o o)=aU σ1 (.o o):=by
   intro o'
   rw[lG]
   cases hq:wr L (.o o') with
   |none=>rfl
   |some k=>
    obtain⟨Y,rfl,h1,h2,h3⟩:=hL _ k (qq hq)
    rw[jV] at h1
    rw[h2,h1]
  have hrw2:RW cx (iL σ1 L) ι S a w:=hw.reslot hσ2o fun t k hk=>by
   rcases hσ2 (.t t) with h|⟨Y,s',w',h1,h2⟩
   · rw[h] at hk;exact hw.vr.slots t k hk
   · rw[h1] at hk;cases hk
     exact(hw.vr.slots t _ h2).1 rfl
  have hrd2:bL R (iL σ1 L):=by
   intro p hp
   have h1:=hrd p hp
   rw[lG]
   cases hq:wr L p.1 with
   |some k=>
    obtain⟨Y,rfl,h2,_,_⟩:=hL _ k (qq hq)
    rw[← h1,h2]
   |none=>
    show aU σ1 p.1=p.2
    rw[hact p hp]
    rcases jU s want σ p.1 with h3|⟨s2,w2,b2,X2,h3,h4⟩
    · rw[← h3];exact h1
    · exfalso
      have: (p.1,K.v X2)∈L:=List.mem_filterMap.2 ⟨p,hp,by unfold aSx;rw[← h1,h4]⟩
      obtain⟨k,hk⟩:=aOl (W:=L) (l:=p.1) (aVj.2 ⟨_,this,rfl⟩)
      rw[hk] at hq;cases hq
  refine hop cx (iL σ1 L) ι S a w hrd2 hrw2 hb next Q fun ι' S' a' w' hw'=>hn ι' S' a' w' ?_
  simp only[iL] at hw' ⊢
  refine hw'.reslot (fun o'=>by rw[cM _ _ (by simp),cM _ _ (by simp),hσ2o]) fun t k hk=> ?_
  rw[oI] at hk
  by_cases e:d=t
  · subst e
    rw[if_pos rfl] at hk;cases hk
    exact⟨fun _=>hw'.vr.slots d _ (cX _ _ _),by simp⟩
  · rw[if_neg (by simpa using e)] at hk
    rcases hσ2 (.t t) with h|⟨Y,s',w',h1,h2⟩
    · exact hw'.vr.slots t k (by rw[cM _ _ (by simpa using e),h];exact hk)
    · rw[h2] at hk;cases hk
      exact⟨fun _=>hw'.vr.slots t (.v Y) (by rw[cM _ _ (by simpa using e)];exact h1),by simp⟩
def evc (σ:St):Operand→Option (V×List (dF×Option K)×Option Bool)
 | .tmp t=>match aU σ (.t t) with
  |some (.v X)=>some (X,[(.t t,some (.v X))],none)
  |some (.cv s w b X)=>some (X,[(.t t,some (.cv s w b X))],some b)
  |_=>none
 | .const v=>if v.oneCell' then some (.e (.c (aA3 v)),[],none) else none
 |_=>none
def yH:Option Bool→Prop
 |none=>True
 |some b=>b=true
theorem zg {σ:St} {x:Operand} {X:V} {R:List (dF×Option K)} {c:Option Bool} (h:evc σ x=some (X,R,c)):bL R σ:=by
 cases x with
 |tmp t=>
  simp only[evc] at h
  split at h
  · rename_i X' hl;cases h;exact bL.one hl
  · rename_i hl;cases h;exact bL.one hl
  · cases h
 |const v=>
  simp only[evc] at h
  split at h
  · cases h;exact bL.nil
  · cases h
 |global g=>simp[evc] at h
 |func f=>simp[evc] at h
theorem zh {σ0:St} {x:Operand} {X:V} {R:List (dF×Option K)} {c:Option Bool} (h:evc σ0 x=some (X,R,c)) (hc:yH c) {P:Program} {cx:Cx P} {σ:St} {ι:Nat→Value} {S:Nat→Prop} {a:Act} {w:World}
 (hr:bL R σ) (hw:RW cx σ ι S a w):lR σ ι w S X (a.eval x):=by
 cases x with
 |tmp t=>
  simp only[evc] at h
  split at h
  · rename_i X' hl;cases h;exact hw.vr.slots t _ (hr (.t t,some (.v X)) (by simp))
  · rename_i s w' b X' hl
    cases h
    exact(hw.vr.slots t (.cv s w' b X) (hr (.t t,some (.cv s w' b X)) (by simp))).1 hc
  · cases h
 |const v=>
  simp only[evc] at h
  split at h
  · rename_i hv;cases h;exact ib hv
  · cases h
 |global g=>simp[evc] at h
 |func f=>simp[evc] at h
def aGr (b:Bool):D→D→Option D
 | .i m,.i n=>some (.i (bif b then m else n))
 | .u m,.u n=>some (.u (bif b then m else n))
 | .b m,.b n=>some (.b (bif b then m else n))
 | .s m,.s n=>some (.s (bif b then m else n))
 |_,_=>none
def aMq (x y:Operand) (b:Bool) (X Y:D):Option D:=match x,y with
 |_,.const (.bool false)=>match X with| .b m=>some (.b (b&&m))|_=>none
 | .const (.bool true),_=>match Y with| .b n=>some (.b (b||n))|_=>none
 |_,_=>aGr b X Y
def aGs (σ:St) (c x y:Operand) (d:Option Tmp):xg:=
 match ev σ c,evc σ x,evc σ y,d with
 |some (.e (.c (.d (.b b))),R),some (.e (.c (.d X)),R1,c1),some (.e (.c (.d Y)),R2,c2),some d=>match aMq x y b X Y with
  |some Z=>some ((b=true→yH c1)∧(b=false→yH c2),R++R1++R2,[(.t d,.v (Dv Z))])
  |none=>none
 |_,_,_,_=>none
theorem aBh {b:Bool} {X Y Z:D} {w:World} {S:Nat→Prop} {vx vy:Value} (h:aGr b X Y=some Z) (hx:b=true→DR w S X vx) (hy:b=false→DR w S Y vy):DR w S Z (if b then vx else vy):=by
 cases X<;>cases Y<;>simp only[aGr] at h<;>cases h
 all_goals
  cases b with
  |true=>have:=hx rfl;cases this;first|exact .i _|exact .u _|exact .b _|exact .s _
  |false=>have:=hy rfl;cases this;first|exact .i _|exact .u _|exact .b _|exact .s _
theorem aGt {P:Program} {o:Oper} {σ0:St} {c x y:Operand} (ho:o.op= .pick c x y):lS P o σ0 (aGs σ0 c x y o.dst):=by
 intro p R W h hp
 unfold aGs at h
 split at h<;>try(cases h;done)
 rename_i b Rc X R1 c1 Y R2 c2 d hc hx hy hd
 split at h<;>try(cases h;done)
 rename_i Z hz
 cases h
 refine⟨nS hd fun cx σ ι S a w hr hw=> ?_,((cZ hc).append (zg hx)).append (zg hy)⟩
 have hC:=dG hc hr.left.left hw
 have hX:b=true→lR σ ι w S (Dv X) (a.eval x):=fun hb=>zh hx (hp.1 hb) hr.left.right hw
 have hY:b=false→lR σ ι w S (Dv Y) (a.eval y):=fun hb=>zh hy (hp.2 hb) hr.right hw
 have hcv:a.eval c= .bool b:=by
  simp only[lR,ER,CR] at hC
  generalize a.eval c=v at hC;cases hC;rfl
 have hX:b=true→DR w S X (a.eval x):=hX
 have hY:b=false→DR w S Y (a.eval y):=hY
 refine⟨if b then a.eval x else a.eval y,?_,?_⟩
 · cases b<;>simp[execOp,ho,hcv,asBool]
 · show DR w S Z (if b then a.eval x else a.eval y)
   unfold aMq at hz
   split at hz
   · split at hz
     · cases hz
       cases b with
       |true=>have:=hX rfl;simpa using this
       |false=>simp[Act.eval];exact .b _
     · cases hz
   · split at hz
     · cases hz
       cases b with
       |true=>simp[Act.eval];exact .b _
       |false=>have:=hY rfl;simpa using this
     · cases hz
   · exact aBh hz hX hY
def me (T:gQ) (o:Oper) (σ:St):xg:=
 match o.op with
 | .pick c x y=>match aGs σ c x y o.dst with
  |some r=>some r
  |none=>aIr σ c x y o.dst
 |_=>aBe T o σ
theorem vP {P:Program} {T:gQ} (hT:dR P T) (o:Oper) (σ:St):lS P o σ (me T o σ):=by
 unfold me
 split
 · rename_i ho
   split
   · rename_i r hr
     have:=aGt (P:=P) (σ0:=σ) ho
     rw[hr] at this;exact this
   · exact yx ho
 · exact oq hT o σ
def aMr (m i:Nat):Bool:=Nat.beq (Nat.land (Nat.shiftRight m i) 1) 1
theorem aMs (m i:Nat):aMr m i=m.testBit i:=by
 have h:aMr m i=decide ((m >>> i) % 2=1):=by
  show Nat.beq ((m >>> i) &&& 1) 1=_
  rw[Nat.and_one_is_mod,Bool.eq_iff_iff,Nat.beq_eq,decide_eq_true_eq]
 rw[h,Nat.testBit,Nat.one_and_eq_mod_two,Bool.eq_iff_iff,decide_eq_true_eq,bne_iff_ne]
 omega
def bits:List Nat→Nat
 | []=>0
 |x::r=>Nat.lor (Nat.shiftLeft 1 x) (bits r)
theorem uR {b:Nat}: ∀{l:List Nat},(bits l).testBit b=true↔b∈l
 | []=>by simp[bits]
 |x::r=>by
  show((1 <<< x) ||| bits r).testBit b=true↔_
  rw[Nat.testBit_or,Bool.or_eq_true,uR (l:=r),aVm,Nat.shiftLeft_eq,Nat.one_mul,Nat.testBit_two_pow,decide_eq_true_eq]
  exact⟨fun h=>h.imp Eq.symm id,fun h=>h.imp Eq.symm id⟩
def sh (acc:List Nat):List Nat→Nat
 | []=>0
 |i::r=>Nat.lor (Nat.lor (Nat.shiftLeft 1 i) (acc.getD i 0)) (sh acc r)
def sj:List Oper→List Nat→List Nat
 | [],acc=>acc
 |o::os,acc=>sj os (acc++[sh acc (kK o)])
def aGu (accM:List Nat) (accP:List (List Nat)):Prop:=accM.length=accP.length∧ ∀i b,(accM.getD i 0).testBit b=true→b∈accP.getD i []
theorem ou {accM:List Nat} {accP:List (List Nat)} (h:aGu accM accP) {b:Nat}: ∀{l:List Nat},(sh accM l).testBit b=true→b∈l.flatMap fun i=>i::accP.getD i []
 | [],hb=>by simp[sh] at hb
 |i::r,hb=>by
  have hb: (((1 <<< i) ||| accM.getD i 0) ||| sh accM r).testBit b=true:=hb
  rw[Nat.testBit_or,Nat.testBit_or,Bool.or_eq_true,Bool.or_eq_true,Nat.shiftLeft_eq,Nat.one_mul,Nat.testBit_two_pow,decide_eq_true_eq] at hb
  rw[List.flatMap_cons,List.mem_append,aVm]
  rcases hb with(hb|hb)|hb
  · exact .inl (.inl hb.symm)
  · exact .inl (.inr (h.2 i b hb))
  · exact .inr (ou h hb)
theorem sm: ∀(l:List Oper) {accM:List Nat} {accP:List (List Nat)},aGu accM accP→aGu (sj l accM) (mF l accP)
 | [],accM,accP,h=>h
 |o::os,accM,accP,h=>by
  unfold sj mF
  refine sm os ⟨by simp[h.1],fun i b hb=> ?_⟩
  rw[aVb] at hb ⊢
  by_cases hi:i<accM.length
  · rw[List.getElem?_append_left hi] at hb
    rw[List.getElem?_append_left (by rw[← h.1];exact hi)]
    have:=h.2 i b (by rw[aVb];exact hb)
    rwa [aVb] at this
  · rw[List.getElem?_append_right (by omega)] at hb
    rw[List.getElem?_append_right (by rw[← h.1];omega),← h.1]
    by_cases e:i - accM.length=0
    · rw[e] at hb ⊢
      exact ou h hb
    · rw[List.getElem?_eq_none (by simp;omega)] at hb
      simp at hb
abbrev RWM:=Nat×Nat
def rwM (x:eg):RWM:=(bits x.1,bits x.2)
def aDi (x y:RWM):Bool:=Nat.beq (Nat.land x.2 (Nat.lor y.1 y.2)) 0&&Nat.beq (Nat.land x.1 y.2) 0
theorem wK {xs ys:List Nat} (h: ∀b,b∈xs→b∈ys→False):oV xs ys=true:=by
 induction xs with
 |nil=>rfl
 |cons x r ih=>
  simp only[oV,aU7,Bool.not_eq_true']
  refine⟨?_,ih fun b hb=>h b (List.mem_cons_of_mem _ hb)⟩
  rw[← Bool.not_eq_true,gS]
  exact h x (List.mem_cons_self ..)
theorem mf {m n b:Nat} (h:Nat.beq (Nat.land m n) 0=true) (hm:m.testBit b=true) (hn:n.testBit b=true):False:=by
 have h:m &&& n=0:=Nat.eq_of_beq_eq_true h
 have: (m &&& n).testBit b=true:=by rw[Nat.testBit_and,hm,hn];rfl
 rw[h] at this;simp at this
theorem aGv {x y:eg} (h:aDi (rwM x) (rwM y)=true):oW x y=true:=by
 simp only[aDi,rwM,aU7] at h
 simp only[oW,aU7]
 have hor: ∀b,(b∈y.1∨b∈y.2)→(Nat.lor (bits y.1) (bits y.2)).testBit b=true:=fun b hb=>by
  show(bits y.1 ||| bits y.2).testBit b=true
  rw[Nat.testBit_or,Bool.or_eq_true,uR,uR];exact hb
 exact⟨⟨wK fun b h1 h2=>mf h.1 (uR.2 h1) (hor b (.inr h2)),wK fun b h1 h2=>mf h.1 (uR.2 h1) (hor b (.inl h2))⟩,wK fun b h1 h2=>mf h.2 (uR.2 h1) (uR.2 h2)⟩
def aPj (pm:Nat) (y:RWM):Nat→List RWM→Bool
 |_,[]=>true
 |i,x::r=>(aMr pm i||aDi x y)&&aPj pm y (i+1) r
def aMt:List RWM→List Nat→List RWM→Bool
 | [],_,_=>true
 |y::ys,pm::pms,done=>aPj pm y 0 done&&aMt ys pms (done++[y])
 |_::_,[],_=>false
theorem zi {pm:Nat} {y:RWM}: ∀{l:List RWM} {i:Nat},aPj pm y i l=true→ ∀(k:Nat) x,l[k]? =some x→pm.testBit (i+k)=true∨aDi x y=true
 | [],i,_,k,x,hx=>by simp at hx
 |z::r,i,h,k,x,hx=>by
  simp only[aPj,aU7,Bool.or_eq_true] at h
  cases k with
  |zero=>simp at hx;subst hx;rw[← aMs];exact h.1
  |succ k=>
   have:=zi h.2 k x (by simpa using hx)
   rwa [show i+1+k=i+(k+1) by omega] at this
theorem zj: ∀{ys:List RWM} {pms:List Nat} {done:List RWM},aMt ys pms done=true→ ∀(k:Nat) y pm,ys[k]? =some y→pms[k]? =some pm→ ∀(i:Nat) x,i<done.length+k→(done++ys)[i]? =some x→pm.testBit i=true∨aDi x y=true
 | [],pms,done,_,k,y,pm,hy,_,i,x,_,_=>by simp at hy
 |z::ys,[],done,h,k,y,pm,hy,hp,i,x,_,_=>by simp[aMt] at h
 |z::ys,p::pms,done,h,k,y,pm,hy,hp,i,x,hi,hx=>by
  simp only[aMt,aU7] at h
  cases k with
  |zero=>
   simp at hy hp;subst hy;subst hp
   have:=zi h.1 i x (by rw[List.getElem?_append_left (by omega)] at hx;exact hx)
   rwa [Nat.zero_add] at this
  |succ k=>exact zj h.2 k y pm (by simpa using hy) (by simpa using hp) i x (by simp;omega) (by simpa using hx)
theorem sn {ns:List eg} {pl:List (List Nat)}: ∀(n:Nat),(∀k,k<n→ ∀i,i<k→ ∀x y pk,ns[i]? =some x→ns[k]? =some y→pl[k]? =some pk→i∈pk∨oW x y=true)→yA ns pl n=true
 |0,_=>rfl
 |n+1,h=>by
  simp only[yA,aU7]
  refine⟨?_,sn n fun k hk=>h k (by omega)⟩
  split
  · rename_i y pk hy hp
    rw[aVi]
    intro i hi
    rw[Bool.or_eq_true]
    cases hx:ns[i]? with
    |none=>exact .inr rfl
    |some x=>exact(h n (by omega) i (List.mem_range.1 hi) x y pk hx hy hp).imp gS.2 id
  · rfl
def ay (l:List Oper) (ns:List eg):Bool:=rY 0 l&&aMt (ns.map rwM) (sj l []) []
theorem az {l:List Oper} {ns:List eg} (h:ay l ns=true):wJ l ns=true:=by
 simp only[ay,aU7] at h
 simp only[wJ,aU7]
 refine⟨h.1,sn _ fun k hk i hi x y pk hx hy hp=> ?_⟩
 have hm:=sm l (accM:=[]) (accP:=[]) ⟨rfl,by simp⟩
 have hpl:k< (mF l []).length:=(aVe.1 hp).1
 have hml:k< (sj l []).length:=by rw[hm.1];exact hpl
 have hpm: (sj l [])[k]? =some (sj l [])[k]:=aVd hml
 rcases zj h.2 k (rwM y) _ (by simp[hy]) hpm i (rwM x) (by simpa using hi) (by simp[hx]) with h1|h1
 · left
   have:=hm.2 k i (by rw[aVb,hpm];exact h1)
   rwa [aVb,hp] at this
 · exact .inr (aGv h1)
def aI1 (P:Program) (T:gQ) (o:Oper) (σ:St) (k:List (dF×Option K)→List (dF×K)→Prop):Prop:=
 match me T o σ with
 |some (p,R,W)=>p∧k R W
 |none=> ∃R W,wY P o R W∧bL R σ∧k R W
theorem ov {P:Program} {T:gQ} (hT:dR P T) {o:Oper} {σ:St} {k:List (dF×Option K)→List (dF×K)→Prop} (h:aI1 P T o σ k): ∃R W,wY P o R W∧bL R σ∧k R W:=by
 unfold aI1 at h
 split at h
 · rename_i p R W he
   obtain⟨h1,h2⟩:=vP hT o σ p R W he h.1
   exact⟨R,W,h1,h2,h.2⟩
 · exact h
def aPk (dr:Bool) (acc:List eg) (R:List (dF×Option K)) (W:List (dF×K)):List eg:=match dr with
 |true=>acc++[pF (R,W)]
 |false=>[]
def ir (P:Program) (T:gQ) (o:Oper) (σ:St) (s:Nat) (want g:Bool) (d:Nat) (k:List (dF×Option K)→V→Prop):Prop:=
 match me T o (jM s want σ) with
 |some (p,R,[(.t d',.v X)])=>match Nat.beq d' d with
  |true=>(g=true→p)∧(g=true→oF σ R)∧k R X
  |false=>False
 |some _=>False
 |none=> ∃R X,(g=true→wY P o R [(.t d,.v X)]∧bL R (jM s want σ))∧(g=true→oF σ R)∧k R X
def goC (P:Program) (T:gQ) (ops:List Oper) (dr:Bool):List Oper→St→List eg→(St→List eg→Prop)→Prop
 | [],σ,acc,k=>k σ acc
 |o::os,σ,acc,k=>match o.guard with
  |none=>aI1 P T o σ fun R W=>nC σ W fun σ'=>goC P T ops dr os σ' (aPk dr acc R W) k
  |some (j,want)=>match(ops[j]?).bind (·.dst),o.dst with
   |some s,some d=>match gOf want (aU σ (.t s)) with
    |some g=>ir P T o σ s want g d fun R X=>qb σ (.t d) (.cv s want g X) fun σ'=>goC P T ops dr os σ' (aPk dr acc ((.t s,none)::R) [(.t d,.dead)]) k
    |none=>False
   |_,_=>False
theorem ba {P:Program} {T:gQ} (hT:dR P T) {ops:Array Oper} {o:Oper} {σ:St} {j s d:Nat} {want g:Bool} {k:List (dF×Option K)→V→Prop} (hg:o.guard=some (j,want)) (hs: (ops[j]?).bind (·.dst)=some s) (hd:o.dst=some d) (hl:gOf want (aU σ (.t s))=some g)
 (h:ir P T o σ s want g d k): ∃R X,ItT P ops o ((.t s,aU σ (.t s))::md σ R,[(.t d,.cv s want g X)])∧k R X:=by
 unfold ir at h
 split at h
 · rename_i p R d' X he
   split at h
   · rename_i hdd
     have hdd:=Nat.eq_of_beq_eq_true hdd
     subst hdd
     obtain⟨h1,h2,h3⟩:=h
     exact⟨R,X,aBg hg hs hd hl (fun hgt=>vP hT o _ p R _ he (h1 hgt)) h2,h3⟩
   · exact h.elim
 · exact h.elim
 · obtain⟨R,X,h1,h2,h3⟩:=h
   exact⟨R,X,aBg hg hs hd hl h1 h2,h3⟩
theorem yI {σ:St} {s:Nat} {R:List (dF×Option K)}:bL ((.t s,aU σ (.t s))::md σ R) σ:=by
 intro p hp
 rcases aVm.1 hp with rfl|hp
 · rfl
 · obtain⟨q,hq,rfl⟩:=aVj.1 hp;rfl
theorem aGw {σ:St} {s d:Nat} {R:List (dF×Option K)} {k:K} {o:Option K} {k':K}:pF ((.t s,o)::R,[(.t d,k)])=pF ((.t s,aU σ (.t s))::md σ R,[(.t d,k')]):=by
 simp[pF,md,Function.comp_def]
theorem xF {P:Program} {T:gQ} (hT:dR P T) {ops:Array Oper} {dr:Bool} {k:St→List eg→Prop}: ∀(l:List Oper) (σ:St) (acc:List eg),goC P T ops.toList dr l σ acc k→
 ∃ts:List mD,zP P ops l ts∧kB ts σ∧ ∃acc',(dr=true→acc'=acc++ts.map pF)∧k (fF ts σ) acc'
 | [],σ,acc,h=>⟨[],trivial,trivial,acc,fun _=>by simp,by simpa[goC,fF] using h⟩
 |o::os,σ,acc,h=>by
  simp only[goC] at h
  split at h
  · rename_i hg
    obtain⟨R,W,h1,h2,h3⟩:=ov hT h
    rw[kP] at h3
    obtain⟨ts,q1,q2,acc',q3,q4⟩:=xF hT os _ _ h3
    refine⟨(R,W)::ts,⟨ao hg h1,q1⟩,⟨h2,q2⟩,acc',fun hd=> ?_,by simpa[fF] using q4⟩
    rw[q3 hd];subst hd;simp[aPk]
  · rename_i j want hg
    split at h<;>try(exact h.elim)
    rename_i s d hs hd
    split at h<;>try(exact h.elim)
    rename_i g hl
    have hs': (ops[j]?).bind (·.dst)=some s:=by simpa using hs
    obtain⟨R,X,h1,h2⟩:=ba hT hg hs' hd hl h
    rw[oL] at h2
    obtain⟨ts,q1,q2,acc',q3,q4⟩:=xF hT os _ _ h2
    refine⟨((.t s,aU σ (.t s))::md σ R,[(.t d,.cv s want g X)])::ts,⟨h1,q1⟩,⟨yI,q2⟩,acc',fun hdr=> ?_,by simpa[fF,iL] using q4⟩
    rw[q3 hdr];subst hdr
    simp only[aPk,List.map_cons,List.append_assoc,List.singleton_append]
    rw[aGw (σ:=σ) (k':= .cv s want g X)]
section
variable {P:Program} {io:List Nat} {Q:Ex→St→Prop} {σ:St}
theorem SW.regT {T:gQ} (hT:dR P T) (ks:List Nat) {id:Nat} {ops:Array Oper} (h:goC P T ops.toList false ops.toList σ [] fun σ' _=>qY ks σ' (Q .norm)):SW P io (.region id ops false) Q σ:=by
 intro cx ι S a w hio hw hf
 have hfit: ∀o∈ops.toList,∀d,o.dst=some d→d<cx.N:=fun o ho=>xX (by simpa[sX] using hf) ho
 obtain⟨ts,h1,h2,acc,_,h4⟩:=xF hT ops.toList σ [] h
 rw[mQ] at h4
 exact wp_region_list (xY ops.toList ts σ ι S a w h1 h2 hw hfit fun ι' S' a' w' hw'=>⟨_,ι',S',h4,hw'.keep ks⟩)
theorem SW.regD {T:gQ} (hT:dR P T) (hm:P.follows .mixedOrders=true) (ks:List Nat) {id:Nat} {ops:Array Oper} (h:goC P T ops.toList true ops.toList σ [] fun σ' ns=>ay ops.toList ns=true∧qY ks σ' (Q .norm)):SW P io (.region id ops true) Q σ:=by
 intro cx ι S a w hio hw hf
 have hfit: ∀o∈ops.toList,∀d,o.dst=some d→d<cx.N:=fun o ho=>xX (by simpa[sX] using hf) ho
 obtain⟨ts,h1,h2,acc,h3,h4,h5⟩:=xF hT ops.toList σ [] h
 have h3:=h3 rfl
 rw[List.nil_append] at h3
 subst h3
 rw[mQ] at h5
 have hlen: ∀(l:List Oper) (ts:List mD),zP P ops l ts→ts.length=l.length∧ ∀(i:Nat) o t,l[i]? =some o→ts[i]? =some t→ItT P ops o t:=by
  intro l
  induction l with
  |nil=>intro ts h;cases ts with
   |nil=>exact⟨rfl,by simp⟩
   |cons t ts=>exact h.elim
  |cons o os ih=>intro ts h;cases ts with
   |nil=>exact h.elim
   |cons t ts=>
    obtain⟨q1,q2⟩:=ih ts h.2
    refine⟨by simp[q1],fun i o' t' ho ht=> ?_⟩
    cases i with
    |zero=>simp at ho ht;subst ho;subst ht;exact h.1
    |succ i=>exact q2 i o' t' (by simpa using ho) (by simpa using ht)
 obtain⟨q1,q2⟩:=hlen _ _ h1
 refine wp_region_any hm (cy (cx:=cx) (σ:=σ) (ts:=ts) (by simpa using q1) (fun i o t ho ht=>q2 i o t (by simpa using ho) ht) h2 (by have:=az h4;simpa[pN,wJ] using this) hfit (fun ι' S' a' w' hw'=>⟨_,ι',S',h5,hw'.keep ks⟩)
  ops.size (Array.replicate ops.size false) σ ι S a _ (by simp) (fun l=> ?_) hw.drew (fun k o ho hk=> ?_) ?_)
 · have hL: ∀i,(Array.replicate ops.size false).getD i false=false:=fun i=>by
    rw[Array.getD_eq_getD_getElem?,Array.getElem?_replicate];split<;>rfl
   have: ∀n,part ts (fun i=>(Array.replicate ops.size false).getD i false) σ l n=aU σ l:=by
    intro n
    induction n with
    |zero=>rfl
    |succ n ih=>rw[mP,if_neg (by rw[hL];simp),ih]
   rw[this]
 · rw[Array.getD_eq_getD_getElem?,Array.getElem?_replicate] at hk;split at hk<;>cases hk
 · exact Nat.le_trans (List.length_filter_le _ _) (by simp)
end
def yJ:C→Bool
 | .d _=>true
 | .nil=>true
 | .rp _=>true
 |_=>false
def fv:E→Bool
 | .c x=>yJ x
 | .agg cs=>cs.all yJ
def oG:V→Bool
 | .e x=>fv x
 | .tup xs=>xs.all fv
section
variable {τ σ':St} {rl:List (Nat×Nat)} {bor:List Nat}
theorem aDj {c:C} (h:yJ c=true):mC τ σ' rl bor c c:=by cases c<;>simp_all[yJ,mC]
theorem zk: ∀{cs:List C},cs.all yJ=true→xe τ σ' rl bor cs cs
 | [],_=>trivial
 |c::cs,h=>by
  simp only[List.all_cons,aU7] at h
  exact⟨aDj h.1,zk h.2⟩
theorem aDk {c:E} (h:fv c=true):mE τ σ' rl bor c c:=by
 cases c with
 |c x=>exact aDj h
 |agg cs=>exact zk h
theorem zl: ∀{cs:List E},cs.all fv=true→mEs τ σ' rl bor cs cs
 | [],_=>trivial
 |c::cs,h=>by
  simp only[List.all_cons,aU7] at h
  exact⟨aDk h.1,zl h.2⟩
theorem aDl {c:V} (h:oG c=true):mV τ σ' rl bor c c:=by
 cases c with
 |e x=>exact aDk h
 |tup cs=>exact zl h
theorem so {c:C} (h:yJ c=true):aGe rl c=c:=by cases c<;>simp_all[yJ,aGe]
theorem aDm {cs:List C} (h:cs.all yJ=true):cs.map (aGe rl)=cs:=by
 rw[aVi] at h
 exact(List.map_congr_left fun c hc=>so (h c hc)).trans (List.map_id cs)
theorem sr {c:E} (h:fv c=true):aJ1 rl c=c:=by
 cases c with
 |c x=>simp[aJ1,so (show yJ x=true from h)]
 |agg cs=>simp only[aJ1];rw[aDm h]
theorem aGx {c:V} (h:oG c=true):aGf rl c=c:=by
 cases c with
 |e x=>simp[aGf,sr (show fv x=true from h)]
 |tup cs=>
  simp only[aGf]
  have h:cs.all fv=true:=h
  rw[aVi] at h
  rw[(List.map_congr_left fun c hc=>sr (h c hc)).trans (List.map_id cs)]
theorem ss: ∀{Ys:List V} {i:Nat},(∀j Y,Ys[j]? =some Y→aU τ (.t (i+j))=some (.v Y))→Ys.all oG=true→mL τ σ' rl bor (eS i Ys)
 | [],i,_,_=>trivial
 |Y::Ys,i,h,hp=>by
  simp only[List.all_cons,aU7] at hp
  refine⟨⟨Y,h 0 Y rfl,aDl hp.1⟩,ss (fun j Z hj=> ?_) hp.2⟩
  rw[show i+1+j=i+(j+1) by omega]
  exact h (j+1) Z hj
theorem pU: ∀(Ys:List V) (i:Nat),cA (eS i Ys)=[]
 | [],i=>rfl
 |Y::Ys,i=>pU Ys (i+1)
theorem aDn {Xs:List V} (h:Xs.all oG=true):oJ (eS 0 Xs++qX []) (eS 0 Xs) [] []:=by
 refine⟨ss (fun j Y hj=> ?_) h,?_⟩
 · have hlt:=(aVe.1 hj).1
   rw[Nat.zero_add,oX 0 Xs _ j (aVa _) (by omega),Nat.sub_zero,hj];rfl
 · simp[zQ,pU,uO,oV]
end
section
variable {P:Program} {T:gQ} {f:FuncId} {n:Nat} {σin:St} {X:V} {o:Oper} {c:Call} {d:Nat} {σ:St} {Xs:List V} {Ra:List (dF×Option K)}
theorem aDo (hs:Spec P f n σin [(.t 0,.v X)]) (ho:o.op= .call c) (hc:c.callee= .value (.func f)) (hd:o.dst=some d) (hx:evA σ c.args.toList=some (Xs,Ra)) (hn:Xs.length=n) (hin:σin=eS 0 Xs) (hp:Xs.all oG=true) (hX:oG X=true):
 wY P o Ra [(.t d,.v X)]:=by
 subst hin
 have:=aDh (robj:=[]) (rl:=[]) (bor:=[]) hs ho hc hx hn (aDn hp) (by simp[kI,cA,oO,pU,uO,rZ]) (.inl rfl)
 have e1:ol Ra [] [] (eS 0 Xs) [(.t 0,.v X)]=Ra:=by simp[ol,mT,cA]
 have e2:tH [] (eS 0 Xs) [(.t 0,.v X)] o.dst=[(.t d,.v X)]:=by
  simp[tH,yF,vM,oO,pU,hd,xi,aU,aGx hX]
 rw[e1,e2] at this
 exact this
theorem iu {k:List (dF×Option K)→List (dF×K)→Prop} (hs:Spec P f n σin [(.t 0,.v X)]) (ho:o.op= .call c) (hc:c.callee= .value (.func f)) (hd:o.dst=some d) (hx:evA σ c.args.toList=some (Xs,Ra)) (hn:Xs.length=n) (hin:σin=eS 0 Xs) (hp:Xs.all oG=true) (hX:oG X=true)
 (h:k Ra [(.t d,.v X)]): ∃R W,wY P o R W∧bL R σ∧k R W:=
 ⟨Ra,_,aDo hs ho hc hd hx hn hin hp hX,uF hx,h⟩
theorem aMu {σ1:St} {g:Bool} {k:List (dF×Option K)→V→Prop} (hs:g=true→Spec P f n σin [(.t 0,.v X)]) (ho:o.op= .call c) (hc:c.callee= .value (.func f)) (hd:o.dst=some d) (hx:evA σ1 c.args.toList=some (Xs,Ra)) (hn:Xs.length=n) (hin:σin=eS 0 Xs) (hp:Xs.all oG=true) (hX:oG X=true)
 (hr:g=true→oF σ Ra) (h:k Ra X): ∃R X,(g=true→wY P o R [(.t d,.v X)]∧bL R σ1)∧(g=true→oF σ R)∧k R X:=
 ⟨Ra,X,fun hg=>⟨aDo (hs hg) ho hc hd hx hn hin hp hX,uF hx⟩,hr,h⟩
theorem bJ {σout:St} {rl:List (Nat×Nat)} {bor:List Nat} {robj:List (Nat×K)} {k:List (dF×Option K)→List (dF×K)→Prop} (hs:Spec P f n σin σout) (ho:o.op= .call c) (hc:c.callee= .value (.func f)) (hx:evA σ c.args.toList=some (Xs,Ra)) (hn:Xs.length=n)
 (hm:oJ (eS 0 Xs++qX robj) σin rl bor) (hk:kI rl σin σout=true) (hb:bor=[]∨nB σout) (h1: ∀p∈robj,aU σ (.o p.1)=some p.2) (h2: ∀j∈mT σin σout,aU σ (.o (kA rl j))=none)
 (h:k (ol Ra robj rl σin σout) (tH rl σin σout o.dst)): ∃R W,wY P o R W∧bL R σ∧k R W:=
 ⟨_,_,aDh hs ho hc hx hn hm hk hb,aGi hx h1 h2,h⟩
end
def WK (io:List Nat) (J:St→Prop) (s:St):Prop:= ∃σ' rl bor,J σ'∧oJ s σ' rl bor∧yE io σ' rl bor=true
theorem wk {io:List Nat} {J:St→Prop} {s:St} (σ':St) (rl:List (Nat×Nat)) (bor:List Nat) (h:J σ') (h1:mL s σ' rl bor σ') (h2:zQ σ' rl bor=true) (h3:yE io σ' rl bor=true):WK io J s:=⟨σ',rl,bor,h,⟨h1,h2⟩,h3⟩
section
variable {P:Program} {io:List Nat} {Q:Ex→St→Prop} {σ:St}
theorem SW.wk {c:Code} {J:St→Prop} (h:WK io J σ) (hJ: ∀s,J s→SW P io c Q s):SW P io c Q σ:=by
 obtain⟨σ',rl,bor,h1,h2,h3⟩:=h
 exact SW.weaken σ' rl bor h2 h3 (hJ σ' h1)
theorem SW.loopW {c:Code} (I:Nat→St→Prop) {n:Nat} (h0:WK io (I n) σ) (hr: ∀n s,I n s→SW P io c (il (fun s'=>WK io (fun s2=> ∃m,m<n∧I m s2) s') Q) s):SW P io (.loop c) Q σ:=by
 refine SW.loop (fun n s=>WK io (I n) s) h0 fun n s hs=>SW.wk hs fun s2 h2=>SW.mono (fun e s3 h3=> ?_) (hr n s2 h2)
 cases e with
 |norm=>
  obtain⟨σ',rl,bor,⟨m,hm,h1⟩,h2,h4⟩:=h3
  exact⟨m,hm,σ',rl,bor,h1,h2,h4⟩
 |exit id=>exact h3
 |ret=>exact h3
theorem SW.midW (J:St→Prop) {x y:Code} (h:SW P io x (il (fun s=>WK io J s) Q) σ) (hy: ∀s,J s→SW P io y Q s):SW P io (.seq x y) Q σ:=
 SW.seq (h.mono fun e s hq=>by
  cases e with
  |norm=>exact SW.wk hq hy
  |exit id=>exact hq
  |ret=>exact hq)
end
section
variable {τ σ':St} {rl:List (Nat×Nat)} {bor:List Nat} {r:List (dF×K)}
theorem cJ {s:Nat} {x y:D} (h:aU τ (.t s)=some (.v (Dv x))) (e:x=y) (hr:mL τ σ' rl bor r):mL τ σ' rl bor ((.t s,.v (Dv y))::r):=⟨⟨_,h,e⟩,hr⟩
theorem lH {s:Nat} (h:aU τ (.t s)=some (.v (.e (.c .nil)))) (hr:mL τ σ' rl bor r):mL τ σ' rl bor ((.t s,.v (.e (.c .nil)))::r):=⟨⟨_,h,trivial⟩,hr⟩
theorem aDp {s:Nat} {y:D} (h:aU τ (.t s)=some (.v (.e (.c .nil)))) (e:y= .sl []) (hr:mL τ σ' rl bor r):mL τ σ' rl bor ((.t s,.v (Dv y))::r):=⟨⟨_,h,e⟩,hr⟩
theorem jI {s o n j m:Nat} {e:TypeId} {es:Nat} {rows:List (List D)} (h:aU τ (.t s)=some (.v (.e (.c (.own o n))))) (ho:o=kA rl j) (e1:n=m) (hj:aU σ' (.o j)=some (.row e es rows)) (hr:mL τ σ' rl bor r):mL τ σ' rl bor ((.t s,.v (.e (.c (.own j m))))::r):=
 ⟨⟨_,h,ho,e1,e,es,rows,hj⟩,hr⟩
theorem gE {s o n:Nat} {y:D} {e:TypeId} {es:Nat} {rows:List (List D)} (h:aU τ (.t s)=some (.v (.e (.c (.own o n))))) (hb:iU o bor=true) (hj:aU τ (.o o)=some (.row e es rows)) (e1:rows.length=n) (e2:y= .sl rows) (hr:mL τ σ' rl bor r):mL τ σ' rl bor ((.t s,.v (Dv y))::r):=
 ⟨⟨_,h,gS.1 hb,e,es,rows,hj,e1,e2⟩,hr⟩
theorem bU {s o k j m:Nat} {ty:TypeId} {cs:List C} (h:aU τ (.t s)=some (.v (.e (.c (.pt o k))))) (ho:o=kA rl j) (e1:k=m) (hj:aU σ' (.o j)=some (.box ty cs)) (hr:mL τ σ' rl bor r):mL τ σ' rl bor ((.t s,.v (.e (.c (.pt j m))))::r):=
 ⟨⟨_,h,ho,e1,ty,cs,hj⟩,hr⟩
theorem dD {s:Nat} {cs ds:List C} (h:aU τ (.t s)=some (.v (.e (.agg cs)))) (e:xe τ σ' rl bor cs ds) (hr:mL τ σ' rl bor r):mL τ σ' rl bor ((.t s,.v (.e (.agg ds)))::r):=⟨⟨_,h,e⟩,hr⟩
theorem bW {j:Nat} {e:TypeId} {es:Nat} {rows rows':List (List D)} (h:aU τ (.o (kA rl j))=some (.row e es rows)) (e1:rows=rows') (hr:mL τ σ' rl bor r):mL τ σ' rl bor ((.o j,.row e es rows')::r):=⟨⟨_,h,rfl,rfl,e1⟩,hr⟩
theorem aZ {j:Nat} {ty:TypeId} {cs ds:List C} (h:aU τ (.o (kA rl j))=some (.box ty cs)) (e1:xe τ σ' rl bor cs ds) (hr:mL τ σ' rl bor r):mL τ σ' rl bor ((.o j,.box ty ds)::r):=⟨⟨_,h,rfl,e1⟩,hr⟩
theorem aH:xe τ σ' rl bor [] []:=trivial
theorem aF {x y:D} {cs ds:List C} (e:x=y) (h:xe τ σ' rl bor cs ds):xe τ σ' rl bor (.d x::cs) (.d y::ds):=⟨e,h⟩
theorem jC {cs ds:List C} (h:xe τ σ' rl bor cs ds):xe τ σ' rl bor (.nil::cs) (.nil::ds):=⟨trivial,h⟩
theorem bK {o n j m:Nat} {e:TypeId} {es:Nat} {rows:List (List D)} {cs ds:List C} (ho:o=kA rl j) (e1:n=m) (hj:aU σ' (.o j)=some (.row e es rows)) (h:xe τ σ' rl bor cs ds):xe τ σ' rl bor (.own o n::cs) (.own j m::ds):=⟨⟨ho,e1,e,es,rows,hj⟩,h⟩
theorem dc {o n:Nat} {y:D} {e:TypeId} {es:Nat} {rows:List (List D)} {cs ds:List C} (hb:iU o bor=true) (hj:aU τ (.o o)=some (.row e es rows)) (e1:rows.length=n) (e2:y= .sl rows) (h:xe τ σ' rl bor cs ds):xe τ σ' rl bor (.own o n::cs) (.d y::ds):=⟨⟨gS.1 hb,e,es,rows,hj,e1,e2⟩,h⟩
theorem eJ {o k j m:Nat} {ty:TypeId} {xs cs ds:List C} (ho:o=kA rl j) (e1:k=m) (hj:aU σ' (.o j)=some (.box ty xs)) (h:xe τ σ' rl bor cs ds):xe τ σ' rl bor (.pt o k::cs) (.pt j m::ds):=⟨⟨ho,e1,ty,xs,hj⟩,h⟩
end
theorem RW.nilOwn {P:Program} {cx:Cx P} {σ:St} {ι:Nat→Value} {S:Nat→Prop} {a:Act} {w:World} (h:RW cx σ ι S a w) {s j:Nat} (e:TypeId) (es:Nat) (hs:aU σ (.t s)=some (.v (.e (.c .nil)))) (hj:aU σ (.o j)=none):
 RW cx (pM (pM σ (.o j) (.row e es [])) (.t s) (.v (.e (.c (.own j 0))))) (fun o=>if o=j then .slice none 0 0 else ι o) S a w:=by
 have hblk: ∀b,xT (.slice none 0 0) b→some b=(none:Option Nat)∨w.heap.size≤b:=fun b hb=>by simp[xT] at hb
 have h1:=h.turn (id:=j) (old:=none) (k:= .row e es []) (p:= .slice none 0 0) (w':=w) ⟨rfl,rfl,rfl,aVf _,(fun _ _ _=>rfl),(fun b hb=>by cases hb),.inl hj,hblk,.inl ⟨rfl,rfl⟩⟩
 have hv:iJ a s= .slice none 0 0:=h.vr.slots s _ hs
 refine h1.reslot (fun o=>cM _ _ (by simp)) fun t k hk=> ?_
 rw[oI] at hk
 by_cases e1:s=t
 · subst e1
   rw[if_pos rfl] at hk;cases hk
   show CR (pM σ (.o j) (.row e es [])) (fun o=>if o=j then .slice none 0 0 else ι o) w S (.own j 0) (iJ a s)
   rw[hv]
   exact⟨rfl,.inl ⟨e,es,[],cX _ _ _,aVf _,fun _=>by simp⟩⟩
 · rw[if_neg (by simpa using e1)] at hk
   exact h1.vr.slots t k hk
theorem SW.nilOwn {P:Program} {io:List Nat} {Q:Ex→St→Prop} {σ:St} {c:Code} (s j:Nat) (e:TypeId) (es:Nat) (hs:aU σ (.t s)=some (.v (.e (.c .nil)))) (hj:aU σ (.o j)=none)
 (h:nC σ [(.o j,.row e es []),(.t s,.v (.e (.c (.own j 0))))] (SW P io c Q)):SW P io c Q σ:=by
 rw[kP] at h
 intro cx ι S a w hio hw hf
 exact h cx _ S a w hio (hw.nilOwn e es hs hj) hf
theorem ai {a b:Prop} (x:a) (y:b):a∧b:=⟨x,y⟩
theorem vc {p:Prop} (h:p:=by first|trivial|exact aU6 rfl|exact⟨rfl,aU6 rfl⟩|omega|((repeat' apply And.intro)<;>first|trivial|rfl|exact aU6 rfl|omega)|(simp;done)|(simp;omega)):p:=h
theorem rk {p:Prop} (h:p:=by intro h;(repeat' apply And.intro)<;>first|exact h|trivial):p:=h
theorem pk {p:Prop} (h:p:=by constructor<;>intro h<;>first|trivial|exact h|(simp[gb,yH];done)|(simpa[gb,yH] using h)|(simp only[gb,yH] at *; grind)|(simp_all[gb,yH];done)):p:=h
def OpE (P:Program) (o:Oper) (R:List (dF×Option K)) (Ws:List (dF×K)→Prop):Prop:=
 ∀(cx:Cx P) (σ:St) (ι:Nat→Value) (S:Nat→Prop) (a:Act) (w:World),bL R σ→RW cx σ ι S a w→(∀d,o.dst=some d→d<cx.N)→
  ∀(next:Act→World→Prop) (Q:Exit→Act→World→Prop),(∀W,Ws W→ ∀ι' S' a' w',RW cx (iL σ W) ι' S' a' w'→next a' w')→o.wp P a w next Q
theorem wY.toE {P:Program} {o:Oper} {R:List (dF×Option K)} {W:List (dF×K)} (h:wY P o R W):OpE P o R (· =W):=
 fun cx σ ι S a w hr hw hd next Q hn=>h cx σ ι S a w hr hw hd next Q fun ι' S' a' w' hw'=>hn W rfl ι' S' a' w' hw'
def SpecE (P:Program) (f:FuncId) (n:Nat) (σin:St) (Qo:St→Prop):Prop:=
 fq P f∧ ∀(ι ν:Nat→Value) (S:Nat→Prop) (w:World) (args:Array Value),(GB P w fun b=> ∃o,kR σin ι o b)→VR σin ι ν S w→args.size=n→(∀i,i<n→args[i]? =some (ν i))→
  Calls P f args w fun e w'=> ∃v ι' S' σout,Qo σout∧e= .returned v∧aMl σin ι S w σout ι' S' w' v
theorem nE {P:Program} {f:FuncId} {args:Array Value} {w:World} {Q Q':Ending→World→Prop} (hq: ∀e w',Q e w'→Q' e w') (h:Calls P f args w Q):Calls P f args w Q':=by
 intro cs
 obtain⟨e,w',fr,h1,h2⟩:=h cs
 exact⟨e,w',fr,hq e w' h1,h2⟩
theorem Spec.toE {P:Program} {f:FuncId} {n:Nat} {σin σout:St} {Qo:St→Prop} (h:Spec P f n σin σout) (hq:Qo σout):SpecE P f n σin Qo:=by
 refine⟨h.1,fun ι ν S w args h0 h1 h2 h3=>nE (fun e w'=> ?_) (h.2 ι ν S w args h0 h1 h2 h3)⟩
 rintro⟨v,ι',S',rfl,hp⟩
 exact⟨v,ι',S',σout,hq,rfl,hp⟩
def aMv (T:gQ) (io:List Nat) (rs:List ResultVar) (Qo:St→Prop):Ex→St→Prop
 | .norm,s=> ∃σout,Qo σout∧zR T io rs σout s
 | .ret,s=> ∃σout,Qo σout∧zR T io rs σout s
 | .exit _,_=>False
theorem xk {P:Program} {T:gQ} (hT:dR P T) {f:FuncId} {fn:Func} {c:Code} {n:Nat} {σin:St} {Qo:St→Prop} (hf:P.funcs[f]? =some fn) (hb:fn.body=some c) (hname: (fn.name== "runtime.NumGoroutine")=false) (hn:n≤fn.ntmps) (hfit:sX fn.ntmps c=true)
 (hsl:rZ n σin=true) (h:SW P (cA σin) c (aMv T (cA σin) fn.results.toList Qo) σin):SpecE P f n σin Qo:=by
 refine⟨⟨fn,hf,by rw[hb];rfl,hname⟩,fun ι ν S w args hgb hvr hsz hargs=> ?_⟩
 have hnu: ∀s,s<n→(args++Array.replicate (fn.ntmps - args.size) undef).getD s undef=ν s:=by
  intro s hs
  rw[Array.getD_eq_getD_getElem?,Array.getElem?_append_left (by omega),hargs s hs];rfl
 let cx:Cx P:={N:=fn.ntmps,w0:=w,S0:=S,k0:=fun o=>aU σin (.o o),kio:=fun o=>aU σin (.o o),ι0:=ι,gb:=hgb.weak fun b ⟨o,k,q1,q2,q3⟩=>⟨o,⟨k,q1,q2⟩,q3⟩}
 have hM: ∀b,cx.M b↔ ∃o,kR σin ι o b:=fun b=>⟨fun⟨o,k,q1,q2,q3⟩=>⟨o,⟨k,q1,q2⟩,q3⟩,fun⟨o,⟨k,q1,q2⟩,q3⟩=>⟨o,k,q1,q2,q3⟩⟩
 have hw:RW cx σin ι S {tmps:=args++Array.replicate (fn.ntmps - args.size) undef,defers:=[]} w:=by
  refine⟨⟨fun s x hx=> ?_,hvr.objs,hvr.mutS,hvr.inj,hvr.sz⟩,?_,rfl,Fr.refl _ _,fun o b ⟨⟨k,q1,q2⟩,q3⟩=> .inr ⟨o,k,q1,q2,q3⟩,fun b hb=> .inl hb,fun o k hk=>⟨k,hk,nA.refl' _ _⟩⟩
  · have hs:=tM hsl s _ hx
    have:iJ {tmps:=args++Array.replicate (fn.ntmps - args.size) undef,defers:=[]} s=ν s:=hnu s hs
    rw[this];exact hvr.slots s x hx
  · show(args++Array.replicate (fn.ntmps - args.size) undef).size=fn.ntmps
    simp;omega
 refine calls_of_wp hf hb (wp_mono (h cx ι S _ w (fun o k hk=>fG hk) hw hfit) fun e a' w' hq=> ?_)
 have fin: (∃σ' ι' S',(∃σout,Qo σout∧zR T (cA σin) fn.results.toList σout σ')∧RW cx σ' ι' S' a' w')→a'.defers=[]∧ ∃v,(results fn a'.tmps).run P w'= .ok v w'∧ ∃v_1 ι' S' σout,Qo σout∧Ending.returned v= .returned v_1∧aMl σin ι S w σout ι' S' w' v_1:=by
  rintro⟨σ',ι',S',⟨σout,hQo,X,rl,bor,hX,hm,hio⟩,hw'⟩
  obtain⟨v,hr,hv⟩:=ry hT hw' hX
  refine⟨hw'.defers,v,hr,v,fun j=>ι' (kA rl j),pR σ' ι' bor S',σout,hQo,rfl,?_⟩
  have hlo: ∀o,aU ((dF.t 0,K.v X)::dY σ') (.o o)=aU σ' (.o o):=fun o=>by simp only[aU];rw[if_neg (by simp),pS]
  have st:qT σ' ι' S' w' ((dF.t 0,K.v X)::dY σ') ι' S' w':=⟨fun _ h=>h,fun _ _=>rfl,fun o k hk=>⟨k,by rw[hlo];exact hk,nA.refl' _ _⟩⟩
  have hmut: ∀o b,kR ((dF.t 0,K.v X)::dY σ') ι' o b↔kR σ' ι' o b:=fun o b=>by unfold kR;rw[hlo]
  have hlt: ∀(r:St) s k,aU (dY r) (.t s)=some k→False:=by
   intro r s k
   induction r with
   |nil=>intro h;cases h
   |cons p r ih=>
    obtain⟨l,k'⟩:=p
    cases l with
    |t n=>exact ih
    |o n=>simp only[dY,aU];rw[if_neg (by simp)];exact ih
  have hvr0:VR ((dF.t 0,K.v X)::dY σ') ι' (fun _=>v) S' w':=by
   refine⟨fun s x hx=> ?_,fun o k hk=>OR.step st (fun _ _=>rfl) (hw'.vr.objs o k (by rw[← hlo];exact hk)),fun o b q=>hw'.vr.mutS o b ((hmut o b).1 q),fun o o' b q q'=>hw'.vr.inj o o' b ((hmut o b).1 q) ((hmut o' b).1 q'),hw'.vr.sz⟩
   simp only[aU] at hx
   split at hx
   · cases hx;exact lR.step st hv
   · exact(hlt σ' s _ hx).elim
  have hvr1:=uP hm (fun _ _ h=>h) hvr0
  have hio2: ∀o∈cA σin,iU o (cA σout)=false∨Nat.beq (kA rl o) o=true:=by simpa only[sa,aVi,Bool.or_eq_true,Bool.not_eq_true'] using hio
  have hgive: ∀b,pR ((dF.t 0,K.v X)::dY σ') ι' bor S' b→pR σ' ι' bor S' b:=fun b hb=>hb.imp id fun⟨o,ho,q⟩=>⟨o,ho,(hmut o b).1 q⟩
  refine⟨⟨hw'.fr.os,hw'.fr.tape,hw'.fr.output,hw'.fr.size,fun b hb hnm=>hw'.fr.block b hb (fun h=>hnm ((hM b).1 h))⟩,?_,fun b hb=> ?_,fun j b hmu=> ?_,fun o k k' hk hk'=> ?_⟩
  · have e:pR ((dF.t 0,K.v X)::dY σ') ι' bor S'=pR σ' ι' bor S':=by
     funext b;apply propext;exact⟨hgive b,fun hb=>hb.imp id fun⟨o,ho,q⟩=>⟨o,ho,(hmut o b).2 q⟩⟩
    rw[← e];exact hvr1
  · rcases hb with hb|⟨o,ho,hmo⟩
    · exact(hw'.rd b hb).imp id fun h=>h.imp id fun h=>(hM b).1 h
    · exact .inr ((hw'.own o b hmo).imp id fun h=>(hM b).1 h)
  · exact(hw'.own _ b ((hmut _ b).1 (hm.mut (fun _ _ h=>h) hmu))).imp id fun h=>(hM b).1 h
  · have hren:kA rl o=o:=by
     rcases hio2 o (fG hk) with h4|h4
     · rw[gS.2 (fG hk')] at h4;cases h4
     · exact Nat.eq_of_beq_eq_true h4
    obtain⟨k1,hk1,hev⟩:=hw'.io o k hk
    have hev:nA (ι o) (ι' o) k k1:=hev
    obtain⟨k2,hk2,hmk⟩:=hm.ids o k' hk'
    rw[hren,hlo,hk1] at hk2;cases hk2
    rw[hren]
    exact aBa hev hmk
 cases e with
 |normal=>
  obtain⟨σ',ι',S',h1,h2⟩:=hq
  exact fin ⟨σ',ι',S',h1,h2⟩
 |ret=>
  obtain⟨σ',ι',S',h1,h2⟩:=hq
  exact fin ⟨σ',ι',S',h1,h2⟩
 |exit id=>obtain⟨σ',ι',S',h1,h2⟩:=hq;exact h1.elim
 |goto l=>exact hq.elim
 |panic ch=>exact hq.elim
 |outgrown=>exact hq.elim
section
variable {P:Program} {f:FuncId} {n:Nat} {σin:St} {Qo:St→Prop} {rl:List (Nat×Nat)} {bor:List Nat} {σ0:St} {Xs:List V} {Ra:List (dF×Option K)} {robj:List (Nat×K)} {news:List Nat}
def aMw (Ra:List (dF×Option K)) (robj:List (Nat×K)) (rl:List (Nat×Nat)) (news:List Nat):List (dF×Option K):=
 Ra++robj.map (fun p=>(.o p.1,some p.2))++news.map fun j=>(.o (kA rl j),none)
theorem zm (hs:SpecE P f n σin Qo) {o:Oper} {c:Call} (ho:o.op= .call c) (hc:c.callee= .value (.func f)) (hx:evA σ0 c.args.toList=some (Xs,Ra)) (hn:Xs.length=n)
 (hm:oJ (eS 0 Xs++qX robj) σin rl bor) (hq: ∀σout,Qo σout→kI rl σin σout=true∧(bor=[]∨nB σout)∧ ∀j∈mT σin σout,j∈news):
 OpE P o (aMw Ra robj rl news) fun W=> ∃σout,Qo σout∧W=tH rl σin σout o.dst:=by
 intro cx σ ι S a w hr hw hd next Q hnext
 obtain⟨⟨fn,hf,hbody,hname⟩,hcall⟩:=hs
 obtain⟨hlen,hargs⟩:=mb hw hx hr.left.left
 let args:Array Value:=c.args.map a.eval
 let ν:Nat→Value:=fun i=>(args[i]?).getD undef
 have hsz:args.size=n:=by show(c.args.map a.eval).size=n;rw[Array.size_map,← hn,hlen,Array.length_toList]
 have hargν: ∀i,i<n→args[i]? =some (ν i):=fun i hi=>by
  show args[i]? =some ((args[i]?).getD undef)
  rw[Array.getElem?_eq_getElem (by omega)];rfl
 have hνr: ∀s X,Xs[s]? =some X→lR σ ι w S X (ν s):=fun s X hX=>by
  obtain⟨x,h1,h2⟩:=hargs s X hX
  have:ν s=a.eval x:=by
   show((c.args.map a.eval)[s]?).getD undef=a.eval x
   rw[Array.getElem?_toList] at h1
   rw[Array.getElem?_map,h1];rfl
  rw[this];exact h2
 have hlo: ∀o,aU (eS 0 Xs++dY σ) (.o o)=aU σ (.o o):=fun o=>by rw[kS,pS]
 have st:qT σ ι S w (eS 0 Xs++dY σ) ι S w:=⟨fun _ h=>h,fun _ _=>rfl,fun o k hk=>⟨k,by rw[hlo];exact hk,nA.refl' _ _⟩⟩
 have hmut: ∀o b,kR (eS 0 Xs++dY σ) ι o b↔kR σ ι o b:=fun o b=>by unfold kR;rw[hlo]
 have hvr0:VR (eS 0 Xs++dY σ) ι ν S w:=by
  refine⟨fun s x hx=> ?_,fun o k hk=>OR.step st (fun _ _=>rfl) (hw.vr.objs o k (by rw[← hlo];exact hk)),fun o b q=>hw.vr.mutS o b ((hmut o b).1 q),fun o o' b q q'=>hw.vr.inj o o' b ((hmut o b).1 q) ((hmut o' b).1 q'),hw.vr.sz⟩
  obtain⟨X,h1,h2⟩:=zS hx
  cases h2
  exact lR.step st (hνr s _ h1)
 have hsub: ∀l k,aU (eS 0 Xs++qX robj) l=some k→aU (eS 0 Xs++dY σ) l=some k:=fun l k h=>by
  cases l with
  |o o=>
   rw[hlo]
   rw[kS] at h
   exact hr (.o o,some k) (List.mem_append_left _ (List.mem_append_right _ (aVj.2 ⟨(o,k),fu h,rfl⟩)))
  |t s=>
   obtain⟨X,h1,rfl⟩:=uQ h
   have hs:=(aVe.1 h1).1
   rw[oX 0 Xs _ s (aVa _) (by omega)];simp[h1]
 have hvr1:=uP hm hsub hvr0
 have hgb:GB P w fun b=> ∃o,kR σin (fun j=>ι (kA rl j)) o b:=fun w2 h2=>cx.gb w2 (hw.fr.trans h2 fun x hx ⟨o,ho⟩=>by
  rcases hw.own _ x ((hmut _ _).1 (hm.mut hsub ho)) with h3|h3
  · omega
  · exact h3)
 have hcl:=hcall _ ν _ w args hgb hvr1 hsz hargν
 obtain⟨callee,cargs,argTypes⟩:=c
 dsimp only at hc
 subst hc
 have hbd: ∃cd,fn.body=some cd:=by
  cases hq:fn.body with
  |none=>rw[hq] at hbody;cases hbody
  |some cd=>exact⟨cd,rfl⟩
 obtain⟨cd,hbd⟩:=hbd
 have hrun: (execOp a.eval o).run P w= .ok (.enter f args) w:=by
  have h1:=MuLone.run_callFunc_enter (P:=P) hf hname hbd args w
  have e: (execOp a.eval o).run P w=(callFunc f (args++ #[])).run P w:=by
   simp[execOp,ho,resolve,invoke,Deferred.ofValue,args,Act.eval]
  rw[e,Array.append_empty];exact h1
 unfold Oper.wp
 rw[hrun,Oper.upon_enter]
 intro cs
 obtain⟨e,w',fr,⟨v,ι',S',σout,hQo,rfl,hpost⟩,hcomes⟩:=hcl cs
 refine⟨_,w',fr,?_,hcomes⟩
 dsimp only
 obtain⟨hk,hb,hnw⟩:=hq σout hQo
 have hr':bL (ol Ra robj rl σin σout) σ:=by
  intro p hp
  rcases List.mem_append.1 hp with hp|hp
  · exact hr p (List.mem_append_left _ hp)
  · obtain⟨j,hj,rfl⟩:=aVj.1 hp
    exact hr (.o (kA rl j),none) (List.mem_append_right _ (aVj.2 ⟨j,hnw j hj,rfl⟩))
 have hrw:=aIy (Ra:=Ra) hm hk hb hr' hw hνr hpost
 have hSK: ∀{l:dF} {k:K},aU σout l=some k→(∀b,S' b→(S b∨(bor=[]∧S' b)))∨vN k:=fun{l k} h=>by
  rcases hb with e|hs
  · exact .inl fun b hb=> .inr ⟨e,hb⟩
  · exact .inr (hs (l,k) (uN h))
 have hnext:=hnext _ ⟨σout,hQo,rfl⟩
 cases hdst:o.dst with
 |none=>
  refine hnext (oK rl σout ι' ι) (fun b=>S b∨(bor=[]∧S' b)) _ w' ?_
  rw[hdst]
  simp only[tH,xi,List.append_nil]
  exact hrw
 |some d=>
  have hd':=hd d hdst
  cases hq:aU σout (.t 0) with
  |none=>
   refine hnext (oK rl σout ι' ι) (fun b=>S b∨(bor=[]∧S' b)) _ w' ?_
   rw[hdst]
   simp only[tH,xi,pG,hq,iL]
   exact hrw.putDead hd' v
  |some k=>
   cases k with
   |v X=>
    refine hnext (oK rl σout ι' ι) (fun b=>S b∨(bor=[]∧S' b)) _ w' ?_
    rw[hdst]
    simp only[tH,xi,pG,hq,iL]
    exact hrw.put hd' (aIx hk (hSK hq) (hpost.vr.slots 0 (.v X) hq))
   |_=>
    refine hnext (oK rl σout ι' ι) (fun b=>S b∨(bor=[]∧S' b)) _ w' ?_
    rw[hdst]
    simp only[tH,xi,pG,hq,iL]
    exact hrw.putDead hd' v
end
theorem RW.weaken {P:Program} {cx:Cx P} {io:List Nat} {σ:St} {ι:Nat→Value} {S:Nat→Prop} {a:Act} {w:World} (σ':St) (rl:List (Nat×Nat)) (bor:List Nat) (hm:oJ σ σ' rl bor) (hk:yE io σ' rl bor=true) (hio: ∀o k,cx.kio o=some k→o∈io) (hw:RW cx σ ι S a w):RW cx σ' (fun j=>ι (kA rl j)) (pR σ ι bor S) a w:=by
 have hkk: ∀o k,cx.kio o=some k→kA rl o=o∧o∈cA σ'∧o∉bor:=fun o k ho=>by
  have:=aVi.1 hk o (hio o k ho)
  simp only[aU7,Bool.not_eq_true'] at this
  refine⟨Nat.eq_of_beq_eq_true this.1.1,gS.1 this.1.2,fun hb=> ?_⟩
  rw[gS.2 hb] at this;cases this.2
 have hvr:=uP hm (fun _ _ h=>h) hw.vr
 refine⟨hvr,hw.size,hw.defers,hw.fr,fun j b hmu=> ?_,fun b hb=> ?_,fun o k ho=> ?_⟩
 · exact hw.own _ b (hm.mut (fun _ _ h=>h) hmu)
 · rcases hb with hb|⟨o,ho,hmo⟩
   · exact hw.rd b hb
   · exact .inr (hw.own o b hmo)
 · obtain⟨q1,q2,q3⟩:=hkk o k ho
   obtain⟨k1,hk1,hev⟩:=hw.io o k ho
   obtain⟨p,hp⟩:=pQ q2
   obtain⟨k2,hk2,hmk⟩:=hm.ids o p hp
   rw[q1] at hk2
   rw[hk1] at hk2;cases hk2
   refine⟨p,hp,?_⟩
   rw[q1]
   exact aBa hev hmk
theorem RW.freeze {P:Program} {cx:Cx P} {σ:St} {ι:Nat→Value} {S:Nat→Prop} {a:Act} {w:World} (hw:RW cx σ ι S a w) {s o n:Nat} {e:TypeId} {es:Nat} {rows:List (List D)} (hs:aU σ (.t s)=some (.v (.e (.c (.own o n))))) (ho:aU σ (.o o)=some (.row e es rows)) (hn:rows.length=n):
 RW cx (pM (pM σ (.o o) .dead) (.t s) (.v (Dv (.sl rows)))) ι (fun b=>S b∨xT (ι o) b) a w:=by
 have hlo: ∀o',aU (pM (pM σ (.o o) .dead) (.t s) (.v (Dv (.sl rows)))) (.o o')=if o'=o then some .dead else aU σ (.o o'):=fun o'=>by
  rw[cM _ _ (by simp),oI]
  by_cases h:o'=o
  · subst h;simp
  · rw[if_neg (by simpa using fun e=>h e.symm),if_neg h]
 have hmut: ∀o' b,kR (pM (pM σ (.o o) .dead) (.t s) (.v (Dv (.sl rows)))) ι o' b→o'≠o∧kR σ ι o' b:=fun o' b ⟨⟨k,hk,hl⟩,hb⟩=>by
  rw[hlo] at hk
  by_cases h:o'=o
  · rw[if_pos h] at hk;cases hk;exact hl.elim
  · rw[if_neg h] at hk;exact⟨h,⟨k,hk,hl⟩,hb⟩
 have hmo: ∀b,xT (ι o) b→kR σ ι o b:=fun b hb=>⟨⟨_,ho,trivial⟩,hb⟩
 have st:qT σ ι S w (pM (pM σ (.o o) .dead) (.t s) (.v (Dv (.sl rows)))) ι (fun b=>S b∨xT (ι o) b) w:=by
  refine⟨fun b h=> .inl h,fun _ _=>rfl,fun o' k hk=> ?_⟩
  by_cases h:o'=o
  · exact⟨.dead,by rw[hlo,if_pos h],by cases k<;>simp[nA]⟩
  · exact⟨k,by rw[hlo,if_neg h];exact hk,nA.refl' _ _⟩
 have hrow:=hw.vr.objs o _ ho
 have hv:iJ a s=ι o:=by
  obtain⟨_,h2⟩:=(show CR σ ι w S (.own o n) (iJ a s) from hw.vr.slots s _ hs)
  rcases h2 with⟨e2,es2,rows2,hl,_,hv⟩|hd
  · rw[ho] at hl;cases hl;exact hv hn
  · rw[ho] at hd;cases hd
 refine⟨⟨fun t k hkt=> ?_,fun o' k hk=> ?_,fun o' b hm hS=> ?_,fun o1 o2 b h1 h2=> ?_,fun b hb=> ?_⟩,hw.size,hw.defers,hw.fr,fun o' b hm=>hw.own o' b (hmut o' b hm).2,fun b hb=> ?_,fun o' k hk'=> ?_⟩
 · rw[oI] at hkt
   by_cases e2:s=t
   · subst e2
     rw[if_pos rfl] at hkt;cases hkt
     show DR w _ (.sl rows) (iJ a s)
     rw[hv]
     rcases hrow with⟨h1,h2⟩|⟨g,off,cap,cur,fz,h1,hh,hfz,h2,h3,h4,h5⟩
     · rw[h1,h2]
       exact DR.sl [] none 0 es ⟨0,0,none⟩ (fun _ _=>undef) (aVf _) (by decide) (by simp) (by simp) (by simp) (by simp)
     · rw[h1]
       let u:Nat→Nat→Value:=fun i k=>(cur[off+i*es+k]?).getD undef
       refine DR.sl rows (some ⟨g,off,none⟩) cap es ⟨g,off,none⟩ u h2 h3 (fun r hr=> ?_) (fun _=>rfl) (fun i r k d hi hd=> ?_) (fun i r k d hi hd=> ?_)
       · obtain⟨i,hi⟩:=aVp.1 hr
         exact(h5 i r hi).1
       · obtain⟨v,hv1,_⟩:=(h5 i r hi).2 k d hd
         refine⟨.inr rfl,?_⟩
         rw[lF,cell_of_row w g _ cur e fz hh,← Nat.add_assoc]
         show cur[off+i*es+k]? =some ((cur[off+i*es+k]?).getD undef)
         rw[hv1];rfl
       · obtain⟨v,hv1,hv2⟩:=(h5 i r hi).2 k d hd
         have:u i k=v:=by show(cur[off+i*es+k]?).getD undef=v;rw[hv1];rfl
         rw[this]
         exact DR.mono (fun b h=> .inl h) (fun _ _=>rfl) hv2
   · rw[if_neg (by simpa using e2),cM _ _ (by simp)] at hkt
     exact qU.step st (hw.vr.slots t k hkt)
 · rw[hlo] at hk
   by_cases h:o'=o
   · rw[if_pos h] at hk;cases hk;trivial
   · rw[if_neg h] at hk
     exact OR.step st (fun _ _=>rfl) (hw.vr.objs o' k hk)
 · obtain⟨hne,hm⟩:=hmut o' b hm
   rcases hS with hS|hS
   · exact hw.vr.mutS o' b hm hS
   · exact hne (hw.vr.inj o' o b hm (hmo b hS))
 · exact hw.vr.inj o1 o2 b (hmut o1 b h1).2 (hmut o2 b h2).2
 · rcases hb with hb|hb
   · exact hw.vr.sz b hb
   · exact OR.lt hrow trivial hb
 · rcases hb with hb|hb
   · exact hw.rd b hb
   · exact .inr (hw.own o b (hmo b hb))
 · obtain⟨k2,q1,q2⟩:=hw.io o' k hk'
   by_cases hne:o'=o
   · exact⟨.dead,by rw[hlo,if_pos hne],by cases k<;>trivial⟩
   · exact⟨k2,by rw[hlo,if_neg hne];exact q1,q2⟩
def su (io:List Nat) (σ σ1:St):Prop:= ∀(P:Program) (cx:Cx P) (ι:Nat→Value) (S:Nat→Prop) (a:Act) (w:World),(∀o k,cx.kio o=some k→o∈io)→RW cx σ ι S a w→ ∃ι' S',RW cx σ1 ι' S' a w
theorem su.rfl {io:List Nat} {σ:St}:su io σ σ:=fun _ cx ι S a w _ h=>⟨ι,S,h⟩
theorem su.trans {io:List Nat} {σ σ1 σ2:St} (h:su io σ σ1) (k:su io σ1 σ2):su io σ σ2:=fun _ cx ι S a w hio hw=>by
 obtain⟨ι1,S1,h1⟩:=h _ cx ι S a w hio hw
 exact k _ cx ι1 S1 a w hio h1
theorem su.weak {io:List Nat} {σ σ1:St} (rl:List (Nat×Nat)) (bor:List Nat) (hm:mL σ σ1 rl bor σ1) (hm2:zQ σ1 rl bor=true) (hk:yE io σ1 rl bor=true):su io σ σ1:=fun _ cx ι S a w hio hw=>⟨_,_,RW.weaken σ1 rl bor ⟨hm,hm2⟩ hk hio hw⟩
theorem su.frz {io:List Nat} {σ:St} {s o n:Nat} {e:TypeId} {es:Nat} {rows:List (List D)} (hs:aU σ (.t s)=some (.v (.e (.c (.own o n))))) (ho:aU σ (.o o)=some (.row e es rows)) (hn:rows.length=n) (hk:iU o io=false):su io σ (pM (pM σ (.o o) .dead) (.t s) (.v (Dv (.sl rows)))):=fun _ cx ι S a w hio hw=>
 ⟨_,_,hw.freeze hs ho hn⟩
theorem SW.frz {P:Program} {io:List Nat} {Q:Ex→St→Prop} {σ:St} {c:Code} (s o:Nat) {n:Nat} {e:TypeId} {es:Nat} {rows:List (List D)} (hs:aU σ (.t s)=some (.v (.e (.c (.own o n))))) (ho:aU σ (.o o)=some (.row e es rows)) (hn:rows.length=n) (hk:iU o io=false)
 (h:qb σ (.o o) .dead fun σ'=>qb σ' (.t s) (.v (Dv (.sl rows))) fun σ2=>SW P io c Q σ2):SW P io c Q σ:=fun cx ι S a w hio hw hf=>by
 rw[oL,oL] at h
 obtain⟨ι1,S1,h1⟩:=su.frz hs ho hn hk _ cx ι S a w hio hw
 exact h cx ι1 S1 a w hio h1 hf
def zn (P:Program) (T:gQ) (io:List Nat) (o:Oper) (σ:St) (k:St→Prop):Prop:=
 match me T o σ with
 |some (p,_,W)=>p∧nC σ W k
 |none=> ∃σ1,su io σ σ1∧ ∃R Ws,OpE P o R Ws∧bL R σ1∧ ∀W,Ws W→nC σ1 W k
theorem ow {P:Program} {T:gQ} (hT:dR P T) {io:List Nat} {o:Oper} {σ:St} {k:St→Prop} (h:zn P T io o σ k): ∃σ1,su io σ σ1∧ ∃R Ws,OpE P o R Ws∧bL R σ1∧ ∀W,Ws W→nC σ1 W k:=by
 unfold zn at h
 split at h
 · rename_i p R W he
   obtain⟨h1,h2⟩:=vP hT o σ p R W he h.1
   exact⟨σ,su.rfl,R,_,h1.toE,h2,fun W' e=>by subst e;exact h.2⟩
 · exact h
def goE (P:Program) (T:gQ) (io:List Nat) (ops:List Oper):List Oper→St→(St→Prop)→Prop
 | [],σ,k=>k σ
 |o::os,σ,k=>match o.guard with
  |none=>zn P T io o σ fun σ'=>goE P T io ops os σ' k
  |some (j,want)=>match(ops[j]?).bind (·.dst),o.dst with
   |some s,some d=>match gOf want (aU σ (.t s)) with
    |some g=>ir P T o σ s want g d fun R X=>qb σ (.t d) (.cv s want g X) fun σ'=>goE P T io ops os σ' k
    |none=>False
   |_,_=>False
theorem mh {P:Program} {T:gQ} (hT:dR P T) {io:List Nat} {ops:Array Oper} {cx:Cx P} (hio: ∀o k,cx.kio o=some k→o∈io) {Q:Exit→Act→World→Prop} {k:St→Prop} (hk: ∀σ ι S a w,k σ→RW cx σ ι S a w→Q .normal a w): ∀(l:List Oper) (σ:St) (ι:Nat→Value) (S:Nat→Prop) (a:Act) (w:World),goE P T io ops.toList l σ k→RW cx σ ι S a w→(∀o∈l,∀d,o.dst=some d→d<cx.N)→wpList P ops Q l a w
 | [],σ,ι,S,a,w,h,hw,hf=>hk σ ι S a w h hw
 |o::os,σ,ι,S,a,w,h,hw,hf=>by
  have hfo:=hf o (List.mem_cons_self ..)
  have hfs: ∀o∈os,∀d,o.dst=some d→d<cx.N:=fun o ho=>hf o (List.mem_cons_of_mem _ ho)
  unfold wpList
  simp only[goE] at h
  split at h
  · rename_i hg
    obtain⟨σ1,hwk,R,Ws,h1,h2,h3⟩:=ow hT h
    rw[if_pos (by simp[Region.wanted,hg])]
    obtain⟨ι1,S1,hw1⟩:=hwk _ cx ι S a w hio hw
    refine .inl (h1 cx σ1 ι1 S1 a w h2 hw1 hfo _ Q fun W hW ι' S' a' w' hw'=> ?_)
    have h3:=h3 W hW
    rw[kP] at h3
    exact mh hT hio hk os _ ι' S' a' w' h3 hw' hfs
  · rename_i j want hg
    split at h<;>try(exact h.elim)
    rename_i s d hs hd
    split at h<;>try(exact h.elim)
    rename_i g hl
    have hs': (ops[j]?).bind (·.dst)=some s:=by simpa using hs
    obtain⟨R,X,h1,h2⟩:=ba hT hg hs' hd hl h
    rw[oL] at h2
    exact h1 cx σ ι S a w yI hw hfo _ Q fun ι' S' a' w' hw'=>mh hT hio hk os _ ι' S' a' w' (by simpa[iL] using h2) hw' hfs
section
variable {P:Program} {io:List Nat} {Q:Ex→St→Prop} {σ:St}
theorem SW.regE {T:gQ} (hT:dR P T) (ks:List Nat) {id:Nat} {ops:Array Oper} (h:goE P T io ops.toList ops.toList σ fun σ'=>qY ks σ' (Q .norm)):SW P io (.region id ops false) Q σ:=by
 intro cx ι S a w hio hw hf
 have hfit: ∀o∈ops.toList,∀d,o.dst=some d→d<cx.N:=fun o ho=>xX (by simpa[sX] using hf) ho
 refine wp_region_list (mh hT hio (fun σ' ι' S' a' w' h4 hw'=> ?_) ops.toList σ ι S a w h hw hfit)
 rw[mQ] at h4
 exact⟨_,ι',S',h4,hw'.keep ks⟩
end
section
variable {P:Program} {T:gQ} {io:List Nat} {f:FuncId} {n:Nat} {σin:St} {o:Oper} {c:Call} {d:Nat} {σ σ1:St} {Xs:List V} {Ra:List (dF×Option K)}
theorem cK {Qo:St→Prop} {rl:List (Nat×Nat)} {bor news:List Nat} {robj:List (Nat×K)} {k:St→Prop} (hs:SpecE P f n σin Qo) (ho:o.op= .call c) (hc:c.callee= .value (.func f)) (hx:evA σ c.args.toList=some (Xs,Ra)) (hn:Xs.length=n)
 (hm:oJ (eS 0 Xs++qX robj) σin rl bor) (hq: ∀σout,Qo σout→kI rl σin σout=true∧(bor=[]∨nB σout)∧ ∀j∈mT σin σout,j∈news) (h1: ∀p∈robj,aU σ (.o p.1)=some p.2) (h2: ∀j∈news,aU σ (.o (kA rl j))=none)
 (h: ∀σout,Qo σout→nC σ (tH rl σin σout o.dst) k): ∃σ1,su io σ σ1∧ ∃R Ws,OpE P o R Ws∧bL R σ1∧ ∀W,Ws W→nC σ1 W k:=by
 refine⟨σ,su.rfl,_,_,zm hs ho hc hx hn hm hq,fun p hp=> ?_,fun W ⟨σout,hQ,e⟩=>e▸h σout hQ⟩
 rcases List.mem_append.1 hp with hp|hp
 · rcases List.mem_append.1 hp with hp|hp
   · exact uF hx p hp
   · obtain⟨q,hq,rfl⟩:=aVj.1 hp
     exact h1 q hq
 · obtain⟨j,hj,rfl⟩:=aVj.1 hp
   exact h2 j hj
theorem yK {k:St→Prop} (s o':Nat) {m:Nat} {e:TypeId} {es:Nat} {rows:List (List D)} (hs:aU σ (.t s)=some (.v (.e (.c (.own o' m))))) (ho:aU σ (.o o')=some (.row e es rows)) (hn:rows.length=m) (hk:iU o' io=false)
 (h:qb σ (.o o') .dead fun σ'=>qb σ' (.t s) (.v (Dv (.sl rows))) fun σ2=> ∃σ1,su io σ2 σ1∧ ∃R Ws,OpE P o R Ws∧bL R σ1∧ ∀W,Ws W→nC σ1 W k): ∃σ1,su io σ σ1∧ ∃R Ws,OpE P o R Ws∧bL R σ1∧ ∀W,Ws W→nC σ1 W k:=by
 rw[oL,oL] at h
 obtain⟨σ1,h1,h2⟩:=h
 exact⟨σ1,(su.frz hs ho hn hk).trans h1,h2⟩
theorem gY {k:St→Prop} (h: ∃R W,wY P o R W∧bL R σ∧nC σ W k): ∃σ1,su io σ σ1∧ ∃R Ws,OpE P o R Ws∧bL R σ1∧ ∀W,Ws W→nC σ1 W k:=by
 obtain⟨R,W,h1,h2,h3⟩:=h
 exact⟨σ,su.rfl,R,_,h1.toE,h2,fun W' e=>by subst e;exact h3⟩
end
theorem cV {T:gQ} {io:List Nat} {rs:List ResultVar} {Qo:St→Prop} {s:St} (σout:St) (hq:Qo σout) (h:zR T io rs σout s): ∃σout,Qo σout∧zR T io rs σout s:=⟨σout,hq,h⟩
def sv (p v:Value):Prop:= ∃vs,p= .tuple vs∧v∈vs.toList
abbrev qc (b tot:Nat):Value:= .slice (some ⟨b,0,none⟩) tot tot
def iv (w:World) (S:Nat→Prop) (e:TypeId) (es:Nat) (Pr:List D→Prop) (b tot:Nat):Prop:=
 ∃(cur:Array Value) (fz:Nat×Nat),w.heap[b]? =some (.cells cur e fz)∧aL3 fz cur.size∧cur.size=tot*es∧ ∀i,i<tot→ ∃r:List D,r.length=es∧Pr r∧ ∀(k:Nat) d,r[k]? =some d→ ∃u,cur[i*es+k]? =some u∧DR w S d u
theorem iv.mono {w w':World} {S S':Nat→Prop} {e:TypeId} {es:Nat} {Pr:List D→Prop} {b tot:Nat} (hS: ∀b,S b→S' b) (hw: ∀b,S b→w'.heap[b]? =w.heap[b]?) (hb:w'.heap[b]? =w.heap[b]?) (h:iv w S e es Pr b tot):iv w' S' e es Pr b tot:=by
 obtain⟨cur,fz,hh,hf,hs,hr⟩:=h
 refine⟨cur,fz,by rw[hb];exact hh,hf,hs,fun i hi=> ?_⟩
 obtain⟨r,q1,q2,q3⟩:=hr i hi
 exact⟨r,q1,q2,fun k d hk=>by obtain⟨u,hu,hd⟩:=q3 k d hk;exact⟨u,hu,DR.mono hS hw hd⟩⟩
def aMx (e:TypeId) (es:Nat) (Pr:List D→Prop):ia where
 le p q:= ∀v,sv p v→sv q v
 R w S p:=(∃vs,p= .tuple vs)∧ ∀v,sv p v→ ∃b tot,v=qc b tot∧iv w S e es Pr b tot
 refl _ _ h:=h
 trans h k v hv:=k v (h v hv)
 mono:=by
  intro w w' S S' p hS hw hb ⟨h1,h2⟩
  refine⟨h1,fun v hv=> ?_⟩
  obtain⟨b,tot,rfl,hp⟩:=h2 v hv
  obtain⟨vs,rfl,hm⟩:=hv
  exact⟨b,tot,rfl,hp.mono hS hw (hb b ⟨_,hm,rfl⟩)⟩
 lt:=by
  intro w S p b ⟨⟨vs,hp⟩,h2⟩ hb
  subst hp
  obtain⟨v,hv,hbv⟩:=hb
  obtain⟨b',tot,rfl,cur,fz,hh,_⟩:=h2 v ⟨vs,rfl,hv⟩
  simp[blk] at hbv;subst hbv
  exact(Array.getElem?_eq_some_iff.1 hh).1
abbrev aI (e:TypeId) (es:Nat) (Pr:List D→Prop):K:= .zone (aMx e es Pr)
def slQ (es n:Nat) (p v:Value):Prop:=(v= .slice none 0 0∧n=0)∨ ∃b i0 cap tot,v= .slice (some ⟨b,i0*es,none⟩) n cap∧n≤cap∧cap≤maxLen∧i0+cap≤tot∧sv p (qc b tot)
def ptQ (es k:Nat) (p v:Value):Prop:= ∃b i tot,v= .pointer (some ⟨b,i*es+k,none⟩)∧i<tot∧sv p (qc b tot)
abbrev ps (j es n:Nat):C:= .z j (slQ es n)
theorem slQ.mono {es n:Nat} {p p' v:Value} (h: ∀v,sv p v→sv p' v) (hq:slQ es n p v):slQ es n p' v:=by
 rcases hq with hq|⟨b,i0,cap,tot,q1,q2,q3,q4,q5⟩
 · exact .inl hq
 · exact .inr ⟨b,i0,cap,tot,q1,q2,q3,q4,h _ q5⟩
theorem ptQ.mono {es n:Nat} {p p' v:Value} (h: ∀v,sv p v→sv p' v) (hq:ptQ es n p v):ptQ es n p' v:=by
 obtain⟨b,i,tot,q1,q2,q3⟩:=hq
 exact⟨b,i,tot,q1,q2,h _ q3⟩
theorem slQ.one {es n:Nat} {p v:Value} (h:slQ es n p v):v.oneCell'=true:=by
 rcases h with⟨rfl,_⟩|⟨b,i0,cap,tot,rfl,_⟩<;>rfl
section
variable {P:Program} {T:gQ} {cx:Cx P} {σ:St} {ι:Nat→Value} {S:Nat→Prop} {a:Act} {w:World} {j es n:Nat} {e:TypeId} {Pr:List D→Prop} {Z:ia} {Q:Value→Value→Prop} {v:Value}
theorem sN (h:CR σ ι w S (.z j Q) v) (hl:aU σ (.o j)=some (.zone Z)):Q (ι j) v:=by
 rcases h.2 with⟨Z',hl',hq⟩|hd
 · rw[hl] at hl';cases hl';exact hq _ (Z.refl _)
 · rw[hl] at hd;cases hd
theorem aI2 (hl:aU σ (.o j)=some (aI e es Pr)) (hq:slQ es n (ι j) v):CR σ ι w S (ps j es n) v:=⟨hq.one,.inl ⟨_,hl,fun p hp=>hq.mono hp⟩⟩
theorem aRa {k:Nat} (hl:aU σ (.o j)=some (aI e es Pr)) (hq:ptQ es k (ι j) v):CR σ ι w S (.z j (ptQ es k)) v:=
 ⟨by obtain⟨b,i,tot,rfl,_⟩:=hq;rfl,.inl ⟨_,hl,fun p hp=>hq.mono hp⟩⟩
theorem iw (hv:OR σ ι w S (ι j) (aI e es Pr)) (hl:aU σ (.o j)=some (aI e es Pr)) {b tot:Nat} (hb:sv (ι j) (qc b tot)):iv w S e es Pr b tot∧kR σ ι j b:=by
 obtain⟨h1,h2⟩:=hv
 obtain⟨b',tot',he,hp⟩:=h2 _ hb
 cases he
 exact⟨hp,⟨_,hl,trivial⟩,by obtain⟨vs,e,hm⟩:=hb;rw[e];exact⟨_,hm,rfl⟩⟩
end
section
variable {P:Program} {T:gQ} {o:Oper} {σ:St} {x y:Operand} {t e:TypeId} {s1 s2 d j es n:Nat} {s3:List C} {Z:ia} {R R2:List (dF×Option K)} {k:List (dF×Option K)→List (dF×K)→Prop} {Pr:List D→Prop} {ti:TI}
theorem fw (hT:dR P T) (ho:o.op= .call {callee:= .builtin .len,args:= #[x],argTypes:= #[t]}) (hd:o.dst=some d) (ht:T t=some ⟨.sl e,s1,s2,s3⟩) (hx:ev σ x=some (.e (.c (ps j es n)),R)) (hl:aU σ (.o j)=some (.zone Z))
 (h:k (R++[(.o j,some (.zone Z))]) [(.t d,.v (I n))]): ∃R W,wY P o R W∧bL R σ∧k R W:=by
 have hu:=(hT t _ ht).kind
 simp only[lU] at hu
 refine⟨_,_,nS hd fun cx σ' ι S a w hr hw=> ?_,(cZ hx).append (bL.one hl),h⟩
 have hl':=hr.right (.o j,some (.zone Z)) (by simp)
 dsimp only at hl'
 have hq:slQ es n (ι j) (a.eval x):=sN (S:=S) (w:=w) (dG hx hr.left hw) hl'
 rcases hq with⟨hv,rfl⟩|⟨b,i0,cap,tot,hv,_⟩
 · exact⟨_,by simp[execOp,ho,hv,resolve,invoke,builtin,Builtin.len_,run_underlying hu]<;>rfl,.i _⟩
 · exact⟨_,by simp[execOp,ho,hv,resolve,invoke,builtin,Builtin.len_,run_underlying hu]<;>rfl,.i _⟩
theorem aGy {m:Int} (hT:dR P T) (ho:o.op= .indexAddr t x y) (hd:o.dst=some d) (ht:T t=some ⟨.sl e,s1,s2,s3⟩) (hte:T e=some ti) (hes:ti.size=es) (hx:ev σ x=some (.e (.c (ps j es n)),R)) (hy:ev σ y=some (I m,R2)) {e':TypeId} (hl:aU σ (.o j)=some (aI e' es Pr))
 (hm:0≤m∧m<n) (h:k (R++R2++[(.o j,some (aI e' es Pr))]) [(.t d,.v (.e (.c (.z j (ptQ es 0)))))]): ∃R W,wY P o R W∧bL R σ∧k R W:=by
 have hu:=(hT t _ ht).kind
 simp only[lU] at hu
 refine⟨_,_,nS hd fun cx σ' ι S a w hr hw=> ?_,((cZ hx).append (cZ hy)).append (bL.one hl),h⟩
 have hl':=hr.right (.o j,some (aI e' es Pr)) (by simp)
 dsimp only at hl'
 have hq:slQ es n (ι j) (a.eval x):=sN (S:=S) (w:=w) (dG hx hr.left.left hw) hl'
 have hY:=dG hy hr.left.right hw
 simp only[lR,ER,CR] at hY
 cases hv2:a.eval y<;>rw[hv2] at hY<;>cases hY
 rcases hq with⟨hv,rfl⟩|⟨b,i0,cap,tot,hv,q2,q3,q4,q5⟩
 · have:=hm.1;have:=hm.2;omega
 · refine⟨.pointer (some ⟨b,(i0+m.toNat)*es+0,none⟩),?_,aRa (S:=S) (w:=w) hl' ⟨b,i0+m.toNat,tot,rfl,by have:=hm.1;have:=hm.2;omega,q5⟩⟩
   simp[execOp,ho,hv,hv2,uL hu (hT e ti hte) ⟨b,i0*es,none⟩ n cap m hm.1 hm.2,lF,hes,aVo]
theorem aMy {s f off k0:Nat} (hT:dR P T) (ho:o.op= .fieldAddr s x f) (hd:o.dst=some d) (hf:tL T s f=some (off,ti)) (hx:ev σ x=some (.e (.c (.z j (ptQ es k0))),R)) (hl:aU σ (.o j)=some (aI e es Pr))
 (h:k (R++[(.o j,some (aI e es Pr))]) [(.t d,.v (.e (.c (.z j (ptQ es (k0+off))))))]): ∃R W,wY P o R W∧bL R σ∧k R W:=by
 refine⟨_,_,nS hd fun cx σ' ι S a w hr hw=> ?_,(cZ hx).append (bL.one hl),h⟩
 have hl':=hr.right (.o j,some (aI e es Pr)) (by simp)
 dsimp only at hl'
 obtain⟨b,i,tot,hv,q2,q3⟩:ptQ es k0 (ι j) (a.eval x):=sN (S:=S) (w:=w) (dG hx hr.left hw) hl'
 exact⟨.pointer (some ⟨b,i*es+(k0+off),none⟩),by simp[execOp,ho,hv,vK hT hf,lF];omega,aRa (S:=S) (w:=w) hl' ⟨b,i,tot,rfl,q2,q3⟩⟩
theorem aMz {cx:Cx P} {ι:Nat→Value} {S:Nat→Prop} {a:Act} {w:World} (hw:RW cx σ ι S a w) {k0:Nat} {v:Value} (hl:aU σ (.o j)=some (aI e es Pr)) (hq:ptQ es k0 (ι j) v):
 ∃(b i tot:Nat) (r:List D),v= .pointer (some ⟨b,i*es+k0,none⟩)∧i<tot∧sv (ι j) (qc b tot)∧r.length=es∧Pr r∧ ∀(q:Nat) d,r[q]? =some d→ ∃u,w.cell? ⟨b,i*es+q,none⟩=some u∧DR w S d u:=by
 obtain⟨b,i,tot,hv,q2,q3⟩:=hq
 obtain⟨⟨cur,fz,hh,hf,hs,hr⟩,hm⟩:=iw (hw.vr.objs j _ hl) hl q3
 obtain⟨r,p1,p2,p3⟩:=hr i q2
 refine⟨b,i,tot,r,hv,q2,q3,p1,p2,fun q d hd=> ?_⟩
 obtain⟨u,hu,hdr⟩:=p3 q d hd
 exact⟨u,by rw[cell_of_row w b _ cur e fz hh];exact hu,hdr⟩
theorem aPl {Ws:V→Prop} (hd:o.dst=some d)
 (h: ∀(cx:Cx P) (σ:St) (ι:Nat→Value) (S:Nat→Prop) (a:Act) (w:World),bL R σ→RW cx σ ι S a w→ ∃v x,(execOp a.eval o).run P w= .ok (.value v) w∧lR σ ι w S x v∧Ws x):
 OpE P o R fun W=> ∃x,Ws x∧W=[(.t d,.v x)]:=by
 intro cx σ ι S a w hr hw hb next Q hn
 obtain⟨v,x,he,hx,hs⟩:=h cx σ ι S a w hr hw
 unfold Oper.wp
 rw[he]
 simp only[Oper.upon,hd]
 exact hn _ ⟨x,hs,rfl⟩ ι S _ w (hw.put (hb d hd) hx)
theorem aM0 {io:List Nat} {k0:Nat} {k:St→Prop} (hT:dR P T) (ho:o.op= .load t x) (hd:o.dst=some d) (hti:T t=some ti) (hag:ti.kind.agg=true) (hx:ev σ x=some (.e (.c (.z j (ptQ es k0))),R)) (hl:aU σ (.o j)=some (aI e es Pr)) (hk:k0+ti.size≤es)
 (h: ∀r:List D,r.length=es→Pr r→nC σ [(.t d,.v (.e (.agg (((r.drop k0).take ti.size).map C.d))))] k): ∃σ1,su io σ σ1∧ ∃R Ws,OpE P o R Ws∧bL R σ1∧ ∀W,Ws W→nC σ1 W k:=by
 refine⟨σ,su.rfl,_,_,aPl (Ws:=fun X=> ∃r:List D,r.length=es∧Pr r∧X= .e (.agg (((r.drop k0).take ti.size).map C.d))) hd (fun cx σ' ι S a w hr hw=> ?_),(cZ hx).append (bL.one hl),fun W ⟨X,⟨r,h1,h2,h3⟩,h4⟩=>by subst h3;subst h4;exact h r h1 h2⟩
 have hl':=hr.right (.o j,some (aI e es Pr)) (by simp)
 dsimp only at hl'
 have hok:=hT t ti hti
 obtain⟨b,i,tot,r,hv,q1,q2,hrl,hpr,hcell⟩:=aMz hw hl' (sN (S:=S) (w:=w) (dG hx hr.left hw) hl')
 have hex: ∃vs:List Value,vs.length=ti.size∧(∀(q:Nat) v,vs[q]? =some v→w.cell? ⟨b,i*es+k0+q,none⟩=some v)∧ ∀(q:Nat) d u,((r.drop k0).take ti.size)[q]? =some d→vs[q]? =some u→DR w S d u:=by
  refine⟨(aVh ti.size).map fun q=>(w.cell? ⟨b,i*es+k0+q,none⟩).getD undef,by simp,fun q v hq=> ?_,fun q d u h1 h2=> ?_⟩
  · have hql:q<ti.size:=by have:=(aVe.1 hq).1;simpa using this
    simp[hql] at hq
    have hlt:k0+q<r.length:=by omega
    obtain⟨u,hu,_⟩:=hcell (k0+q) _ (aVd hlt)
    rw[← Nat.add_assoc] at hu
    rw[hu] at hq ⊢
    simpa using hq
  · have hql:q<ti.size:=by have:=(aVe.1 h2).1;simpa using this
    rw[List.getElem?_take,if_pos hql,List.getElem?_drop] at h1
    obtain⟨u',hu,hdr⟩:=hcell (k0+q) d h1
    rw[← Nat.add_assoc] at hu
    simp[hql,hu] at h2
    subst h2;exact hdr
 obtain⟨vs,hvl,hvc,hvd⟩:=hex
 refine⟨.agg vs.toArray,.e (.agg (((r.drop k0).take ti.size).map C.d)),?_,⟨vs,rfl,by rw[List.length_map,aVc,aVk,hvl];omega,fun q c u h1 h2=> ?_⟩,r,hrl,hpr,rfl⟩
 · have:=mA (w:=w) hok hag ⟨b,i*es+k0,none⟩ vs hvl (fun q v hq=>by rw[lF];exact hvc q v hq)
   simp[execOp,ho,hv,Instr.loadAt,Instr.sureAddr,this]
 · rw[List.getElem?_map] at h1
   cases hq: ((r.drop k0).take ti.size)[q]? with
   |none=>rw[hq] at h1;cases h1
   |some d=>rw[hq] at h1;cases h1;exact hvd q d u hq h2
end
structure sw (σ:St) (ι:Nat→Value) (S:Nat→Prop) (w:World) (id:Nat) (k:K) (p:Value) (w':World):Prop where
 os:w'.os=w.os
 tape:w'.tape=w.tape
 output:w'.output=w.output
 size:w.heap.size≤w'.heap.size
 block: ∀b,b<w.heap.size→ ¬kR σ ι id b→w'.heap[b]? =w.heap[b]?
 evo:aU σ (.o id)=none∨ ∃k0,aU σ (.o id)=some k0∧nA (ι id) p k0 k
 new: ∀b,xT p b→kR σ ι id b∨w.heap.size≤b
 or_:OR (pM σ (.o id) k) (fun o=>if o=id then p else ι o) w' S p k
section
variable {σ:St} {ι:Nat→Value} {S:Nat→Prop} {w:World}
theorem aM1 {ν:Nat→Value} (h:VR σ ι ν S w) {id:Nat} {k:K} {p:Value} {w':World} (block: ∀b,b<w.heap.size→ ¬kR σ ι id b→w'.heap[b]? =w.heap[b]?) (evo:aU σ (.o id)=none∨ ∃k0,aU σ (.o id)=some k0∧nA (ι id) p k0 k):
 qT σ ι S w (pM σ (.o id) k) (fun o=>if o=id then p else ι o) S w':=by
 refine⟨fun _ h=>h,fun b hb=>block b (h.sz b hb) (fun hm=>h.mutS id b hm hb),fun o k0 hk=> ?_⟩
 by_cases e:o=id
 · subst e
   refine⟨k,cX _ _ _,?_⟩
   rcases evo with hn|⟨k1,hk1,hev⟩
   · rw[hn] at hk;cases hk
   · rw[hk1] at hk;cases hk;rw[if_pos rfl];exact hev
 · refine⟨k0,by rw[cM _ _ (by simpa using fun h=>e h.symm)];exact hk,?_⟩
   rw[if_neg e];exact nA.refl' _ _
theorem VR.turnZ {ν:Nat→Value} (h:VR σ ι ν S w) {id:Nat} {k:K} {p:Value} {w':World} (t:sw σ ι S w id k p w'):
 VR (pM σ (.o id) k) (fun o=>if o=id then p else ι o) ν S w':=by
 have st:=aM1 h t.block t.evo
 have mut_ne: ∀o b,o≠id→kR (pM σ (.o id) k) (fun o=>if o=id then p else ι o) o b→kR σ ι o b:=by
  intro o b ne hm
  obtain⟨⟨k0,hk,hl⟩,hb⟩:=hm
  rw[cM _ _ (by simpa using fun h=>ne h.symm)] at hk
  dsimp only at hb
  rw[if_neg ne] at hb
  exact⟨⟨k0,hk,hl⟩,hb⟩
 have mlt: ∀o b,kR σ ι o b→b<w.heap.size:=fun o b ⟨⟨k0,hk,hl⟩,hb⟩=>OR.lt (h.objs o k0 hk) hl hb
 have mid: ∀b,kR (pM σ (.o id) k) (fun o=>if o=id then p else ι o) id b→kR σ ι id b∨w.heap.size≤b:=by
  intro b hm
  have hb:=hm.2
  dsimp only at hb
  rw[if_pos rfl] at hb
  exact t.new b hb
 refine⟨fun s x hx=> ?_,fun o k0 hk=> ?_,fun o b hm hS=> ?_,fun o o' b hm hm'=> ?_,fun b hb=>Nat.lt_of_lt_of_le (h.sz b hb) t.size⟩
 · rw[cM _ _ (by simp)] at hx
   exact qU.step st (h.slots s x hx)
 · by_cases e:o=id
   · subst e
     rw[cX] at hk;cases hk
     rw[if_pos rfl]
     exact t.or_
   · rw[cM _ _ (by simpa using fun h=>e h.symm)] at hk
     rw[if_neg e]
     have ho:=h.objs o k0 hk
     by_cases hl:k0.live
     · refine OR.step st (fun b hb=> ?_) ho
       have hmut:kR σ ι o b:=⟨⟨k0,hk,hl⟩,hb⟩
       exact t.block b (mlt o b hmut) (fun e2=>e (h.inj o id b hmut e2))
     · cases k0<;>simp[K.live] at hl<;>trivial
 · by_cases e:o=id
   · subst e
     rcases mid b hm with h1|h1
     · exact h.mutS o b h1 hS
     · have:=h.sz b hS;omega
   · exact h.mutS o b (mut_ne o b e hm) hS
 · by_cases e:o=id
   · by_cases e':o'=id
     · rw[e,e']
     · subst e
       have h2:=mut_ne o' b e' hm'
       rcases mid b hm with h1|h1
       · exact absurd (h.inj o' o b h2 h1) e'
       · have:=mlt o' b h2;omega
   · by_cases e':o'=id
     · subst e'
       have h2:=mut_ne o b e hm
       rcases mid b hm' with h1|h1
       · exact absurd (h.inj o o' b h2 h1) e
       · have:=mlt o b h2;omega
     · exact h.inj o o' b (mut_ne o b e hm) (mut_ne o' b e' hm')
theorem RW.turnZ {P:Program} {cx:Cx P} {a:Act} (h:RW cx σ ι S a w) {id:Nat} {k:K} {p:Value} {w':World} (t:sw σ ι S w id k p w'):
 RW cx (pM σ (.o id) k) (fun o=>if o=id then p else ι o) S a w':=by
 refine⟨h.vr.turnZ t,h.size,h.defers,⟨t.os.trans h.fr.os,t.tape.trans h.fr.tape,t.output.trans h.fr.output,Nat.le_trans h.fr.size t.size,fun b hb hm=> ?_⟩,fun o b hm=> ?_,h.rd,fun o k1 ho=> ?_⟩
 · rw[t.block b (Nat.lt_of_lt_of_le hb h.fr.size) (fun e=> ?_)]
   · exact h.fr.block b hb hm
   · rcases h.own id b e with h1|h1
     · omega
     · exact hm h1
 · by_cases e:o=id
   · subst e
     have hb:=hm.2
     dsimp only at hb
     rw[if_pos rfl] at hb
     rcases t.new b hb with h1|h1
     · exact h.own o b h1
     · exact .inl (Nat.le_trans h.fr.size h1)
   · obtain⟨⟨k0,hk,hl⟩,hb⟩:=hm
     rw[cM _ _ (by simpa using fun h=>e h.symm)] at hk
     dsimp only at hb
     rw[if_neg e] at hb
     exact h.own o b ⟨⟨k0,hk,hl⟩,hb⟩
 · obtain⟨k',hk',hev⟩:=h.io o k1 ho
   by_cases e:o=id
   · subst e
     refine⟨k,cX _ _ _,?_⟩
     rw[if_pos rfl]
     rcases t.evo with hn|⟨k2,hk2,hev2⟩
     · rw[hn] at hk';cases hk'
     · rw[hk2] at hk';cases hk';exact hev.trans hev2
   · refine⟨k',by rw[cM _ _ (by simpa using fun h=>e h.symm)];exact hk',?_⟩
     rw[if_neg e];exact hev
end
section
variable {P:Program} {T:gQ} {o:Oper} {σ:St} {x y:Operand} {t e:TypeId} {s1 s2 d j es n:Nat} {s3:List C} {Z:ia} {R R2:List (dF×Option K)} {k:List (dF×Option K)→List (dF×K)→Prop} {Pr:List D→Prop} {ti:TI}
theorem zo {cx:Cx P} {ι:Nat→Value} {S:Nat→Prop} {a:Act} {w w':World} (hw:RW cx σ ι S a w) (hl:aU σ (.o j)=some (aI e es Pr)) {b tot:Nat} (hb:sv (ι j) (qc b tot)) {cur cur':Array Value} {fz:Nat×Nat}
 (hos:w'.os=w.os∧w'.tape=w.tape∧w'.output=w.output∧w'.heap.size=w.heap.size) (hc:w.heap[b]? =some (.cells cur e fz)) (hh:w'.heap[b]? =some (.cells cur' e fz)) (hs:cur'.size=cur.size) (ho: ∀b',b'≠b→w'.heap[b']? =w.heap[b']?)
 (hr: (∀b,S b→w'.heap[b]? =w.heap[b]?)→ ∀i,(i+1)*es≤cur.size→(∃r:List D,r.length=es∧Pr r∧ ∀(q:Nat) d,r[q]? =some d→ ∃u,cur[i*es+q]? =some u∧DR w S d u)→ ∃r:List D,r.length=es∧Pr r∧ ∀(q:Nat) d,r[q]? =some d→ ∃u,cur'[i*es+q]? =some u∧DR w' S d u):
 sw σ ι S w j (aI e es Pr) (ι j) w'∧qT σ ι S w (pM σ (.o j) (aI e es Pr)) (fun o=>if o=j then ι j else ι o) S w':=by
 obtain⟨hblk,hmut⟩:=iw (hw.vr.objs j _ hl) hl hb
 have hblock: ∀b',b'<w.heap.size→ ¬kR σ ι j b'→w'.heap[b']? =w.heap[b']?:=fun b' _ hne=>ho b' (fun h=>hne (by rw[h];exact hmut))
 have hevo:aU σ (.o j)=none∨ ∃k0,aU σ (.o j)=some k0∧nA (ι j) (ι j) k0 (aI e es Pr):= .inr ⟨_,hl,rfl,fun _ h=>h⟩
 have st:=aM1 hw.vr (p:=ι j) hblock hevo
 refine⟨⟨hos.1,hos.2.1,hos.2.2.1,by rw[hos.2.2.2];exact aVf _,hblock,hevo,fun b' hb'=> .inl ⟨⟨_,hl,trivial⟩,hb'⟩,?_⟩,st⟩
 obtain⟨h1,h2⟩:=hw.vr.objs j _ hl
 refine⟨h1,fun v hv=> ?_⟩
 obtain⟨b',tot',rfl,hp⟩:=h2 v hv
 refine⟨b',tot',rfl,?_⟩
 by_cases e1:b'=b
 · subst e1
   obtain⟨cur0,fz0,q1,q2,q3,q4⟩:=hp
   rw[hc] at q1;cases q1
   exact⟨cur',fz,hh,by rw[hs];exact q2,by rw[hs];exact q3,fun i hi=>hr st.keep i (by rw[q3];exact Nat.mul_le_mul_right _ hi) (q4 i hi)⟩
 · exact hp.mono st.sub st.keep (ho b' e1)
theorem aKb (hd:o.dst=none)
 (h: ∀(cx:Cx P) (σ:St) (ι:Nat→Value) (S:Nat→Prop) (a:Act) (w:World),bL R σ→RW cx σ ι S a w→ ∃p w',(execOp a.eval o).run P w= .ok .skip w'∧sw σ ι S w j (.zone Z) p w'):
 wY P o R [(.o j,.zone Z)]:=by
 intro cx σ ι S a w hr hw hb next Q hn
 obtain⟨p,w',he,ht⟩:=h cx σ ι S a w hr hw
 unfold Oper.wp
 rw[he]
 simp only[Oper.upon,hd,aC2]
 exact hn _ S _ w' (hw.turnZ ht)
theorem sy {X:V} (hd:o.dst=some d)
 (h: ∀(cx:Cx P) (σ:St) (ι:Nat→Value) (S:Nat→Prop) (a:Act) (w:World),bL R σ→RW cx σ ι S a w→ ∃v p w',(execOp a.eval o).run P w= .ok (.value v) w'∧sw σ ι S w j (.zone Z) p w'∧lR (pM σ (.o j) (.zone Z)) (fun o=>if o=j then p else ι o) w' S X v):
 wY P o R [(.o j,.zone Z),(.t d,.v X)]:=by
 intro cx σ ι S a w hr hw hb next Q hn
 obtain⟨v,p,w',he,ht,hx⟩:=h cx σ ι S a w hr hw
 unfold Oper.wp
 rw[he]
 simp only[Oper.upon,hd]
 exact hn _ S _ w' ((hw.turnZ ht).put (hb d hd) hx)
theorem aDq {k0:Nat} {Y:V} {ccs:List C} {vs:List D} (hT:dR P T) (ho:o.op= .store t x y) (hd:o.dst=none) (hti:T t=some ti) (hx:ev σ x=some (.e (.c (.z j (ptQ es k0))),R)) (hy:ev σ y=some (Y,R2)) (hc:cellsOf Y=some ccs) (hv:lv ccs=some vs) (hl:aU σ (.o j)=some (aI e es Pr))
 (hvl:vs.length=ti.size) (hk:k0+vs.length≤es) (hPr: ∀r:List D,r.length=es→Pr r→Pr (dC r k0 vs)) (h:k (R++R2++[(.o j,some (aI e es Pr))]) [(.o j,aI e es Pr)]): ∃R W,wY P o R W∧bL R σ∧k R W:=by
 refine⟨_,_,aKb hd fun cx σ' ι S a w hr hw=> ?_,((cZ hx).append (cZ hy)).append (bL.one hl),h⟩
 have hl':=hr.right (.o j,some (aI e es Pr)) (by simp)
 dsimp only at hl'
 have hok:=hT t ti hti
 obtain⟨b,i,tot,hvx,q2,q3⟩:ptQ es k0 (ι j) (a.eval x):=sN (S:=S) (w:=w) (dG hx hr.left.left hw) hl'
 obtain⟨⟨cur,fz,hh,hf,hs,hrows⟩,hm⟩:=iw (hw.vr.objs j _ hl') hl' q3
 obtain⟨us,hu,hul,huk⟩:=mO hc (dG hy hr.left.right hw)
 have hvl2:=pE hv
 have hdr: ∀(q:Nat) d u,vs[q]? =some d→us[q]? =some u→DR w S d u:=fun q d u hj hu'=>by
  obtain⟨c,hc,htd⟩:=xC hv q d hj
  exact xB htd (huk q c u hc hu')
 have hone: ∀u∈us,u.oneCell'=true:=fun u hu'=>by
  obtain⟨q,hj⟩:=aVp.1 hu'
  have hlt:q<ccs.length:=by rw[← hul];exact(aVe.1 hj).1
  exact CR.one (huk q _ u (aVd hlt) hj)
 have hin: (i+1)*es≤tot*es:=Nat.mul_le_mul_right _ q2
 rw[aVo,Nat.one_mul] at hin
 have hfit:i*es+k0+us.length≤cur.size:=by rw[hul,← hvl2,hs];omega
 have hrun:=rC (P:=P) hok b (i*es+k0) cur hf hh (a.eval y) us hu (by rw[hul,← hvl2];exact hvl) hfit hone
 have h9:cur.toList.length=cur.size:=Array.length_toList
 obtain⟨ht,_⟩:=zo (w':=w.setRow b (dC cur.toList (i*es+k0) us).toArray) (cur':=(dC cur.toList (i*es+k0) us).toArray) hw hl' q3 ⟨rfl,rfl,rfl,by simp⟩ hh (setRow_heap w b cur _ e _ hh) (by rw[List.size_toArray,fK (by omega),h9]) (fun b' hne=>setRow_other w b b' _ hne) (fun hkeep i2 hi2 ⟨r,p1,p2,p3⟩=>by
  have get: ∀q,(dC cur.toList (i*es+k0) us).toArray[q]? =if q<i*es+k0 then cur[q]? else if q<i*es+k0+us.length then us[q - (i*es+k0)]? else cur[q]?:=fun q=>by
   rw[← Array.getElem?_toList,List.toList_toArray,iP (by omega)]
   simp
  by_cases hii:i2=i
  · subst hii
    refine⟨dC r k0 vs,by rw[fK (by omega)];exact p1,hPr r p1 p2,fun q d hd=> ?_⟩
    rw[iP (by omega)] at hd
    rw[get]
    split at hd
    · obtain⟨u,hu1,hu2⟩:=p3 q d hd
      exact⟨u,by rw[if_pos (by omega)];exact hu1,DR.mono (fun _ h=>h) hkeep hu2⟩
    · split at hd
      · have hjl:q - k0<us.length:=by omega
        refine⟨us[q - k0],?_,DR.mono (fun _ h=>h) hkeep (hdr _ d _ hd (aVd hjl))⟩
        rw[if_neg (by omega),if_pos (by omega),show i2*es+q - (i2*es+k0)=q - k0 by omega]
        exact aVd hjl
      · obtain⟨u,hu1,hu2⟩:=p3 q d hd
        exact⟨u,by rw[if_neg (by omega),if_neg (by omega)];exact hu1,DR.mono (fun _ h=>h) hkeep hu2⟩
  · refine⟨r,p1,p2,fun q d hd=> ?_⟩
    obtain⟨u,hu1,hu2⟩:=p3 q d hd
    refine⟨u,?_,DR.mono (fun _ h=>h) hkeep hu2⟩
    rw[get]
    have hq:q<es:=by rw[← p1];exact(aVe.1 hd).1
    rcases Nat.lt_or_gt_of_ne hii with h1|h1
    · have: (i2+1)*es≤i*es:=Nat.mul_le_mul_right _ h1
      rw[aVo,Nat.one_mul] at this
      rw[if_pos (by omega)];exact hu1
    · have: (i+1)*es≤i2*es:=Nat.mul_le_mul_right _ h1
      rw[aVo,Nat.one_mul] at this
      rw[if_neg (by omega),if_neg (by omega)];exact hu1)
 exact⟨ι j,_,by simp[execOp,ho,hvx,Instr.storeAt,Instr.sureAddr,hrun],ht⟩
theorem aDr {lo hi:Option Operand} {lo' hi':Option Int} {R3:List (dF×Option K)} {e':TypeId} (hT:dR P T) (ho:o.op= .slice t x lo hi none) (hd:o.dst=some d) (ht:T t=some ⟨.sl e,s1,s2,s3⟩) (hte:T e=some ti) (hes:ti.size=es) (hx:ev σ x=some (.e (.c (ps j es n)),R)) (hlo:evI σ lo=some (lo',R2)) (hhi:evI σ hi=some (hi',R3)) (hl:aU σ (.o j)=some (aI e' es Pr))
 (hb:yz lo' hi' n) {m:Nat} (hm:m=gF hi' n - fD lo') (h:k (R++R2++R3++[(.o j,some (aI e' es Pr))]) [(.t d,.v (.e (.c (ps j es m))))]): ∃R W,wY P o R W∧bL R σ∧k R W:=by
 subst hm
 have hu:=(hT t _ ht).kind
 simp only[lU] at hu
 have hok:=hT e ti hte
 refine⟨_,_,nS hd fun cx σ' ι S a w hr hw=> ?_,(((cZ hx).append (uD hlo)).append (uD hhi)).append (bL.one hl),h⟩
 have hl':=hr.right (.o j,some (aI e' es Pr)) (by simp)
 dsimp only at hl'
 have h1:=uE hlo hr.left.left.right hw
 have h2:=uE hhi hr.left.right hw
 have hq:slQ es n (ι j) (a.eval x):=sN (S:=S) (w:=w) (dG hx hr.left.left.left hw) hl'
 rcases hq with⟨hv,rfl⟩|⟨b,i0,cap,tot,hv,q2,q3,q4,q5⟩
 · have hb2:=yC (P:=P) (w:=w) (isSl:=true) (len:=0) (cap:=0) (aVf _) hb
   have e1:fD lo'=0:=by obtain⟨p1,p2,p3⟩:=hb;unfold fD;omega
   have e2:gF hi' 0=0:=by obtain⟨p1,p2,p3⟩:=hb;unfold gF;omega
   rw[e1,e2] at hb2 ⊢
   exact⟨.slice none 0 0,by simp[execOp,ho,hv,Instr.sliceAt,run_underlying hu,Instr.slice,h1,h2,hb2,fO hok],aI2 (S:=S) (w:=w) hl' (.inl ⟨rfl,rfl⟩)⟩
 · have hb2:=yC (P:=P) (w:=w) (isSl:=true) (len:=n) (cap:=cap) q2 hb
   have e1:fD lo'≤cap:=by obtain⟨p1,p2,p3⟩:=hb;unfold fD;omega
   have e2:gF hi' n≤n:=by obtain⟨p1,p2,p3⟩:=hb;unfold gF;omega
   refine⟨.slice (if cap=fD lo' then some ⟨b,i0*es,none⟩ else(some (⟨b,i0*es,none⟩:Addr)).map (·.add (fD lo'*ti.size))) (gF hi' n - fD lo') (cap - fD lo'),by simp[execOp,ho,hv,Instr.sliceAt,run_underlying hu,Instr.slice,h1,h2,hb2,fO hok],aI2 (S:=S) (w:=w) hl' ?_⟩
   by_cases hc:cap=fD lo'
   · exact .inr ⟨b,i0,cap - fD lo',tot,by rw[if_pos hc],by omega,by omega,by omega,q5⟩
   · exact .inr ⟨b,i0+fD lo',cap - fD lo',tot,by rw[if_neg hc,Option.map_some,lF,hes,aVo],by omega,by omega,by omega,q5⟩
end
structure Src (P:Program) (σ:St) (y:Operand) (t2:TypeId) (es m:Nat) (Pr:List D→Prop) (R:List (dF×Option K)):Prop where
 rd:bL R σ
 ty: ∃d2,P.underlying t2=some d2∧ ∀k,d2≠ .int k
 run: ∀(cx:Cx P) (σ':St) (ι:Nat→Value) (S:Nat→Prop) (a:Act) (w:World),bL R σ'→RW cx σ' ι S a w→ ∃rows nv,rows.length=m∧(∀r∈rows,r.length=es∧Pr r)∧ij P w S es rows (a.eval y) nv
section
variable {P:Program} {T:gQ} {o:Oper} {σ:St} {x y:Operand} {t t2 e:TypeId} {s1 s2 d j es n m:Nat} {s3:List C} {Z:ia} {R R2 R3:List (dF×Option K)} {k:List (dF×Option K)→List (dF×K)→Prop} {Pr:List D→Prop} {ti:TI}
theorem ix (hT:dR P T) {Y:V} {q:Prop} {rows:List (List D)} (hes:0<es) (hy:ev σ y=some (Y,R)) (h:rV T σ t2 Y=some (q,rows,R2)) (hq:q) (hr: ∀r∈rows,r.length=es∧Pr r) (hm:m=rows.length):Src P σ y t2 es m Pr (R++R2):=
 ⟨(cZ hy).append (rW h),xW hT h,fun cx σ' ι S a w hrd hw=>by
  obtain⟨nv,hs⟩:=cw hT h hq hes (fun r hr'=>(hr r hr').1) hrd.right hw (dG hy hrd.left hw)
  exact⟨rows,nv,hm.symm,hr,hs⟩⟩
theorem aKc {w:World} {S:Nat→Prop} {g off cap:Nat} {cur:Array Value} {fz:Nat×Nat} {vx:Value} {rows:List (List D)} (hes:0<es) (hv:vx= .slice (some ⟨g,off,none⟩) rows.length cap) (hh:w.heap[g]? =some (.cells cur e fz)) (hle:off+rows.length*es≤cur.size)
 (hrows: ∀(i:Nat) r,rows[i]? =some r→r.length=es∧ ∀(k:Nat) d,r[k]? =some d→ ∃u,cur[off+i*es+k]? =some u∧DR w S d u): ∃nv,ij P w S es rows vx nv:=by
 have h9:cur.toList.length=cur.size:=Array.length_toList
 have hget: ∀j,j<rows.length*es→((cur.toList.drop off).take (rows.length*es))[j]? =cur[off+j]?:=by
  intro j hj
  rw[List.getElem?_take,if_pos hj,List.getElem?_drop];simp
 refine⟨(cur.toList.drop off).take (rows.length*es),⟨by rw[hv];simp[Builtin.lenOf],fun w1=>by rw[hv];simp[Builtin.lenOf],fun w1 m h1 hm=> ?_,by simp;omega,?_,fun i r hri k d hk=> ?_⟩⟩
 · rw[hv]
   have hle2:m*es≤rows.length*es:=Nat.mul_le_mul_right _ hm
   refine run_firstCells_some (P:=P) w1 es m ⟨g,off,none⟩ rows.length cap _ (by rw[aVc,aVc,aVk];omega) (fun j v hj=> ?_)
   have hjl:j<m*es:=by have:=(aVe.1 hj).1;rw[aVc] at this;omega
   rw[List.getElem?_take,if_pos hjl] at hj
   have hjl:j<rows.length*es:=by omega
   rw[hget j hjl] at hj
   rw[uM h1,lF,cell_of_row w g _ cur e fz hh];exact hj
 · intro v hv2
   obtain⟨j,hj⟩:=aVp.1 hv2
   have hjl:j<rows.length*es:=by have:=(aVe.1 hj).1;simp at this;omega
   rw[hget j hjl] at hj
   have h1:j / es<rows.length:=(Nat.div_lt_iff_lt_mul hes).2 hjl
   have h2:j % es<es:=Nat.mod_lt _ hes
   have hrr:=hrows (j / es) _ (aVd h1)
   have h3:j % es< (rows[j / es]).length:=by rw[hrr.1];exact h2
   obtain⟨u,hu,hdr⟩:=hrr.2 (j % es) _ (aVd h3)
   rw[Nat.add_assoc,Nat.div_add_mod'] at hu
   rw[hu] at hj;cases hj
   exact DR.oneCell hdr
 · have hil:i<rows.length:=(aVe.1 hri).1
   have hr:=hrows i r hri
   have hkl:k<es:=by rw[← hr.1];exact(aVe.1 hk).1
   obtain⟨u,hu,hdr⟩:=hr.2 k d hk
   exact⟨u,by rw[hget _ (lA hil hkl),← Nat.add_assoc];exact hu,hdr⟩
theorem aDs {α:Type} {n:Nat} {p:Nat→α→Prop} (h: ∀i,i<n→ ∃a,p i a): ∃l:List α,l.length=n∧ ∀(i:Nat) a,l[i]? =some a→p i a:=by
 induction n with
 |zero=>exact⟨[],rfl,by simp⟩
 |succ n ih=>
  obtain⟨l,h1,h2⟩:=ih fun i hi=>h i (by omega)
  obtain⟨a,ha⟩:=h n (by omega)
  refine⟨l++[a],by simp[h1],fun i b hb=> ?_⟩
  by_cases hi:i<l.length
  · rw[List.getElem?_append_left hi] at hb;exact h2 i b hb
  · rw[List.getElem?_append_right (by omega)] at hb
    have:i=n:=by
     have:=(aVe.1 hb).1
     simp at this;omega
    subst this
    rw[h1,Nat.sub_self] at hb;cases hb;exact ha
theorem aDt (hT:dR P T) (hes:0<es) (hy:ev σ y=some (.e (.c (ps j es m)),R)) (hl:aU σ (.o j)=some (aI e es Pr)) {e2:TypeId} (ht2:T t2=some ⟨.sl e2,s1,s2,s3⟩):Src P σ y t2 es m Pr (R++[(.o j,some (aI e es Pr))]):=
 ⟨(cZ hy).append (bL.one hl),⟨_,(hT t2 _ ht2).kind,fun k h=>by cases h⟩,fun cx σ' ι S a w hr hw=>by
  have hl':=hr.right (.o j,some (aI e es Pr)) (by simp)
  dsimp only at hl'
  have hq:slQ es m (ι j) (a.eval y):=sN (S:=S) (w:=w) (dG hy hr.left hw) hl'
  rcases hq with⟨hv,rfl⟩|⟨b,i0,cap,tot,hv,q2,q3,q4,q5⟩
  · exact⟨[],[],rfl,by simp,by rw[hv];simp[Builtin.lenOf],fun w1=>by rw[hv];simp[Builtin.lenOf],fun w1 m h1 hm=>by(obtain rfl:m=0:=by simpa using hm);rw[hv];simp[Builtin.firstCells],by simp,by simp,by simp⟩
  · obtain⟨⟨cur,fz,hh,hf,hs,hrows⟩,hm⟩:=iw (hw.vr.objs j _ hl') hl' q5
    obtain⟨rows,h1,h2⟩:=aDs (n:=m) fun i hi=>hrows (i0+i) (by omega)
    have hle: (i0+m)*es≤tot*es:=Nat.mul_le_mul_right _ (by omega)
    rw[aVo] at hle
    obtain⟨nv,hs2⟩:=aKc (P:=P) (rows:=rows) (off:=i0*es) (vx:=a.eval y) (cap:=cap) hes (by rw[hv,h1]) hh (by rw[h1,hs];exact hle) fun i r hi=>by
     obtain⟨p1,p2,p3⟩:=h2 i r hi
     exact⟨p1,fun k d hd=>by rw[← aVo];exact p3 k d hd⟩
    exact⟨rows,nv,h1,fun r hr=>by obtain⟨i,hi⟩:=aVp.1 hr;exact⟨(h2 i r hi).1,(h2 i r hi).2.1⟩,hs2⟩⟩
theorem iy {w:World} {ty:TypeId} {d2:TypeDesc} (hu:P.underlying t=some (.slice e)) (hok:eV P e ti) (hu2:P.underlying t2=some d2) (hd2: ∀k,d2≠ .int k)
 {S:Nat→Prop} {rows:List (List D)} {vx:Value} {news:List Value} (hs:ij P w S ti.size rows vx news) (base:Option Addr) (sLen sCap:Nat) (olds:List Value)
 (hold: ∀w1,w1.heap=w.heap→(Builtin.firstCells ti.size sLen (.slice base sLen sCap)).run P w1= .ok olds.toArray w1)
 (hgrow:sCap<sLen+rows.length) (hbytes: (sLen+rows.length)*ti.bytes≤140737488355328) {z:List D} (hz0:lv ti.zero=some z):
 ∃cap zs,(Builtin.append_ #[t,t2] ty #[.slice base sLen sCap,vx]).run P w= .ok (.slice (some ⟨w.heap.size,0,none⟩) (sLen+rows.length) cap) (w.drew.alloc (.cells (olds++news++zs).toArray e))∧sLen+rows.length≤cap∧cap≤maxLen∧
  zs.length=(cap - (sLen+rows.length))*ti.size∧ ∀(i:Nat),i<cap - (sLen+rows.length)→ ∀(q:Nat) d,z[q]? =some d→ ∃u,zs[i*ti.size+q]? =some u∧ ∀w' S',DR w' S' d u:=by
 have hz: (match d2 with| .int _=>true|_=>false)=false:=by cases d2<;>first|rfl|exact absurd rfl (hd2 _)
 obtain⟨i,zz,hi,hsz,hby,hzero,hzc⟩:=hok.info
 have hb:=hok.bpos
 have hle:sLen+rows.length≤(sLen+rows.length)*ti.bytes:=Nat.le_mul_of_pos_right _ hb
 have hfit: ¬(281474976710656<Builtin.nextslicecap (sLen+rows.length) sCap*ti.bytes):=by
  have:=growslice_fits hgrow hbytes;omega
 have hcl:=grownCap_ge w (sLen+rows.length) sCap e
 have hcm:=grownCap_le_maxLen w (sLen+rows.length) sCap e (by simp only[maxLen];omega)
 have hzl:zz.cells.size=ti.size:=by rw[← Array.length_toList,hzc,List.length_map,hok.zlen]
 refine⟨grownCap w (sLen+rows.length) sCap e,(Builtin.zeroCells zz.cells (grownCap w (sLen+rows.length) sCap e - (sLen+rows.length))).toList,?_,hcl,hcm,?_,fun i hil q d hq=> ?_⟩
 · have hn: ¬(sLen+rows.length≤sCap):=by omega
   have h63: ¬(9223372036854775807< ((sLen:Int)+(rows.length:Int))):=by omega
   have ho:=hold w.drew rfl
   have hf:=hs.first w.drew rfl
   simp[Builtin.append_,run_underlying hu,run_underlying hu2,fO hok,hs.len,hn,h63,typeInfo,hi,hby,hfit,hz,Question.forced,zeroValue,hzero,newRow,grownCap]
   rw[ho,Result.andThen_ok,hf,Result.andThen_ok]
   simp
   congr 2
   apply Array.toList_inj.1
   simp
 · simp[size_zeroCells,hzl]
 · obtain⟨c,hc,htd⟩:=xC hz0 q d hq
   have hkl:q<ti.size:=by rw[← hok.zlen];exact(aVe.1 hc).1
   have hlt:=lA hil hkl
   have hzk:zz.cells[q]? =some (zv c):=by rw[← Array.getElem?_toList,hzc,List.getElem?_map,hc];rfl
   refine⟨zv c,?_,fun w' S'=>xB (σ:=[]) (ι:=fun _=>undef) htd (tK (aVi.1 hok.zok c (List.mem_of_getElem? hc)))⟩
   have hm: (i*ti.size+q) % zz.cells.size=q:=by rw[hzl,Nat.mul_comm,Nat.mul_add_mod,Nat.mod_eq_of_lt hkl]
   have hk2:q<zz.cells.size:=by rw[hzl];exact hkl
   have e1:zz.cells[q]! =zv c:=by rw[getElem!_pos zz.cells q hk2];rw[Array.getElem?_eq_getElem hk2] at hzk;exact Option.some.inj hzk
   have hlt':i*ti.size+q< (grownCap w (sLen+rows.length) sCap e - (sLen+rows.length))*zz.cells.size:=by rw[hzl];exact hlt
   simp only[Builtin.zeroCells,Array.toList_map,List.getElem?_map,Array.getElem?_toList,Array.getElem?_range,hlt',if_true,Option.map_some,hm,e1]
theorem zp {cx:Cx P} {ι:Nat→Value} {S:Nat→Prop} {a:Act} {w w0:World} (hw:RW cx σ ι S a w) (hl:aU σ (.o j)=some (aI e es Pr)) {cells:Array Value} {tot:Nat} (hw0:w0.heap=w.heap∧w0.os=w.os∧w0.tape=w.tape∧w0.output=w.output)
 (hs:cells.size=tot*es) (hr: (∀b,S b→(w0.alloc (.cells cells e)).heap[b]? =w.heap[b]?)→ ∀i,i<tot→ ∃r:List D,r.length=es∧Pr r∧ ∀(q:Nat) d,r[q]? =some d→ ∃u,cells[i*es+q]? =some u∧DR (w0.alloc (.cells cells e)) S d u):
 ∃p',sw σ ι S w j (aI e es Pr) p' (w0.alloc (.cells cells e))∧(∀v,sv (ι j) v→sv p' v)∧sv p' (qc w.heap.size tot):=by
 obtain⟨⟨vs,hp⟩,h2⟩:=hw.vr.objs j _ hl
 have hold: ∀b,b<w.heap.size→(w0.alloc (.cells cells e)).heap[b]? =w.heap[b]?:=fun b hb=>by rw[heap_alloc_old w0 _ b (by rw[hw0.1];exact hb),hw0.1]
 have hnew: (w0.alloc (.cells cells e)).heap[w.heap.size]? =some (.cells cells e (0,0)):=by
  have:=heap_alloc_new w0 (.cells cells e)
  rw[hw0.1] at this;exact this
 have hsub: ∀v,sv (ι j) v→sv (.tuple (vs.push (qc w.heap.size tot))) v:=fun v ⟨vs',h3,h4⟩=>by
  rw[hp] at h3;cases h3
  exact⟨_,rfl,by simp[h4]⟩
 have hevo:aU σ (.o j)=none∨ ∃k0,aU σ (.o j)=some k0∧nA (ι j) (.tuple (vs.push (qc w.heap.size tot))) k0 (aI e es Pr):= .inr ⟨_,hl,rfl,hsub⟩
 have hblock: ∀b,b<w.heap.size→ ¬kR σ ι j b→(w0.alloc (.cells cells e)).heap[b]? =w.heap[b]?:=fun b hb _=>hold b hb
 have st:=aM1 hw.vr hblock hevo
 refine⟨.tuple (vs.push (qc w.heap.size tot)),⟨hw0.2.1,hw0.2.2.1,hw0.2.2.2,by simp[hw0.1],hblock,hevo,fun b hb=> ?_,⟨_,rfl⟩,fun v hv=> ?_⟩,hsub,⟨_,rfl,by simp⟩⟩
 · obtain⟨v,hv,hb⟩:=hb
   have hv:v∈vs.toList∨v=qc w.heap.size tot:=by simpa using hv
   rcases hv with hv|rfl
   · exact .inl ⟨⟨_,hl,trivial⟩,by rw[hp];exact⟨v,hv,hb⟩⟩
   · simp[blk] at hb;exact .inr (by omega)
 · obtain⟨vs',h3,h4⟩:=hv
   cases h3
   have h4:v∈vs.toList∨v=qc w.heap.size tot:=by simpa using h4
   rcases h4 with h4|rfl
   · obtain⟨b,tot',rfl,hpb⟩:=h2 v (by rw[hp];exact⟨vs,rfl,h4⟩)
     refine⟨b,tot',rfl,hpb.mono st.sub st.keep (hold b ?_)⟩
     obtain⟨cur,fz,hh,_⟩:=hpb
     exact(Array.getElem?_eq_some_iff.1 hh).1
   · exact⟨_,tot,rfl,cells,(0,0),hnew,.inl rfl,hs,hr st.keep⟩
theorem mi {z:List D} (hT:dR P T) (ho:o.op= .call {callee:= .builtin .append,args:= #[x,y],argTypes:= #[t,t2]}) (hd:o.dst=some d) (ht:T t=some ⟨.sl e,s1,s2,s3⟩) (hte:T e=some ti) (hes:ti.size=es) (hx:ev σ x=some (.e (.c (ps j es n)),R)) (hl:aU σ (.o j)=some (aI e es Pr))
 (hz:lv ti.zero=some z) (hPz:Pr z) (hs:Src P σ y t2 es m Pr R2) (hb: (n+m)*ti.bytes≤140737488355328) (h:k (R++R2++[(.o j,some (aI e es Pr))]) [(.o j,aI e es Pr),(.t d,.v (.e (.c (ps j es (n+m)))))]): ∃R W,wY P o R W∧bL R σ∧k R W:=by
 subst hes
 have hu:=(hT t _ ht).kind
 simp only[lU] at hu
 have hok:=hT e ti hte
 have hes:=hok.pos
 obtain⟨d2,hu2,hd2⟩:=hs.ty
 refine⟨_,_,sy hd fun cx σ' ι S a w hr hw=> ?_,((cZ hx).append hs.rd).append (bL.one hl),h⟩
 have hl':=hr.right (.o j,some (aI e ti.size Pr)) (by simp)
 dsimp only at hl'
 obtain⟨rows,nv,rfl,hrows,hsr⟩:=hs.run cx σ' ι S a w hr.left.right hw
 have hq:slQ ti.size n (ι j) (a.eval x):=sN (S:=S) (w:=w) (dG hx hr.left.left hw) hl'
 have hzl:z.length=ti.size:=by rw[pE hz,hok.zlen]
 have fin: ∀{w' p v},slQ ti.size (n+rows.length) p v→lR (pM σ' (.o j) (aI e ti.size Pr)) (fun o=>if o=j then p else ι o) w' S (.e (.c (ps j ti.size (n+rows.length)))) v:=fun{w' p v} hq=>(aI2 (cX σ' (.o j) (aI e ti.size Pr)) (by show slQ _ _ (if j=j then p else ι j) v;rw[if_pos rfl];exact hq):CR (pM σ' (.o j) (aI e ti.size Pr)) (fun o=>if o=j then p else ι o) w' S (ps j ti.size (n+rows.length)) v)
 have grow: ∀(base:Option Addr) (cap:Nat) (olds:List Value),a.eval x= .slice base n cap→cap<n+rows.length→olds.length=n*ti.size→(∀w1,w1.heap=w.heap→(Builtin.firstCells ti.size n (.slice base n cap)).run P w1= .ok olds.toArray w1)→
  (∀i,i<n→ ∃r:List D,r.length=ti.size∧Pr r∧ ∀(q:Nat) d,r[q]? =some d→ ∃u,olds[i*ti.size+q]? =some u∧DR w S d u)→
  ∃v p w',(execOp a.eval o).run P w= .ok (.value v) w'∧sw σ' ι S w j (aI e ti.size Pr) p w'∧lR (pM σ' (.o j) (aI e ti.size Pr)) (fun o=>if o=j then p else ι o) w' S (.e (.c (ps j ti.size (n+rows.length)))) v:=by
  intro base cap olds hv hlt hol hold hor
  obtain⟨cap',zs,hrun,hle,hm,hzsl,hzs⟩:=iy (w:=w) (ty:=o.type) hu hok hu2 hd2 hsr base n cap olds hold hlt hb hz
  obtain⟨p',ht',hsub,hnew⟩:=zp (w0:=w.drew) (cells:=(olds++nv++zs).toArray) (tot:=cap') hw hl' ⟨rfl,rfl,rfl,rfl⟩ (by rw[List.size_toArray,aU5,aU5,hsr.size,hzsl,hol,← aVo,← aVo,Nat.add_sub_cancel' hle]) (fun hkeep i hi=>by
   simp only[List.getElem?_toArray]
   by_cases h1:i<n
   · obtain⟨r,q1,q2,q3⟩:=hor i h1
     refine⟨r,q1,q2,fun q d hd=> ?_⟩
     obtain⟨u,hu1,hu2⟩:=q3 q d hd
     have hlt:=(aVe.1 hu1).1
     exact⟨u,by rw[List.append_assoc,List.getElem?_append_left hlt];exact hu1,DR.mono (fun _ h=>h) hkeep hu2⟩
   · by_cases h2:i<n+rows.length
     · have hil:i - n<rows.length:=by omega
       obtain⟨r1,r2⟩:=hrows _ (List.getElem_mem hil)
       refine⟨rows[i - n],r1,r2,fun q d hd=> ?_⟩
       obtain⟨u,hu1,hu2⟩:=hsr.rel (i - n) _ (aVd hil) q d hd
       have hlt:=(aVe.1 hu1).1
       have hmul:i*ti.size=n*ti.size+(i - n)*ti.size:=by rw[← aVo];congr 1;omega
       exact⟨u,by rw[List.append_assoc,List.getElem?_append_right (by omega),show i*ti.size+q - olds.length=(i - n)*ti.size+q by omega,List.getElem?_append_left hlt];exact hu1,DR.mono (fun _ h=>h) hkeep hu2⟩
     · refine⟨z,hzl,hPz,fun q d hd=> ?_⟩
       obtain⟨u,hu1,hu2⟩:=hzs (i - (n+rows.length)) (by omega) q d hd
       have hmul:i*ti.size=(n+rows.length)*ti.size+(i - (n+rows.length))*ti.size:=by rw[← aVo];congr 1;omega
       have hsz: (olds++nv).length=(n+rows.length)*ti.size:=by rw[aU5,hsr.size,hol,aVo]
       exact⟨u,by rw[List.getElem?_append_right (by omega),show i*ti.size+q - (olds++nv).length=(i - (n+rows.length))*ti.size+q by omega];exact hu1,hu2 _ _⟩)
  refine⟨_,p',_,?_,ht',fin (.inr ⟨w.heap.size,0,cap',cap',by rw[Nat.zero_mul],hle,hm,by omega,hnew⟩)⟩
  simp[execOp,ho,resolve,invoke,builtin,hv,hrun]
 rcases hq with⟨hv,rfl⟩|⟨b,i0,cap,tot,hv,q2,q3,q4,q5⟩
 · by_cases hnz:rows=[]
   · subst hnz
     have hrun:=sW (w:=w) (ty:=o.type) hu hok hu2 hd2 hsr
     refine⟨.slice none 0 0,ι j,w,by simp[execOp,ho,resolve,invoke,builtin,hv,hrun],⟨rfl,rfl,rfl,aVf _,fun _ _ _=>rfl,.inr ⟨_,hl',rfl,fun _ h=>h⟩,fun b hb=> .inl ⟨⟨_,hl',trivial⟩,hb⟩,hw.vr.objs j _ hl'⟩,fin (.inl ⟨rfl,rfl⟩)⟩
   · have hnpos:0<rows.length:=List.length_pos_iff.2 hnz
     exact grow none 0 [] hv (by omega) (by simp) (fun w1 _=>by simp[Builtin.firstCells]) (fun i hi=>by omega)
 · obtain⟨⟨cur,fz,hh,hf,hcs,hrs⟩,hmu⟩:=iw (hw.vr.objs j _ hl') hl' q5
   have h9:cur.toList.length=cur.size:=Array.length_toList
   have hcap: (i0+cap)*ti.size≤tot*ti.size:=Nat.mul_le_mul_right _ q4
   rw[aVo] at hcap
   by_cases hroom:n+rows.length≤cap
   · have hrun:=zO (w:=w) (ty:=o.type) hu hok hu2 hd2 hsr b (i0*ti.size) n cap cur e hf hh hroom (by rw[hcs];exact hcap)
     have hmul: (n+rows.length)*ti.size≤cap*ti.size:=Nat.mul_le_mul_right _ hroom
     rw[aVo,← hsr.size] at hmul
     obtain⟨htt,_⟩:=zo (w':=w.setRow b (dC cur.toList (i0*ti.size+n*ti.size) nv).toArray) (cur':=(dC cur.toList (i0*ti.size+n*ti.size) nv).toArray) hw hl' q5 ⟨rfl,rfl,rfl,by simp⟩ hh (setRow_heap w b cur _ e _ hh) (by rw[List.size_toArray,fK (by omega),h9]) (fun b' hne=>setRow_other w b b' _ hne) (fun hkeep i hi ⟨r,p1,p2,p3⟩=>by
      have get: ∀q,(dC cur.toList (i0*ti.size+n*ti.size) nv).toArray[q]? =if q<i0*ti.size+n*ti.size then cur[q]? else if q<i0*ti.size+n*ti.size+nv.length then nv[q - (i0*ti.size+n*ti.size)]? else cur[q]?:=fun q=>by
       rw[← Array.getElem?_toList,List.toList_toArray,iP (by omega)]
       simp
      have hnv:=hsr.size
      by_cases h1:i<i0+n
      · refine⟨r,p1,p2,fun q d hd=> ?_⟩
        obtain⟨u,hu1,hu2⟩:=p3 q d hd
        have hql:q<ti.size:=by rw[← p1];exact(aVe.1 hd).1
        have:=lA h1 hql
        rw[aVo] at this
        exact⟨u,by rw[get,if_pos (by omega)];exact hu1,DR.mono (fun _ h=>h) hkeep hu2⟩
      · by_cases h2:i<i0+n+rows.length
        · have hil:i - (i0+n)<rows.length:=by omega
          obtain⟨r1,r2⟩:=hrows _ (List.getElem_mem hil)
          refine⟨rows[i - (i0+n)],r1,r2,fun q d hd=> ?_⟩
          obtain⟨u,hu1,hu2⟩:=hsr.rel _ _ (aVd hil) q d hd
          have hlt:=(aVe.1 hu1).1
          have hmul:i*ti.size=i0*ti.size+n*ti.size+(i - (i0+n))*ti.size:=by rw[← aVo,← aVo];congr 1;omega
          exact⟨u,by rw[get,if_neg (by omega),if_pos (by omega),show i*ti.size+q - (i0*ti.size+n*ti.size)=(i - (i0+n))*ti.size+q by omega];exact hu1,DR.mono (fun _ h=>h) hkeep hu2⟩
        · refine⟨r,p1,p2,fun q d hd=> ?_⟩
          obtain⟨u,hu1,hu2⟩:=p3 q d hd
          have: (i0+n+rows.length)*ti.size≤i*ti.size:=Nat.mul_le_mul_right _ (by omega)
          rw[aVo,aVo] at this
          exact⟨u,by rw[get,if_neg (by omega),if_neg (by omega)];exact hu1,DR.mono (fun _ h=>h) hkeep hu2⟩)
     refine⟨_,ι j,_,?_,htt,fin (.inr ⟨b,i0,cap,tot,rfl,hroom,q3,q4,q5⟩)⟩
     simp[execOp,ho,resolve,invoke,builtin,hv,hrun]
   · have hle9:n*ti.size≤cap*ti.size:=Nat.mul_le_mul_right _ q2
     obtain⟨olds,hold⟩: ∃olds,olds=(cur.toList.drop (i0*ti.size)).take (n*ti.size):=⟨_,rfl⟩
     have holdl:olds.length=n*ti.size:=by rw[hold];simp;omega
     have hget: ∀q,q<n*ti.size→olds[q]? =cur[i0*ti.size+q]?:=by
      intro q hq
      rw[hold,List.getElem?_take,if_pos hq,List.getElem?_drop];simp
     refine grow (some ⟨b,i0*ti.size,none⟩) cap olds hv (by omega) holdl (fun w1 h1=>by
      refine run_firstCells_some (P:=P) w1 ti.size n ⟨b,i0*ti.size,none⟩ n cap _ holdl (fun q v hq=> ?_)
      have hql:q<n*ti.size:=by rw[← holdl];exact(aVe.1 hq).1
      rw[hget q hql] at hq
      rw[uM h1,lF,cell_of_row w b _ cur e fz hh];exact hq) (fun i hi=> ?_)
     obtain⟨r,p1,p2,p3⟩:=hrs (i0+i) (by omega)
     refine⟨r,p1,p2,fun q d hd=> ?_⟩
     obtain⟨u,hu1,hu2⟩:=p3 q d hd
     have hql:q<ti.size:=by rw[← p1];exact(aVe.1 hd).1
     exact⟨u,by rw[hget _ (lA hi hql),← Nat.add_assoc,← aVo];exact hu1,hu2⟩
end
section
variable {P:Program} {ops:Array Oper} {cx:Cx P} {Q:Exit→Act→World→Prop} {σ:St}
theorem aBi (hedge:rY 0 ops.toList=true) {listed:Array Bool} (hcl: ∀k o,ops[k]? =some o→listed.getD k false=true→ ∀i∈kK o,listed.getD i false=true): ∀(k:Nat),∀o,ops[k]? =some o→(∀i∈kK o,listed.getD i false=true)→ ∀i∈(mF ops.toList []).getD k [],listed.getD i false=true:=by
 have hedge': ∀(j:Nat) o,ops[j]? =some o→ ∀i∈kK o,i<j:=fun j o ho i hi=>by
  have:=pO 0 ops.toList hedge j o (by simpa using ho) i hi;omega
 have hpl: ∀(j:Nat) o,ops[j]? =some o→(mF ops.toList [])[j]? =some ((kK o).flatMap fun i=>i::(mF ops.toList []).getD i []):=fun j o ho=>by
  have:=ik ops.toList [] j o (by simpa using ho) hedge
  simpa using this
 intro k
 induction k using Nat.strongRecOn with
 |_ k ih=>
  intro o ho hp i hi
  rw[aVb,hpl k o ho] at hi
  simp only[Option.getD_some,List.mem_flatMap] at hi
  obtain⟨i',hi',hi⟩:=hi
  rcases aVm.1 hi with rfl|hi
  · exact hp i hi'
  · have hlt:=hedge' k o ho i' hi'
    have hsz':k<ops.size:=(Array.getElem?_eq_some_iff.1 ho).1
    have ho':ops[i']? =some ops[i']:=Array.getElem?_eq_getElem (by omega)
    exact ih i' hlt _ ho' (hcl i' _ ho' (hp i' hi')) i hi
theorem ta {ts:List mD} (hlen:ts.length=ops.size) (hr:kB ts σ) (hok:pN ops.toList ts=true):
 ∀(fuel:Nat) (listed:Array Bool) (σL:St) (ι:Nat→Value) (S:Nat→Prop) (a:Act) (w:World),listed.size=ops.size→(∀l,aU σL l=part ts (fun i=>listed.getD i false) σ l ts.length)→RW cx σL ι S a w→
  (∀k o,ops[k]? =some o→listed.getD k false=true→ ∀i∈kK o,listed.getD i false=true)→
  (Region.ready .any ops listed=[]→RW cx (fF ts σ) ι S a w)∧ ∀i∈Region.ready .any ops listed,∃o t,ops[i]? =some o∧ts[i]? =some t∧i<ops.size∧listed.getD i false=false∧bL t.1 σL∧
   (∀k o,ops[k]? =some o→(listed.setIfInBounds i true).getD k false=true→ ∀i'∈kK o,(listed.setIfInBounds i true).getD i' false=true)∧(∀j,(listed.setIfInBounds i true).getD j false=if j=i then true else listed.getD j false)∧
   ∀l,aU (iL σL t.2) l=part ts (fun j=>(listed.setIfInBounds i true).getD j false) σ l ts.length:=by
 simp only[pN,aU7] at hok
 obtain⟨hedge,hpair⟩:=hok
 have hedge': ∀(j:Nat) o,ops[j]? =some o→ ∀i∈kK o,i<j:=fun j o ho i hi=>by
  have:=pO 0 ops.toList hedge j o (by simpa using ho) i hi;omega
 have hpl: ∀(j:Nat) o,ops[j]? =some o→(mF ops.toList [])[j]? =some ((kK o).flatMap fun i=>i::(mF ops.toList []).getD i []):=fun j o ho=>by
  have:=ik ops.toList [] j o (by simpa using ho) hedge
  simpa using this
 intro fuel listed σL ι S a w hsz hlook hw hcl
 have hclosed: ∀(k:Nat),∀o,ops[k]? =some o→(∀i∈kK o,listed.getD i false=true)→ ∀i∈(mF ops.toList []).getD k [],listed.getD i false=true:=by
  intro k
  induction k using Nat.strongRecOn with
  |_ k ih=>
   intro o ho hp i hi
   rw[aVb,hpl k o ho] at hi
   simp only[Option.getD_some,List.mem_flatMap] at hi
   obtain⟨i',hi',hi⟩:=hi
   rcases aVm.1 hi with rfl|hi
   · exact hp i hi'
   · have hlt:=hedge' k o ho i' hi'
     have hsz':k<ops.size:=(Array.getElem?_eq_some_iff.1 ho).1
     have ho':ops[i']? =some ops[i']:=Array.getElem?_eq_getElem (by omega)
     exact ih i' hlt _ ho' (hcl i' _ ho' (hp i' hi')) i hi
 refine⟨fun hnil=> ?_,fun i hi=> ?_⟩
 · have hall: ∀k,k<ops.size→listed.getD k false=true:=by
    intro k
    induction k using Nat.strongRecOn with
    |_ k ih=>
     intro hk
     cases hL:listed.getD k false with
     |true=>rfl
     |false=>
      have ho:ops[k]? =some ops[k]:=Array.getElem?_eq_getElem hk
      have:k∈Region.ready .any ops listed:=mem_ready.2 ⟨oN.2 ⟨by omega,hL⟩,_,ho,fun e he hb=>by
       have hm:e.on∈kK ops[k]:=aVj.2 ⟨e,List.mem_filter.2 ⟨by simpa using he,hb⟩,rfl⟩
       have:=hedge' k _ ho _ hm
       exact ih e.on this (by omega)⟩
      rw[hnil] at this;cases this
   refine hw.congr fun l=> ?_
   rw[hlook l,ap ts σ l _ ts.length (aVf _) (fun i hi=>hall i (by omega)),aVl]
 · obtain⟨hun,o,ho,hall⟩:=mem_ready.1 hi
   obtain⟨hisz,hLi⟩:=oN.1 hun
   have hit':i<ts.length:=by omega
   have hti:ts[i]? =some ts[i]:=aVd hit'
   have hpreds: ∀i'∈kK o,listed.getD i' false=true:=by
    intro i' hi'
    obtain⟨e,he,rfl⟩:=aVj.1 hi'
    obtain⟨he1,he2⟩:=List.mem_filter.1 he
    exact hall e (by simpa using he1) he2
   have hset: ∀j,(listed.setIfInBounds i true).getD j false=if j=i then true else listed.getD j false:=by
    intro j
    rw[Array.getD_eq_getD_getElem?,Array.getD_eq_getD_getElem?]
    by_cases e:j=i
    · subst e;simp[hisz]
    · rw[if_neg e,Array.getElem?_setIfInBounds_ne (fun h=>e h.symm)]
   have later: ∀j u,i<j→listed.getD j false=true→ts[j]? =some u→oW (pF ts[i]) (pF u)=true:=by
    intro j u hij hLj hu
    have hjl:j<ts.length:=(aVe.1 hu).1
    have hoj:ops[j]? =some ops[j]:=Array.getElem?_eq_getElem (by omega)
    rcases pP hpair j i hjl hij (pF ts[i]) (pF u) _ (by simp[hti]) (by simp[hu]) (hpl j _ hoj) with h|h
    · have:=hclosed j _ hoj (hcl j _ hoj hLj) i (by rw[aVb,hpl j _ hoj];exact h)
      rw[hLi] at this;cases this
    · exact h
   have earlier: ∀j u,j<i→listed.getD j false=false→ts[j]? =some u→oW (pF u) (pF ts[i])=true:=by
    intro j u hij hLj hu
    rcases pP hpair i j hit' hij (pF u) (pF ts[i]) _ (by simp[hu]) (by simp[hti]) (hpl i _ ho) with h|h
    · have:=hclosed i _ ho hpreds j (by rw[aVb,hpl i _ ho];exact h)
      rw[hLj] at this;cases this
    · exact h
   have hreads:bL ts[i].1 σL:=by
    intro p hp
    rw[hlook p.1,fo hLi (fun j u hj hLj hu=>by
     have:=earlier j u hj hLj hu
     simp only[oW,aU7] at this
     exact aDb this.1.2 hp) (fun j u hj hLj hu=>by
     have:=later j u hj hLj hu
     simp only[oW,aU7] at this
     exact aDa this.2 hp),show min ts.length i=i by omega,ap ts σ p.1 _ i (by omega) (fun _ _=>rfl)]
    exact aq ts σ hr i _ hti p hp
   refine⟨o,ts[i],ho,hti,by omega,hLi,hreads,fun k o' ho' hk i' hi'=> ?_,hset,fun l=> ?_⟩
   · rw[hset] at hk ⊢
     by_cases e:i'=i
     · rw[if_pos e]
     · rw[if_neg e]
       by_cases e2:k=i
       · subst e2;rw[ho] at ho';cases ho';exact hpreds i' hi'
       · rw[if_neg e2] at hk;exact hcl k o' ho' hk i' hi'
   · rw[lG,rv hti hLi hset (fun j u hj hLj hu hne=>by
      have:=later j u hj hLj hu
      simp only[oW,aU7] at this
      exact aC9 this.1.1 hne) ts.length,if_pos hit',hlook l]
     all_goals(cases wr ts[i].2 l<;>rfl)
theorem aGz {κ:Type} {ts:κ→List mD} {i0:Nat} {o0:Oper} {R0:List (dF×Option K)} {Ws:List (dF×K)→Prop} (hlen: ∀c,(ts c).length=ops.size) (ho0:ops[i0]? =some o0) (hg0:o0.guard=none) (h0:OpE P o0 R0 Ws) (hR0: ∀c t,(ts c)[i0]? =some t→t.1=R0) (hW0: ∀W,Ws W→ ∃c,(ts c)[i0]? =some (R0,W))
 (hit: ∀c (i:Nat) o t,i≠i0→ops[i]? =some o→(ts c)[i]? =some t→ItT P ops o t) (hind: ∀c c' (j:Nat),j≠i0→i0∉ (mF ops.toList []).getD j []→(ts c)[j]? =(ts c')[j]?) (hr: ∀c,kB (ts c) σ) (hok: ∀c,pN ops.toList (ts c)=true) (hf: ∀o∈ops.toList,∀d,o.dst=some d→d<cx.N)
 (hq: ∀c ι' S' a' w',RW cx (fF (ts c) σ) ι' S' a' w'→Q .normal a' w'):
 ∀(fuel:Nat) (c:κ) (listed:Array Bool) (σL:St) (ι:Nat→Value) (S:Nat→Prop) (a:Act) (w:World),listed.size=ops.size→(∀l,aU σL l=part (ts c) (fun i=>listed.getD i false) σ l (ts c).length)→RW cx σL ι S a w→
  (∀k o,ops[k]? =some o→listed.getD k false=true→ ∀i∈kK o,listed.getD i false=true)→((aVh ops.size).filter fun i=> !listed.getD i false).length≤fuel→wpAny P .any ops Q fuel listed a w:=by
 have hedge: ∀c,rY 0 ops.toList=true:=fun c=>by have:=hok c;simp only[pN,aU7] at this;exact this.1
 intro fuel
 induction fuel with
 |zero=>
  intro c listed σL ι S a w hsz hlook hw hcl hcount
  obtain⟨h1,h2⟩:=ta (hlen c) (hr c) (hok c) 0 listed σL ι S a w hsz hlook hw hcl
  have hnil:Region.ready .any ops listed=[]:=by
   apply List.eq_nil_iff_forall_not_mem.2
   intro i hi
   obtain⟨o,t,ho,ht,hlt,hLi,_⟩:=h2 i hi
   have:i∈(aVh ops.size).filter fun i=> !listed.getD i false:=List.mem_filter.2 ⟨List.mem_range.2 hlt,by rw[hLi];rfl⟩
   rw[List.eq_nil_of_length_eq_zero (by omega: ((aVh ops.size).filter fun i=> !listed.getD i false).length=0)] at this
   cases this
  exact⟨hnil,hq c _ _ _ _ (h1 hnil)⟩
 |succ fuel ih=>
  intro c listed σL ι S a w hsz hlook hw hcl hcount
  obtain⟨h1,h2⟩:=ta (hlen c) (hr c) (hok c) 0 listed σL ι S a w hsz hlook hw hcl
  refine⟨fun hn=>hq c _ _ _ _ (h1 hn),fun i hi=> ?_⟩
  obtain⟨o,t,ho,ht,hlt,hLi,hreads,hcl',hset,hlook'⟩:=h2 i hi
  unfold wpOp
  rw[ho]
  have hfo:=hf o (by have:=Array.mem_of_getElem? ho;simpa using this)
  have hdrop:=oh (N:=ops.size) (L:=fun j=>listed.getD j false) (L':=fun j=>(listed.setIfInBounds i true).getD j false) hlt hLi hset
  by_cases hi0:i=i0
  · subst hi0
    rw[ho0] at ho;cases ho
    have hRt:=hR0 c t ht
    dsimp only
    rw[if_pos (by simp[Region.wanted,hg0])]
    refine .inl (h0 cx σL ι S a w (by rw[← hRt];exact hreads) hw hfo _ Q fun W hW ι' S' a' w' hw'=> ?_)
    obtain⟨c',hc'⟩:=hW0 W hW
    have hsame: ∀l,aU σL l=part (ts c') (fun i=>listed.getD i false) σ l (ts c').length:=fun l=>by
     rw[hlook l,hlen c,hlen c']
     have hclosed:=aBi (hedge c) hcl
     have: ∀n,n≤ops.size→part (ts c) (fun i=>listed.getD i false) σ l n=part (ts c') (fun i=>listed.getD i false) σ l n:=by
      intro n
      induction n with
      |zero=>intro _;rfl
      |succ n ihn=>
       intro hn
       rw[mP,mP,ihn (by omega)]
       by_cases hLn:listed.getD n false=true
       · have hon:ops[n]? =some ops[n]:=Array.getElem?_eq_getElem (by omega)
         have hne:n≠i:=fun e=>by rw[e,hLi] at hLn;cases hLn
         have hni:i∉ (mF ops.toList []).getD n []:=fun hm=>by
          have:=hclosed n _ hon (hcl n _ hon hLn) i hm
          rw[hLi] at this;cases this
         rw[hind c c' n hne hni]
       · rw[if_neg hLn,if_neg hLn]
     exact this _ (aVf _)
    obtain⟨_,h2'⟩:=ta (hlen c') (hr c') (hok c') 0 listed σL ι S a w hsz hsame hw hcl
    obtain⟨o2,t2,ho2,ht2,_,_,_,_,_,hlook2⟩:=h2' i hi
    rw[hc'] at ht2;cases ht2
    exact ih c' (listed.setIfInBounds i true) (iL σL W) ι' S' a' w' (by simpa using hsz) hlook2 hw' hcl' (by omega)
  · refine hit c i o t hi0 ho ht cx σL ι S a w hreads hw hfo _ Q fun ι' S' a' w' hw'=> ?_
    exact ih c (listed.setIfInBounds i true) (iL σL t.2) ι' S' a' w' (by simpa using hsz) hlook' hw' hcl' (by omega)
end
def aSy:Option mD→mD→Prop
 |none,_=>True
 |some t,t'=>t'=t
def aM2 (P:Program) (T:gQ) (fx:Nat→Option mD):List Oper→Nat→St→List eg→(St→List eg→Prop)→Prop
 | [],_,σ,acc,k=>k σ acc
 |o::os,i,σ,acc,k=>match o.guard with
  |none=>aI1 P T o σ fun R W=>aSy (fx i) (R,W)∧nC σ W fun σ'=>aM2 P T fx os (i+1) σ' (acc++[pF (R,W)]) k
  |some _=>False
theorem tb {P:Program} {T:gQ} (hT:dR P T) {ops:Array Oper} {fx:Nat→Option mD} {k:St→List eg→Prop}: ∀(l:List Oper) (i:Nat) (σ:St) (acc:List eg),aM2 P T fx l i σ acc k→
 ∃ts:List mD,zP P ops l ts∧kB ts σ∧(∀j t,ts[j]? =some t→aSy (fx (i+j)) t)∧k (fF ts σ) (acc++ts.map pF)
 | [],i,σ,acc,h=>⟨[],trivial,trivial,by simp,by simpa[aM2,fF] using h⟩
 |o::os,i,σ,acc,h=>by
  simp only[aM2] at h
  split at h
  · rename_i hg
    obtain⟨R,W,h1,h2,h3,h4⟩:=ov hT h
    rw[kP] at h4
    obtain⟨ts,q1,q2,q3,q4⟩:=tb hT os _ _ _ h4
    refine⟨(R,W)::ts,⟨ao hg h1,q1⟩,⟨h2,q2⟩,fun j t hj=> ?_,by simpa[fF] using q4⟩
    cases j with
    |zero=>simp at hj;subst hj;exact h3
    |succ j=>rw[show i+(j+1)=i+1+j by omega];exact q3 j t (by simpa using hj)
  · exact h.elim
def aSz (i0:Nat) (fx:Nat→Option mD) (ops:Array Oper):Bool:=(aVh ops.size).all fun j=>decide (j≤i0)||(fx j).isSome||iU i0 ((mF ops.toList []).getD j [])
theorem bb {P:Program} {ops:Array Oper}: ∀(l:List Oper) (ts:List mD),zP P ops l ts→ts.length=l.length∧ ∀(i:Nat) o t,l[i]? =some o→ts[i]? =some t→ItT P ops o t:=by
 intro l
 induction l with
 |nil=>intro ts h;cases ts with
  |nil=>exact⟨rfl,by simp⟩
  |cons t ts=>exact h.elim
 |cons o os ih=>intro ts h;cases ts with
  |nil=>exact h.elim
  |cons t ts=>
   obtain⟨q1,q2⟩:=ih ts h.2
   refine⟨by simp[q1],fun i o' t' ho ht=> ?_⟩
   cases i with
   |zero=>simp at ho ht;subst ho;subst ht;exact h.1
   |succ i=>exact q2 i o' t' (by simpa using ho) (by simpa using ht)
theorem zT: ∀(ts us:List mD) (σ:St),kB ts σ→kB us (fF ts σ)→kB (ts++us) σ
 | [],us,σ,_,h=>h
 |t::ts,us,σ,h1,h2=>⟨h1.1,zT ts us _ h1.2 h2⟩
theorem SW.regDE {P:Program} {T:gQ} {io:List Nat} {Q:Ex→St→Prop} {σ:St} (hT:dR P T) (hm:P.follows .mixedOrders=true) (ks:List Nat) (i0:Nat) (fx:Nat→Option mD) {id:Nat} {ops:Array Oper} {o0:Oper} (ho:ops.toList[i0]? =some o0) (hg:o0.guard=none) (hfx:aSz i0 fx ops=true)
 (h:goC P T ops.toList true (ops.toList.take i0) σ [] fun σ1 acc=> ∃R0 Ws,OpE P o0 R0 Ws∧bL R0 σ1∧(∃W,Ws W)∧ ∀W,Ws W→nC σ1 W fun σ2=>aM2 P T fx (ops.toList.drop (i0+1)) (i0+1) σ2 (acc++[pF (R0,W)]) fun σ' ns=>ay ops.toList ns=true∧qY ks σ' (Q .norm)):
 SW P io (.region id ops true) Q σ:=by
 intro cx ι S a w hio hw hf
 have hfit: ∀o∈ops.toList,∀d,o.dst=some d→d<cx.N:=fun o ho=>xX (by simpa[sX] using hf) ho
 obtain⟨tA,h1,h2,acc,h3,R0,Ws,h4,h5,⟨W0,hW0⟩,h6⟩:=xF hT (ops.toList.take i0) σ [] h
 have h3:=h3 rfl
 rw[List.nil_append] at h3
 subst h3
 have hi0:i0<ops.toList.length:=(aVe.1 ho).1
 have hsz:ops.toList.length=ops.size:=Array.length_toList
 have hAl:tA.length=i0:=by rw[(bb _ _ h1).1,aVc];omega
 have h7: ∀W: {W // Ws W},∃tB:List mD,zP P ops (ops.toList.drop (i0+1)) tB∧kB tB (iL (fF tA σ) W.1)∧(∀j t,tB[j]? =some t→aSy (fx (i0+1+j)) t)∧ay ops.toList ((tA.map pF++[pF (R0,W.1)])++tB.map pF)=true∧Q .norm (Ab.keep ks (fF tB (iL (fF tA σ) W.1))):=fun⟨W,hW⟩=>by
  have h8:=h6 W hW
  rw[kP] at h8
  obtain⟨tB,q1,q2,q3,q4,q5⟩:=tb (ops:=ops) hT _ _ _ _ h8
  rw[mQ] at q5
  exact⟨tB,q1,q2,q3,q4,q5⟩
 let tB:=fun W: {W // Ws W}=>Classical.choose (h7 W)
 have hB:=fun W: {W // Ws W}=>Classical.choose_spec (h7 W)
 let ts:=fun W: {W // Ws W}=>tA++(R0,W.1)::tB W
 have hBl: ∀W,(tB W).length=ops.size - (i0+1):=fun W=>by have:=(bb _ _ (hB W).1).1;rw[aVk,hsz] at this;exact this
 have hrun: ∀W,fF (ts W) σ=fF (tB W) (iL (fF tA σ) W.1):=fun W=>by
  show fF (tA++(R0,W.1)::tB W) σ=_
  rw[wI];rfl
 have hget: ∀W j,(ts W)[j]? =if j<i0 then tA[j]? else if j=i0 then some (R0,W.1) else(tB W)[j - (i0+1)]?:=fun W j=>by
  show(tA++(R0,W.1)::tB W)[j]? =_
  by_cases c1:j<i0
  · rw[if_pos c1,List.getElem?_append_left (by omega)]
  · rw[if_neg c1,List.getElem?_append_right (by omega),hAl]
    by_cases c2:j=i0
    · rw[if_pos c2,c2,Nat.sub_self];rfl
    · rw[if_neg c2,show j - i0=(j - (i0+1))+1 by omega,List.getElem?_cons_succ]
 have hlen: ∀W,(ts W).length=ops.size:=fun W=>by
  show(tA++(R0,W.1)::tB W).length=_
  rw[aU5,aU9,hBl,hAl];omega
 have ho':ops[i0]? =some o0:=by simpa using ho
 refine wp_region_any hm (aGz (κ:={W // Ws W}) (cx:=cx) (σ:=σ) (ts:=ts) (i0:=i0) hlen ho' hg h4 (fun W t ht=>by rw[hget,if_neg (by omega),if_pos rfl] at ht;cases ht;rfl) (fun W hW=>⟨⟨W,hW⟩,by rw[hget,if_neg (by omega),if_pos rfl]⟩)
  (fun W i o t hne ho2 ht=> ?_) (fun W W' j hne hni=> ?_) (fun W=>zT _ _ _ h2 ⟨h5,(hB W).2.1⟩) (fun W=> ?_) hfit (fun W ι' S' a' w' hw'=>⟨_,ι',S',(hB W).2.2.2.2,by rw[hrun] at hw';exact hw'.keep ks⟩)
  ops.size ⟨W0,hW0⟩ (Array.replicate ops.size false) σ ι S a _ (by simp) (fun l=> ?_) hw.drew (fun k o ho hk=> ?_) ?_)
 · rw[hget] at ht
   by_cases c1:i<i0
   · rw[if_pos c1] at ht
     exact(bb _ _ h1).2 i o t (by rw[List.getElem?_take,if_pos c1];simpa using ho2) ht
   · rw[if_neg c1,if_neg hne] at ht
     exact(bb _ _ (hB W).1).2 (i - (i0+1)) o t (by rw[List.getElem?_drop,show i0+1+(i - (i0+1))=i by omega];simpa using ho2) ht
 · rw[hget,hget]
   by_cases c1:j<i0
   · rw[if_pos c1,if_pos c1]
   · rw[if_neg c1,if_neg c1,if_neg hne,if_neg hne]
     by_cases c3:j<ops.size
     · have hd:=aVi.1 hfx j (List.mem_range.2 c3)
       simp only[Bool.or_eq_true,decide_eq_true_eq] at hd
       rcases hd with(hd|hd)|hd
       · omega
       · obtain⟨t,ht⟩:=Option.isSome_iff_exists.1 hd
         have e: ∀W,(tB W)[j - (i0+1)]? =some t:=fun W=>by
          have hl:j - (i0+1)< (tB W).length:=by rw[hBl];omega
          have:=(hB W).2.2.1 (j - (i0+1)) _ (aVd hl)
          rw[show i0+1+(j - (i0+1))=j by omega,ht] at this
          rw[aVd hl]
          exact congrArg some this
         rw[e W,e W']
       · exact absurd (gS.1 hd) hni
     · rw[List.getElem?_eq_none (by rw[hBl];omega),List.getElem?_eq_none (by rw[hBl];omega)]
 · have:=az (hB W).2.2.2.1
   have e: (tA.map pF++[pF (R0,W.1)])++(tB W).map pF=(ts W).map pF:=by
    show _=(tA++(R0,W.1)::tB W).map pF
    simp
   have this:wJ ops.toList ((tA.map pF++[pF (R0,W.1)])++(tB W).map pF)=true:=this
   rw[e] at this
   simpa[pN,wJ] using this
 · have hL: ∀i,(Array.replicate ops.size false).getD i false=false:=fun i=>by
    rw[Array.getD_eq_getD_getElem?,Array.getElem?_replicate];split<;>rfl
   have: ∀n,part (ts ⟨W0,hW0⟩) (fun i=>(Array.replicate ops.size false).getD i false) σ l n=aU σ l:=by
    intro n
    induction n with
    |zero=>rfl
    |succ n ih=>rw[mP,if_neg (by rw[hL];simp),ih]
   rw[this]
 · rw[Array.getD_eq_getD_getElem?,Array.getElem?_replicate] at hk;split at hk<;>cases hk
 · exact Nat.le_trans (List.length_filter_le _ _) (by simp)
section
variable {P:Program} {T:gQ} {io:List Nat} {f:FuncId} {n:Nat} {σin:St} {o:Oper} {c:Call} {d:Nat} {σ σ1:St} {Xs:List V} {Ra:List (dF×Option K)}
theorem vQ {Qo:St→Prop} {rl:List (Nat×Nat)} {bor news:List Nat} {robj:List (Nat×K)} {k:List (dF×Option K)→List (dF×K)→Prop} (hs:SpecE P f n σin Qo) (ho:o.op= .call c) (hc:c.callee= .value (.func f)) (hx:evA σ c.args.toList=some (Xs,Ra)) (hn:Xs.length=n)
 (hm:oJ (eS 0 Xs++qX robj) σin rl bor) (hq: ∀σout,Qo σout→kI rl σin σout=true∧(bor=[]∨nB σout)∧ ∀j∈mT σin σout,j∈news) (h1: ∀p∈robj,aU σ (.o p.1)=some p.2) (h2: ∀j∈news,aU σ (.o (kA rl j))=none) (hne: ∃σout,Qo σout)
 (h: ∀σout,Qo σout→k (aMw Ra robj rl news) (tH rl σin σout o.dst)): ∃R Ws,OpE P o R Ws∧bL R σ∧(∃W,Ws W)∧ ∀W,Ws W→k R W:=by
 refine⟨_,_,zm hs ho hc hx hn hm hq,fun p hp=> ?_,?_,fun W ⟨σout,hQ,e⟩=>e▸h σout hQ⟩
 · rcases List.mem_append.1 hp with hp|hp
   · rcases List.mem_append.1 hp with hp|hp
     · exact uF hx p hp
     · obtain⟨q,hq,rfl⟩:=aVj.1 hp
       exact h1 q hq
   · obtain⟨j,hj,rfl⟩:=aVj.1 hp
     exact h2 j hj
 · obtain⟨σout,hQ⟩:=hne
   exact⟨_,σout,hQ,rfl⟩
end
section
variable {P:Program} {T:gQ} {o:Oper} {σ:St} {t e:TypeId} {s1 s2 d j es:Nat} {s3:List C} {k:List (dF×Option K)→List (dF×K)→Prop} {Pr:List D→Prop} {ti:TI}
theorem aPm (hT:dR P T) (ho:o.op= .buildSlice t 0 #[]) (hd:o.dst=some d) (ht:T t=some ⟨.sl e,s1,s2,s3⟩) (hte:T e=some ti) (hes:ti.size=es) (hl:aU σ (.o j)=some (aI e es Pr))
 (h:k [(.o j,some (aI e es Pr))] [(.o j,aI e es Pr),(.t d,.v (.e (.c (ps j es 0))))]): ∃R W,wY P o R W∧bL R σ∧k R W:=by
 have hu:=(hT t _ ht).kind
 simp only[lU] at hu
 have hok:=hT e ti hte
 refine⟨_,_,sy hd fun cx σ' ι S a w hr hw=> ?_,bL.one hl,h⟩
 have hl':=hr (.o j,some (aI e es Pr)) (by simp)
 dsimp only at hl'
 obtain⟨p',ht',hsub,hnew⟩:=zp (w0:=w) (cells:= #[]) (tot:=0) hw hl' ⟨rfl,rfl,rfl,rfl⟩ (by simp) (fun _ i hi=>by omega)
 refine⟨.slice (some ⟨w.heap.size,0,none⟩) 0 0,p',w.alloc (.cells #[] e),?_,ht',show CR (pM σ' (.o j) (aI e es Pr)) (fun o=>if o=j then p' else ι o) (w.alloc (.cells #[] e)) S (ps j es 0) _ from aI2 (cX σ' (.o j) (aI e es Pr)) ?_⟩
 · have hrun: (Instr.buildSlice t 0 #[]).run P w= .ok (.slice (some ⟨w.heap.size,0,none⟩) 0 0) (w.alloc (.cells #[] e)):=by
    simp only[Instr.buildSlice,Sem.run_bind,run_underlying hu,Result.andThen_ok,fO hok]
    rw[if_neg (by omega)]
    simp[Instr.fill,newRow,Array.range_zero']
   simp[execOp,ho]
   rw[hrun];rfl
 · show slQ es 0 (if j=j then p' else ι j) _
   rw[if_pos rfl]
   exact .inr ⟨w.heap.size,0,0,0,by rw[Nat.zero_mul],aVf _,by simp only[maxLen];omega,aVf _,hnew⟩
end
theorem RW.newPool {P:Program} {cx:Cx P} {σ:St} {ι:Nat→Value} {S:Nat→Prop} {a:Act} {w:World} (h:RW cx σ ι S a w) {j:Nat} (e:TypeId) (es:Nat) (Pr:List D→Prop) (hj:aU σ (.o j)=none):
 RW cx (pM σ (.o j) (aI e es Pr)) (fun o=>if o=j then .tuple #[] else ι o) S a w:=
 h.turnZ ⟨rfl,rfl,rfl,aVf _,fun _ _ _=>rfl,.inl hj,fun b hb=>by obtain⟨v,hv,_⟩:=hb;simp at hv,⟨_,rfl⟩,fun v hv=>by obtain⟨vs,h1,h2⟩:=hv;cases h1;simp at h2⟩
theorem SW.newPool {P:Program} {io:List Nat} {Q:Ex→St→Prop} {σ:St} {c:Code} (j:Nat) (e:TypeId) (es:Nat) (Pr:List D→Prop) (hj:aU σ (.o j)=none) (h:qb σ (.o j) (aI e es Pr) (SW P io c Q)):SW P io c Q σ:=by
 rw[oL] at h
 intro cx ι S a w hio hw hf
 exact h cx _ S a w hio (hw.newPool e es Pr hj) hf
section
variable {τ σ':St} {rl:List (Nat×Nat)} {bor:List Nat} {r:List (dF×K)}
theorem aM3 {s o es n j m:Nat} {Z:ia} (h:aU τ (.t s)=some (.v (.e (.c (ps o es n))))) (ho:o=kA rl j) (e:n=m) (hj:aU σ' (.o j)=some (.zone Z)) (hr:mL τ σ' rl bor r):mL τ σ' rl bor ((.t s,.v (.e (.c (ps j es m))))::r):=
 ⟨⟨_,h,ho,fun p v hv=>by rw[← e];exact hv,Z,hj⟩,hr⟩
theorem aY {j:Nat} {Z Z':ia} (h:aU τ (.o (kA rl j))=some (.zone Z)) (e:Z=Z') (hr:mL τ σ' rl bor r):mL τ σ' rl bor ((.o j,.zone Z')::r):=⟨⟨_,h,by rw[← e];exact⟨rfl,fun _ _ _ h=>h⟩⟩,hr⟩
theorem bE {o es n j m:Nat} {Z:ia} {cs ds:List C} (ho:o=kA rl j) (e:n=m) (hj:aU σ' (.o j)=some (.zone Z)) (h:xe τ σ' rl bor cs ds):xe τ σ' rl bor (ps o es n::cs) (ps j es m::ds):=⟨⟨ho,fun p v hv=>by rw[← e];exact hv,Z,hj⟩,h⟩
end
def goX (P:Program):List Oper→St→List eg→(St→List eg→Prop)→Prop
 | [],σ,acc,k=>k σ acc
 |o::os,σ,acc,k=>match o.guard with
  |none=> ∃R W,wY P o R W∧bL R σ∧nC σ W fun σ'=>goX P os σ' (acc++[pF (R,W)]) k
  |some _=>False
theorem sx {P:Program} {T:gQ} (hT:dR P T) {o:Oper} {σ:St} {p:Prop} {R:List (dF×Option K)} {W:List (dF×K)} {k:List (dF×Option K)→List (dF×K)→Prop} (h:me T o σ=some (p,R,W)) (hp:p) (hk:k R W): ∃R W,wY P o R W∧bL R σ∧k R W:=by
 obtain⟨h1,h2⟩:=vP hT o σ p R W h hp
 exact⟨R,W,h1,h2,hk⟩
theorem zq {P:Program} {ops:Array Oper} {k:St→List eg→Prop}: ∀(l:List Oper) (σ:St) (acc:List eg),goX P l σ acc k→ ∃ts:List mD,zP P ops l ts∧kB ts σ∧k (fF ts σ) (acc++ts.map pF)
 | [],σ,acc,h=>⟨[],trivial,trivial,by simpa[goX,fF] using h⟩
 |o::os,σ,acc,h=>by
  simp only[goX] at h
  split at h
  · rename_i hg
    obtain⟨R,W,h1,h2,h3⟩:=h
    rw[kP] at h3
    obtain⟨ts,q1,q2,q4⟩:=zq os _ _ h3
    exact⟨(R,W)::ts,⟨ao hg h1,q1⟩,⟨h2,q2⟩,by simpa[fF] using q4⟩
  · exact h.elim
theorem SW.regX {P:Program} {io:List Nat} {Q:Ex→St→Prop} {σ:St} (hm:P.follows .mixedOrders=true) (ks:List Nat) {id:Nat} {ops:Array Oper} (h:goX P ops.toList σ [] fun σ' ns=>ay ops.toList ns=true∧qY ks σ' (Q .norm)):SW P io (.region id ops true) Q σ:=by
 intro cx ι S a w hio hw hf
 have hfit: ∀o∈ops.toList,∀d,o.dst=some d→d<cx.N:=fun o ho=>xX (by simpa[sX] using hf) ho
 obtain⟨ts,h1,h2,h4,h5⟩:=zq (ops:=ops) ops.toList σ [] h
 rw[List.nil_append] at h4
 rw[mQ] at h5
 obtain⟨q1,q2⟩:=bb _ _ h1
 refine wp_region_any hm (cy (cx:=cx) (σ:=σ) (ts:=ts) (by simpa using q1) (fun i o t ho ht=>q2 i o t (by simpa using ho) ht) h2 (by have:=az h4;simpa[pN,wJ] using this) hfit (fun ι' S' a' w' hw'=>⟨_,ι',S',h5,hw'.keep ks⟩)
  ops.size (Array.replicate ops.size false) σ ι S a _ (by simp) (fun l=> ?_) hw.drew (fun k o ho hk=> ?_) ?_)
 · have hL: ∀i,(Array.replicate ops.size false).getD i false=false:=fun i=>by
    rw[Array.getD_eq_getD_getElem?,Array.getElem?_replicate];split<;>rfl
   have: ∀n,part ts (fun i=>(Array.replicate ops.size false).getD i false) σ l n=aU σ l:=by
    intro n
    induction n with
    |zero=>rfl
    |succ n ih=>rw[mP,if_neg (by rw[hL];simp),ih]
   rw[this]
 · rw[Array.getD_eq_getD_getElem?,Array.getElem?_replicate] at hk;split at hk<;>cases hk
 · exact Nat.le_trans (List.length_filter_le _ _) (by simp)
def aM4:Option K→Bool
 |some (.row ..)=>true
 |_=>false
def aM5:Option K→Bool
 |some (.box ..)=>true
 |_=>false
def aBj:Option K→Bool
 |some (.zone ..)=>true
 |_=>false
def qC (τ σ':St) (rl:List (Nat×Nat)) (bor:List Nat):C→C→Prop→Prop
 | .d x,.d y,p=>x=y∧p
 | .nil,.nil,p=>p
 | .nil,.d y,p=>y= .sl []∧p
 | .own o n,.d y,p=>match iU o bor,aU τ (.o o) with
  |true,some (.row e es rows)=>rows.length=n∧y= .sl rows∧p
  |_,_=>False
 | .own o n,.own j m,p=>match Nat.beq o (kA rl j)&&aM4 (aU σ' (.o j)) with
  |true=>n=m∧p
  |false=>False
 | .pt o k,.pt j m,p=>match Nat.beq o (kA rl j)&&(Nat.beq k m&&aM5 (aU σ' (.o j))) with
  |true=>p
  |false=>False
 | .rp cs,.rp cs',p=>cs=cs'∧p
 | .nil,.z j Q',p=>match aBj (aU σ' (.o j)) with
  |true=>(∀p,Q' p (.slice none 0 0))∧p
  |false=>False
 | .z o Q,.z j Q',p=>match Nat.beq o (kA rl j)&&aBj (aU σ' (.o j)) with
  |true=>Q=Q'∧p
  |false=>False
 |_,_,_=>False
def qCs (τ σ':St) (rl:List (Nat×Nat)) (bor:List Nat):List C→List C→Prop→Prop
 | [],[],p=>p
 |c::cs,d::ds,p=>qC τ σ' rl bor c d (qCs τ σ' rl bor cs ds p)
 |_,_,_=>False
def qE (τ σ':St) (rl:List (Nat×Nat)) (bor:List Nat):E→E→Prop→Prop
 | .c x,.c y,p=>qC τ σ' rl bor x y p
 | .agg cs,.agg ds,p=>qCs τ σ' rl bor cs ds p
 |_,_,_=>False
def qEs (τ σ':St) (rl:List (Nat×Nat)) (bor:List Nat):List E→List E→Prop→Prop
 | [],[],p=>p
 |c::cs,d::ds,p=>qE τ σ' rl bor c d (qEs τ σ' rl bor cs ds p)
 |_,_,_=>False
def qV (τ σ':St) (rl:List (Nat×Nat)) (bor:List Nat):V→V→Prop→Prop
 | .e x,.e y,p=>qE τ σ' rl bor x y p
 | .tup xs,.tup ys,p=>qEs τ σ' rl bor xs ys p
 |_,_,_=>False
def qK (τ σ':St) (rl:List (Nat×Nat)) (bor:List Nat):K→K→Prop→Prop
 | .box ty cs,.box ty' ds,p=>match Nat.beq ty ty' with
  |true=>qCs τ σ' rl bor cs ds p
  |false=>False
 | .row e es rows,.row e' es' rows',p=>match Nat.beq e e'&&Nat.beq es es' with
  |true=>rows=rows'∧p
  |false=>False
 | .zone Z,.zone Z',p=>Z=Z'∧p
 |_,_,_=>False
def qL (τ σ':St) (rl:List (Nat×Nat)) (bor:List Nat):List (dF×K)→Prop
 | []=>True
 |(.t s,.v X')::r=>match aU τ (.t s) with
  |some (.v X)=>qV τ σ' rl bor X X' (qL τ σ' rl bor r)
  |_=>False
 |(.o j,k')::r=>match aU τ (.o (kA rl j)) with
  |some k=>qK τ σ' rl bor k k' (qL τ σ' rl bor r)
  |_=>False
 |_::_=>False
section
variable {τ σ':St} {rl:List (Nat×Nat)} {bor:List Nat} {p:Prop}
theorem aDu {k:Option K} (h:aM4 k=true): ∃e es rows,k=some (.row e es rows):=by
 cases k with
 |none=>cases h
 |some k=>cases k<;>first|exact⟨_,_,_,rfl⟩|cases h
theorem aDv {k:Option K} (h:aM5 k=true): ∃e es,k=some (.box e es):=by
 cases k with
 |none=>cases h
 |some k=>cases k<;>first|exact⟨_,_,rfl⟩|cases h
theorem iz {k:Option K} (h:aBj k=true): ∃e,k=some (.zone e):=by
 cases k with
 |none=>cases h
 |some k=>cases k<;>first|exact⟨_,rfl⟩|cases h
theorem aDw: ∀{c d:C},qC τ σ' rl bor c d p→mC τ σ' rl bor c d∧p:=by
 intro c d h
 cases c<;>cases d<;>simp only[qC] at h<;>try exact h.elim
 · exact h
 · exact h
 · exact⟨trivial,h⟩
 · split at h
   · rename_i hz
     exact⟨⟨h.1,iz hz⟩,h.2⟩
   · exact h.elim
 · split at h
   · rename_i hb hl
     exact⟨⟨gS.1 hb,_,_,_,hl,h.1,h.2.1⟩,h.2.2⟩
   · exact h.elim
 · split at h
   · rename_i hb
     simp only[aU7] at hb
     exact⟨⟨Nat.eq_of_beq_eq_true hb.1,h.1,aDu hb.2⟩,h.2⟩
   · exact h.elim
 · split at h
   · rename_i hb
     simp only[aU7] at hb
     exact⟨⟨Nat.eq_of_beq_eq_true hb.1,Nat.eq_of_beq_eq_true hb.2.1,aDv hb.2.2⟩,h⟩
   · exact h.elim
 · exact h
 · split at h
   · rename_i hb
     simp only[aU7] at hb
     exact⟨⟨Nat.eq_of_beq_eq_true hb.1,fun p v hv=>by rw[← h.1];exact hv,iz hb.2⟩,h.2⟩
   · exact h.elim
theorem mj: ∀{cs ds:List C},qCs τ σ' rl bor cs ds p→xe τ σ' rl bor cs ds∧p
 | [],[],h=>⟨trivial,h⟩
 |c::cs,d::ds,h=>by
  obtain⟨h1,h2⟩:=aDw h
  obtain⟨h3,h4⟩:=mj h2
  exact⟨⟨h1,h3⟩,h4⟩
 | [],_::_,h=>h.elim
 |_::_,[],h=>h.elim
theorem aDx {x y:E} (h:qE τ σ' rl bor x y p):mE τ σ' rl bor x y∧p:=by
 cases x<;>cases y<;>simp only[qE] at h<;>first|exact h.elim|exact aDw h|exact mj h
theorem zr: ∀{cs ds:List E},qEs τ σ' rl bor cs ds p→mEs τ σ' rl bor cs ds∧p
 | [],[],h=>⟨trivial,h⟩
 |c::cs,d::ds,h=>by
  obtain⟨h1,h2⟩:=aDx h
  obtain⟨h3,h4⟩:=zr h2
  exact⟨⟨h1,h3⟩,h4⟩
 | [],_::_,h=>h.elim
 |_::_,[],h=>h.elim
theorem aM6 {x y:V} (h:qV τ σ' rl bor x y p):mV τ σ' rl bor x y∧p:=by
 cases x<;>cases y<;>simp only[qV] at h<;>first|exact h.elim|exact aDx h|exact zr h
theorem aM7 {x y:K} (h:qK τ σ' rl bor x y p):mK τ σ' rl bor x y∧p:=by
 cases x<;>cases y<;>simp only[qK] at h<;>try exact h.elim
 · split at h
   · rename_i hb
     obtain⟨h1,h2⟩:=mj h
     exact⟨⟨Nat.eq_of_beq_eq_true hb,h1⟩,h2⟩
   · exact h.elim
 · split at h
   · rename_i hb
     simp only[aU7] at hb
     exact⟨⟨Nat.eq_of_beq_eq_true hb.1,Nat.eq_of_beq_eq_true hb.2,h.1⟩,h.2⟩
   · exact h.elim
 · obtain⟨rfl,h2⟩:=h
   exact⟨⟨rfl,fun _ _ _ h=>h⟩,h2⟩
theorem qs: ∀{L:List (dF×K)},qL τ σ' rl bor L→mL τ σ' rl bor L
 | [],_=>trivial
 |(.t s,.v X')::r,h=>by
  simp only[qL] at h
  split at h
  · rename_i X hl
    obtain⟨h1,h2⟩:=aM6 h
    exact⟨⟨X,hl,h1⟩,qs h2⟩
  · exact h.elim
 |(.o j,k')::r,h=>by
  have h: (match aU τ (.o (kA rl j)) with
   |some k=>qK τ σ' rl bor k k' (qL τ σ' rl bor r)
   |_=>False):=by cases k'<;>exact h
  split at h
  · rename_i k hl
    obtain⟨h1,h2⟩:=aM7 h
    have h3: (∃k,aU τ (.o (kA rl j))=some k∧mK τ σ' rl bor k k')∧mL τ σ' rl bor r:=⟨⟨k,hl,h1⟩,qs h2⟩
    cases k'<;>exact h3
  · exact h.elim
 |(.t s,.box ..)::r,h=>h.elim
 |(.t s,.row ..)::r,h=>h.elim
 |(.t s,.dead)::r,h=>h.elim
 |(.t s,.cv ..)::r,h=>h.elim
 |(.t s,.zone ..)::r,h=>h.elim
end
theorem aUq {es:Nat}: ∀p,slQ es 0 p (.slice none 0 0):=fun p=> .inl ⟨rfl,rfl⟩
def iB (n lo hi:Int):Bool:=decide (lo≤n)&&decide (n≤hi)
def eC (n:Int):Bool:=iB n 0 3
def iN (at_ to:Int):Int:=if !eC at_|| !eC to||at_==to then -1 else if at_<to then at_+1 else at_ - 1
theorem aE {n:Int} (h: -9223372036854775808≤n∧n<9223372036854775808):wrap64 n=n:=by
 unfold wrap64;omega
structure cH where
 kind:Int
 src:Int
 dst:Int
 frm:Int
 num:Int
 to:Int
 til:Int
 size:Int
 mix:Int
 data:List UInt8
def cH.row (f:cH):List D:=[.i f.kind,.i f.src,.i f.dst,.i f.frm,.i f.num,.i f.to,.i f.til,.i f.size,.i f.mix,.s f.data]
abbrev cH.V (f:cH):V:= .e (.agg [.d (.i f.kind),.d (.i f.src),.d (.i f.dst),.d (.i f.frm),.d (.i f.num),.d (.i f.to),.d (.i f.til),.d (.i f.size),.d (.i f.mix),.d (.s f.data)])
def eW (f:cH):Bool:=
 eC f.src&&eC f.dst&&eC f.frm&&eC f.to&&iB f.num 1 99&&iB f.til 1 999&&
 (if f.kind=1 then iB f.size 1 24&&iB f.mix 0 999&&decide (f.data.length=4)&&decide (f.dst=iN f.src f.to)
  else if f.kind=2∨f.kind=3 then decide (f.size=0)&&decide (f.mix=0)&&decide (f.data=[])&&decide (f.src=iN f.dst f.to) else false)
theorem bP {T:gQ} {io:List Nat} {rs:List ResultVar} {s:St} {X Y:V} (h1:aGc T s rs=some X) (hp:oG Y=true) (e:X=Y):zR T io rs [(.t 0,.v Y)] s:=by
 subst e
 exact⟨X,[],[],h1,⟨⟨⟨X,rfl,aDl hp⟩,trivial⟩,rfl⟩,by simp[sa,cA,oV];exact fun x _=> .inl rfl⟩
theorem iY {l:List UInt8} {i:Nat} (h:i<l.length): (aC l).getD i []=[.u (l.getD i 0).toNat]:=by
 rw[aVb,aVb]
 simp[aC,h]
theorem gJ (l m:List UInt8):aC l++aC m=aC (l++m):=by simp[aC]
theorem aM8 (b:UInt8):b.toNat<256:=b.toNat_lt
def ed (l:List UInt8):Nat→Nat
 |0=>0
 |n+1=>(ed l n+(l.getD n 0).toNat*(n % 1000+1)) % 65521
theorem aBk (l:List UInt8) (n:Nat):ed l n<65521:=by
 cases n with
 |zero=>simp[ed]
 |succ n=>exact Nat.mod_lt _ (by decide)
theorem aKd (l:List UInt8) (n:Nat):wrap64 ((ed l n:Int)+wrap64 (((l.getD n 0).toNat:Int)*wrap64 ((n:Int) % 1000+1))) % 65521=(ed l (n+1):Int):=by
 show _=(((ed l n+(l.getD n 0).toNat*(n % 1000+1)) % 65521:Nat):Int)
 have h1:=aBk l n
 have h2:=aM8 (l.getD n 0)
 generalize (l.getD n 0).toNat=b at*
 have h3: (n:Int) % 1000<1000:=Int.emod_lt_of_pos _ (by decide)
 have h4:0≤(n:Int) % 1000:=Int.emod_nonneg _ (by decide)
 rw[aE (n:=(n:Int) % 1000+1) (by omega)]
 have h5: (b:Int)*((n:Int) % 1000+1)≤255*1000:=Int.mul_le_mul (by omega) (by omega) (by omega) (by omega)
 have h6:0≤(b:Int)*((n:Int) % 1000+1):=Int.mul_nonneg (by omega) (by omega)
 rw[aE (n:=(b:Int)*((n:Int) % 1000+1)) (by omega),aE (by omega)]
 have e: ((b*(n % 1000+1):Nat):Int)=(b:Int)*((n:Int) % 1000+1):=by rw[Int.natCast_mul,Int.natCast_add,Int.natCast_emod];rfl
 rw[← e]
 generalize b*(n % 1000+1)=q
 omega
theorem aG0 (l:List UInt8) (n:Nat): (wrap64 ((ed l n:Int)+wrap64 (wrap64 ((l.getD n 0).toNat:Int)*wrap64 (aVg (n:Int) 1000+1)))).tmod 65521=(ed l (n+1):Int):=by
 have h2:=aM8 (l.getD n 0)
 have h1:=aBk l n
 have h3: (n:Int) % 1000<1000:=Int.emod_lt_of_pos _ (by decide)
 have h4:0≤(n:Int) % 1000:=Int.emod_nonneg _ (by decide)
 have h:=aKd l n
 rw[aE (n:=((l.getD n 0).toNat:Int)) (by omega),Int.tmod_eq_emod_of_nonneg (by omega:0≤(n:Int)),Int.tmod_eq_emod_of_nonneg]
 · exact h
 · rw[aE (n:=(n:Int) % 1000+1) (by omega)]
   have h5: ((l.getD n 0).toNat:Int)*((n:Int) % 1000+1)≤255*1000:=Int.mul_le_mul (by omega) (by omega) (by omega) (by omega)
   have h6:0≤((l.getD n 0).toNat:Int)*((n:Int) % 1000+1):=Int.mul_nonneg (by omega) (by omega)
   rw[aE (n:=((l.getD n 0).toNat:Int)*((n:Int) % 1000+1)) (by omega),aE (by omega)]
   omega
theorem tc (l:List UInt8) (n:Nat): (wrap64 ((ed l n:Int)+wrap64 (wrap64 (aVg (n:Int) 1000+1)*wrap64 ((l.getD n 0).toNat:Int)))).tmod 65521=(ed l (n+1):Int):=by
 rw[Int.mul_comm];exact aG0 l n
def b8 (x:Int):UInt8:=UInt8.ofNat x.toNat
def two (n:Int):List UInt8:=[b8 (n / 256),b8 (n % 256)]
def pH (f:cH):List UInt8:=
 if eW f then
  let body:=[b8 f.kind,b8 f.src,b8 f.dst,b8 f.frm,b8 f.num,b8 f.to]++two f.til++(if f.kind=1 then [b8 f.size]++two f.mix++f.data else [])
  body++two (ed body body.length)
 else []
theorem td {x:Int} (h:0≤x∧x<256): ((b8 x).toNat:Int)=x:=by
 unfold b8
 rw[UInt8.toNat_ofNat']
 omega
theorem te {x:Int} (h:0≤x∧x<256):iM x=x:=by unfold iM;omega
theorem fy {x:Int} (h:0≤x∧x<256): [D.u (iM x)]=[D.u (b8 x).toNat]:=by rw[te h,td h]
theorem aM9 {n:Int} (h:0≤n∧n<65536): [[D.u (iM (wrap64 (n.tdiv 256)))],[D.u (iM (n.tmod 256))]]=aC (two n):=by
 rw[Int.tdiv_eq_ediv_of_nonneg h.1,Int.tmod_eq_emod_of_nonneg h.1,aE (by omega),te (by omega),te (by omega)]
 simp only[aC,two,List.map_cons,List.map_nil]
 rw[td (by omega),td (by omega)]
theorem tf (n:Int):nB [(.t 0,.v (I n))]:=by
 intro p hp
 simp at hp
 subst hp;trivial
def kT (f:cH):List UInt8:=[b8 f.kind,b8 f.src,b8 f.dst,b8 f.frm,b8 f.num,b8 f.to]++two f.til
def fE (f:cH):List UInt8:=kT f++(if f.kind=1 then [b8 f.size]++two f.mix++f.data else [])
theorem pV (f:cH):pH f=if eW f then fE f++two (ed (fE f) (fE f).length) else []:=by
 unfold pH fE kT
 rfl
theorem lV {f:cH} (h:eW f=true): (0≤f.src∧f.src≤3)∧(0≤f.dst∧f.dst≤3)∧(0≤f.frm∧f.frm≤3)∧(0≤f.to∧f.to≤3)∧(1≤f.num∧f.num≤99)∧(1≤f.til∧f.til≤999)∧(1≤f.kind∧f.kind≤3)∧(f.kind=1→(1≤f.size∧f.size≤24)∧(0≤f.mix∧f.mix≤999)∧f.data.length=4):=by
 simp only[eW,eC,iB,aU7,decide_eq_true_eq] at h
 obtain⟨⟨⟨⟨⟨⟨h1,h2⟩,h3⟩,h4⟩,h5⟩,h6⟩,h7⟩:=h
 split at h7
 · rename_i hk
   simp only[aU7,decide_eq_true_eq] at h7
   exact⟨h1,h2,h3,h4,h5,h6,by omega,fun _=>⟨h7.1.1.1,h7.1.1.2,h7.1.2⟩⟩
 · split at h7
   · rename_i hk hk2
     exact⟨h1,h2,h3,h4,h5,h6,by omega,fun h=>absurd h hk⟩
   · cases h7
theorem ja {f:cH} (h:eW f=true): (fE f).length≤15:=by
 have:=(lV h).2.2.2.2.2.2.2
 unfold fE kT two
 split
 · rename_i hk;simp[(this hk).2.2]
 · simp
theorem bc {f:cH} (hk: ¬f.kind=1):fE f=kT f:=by simp[fE,hk]
def de (f:cH):List UInt8:=[b8 f.kind,b8 f.src,b8 f.dst,b8 f.frm,b8 f.num,b8 f.to]
theorem aBl {f:cH} (h:eW f=true): []++[[D.u (iM f.kind)],[.u (iM f.src)],[.u (iM f.dst)],[.u (iM f.frm)],[.u (iM f.num)],[.u (iM f.to)]]=aC (de f):=by
 obtain⟨k1,k2,k3,k4,k5,k6,k7,k8⟩:=lV h
 simp only[de,aC,List.map_cons,List.map_nil,List.nil_append]
 rw[fy (x:=f.kind) (by omega),fy (x:=f.src) (by omega),fy (x:=f.dst) (by omega),fy (x:=f.frm) (by omega),fy (x:=f.num) (by omega),fy (x:=f.to) (by omega)]
def aRb (k:Int) (n:Nat):List UInt8:=(aVh n).map fun i=>UInt8.ofNat (k.toNat+i)
theorem aBm (k:Int) (n:Nat): (aRb k n).length=n:=by simp[aRb]
theorem xl (f:cH): (pH f).length≤17:=by
 rw[pV]
 split
 · rename_i h
   have:=ja h
   simp[two];omega
 · simp
def aNa (σ:St):List (Nat×K)→Prop
 | []=>True
 |p::r=>aU σ (.o p.1)=some p.2∧aNa σ r
theorem aK {σ:St}: ∀{l:List (Nat×K)},aNa σ l→ ∀p∈l,aU σ (.o p.1)=some p.2
 |q::r,h,p,hp=>by
  rcases aVm.1 hp with rfl|hp
  · exact h.1
  · exact aK h.2 p hp
section
variable {P:Program} {f:FuncId} {n:Nat} {σin σout:St} {o:Oper} {c:Call} {σ:St} {Xs:List V} {Ra:List (dF×Option K)}
theorem bd {k:List (dF×Option K)→List (dF×K)→Prop} (rl:List (Nat×Nat)) (hs:Spec P f n σin σout) (ho:o.op= .call c) (hc:c.callee= .value (.func f)) (hx:evA σ c.args.toList=some (Xs,Ra)) (hn:Xs.length=n) (hin:σin=eS 0 Xs) (hp:Xs.all oG=true)
 (hk:kI rl σin σout=true) (h2: ∀j∈mT σin σout,aU σ (.o (kA rl j))=none) (h:k (ol Ra [] rl σin σout) (tH rl σin σout o.dst)): ∃R W,wY P o R W∧bL R σ∧k R W:=by
 subst hin
 refine bJ (robj:=[]) (rl:=rl) (bor:=[]) hs ho hc hx hn ⟨ss (fun j Y hj=> ?_) hp,?_⟩ hk (.inl rfl) (by simp) h2 h
 · have hlt:=(aVe.1 hj).1
   rw[Nat.zero_add,oX 0 Xs _ j (aVa _) (by omega),Nat.sub_zero,hj];rfl
 · simp[zQ,pU,uO,oV]
end
theorem ixB {l:List UInt8} {j:Int} (h0:0≤j) (h:j<l.length): (0≤j∧j< (aC l).length)∧((aC l).getD j.toNat []).length=1:=by
 refine⟨⟨h0,by rw[aV];exact h⟩,?_⟩
 rw[iY (by omega)];rfl
theorem ldB {l:List UInt8} {j:Int} (h0:0≤j) (h:j<l.length):1≤((aC l).getD j.toNat []).length∧((aC l).getD j.toNat []).take 1=gI [.d (.u 0)] ((aC l).getD j.toNat []) 0:=by
 rw[iY (by omega)];exact⟨aVf _,rfl⟩
theorem valB {l:List UInt8} {j:Int} (h0:0≤j) (h:j<l.length):toU (((aC l).getD j.toNat []).getD 0 (.i 0))=((l.getD j.toNat 0).toNat:Int):=by
 rw[iY (by omega)];rfl
theorem wL (l:List UInt8) (a b:Nat):iQ (((aC l).take b).drop a)=(l.take b).drop a:=by
 have:=cE ((l.take b).drop a)
 rw[← this]
 congr 1
 simp[aC]
theorem wM (l:List UInt8) (a b:Nat): ((aC l).take b).drop a=aC ((l.take b).drop a):=by simp[aC]
def aS0:D→Bool
 | .sl rows=>rows.isEmpty
 |_=>true
def aG1:C→Bool
 | .d x=>aS0 x
 | .rp _=>false
 |_=>true
def aG2:E→Bool
 | .c x=>aG1 x
 | .agg cs=>cs.all aG1
def aNb:V→Bool
 | .e x=>aG2 x
 | .tup xs=>xs.all aG2
theorem oz {c:C} (h:aG1 c=true):da c:=by
 cases c with
 |d x=>cases x<;>first|trivial|exact List.isEmpty_iff.1 h
 |rp _=>cases h
 |_=>trivial
theorem pa {c:E} (h:aG2 c=true):im c:=by
 cases c with
 |c x=>exact oz h
 |agg cs=>exact fun c hc=>oz (aVi.1 h c hc)
theorem aDy {c:V} (h:aNb c=true):ip c:=by
 cases c with
 |e x=>exact pa h
 |tup cs=>exact fun c hc=>pa (aVi.1 h c hc)
theorem aG3 {X:V} (h:aNb X=true):nB [(.t 0,.v X)]:=by
 intro p hp
 simp at hp
 subst hp
 exact aDy h
def iT (l:List UInt8) (i:Nat):Int:=(l.getD i 0).toNat
theorem jW (l:List UInt8) (i:Nat):0≤iT l i∧iT l i<256:=by
 have:=aM8 (l.getD i 0)
 unfold iT;omega
theorem aBn {l:List UInt8} {j:Int} (h0:0≤j) (h:j.toNat<l.length):wrap64 (toU (((aC l).getD j.toNat []).getD 0 (.i 0)))=iT l j.toNat:=by
 rw[valB h0 (by omega)]
 have:=jW l j.toNat
 exact aE (by unfold iT at this;omega)
theorem zt {x y:Int} (h:0≤x∧x<256) (k:0≤y∧y<256):wrap64 (wrap64 (x*256)+y)=x*256+y∧wrap64 (wrap64 (256*x)+y)=x*256+y:=by
 constructor
 · rw[aE (n:=x*256) (by omega),aE (by omega)]
 · rw[aE (n:=256*x) (by omega),aE (by omega)];omega
def df:cH:=⟨0,0,0,0,0,0,0,0,0,[]⟩
def cR (l:List UInt8):cH:=
 ⟨iT l 0,iT l 1,iT l 2,iT l 3,iT l 4,iT l 5,iT l 6*256+iT l 7,
  if l.length=17 then iT l 8 else 0,if l.length=17 then iT l 9*256+iT l 10 else 0,if l.length=17 then(l.take 15).drop 11 else []⟩
def mG (l:List UInt8):Bool:=(l.length==10||l.length==17)&&pH (cR l)==l
def gN (l:List UInt8):cH:=if mG l then cR l else df
theorem aNc {m:Int} (hm:0≤m):BitVec.ofInt 64 m=BitVec.ofNat 64 m.toNat:=by
 obtain⟨k,rfl⟩:=Int.eq_ofNat_of_zero_le hm
 exact BitVec.ofInt_natCast ..
theorem aKe {m n:Int} (hm:0≤m∧m<4611686018427387904) (hn:0≤n∧n<4611686018427387904):yv m n=((m.toNat ^^^ n.toNat:Nat):Int):=by
 have hlt:m.toNat ^^^ n.toNat<2 ^ 62:=Nat.xor_lt_two_pow (by omega) (by omega)
 show IntKind.i64.wrap ((BitVec.ofInt 64 m ^^^ BitVec.ofInt 64 n).toNat:Int)=_
 rw[aNc hm.1,aNc hn.1,BitVec.toNat_xor,BitVec.toNat_ofNat,BitVec.toNat_ofNat,Nat.mod_eq_of_lt (by omega),Nat.mod_eq_of_lt (by omega),wZ]
 exact aE (by omega)
theorem aBo {m n:Int} (hm:0≤m∧m<4611686018427387904) (hn:0≤n∧n<4611686018427387904):0≤yv m n:=by
 rw[aKe hm hn];omega
theorem nF {x n:Int} (hx:0≤x) (hn:1≤n):0≤aVg x n∧aVg x n<n:=
 ⟨Int.tmod_nonneg n hx,Int.tmod_lt_of_pos x (by omega)⟩
theorem oY {x n:Int} (hx:0≤x) (hn:1≤n):0≤Int.tdiv x n∧Int.tdiv x n≤x:=by
 rw[Int.tdiv_eq_ediv_of_nonneg hx]
 exact⟨Int.ediv_nonneg hx (by omega),Int.ediv_le_self n hx⟩
theorem aUr {a b k q:Int} (ha:0≤a∧a<256) (hb:0≤b∧b<256) (hk:0≤k∧k≤1000000) (hq:0≤q∧q≤k):
 0≤wrap64 (wrap64 (wrap64 (wrap64 (a*131)+wrap64 (b*1117))+wrap64 (k*29))+wrap64 (wrap64 q*53))∧wrap64 (wrap64 (wrap64 (wrap64 (a*131)+wrap64 (b*1117))+wrap64 (k*29))+wrap64 (wrap64 q*53))<4611686018427387904:=by
 rw[aE (n:=a*131) (by omega),aE (n:=b*1117) (by omega),aE (n:=k*29) (by omega),aE (n:=q) (by omega),aE (n:=q*53) (by omega),aE (n:=a*131+b*1117) (by omega),aE (n:=a*131+b*1117+k*29) (by omega),aE (by omega)]
 omega
theorem aPn {x:Int} (h:0≤x∧x<4611686018427387904):0≤yv x (wrap64 (Int.tdiv x 64)):=by
 have:=oY (x:=x) (n:=64) h.1 (by omega)
 rw[aE (by omega)]
 exact aBo h ⟨this.1,by omega⟩
end Go.Ab
namespace Go.Ab
open Int renaming toNat_natCast→aU4,tmod→aVg
open List renaming length_append→aU5,length_nil→aU8,length_cons→aU9,getD_eq_getElem?_getD→aVb,length_take→aVc,getElem?_eq_getElem→aVd,getElem?_eq_some_iff→aVe,range→aVh,all_eq_true→aVi,mem_map→aVj,length_drop→aVk,take_length→aVl,mem_cons→aVm,mem_singleton→aVn,mem_iff_getElem?→aVp
open Nat renaming le_of_ble_eq_true→aU6,zero_le→aVa,le_refl→aVf,add_mul→aVo
open Bool renaming and_eq_true→aU7
open Go Go.RowKit
def aT (l:List UInt8) (p n:Int):Int:=
 if n<1∨l.length=0 then 0
 else if p<l.length then aVg (iT l p.toNat) n
 else aVg (yv (wrap64 (wrap64 (wrap64 (wrap64 (iT l (aVg p l.length).toNat*131)+wrap64 (iT l (aVg (wrap64 (wrap64 (p*7)+3)) l.length).toNat*1117))+wrap64 (p*29))+wrap64 (wrap64 (Int.tdiv p l.length)*53)))
  (wrap64 (Int.tdiv (wrap64 (wrap64 (wrap64 (wrap64 (iT l (aVg p l.length).toNat*131)+wrap64 (iT l (aVg (wrap64 (wrap64 (p*7)+3)) l.length).toNat*1117))+wrap64 (p*29))+wrap64 (wrap64 (Int.tdiv p l.length)*53))) 64))) n
theorem cG (l:List UInt8) {p n:Int} (hp:0≤p∧p≤1000000) (hn:1≤n):0≤aT l p n∧aT l p n<n:=by
 unfold aT
 split
 · omega
 · rename_i h
   have hl: ¬l.length=0:=fun e=>h (.inr e)
   split
   · exact nF (jW _ _).1 hn
   · exact nF (aPn (aUr (jW _ _) (jW _ _) hp (oY hp.1 (by omega)))) hn
set_option linter.unusedVariables false
def u8 (x:Int):UInt8:=UInt8.ofNat (iM x).toNat
theorem aDz (x:Int): ((u8 x).toNat:Int)=iM x:=by
 unfold u8 iM
 rw[UInt8.toNat_ofNat']
 omega
theorem ml (x:Int): [D.u (iM x)]=[D.u (u8 x).toNat]:=by rw[aDz]
theorem zu (b:List UInt8) (x:Int):aC b++[[D.u (iM x)]]=aC (b++[u8 x]):=by rw[ml,← gJ];rfl
theorem aNd {b:List UInt8} {i:Nat} {x:Int} (hi:i<b.length) (hx:x=iM x):
 (aC b).set i (dC ((aC b).getD i []) 0 [D.u x])=aC (b.set i (u8 x)):=by
 rw[iY hi]
 have e:dC [D.u (b.getD i 0).toNat] 0 [D.u x]=[D.u (u8 x).toNat]:=by rw[← ml,← hx];rfl
 rw[e,aC,aC,← List.map_set (f:=fun b:UInt8=>[D.u (b.toNat:Int)])]
theorem aD0 (x:Int):iM x=iM (iM x):=by unfold iM;omega
theorem weights: ∀d,1≤d→d≤255→ ∀w,1≤w→w≤1000→d*w≠65521∧d*w≠131042∧d*w≠196563:=by
 intro d h1 h2 w h3 h4
 have key: ∀d,d≤255→d≠0→(65521 % d=0→1000<65521 / d)∧(131042 % d=0→1000<131042 / d)∧(196563 % d=0→1000<196563 / d):=by
  decide+kernel
 obtain⟨k1,k2,k3⟩:=key d h2 (by omega)
 · have hd:0<d:=by omega
   refine⟨fun e=> ?_,fun e=> ?_,fun e=> ?_⟩
   · have:=k1 (by rw[← e];exact Nat.mul_mod_right d w)
     rw[← e,Nat.mul_div_cancel_left w hd] at this;omega
   · have:=k2 (by rw[← e];exact Nat.mul_mod_right d w)
     rw[← e,Nat.mul_div_cancel_left w hd] at this;omega
   · have:=k3 (by rw[← e];exact Nat.mul_mod_right d w)
     rw[← e,Nat.mul_div_cancel_left w hd] at this;omega
set_option linter.unusedVariables false
def cY (l:List Int):List (List D):=l.map fun x=>[.i x]
def aM (l:List Bool):List (List D):=l.map fun x=>[.b x]
def bO (l:List (List UInt8)):List (List D):=l.map fun x=>[.s x]
theorem cF (l:List Int): (cY l).length=l.length:=by simp[cY]
theorem cS (l:List Bool): (aM l).length=l.length:=by simp[aM]
theorem aW (l:List (List UInt8)): (bO l).length=l.length:=by simp[bO]
theorem jb (l:List (List UInt8)): ∀r∈bO l,r.length=1:=by
 intro r hr
 obtain⟨b,_,rfl⟩:=aVj.1 hr
 rfl
theorem dL {l:List Int} {i:Nat} (h:i<l.length): (cY l).getD i []=[.i (l.getD i 0)]:=by
 rw[aVb,aVb]
 simp[cY,h]
theorem lB {l:List Bool} {i:Nat} (h:i<l.length): (aM l).getD i []=[.b (l.getD i false)]:=by
 rw[aVb,aVb]
 simp[aM,h]
theorem gZ {l:List (List UInt8)} {i:Nat} (h:i<l.length): (bO l).getD i []=[.s (l.getD i [])]:=by
 rw[aVb,aVb]
 simp[bO,h]
theorem jc {l:List Int} {j:Int} (h0:0≤j) (h:j<l.length): (0≤j∧j< (cY l).length)∧((cY l).getD j.toNat []).length=1:=by
 refine⟨⟨h0,by rw[cF];exact h⟩,?_⟩
 rw[dL (by omega)];rfl
theorem ixS {l:List (List UInt8)} {j:Int} (h0:0≤j) (h:j<l.length): (0≤j∧j< (bO l).length)∧((bO l).getD j.toNat []).length=1:=by
 refine⟨⟨h0,by rw[aW];exact h⟩,?_⟩
 rw[gZ (by omega)];rfl
theorem ldS {l:List (List UInt8)} {j:Int} (h0:0≤j) (h:j<l.length):1≤((bO l).getD j.toNat []).length∧((bO l).getD j.toNat []).take 1=gI [.d (.s [])] ((bO l).getD j.toNat []) 0:=by
 rw[gZ (by omega)];exact⟨aVf _,rfl⟩
theorem aPo {l:List (List UInt8)} {j:Int} (h0:0≤j) (h:j<l.length):toS (((bO l).getD j.toNat []).getD 0 (.i 0))=l.getD j.toNat []:=by
 rw[gZ (by omega)];rfl
theorem aUu {l:List UInt8} {j:Int} {n:Nat} (h0:0≤j) (h:j<l.length) (e:l.length=n): (aC l).length=n∧0≤j∧j<n:=⟨by rw[aV];exact e,h0,by omega⟩
theorem aG4 {l:List Int} {j n:Nat} (h:j<l.length) (e:l.length=n): ((cY l).length=n∧j<n)∧0+1≤((cY l).getD j []).length∧(((cY l).getD j []).drop 0).take 1=gI [.d (.i 0)] ((cY l).getD j []) 0:=by
 rw[dL h,cF];exact⟨⟨e,by omega⟩,aVf _,rfl⟩
theorem aKf {l:List Bool} {i:Nat} {x:Bool} (hi:i<l.length): (aM l).set i (dC ((aM l).getD i []) 0 [D.b x])=aM (l.set i x):=by
 rw[lB hi]
 show(aM l).set i [D.b x]=_
 rw[aM,aM,← List.map_set (f:=fun b:Bool=>[D.b b])]
theorem nU (l:List Int) (x:Int):cY l++[[D.i x]]=cY (l++[x]):=by simp[cY]
theorem jN (l:List (List UInt8)) (x:List UInt8):bO l++[[D.s x]]=bO (l++[x]):=by simp[bO]
theorem repT (n:Nat):List.replicate n [D.b false]=aM (List.replicate n false):=by simp[aM]
def eT (x:Int):Int:=if iB x 0 65535 then aVg (wrap64 (wrap64 (x*25173)+13849)) 65536 else 0
theorem be (x:Int):0≤eT x∧eT x<65536:=by
 unfold eT
 split
 · rename_i h
   simp[iB] at h
   rw[aE (n:=x*25173) (by omega),aE (by omega)]
   exact nF (by omega) (by omega)
 · omega
def sY (b n:Int):Bool:=iB b 1 6&&iB n 0 999
theorem xG {b n:Int} (h:sY b n=true): (1≤b∧b≤6)∧0≤n∧n≤999:=by
 simp[sY,iB] at h;omega
def nG (b d:Int):Int:=if d=1 then wrap64 (wrap64 (Int.tdiv 60 b)+10) else wrap64 (Int.tdiv 60 (wrap64 (d*wrap64 (d - 1))))
theorem uS {b d:Int} (hb:1≤b∧b≤6) (hd:1≤d∧d≤6):0≤nG b d∧nG b d≤70∧(d=1→10≤nG b d):=by
 obtain⟨hb1,hb2⟩:=hb
 obtain⟨hd1,hd2⟩:=hd
 have key: ∀b:Fin 7,∀d:Fin 7,1≤b.val→1≤d.val→0≤nG b.val d.val∧nG b.val d.val≤70∧((d.val:Int)=1→10≤nG b.val d.val):=by decide+kernel
 obtain⟨m,rfl⟩:=Int.eq_ofNat_of_zero_le (show 0≤b by omega)
 obtain⟨n,rfl⟩:=Int.eq_ofNat_of_zero_le (show 0≤d by omega)
 exact key ⟨m,by omega⟩ ⟨n,by omega⟩ (by simp;omega) (by simp;omega)
theorem aG5 {b f at_:Int} (hb:1≤b∧b≤6) (hf:0≤f∧f<b) (ha:0≤at_∧at_<b) (hne:at_≠f):
 ((f+b - aVg (wrap64 (at_+1)) b) % b).toNat< ((f+b - at_) % b).toNat∧0≤aVg (wrap64 (at_+1)) b∧aVg (wrap64 (at_+1)) b<b:=by
 rw[aE (by omega)]
 have h:=nF (x:=at_+1) (n:=b) (by omega) hb.1
 refine⟨?_,h⟩
 rw[Int.tmod_eq_emod_of_nonneg (by omega)]
 obtain⟨h1,h2⟩:=hb
 have:b=1∨b=2∨b=3∨b=4∨b=5∨b=6:=by omega
 rcases this with rfl|rfl|rfl|rfl|rfl|rfl<;>omega
theorem aD1 {u:List Bool} (h:u.count true<u.length): ∃f,f<u.length∧u.getD f false=false:=by
 induction u with
 |nil=>simp at h
 |cons x u ih=>
  cases x with
  |false=>exact⟨0,by simp,rfl⟩
  |true=>
   simp at h
   obtain⟨f,h1,h2⟩:=ih h
   exact⟨f+1,by simpa using h1,by simpa using h2⟩
theorem aKg {u:List Bool} {i:Nat} (hi:i<u.length) (h:u.getD i false=false): (u.set i true).count true=u.count true+1:=by
 induction u generalizing i with
 |nil=>simp at hi
 |cons x u ih=>
  cases i with
  |zero=>simp at h;subst h;simp
  |succ i=>
   simp at hi
   have:=ih hi (by simpa using h)
   simp only[List.set_cons_succ,List.count_cons,this]
   omega
theorem ga (m n:Int):lq m n=iM (lq m n):=by
 unfold lq
 rw[ic]
 exact aD0 _
theorem aKh (b:List UInt8) (m n:Int):aC b++[[D.u (lq m n)]]=aC (b++[u8 (lq m n)]):=by
 rw[ga]
 rw[zu,← ga]
set_option linter.unusedVariables false
theorem pb {f:cH} (h:eW f=true): (f.kind=1→f.dst=iN f.src f.to)∧(f.kind≠1→f.src=iN f.dst f.to∧f.size=0∧f.mix=0∧f.data=[]):=by
 simp only[eW,aU7] at h
 obtain⟨_,h7⟩:=h
 split at h7
 · rename_i hk
   simp only[aU7,decide_eq_true_eq] at h7
   exact⟨fun _=>h7.2,fun h=>absurd hk h⟩
 · rename_i hk
   split at h7
   · simp only[aU7,decide_eq_true_eq] at h7
     exact⟨fun h=>absurd h hk,fun _=>⟨h7.2,h7.1.1.1,h7.1.1.2,h7.1.2⟩⟩
   · cases h7
theorem eh {a b n:Int} (h:n=iN a b) (hn:0≤n):a - n=1∨n - a=1:=by
 unfold iN at h
 split at h
 · omega
 · split at h<;>omega
theorem aKi {f:cH} (h:eW f=true) (hk:f.kind=1):iN f.src f.to=f.dst∧(f.src - f.dst=1∨f.dst - f.src=1):=by
 obtain⟨k1,k2,_⟩:=lV h
 have:=(pb h).1 hk
 exact⟨this.symm,eh this (by omega)⟩
theorem aKj {f:cH} (h:eW f=true) (hk:f.kind≠1):iN f.dst f.to=f.src∧(f.src - f.dst=1∨f.dst - f.src=1):=by
 obtain⟨k1,k2,_⟩:=lV h
 have:=((pb h).2 hk).1
 exact⟨this.symm,(eh this (by omega)).symm⟩
set_option linter.unusedVariables false
set_option linter.unusedSimpArgs false
def eqD:D→D→Bool
 | .i m,.i n=>m==n
 | .b m,.b n=>m==n
 | .s l,.s r=>l==r
 |_,_=>false
def wN:List D→List D→Bool
 |x::xs,y::ys=>eqD x y&&wN xs ys
 |_,_=>true
def zw:TK→D→D→Bool
 | .int _,.i _,.i _=>true
 | .bool,.b _,.b _=>true
 | .str,.s _,.s _=>true
 |_,_,_=>false
def jd (T:gQ):List Field→Nat→List D→List D→Bool
 | [],_,[],[]=>true
 |f::fs,k,x::xs,y::ys=>(f.name != "_")&&Nat.beq f.offset k&&(match T f.type with|some ti=>zw ti.kind x y|none=>false)&&jd T fs (k+1) xs ys
 |_,_,_,_=>false
theorem aI5 {P:Program} {T:gQ} (hT:dR P T) {w:World} {S:Nat→Prop} {va vb:Array Value} (d:Nat): ∀(fs:List Field) (k:Nat) (xs ys:List D),jd T fs k xs ys=true→(∀(j:Nat) x,xs[j]? =some x→ ∃v,va[k+j]? =some v∧DR w S x v)→(∀(j:Nat) x,ys[j]? =some x→ ∃v,vb[k+j]? =some v∧DR w S x v)→
 (Op.eqFields (d+1) va vb fs).run P w= .ok (wN xs ys) w
 | [],k,xs,ys,h,_,_=>by
  cases xs<;>cases ys<;>first|rfl|(simp[jd] at h)
 |f::fs,k,[],ys,h,_,_=>by simp[jd] at h
 |f::fs,k,x::xs,[],h,_,_=>by simp[jd] at h
 |f::fs,k,x::xs,y::ys,h,hx,hy=>by
  simp only[jd,aU7] at h
  obtain⟨⟨⟨h1,h2⟩,h3⟩,h4⟩:=h
  have h2:=Nat.eq_of_beq_eq_true h2
  split at h3<;>try(cases h3;done)
  rename_i ti hti
  have ok:=hT _ _ hti
  obtain⟨u,hu,hxu⟩:=hx 0 x rfl
  obtain⟨v,hv,hyv⟩:=hy 0 y rfl
  have ih:=aI5 hT d fs (k+1) xs ys h4 (fun j z hj=>by rw[Nat.add_assoc,Nat.add_comm 1 j];exact hx (j+1) z hj) (fun j z hj=>by rw[Nat.add_assoc,Nat.add_comm 1 j];exact hy (j+1) z hj)
  have hag:ti.kind.agg=false:=by
   cases hk:ti.kind<;>rw[hk] at h3<;>first|rfl|(simp[zw] at h3)
  have pu: (Go.part f.type va f.offset).run P w= .ok u w:=by
   rw[h2];simp only[Go.part,Sem.run_bind,qZ ok,hag,Result.andThen_ok]
   simp only[Nat.add_zero] at hu
   simp[hu]
  have pv: (Go.part f.type vb f.offset).run P w= .ok v w:=by
   rw[h2];simp only[Go.part,Sem.run_bind,qZ ok,hag,Result.andThen_ok]
   simp only[Nat.add_zero] at hv
   simp[hv]
  have heq: (Op.equalIn (d+1) f.type u v).run P w= .ok (eqD x y) w:=by
   have hkd:=ok.kind
   cases hk:ti.kind with
   |int k'=>
    rw[hk] at h3 hkd
    cases x<;>cases y<;>simp[zw] at h3
    cases hxu;cases hyv
    exact run_equalIn_int w d f.type .i64 k' _ _ hkd
   |bool=>
    rw[hk] at h3 hkd
    cases x<;>cases y<;>simp[zw] at h3
    cases hxu;cases hyv
    exact run_equalIn_bool w d f.type _ _ hkd
   |str=>
    rw[hk] at h3 hkd
    cases x<;>cases y<;>simp[zw] at h3
    rename_i l r
    cases hxu;cases hyv
    rw[run_equalIn_string w d f.type _ _ hkd]
    simp[eqD,ByteArray.toList_eq]
   |_=>rw[hk] at h3;simp[zw] at h3
  simp only[Op.eqFields,if_pos (by simpa using h1),Sem.run_bind,pu,pv,heq,Result.andThen_ok]
  cases hxy:eqD x y
  · simp[wN,hxy]
  · simp[wN,hxy,ih]
theorem aI6 {P:Program} {T:gQ} (hT:dR P T) {o:Oper} {op:BinOp} {t u:TypeId} {x y:Operand} {d:Nat} {σ0:St} {xs ys:List D} {Rx Ry:List (dF×Option K)} (ho:o.op= .binOp op t x y u) (hd:o.dst=some d) (hop: (match op with| .eql=>true| .neq=>true|_=>false)=true)
 (ht:P.underlying t=some (.struct (P.fieldsOf t))) (hp:P.stoodInHeld t=false) (hm:P.eqGuardType P.depth t=false) (hf:jd T (P.fieldsOf t).toList 0 xs ys=true)
 (hx:ev σ0 x=some (.e (.agg (xs.map .d)),Rx)) (hy:ev σ0 y=some (.e (.agg (ys.map .d)),Ry)):
 wY P o (Rx++Ry) [(.t d,.v (B (match op with| .neq=> !wN xs ys|_=>wN xs ys)))]:=by
 refine nS hd fun cx σ ι S a w hr hw=> ?_
 obtain⟨va,ea,la,ha⟩:=(show ER σ ι w S (.agg (xs.map .d)) _ from dG hx hr.left hw)
 obtain⟨vb,eb,lb,hb⟩:=(show ER σ ι w S (.agg (ys.map .d)) _ from dG hy hr.right hw)
 have hA: ∀(j:Nat) z,xs[j]? =some z→ ∃v,va.toArray[0+j]? =some v∧DR w S z v:=fun j z hj=>by
  have hj': (xs.map C.d)[j]? =some (.d z):=by simp[hj]
  have hlt:j<va.length:=by rw[la];exact(aVe.1 hj').1
  refine⟨va[j],by simp[hlt],ha j _ _ hj' (by simp[hlt])⟩
 have hB: ∀(j:Nat) z,ys[j]? =some z→ ∃v,vb.toArray[0+j]? =some v∧DR w S z v:=fun j z hj=>by
  have hj': (ys.map C.d)[j]? =some (.d z):=by simp[hj]
  have hlt:j<vb.length:=by rw[lb];exact(aVe.1 hj').1
  refine⟨vb[j],by simp[hlt],hb j _ _ hj' (by simp[hlt])⟩
 have key:=aI5 hT 9998 (P.fieldsOf t).toList 0 xs ys hf hA hB
 have key2: (Op.equalIn 10000 t (.agg va.toArray) (.agg vb.toArray)).run P w= .ok (wN xs ys) w:=by
  rw[show(10000:Nat)=9999+1 from rfl,run_equalIn_struct w 9999 t _ _ ht hp];exact key
 cases op<;>simp at hop
 · refine⟨.bool (wN xs ys),?_,.b _⟩
   unfold execOp
   simp only[ho,Act.eval] at*
   simp only[ea,eb]
   rw[Sem.run_bind,Sem.run_bind,run_eqGuard_agg w .eql t x y _ _ hm,Result.andThen_ok,run_eql_struct,key2]
   rfl
 · refine⟨.bool (!wN xs ys),?_,.b _⟩
   unfold execOp
   simp only[ho,Act.eval] at*
   simp only[ea,eb]
   rw[Sem.run_bind,Sem.run_bind,run_eqGuard_agg w .neq t x y _ _ hm,Result.andThen_ok,run_neq_struct,key2]
   rfl
theorem aG6 {P:Program} {T:gQ} (hT:dR P T) {o:Oper} {op:BinOp} {t u:TypeId} {x y:Operand} {d:Nat} {σ:St} (xs ys:List D) {Rx Ry:List (dF×Option K)} {k:List (dF×Option K)→List (dF×K)→Prop} (ho:o.op= .binOp op t x y u) (hd:o.dst=some d) (hop: (match op with| .eql=>true| .neq=>true|_=>false)=true)
 (ht:P.underlying t=some (.struct (P.fieldsOf t))) (hp:P.stoodInHeld t=false) (hm:P.eqGuardType P.depth t=false) (hf:jd T (P.fieldsOf t).toList 0 xs ys=true)
 (hx:ev σ x=some (.e (.agg (xs.map .d)),Rx)) (hy:ev σ y=some (.e (.agg (ys.map .d)),Ry)) (h:k (Rx++Ry) [(.t d,.v (B (match op with| .neq=> !wN xs ys|_=>wN xs ys)))]): ∃R W,wY P o R W∧bL R σ∧k R W:=
 ⟨_,_,aI6 hT ho hd hop ht hp hm hf hx hy,(fun p hp=>by
  rcases List.mem_append.1 hp with hp|hp
  · exact cZ hx p hp
  · exact cZ hy p hp),h⟩
theorem aI7 {P:Program} {T:gQ} (hT:dR P T) {o:Oper} {op:BinOp} {t u:TypeId} {x y:Operand} {d:Nat} {σ σ1:St} {g:Bool} (xs ys:List D) {Rx Ry:List (dF×Option K)} {k:List (dF×Option K)→V→Prop} (ho:o.op= .binOp op t x y u) (hd:o.dst=some d) (hop: (match op with| .eql=>true| .neq=>true|_=>false)=true)
 (ht:P.underlying t=some (.struct (P.fieldsOf t))) (hp:P.stoodInHeld t=false) (hm:P.eqGuardType P.depth t=false) (hf:jd T (P.fieldsOf t).toList 0 xs ys=true)
 (hx:ev σ1 x=some (.e (.agg (xs.map .d)),Rx)) (hy:ev σ1 y=some (.e (.agg (ys.map .d)),Ry)) (hr:g=true→oF σ (Rx++Ry)) (h:k (Rx++Ry) (B (match op with| .neq=> !wN xs ys|_=>wN xs ys))):
 ∃R X,(g=true→wY P o R [(.t d,.v X)]∧bL R σ1)∧(g=true→oF σ R)∧k R X:=
 ⟨_,_,fun _=>⟨aI6 hT ho hd hop ht hp hm hf hx hy,(fun p hp=>by
  rcases List.mem_append.1 hp with hp|hp
  · exact cZ hx p hp
  · exact cZ hy p hp)⟩,hr,h⟩
set_option linter.unusedVariables false
set_option linter.unusedSimpArgs false
theorem Spec.freeze {P:Program} {f:FuncId} {n m:Nat} {σin:St} {e:TypeId} {es:Nat} {rows:List (List D)} (h:Spec P f n σin [(.t 0,.v (.e (.c (.own 0 m)))),(.o 0,.row e es rows)]) (hm:rows.length=m) (h0:cA σin=[]):Spec P f n σin [(.t 0,.v (Dv (.sl rows)))]:=by
 have hno: ∀o k,aU σin (.o o)=some k→False:=fun o k hk=>by have:=fG hk;rw[h0] at this;cases this
 refine⟨h.1,fun ι ν S w args hg h1 h2 h3=>nE (fun ex w'=> ?_) (h.2 ι ν S w args hg h1 h2 h3)⟩
 rintro⟨v,ι',S',rfl,hp⟩
 have hrow:=hp.vr.objs 0 (.row e es rows) rfl
 have hv:v=ι' 0:=by
  obtain⟨_,h2⟩:=(show CR _ ι' w' S' (.own 0 m) v from hp.vr.slots 0 _ rfl)
  rcases h2 with⟨e2,es2,rows2,hl,_,hv⟩|hd
  · cases hl;exact hv hm
  · cases hd
 have hmut: ∀b,xT (ι' 0) b→kR [(dF.t 0,K.v (.e (.c (.own 0 m)))),(.o 0,.row e es rows)] ι' 0 b:=fun b hb=>⟨⟨_,rfl,trivial⟩,hb⟩
 refine⟨v,ι',fun b=>S' b∨xT (ι' 0) b,rfl,hp.fr,⟨fun s k hk=> ?_,fun o k hk=> ?_,fun o b hm2=> ?_,fun o o' b hm2=> ?_,fun b hb=> ?_⟩,fun b hb=> ?_,fun o b hm2=> ?_,fun o k k' hk hk'=> ?_⟩
 · simp only[aU] at hk
   split at hk
   · rename_i e3;cases e3;cases hk
     show DR w' _ (.sl rows) v
     rw[hv];exact ze hrow (fun b h=> .inl h) (fun b h=> .inr h)
   · cases hk
 · simp[aU] at hk
 · obtain⟨⟨k,hk,_⟩,_⟩:=hm2;simp[aU] at hk
 · obtain⟨⟨k,hk,_⟩,_⟩:=hm2;simp[aU] at hk
 · rcases hb with hb|hb
   · exact hp.vr.sz b hb
   · exact OR.lt hrow trivial hb
 · rcases hb with hb|hb
   · exact hp.rd b hb
   · exact .inr (hp.own 0 b (hmut b hb))
 · obtain⟨⟨k,hk,_⟩,_⟩:=hm2;simp[aU] at hk
 · exact(hno o k hk).elim
def goF (P:Program) (T:gQ) (io:List Nat) (ops:List Oper):List Oper→St→(St→Prop)→Prop
 | [],σ,k=>k σ
 |o::os,σ,k=>match o.guard with
  |none=>zn P T io o σ fun σ'=>goF P T io ops os σ' k
  |some (j,want)=>match(ops[j]?).bind (·.dst),o.dst with
   |some s,some d=>match gOf want (aU σ (.t s)) with
    |some g=>(g=true→zn P T io o σ fun σ'=>goF P T io ops os σ' k)∧(g=false→ ∃X,qb σ (.t d) (.cv s want false X) fun σ'=>goF P T io ops os σ' k)
    |none=>False
   |_,_=>False
theorem mn {P:Program} {T:gQ} (hT:dR P T) {io:List Nat} {ops:Array Oper} {cx:Cx P} (hio: ∀o k,cx.kio o=some k→o∈io) {Q:Exit→Act→World→Prop} {k:St→Prop} (hk: ∀σ ι S a w,k σ→RW cx σ ι S a w→Q .normal a w): ∀(l:List Oper) (σ:St) (ι:Nat→Value) (S:Nat→Prop) (a:Act) (w:World),goF P T io ops.toList l σ k→RW cx σ ι S a w→(∀o∈l,∀d,o.dst=some d→d<cx.N)→wpList P ops Q l a w
 | [],σ,ι,S,a,w,h,hw,hf=>hk σ ι S a w h hw
 |o::os,σ,ι,S,a,w,h,hw,hf=>by
  have hfo:=hf o (List.mem_cons_self ..)
  have hfs: ∀o∈os,∀d,o.dst=some d→d<cx.N:=fun o ho=>hf o (List.mem_cons_of_mem _ ho)
  have run: (zn P T io o σ fun σ'=>goF P T io ops.toList os σ' k)→o.wp P a w (fun a w=>wpList P ops Q os a w) Q:=fun h=>by
   obtain⟨σ1,hwk,R,Ws,h1,h2,h3⟩:=ow hT h
   obtain⟨ι1,S1,hw1⟩:=hwk _ cx ι S a w hio hw
   refine h1 cx σ1 ι1 S1 a w h2 hw1 hfo _ Q fun W hW ι' S' a' w' hw'=> ?_
   have h3:=h3 W hW
   rw[kP] at h3
   exact mn hT hio hk os _ ι' S' a' w' h3 hw' hfs
  unfold wpList
  simp only[goF] at h
  split at h
  · rename_i hg
    rw[if_pos (by simp[Region.wanted,hg])]
    exact .inl (run h)
  · rename_i j want hg
    split at h<;>try(exact h.elim)
    rename_i s d hs hd
    split at h<;>try(exact h.elim)
    rename_i g hl
    have hs': (ops[j]?).bind (·.dst)=some s:=by simpa using hs
    cases g with
    |true=>
     rw[sg hw hg hs' hl,if_pos rfl]
     exact .inl (run (h.1 rfl))
    |false=>
     obtain⟨X,h2⟩:=h.2 rfl
     rw[oL] at h2
     exact aBg (R:=[]) (X:=X) hg hs' hd hl (by simp) (by simp) cx σ ι S a w yI hw hfo _ Q fun ι' S' a' w' hw'=>mn hT hio hk os _ ι' S' a' w' (by simpa[iL] using h2) hw' hfs
theorem SW.regF {P:Program} {io:List Nat} {Q:Ex→St→Prop} {σ:St} {T:gQ} (hT:dR P T) (ks:List Nat) {id:Nat} {ops:Array Oper} (h:goF P T io ops.toList ops.toList σ fun σ'=>qY ks σ' (Q .norm)):SW P io (.region id ops false) Q σ:=by
 intro cx ι S a w hio hw hf
 have hfit: ∀o∈ops.toList,∀d,o.dst=some d→d<cx.N:=fun o ho=>xX (by simpa[sX] using hf) ho
 refine wp_region_list (mn hT hio (fun σ' ι' S' a' w' h4 hw'=> ?_) ops.toList σ ι S a w h hw hfit)
 rw[mQ] at h4
 exact⟨_,ι',S',h4,hw'.keep ks⟩
set_option linter.unusedVariables false
structure aR where
 frm:Int
 num:Int
 to:Int
 til:Int
 text:List UInt8
 deriving DecidableEq
structure bQ where
 frm:Int
 num:Int
 til:Int
 deriving DecidableEq
def aR.row (n:aR):List D:=[.i n.frm,.i n.num,.i n.to,.i n.til,.s n.text]
def bQ.row (n:bQ):List D:=[.i n.frm,.i n.num,.i n.til]
abbrev aR.V (n:aR):V:= .e (.agg [.d (.i n.frm),.d (.i n.num),.d (.i n.to),.d (.i n.til),.d (.s n.text)])
abbrev bQ.V (n:bQ):V:= .e (.agg [.d (.i n.frm),.d (.i n.num),.d (.i n.til)])
def aR.zero:aR:=⟨0,0,0,0,[]⟩
def bQ.zero:bQ:=⟨0,0,0⟩
def aD (l:List aR):List (List D):=l.map aR.row
def aJ (l:List bQ):List (List D):=l.map bQ.row
theorem aA (l:List aR): (aD l).length=l.length:=by simp[aD]
theorem aB (l:List bQ): (aJ l).length=l.length:=by simp[aJ]
theorem eR (l:List aR): ∀r∈aD l,r.length=5:=by
 intro r hr
 obtain⟨b,_,rfl⟩:=aVj.1 hr
 rfl
theorem iC (l:List bQ): ∀r∈aJ l,r.length=3:=by
 intro r hr
 obtain⟨b,_,rfl⟩:=aVj.1 hr
 rfl
theorem aQ {l:List aR} {i:Nat} (h:i<l.length): (aD l).getD i []=(l.getD i .zero).row:=by
 rw[aVb,aVb]
 simp[aD,h]
theorem bM {l:List bQ} {i:Nat} (h:i<l.length): (aJ l).getD i []=(l.getD i .zero).row:=by
 rw[aVb,aVb]
 simp[aJ,h]
def uT (s:List UInt8) (i:Nat):Bool:=iB (iT s i) 32 126
def wO (s:List UInt8):Bool:=(aVh s.length).all (uT s)&&iB s.length 1 24
def eD (n:aR):Bool:=eC n.frm&&eC n.to&&iB n.num 1 99&&iB n.til 1 999&&wO n.text
def jO (m:bQ):Bool:=eC m.frm&&iB m.num 1 99&&iB m.til 1 999
def bY (a b c d:Int):Bool:=decide (a<c)||a==c&&decide (b<d)
def lI (l:List aR) (i:Nat):Bool:=eD (l.getD i .zero)&&(i==0||bY (l.getD (i - 1) .zero).frm (l.getD (i - 1) .zero).num (l.getD i .zero).frm (l.getD i .zero).num)
def jP (l:List aR):Bool:=(aVh l.length).all (lI l)
def mH (l:List bQ) (i:Nat):Bool:=jO (l.getD i .zero)&&(i==0||bY (l.getD (i - 1) .zero).frm (l.getD (i - 1) .zero).num (l.getD i .zero).frm (l.getD i .zero).num)
def nV (l:List bQ):Bool:=(aVh l.length).all (mH l)
theorem jJ {p:Nat→Bool} {n:Nat} (h: ∀k,k<n→p k=true): (aVh n).all p=true:=by
 rw[aVi];intro k hk;exact h k (List.mem_range.1 hk)
theorem gR {p:Nat→Bool} {n k:Nat} (hk:k<n) (h:p k=false): (aVh n).all p=false:=by
 rw[List.all_eq_false];exact⟨k,List.mem_range.2 hk,by simp[h]⟩
def kU (p:Nat→Bool):Nat→Nat→Int
 |_,0=> -1
 |i,n+1=>if p i then i else kU p (i+1) n
theorem pI {p:Nat→Bool}: ∀{n i k:Nat},i≤k→k<i+n→(∀j,i≤j→j<k→p j=false)→p k=true→kU p i n=k
 |0,i,k,h1,h2,_,_=>by omega
 |n+1,i,k,h1,h2,h,hp=>by
  unfold kU
  by_cases e:i=k
  · subst e;rw[if_pos hp]
  · rw[if_neg (by rw[h i (aVf _) (by omega)];simp),pI (n:=n) (i:=i+1) (k:=k) (by omega) (by omega) (fun j h3 h4=>h j (by omega) h4) hp]
theorem nW {p:Nat→Bool}: ∀{n i:Nat},(∀j,i≤j→j<i+n→p j=false)→kU p i n= -1
 |0,i,_=>rfl
 |n+1,i,h=>by
  unfold kU
  rw[if_neg (by rw[h i (aVf _) (by omega)];simp),nW (n:=n) (i:=i+1) fun j h3 h4=>h j (by omega) (by omega)]
theorem gT (p:Nat→Bool): ∀(n i:Nat),kU p i n= -1∨ ∃k:Nat,kU p i n=k∧i≤k∧k<i+n∧p k=true∧ ∀j,i≤j→j<k→p j=false
 |0,i=> .inl rfl
 |n+1,i=>by
  unfold kU
  by_cases h:p i=true
  · rw[if_pos h];exact .inr ⟨i,rfl,aVf _,by omega,h,fun j h1 h2=>by omega⟩
  · rw[if_neg h]
    rcases gT p n (i+1) with h1|⟨k,h1,h2,h3,h4,h5⟩
    · exact .inl h1
    · refine .inr ⟨k,h1,by omega,by omega,h4,fun j h6 h7=> ?_⟩
      by_cases e:j=i
      · subst e;simpa using h
      · exact h5 j (by omega) h7
def mU (l:List aR) (f n:Int) (i:Nat):Bool:=(l.getD i .zero).frm==f&&(l.getD i .zero).num==n
def rH (l:List bQ) (f n:Int) (i:Nat):Bool:=(l.getD i .zero).frm==f&&(l.getD i .zero).num==n
def aX (l:List aR) (f n:Int):Int:=kU (mU l f n) 0 l.length
def fW (l:List bQ) (f n:Int):Int:=kU (rH l f n) 0 l.length
def bf (id:Int) (n:aR):Bool:=id != n.to&&(iB id n.frm n.to||iB id n.to n.frm)
structure aL where
 id:Int
 time:Int
 next:Int
 held:List aR
 marks:List bQ
 inbox:List aR
 deriving DecidableEq
def rI (k:aL) (i:Nat):Bool:=
 let n:=k.held.getD i .zero
 !(n.frm==k.id&&decide (k.next≤n.num))&&decide (k.time<n.til)&&bf k.id n&&decide (fW k.marks n.frm n.num<0)
def uU (k:aL) (i:Nat):Bool:=
 let m:=k.marks.getD i .zero
 !(m.frm==k.id&&decide (k.next≤m.num))&&decide (k.time<m.til)
def sA (k:aL) (i:Nat):Bool:=
 let n:=k.inbox.getD i .zero
 !(n.frm==k.id&&decide (k.next≤n.num))&&n.to==k.id&& !(decide (k.time<n.til)&&decide (fW k.marks n.frm n.num<0))
def cO (k:aL):Bool:=
 eC k.id&&iB k.time 0 999&&iB k.next 1 100&&decide (k.held.length≤6)&&decide (k.marks.length≤12)&&decide (k.inbox.length≤6)&&
 jP k.held&&nV k.marks&&jP k.inbox&&(aVh k.held.length).all (rI k)&&(aVh k.marks.length).all (uU k)&&(aVh k.inbox.length).all (sA k)
set_option linter.unusedVariables false
def aG7:Nat→Nat→List UInt8
 |0,n=>[UInt8.ofNat (48+n % 10)]
 |f+1,n=>if n<10 then [UInt8.ofNat (48+n)] else aG7 f (n / 10)++[UInt8.ofNat (48+n % 10)]
def kC (n:Nat):List UInt8:=aG7 n n
theorem aD2: ∀{f g n:Nat},n≤f→n≤g→aG7 f n=aG7 g n
 |0,0,n,_,_=>rfl
 |0,g+1,n,h,_=>by
  obtain rfl:n=0:=by omega
  rfl
 |f+1,0,n,_,h=>by
  obtain rfl:n=0:=by omega
  rfl
 |f+1,g+1,n,h1,h2=>by
  unfold aG7
  split
  · rfl
  · rw[aD2 (f:=f) (g:=g) (n:=n / 10) (by omega) (by omega)]
theorem lJ {n:Nat} (h:n<10):kC n=[UInt8.ofNat (48+n)]:=by
 unfold kC
 cases n with
 |zero=>rfl
 |succ k=>unfold aG7;rw[if_pos h]
theorem sB {n:Nat} (h:10≤n):kC n=kC (n / 10)++[UInt8.ofNat (48+n % 10)]:=by
 unfold kC
 cases n with
 |zero=>omega
 |succ k=>
  conv=>lhs;unfold aG7
  rw[if_neg (by omega),aD2 (f:=k) (g:=(k+1) / 10) (by omega) (aVf _)]
def gO (b:UInt8):Bool:=decide (48≤b.toNat)&&decide (b.toNat≤57)
def oZ:List UInt8→Nat:=fun l=>l.foldl (fun n b=>n*10+(b.toNat - 48)) 0
theorem dg (l:List UInt8) (b:UInt8):oZ (l++[b])=oZ l*10+(b.toNat - 48):=by simp[oZ]
theorem sO {d:Nat} (h:d<10): (UInt8.ofNat (48+d)).toNat=48+d:=by
 rw[UInt8.toNat_ofNat'];omega
theorem tg {d:Nat} (h:d<10):gO (UInt8.ofNat (48+d))=true:=by
 unfold gO
 rw[sO h,aU7,decide_eq_true_eq,decide_eq_true_eq];omega
theorem je (n:Nat):oZ (kC n)=n:=by
 induction n using Nat.strongRecOn with
 |_ n ih=>
  by_cases h:n<10
  · rw[lJ h]
    show 0*10+((UInt8.ofNat (48+n)).toNat - 48)=n
    rw[sO h];omega
  · rw[sB (by omega),dg,ih (n / 10) (by omega),sO (by omega)]
    omega
theorem gc (n:Nat): ∀b∈kC n,gO b=true:=by
 induction n using Nat.strongRecOn with
 |_ n ih=>
  intro b hb
  by_cases h:n<10
  · rw[lJ h] at hb
    rw[aVn] at hb;subst hb
    exact tg h
  · rw[sB (by omega)] at hb
    rcases List.mem_append.1 hb with hb|hb
    · exact ih (n / 10) (by omega) b hb
    · rw[aVn] at hb;subst hb
      exact tg (Nat.mod_lt _ (by decide))
theorem aG8 (n:Nat):kC n≠[]:=by
 by_cases h:n<10
 · rw[lJ h];simp
 · rw[sB (by omega)];simp
theorem aNe (n:Nat): (kC n).getD 0 0=48→n=0:=by
 induction n using Nat.strongRecOn with
 |_ n ih=>
  intro hb
  by_cases h:n<10
  · rw[lJ h] at hb
    have h1:=congrArg UInt8.toNat hb
    simp only[List.getD_cons_zero] at h1
    rw[sO h] at h1
    have: (48:UInt8).toNat=48:=rfl
    omega
  · rw[sB (by omega),aVb,List.getElem?_append_left (List.length_pos_iff.2 (aG8 _)),← aVb] at hb
    have:=ih (n / 10) (by omega) hb
    omega
theorem aD3: ∀(n:Nat) (l:List UInt8),l.length=n→l≠[]→(∀b∈l,gO b=true)→(l.getD 0 0=48→l.length=1)→kC (oZ l)=l
 |0,l,hn,h,_,_=>absurd (List.eq_nil_of_length_eq_zero hn) h
 |n+1,l0,hn,hne,hd,hz=>by
  obtain⟨l,b,rfl⟩: ∃l b,l0=l++[b]:=by
   rcases List.eq_nil_or_concat l0 with h|⟨L,b,h⟩
   · exact absurd h hne
   · exact⟨L,b,by rw[h,List.concat_eq_append]⟩
  have hb:=hd b (by simp)
  simp only[gO,aU7,decide_eq_true_eq] at hb
  have hbb:UInt8.ofNat (48+(b.toNat - 48))=b:=by
   apply UInt8.toNat_inj.1
   rw[UInt8.toNat_ofNat'];omega
  by_cases hl:l=[]
  · subst hl
    show kC (0*10+(b.toNat - 48))=[b]
    rw[Nat.zero_mul,Nat.zero_add,lJ (by omega),hbb]
  · have hlen:0<l.length:=List.length_pos_iff.2 hl
    have hh: (l++[b]).getD 0 0=l.getD 0 0:=by
     rw[aVb,aVb,List.getElem?_append_left hlen]
    have hz2:l.getD 0 0≠48:=fun e=>by
     have:=hz (hh.trans e)
     rw[aU5] at this
     have h9:l.length+1=1:=this
     omega
    have ih2:=aD3 n l (by simpa using hn) hl (fun x hx=>hd x (List.mem_append_left _ hx)) (fun e=>absurd e hz2)
    have hv:1≤oZ l:=by
     by_cases h0:oZ l=0
     · rw[h0] at ih2
       rw[← ih2] at hz2
       exact absurd rfl hz2
     · omega
    rw[dg,sB (by omega),show(oZ l*10+(b.toNat - 48)) / 10=oZ l by omega,show(oZ l*10+(b.toNat - 48)) % 10=b.toNat - 48 by omega,ih2,hbb]
set_option linter.unusedVariables false
def bg (s:List UInt8):Bool:=s.all gO
def kN (s:List UInt8):Option Nat:=if(1≤s.length∧s.length≤5)∧ ¬(s.getD 0 0=48∧1<s.length)∧bg s=true then some (oZ s) else none
def gK (s:List UInt8):Int:=if(1≤s.length∧s.length≤4)∧bg s=true∧kC (oZ s)=s then oZ s else -1
theorem vR {s:List UInt8} (h1:1≤s.length) (hd:bg s=true):kC (oZ s)=s↔ ¬(s.getD 0 0=48∧1<s.length):=by
 have hne:s≠[]:=fun e=>by subst e;simp at h1
 have hd': ∀b∈s,gO b=true:=aVi.1 hd
 constructor
 · rintro e ⟨h2,h3⟩
   have h4:oZ s=0:=aNe (oZ s) (by rw[e];exact h2)
   rw[h4] at e
   have:s.length=1:=by rw[← e];rfl
   omega
 · intro h
   exact aD3 s.length s rfl hne hd' fun h2=>by
    by_cases h3:1<s.length
    · exact absurd ⟨h2,h3⟩ h
    · omega
theorem xH {s:List UInt8} (h:s.length≤4):gK s=match kN s with|some n=>(n:Int)|none=> -1:=by
 unfold gK kN
 by_cases h1:1≤s.length
 · by_cases hd:bg s=true
   · by_cases hw: ¬(s.getD 0 0=48∧1<s.length)
     · rw[if_pos ⟨⟨h1,h⟩,hd,(vR h1 hd).2 hw⟩,if_pos ⟨⟨h1,by omega⟩,hw,hd⟩]
     · rw[if_neg (fun e=>hw ((vR h1 hd).1 e.2.2)),if_neg (fun e=>hw e.2.1)]
   · rw[if_neg (fun e=>hd e.2.1),if_neg (fun e=>hd e.2.2)]
 · rw[if_neg (fun e=>h1 e.1.1),if_neg (fun e=>h1 e.1.1)]
theorem aBp: ∀(n:Nat) (s:List UInt8),s.length=n→(∀b∈s,gO b=true)→oZ s<10 ^ n
 |0,s,hn,_=>by rw[List.eq_nil_of_length_eq_zero hn];decide
 |n+1,s0,hn,hd=>by
  obtain⟨s,b,rfl⟩: ∃l b,s0=l++[b]:=by
   rcases List.eq_nil_or_concat s0 with h|⟨L,b,h⟩
   · rw[h] at hn;simp at hn
   · exact⟨L,b,by rw[h,List.concat_eq_append]⟩
  have hb:=hd b (by simp)
  simp only[gO,aU7,decide_eq_true_eq] at hb
  have ih:=aBp n s (by simpa using hn) fun x hx=>hd x (List.mem_append_left _ hx)
  rw[dg,Nat.pow_succ]
  omega
theorem aKk {s:List UInt8} {i:Nat} (h:i<s.length):oZ (s.take (i+1))=oZ (s.take i)*10+((s.getD i 0).toNat - 48):=by
 rw[List.take_add_one,aVd h]
 rw[show s[i]=s.getD i 0 by rw[aVb,aVd h];rfl]
 exact dg _ _
set_option linter.unusedVariables false
def bh (s:List UInt8):Nat→Nat→Option Nat
 |0,_=>none
 |f+1,i=>if i<s.length then(if s.getD i 0=58 then some i else bh s f (i+1)) else none
def dh (s:List UInt8):Option Nat:=bh s 3 0
def mY (s:List UInt8):Option (List UInt8×Nat):=
 match dh s with
 |none=>none
 |some i=>match kN (s.take i) with
  |none=>none
  |some n=>if 1≤n∧n≤60∧i+2+n≤s.length∧s.getD (i+1+n) 0=59 then some ((s.take (i+1+n)).drop (i+1),i+2+n) else none
theorem bi {s:List UInt8}: ∀{f i k:Nat},bh s f i=some k→i≤k∧k<i+f∧k<s.length∧s.getD k 0=58∧ ∀j,i≤j→j<k→s.getD j 0≠58
 |0,i,k,h=>by cases h
 |f+1,i,k,h=>by
  unfold bh at h
  split at h
  · rename_i h1
    split at h
    · rename_i h2
      cases h
      exact⟨aVf _,by omega,h1,h2,fun j h3 h4=>by omega⟩
    · rename_i h2
      obtain⟨q1,q2,q3,q4,q5⟩:=bi h
      refine⟨by omega,by omega,q3,q4,fun j h3 h4=> ?_⟩
      by_cases e:j=i
      · subst e;exact h2
      · exact q5 j (by omega) h4
  · cases h
theorem zx {s:List UInt8}: ∀{f i k:Nat},i≤k→k<i+f→k<s.length→s.getD k 0=58→(∀j,i≤j→j<k→s.getD j 0≠58)→bh s f i=some k
 |0,i,k,h1,h2,_,_,_=>by omega
 |f+1,i,k,h1,h2,h3,h4,h5=>by
  unfold bh
  rw[if_pos (by omega)]
  by_cases e:i=k
  · subst e;rw[if_pos h4]
  · rw[if_neg (h5 i (aVf _) (by omega))]
    exact zx (by omega) (by omega) h3 h4 fun j h6 h7=>h5 j (by omega) h7
theorem zy {s:List UInt8}: ∀{f i:Nat},(∀j,i≤j→j<i+f→j<s.length→s.getD j 0≠58)→bh s f i=none
 |0,i,_=>rfl
 |f+1,i,h=>by
  unfold bh
  split
  · rename_i h1
    rw[if_neg (h i (aVf _) (by omega) h1)]
    exact zy fun j h2 h3=>h j (by omega) (by omega)
  · rfl
theorem rJ {s r:List UInt8} {n:Nat} (h:mY s=some (r,n)):3≤n∧n≤s.length∧n≤64∧r.length≤60∧1≤r.length:=by
 unfold mY at h
 split at h
 · cases h
 · rename_i i hi
   obtain⟨q1,q2,q3,q4,q5⟩:=bi hi
   split at h
   · cases h
   · rename_i m hm
     split at h
     · rename_i hc
       cases h
       have h1:1≤(s.take i).length:=by
        unfold kN at hm
        split at hm
        · rename_i h9;exact h9.1.1
        · cases hm
       rw[aVc] at h1
       refine⟨by omega,by omega,by omega,?_,?_⟩<;>rw[aVk,aVc]<;>omega
     · cases h
def ej:Nat→List UInt8→List (List UInt8)×Nat
 |0,_=>([],0)
 |f+1,s=>match mY s with
  |none=>([],0)
  |some (r,n)=>(r::(ej f (s.drop n)).1,n+(ej f (s.drop n)).2)
def dI (s:List UInt8):List (List UInt8)×Nat:=ej s.length s
theorem xI:mY []=none:=rfl
theorem mq: ∀{f g:Nat} {s:List UInt8},s.length≤f→s.length≤g→ej f s=ej g s
 |0,0,s,_,_=>rfl
 |0,g+1,s,h,_=>by
  obtain rfl:s=[]:=List.eq_nil_of_length_eq_zero (by omega)
  simp[ej,xI]
 |f+1,0,s,_,h=>by
  obtain rfl:s=[]:=List.eq_nil_of_length_eq_zero (by omega)
  simp[ej,xI]
 |f+1,g+1,s,h1,h2=>by
  unfold ej
  cases hr:mY s with
  |none=>rfl
  |some p=>
   obtain⟨r,n⟩:=p
   have:=rJ hr
   have e:=mq (f:=f) (g:=g) (s:=s.drop n) (by rw[aVk];omega) (by rw[aVk];omega)
   simp only[e]
theorem lK {s:List UInt8} (h:mY s=none):dI s=([],0):=by
 unfold dI
 cases s with
 |nil=>rfl
 |cons b t=>simp[ej,h]
theorem uV {s r:List UInt8} {n:Nat} (h:mY s=some (r,n)):dI s=(r::(dI (s.drop n)).1,n+(dI (s.drop n)).2):=by
 have h1:=rJ h
 unfold dI
 rw[mq (f:=s.length) (g:=(s.length - 1)+1) (aVf _) (by omega)]
 conv=>lhs;unfold ej
 rw[h]
 simp only
 rw[mq (f:=s.length - 1) (g:=(s.drop n).length) (by rw[aVk];omega) (aVf _)]
theorem yL: ∀(k:Nat) (s:List UInt8),s.length≤k→(dI s).2≤s.length∧(dI s).1.length≤s.length
 |0,s,h=>by
  obtain rfl:s=[]:=List.eq_nil_of_length_eq_zero (by omega)
  rw[lK xI];simp
 |k+1,s,h=>by
  cases hr:mY s with
  |none=>rw[lK hr];simp
  |some p=>
   obtain⟨r,n⟩:=p
   have h1:=rJ hr
   have ih:=yL k (s.drop n) (by rw[aVk];omega)
   rw[aVk] at ih
   rw[uV hr]
   simp only[aU9]
   omega
def fL (log:List UInt8) (forced:Int):Bool:=
 decide (log.length≤2400)&&iB forced 0 log.length&&decide ((dI log).2=log.length)&&decide (((dI (log.take forced.toNat)).2:Int)=forced)
set_option linter.unusedVariables false
theorem tQ {l:List aR} {i:Nat} {E c:Bool} (h: (!eD (l.getD i .zero)||decide ((i:Int)>0)&& !E)=c) (hE:0<i→E=bY (l.getD (i - 1) .zero).frm (l.getD (i - 1) .zero).num (l.getD i .zero).frm (l.getD i .zero).num):lI l i= !c:=by
 subst h
 unfold lI
 by_cases h0:i=0
 · subst h0;simp
 · rw[hE (by omega)]
   have h1:decide ((i:Int)>0)=true:=decide_eq_true (by omega)
   have h2: (i==0)=false:=by simpa using h0
   rw[h1,h2,Bool.true_and,Bool.false_or,Bool.not_or,Bool.not_not,Bool.not_not]
theorem tR {l:List bQ} {i:Nat} {E c:Bool} (h: (!jO (l.getD i .zero)||decide ((i:Int)>0)&& !E)=c) (hE:0<i→E=bY (l.getD (i - 1) .zero).frm (l.getD (i - 1) .zero).num (l.getD i .zero).frm (l.getD i .zero).num):mH l i= !c:=by
 subst h
 unfold mH
 by_cases h0:i=0
 · subst h0;simp
 · rw[hE (by omega)]
   have h1:decide ((i:Int)>0)=true:=decide_eq_true (by omega)
   have h2: (i==0)=false:=by simpa using h0
   rw[h1,h2,Bool.true_and,Bool.false_or,Bool.not_or,Bool.not_not,Bool.not_not]
theorem fB {i:Nat} (h:0<i) (hl:i≤1000000):wrap64 ((i:Int) - 1)=((i - 1:Nat):Int):=by
 rw[aE (by omega)];omega
end Go.Ab
namespace Go.Ab
open Int renaming toNat_natCast→aU4,tmod→aVg
open List renaming length_append→aU5,length_nil→aU8,length_cons→aU9,getD_eq_getElem?_getD→aVb,length_take→aVc,getElem?_eq_getElem→aVd,getElem?_eq_some_iff→aVe,range→aVh,all_eq_true→aVi,mem_map→aVj,length_drop→aVk,take_length→aVl,mem_cons→aVm,mem_singleton→aVn,mem_iff_getElem?→aVp
open Nat renaming le_of_ble_eq_true→aU6,zero_le→aVa,le_refl→aVf,add_mul→aVo
open Bool renaming and_eq_true→aU7
open Go Go.RowKit
abbrev aL.V (k:aL):V:= .e (.agg [.d (.i k.id),.d (.i k.time),.d (.i k.next),.d (.sl (aD k.held)),.d (.sl (aJ k.marks)),.d (.sl (aD k.inbox))])
theorem aAa (a b:Int):decide (a≥b)= !decide (a<b):=by
 by_cases h:a<b
 · simp[h,Int.not_le.2 h]
 · simp[h,Int.not_lt.1 h]
theorem yM {k:aL} {i:Nat} {c:Bool} (h: ((k.held.getD i .zero).frm==k.id&&decide ((k.held.getD i .zero).num≥k.next)||decide ((k.held.getD i .zero).til≤k.time)|| !bf k.id (k.held.getD i .zero)||decide (fW k.marks (k.held.getD i .zero).frm (k.held.getD i .zero).num≥0))=c):rI k i= !c:=by
 subst h
 unfold rI
 simp only[aAa,Bool.not_or,Bool.not_not]
theorem yN {k:aL} {i:Nat} {c:Bool} (h: ((k.marks.getD i .zero).frm==k.id&&decide ((k.marks.getD i .zero).num≥k.next)||decide ((k.marks.getD i .zero).til≤k.time))=c):uU k i= !c:=by
 subst h
 unfold uU
 simp only[aAa,Bool.not_or,Bool.not_not]
theorem vS {k:aL} {i:Nat} {c:Bool} (h: ((k.inbox.getD i .zero).frm==k.id&&decide ((k.inbox.getD i .zero).num≥k.next)||(k.inbox.getD i .zero).to != k.id||decide ((k.inbox.getD i .zero).til>k.time)&&decide (fW k.marks (k.inbox.getD i .zero).frm (k.inbox.getD i .zero).num<0))=c):sA k i= !c:=by
 subst h
 unfold sA
 simp only[aAa,Bool.not_or,Bool.not_not,bne,gt_iff_lt]
theorem bX (k:aL):cO k=true↔(eC k.id=true∧(0≤k.time∧k.time≤999)∧(1≤k.next∧k.next≤100)∧k.held.length≤6∧k.marks.length≤12∧k.inbox.length≤6)∧(jP k.held=true∧nV k.marks=true∧jP k.inbox=true)∧
 (aVh k.held.length).all (rI k)=true∧(aVh k.marks.length).all (uU k)=true∧(aVh k.inbox.length).all (sA k)=true:=by
 simp only[cO,iB,aU7,decide_eq_true_eq]
 constructor
 · rintro⟨⟨⟨⟨⟨⟨⟨⟨⟨⟨⟨h1,h2⟩,h3⟩,h4⟩,h5⟩,h6⟩,h7⟩,h8⟩,h9⟩,h10⟩,h11⟩,h12⟩
   exact⟨⟨h1,h2,h3,h4,h5,h6⟩,⟨h7,h8,h9⟩,h10,h11,h12⟩
 · rintro⟨⟨h1,h2,h3,h4,h5,h6⟩,⟨h7,h8,h9⟩,h10,h11,h12⟩
   exact⟨⟨⟨⟨⟨⟨⟨⟨⟨⟨⟨h1,h2⟩,h3⟩,h4⟩,h5⟩,h6⟩,h7⟩,h8⟩,h9⟩,h10⟩,h11⟩,h12⟩
theorem nX {k:aL} (h: ¬cO k=true):cO k=false:=by simpa using h
set_option linter.unusedVariables false
theorem aBq (n:Nat): (kC n).length≤n+1:=by
 induction n using Nat.strongRecOn with
 |_ n ih=>
  by_cases h:n<10
  · rw[lJ h];simp
  · rw[sB (by omega),aU5]
    have:=ih (n / 10) (by omega)
    simp only[aU9,aU8];omega
theorem jf {d:Nat} (h:d<10):u8 (wrap64 (48+(d:Int)))=UInt8.ofNat (48+d):=by
 rw[aE (by omega)]
 apply UInt8.toNat_inj.1
 have h1:=aDz (48+(d:Int))
 rw[sO h]
 unfold iM at h1
 omega
theorem pc {s:List UInt8} {i:Nat} (h: ∀k,k<i→gO (s.getD k 0)=true) (hi:i≤s.length): ∀b∈s.take i,gO b=true:=by
 intro b hb
 obtain⟨k,hk⟩:=aVp.1 hb
 have hlt:k<i:=by
  have:=(aVe.1 hk).1
  rw[aVc] at this;omega
 rw[List.getElem?_take_of_lt hlt] at hk
 have:=h k hlt
 rw[aVb,hk] at this
 exact this
theorem aAb {s:List UInt8} (h: ∀k,k<s.length→gO (s.getD k 0)=true):bg s=true:=by
 have:=pc h (aVf _)
 rw[aVl] at this
 exact aVi.2 this
theorem th {s:List UInt8} {k:Nat} (hk:k<s.length) (h:gO (s.getD k 0)=false):bg s=false:=by
 unfold bg
 rw[List.all_eq_false]
 refine⟨s.getD k 0,?_,by rw[h];decide⟩
 rw[aVb,aVd hk]
 exact List.getElem_mem _
theorem tj (s:List UInt8) (i:Nat):gO (s.getD i 0)=iB (iT s i) 48 57:=by
 unfold gO iB iT
 congr 1<;>(apply decide_eq_decide.2;omega)
theorem aD4 {s:List UInt8} {i a:Nat} (hi:i<s.length) (hd:gO (s.getD i 0)=true) (ha:oZ (s.take i)=a) (hb:a<1000000):
 wrap64 (wrap64 (10*(a:Int))+wrap64 (iM (((s.getD i 0).toNat:Int) - 48)))=(oZ (s.take (i+1)):Nat)∧wrap64 (wrap64 ((a:Int)*10)+wrap64 (iM (((s.getD i 0).toNat:Int) - 48)))=(oZ (s.take (i+1)):Nat):=by
 rw[aKk hi,ha]
 simp only[gO,aU7,decide_eq_true_eq] at hd
 have h8:iM (((s.getD i 0).toNat:Int) - 48)=((s.getD i 0).toNat:Int) - 48:=by unfold iM;omega
 rw[h8,aE (n:=((s.getD i 0).toNat:Int) - 48) (by omega),aE (n:=10*(a:Int)) (by omega),aE (n:=(a:Int)*10) (by omega),aE (by omega),aE (by omega)]
 omega
theorem mr {s:List UInt8} {i:Nat} (h: ∀k,k<i→gO (s.getD k 0)=true) (hi:i≤s.length) (h5:i≤5):oZ (s.take i)<100000:=
 Nat.lt_of_lt_of_le (aBp i (s.take i) (by rw[aVc];omega) (pc h hi)) (Nat.pow_le_pow_right (by decide) h5)
set_option linter.unusedVariables false
theorem yO (t:List UInt8): -1≤gK t∧gK t≤9999:=by
 unfold gK
 split
 · rename_i h
   have h1:=aBp t.length t rfl (aVi.1 h.2.1)
   have h2:10 ^ t.length≤10 ^ 4:=Nat.pow_le_pow_right (by decide) h.1.2
   have h3: (10:Nat) ^ 4=10000:=rfl
   omega
 · omega
theorem aNf {s:List UInt8} {i:Nat} (hc:dh s=some i):
 mY s=if 1≤gK (s.take i)∧gK (s.take i)≤60∧i+2+(gK (s.take i)).toNat≤s.length∧s.getD (i+1+(gK (s.take i)).toNat) 0=59 then some ((s.take (i+1+(gK (s.take i)).toNat)).drop (i+1),i+2+(gK (s.take i)).toNat) else none:=by
 obtain⟨q1,q2,q3,q4,q5⟩:=bi hc
 have hd:=xH (s:=s.take i) (by rw[aVc];omega)
 unfold mY
 rw[hc]
 simp only
 cases hn:kN (s.take i) with
 |none=>
  rw[hn] at hd
  simp only at hd
  rw[if_neg (by omega)]
 |some n=>
  rw[hn] at hd
  simp only at hd
  rw[hd]
  simp only[aU4]
  by_cases h:1≤n∧n≤60∧i+2+n≤s.length∧s.getD (i+1+n) 0=59
  · rw[if_pos h,if_pos ⟨by omega,by omega,h.2.2.1,h.2.2.2⟩]
  · rw[if_neg h,if_neg (fun e=>h ⟨by omega,by omega,e.2.2.1,e.2.2.2⟩)]
def aKl (s:List UInt8):List UInt8:=match mY s with|some p=>p.1|none=>[]
def aBr (s:List UInt8):Nat:=match mY s with|some p=>p.2|none=>0
theorem aAc {s:List UInt8}:aBr s=0↔mY s=none:=by
 unfold aBr
 cases h:mY s with
 |none=>simp
 |some p=>
  obtain⟨r,n⟩:=p
  have:=rJ h
  simp;omega
theorem aBs {s:List UInt8} (h: ∀j,j<3→j<s.length→s.getD j 0≠58):dh s=none:=zy fun j _ h2 h3=>h j (by omega) h3
theorem aG9 {s:List UInt8} {i:Nat} (h3:i<3) (hi:i<s.length) (hc:s.getD i 0=58) (h: ∀j,j<i→s.getD j 0≠58):dh s=some i:=zx (aVa _) (by omega) hi hc fun j _ h2=>h j h2
theorem xm {s:List UInt8} (h:dh s=none):mY s=none:=by unfold mY;rw[h]
set_option linter.unusedVariables false
def lC (t:List UInt8):Int:=match kN t with|some n=>(n:Int)|none=>0
section
variable {s:List UInt8} {a c:Nat}
end
open Go Go.RowKit Go.Sort
set_option linter.unusedVariables false
set_option linter.unusedSimpArgs false
theorem jg {P:Program} {f:FuncId} {ds:List D} {X:V} (hc:fq P f) (h: ∀(S:Nat→Prop) (w:World) (args:Array Value),aJq P w→args.size=ds.length→(∀(i:Nat) d v,ds[i]? =some d→args[i]? =some v→DR w S d v)→
 Calls P f args w fun e w'=> ∃v S',e= .returned v∧Fr (fun _=>False) w w'∧(∀σ ι,lR σ ι w' S' X v)∧ ∀b,S' b→w.heap.size≤b∧b<w'.heap.size):Spec P f ds.length (eS 0 (ds.map Dv)) [(.t 0,.v X)]:=by
 refine⟨hc,fun ι ν S w args hgb hvr hsz hargs=>nE (fun e w'=> ?_) (h S w args (hgb w (Fr.refl _ _)) hsz fun i d v hi hv=> ?_)⟩
 · rintro⟨v,S',rfl,hfr,hx,hS⟩
   refine⟨v,fun _=>undef,S',rfl,hfr.weak (fun _ h=>h.elim),⟨fun s k hk=> ?_,fun o k hk=> ?_,fun o b hm2=> ?_,fun o o' b hm2=> ?_,fun b hb=>(hS b hb).2⟩,fun b hb=> .inr (.inl (hS b hb).1),fun o b hm2=> ?_,fun o k k' hk hk'=> ?_⟩
   · simp only[aU] at hk
     split at hk
     · rename_i e3;cases e3;cases hk;exact hx _ _
     · cases hk
   · simp[aU] at hk
   · obtain⟨⟨k,hk,_⟩,_⟩:=hm2;simp[aU] at hk
   · obtain⟨⟨k,hk,_⟩,_⟩:=hm2;simp[aU] at hk
   · obtain⟨⟨k,hk,_⟩,_⟩:=hm2;simp[aU] at hk
   · simp[aU] at hk'
 · have hlt:i<ds.length:=(aVe.1 hi).1
   have hv2:=hargs i hlt
   rw[hv] at hv2
   cases hv2
   have hl:aU (eS 0 (ds.map Dv)) (.t i)=some (.v (Dv d)):=by
    have:=oX 0 (ds.map Dv) [] i (aVa _) (by simpa using hlt)
    rw[List.append_nil] at this
    rw[this];simp[hi]
   exact hvr.slots i _ hl
theorem aI8 (w:World) (k:Nat):Fr (fun _=>False) w (w.drewN k):=⟨rfl,rfl,rfl,aVf _,fun _ _ _=>rfl⟩
theorem aBt (w:World) (os:Array Obj):Fr (fun _=>False) w (grow w os):=
 ⟨rfl,rfl,rfl,by simp[grow],fun b hb _=>by simp[grow,Array.getElem?_append_left hb]⟩
theorem ms {P:Program} {w:World} (h:aJq P w) {g:Nat} (hg:P.globalNamed "internal/bytealg.MaxLen" =some g): ∃m,w.cell? ⟨g,0,none⟩=some (.int .i64 m):=by
 obtain⟨_,m,hm⟩:=h
 refine⟨m,?_⟩
 unfold World.var? at hm
 rw[hg] at hm
 simp only[Option.bind_some] at hm
 split at hm
 · rename_i cs t fz hh
   cases hm
   unfold World.cell?
   simp[hh]
 · cases hm
theorem bytesOf (l:List UInt8): (⟨l.toArray⟩:ByteArray).data.toList=l:=rfl
theorem DR.s_inv {w:World} {S:Nat→Prop} {l:List UInt8} {v:Value} (h:DR w S (.s l) v):v= .string ⟨l.toArray⟩:=by cases h;rfl
theorem DR.i_inv {w:World} {S:Nat→Prop} {n:Int} {v:Value} (h:DR w S (.i n) v):v= .int .i64 n:=by cases h;rfl
theorem aPq (n:Nat):Lib.decDigits n=kC n:=by
 induction n using Nat.strongRecOn with
 |_ n ih=>
  unfold Lib.decDigits
  by_cases h:n<10
  · rw[dif_pos h,lJ h]
  · rw[dif_neg h,sB (by omega),ih (n / 10) (by omega)]
theorem aKm {P:Program} {f:FuncId} (hc:fq P f) (n:Nat) (hn:n≤1000000)
 (h: ∀(w:World),Lib.TabIs P w "internal/strconv.uint64pow10" .u64 Lib.pow10Tab→Calls P f #[.int .i64 n] w fun e w'=>e= .returned (.string ⟨(Lib.itoa n).toArray⟩)∧ ∃k os,w'=grow (w.drewN k) os):
 Spec P f 1 [(.t 0,.v (I n))] [(.t 0,.v (Dv (.s (kC n))))]:=by
 refine jg (ds:=[.i n]) hc fun S w args hg hsz ha=> ?_
 have ha0:=ha 0 (.i n) (args[0]'(by rw[hsz];simp)) rfl (Array.getElem?_eq_getElem (by rw[hsz];simp))
 have e:args= #[.int .i64 n]:=by
  apply Array.ext
  · rw[hsz];rfl
  · intro i h1 h2
    have:i=0:=by have:i<1:=by simpa using h2
                 omega
    subst this
    exact ha0.i_inv
 subst e
 refine nE (fun e w'=> ?_) (h w hg.1)
 rintro⟨rfl,k,os,rfl⟩
 have e2:Lib.itoa (n:Int)=kC n:=by
  unfold Lib.itoa
  rw[if_neg (by omega),aU4,aPq]
 exact⟨_,fun _=>False,rfl,(aI8 w k).trans (aBt _ os) (fun _ _ h=>h),fun σ ι=>by rw[e2];exact DR.s _,fun b hb=>hb.elim⟩
def bA (s:List UInt8):List UInt8:=s.takeWhile (· != 32)
def aN (s:List UInt8):List UInt8:=(s.dropWhile (· != 32)).drop 1
def fP (s:List UInt8):Bool:=s.any (· ==32)
def iI:Nat→List UInt8→List (List UInt8)
 |0,s=>[s]
 |n+1,s=>if fP s then bA s::iI n (aN s) else [s]
theorem fX: ∀(s:List UInt8),(fP s=true→Lib.indexByte s 32=(bA s).length∧s.take (bA s).length=bA s∧s.drop ((bA s).length+1)=aN s∧(bA s).length<s.length)∧(fP s=false→Lib.indexByte s 32= -1∧bA s=s∧aN s=[])
 | []=>⟨fun h=>by simp[fP] at h,fun _=>⟨rfl,rfl,rfl⟩⟩
 |b::l=>by
  obtain⟨h1,h2⟩:=fX l
  unfold Lib.indexByte
  by_cases hb:b=32
  · subst hb
    refine⟨fun _=> ?_,fun h=>by simp[fP] at h⟩
    simp[bA,aN]
  · have e1:fP (b::l)=fP l:=by simp[fP,hb]
    have e2:bA (b::l)=b::bA l:=by simp[bA,hb]
    have e3:aN (b::l)=aN l:=by simp[aN,hb]
    rw[if_neg (by simpa using hb),e1,e2,e3]
    refine⟨fun h=> ?_,fun h=> ?_⟩
    · obtain⟨q1,q2,q3,q4⟩:=h1 h
      rw[q1,if_neg (by simp)]
      refine⟨by simp,by simp[q2],by simpa using q3,by simpa using q4⟩
    · obtain⟨q1,q2,q3⟩:=h2 h
      rw[q1,if_pos (by decide)]
      exact⟨rfl,by rw[q2],q3⟩
theorem aPr (s:List UInt8):Lib.cut s [32]=(bA s,aN s,fP s):=by
 obtain⟨h1,h2⟩:=fX s
 unfold Lib.cut
 rw[Lib.index_one]
 cases h:fP s with
 |true=>
  obtain⟨q1,q2,q3,q4⟩:=h1 h
  rw[q1,if_pos (by omega),aU4,q2]
  show(_,List.drop ((bA s).length+1) s,_)=_
  rw[q3]
 |false=>
  obtain⟨q1,q2,q3⟩:=h2 h
  rw[q1,if_neg (by decide),q2,q3]
theorem aAd: ∀(n:Nat) (s:List UInt8),Lib.splitK [32] 0 n s=iI n s
 |0,s=>rfl
 |n+1,s=>by
  obtain⟨h1,h2⟩:=fX s
  unfold Lib.splitK iI
  rw[Lib.index_one]
  cases h:fP s with
  |true=>
   obtain⟨q1,q2,q3,q4⟩:=h1 h
   rw[q1,if_neg (by simp),if_pos rfl,aU4,Nat.add_zero,q2]
   show _::Lib.splitK [32] 0 n (List.drop ((bA s).length+1) s)=_
   rw[q3,aAd n]
  |false=>
   obtain⟨q1,q2,q3⟩:=h2 h
   rw[q1,if_pos (by decide),if_neg (by simp)]
theorem aNg {P:Program} {f:FuncId} (hc:fq P f) (s:List UInt8) (hs:s.length≤1000000)
 (h: ∀(w:World),aJq P w→Calls P f #[.string ⟨s.toArray⟩,.string ⟨#[32]⟩] w fun e w'=>e= .returned (.tuple #[.string ⟨(Lib.cut s [32]).1.toArray⟩,.string ⟨(Lib.cut s [32]).2.1.toArray⟩,.bool (Lib.cut s [32]).2.2])∧ ∃n,w'=w.drewN n):
 Spec P f 2 [(.t 0,.v (Dv (.s s))),(.t 1,.v (Dv (.s [32])))] [(.t 0,.v (.tup [.c (.d (.s (bA s))),.c (.d (.s (aN s))),.c (.d (.b (fP s)))]))]:=by
 refine jg (ds:=[.s s,.s [32]]) hc fun S w args hg hsz ha=> ?_
 have ha0:=ha 0 (.s s) (args[0]'(by rw[hsz];simp)) rfl (Array.getElem?_eq_getElem (by rw[hsz];simp))
 have ha1:=ha 1 (.s [32]) (args[1]'(by rw[hsz];simp)) rfl (Array.getElem?_eq_getElem (by rw[hsz];simp))
 have e:args= #[.string ⟨s.toArray⟩,.string ⟨#[32]⟩]:=by
  apply Array.ext
  · rw[hsz];rfl
  · intro i h1 h2
    have:i=0∨i=1:=by have:i<2:=by simpa using h2
                     omega
    rcases this with rfl|rfl
    · exact ha0.s_inv
    · exact ha1.s_inv
 subst e
 refine nE (fun e w'=> ?_) (h w hg)
 rintro⟨rfl,n,rfl⟩
 rw[aPr]
 refine⟨_,fun _=>False,rfl,aI8 w n,fun σ ι=>⟨[.string ⟨(bA s).toArray⟩,.string ⟨(aN s).toArray⟩,.bool (fP s)],rfl,rfl,fun k x u hx hu=> ?_⟩,fun b hb=>hb.elim⟩
 match k,hx,hu with
 |0,hx,hu=>cases hx;cases hu;exact DR.s _
 |1,hx,hu=>cases hx;cases hu;exact DR.s _
 |2,hx,hu=>cases hx;cases hu;exact DR.b _
 |k+3,hx,hu=>simp at hx
theorem aI9 (w:World) (l:List (List UInt8)) (cs:Array Value) (e:TypeId) (cap:Nat) (hl:l.length≤cap) (hm:cap≤maxLen) (hcs: ∀(i:Nat) x,l[i]? =some x→cs[i]? =some (.string ⟨x.toArray⟩)):
 DR (w.alloc (.cells cs e)) (fun b=>b=w.heap.size) (.sl (bO l)) (.slice (some ⟨w.heap.size,0,none⟩) l.length cap):=by
 have hh: (w.alloc (.cells cs e)).heap[w.heap.size]? =some (.cells cs e (0,0)):=heap_alloc_new w _
 have:=DR.sl (w:=w.alloc (.cells cs e)) (S:=fun b=>b=w.heap.size) (bO l) (some ⟨w.heap.size,0,none⟩) cap 1 ⟨w.heap.size,0,none⟩ (fun i k=> .string ⟨(l.getD i []).toArray⟩)
  (by rw[aW];exact hl) hm (jb l) (fun _=>rfl) (fun i r k d hi hk=> ?_) (fun i r k d hi hk=> ?_)
 · rw[aW] at this;exact this
 · have hi2:i<l.length:=by have:=(aVe.1 hi).1;rwa [aW] at this
   have hr:r=[.s (l.getD i [])]:=by
    have h1:=gZ hi2
    rw[aVb,hi] at h1
    exact h1
   subst hr
   have hk0:k=0:=by have:=(aVe.1 hk).1;simp at this;exact this
   subst hk0
   refine⟨rfl,?_⟩
   rw[lF,cell_of_row _ _ _ cs e (0,0) hh]
   rw[show 0+(i*1+0)=i by omega]
   exact hcs i (l.getD i []) (by rw[aVb,aVd hi2];rfl)
 · have hi2:i<l.length:=by have:=(aVe.1 hi).1;rwa [aW] at this
   have hr:r=[.s (l.getD i [])]:=by
    have h1:=gZ hi2
    rw[aVb,hi] at h1
    exact h1
   subst hr
   have hk0:k=0:=by have:=(aVe.1 hk).1;simp at this;exact this
   subst hk0
   cases hk
   exact DR.s _
theorem mt {s:List UInt8} (h:fP s=true): (aN s).length<s.length:=by
 obtain⟨q1,q2,q3,q4⟩:=(fX s).1 h
 rw[← q3,aVk];omega
theorem sP (s:List UInt8):Lib.count s [32]=if fP s=true then 1+Lib.count (aN s) [32] else 0:=by
 obtain⟨h1,h2⟩:=fX s
 cases h:fP s with
 |true=>
  obtain⟨q1,q2,q3,q4⟩:=h1 h
  rw[if_pos rfl,Lib.count_hit (i:=(bA s).length) (by simp) (by rw[Lib.index_one,q1])]
  show 1+Lib.count (List.drop ((bA s).length+1) s) _=_
  rw[q3]
 |false=>
  rw[if_neg (by simp),Lib.count_miss (by rw[Lib.index_one,(h2 h).1])]
theorem tl: ∀(n:Nat) (s:List UInt8),Lib.count s [32]=n→(iI n s).length=n+1
 |0,s,h=>rfl
 |n+1,s,h=>by
  rw[sP] at h
  unfold iI
  by_cases hs:fP s=true
  · rw[if_pos hs] at h
    rw[if_pos hs,aU9,tl n (aN s) (by omega)]
  · rw[if_neg hs] at h;omega
theorem tn: ∀(n:Nat) (s:List UInt8),(iI n s).length≤n+1∧1≤(iI n s).length
 |0,s=>⟨aVf _,aVf _⟩
 |n+1,s=>by
  unfold iI
  split
  · have:=tn n (aN s)
    rw[aU9];omega
  · simp
theorem aD5: ∀(n m:Nat) (s:List UInt8),s.length≤n→s.length≤m→iI n s=iI m s
 |0,0,s,_,_=>rfl
 |0,m+1,s,h,_=>by
  rw[List.eq_nil_of_length_eq_zero (Nat.le_zero.1 h)];rfl
 |n+1,0,s,_,h=>by
  rw[List.eq_nil_of_length_eq_zero (Nat.le_zero.1 h)];rfl
 |n+1,m+1,s,h1,h2=>by
  unfold iI
  by_cases hs:fP s=true
  · have:=mt hs
    rw[if_pos hs,if_pos hs,aD5 n m (aN s) (by omega) (by omega)]
  · rw[if_neg hs,if_neg hs]
theorem aNh (n:Nat) (s:List UInt8):iI (min (n+1) (s.length+1) - 1) s=iI n s:=by
 by_cases h:n≤s.length
 · rw[show min (n+1) (s.length+1) - 1=n by omega]
 · exact aD5 _ _ s (by omega) (by omega)
def cT (s:List UInt8):List (List UInt8):=iI (Lib.count s [32]) s
theorem aRd {args:Array Value} {w:World} {S:Nat→Prop} {s:List UInt8} {rest:List D} {vs:List Value} (hsz:args.size=vs.length) (h: ∀(i:Nat) d v,rest[i]? =some d→args[i]? =some v→DR w S d v) (hl:rest.length=vs.length) (hd: ∀(i:Nat) d v,rest[i]? =some d→DR w S d v→vs[i]? =some v):args=vs.toArray:=by
 apply Array.ext
 · rw[hsz];simp
 · intro i h1 h2
   have hi:i<rest.length:=by rw[hl,← hsz];exact h1
   have h3:=hd i rest[i] args[i] (aVd hi) (h i rest[i] args[i] (aVd hi) (Array.getElem?_eq_getElem h1))
   rw[List.getElem_toArray]
   rw[aVd (by simpa using h2)] at h3
   exact(Option.some.inj h3).symm
theorem pd (n:Nat) (s:List UInt8): (Lib.splitB ⟨#[32]⟩ 0 n ⟨s.toArray⟩).map (·.data.toList)=iI n s:=by
 rw[Lib.splitB_data];exact aAd n s
theorem aAe {n:Nat} {s:List UInt8} {i:Nat} {x:List UInt8} (h: (iI n s)[i]? =some x): ((Lib.splitB ⟨#[32]⟩ 0 n ⟨s.toArray⟩).map Value.string)[i]? =some (.string ⟨x.toArray⟩):=by
 rw[← pd,List.getElem?_map] at h
 rw[List.getElem?_map]
 cases hq: (Lib.splitB ⟨#[32]⟩ 0 n ⟨s.toArray⟩)[i]? with
 |none=>rw[hq] at h;cases h
 |some b=>rw[hq] at h;cases h;rfl
theorem aHa (n:Nat) (s:List UInt8): (Lib.splitB ⟨#[32]⟩ 0 n ⟨s.toArray⟩).length=(iI n s).length:=by rw[← pd,List.length_map]
theorem aHb {P:Program} {f:FuncId} {e:TypeId} (hc:fq P f) (s:List UInt8) (hs:s.length≤1000000)
 (h: ∀(w:World),aJq P w→Calls P f #[.string ⟨s.toArray⟩,.string ⟨#[32]⟩] w fun ex w'=>ex= .returned (.slice (some ⟨w.heap.size,0,none⟩) (Lib.count s [32]+1) (Lib.count s [32]+1))∧w'=w.alloc (.cells ((Lib.splitB ⟨#[32]⟩ 0 (Lib.count s [32]) ⟨s.toArray⟩).map Value.string).toArray e)):
 Spec P f 2 [(.t 0,.v (Dv (.s s))),(.t 1,.v (Dv (.s [32])))] [(.t 0,.v (Dv (.sl (bO (cT s)))))]:=by
 refine jg (ds:=[.s s,.s [32]]) hc fun S w args hg hsz ha=> ?_
 obtain rfl:args= #[.string ⟨s.toArray⟩,.string ⟨#[32]⟩]:=by
  refine aRd (s:=s) (vs:=[.string ⟨s.toArray⟩,.string ⟨#[32]⟩]) hsz ha rfl fun i d v hi hd=> ?_
  match i,hi with
  |0,hi=>cases hi;rw[hd.s_inv];rfl
  |1,hi=>cases hi;rw[hd.s_inv];rfl
  |k+2,hi=>simp at hi
 refine nE (fun ex w'=> ?_) (h w hg)
 rintro⟨rfl,rfl⟩
 have hl: (cT s).length=Lib.count s [32]+1:=tl _ s rfl
 have hcl:=Lib.count_le s [32]
 refine⟨_,fun b=>b=w.heap.size,rfl,by rw[alloc_eq_grow];exact aBt w _,fun σ ι=> ?_,fun b hb=> ?_⟩
 · have:=aI9 w (cT s) ((Lib.splitB ⟨#[32]⟩ 0 (Lib.count s [32]) ⟨s.toArray⟩).map Value.string).toArray e (Lib.count s [32]+1) (by omega) (by unfold maxLen;omega) fun i x hx=>by
    rw[List.getElem?_toArray];exact aAe hx
   rw[hl] at this
   exact this
 · subst hb
   refine⟨aVf _,?_⟩
   rw[alloc_eq_grow];simp[grow]
theorem aD6 {P:Program} {f:FuncId} {e:TypeId} (hc:fq P f) (n:Nat) (s:List UInt8) (hs:s.length≤1000000) (hn:n≤1000)
 (h: ∀(w:World),aJq P w→Calls P f #[.string ⟨s.toArray⟩,.string ⟨#[32]⟩,.int .i64 ((n+1:Nat):Int)] w fun ex w'=>ex= .returned (.slice (some ⟨w.heap.size,0,none⟩) (Lib.splitB ⟨#[32]⟩ 0 (min (n+1) (s.length+1) - 1) ⟨s.toArray⟩).length (min (n+1) (s.length+1)))∧w'=w.alloc (.cells (Lib.cellsOf (Lib.splitB ⟨#[32]⟩ 0 (min (n+1) (s.length+1) - 1) ⟨s.toArray⟩) (min (n+1) (s.length+1))) e)):
 Spec P f 3 [(.t 0,.v (Dv (.s s))),(.t 1,.v (Dv (.s [32]))),(.t 2,.v (I ((n+1:Nat):Int)))] [(.t 0,.v (Dv (.sl (bO (iI n s)))))]:=by
 refine jg (ds:=[.s s,.s [32],.i ((n+1:Nat):Int)]) hc fun S w args hg hsz ha=> ?_
 obtain rfl:args= #[.string ⟨s.toArray⟩,.string ⟨#[32]⟩,.int .i64 ((n+1:Nat):Int)]:=by
  refine aRd (s:=s) (vs:=[.string ⟨s.toArray⟩,.string ⟨#[32]⟩,.int .i64 ((n+1:Nat):Int)]) hsz ha rfl fun i d v hi hd=> ?_
  match i,hi with
  |0,hi=>cases hi;rw[hd.s_inv];rfl
  |1,hi=>cases hi;rw[hd.s_inv];rfl
  |2,hi=>cases hi;rw[hd.i_inv];rfl
  |k+3,hi=>simp at hi
 refine nE (fun ex w'=> ?_) (h w hg)
 rintro⟨rfl,rfl⟩
 have hcl:=tn (min (n+1) (s.length+1) - 1) s
 refine⟨_,fun b=>b=w.heap.size,rfl,by rw[alloc_eq_grow];exact aBt w _,fun σ ι=> ?_,fun b hb=> ?_⟩
 · have:=aI9 w (iI (min (n+1) (s.length+1) - 1) s) (Lib.cellsOf (Lib.splitB ⟨#[32]⟩ 0 (min (n+1) (s.length+1) - 1) ⟨s.toArray⟩) (min (n+1) (s.length+1))) e (min (n+1) (s.length+1)) (by omega) (by unfold maxLen;omega) fun i x hx=>by
    have h1:=aAe hx
    unfold Lib.cellsOf
    rw[List.getElem?_toArray,List.getElem?_append_left (aVe.1 h1).1]
    exact h1
   rw[← aHa,aNh] at this
   exact this
 · subst hb
   refine⟨aVf _,?_⟩
   rw[alloc_eq_grow];simp[grow]
set_option linter.unusedVariables false
set_option linter.unusedSimpArgs false
def kV (n:aR):List UInt8:=kC n.frm.toNat++[32]++kC n.num.toNat++[32]++kC n.to.toNat++[32]++kC n.til.toNat++[32]++n.text
def gD (n:aR):List UInt8:=if eD n then kV n else []
def mI:Nat→List UInt8→List UInt8
 |0,s=>s
 |n+1,s=>aN (mI n s)
def dM (s:List UInt8) (i:Nat):Int:=gK (bA (mI i s))
def eX (n:Nat) (s:List UInt8):List Int:=(aVh n).map (dM s)
theorem bI (n:Nat) (s:List UInt8): (eX n s).length=n:=by simp[eX]
theorem aHc (n:Nat) (s:List UInt8):eX (n+1) s=eX n s++[dM s n]:=by simp[eX,List.range_succ]
theorem uG (s:List UInt8): (aN s).length≤s.length:=by
 cases h:fP s with
 |true=>exact Nat.le_of_lt (mt h)
 |false=>rw[((fX s).2 h).2.2];exact aVa _
theorem tp (n:Nat) (s:List UInt8): (mI n s).length≤s.length:=by
 induction n with
 |zero=>exact aVf _
 |succ n ih=>exact Nat.le_trans (uG _) ih
theorem dj (s:List UInt8): (bA s).length≤s.length:=by
 cases h:fP s with
 |true=>exact Nat.le_of_lt ((fX s).1 h).2.2.2
 |false=>rw[((fX s).2 h).2.1];exact aVf _
def hO (l:List (List UInt8)):Bool:=l.all fun w=>(kN w).isSome
def kL (l:List (List UInt8)):List Int:=if hO l then l.map lC else []
def bj (t:List UInt8):aR:=⟨dM t 0,dM t 1,dM t 2,dM t 3,mI 4 t⟩
def cC (t:List UInt8):aR×Bool:=if t=[]∨gD (bj t)≠t then(.zero,false) else(bj t,true)
def oM (t:List UInt8):aR:=⟨lC ((iI 4 t).getD 0 []),lC ((iI 4 t).getD 1 []),lC ((iI 4 t).getD 2 []),lC ((iI 4 t).getD 3 []),(iI 4 t).getD 4 []⟩
def pf (t:List UInt8):aR×Bool:=if(iI 4 t).length≠5∨hO ((iI 4 t).take 4)=false∨eD (oM t)=false∨gD (oM t)≠t then(.zero,false) else(oM t,true)
theorem lL {w r:List UInt8} (h: ∀b∈w,b≠32):bA (w++32::r)=w∧aN (w++32::r)=r∧fP (w++32::r)=true:=by
 induction w with
 |nil=>exact⟨by simp[bA],by simp[aN],by simp[fP]⟩
 |cons b w ih=>
  have hb:b≠32:=h b (List.mem_cons_self ..)
  obtain⟨h1,h2,h3⟩:=ih fun x hx=>h x (List.mem_cons_of_mem _ hx)
  refine⟨?_,?_,?_⟩
  · rw[List.cons_append]
    have:bA (b::(w++32::r))=b::bA (w++32::r):=by simp[bA,hb]
    rw[this,h1]
  · rw[List.cons_append]
    have:aN (b::(w++32::r))=aN (w++32::r):=by simp[aN,hb]
    rw[this,h2]
  · simp[fP]
theorem uW (n:Nat): ∀b∈kC n,b≠32:=by
 intro b hb e
 have:=gc n b hb
 subst e
 exact absurd this (by decide)
theorem bZ {k:Nat}: ∀{n:Nat},n<10 ^ (k+1)→(kC n).length≤k+1:=by
 induction k with
 |zero=>
  intro n h
  rw[lJ (by simpa using h)];simp
 |succ k ih=>
  intro n h
  by_cases hs:n<10
  · rw[lJ hs];simp
  · rw[sB (by omega),aU5]
    have:=ih (n:=n / 10) (by rw[Nat.pow_succ] at h;omega)
    simp;omega
theorem pW {n:Nat} (h:n<100000):kN (kC n)=some n:=by
 have hl: (kC n).length≤5:=bZ (k:=4) (by simpa using h)
 have h1:1≤(kC n).length:=List.length_pos_iff.2 (aG8 n)
 have hd:bg (kC n)=true:=aVi.2 (gc n)
 unfold kN
 rw[if_pos ⟨⟨h1,hl⟩,(vR h1 hd).1 (by rw[je]),hd⟩,je]
theorem uX {n:Nat} (h:n<10000):gK (kC n)=n:=by
 have hl: (kC n).length≤4:=bZ (k:=3) (by simpa using h)
 have h1:1≤(kC n).length:=List.length_pos_iff.2 (aG8 n)
 unfold gK
 rw[if_pos ⟨⟨h1,hl⟩,aVi.2 (gc n),by rw[je]⟩,je]
theorem lW {n:aR} (h:eD n=true): (0≤n.frm∧n.frm≤3)∧(0≤n.to∧n.to≤3)∧(1≤n.num∧n.num≤99)∧(1≤n.til∧n.til≤999)∧(1≤n.text.length∧n.text.length≤24):=by
 simp only[eD,eC,iB,wO,aU7,decide_eq_true_eq] at h
 omega
theorem gd (n:aR):kV n=kC n.frm.toNat++32::(kC n.num.toNat++32::(kC n.to.toNat++32::(kC n.til.toNat++32::n.text))):=by simp[kV]
theorem aAf {n:aR} (h:eD n=true):bj (kV n)=n∧(iI 4 (kV n)).length=5∧hO ((iI 4 (kV n)).take 4)=true∧oM (kV n)=n:=by
 obtain⟨p1,p2,p3,p4,p5⟩:=lW h
 obtain⟨a1,a2,a3⟩:=lL (r:=kC n.num.toNat++32::(kC n.to.toNat++32::(kC n.til.toNat++32::n.text))) (uW n.frm.toNat)
 obtain⟨b1,b2,b3⟩:=lL (r:=kC n.to.toNat++32::(kC n.til.toNat++32::n.text)) (uW n.num.toNat)
 obtain⟨c1,c2,c3⟩:=lL (r:=kC n.til.toNat++32::n.text) (uW n.to.toNat)
 obtain⟨d1,d2,d3⟩:=lL (r:=n.text) (uW n.til.toNat)
 have hc:iI 4 (kV n)=[kC n.frm.toNat,kC n.num.toNat,kC n.to.toNat,kC n.til.toNat,n.text]:=by
  rw[gd]
  simp only[iI,a1,a2,a3,b1,b2,b3,c1,c2,c3,d1,d2,d3,if_true]
 have e: ∀{x:Int},0≤x→((x.toNat:Nat):Int)=x:=fun h=>by omega
 have v1:gK (kC n.frm.toNat)=n.frm:=by rw[uX (by omega),e (by omega)]
 have v2:gK (kC n.num.toNat)=n.num:=by rw[uX (by omega),e (by omega)]
 have v3:gK (kC n.to.toNat)=n.to:=by rw[uX (by omega),e (by omega)]
 have v4:gK (kC n.til.toNat)=n.til:=by rw[uX (by omega),e (by omega)]
 have w1:kN (kC n.frm.toNat)=some n.frm.toNat:=pW (by omega)
 have w2:kN (kC n.num.toNat)=some n.num.toNat:=pW (by omega)
 have w3:kN (kC n.to.toNat)=some n.to.toNat:=pW (by omega)
 have w4:kN (kC n.til.toNat)=some n.til.toNat:=pW (by omega)
 have u1:lC (kC n.frm.toNat)=n.frm:=by rw[lC,w1];exact e (by omega)
 have u2:lC (kC n.num.toNat)=n.num:=by rw[lC,w2];exact e (by omega)
 have u3:lC (kC n.to.toNat)=n.to:=by rw[lC,w3];exact e (by omega)
 have u4:lC (kC n.til.toNat)=n.til:=by rw[lC,w4];exact e (by omega)
 refine⟨?_,by rw[hc];rfl,?_,?_⟩
 · rw[gd]
   simp only[bj,dM,mI,a1,a2,b1,b2,c1,c2,d1,d2,v1,v2,v3,v4]
 · rw[hc]
   simp[hO,w1,w2,w3,w4]
 · simp only[oM,hc,List.getD_cons_zero,List.getD_cons_succ,u1,u2,u3,u4]
theorem aPs (n:aR):kV n≠[]:=by
 rw[gd];simp
theorem aAg (t:List UInt8) (x:aR) (h:eD x=true) (e:kV x=t):cC t=(x,true):=by
 subst e
 unfold cC
 rw[(aAf h).1,if_neg]
 rintro(h1|h1)
 · exact aPs x h1
 · exact h1 (if_pos h)
theorem aKn (t:List UInt8) (x:aR) (h:eD x=true) (e:kV x=t):pf t=(x,true):=by
 subst e
 obtain⟨h1,h2,h3,h4⟩:=aAf h
 unfold pf
 rw[h4,if_neg]
 rintro(h5|h5|h5|h5)
 · exact h5 h2
 · rw[h3] at h5;cases h5
 · rw[h] at h5;cases h5
 · exact h5 (if_pos h)
theorem aPt (t:List UInt8): (∃x,eD x=true∧kV x=t∧cC t=(x,true)∧pf t=(x,true))∨(cC t=(.zero,false)∧pf t=(.zero,false)):=by
 by_cases h: ∃x,eD x=true∧kV x=t
 · obtain⟨x,h1,h2⟩:=h
   exact .inl ⟨x,h1,h2,aAg t x h1 h2,aKn t x h1 h2⟩
 · refine .inr ⟨?_,?_⟩
   · unfold cC
     rw[if_pos]
     by_cases h1:t=[]
     · exact .inl h1
     · refine .inr fun h2=> ?_
       unfold gD at h2
       split at h2
       · rename_i h3;exact h ⟨_,h3,h2⟩
       · exact h1 h2.symm
   · unfold pf
     rw[if_pos]
     by_cases h1:eD (oM t)=true
     · refine .inr (.inr (.inr fun h2=> ?_))
       rw[gD,if_pos h1] at h2
       exact h ⟨_,h1,h2⟩
     · exact .inr (.inr (.inl (by simpa using h1)))
theorem aD7 (t:List UInt8):pf t=cC t:=by
 rcases aPt t with⟨x,_,_,h1,h2⟩|⟨h1,h2⟩<;>rw[h1,h2]
set_option linter.unusedVariables false
set_option linter.unusedSimpArgs false
theorem aNi {s:List UInt8} {i:Nat} (hk: ∀j,j<i→s.getD j 0≠32) (hi:i<s.length) (h:s.getD i 0=32):bA s=s.take i∧aN s=s.drop (i+1)∧fP s=true:=by
 have e:s=s.take i++32::s.drop (i+1):=by
  rw[← h,aVb,aVd hi]
  show s=List.take i s++s[i]::List.drop (i+1) s
  rw[← List.drop_eq_getElem_cons hi,List.take_append_drop]
 have hw: ∀b∈s.take i,b≠32:=by
  intro b hb
  obtain⟨j,hj⟩:=aVp.1 hb
  have hlt:j<i:=by
   have:=(aVe.1 hj).1
   rw[aVc] at this;omega
  rw[List.getElem?_take_of_lt hlt] at hj
  have:=hk j hlt
  rw[aVb,hj] at this
  exact this
 obtain⟨h1,h2,h3⟩:=lL (r:=s.drop (i+1)) hw
 rw[← e] at h1 h2 h3
 exact⟨h1,h2,h3⟩
theorem aKo {s:List UInt8} (hk: ∀j,j<s.length→s.getD j 0≠32):bA s=s∧aN s=[]∧fP s=false:=by
 have hn:fP s=false:=by
  unfold fP
  rw[List.any_eq_false]
  intro b hb
  obtain⟨j,hj⟩:=aVp.1 hb
  have:=hk j (aVe.1 hj).1
  rw[aVb,hj] at this
  simpa using this
 obtain⟨q1,q2,q3⟩:=(fX s).2 hn
 exact⟨q2,q3,hn⟩
theorem aKp {l:List (List UInt8)} {i:Nat} (hi:i<l.length) (h: (kN (l.getD i [])).isSome=false):hO l=false:=by
 unfold hO
 rw[List.all_eq_false]
 refine⟨l.getD i [],?_,by rw[h];decide⟩
 rw[aVb,aVd hi]
 exact List.getElem_mem _
theorem aHd {l:List (List UInt8)} (h: ∀i,i<l.length→(kN (l.getD i [])).isSome=true):hO l=true:=by
 unfold hO
 rw[aVi]
 intro x hx
 obtain⟨j,hj⟩:=aVp.1 hx
 have:=h j (aVe.1 hj).1
 rw[aVb,hj] at this
 exact this
theorem xn {l:List (List UInt8)} {i:Nat} (h:i<l.length): (l.take (i+1)).map lC=(l.take i).map lC++[lC (l.getD i [])]:=by
 rw[List.take_add_one,aVd h,aVb,aVd h,List.map_append]
 rfl
def jh (n:Int):List UInt8:=if n<0 then 45::kC (-n).toNat else kC n.toNat
theorem cW {α:Type} {l:List α} {i:Nat} {z:α} (h:i<l.length):l.getD i z∈l:=by
 rw[aVb,aVd h]
 exact List.getElem_mem _
set_option linter.unusedVariables false
set_option linter.unusedSimpArgs false
theorem ji: ∀(n:Nat) (s:List UInt8),∀x∈iI n s,x.length≤s.length
 |0,s,x,h=>by
  rw[aVn.1 h];exact aVf _
 |n+1,s,x,h=>by
  unfold iI at h
  by_cases hs:fP s=true
  · rw[if_pos hs] at h
    rcases aVm.1 h with rfl|h
    · exact dj s
    · exact Nat.le_trans (ji n _ x h) (uG s)
  · rw[if_neg hs] at h
    rw[aVn.1 h];exact aVf _
theorem dk {α:Type} {l:List α} {n i:Nat} {z:α} (h:i<n): (l.take n).getD i z=l.getD i z:=by
 rw[aVb,List.getElem?_take_of_lt h,← aVb]
theorem hP {l:List (List UInt8)} (h:hO l=true): (kL l).length=l.length:=by rw[kL,if_pos h,List.length_map]
theorem aD8 {l:List (List UInt8)} (h:hO l=true) {i:Nat} (hi:i<l.length): (kL l).getD i 0=lC (l.getD i []):=by
 rw[kL,if_pos h,aVb,List.getElem?_map,aVd hi,aVb,aVd hi]
 rfl
theorem iD {l:List Int} {i:Nat} (h:i<l.length): (cY l).getD (i:Int).toNat []=[.i (l.getD i 0)]:=by
 rw[aU4,dL h]
theorem aBu (l:List (List UInt8)) (n:Nat): (bO l).take n=bO (l.take n):=by simp[bO,List.map_take]
theorem aD9 {n:Nat} {s:List UInt8} {i:Nat} (h:i<n): (eX n s).getD i 0=dM s i:=by
 unfold eX
 rw[aVb,List.getElem?_map,List.getElem?_range h]
 rfl
theorem tq {t:List UInt8} (h: (iI 4 t).length≠5∨hO ((iI 4 t).take 4)=false∨eD (oM t)=false∨gD (oM t)≠t):cC t=(.zero,false):=by
 rw[← aD7,pf,if_pos h]
theorem aKq {t:List UInt8} (h1: (iI 4 t).length=5) (h2:hO ((iI 4 t).take 4)=true) (h3:eD (oM t)=true) (h4:gD (oM t)=t):cC t=(oM t,true):=by
 rw[← aD7,pf,if_neg]
 rintro(h|h|h|h)
 · exact h h1
 · rw[h2] at h;cases h
 · rw[h3] at h;cases h
 · exact h h4
theorem aBv {l:List (List UInt8)} (h:hO (l.take 4)=true) (h5:l.length=5) {i:Nat} (hi:i<4):db (((cY (kL (l.take 4))).getD i []).getD 0 (.i 0))=lC (l.getD i []):=by
 have hl:i< (l.take 4).length:=by rw[aVc];omega
 rw[dL (by rw[hP h];exact hl)]
 show(kL (l.take 4)).getD i 0=_
 rw[aD8 h hl,dk hi]
theorem qr {s:List UInt8} {i:Nat} (hi:i<4):db (((cY (eX 4 s)).getD i []).getD 0 (.i 0))=dM s i:=by
 rw[dL (by rw[bI];exact hi)]
 exact aD9 hi
set_option linter.unusedVariables false
set_option linter.unusedSimpArgs false
def aL.zero:aL:=⟨0,0,0,[],[],[]⟩
def bB (id:Int):aL:=if eC id then⟨id,0,1,[],[],[]⟩ else .zero
def eY (l:List aR) (n:aR):List aR:=l.takeWhile (fun x=>bY x.frm x.num n.frm n.num)++n::l.dropWhile (fun x=>bY x.frm x.num n.frm n.num)
def dQ (l:List bQ) (n:bQ):List bQ:=l.takeWhile (fun x=>bY x.frm x.num n.frm n.num)++n::l.dropWhile (fun x=>bY x.frm x.num n.frm n.num)
def jQ (l:List aR) (n:aR):List aR:=l.takeWhile (fun x=> !bY n.frm n.num x.frm x.num)++n::l.dropWhile (fun x=> !bY n.frm n.num x.frm x.num)
def nY (l:List bQ) (n:bQ):List bQ:=l.takeWhile (fun x=> !bY n.frm n.num x.frm x.num)++n::l.dropWhile (fun x=> !bY n.frm n.num x.frm x.num)
def dN {α:Type} (l:List α) (i:Nat):List α:=l.take i++l.drop (i+1)
def iV (k:aL) (t:Int):aL:={k with time:=t,held:=k.held.filter (fun n=>decide (t<n.til)),marks:=k.marks.filter (fun n=>decide (t<n.til))}
def nH (k:aL) (n:aR):Bool:=eD n&&decide (k.time<n.til)&&decide (aX k.held n.frm n.num<0)&&decide (aX k.inbox n.frm n.num<0)&&decide (fW k.marks n.frm n.num<0)
def dW (k:aL) (n:aR):aL×Bool:=
 if nH k n&&decide ((k.held.length:Int)+k.marks.length+1≤12) then
  (if n.to==k.id then{k with inbox:=eY k.inbox n,marks:=dQ k.marks ⟨n.frm,n.num,n.til⟩} else{k with held:=eY k.held n},true)
 else(k,false)
def hG:List UInt8:=[116,105,109,101]
def iO:List UInt8:=[110,101,120,116]
def fS:List UInt8:=[111,119,110]
def dE:List UInt8:=[116,97,107,101]
def gU:List UInt8:=[104,101,108,100]
def fT:List UInt8:=[105,110,98,111,120]
def iZ:List UInt8:=[108,101,116]
def lD:List UInt8:=[101,97,116]
def gV:List UInt8:=[109,97,114,107]
def kM (k:aL) (w:List UInt8) (n:Int):aL×Bool:=
 if w==hG&&decide (k.time<n) then(iV k n,true)
 else if w==iO&&decide (k.next<n) then({k with next:=n},true)
 else(k,false)
def dX (k:aL) (w:List UInt8) (n:aR):aL×Bool:=
 if w==fS&&n.frm==k.id&&n.num==k.next then dW {k with next:=wrap64 (k.next+1)} n
 else if w==dE&&n.frm != k.id then dW k n
 else if decide (0≤aX k.held n.frm n.num)||decide (0≤aX k.inbox n.frm n.num) then(k,false)
 else if w==gU then({k with held:=eY k.held n},true)
 else if w==fT then({k with inbox:=eY k.inbox n},true)
 else(k,false)
def fY (k:aL) (w:List UInt8) (m:bQ):aL×Bool:=
 if w==iZ&&decide (0≤aX k.held m.frm m.num)&&(k.held.getD (aX k.held m.frm m.num).toNat .zero).til==m.til then
  ({k with held:=dN k.held (aX k.held m.frm m.num).toNat,marks:=dQ k.marks m},true)
 else if w==lD&&decide (0≤aX k.inbox m.frm m.num)&&(k.inbox.getD (aX k.inbox m.frm m.num).toNat .zero).til==m.til then
  ({k with inbox:=dN k.inbox (aX k.inbox m.frm m.num).toNat},true)
 else if w==gV&&decide (fW k.marks m.frm m.num<0) then({k with marks:=dQ k.marks m},true)
 else(k,false)
def three (l:List (List UInt8)):bQ:=⟨lC (l.getD 0 []),lC (l.getD 1 []),lC (l.getD 2 [])⟩
def eA (k:aL) (rec:List UInt8):aL×Bool:=
 if fP rec then
  if bA rec==hG||bA rec==iO then(if(kN (aN rec)).isSome then kM k (bA rec) (lC (aN rec)) else(k,false))
  else if bA rec==fS||bA rec==dE||bA rec==gU||bA rec==fT then(if(cC (aN rec)).2 then dX k (bA rec) (cC (aN rec)).1 else(k,false))
  else if bA rec==iZ||bA rec==lD||bA rec==gV then(if hO (cT (aN rec))&&(cT (aN rec)).length==3 then fY k (bA rec) (three (cT (aN rec))) else(k,false))
  else(k,false)
 else(k,false)
def kD (k:aL) (x:aL×Bool):aL×Bool:=if x.2&&cO x.1 then(x.1,true) else(k,false)
def aO (k:aL) (rec:List UInt8):aL×Bool:=if cO k then kD k (eA k rec) else(.zero,false)
def gf (k:aL) (n:aR):Bool:=eD n&&decide (k.time<n.til)&&decide (aX k.held n.frm n.num<0)&&decide (fW k.marks n.frm n.num<0)&&decide (aX k.inbox n.frm n.num<0)
def mJ (k:aL) (n:aR):aL×Bool:=
 if gf k n then
  if n.to != k.id then({k with held:=jQ k.held n},decide (((jQ k.held n).length:Int)+k.marks.length≤12))
  else({k with inbox:=jQ k.inbox n,marks:=nY k.marks ⟨n.frm,n.num,n.til⟩},decide ((k.held.length:Int)+(nY k.marks ⟨n.frm,n.num,n.til⟩).length≤12))
 else(k,false)
def jj (k:aL) (f m:Int):aL×Bool:=
 if 0≤aX k.held f m then({k with held:=dN k.held (aX k.held f m).toNat,marks:=nY k.marks ⟨f,m,(k.held.getD (aX k.held f m).toNat .zero).til⟩},true) else(k,false)
def jk (k:aL) (f m:Int):aL×Bool:=
 if 0≤aX k.inbox f m then({k with inbox:=dN k.inbox (aX k.inbox f m).toNat},true) else(k,false)
def gW (r:List UInt8):bQ:=⟨dM r 0,dM r 1,dM r 2⟩
def ek (m:bQ):List UInt8:=jh m.frm++[32]++jh m.num++[32]++jh m.til
def fZ (k:aL) (rec:List UInt8):aL×Bool:=
 if bA rec==hG then(if gK (aN rec)≤k.time then(k,false) else(iV k (gK (aN rec)),true))
 else if bA rec==fS then
  (if !(cC (aN rec)).2||(cC (aN rec)).1.frm != k.id||(cC (aN rec)).1.num != k.next then(k,false) else mJ {k with next:=wrap64 (k.next+1)} (cC (aN rec)).1)
 else if bA rec==dE then(if !(cC (aN rec)).2||(cC (aN rec)).1.frm==k.id then(k,false) else mJ k (cC (aN rec)).1)
 else if bA rec==iO then(if gK (aN rec)≤k.next then(k,false) else({k with next:=gK (aN rec)},true))
 else if bA rec==gU||bA rec==fT then
  (if !(cC (aN rec)).2||decide (aX k.held (cC (aN rec)).1.frm (cC (aN rec)).1.num≥0)||decide (aX k.inbox (cC (aN rec)).1.frm (cC (aN rec)).1.num≥0) then(k,false)
   else if bA rec==gU then({k with held:=jQ k.held (cC (aN rec)).1},true) else({k with inbox:=jQ k.inbox (cC (aN rec)).1},true))
 else if !(mI 3 (aN rec)==[])|| !(aN rec==ek (gW (aN rec))) then(k,false)
 else if bA rec==iZ then
  (if decide (aX k.held (gW (aN rec)).frm (gW (aN rec)).num<0)||(k.held.getD (aX k.held (gW (aN rec)).frm (gW (aN rec)).num).toNat .zero).til != (gW (aN rec)).til then(k,false)
   else jj k (gW (aN rec)).frm (gW (aN rec)).num)
 else if bA rec==lD then
  (if decide (aX k.inbox (gW (aN rec)).frm (gW (aN rec)).num<0)||(k.inbox.getD (aX k.inbox (gW (aN rec)).frm (gW (aN rec)).num).toNat .zero).til != (gW (aN rec)).til then(k,false)
   else jk k (gW (aN rec)).frm (gW (aN rec)).num)
 else if bA rec==gV then(if fW k.marks (gW (aN rec)).frm (gW (aN rec)).num≥0 then(k,false) else({k with marks:=nY k.marks (gW (aN rec))},true))
 else(k,false)
def hD (k:aL) (rec:List UInt8):aL×Bool:=if cO k then kD k (fZ k rec) else(.zero,false)
def oH:aL→List (List UInt8)→aL×Bool
 |k,[]=>(k,true)
 |k,r::rs=>if(aO k r).2 then oH (aO k r).1 rs else(.zero,false)
def iE (id:Int) (recs:List (List UInt8)):aL×Bool:=if eC id then oH (bB id) recs else(.zero,false)
set_option linter.unusedVariables false
set_option linter.unusedSimpArgs false
section
variable {α:Type} {l:List α} {z:α} {i:Nat}
theorem fQ (h:i<l.length):l.take (i+1)=l.take i++[l.getD i z]:=by
 rw[List.take_add_one,aVd h,aVb,aVd h]
 rfl
theorem aBw {p:α→Bool} (hi:i≤l.length) (hk: ∀j,j<i→p (l.getD j z)=true) (h:i=l.length∨p (l.getD i z)=false):l.takeWhile p=l.take i∧l.dropWhile p=l.drop i:=by
 induction l generalizing i with
 |nil=>simp at hi;subst hi;simp
 |cons x l ih=>
  cases i with
  |zero=>
   have hx:p x=false:=by
    rcases h with h|h
    · simp at h
    · simpa using h
   simp[List.takeWhile,List.dropWhile,hx]
  |succ i=>
   have hx:p x=true:=by simpa using hk 0 (by omega)
   obtain⟨h1,h2⟩:=ih (i:=i) (by simpa using hi) (fun j hj=>by simpa using hk (j+1) (by omega)) (by
    rcases h with h|h
    · left;simpa using h
    · right;simpa using h)
   simp[List.takeWhile,List.dropWhile,hx,h1,h2]
def pX (p:α→Bool) (n:α) (l:List α):List α:=l.takeWhile p++n::l.dropWhile p
theorem aJa {p:α→Bool} {n:α} (hi:i≤l.length) (hk: ∀j,j<i→p (l.getD j z)=true) (h:i=l.length∨p (l.getD i z)=false):pX p n l=l.take i++n::l.drop i:=by
 obtain⟨h1,h2⟩:=aBw hi hk h
 rw[pX,h1,h2]
theorem eQ {p:α→Bool} {n:α}: (pX p n l).length=l.length+1:=by
 have h:=congrArg List.length (List.takeWhile_append_dropWhile (p:=p) (l:=l))
 rw[aU5] at h
 rw[pX,aU5,aU9];omega
theorem xJ {p:α→Bool} {n x:α}:x∈pX p n l↔x=n∨x∈l:=by
 have h:x∈l↔x∈l.takeWhile p∨x∈l.dropWhile p:=by
  conv=>lhs;rw[← List.takeWhile_append_dropWhile (p:=p) (l:=l)]
  exact List.mem_append
 rw[pX,List.mem_append,aVm,h]
 constructor
 · rintro(h|h|h)
   · exact .inr (.inl h)
   · exact .inl h
   · exact .inr (.inr h)
 · rintro(h|h|h)
   · exact .inr (.inl h)
   · exact .inl h
   · exact .inr (.inr h)
def midW (q:α→Bool) (n:α) (l:List α):List α:=if l.any q then pX (fun x=> !q x) n l else l
theorem aKr {q:α→Bool} {n x:α} (h:l.any q=true):pX (fun x=> !q x) n (l++[x])=pX (fun x=> !q x) n l++[x]:=by
 induction l with
 |nil=>simp at h
 |cons y l ih=>
  by_cases hy:q y=true
  · simp[pX,hy]
  · have hy':q y=false:=by simpa using hy
    have h2:l.any q=true:=by simpa[hy'] using h
    have:=ih h2
    simp only[pX] at this ⊢
    simp[hy',this]
theorem aKs {q:α→Bool} {n:α} (h:l.any q=false):pX (fun x=> !q x) n l=l++[n]:=by
 induction l with
 |nil=>simp[pX]
 |cons y l ih=>
  have hy:q y=false:=by
   cases hq:q y with
   |false=>rfl
   |true=>simp[hq] at h
  have h2:l.any q=false:=by simpa[hy] using h
  have:=ih h2
  simp only[pX] at this ⊢
  simp[hy,this]
theorem aEa {q:α→Bool} {n x:α} (h:l.any q=false) (hx:q x=true):midW q n (l++[x])=midW q n l++[n]++[x]:=by
 have e1: (l++[x]).any q=true:=by simp[hx]
 have e2:midW q n l=l:=by rw[midW,h];rfl
 rw[e2,midW,if_pos e1]
 induction l with
 |nil=>simp[pX,hx]
 |cons y l ih=>
  have hy:q y=false:=by
   cases hq:q y with
   |false=>rfl
   |true=>simp[hq] at h
  have h2:l.any q=false:=by simpa[hy] using h
  have:=ih h2 (by simp[hx]) (by rw[midW,h2];rfl)
  simp only[pX] at this ⊢
  simp[hy] at this ⊢
  exact this
theorem aJb {q:α→Bool} {n x:α} (h:l.any q=true∨q x=false):midW q n (l++[x])=midW q n l++[x]:=by
 cases ha:l.any q with
 |true=>
  have e1: (l++[x]).any q=true:=by rw[List.any_append,ha];rfl
  rw[midW,if_pos e1,midW,ha,if_pos rfl,aKr ha]
 |false=>
  have hx:q x=false:=by
   rcases h with h|h
   · rw[ha] at h;cases h
   · exact h
  have e1: (l++[x]).any q=false:=by rw[List.any_append,ha];simp[hx]
  rw[midW,midW,e1,ha];rfl
theorem jl {q:α→Bool} {x:α}: (l++[x]).any q=(l.any q||q x):=by simp
theorem jm {q:α→Bool} {n:α}:pX (fun x=> !q x) n l=if l.any q then midW q n l else midW q n l++[n]:=by
 cases ha:l.any q with
 |true=>rw[if_pos rfl,midW,ha,if_pos rfl]
 |false=>rw[if_neg (by simp),midW,ha,aKs ha];rfl
theorem pg {p:α→Bool} (h:i<l.length): (l.take (i+1)).filter p=(l.take i).filter p++(if p (l.getD i z) then [l.getD i z] else []):=by
 rw[fQ (z:=z) h,List.filter_append]
 congr 1
 by_cases hp:p (l.getD i z)=true
 · rw[if_pos hp,List.filter_cons_of_pos hp];rfl
 · rw[if_neg hp,List.filter_cons_of_neg hp];rfl
theorem rK {p:α→Bool} (h:i<l.length) (hp:p (l.getD i z)=true): (l.take (i+1)).filter p=(l.take i).filter p++[l.getD i z]:=by
 rw[pg (z:=z) h,if_pos hp]
theorem uH {p:α→Bool} (h:i<l.length) (hp:p (l.getD i z)=false): (l.take (i+1)).filter p=(l.take i).filter p:=by
 rw[pg (z:=z) h,hp];simp
theorem dl {x:α} (h:x∈dN l i):x∈l:=by
 rcases List.mem_append.1 h with h|h
 · exact List.mem_of_mem_take h
 · exact List.mem_of_mem_drop h
end
theorem xK (l:List aR) (n:aR):eY l n=pX (fun x=>bY x.frm x.num n.frm n.num) n l:=rfl
theorem xL (l:List bQ) (n:bQ):dQ l n=pX (fun x=>bY x.frm x.num n.frm n.num) n l:=rfl
theorem yP (l:List aR) (n:aR):jQ l n=pX (fun x=> !bY n.frm n.num x.frm x.num) n l:=rfl
theorem uY (l:List bQ) (n:bQ):nY l n=pX (fun x=> !bY n.frm n.num x.frm x.num) n l:=rfl
theorem bn {b:Bool} (h:b=false): ¬b=true:=by simp[h]
theorem tt {k:aL} {n:aR} {c:Bool} (hb:k.held.length≤100000∧k.marks.length≤100000∧k.inbox.length≤100000)
 (h: (!eD n||decide (n.til≤k.time)||decide (aX k.held n.frm n.num≥0)||decide (aX k.inbox n.frm n.num≥0)||decide (fW k.marks n.frm n.num≥0)||decide (wrap64 (wrap64 ((aD k.held).length+(aJ k.marks).length)+1)>12))=c):
 (nH k n&&decide ((k.held.length:Int)+k.marks.length+1≤12))= !c:=by
 subst h
 rw[aA,aB,aE (n:=(k.held.length:Int)+k.marks.length) (by omega),aE (by omega)]
 unfold nH
 simp only[aAa,Bool.not_or,Bool.not_not,gt_iff_lt]
theorem fR (l:List aR) (f m:Int): -1≤aX l f m∧aX l f m<l.length:=by
 rcases gT (mU l f m) l.length 0 with h|⟨k,h,_,h2,_⟩<;>rw[aX,h]<;>omega
theorem aAh {k:aL} {n:aR} (ha: (nH k n&&decide ((k.held.length:Int)+k.marks.length+1≤12))=true) (hto: (n.to==k.id)=true):dW k n=({k with inbox:=eY k.inbox n,marks:=dQ k.marks ⟨n.frm,n.num,n.til⟩},true):=by
 unfold dW
 rw[if_pos ha,if_pos hto]
theorem aAi {k:aL} {n:aR} (ha: (nH k n&&decide ((k.held.length:Int)+k.marks.length+1≤12))=true) (hto: (n.to==k.id)=false):dW k n=({k with held:=eY k.held n},true):=by
 unfold dW
 rw[if_pos ha,hto]
 rfl
theorem bT (l:List aR) (x:aR):aD l++[x.row]=aD (l++[x]):=by simp[aD]
theorem fM (l:List bQ) (x:bQ):aJ l++[x.row]=aJ (l++[x]):=by simp[aJ]
theorem jR (l:List aR) (a b:Nat): ∀r∈((aD l).take a).drop b,r.length=5:=fun r hr=>eR l r (List.mem_of_mem_take (List.mem_of_mem_drop hr))
theorem yQ (l:List bQ) (a b:Nat): ∀r∈((aJ l).take a).drop b,r.length=3:=fun r hr=>iC l r (List.mem_of_mem_take (List.mem_of_mem_drop hr))
theorem uZ (L:List (List D)) (i:Nat): (L.take (gF none L.length)).drop (fD (some (i:Int)))=L.drop i:=by
 simp[gF,fD]
theorem gg (L:List (List D)) (i n:Nat): (L.take (gF (some (i:Int)) n)).drop (fD none)=L.take i:=by
 simp[gF,fD]
theorem jD (n:Nat):gF none n=n:=by simp[gF]
theorem jE (i n:Nat):gF (some (i:Int)) n=i:=by simp[gF]
theorem jF:fD none=0:=rfl
theorem jG (i:Nat):fD (some (i:Int))=i:=by simp[fD]
section
variable {τ σ':St} {rl:List (Nat×Nat)} {bor:List Nat} {r:List (dF×K)}
theorem aS1 {s:Nat} {xs ys:List E} (h:aU τ (.t s)=some (.v (.tup xs))) (e:mEs τ σ' rl bor xs ys) (hr:mL τ σ' rl bor r):mL τ σ' rl bor ((.t s,.v (.tup ys))::r):=⟨⟨_,h,e⟩,hr⟩
theorem aNj:mEs τ σ' rl bor [] []:=trivial
theorem aPu {cs ds:List C} {xs ys:List E} (e:xe τ σ' rl bor cs ds) (h:mEs τ σ' rl bor xs ys):mEs τ σ' rl bor (.agg cs::xs) (.agg ds::ys):=⟨e,h⟩
theorem aUv {x y:D} {xs ys:List E} (e:x=y) (h:mEs τ σ' rl bor xs ys):mEs τ σ' rl bor (.c (.d x)::xs) (.c (.d y)::ys):=⟨e,h⟩
end
theorem RW.nilBox {P:Program} {cx:Cx P} {σ:St} {ι:Nat→Value} {S:Nat→Prop} {a:Act} {w:World} (h:RW cx σ ι S a w) {b j q:Nat} {ty:TypeId} {cs:List C} (e:TypeId) (es:Nat) (hs:aU σ (.o b)=some (.box ty cs)) (hq:cs[q]? =some .nil) (hj:aU σ (.o j)=none):
 ∃ι',RW cx (pM (pM σ (.o j) (.row e es [])) (.o b) (.box ty (cs.set q (.own j 0)))) ι' S a w:=by
 have hblk: ∀b,xT (.slice none 0 0) b→some b=(none:Option Nat)∨w.heap.size≤b:=fun b hb=>by simp[xT] at hb
 have h1:=h.turn (id:=j) (old:=none) (k:= .row e es []) (p:= .slice none 0 0) (w':=w) ⟨rfl,rfl,rfl,aVf _,(fun _ _ _=>rfl),(fun b hb=>by cases hb),.inl hj,hblk,.inl ⟨rfl,rfl⟩⟩
 have hbj:b≠j:=fun e=>by subst e;rw[hj] at hs;cases hs
 have hs1:aU (pM σ (.o j) (.row e es [])) (.o b)=some (.box ty cs):=by rw[cM _ _ (by simpa using fun h=>hbj h.symm)];exact hs
 obtain⟨blk0,vs,hp,hh,hsz,hc⟩:=h1.vr.objs b _ hs1
 refine⟨_,h1.turn (id:=b) (old:=some blk0) (k:= .box ty (cs.set q (.own j 0))) (p:= .pointer (some ⟨blk0,0,none⟩)) (w':=w) ⟨rfl,rfl,rfl,aVf _,(fun _ _ _=>rfl),(fun b' hb'=> ?_),.inr ⟨_,hs1,?_⟩,(fun b' hb'=> ?_),?_⟩⟩
 · cases hb'
   refine⟨⟨_,hs1,trivial⟩,?_⟩
   show xT (if b=j then Value.slice none 0 0 else ι b) _
   rw[hp];rfl
 · show nA (if b=j then Value.slice none 0 0 else ι b) _ _ _
   rw[hp];rfl
 · simp[xT] at hb';exact .inl (by rw[hb'])
 · refine⟨blk0,vs,rfl,hh,by rw[List.length_set];exact hsz,fun k c u hk hu=> ?_⟩
   have hjj:aU (pM (pM σ (.o j) (.row e es [])) (.o b) (.box ty (cs.set q (.own j 0)))) (.o j)=some (.row e es []):=by
    rw[cM _ _ (by simpa using hbj),cX]
   by_cases hkq:k=q
   · subst hkq
     have hlt:k<cs.length:=(aVe.1 hq).1
     rw[List.getElem?_set_self hlt] at hk
     cases hk
     have hv:u= .slice none 0 0:=hc k .nil u hq hu
     subst hv
     refine⟨rfl,.inl ⟨e,es,[],hjj,aVf _,fun _=> ?_⟩⟩
     simp[hbj.symm]
   · rw[List.getElem?_set_ne (fun h=>hkq h.symm)] at hk
     refine CR.step ?_ (hc k c u hk hu)
     refine⟨fun _ h=>h,fun _ _=>rfl,fun o k0 ho=> ?_⟩
     by_cases eo:o=b
     · subst eo
       rw[hs1] at ho;cases ho
       refine⟨_,cX _ _ _,?_⟩
       simp only[if_true]
       rw[hp]
       simp[nA]
     · refine⟨k0,by rw[cM _ _ (by simpa using fun h=>eo h.symm)];exact ho,?_⟩
       simp only[if_neg eo]
       exact nA.refl' _ _
theorem SW.nilBox {P:Program} {io:List Nat} {Q:Ex→St→Prop} {σ:St} {c:Code} (b j q:Nat) {ty:TypeId} {cs:List C} (e:TypeId) (es:Nat) (hs:aU σ (.o b)=some (.box ty cs)) (hq:cs[q]? =some .nil) (hj:aU σ (.o j)=none)
 (h:nC σ [(.o j,.row e es []),(.o b,.box ty (cs.set q (.own j 0)))] (SW P io c Q)):SW P io c Q σ:=by
 rw[kP] at h
 intro cx ι S a w hio hw hf
 obtain⟨ι',hw'⟩:=hw.nilBox e es hs hq hj
 exact h cx ι' S a w hio hw' hf
set_option linter.unusedVariables false
set_option linter.unusedSimpArgs false
theorem Spec.told {P:Program} {f:FuncId} {n:Nat} {σin σout σ':St} {rl:List (Nat×Nat)} {bor:List Nat} (h:Spec P f n σin σout) (hm:mL σout σ' rl bor σ') (hm2:zQ σ' rl bor=true) (h0:cA σin=[]):Spec P f n σin σ':=by
 have hno: ∀o k,aU σin (.o o)=some k→False:=fun o k hk=>by have:=fG hk;rw[h0] at this;cases this
 refine⟨h.1,fun ι ν S w args hg h1 h2 h3=>nE (fun ex w'=> ?_) (h.2 ι ν S w args hg h1 h2 h3)⟩
 rintro⟨v,ι',S',rfl,hp⟩
 have hM:oJ σout σ' rl bor:=⟨hm,hm2⟩
 refine⟨v,fun j=>ι' (kA rl j),pR σout ι' bor S',rfl,hp.fr,uP hM (fun _ _ h=>h) hp.vr,fun b hb=> ?_,fun o b hmu=> ?_,fun o k k' hk hk'=>(hno o k hk).elim⟩
 · rcases hb with hb|⟨o,_,hb⟩
   · exact hp.rd b hb
   · exact .inr (hp.own o b hb)
 · obtain⟨⟨k',hk',hl'⟩,hb⟩:=hmu
   obtain⟨k,hk,hmk⟩:=hM.ids o k' hk'
   exact hp.own (kA rl o) b ⟨⟨k,hk,(aIw hmk).1⟩,hb⟩
theorem aUw {X Y:V} {a a' b b' c c':Int} (e0:a=a') (e1:b=b') (e2:c=c'): [(dF.t 0,K.v X),(.t 1,.v Y),(.t 2,.v (.e (.agg [.d (.i a'),.d (.i b'),.d (.i c')])))]=eS 0 [X,Y,.e (.agg [.d (.i a),.d (.i b),.d (.i c)])]:=by
 subst e0;subst e1;subst e2;rfl
theorem aBx {l:List (List UInt8)} (h:hO l=true) {i:Nat} (hi:i<l.length):db (((cY (kL l)).getD i []).getD 0 (.i 0))=lC (l.getD i []):=by
 rw[dL (by rw[hP h];exact hi)]
 show(kL l).getD i 0=_
 rw[aD8 h hi]
theorem yR (t:List UInt8): (cC t).1.text.length≤t.length:=by
 unfold cC
 split
 · exact aVa _
 · exact tp 4 t
theorem count_le: ∀(n:Nat) (s:List UInt8),s.length≤n→Lib.count s [32]≤s.length
 |0,s,h=>by
  rw[List.eq_nil_of_length_eq_zero (Nat.le_zero.1 h),sP];exact aVf _
 |n+1,s,h=>by
  rw[sP]
  by_cases hs:fP s=true
  · have:=mt hs
    have:=count_le n (aN s) (by omega)
    rw[if_pos hs];omega
  · rw[if_neg hs];exact aVa _
theorem aKt (s:List UInt8): (cT s).length≤s.length+1:=by
 have:=count_le s.length s (aVf _)
 have:=(tn (Lib.count s [32]) s).1
 unfold cT;omega
theorem aNk (s:List UInt8): ∀x∈cT s,x.length≤s.length:=ji _ s
section
variable {k:aL} {rec:List UInt8}
theorem aKu (h:fP rec=false):eA k rec=(k,false):=if_neg (bn h)
theorem aEb (h:fP rec=true) (hw: (bA rec==hG||bA rec==iO)=true) (hn: (kN (aN rec)).isSome=true):eA k rec=kM k (bA rec) (lC (aN rec)):=(if_pos h).trans ((if_pos hw).trans (if_pos hn))
theorem dm (h:fP rec=true) (hw: (bA rec==hG||bA rec==iO)=true) (hn: (kN (aN rec)).isSome=false):eA k rec=(k,false):=(if_pos h).trans ((if_pos hw).trans (if_neg (bn hn)))
theorem dn (h:fP rec=true) (hw: (bA rec==hG||bA rec==iO)=false) (hw2: (bA rec==fS||bA rec==dE||bA rec==gU||bA rec==fT)=true) (hn: (cC (aN rec)).2=true):eA k rec=dX k (bA rec) (cC (aN rec)).1:=(if_pos h).trans ((if_neg (bn hw)).trans ((if_pos hw2).trans (if_pos hn)))
theorem pA (h:fP rec=true) (hw: (bA rec==hG||bA rec==iO)=false) (hw2: (bA rec==fS||bA rec==dE||bA rec==gU||bA rec==fT)=true) (hn: (cC (aN rec)).2=false):eA k rec=(k,false):=(if_pos h).trans ((if_neg (bn hw)).trans ((if_pos hw2).trans (if_neg (bn hn))))
theorem aAj (h:fP rec=true) (hw: (bA rec==hG||bA rec==iO)=false) (hw2: (bA rec==fS||bA rec==dE||bA rec==gU||bA rec==fT)=false) (hw3: (bA rec==iZ||bA rec==lD||bA rec==gV)=true) (hn: (hO (cT (aN rec))&&(cT (aN rec)).length==3)=true):
 eA k rec=fY k (bA rec) (three (cT (aN rec))):=(if_pos h).trans ((if_neg (bn hw)).trans ((if_neg (bn hw2)).trans ((if_pos hw3).trans (if_pos hn))))
theorem yS (h:fP rec=true) (hw: (bA rec==hG||bA rec==iO)=false) (hw2: (bA rec==fS||bA rec==dE||bA rec==gU||bA rec==fT)=false) (hw3: (bA rec==iZ||bA rec==lD||bA rec==gV)=true) (hn: (hO (cT (aN rec))&&(cT (aN rec)).length==3)=false):
 eA k rec=(k,false):=(if_pos h).trans ((if_neg (bn hw)).trans ((if_neg (bn hw2)).trans ((if_pos hw3).trans (if_neg (bn hn)))))
theorem jn (h:fP rec=true) (hw: (bA rec==hG||bA rec==iO)=false) (hw2: (bA rec==fS||bA rec==dE||bA rec==gU||bA rec==fT)=false) (hw3: (bA rec==iZ||bA rec==lD||bA rec==gV)=false):
 eA k rec=(k,false):=(if_pos h).trans ((if_neg (bn hw)).trans ((if_neg (bn hw2)).trans (if_neg (bn hw3))))
theorem aAk {l:List (List UInt8)} {c:Bool} (h: (hO l&&((cY (kL l)).length:Int)==3)=c): (hO l&&l.length==3)=c:=by
 subst h
 cases hn:hO l with
 |false=>rfl
 |true=>
  rw[cF,hP hn,Bool.true_and,Bool.true_and]
  by_cases h:l.length=3
  · rw[h];rfl
  · rw[show(l.length==3)=false by simpa using h]
    symm
    rw[beq_eq_false_iff_ne]
    omega
end
def KB (k:aL):Prop:=(k.held.length≤100000∧k.marks.length≤100000∧k.inbox.length≤100000)∧(∀x∈k.held,x.text.length≤140737488355328)∧(∀x∈k.inbox,x.text.length≤140737488355328)
theorem KB.zero:KB .zero:=⟨⟨aVa _,aVa _,aVa _⟩,fun x h=>(by cases h),fun x h=>(by cases h)⟩
theorem lT {l:List aR} (h:jP l=true) {x:aR} (hx:x∈l):eD x=true:=by
 obtain⟨i,hi⟩:=aVp.1 hx
 have hlt:=(aVe.1 hi).1
 have h1:=aVi.1 h i (List.mem_range.2 hlt)
 unfold lI at h1
 rw[aU7] at h1
 have h2:=h1.1
 rw[aVb,hi] at h2
 exact h2
theorem ph {n:aR} (h:eD n=true):n.text.length≤140737488355328:=by
 have:=lW h;omega
def KS (k:aL):Prop:=(k.held.length≤7∧k.marks.length≤13∧k.inbox.length≤7)∧(∀x∈k.held,x.text.length≤140737488355328)∧(∀x∈k.inbox,x.text.length≤140737488355328)
theorem KS.big {k:aL} (h:KS k):KB k:=⟨⟨by have:=h.1;omega,by have:=h.1;omega,by have:=h.1;omega⟩,h.2⟩
def K6 (k:aL):Prop:=(k.held.length≤6∧k.marks.length≤12∧k.inbox.length≤6)∧(∀x∈k.held,x.text.length≤140737488355328)∧(∀x∈k.inbox,x.text.length≤140737488355328)
theorem eL {k:aL} (h:cO k=true):K6 k:=by
 obtain⟨⟨_,_,_,h1,h2,h3⟩,⟨h4,h5,h6⟩,_⟩:=(bX k).1 h
 exact⟨⟨h1,h2,h3⟩,fun x hx=>ph (lT h4 hx),fun x hx=>ph (lT h6 hx)⟩
theorem K6.seven {k:aL} (h:K6 k):KS k:=⟨⟨by have:=h.1;omega,by have:=h.1;omega,by have:=h.1;omega⟩,h.2⟩
theorem xM {α:Type} (l:List α) (i:Nat): (dN l i).length≤l.length:=by
 rw[dN,aU5,aVc,aVk];omega
theorem aAl {k:aL} {n:aR} (h:K6 k) (hn:n.text.length≤140737488355328):KS (dW k n).1:=by
 unfold dW
 split
 · simp only
   split
   · refine⟨⟨by have:=h.1;simp only;omega,?_,?_⟩,h.2.1,?_⟩
     · have:=h.1;rw[xL,eQ];omega
     · have:=h.1;rw[xK,eQ];omega
     · intro x hx
       rw[xK,xJ] at hx
       rcases hx with rfl|hx
       · exact hn
       · exact h.2.2 x hx
   · refine⟨⟨?_,by have:=h.1;simp only;omega,by have:=h.1;simp only;omega⟩,?_,h.2.2⟩
     · have:=h.1;rw[xK,eQ];omega
     · intro x hx
       rw[xK,xJ] at hx
       rcases hx with rfl|hx
       · exact hn
       · exact h.2.1 x hx
 · exact h.seven
theorem tv {k:aL} {t:Int} (h:K6 k):KS (iV k t):=by
 have h1:=List.length_filter_le (fun n:aR=>decide (t<n.til)) k.held
 have h2:=List.length_filter_le (fun n:bQ=>decide (t<n.til)) k.marks
 exact⟨⟨by have:=h.1;simp only[iV];omega,by have:=h.1;simp only[iV];omega,by have:=h.1;simp only[iV];omega⟩,fun x hx=>h.2.1 x (List.mem_filter.1 hx).1,h.2.2⟩
theorem aBy {k:aL} {n:aR} (h:K6 k) (hn:n.text.length≤140737488355328) {p:aR→Bool}:KS {k with held:=pX p n k.held}:=
 ⟨⟨by have:=h.1;simp only[eQ];omega,by have:=h.1;simp only;omega,by have:=h.1;simp only;omega⟩,fun x hx=>by rcases xJ.1 hx with rfl|hx;exact hn;exact h.2.1 x hx,h.2.2⟩
theorem aEc {k:aL} {n:aR} (h:K6 k) (hn:n.text.length≤140737488355328) {p:aR→Bool}:KS {k with inbox:=pX p n k.inbox}:=
 ⟨⟨by have:=h.1;simp only;omega,by have:=h.1;simp only;omega,by have:=h.1;simp only[eQ];omega⟩,h.2.1,fun x hx=>by rcases xJ.1 hx with rfl|hx;exact hn;exact h.2.2 x hx⟩
theorem aNl {k:aL} {w:List UInt8} {n:Int} (h:K6 k):KS (kM k w n).1:=by
 unfold kM
 split
 · exact tv h
 · split
   · exact h.seven
   · exact h.seven
theorem aKv {k:aL} {w:List UInt8} {n:aR} (h:K6 k) (hn:n.text.length≤140737488355328):KS (dX k w n).1:=by
 unfold dX
 split
 · exact aAl (k:={k with next:=wrap64 (k.next+1)}) h hn
 · split
   · exact aAl h hn
   · split
     · exact h.seven
     · split
       · exact aBy h hn
       · split
         · exact aEc h hn
         · exact h.seven
theorem aKw {k:aL} {w:List UInt8} {m:bQ} (h:K6 k):KS (fY k w m).1:=by
 unfold fY
 split
 · refine⟨⟨?_,?_,by have:=h.1;simp only;omega⟩,fun x hx=>h.2.1 x (dl hx),h.2.2⟩
   · have:=h.1;have h1:=xM k.held (aX k.held m.frm m.num).toNat;simp only;omega
   · have:=h.1;rw[xL,eQ];omega
 · split
   · refine⟨⟨by have:=h.1;simp only;omega,by have:=h.1;simp only;omega,?_⟩,h.2.1,fun x hx=>h.2.2 x (dl hx)⟩
     have:=h.1;have h1:=xM k.inbox (aX k.inbox m.frm m.num).toNat;simp only;omega
   · split
     · exact⟨⟨by have:=h.1;simp only;omega,by have:=h.1;rw[xL,eQ];omega,by have:=h.1;simp only;omega⟩,h.2⟩
     · exact h.seven
theorem mu {k:aL} {rec:List UInt8} (h:K6 k) (hr:rec.length≤1000000):KS (eA k rec).1:=by
 have ht: (cC (aN rec)).1.text.length≤140737488355328:=by
  have h1:=yR (aN rec)
  have h2:=uG rec
  omega
 unfold eA
 repeat' split
 all_goals first|exact h.seven|exact aNl h|exact aKv h ht|exact aKw h
theorem lM {k:aL} {rec:List UInt8}:K6 (aO k rec).1:=by
 unfold aO
 split
 · rename_i hk
   unfold kD
   split
   · rename_i h
     rw[aU7] at h
     exact eL h.2
   · exact eL hk
 · exact⟨⟨aVa _,aVa _,aVa _⟩,fun x h=>(by cases h),fun x h=>(by cases h)⟩
theorem jo (id:Int):K6 (bB id):=by
 unfold bB
 split<;>exact⟨⟨aVa _,aVa _,aVa _⟩,fun x h=>(by cases h),fun x h=>(by cases h)⟩
set_option linter.unusedVariables false
set_option linter.unusedSimpArgs false
theorem aJc {a a':Int} (e:a=a'): [(dF.t 0,K.v (I a'))]=eS 0 [I a]:=by subst e;rfl
theorem tw {X:V} {a a' b b':Int} (e0:a=a') (e1:b=b'): [(dF.t 0,K.v X),(.t 1,.v (I a')),(.t 2,.v (I b'))]=eS 0 [X,I a,I b]:=by subst e0;subst e1;rfl
theorem aNm {X:V} {a a' b b' c c':Int} (e0:a=a') (e1:b=b') (e2:c=c'): [(dF.t 0,K.v X),(.t 1,.v (.e (.agg [.d (.i a'),.d (.i b'),.d (.i c')])))]=eS 0 [X,.e (.agg [.d (.i a),.d (.i b),.d (.i c)])]:=by subst e0;subst e1;subst e2;rfl
theorem tz {n:Nat} {s:List UInt8} {i:Nat} (hi:i<n):db (((cY (eX n s)).getD i []).getD 0 (.i 0))=dM s i:=by
 rw[dL (by rw[bI];exact hi)]
 exact aD9 hi
theorem lN {n:Int} (h: -1≤n∧n≤9999): (jh n).length≤6:=by
 unfold jh
 by_cases h0:n<0
 · rw[if_pos h0]
   have:=bZ (k:=3) (n:=(-n).toNat) (by simp;omega)
   simp;omega
 · rw[if_neg h0]
   have:=bZ (k:=3) (n:=n.toNat) (by simp;omega)
   omega
theorem gG (s:List UInt8) (i:Nat): -1≤dM s i∧dM s i≤9999:=yO _
theorem dp {a:Int} {x y c:Bool} (h: (decide (a<0)||x)=c) (hx:0≤a→x=y): (decide (a<0)||y)=c:=by
 by_cases h0:0≤a
 · rw[← hx h0];exact h
 · rw[show decide (a<0)=true from decide_eq_true (by omega),Bool.true_or] at h ⊢; exact h
theorem aNn {k:aL} {n:aR} (h: (!gf k n)=true):mJ k n=(k,false):=if_neg (by simpa using h)
theorem aNo {k:aL} {n:aR} (hb:k.held.length≤100000∧k.marks.length≤100000∧k.inbox.length≤100000) (h: (!gf k n)=false) (ht: (n.to != k.id)=true):
 mJ k n=({k with held:=jQ k.held n},decide (wrap64 ((aD (jQ k.held n)).length+(aJ k.marks).length)≤12)):=by
 have hl: (jQ k.held n).length=k.held.length+1:=eQ
 rw[aA,aB,aE (by omega)]
 exact(if_pos (by simpa using h)).trans (if_pos ht)
theorem aNp {k:aL} {n:aR} (hb:k.held.length≤100000∧k.marks.length≤100000∧k.inbox.length≤100000) (h: (!gf k n)=false) (ht: (n.to != k.id)=false):
 mJ k n=({k with inbox:=jQ k.inbox n,marks:=nY k.marks ⟨n.frm,n.num,n.til⟩},decide (wrap64 ((aD k.held).length+(aJ (nY k.marks ⟨n.frm,n.num,n.til⟩)).length)≤12)):=by
 have hl: (nY k.marks ⟨n.frm,n.num,n.til⟩).length=k.marks.length+1:=eQ
 rw[aA,aB,aE (by omega)]
 exact(if_pos (by simpa using h)).trans (if_neg (bn ht))
theorem aPv {k:aL} {a b:Int} (h:K6 k):KS (jj k a b).1:=by
 unfold jj
 split
 · refine⟨⟨?_,?_,by have:=h.1;simp only;omega⟩,fun x hx=>h.2.1 x (dl hx),h.2.2⟩
   · have:=h.1;have h1:=xM k.held (aX k.held a b).toNat;simp only;omega
   · have:=h.1;rw[uY,eQ];omega
 · exact h.seven
theorem aPw {k:aL} {a b:Int} (h:K6 k):KS (jk k a b).1:=by
 unfold jk
 split
 · refine⟨⟨by have:=h.1;simp only;omega,by have:=h.1;simp only;omega,?_⟩,h.2.1,fun x hx=>h.2.2 x (dl hx)⟩
   have:=h.1;have h1:=xM k.inbox (aX k.inbox a b).toNat;simp only;omega
 · exact h.seven
theorem aEd {k:aL} {n:aR} (h:K6 k) (hn:n.text.length≤140737488355328):KS (mJ k n).1:=by
 unfold mJ
 split
 · split
   · exact aBy h hn
   · refine⟨⟨by have:=h.1;simp only;omega,?_,?_⟩,h.2.1,?_⟩
     · have:=h.1;rw[uY,eQ];omega
     · have:=h.1;rw[yP,eQ];omega
     · intro x hx
       rw[yP,xJ] at hx
       rcases hx with rfl|hx
       · exact hn
       · exact h.2.2 x hx
 · exact h.seven
theorem mW {c:Prop} [Decidable c] {a b:aL×Bool} (ha:KS a.1) (hb:KS b.1):KS (if c then a else b).1:=by
 split
 · exact ha
 · exact hb
theorem pJ {k:aL} {rec:List UInt8} (h:K6 k) (hr:rec.length≤1000000):KS (fZ k rec).1:=by
 have ht: (cC (aN rec)).1.text.length≤140737488355328:=by
  have h1:=yR (aN rec)
  have h2:=uG rec
  omega
 have hm:KS {k with marks:=nY k.marks (gW (aN rec))}:=⟨⟨by have:=h.1;simp only;omega,by have:=h.1;simp only[uY,eQ];omega,by have:=h.1;simp only;omega⟩,h.2⟩
 unfold fZ
 exact mW (mW h.seven (tv h)) (mW (mW h.seven (aEd (k:={k with next:=wrap64 (k.next+1)}) h ht)) (mW (mW h.seven (aEd h ht)) (mW (mW h.seven h.seven)
  (mW (mW h.seven (mW (aBy h ht) (aEc h ht))) (mW h.seven (mW (mW h.seven (aPv h)) (mW (mW h.seven (aPw h)) (mW (mW h.seven hm) h.seven))))))))
set_option linter.unusedVariables false
set_option linter.unusedSimpArgs false
theorem aUx {X:V} {a a':List UInt8} (e:a=a'): [(dF.t 0,K.v X),(.t 1,.v (Dv (.s a')))]=eS 0 [X,Dv (.s a)]:=by subst e;rfl
theorem jp {a b c d:Int} (h: ¬(a=c∧b=d)):bY a b c d= !bY c d a b:=by
 unfold bY
 by_cases h1:a=c
 · subst h1
   have h2: ¬b=d:=fun e=>h ⟨rfl,e⟩
   by_cases h3:b<d
   · simp[h3,Int.not_lt.2 (Int.le_of_lt h3)]
   · simp[h3,show d<b by omega]
 · by_cases h3:a<c
   · simp[h3,Int.not_lt.2 (Int.le_of_lt h3)]
     exact .inl fun e=>h1 e.symm
   · simp[h3,h1,show c<a by omega]
theorem sZ {α:Type} {p q:α→Bool}: ∀{l:List α},(∀x∈l,p x=q x)→l.takeWhile p=l.takeWhile q∧l.dropWhile p=l.dropWhile q
 | [],_=>⟨rfl,rfl⟩
 |x::l,h=>by
  have hx:=h x (List.mem_cons_self ..)
  obtain⟨h1,h2⟩:=sZ (l:=l) fun y hy=>h y (List.mem_cons_of_mem _ hy)
  simp only[List.takeWhile,List.dropWhile,hx,h1,h2,and_self]
theorem vA {l:List aR} {f m:Int} (h:aX l f m<0) {x:aR} (hx:x∈l): ¬(x.frm=f∧x.num=m):=by
 rintro⟨e1,e2⟩
 obtain⟨i,hi⟩:=aVp.1 hx
 have hlt:=(aVe.1 hi).1
 rcases gT (mU l f m) l.length 0 with h1|⟨k,h1,_,h2,_⟩
 · have h3:mU l f m i=true:=by
    unfold mU
    rw[aVb,hi]
    simp[e1,e2]
   have: ∀n j,j≤i→i<j+n→kU (mU l f m) j n≠ -1:=by
    intro n
    induction n with
    |zero=>intro j h4 h5;omega
    |succ n ih=>
     intro j h4 h5
     unfold kU
     split
     · omega
     · rename_i h6
       by_cases e:j=i
       · subst e;exact absurd h3 h6
       · exact ih (j+1) (by omega) (by omega)
   exact this l.length 0 (aVa _) (by omega) h1
 · rw[aX,h1] at h;omega
theorem yT {l:List bQ} {f m:Int} (h:fW l f m<0) {x:bQ} (hx:x∈l): ¬(x.frm=f∧x.num=m):=by
 rintro⟨e1,e2⟩
 obtain⟨i,hi⟩:=aVp.1 hx
 have hlt:=(aVe.1 hi).1
 rcases gT (rH l f m) l.length 0 with h1|⟨k,h1,_,h2,_⟩
 · have h3:rH l f m i=true:=by
    unfold rH
    rw[aVb,hi]
    simp[e1,e2]
   have: ∀n j,j≤i→i<j+n→kU (rH l f m) j n≠ -1:=by
    intro n
    induction n with
    |zero=>intro j h4 h5;omega
    |succ n ih=>
     intro j h4 h5
     unfold kU
     split
     · omega
     · rename_i h6
       by_cases e:j=i
       · subst e;exact absurd h3 h6
       · exact ih (j+1) (by omega) (by omega)
   exact this l.length 0 (aVa _) (by omega) h1
 · rw[fW,h1] at h;omega
theorem yU {l:List aR} {n:aR} (h:aX l n.frm n.num<0):jQ l n=eY l n:=by
 obtain⟨h1,h2⟩:=sZ (p:=fun x:aR=> !bY n.frm n.num x.frm x.num) (q:=fun x=>bY x.frm x.num n.frm n.num) (l:=l) fun x hx=>(jp (vA h hx)).symm
 unfold jQ eY
 rw[h1,h2]
theorem gh {l:List bQ} {n:bQ} (h:fW l n.frm n.num<0):nY l n=dQ l n:=by
 obtain⟨h1,h2⟩:=sZ (p:=fun x:bQ=> !bY n.frm n.num x.frm x.num) (q:=fun x=>bY x.frm x.num n.frm n.num) (l:=l) fun x hx=>(jp (yT h hx)).symm
 unfold nY dQ
 rw[h1,h2]
theorem aKx (k:aL) (n:aR):gf k n=nH k n:=by
 unfold gf nH
 cases decide (aX k.inbox n.frm n.num<0)<;>cases decide (fW k.marks n.frm n.num<0)<;>simp
def pY (k:aL) (x y:aL×Bool):Prop:=kD k x=kD k y
theorem pY.rfl {k:aL} {x:aL×Bool}:pY k x x:=Eq.refl _
theorem pY.of {k:aL} {x y:aL×Bool} (h:x=y):pY k x y:=h▸pY.rfl
theorem pZ {k:aL} {x:aL×Bool} (h:x.2=false∨cO x.1=false):kD k x=(k,false):=by
 unfold kD
 rw[if_neg]
 rcases h with h|h<;>simp[h]
theorem pY.no {k:aL} {x y:aL×Bool} (h:x.2=false∨cO x.1=false) (h':y.2=false∨cO y.1=false):pY k x y:=(pZ h).trans (pZ h').symm
theorem ua {k0 k:aL} (n:aR):pY k0 (dW k n) (mJ k n):=by
 unfold dW mJ
 rw[aKx]
 cases hf:nH k n with
 |false=>exact .of (by simp)
 |true=>
  have h2:=hf
  simp only[nH,aU7,decide_eq_true_eq] at h2
  obtain⟨⟨⟨⟨_,_⟩,q1⟩,q2⟩,q3⟩:=h2
  have hm: (dQ k.marks ⟨n.frm,n.num,n.til⟩).length=k.marks.length+1:=eQ
  have hh: (eY k.held n).length=k.held.length+1:=eQ
  rw[yU q1,yU q2,gh (n:=⟨n.frm,n.num,n.til⟩) q3,hm,hh]
  by_cases hl: (k.held.length:Int)+k.marks.length+1≤12
  · have e1:decide ((k.held.length:Int)+k.marks.length+1≤12)=true:=decide_eq_true hl
    have e2:decide (((k.held.length+1:Nat):Int)+k.marks.length≤12)=true:=decide_eq_true (by omega)
    have e3:decide ((k.held.length:Int)+((k.marks.length+1:Nat):Int)≤12)=true:=decide_eq_true (by omega)
    rw[e1,e2,e3]
    by_cases ht:n.to=k.id
    · simp[ht];exact .rfl
    · simp[ht];exact .rfl
  · have e1:decide ((k.held.length:Int)+k.marks.length+1≤12)=false:=decide_eq_false hl
    have e2:decide (((k.held.length+1:Nat):Int)+k.marks.length≤12)=false:=decide_eq_false (by omega)
    have e3:decide ((k.held.length:Int)+((k.marks.length+1:Nat):Int)≤12)=false:=decide_eq_false (by omega)
    rw[e1,e2,e3]
    refine .no (.inl (by simp)) (.inl ?_)
    by_cases ht:n.to=k.id<;>simp[ht]
theorem uI {s:List UInt8} {n:Nat} (h:kN s=some n):kC n=s∧1≤s.length∧s.length≤5:=by
 unfold kN at h
 split at h
 · rename_i hc
   cases h
   exact⟨(vR hc.1.1 hc.2.2).2 hc.2.1,hc.1.1,hc.1.2⟩
 · cases h
theorem aNq {s:List UInt8} {n:Nat} (h:kN s=some n) (h5:4<s.length):10000≤n:=by
 obtain⟨h1,_,_⟩:=uI h
 by_cases hn:n<10 ^ (3+1)
 · have:=bZ hn
   rw[h1] at this;omega
 · simpa using hn
theorem ub {s:List UInt8} {n:Nat} (h:kN s=some n) (hn:n<10000):gK s=n:=by
 have hl:s.length≤4:=by
  by_cases h5:4<s.length
  · have:=aNq h h5;omega
  · omega
 rw[xH hl,h]
theorem aAm {s:List UInt8} (h:kN s=none):gK s= -1:=by
 by_cases hl:s.length≤4
 · rw[xH hl,h]
 · unfold gK
   rw[if_neg (by omega)]
theorem aAn {s:List UInt8} (h:4<s.length):gK s= -1:=by
 unfold gK
 rw[if_neg (by omega)]
theorem aEe {k:aL} {n:Int} (h:999<n):cO (iV k n)=false:=by
 cases hk:cO (iV k n) with
 |false=>rfl
 |true=>
  obtain⟨⟨_,⟨_,h2⟩,_⟩,_⟩:=(bX _).1 hk
  simp only[iV] at h2
  omega
theorem aNr {k:aL} {n:Int} (h:100<n):cO {k with next:=n}=false:=by
 cases hk:cO {k with next:=n} with
 |false=>rfl
 |true=>
  obtain⟨⟨_,_,⟨_,h2⟩,_⟩,_⟩:=(bX _).1 hk
  simp only at h2
  omega
theorem uJ {s:List UInt8} {n:Nat} (h:kN s=some n):lC s=n:=by rw[lC,h]
theorem aHe {k:aL} (hk:cO k=true) (r:List UInt8):pY k (if(kN r).isSome then kM k hG (lC r) else(k,false)) (if gK r≤k.time then(k,false) else(iV k (gK r),true)):=by
 obtain⟨⟨_,⟨t0,t1⟩,_⟩,_⟩:=(bX _).1 hk
 cases h:kN r with
 |none=>
  rw[aAm h,if_neg (show ¬((none:Option Nat).isSome=true) by simp),if_pos (show(-1:Int)≤k.time by omega)]
  exact .rfl
 |some n=>
  rw[uJ h,if_pos (show(some n).isSome=true from rfl)]
  by_cases hn:n<10000
  · rw[ub h hn]
    by_cases ht:k.time<n
    · rw[if_neg (by omega)]
      exact .of (if_pos (by simp[ht]))
    · rw[if_pos (by omega)]
      exact .of ((if_neg (by simp[ht])).trans (if_neg (by simp[hG,iO])))
  · have hl:gK r= -1:=aAn (by
     by_cases h5:4<r.length
     · exact h5
     · have:=uI h
       have h6:=xH (s:=r) (by omega)
       rw[h] at h6
       have h7:=yO r
       simp only at h6
       omega)
    rw[hl,if_pos (by omega),kM,if_pos (by simp;omega)]
    exact .no (.inr (aEe (by omega))) (.inl rfl)
theorem aHf {k:aL} (hk:cO k=true) (r:List UInt8):pY k (if(kN r).isSome then kM k iO (lC r) else(k,false)) (if gK r≤k.next then(k,false) else({k with next:=gK r},true)):=by
 obtain⟨⟨_,_,⟨t0,t1⟩,_⟩,_⟩:=(bX _).1 hk
 cases h:kN r with
 |none=>
  rw[aAm h,if_neg (show ¬((none:Option Nat).isSome=true) by simp),if_pos (show(-1:Int)≤k.next by omega)]
  exact .rfl
 |some n=>
  rw[uJ h,if_pos (show(some n).isSome=true from rfl)]
  have e1: (iO==hG)=false:=by decide
  by_cases hn:n<10000
  · rw[ub h hn]
    by_cases ht:k.next<n
    · rw[if_neg (by omega)]
      exact .of ((if_neg (by simp[e1])).trans (if_pos (by simp[ht])))
    · rw[if_pos (by omega)]
      exact .of ((if_neg (by simp[e1])).trans (if_neg (by simp[ht])))
  · have hl:gK r= -1:=aAn (by
     by_cases h5:4<r.length
     · exact h5
     · have:=uI h
       have h6:=xH (s:=r) (by omega)
       rw[h] at h6
       have h7:=yO r
       simp only at h6
       omega)
    rw[hl,if_pos (by omega),kM,if_neg (by simp[e1]),if_pos (by simp;omega)]
    exact .no (.inr (aNr (by omega))) (.inl rfl)
theorem aKy {k:aL} (x:aR×Bool):pY k (if x.2 then dX k fS x.1 else(k,false)) (if !x.2||x.1.frm != k.id||x.1.num != k.next then(k,false) else mJ {k with next:=wrap64 (k.next+1)} x.1):=by
 obtain⟨n,b⟩:=x
 cases b with
 |false=>exact .of (by simp)
 |true=>
  rw[if_pos (show(n,true).2=true from rfl)]
  show pY k (dX k fS n) (if(!true)||n.frm != k.id||n.num != k.next then(k,false) else mJ {k with next:=wrap64 (k.next+1)} n)
  by_cases h:n.frm=k.id∧n.num=k.next
  · have hL:dX k fS n=dW {k with next:=wrap64 (k.next+1)} n:=if_pos (by simp[h])
    rw[hL,if_neg (by simp[h])]
    exact ua n
  · have hL:dX k fS n=(k,false):=by
     refine(if_neg (by simp;exact fun a b=>h ⟨a,b⟩)).trans ((if_neg (by simp[fS,dE])).trans ?_)
     split
     · rfl
     · simp[fS,gU,fT]
    have hR: ((!true)||n.frm != k.id||n.num != k.next)=true:=by
     by_cases h1:n.frm=k.id
     · have h2: ¬n.num=k.next:=fun h2=>h ⟨h1,h2⟩
       simp[h2]
     · simp[h1]
    rw[hL,if_pos hR]
    exact .rfl
theorem aEf {k:aL} (x:aR×Bool):pY k (if x.2 then dX k dE x.1 else(k,false)) (if !x.2||x.1.frm==k.id then(k,false) else mJ k x.1):=by
 obtain⟨n,b⟩:=x
 cases b with
 |false=>exact .of (by simp)
 |true=>
  rw[if_pos (show(n,true).2=true from rfl)]
  show pY k (dX k dE n) (if(!true)||n.frm==k.id then(k,false) else mJ k n)
  by_cases h:n.frm=k.id
  · have hL:dX k dE n=(k,false):=by
     refine(if_neg (by simp[dE,fS])).trans ((if_neg (by simp[h])).trans ?_)
     split
     · rfl
     · simp[dE,gU,fT]
    rw[hL,if_pos (by simp[h])]
    exact .rfl
  · have hL:dX k dE n=dW k n:=(if_neg (by simp[dE,fS])).trans (if_pos (by simp[h]))
    rw[hL,if_neg (by simp[h])]
    exact ua n
theorem aHg {k:aL} (w:List UInt8) (hw:w=gU∨w=fT) (x:aR×Bool):pY k (if x.2 then dX k w x.1 else(k,false))
 (if !x.2||decide (aX k.held x.1.frm x.1.num≥0)||decide (aX k.inbox x.1.frm x.1.num≥0) then(k,false)
  else if w==gU then({k with held:=jQ k.held x.1},true) else({k with inbox:=jQ k.inbox x.1},true)):=by
 obtain⟨n,b⟩:=x
 cases b with
 |false=>exact .of (by simp)
 |true=>
  have e1: (w==fS)=false:=by rcases hw with rfl|rfl<;>decide
  have e2: (w==dE)=false:=by rcases hw with rfl|rfl<;>decide
  rw[if_pos (show(n,true).2=true from rfl)]
  show pY k (dX k w n) (if(!true)||decide (aX k.held n.frm n.num≥0)||decide (aX k.inbox n.frm n.num≥0) then(k,false)
   else if w==gU then({k with held:=jQ k.held n},true) else({k with inbox:=jQ k.inbox n},true))
  by_cases h:0≤aX k.held n.frm n.num∨0≤aX k.inbox n.frm n.num
  · have hL:dX k w n=(k,false):=(if_neg (by simp[e1])).trans ((if_neg (by simp[e2])).trans (if_pos (by simpa using h)))
    rw[hL,if_pos (by simpa using h)]
    exact .rfl
  · have h1:aX k.held n.frm n.num<0:=by omega
    have h2:aX k.inbox n.frm n.num<0:=by omega
    have h3: ¬(decide (0≤aX k.held n.frm n.num)||decide (0≤aX k.inbox n.frm n.num))=true:=by simpa using h
    have h4: ¬((!true)||decide (aX k.held n.frm n.num≥0)||decide (aX k.inbox n.frm n.num≥0))=true:=by simpa using h
    rw[if_neg h4]
    rcases hw with rfl|rfl
    · have hL:dX k gU n=({k with held:=eY k.held n},true):=(if_neg (by simp[e1])).trans ((if_neg (by simp[e2])).trans ((if_neg h3).trans (if_pos (by decide))))
      rw[hL,if_pos (by decide),yU h1]
      exact .rfl
    · have hL:dX k fT n=({k with inbox:=eY k.inbox n},true):=(if_neg (by simp[e1])).trans ((if_neg (by simp[e2])).trans ((if_neg h3).trans ((if_neg (by decide)).trans (if_pos (by decide)))))
      rw[hL,if_neg (by decide),yU h2]
      exact .rfl
set_option linter.unusedVariables false
set_option linter.unusedSimpArgs false
def vT (m:bQ):List UInt8:=kC m.frm.toNat++32::(kC m.num.toNat++32::kC m.til.toNat)
theorem tS {m:bQ} (h:jO m=true): (0≤m.frm∧m.frm≤3)∧(1≤m.num∧m.num≤99)∧(1≤m.til∧m.til≤999):=by
 simp only[jO,eC,iB,aU7,decide_eq_true_eq] at h
 omega
theorem aEg {n:aR} (h:eD n=true):jO ⟨n.frm,n.num,n.til⟩=true:=by
 simp only[eD,jO,aU7] at h ⊢
 exact⟨⟨h.1.1.1.1,h.1.1.2⟩,h.1.2⟩
theorem aNs {s:List UInt8} (h: ∀b∈s,b≠32):fP s=false:=by
 unfold fP
 rw[List.any_eq_false]
 intro b hb
 have:=h b hb
 simpa using this
theorem uc {s:List UInt8} (h:fP s=false):Lib.count s [32]=0:=by rw[sP,h];rfl
theorem aS2 {a b c:List UInt8} (ha: ∀x∈a,x≠32) (hb: ∀x∈b,x≠32) (hc: ∀x∈c,x≠32):
 cT (a++32::(b++32::c))=[a,b,c]∧mI 3 (a++32::(b++32::c))=[]∧bA (a++32::(b++32::c))=a∧bA (mI 1 (a++32::(b++32::c)))=b∧bA (mI 2 (a++32::(b++32::c)))=c:=by
 obtain⟨a1,a2,a3⟩:=lL (r:=b++32::c) ha
 obtain⟨b1,b2,b3⟩:=lL (r:=c) hb
 have c3:=aNs hc
 obtain⟨_,c1,c2⟩:=(fX c).2 c3
 have hn:Lib.count (a++32::(b++32::c)) [32]=2:=by
  rw[sP,if_pos a3,a2,sP,if_pos b3,b2,uc c3]
 refine⟨?_,?_,a1,?_,?_⟩
 · rw[cT,hn]
   simp only[iI,a1,a2,a3,b1,b2,b3,if_true]
 · simp only[mI,a2,b2,c2]
 · simp only[mI,a2,b1]
 · simp only[mI,a2,b2,c1]
theorem ud {n:Int} (h:0≤n):jh n=kC n.toNat:=if_neg (by omega)
theorem aEh {m:bQ} (h:jO m=true):ek m=vT m:=by
 obtain⟨h1,h2,h3⟩:=tS h
 unfold ek vT
 rw[ud (by omega),ud (by omega),ud (by omega)]
 simp
theorem aAo {m:bQ} (h:jO m=true):hO (cT (vT m))=true∧(cT (vT m)).length=3∧three (cT (vT m))=m∧mI 3 (vT m)=[]∧gW (vT m)=m:=by
 obtain⟨h1,h2,h3⟩:=tS h
 obtain⟨q1,q2,q3,q4,q5⟩:=aS2 (uW m.frm.toNat) (uW m.num.toNat) (uW m.til.toNat)
 have e: ∀{x:Int},0≤x→((x.toNat:Nat):Int)=x:=fun h=>by omega
 have w1:kN (kC m.frm.toNat)=some m.frm.toNat:=pW (by omega)
 have w2:kN (kC m.num.toNat)=some m.num.toNat:=pW (by omega)
 have w3:kN (kC m.til.toNat)=some m.til.toNat:=pW (by omega)
 have u1:lC (kC m.frm.toNat)=m.frm:=by rw[lC,w1];exact e (by omega)
 have u2:lC (kC m.num.toNat)=m.num:=by rw[lC,w2];exact e (by omega)
 have u3:lC (kC m.til.toNat)=m.til:=by rw[lC,w3];exact e (by omega)
 have v1:gK (kC m.frm.toNat)=m.frm:=by rw[uX (by omega),e (by omega)]
 have v2:gK (kC m.num.toNat)=m.num:=by rw[uX (by omega),e (by omega)]
 have v3:gK (kC m.til.toNat)=m.til:=by rw[uX (by omega),e (by omega)]
 unfold vT
 refine⟨?_,?_,?_,q2,?_⟩
 · rw[q1];simp[hO,w1,w2,w3]
 · rw[q1];rfl
 · rw[q1];simp[three,u1,u2,u3]
 · unfold gW dM
   have q6:bA (mI 0 (kC m.frm.toNat++32::(kC m.num.toNat++32::kC m.til.toNat)))=kC m.frm.toNat:=q3
   rw[q6,q4,q5,v1,v2,v3]
theorem ue {s:List UInt8} (h:fP s=true):s=bA s++32::aN s:=by
 obtain⟨q1,q2,q3,q4⟩:=(fX s).1 h
 have h3:s[(bA s).length]'q4=32:=by
  have h1:Lib.indexByte s 32=(bA s).length:=q1
  have h2:s.drop (bA s).length=s[(bA s).length]'q4::s.drop ((bA s).length+1):=List.drop_eq_getElem_cons q4
  have h4:s.drop (bA s).length=s.dropWhile (· != 32):=by
   have h5:=List.takeWhile_append_dropWhile (p:=(· != (32:UInt8))) (l:=s)
   have h6:s.take (bA s).length++s.drop (bA s).length=s:=List.take_append_drop _ _
   rw[q2] at h6
   exact List.append_cancel_left (h6.trans h5.symm)
  have h7: ∀l:List UInt8,∀x t,l.dropWhile (· != 32)=x::t→x=32:=by
   intro l
   induction l with
   |nil=>intro x t h;cases h
   |cons y l ih=>
    intro x t h
    by_cases hy:y=32
    · subst hy
      simp at h
      exact h.1.symm
    · rw[List.dropWhile_cons_of_pos (by simpa using hy)] at h
      exact ih x t h
  exact h7 s _ _ (h4.symm.trans h2)
 have h8:s.take (bA s).length++s.drop (bA s).length=s:=List.take_append_drop _ _
 rw[q2,List.drop_eq_getElem_cons q4,h3,q3] at h8
 exact h8.symm
theorem aEi {s:List UInt8} (h: (cT s).length=3): ∃a b c,cT s=[a,b,c]∧s=a++32::(b++32::c):=by
 have h0:=tl _ s rfl
 have hn:Lib.count s [32]=2:=by
  rw[cT] at h;omega
 have h1:fP s=true:=by
  cases hs:fP s with
  |true=>rfl
  |false=>rw[uc hs] at hn;cases hn
 rw[sP,if_pos h1] at hn
 have h2:fP (aN s)=true:=by
  cases hs:fP (aN s) with
  |true=>rfl
  |false=>rw[uc hs] at hn;cases hn
 have hn2:Lib.count s [32]=2:=by rw[sP,if_pos h1];exact hn
 refine⟨bA s,bA (aN s),aN (aN s),?_,?_⟩
 · rw[cT,hn2]
   simp only[iI,h1,h2,if_true]
 · rw[← ue h2,← ue h1]
theorem aKz {s:List UInt8} (h: (hO (cT s)&&(cT s).length==3)=true):s=vT (three (cT s)):=by
 rw[aU7,beq_iff_eq] at h
 obtain⟨a,b,c,hl,hs⟩:=aEi h.2
 have hk:=h.1
 rw[hl] at hk ⊢
 simp only[hO,List.all_cons,List.all_nil,Bool.and_true,aU7] at hk
 obtain⟨ha,hb,hc⟩:=hk
 obtain⟨x,hx⟩:=Option.isSome_iff_exists.1 ha
 obtain⟨y,hy⟩:=Option.isSome_iff_exists.1 hb
 obtain⟨z,hz⟩:=Option.isSome_iff_exists.1 hc
 unfold vT three
 simp only[List.getD_cons_zero,List.getD_cons_succ,uJ hx,uJ hy,uJ hz,aU4,(uI hx).1,(uI hy).1,(uI hz).1]
 exact hs
theorem gi {l:List aR} (hk:jP l=true) {f m:Int} (hp:0≤aX l f m):eD (l.getD (aX l f m).toNat .zero)=true∧(l.getD (aX l f m).toNat .zero).frm=f∧(l.getD (aX l f m).toNat .zero).num=m∧(aX l f m).toNat<l.length:=by
 rcases gT (mU l f m) l.length 0 with h|⟨k,h,_,h2,h3,_⟩
 · rw[aX,h] at hp;omega
 · have e:aX l f m=k:=h
   rw[e,aU4]
   have h4:=h3
   unfold mU at h4
   simp only[aU7,beq_iff_eq] at h4
   exact⟨lT hk (cW (by omega)),h4.1,h4.2,by omega⟩
theorem sQ {l:List bQ} (h:nV l=true) {x:bQ} (hx:x∈l):jO x=true:=by
 obtain⟨i,hi⟩:=aVp.1 hx
 have hlt:=(aVe.1 hi).1
 have h1:=aVi.1 h i (List.mem_range.2 hlt)
 unfold mH at h1
 rw[aU7] at h1
 have h2:=h1.1
 rw[aVb,hi] at h2
 exact h2
theorem aEj {k:aL} {m:bQ} (hm:jO m=false) {p:bQ→Bool}:cO {k with marks:=pX p m k.marks}=false:=by
 cases h:cO {k with marks:=pX p m k.marks} with
 |false=>rfl
 |true=>
  obtain⟨_,⟨_,h2,_⟩,_⟩:=(bX _).1 h
  rw[sQ h2 (xJ.2 (.inl rfl))] at hm
  cases hm
theorem jq {l:List aR} (hk:jP l=true) {m:bQ} (hm:jO m=false): ¬(0≤aX l m.frm m.num∧(l.getD (aX l m.frm m.num).toNat .zero).til=m.til):=by
 rintro⟨h1,h2⟩
 obtain⟨q1,q2,q3,_⟩:=gi hk h1
 have:=aEg q1
 rw[q2,q3,h2] at this
 rw[show m=⟨m.frm,m.num,m.til⟩ from rfl,this] at hm
 cases hm
theorem aHh {k:aL} (hk:cO k=true) {w:List UInt8} {m:bQ} (hm:jO m=false):kD k (fY k w m)=(k,false):=by
 obtain⟨_,⟨h1,_,h2⟩,_⟩:=(bX _).1 hk
 unfold fY
 rw[if_neg (by
  intro h
  simp only[aU7,decide_eq_true_eq,beq_iff_eq] at h
  exact jq h1 hm ⟨h.1.2,h.2⟩),if_neg (by
  intro h
  simp only[aU7,decide_eq_true_eq,beq_iff_eq] at h
  exact jq h2 hm ⟨h.1.2,h.2⟩)]
 split
 · exact pZ (.inr (aEj hm))
 · exact pZ (.inl rfl)
def jr (k:aL) (w:List UInt8) (m:bQ):aL×Bool:=
 if w==iZ then(if decide (aX k.held m.frm m.num<0)||(k.held.getD (aX k.held m.frm m.num).toNat .zero).til != m.til then(k,false) else jj k m.frm m.num)
 else if w==lD then(if decide (aX k.inbox m.frm m.num<0)||(k.inbox.getD (aX k.inbox m.frm m.num).toNat .zero).til != m.til then(k,false) else jk k m.frm m.num)
 else if w==gV then(if fW k.marks m.frm m.num≥0 then(k,false) else({k with marks:=nY k.marks m},true))
 else(k,false)
theorem jt {l:List aR} {m:bQ} (h: ¬(0≤aX l m.frm m.num∧(l.getD (aX l m.frm m.num).toNat .zero).til=m.til)): (decide (aX l m.frm m.num<0)||(l.getD (aX l m.frm m.num).toNat .zero).til != m.til)=true:=by
 by_cases h1:aX l m.frm m.num<0
 · simp[h1]
 · have h2: ¬(l.getD (aX l m.frm m.num).toNat .zero).til=m.til:=fun e=>h ⟨by omega,e⟩
   rw[Bool.or_eq_true]
   exact .inr (by simpa only[bne_iff_ne,ne_eq] using h2)
theorem aK0 {k:aL} (hk:cO k=true) {w:List UInt8} {m:bQ} (hm:jO m=false):kD k (jr k w m)=(k,false):=by
 obtain⟨_,⟨h1,_,h2⟩,_⟩:=(bX _).1 hk
 unfold jr
 rw[if_pos (jt (jq h1 hm)),if_pos (jt (jq h2 hm))]
 split
 · exact pZ (.inl rfl)
 · split
   · exact pZ (.inl rfl)
   · split
     · split
       · exact pZ (.inl rfl)
       · exact pZ (.inr (aEj hm))
     · exact pZ (.inl rfl)
theorem xo {k:aL} (hk:cO k=true) {i:Nat} (hi:i<k.held.length):fW k.marks (k.held.getD i .zero).frm (k.held.getD i .zero).num<0:=by
 obtain⟨_,_,h,_⟩:=(bX _).1 hk
 have h1:=aVi.1 h i (List.mem_range.2 hi)
 unfold rI at h1
 simp only[aU7,decide_eq_true_eq] at h1
 exact h1.2
theorem aK1 {k:aL} (hk:cO k=true) (w:List UInt8) (m:bQ):fY k w m=jr k w m:=by
 obtain⟨_,⟨h1,_,h2⟩,_⟩:=(bX _).1 hk
 have l1: (iZ==lD)=false:=by decide
 have l2: (iZ==gV)=false:=by decide
 have l3: (lD==gV)=false:=by decide
 have l4: (lD==iZ)=false:=by decide
 have l5: (gV==iZ)=false:=by decide
 have l6: (gV==lD)=false:=by decide
 unfold fY jr
 by_cases w1:w=iZ
 · subst w1
   rw[if_pos (show(iZ==iZ)=true by decide)]
   by_cases h:0≤aX k.held m.frm m.num∧(k.held.getD (aX k.held m.frm m.num).toNat .zero).til=m.til
   · obtain⟨q1,q2,q3,q4⟩:=gi h1 h.1
     have hu:=xo hk q4
     rw[q2,q3] at hu
     rw[if_pos (by rw[h.2];simp[h.1]),if_neg (by rw[h.2];simp[h.1]),jj,if_pos h.1,h.2,gh (n:=⟨m.frm,m.num,m.til⟩) hu]
   · rw[if_pos (jt h),if_neg (by
      intro h9
      simp only[aU7,decide_eq_true_eq,beq_iff_eq] at h9
      exact h ⟨h9.1.2,h9.2⟩),if_neg (by rw[l1];simp),if_neg (by rw[l2];simp)]
 · have w1': (w==iZ)=false:=by simpa using w1
   rw[if_neg (by rw[w1'];simp),if_neg (show ¬(w==iZ)=true by rw[w1'];simp)]
   by_cases w2:w=lD
   · subst w2
     rw[if_pos (show(lD==lD)=true by decide)]
     by_cases h:0≤aX k.inbox m.frm m.num∧(k.inbox.getD (aX k.inbox m.frm m.num).toNat .zero).til=m.til
     · rw[if_pos (by rw[h.2];simp[h.1]),if_neg (by rw[h.2];simp[h.1]),jk,if_pos h.1]
     · rw[if_pos (jt h),if_neg (by
        intro h9
        simp only[aU7,decide_eq_true_eq,beq_iff_eq] at h9
        exact h ⟨h9.1.2,h9.2⟩),if_neg (by rw[l3];simp)]
   · have w2': (w==lD)=false:=by simpa using w2
     rw[if_neg (by rw[w2'];simp),if_neg (show ¬(w==lD)=true by rw[w2'];simp)]
     by_cases w3:w=gV
     · subst w3
       rw[if_pos (show(gV==gV)=true by decide)]
       by_cases h:fW k.marks m.frm m.num<0
       · rw[if_pos (by simp[h]),if_neg (by omega),gh h]
       · rw[if_neg (by simp[h]),if_pos (by omega)]
     · have w3': (w==gV)=false:=by simpa using w3
       rw[if_neg (by rw[w3'];simp),if_neg (show ¬(w==gV)=true by rw[w3'];simp)]
theorem aHi {k:aL} (hk:cO k=true) (w r:List UInt8):
 pY k (if hO (cT r)&&(cT r).length==3 then fY k w (three (cT r)) else(k,false)) (if !(mI 3 r==[])|| !(r==ek (gW r)) then(k,false) else jr k w (gW r)):=by
 by_cases h: ∃m,jO m=true∧r=vT m
 · obtain⟨m,hm,rfl⟩:=h
   obtain⟨q1,q2,q3,q4,q5⟩:=aAo hm
   rw[q3,q4,q5,aEh hm,q1,q2,if_pos (by decide),if_neg (by simp),aK1 hk]
   exact .rfl
 · have hL:kD k (if hO (cT r)&&(cT r).length==3 then fY k w (three (cT r)) else(k,false))=(k,false):=by
    split
    · rename_i h1
      refine aHh hk ?_
      cases h2:jO (three (cT r)) with
      |false=>rfl
      |true=>exact absurd ⟨_,h2,aKz h1⟩ h
    · exact pZ (.inl rfl)
   have hR:kD k (if !(mI 3 r==[])|| !(r==ek (gW r)) then(k,false) else jr k w (gW r))=(k,false):=by
    split
    · exact pZ (.inl rfl)
    · rename_i h1
      refine aK0 hk ?_
      cases h2:jO (gW r) with
      |false=>rfl
      |true=>
       refine absurd ⟨_,h2,?_⟩ h
       rw[← aEh h2]
       simp only[Bool.or_eq_true,Bool.not_eq_true',not_or,Bool.not_eq_false,beq_iff_eq] at h1
       exact h1.2
   exact hL.trans hR.symm
theorem dq (k:aL) (rec:List UInt8):hD k rec=aO k rec:=by
 unfold hD aO
 by_cases hk:cO k=true
 · rw[if_pos hk,if_pos hk]
   symm
   show pY k _ _
   obtain⟨⟨_,⟨t0,_⟩,⟨n0,_⟩,_⟩,_⟩:=(bX _).1 hk
   have hS: ∀w r,bA rec=w→aN rec=r→fZ k rec=(if w==hG then(if gK r≤k.time then(k,false) else(iV k (gK r),true))
    else if w==fS then(if !(cC r).2||(cC r).1.frm != k.id||(cC r).1.num != k.next then(k,false) else mJ {k with next:=wrap64 (k.next+1)} (cC r).1)
    else if w==dE then(if !(cC r).2||(cC r).1.frm==k.id then(k,false) else mJ k (cC r).1)
    else if w==iO then(if gK r≤k.next then(k,false) else({k with next:=gK r},true))
    else if w==gU||w==fT then
     (if !(cC r).2||decide (aX k.held (cC r).1.frm (cC r).1.num≥0)||decide (aX k.inbox (cC r).1.frm (cC r).1.num≥0) then(k,false)
      else if w==gU then({k with held:=jQ k.held (cC r).1},true) else({k with inbox:=jQ k.inbox (cC r).1},true))
    else if !(mI 3 r==[])|| !(r==ek (gW r)) then(k,false) else jr k w (gW r)):=by
    rintro w r rfl rfl;rfl
   have hI: ∀w r,bA rec=w→aN rec=r→eA k rec=(if fP rec then
    if w==hG||w==iO then(if(kN r).isSome then kM k w (lC r) else(k,false))
    else if w==fS||w==dE||w==gU||w==fT then(if(cC r).2 then dX k w (cC r).1 else(k,false))
    else if w==iZ||w==lD||w==gV then(if hO (cT r)&&(cT r).length==3 then fY k w (three (cT r)) else(k,false))
    else(k,false)
    else(k,false)):=by
    rintro w r rfl rfl;rfl
   cases hs:fP rec with
   |false=>
    obtain⟨_,_,hr⟩:=(fX rec).2 hs
    rw[hI _ _ rfl rfl,hs,hS _ _ rfl hr]
    have hd:gK []= -1:=rfl
    have hrd:cC []=(.zero,false):=rfl
    have hl: ([]==ek (gW []))=false:=by
     have:ek (gW [])≠[]:=by simp[ek]
     simpa using this
    rw[hd,hrd,hl]
    refine .no (.inl rfl) (.inl ?_)
    rw[if_pos (show(-1:Int)≤k.time by omega),if_pos (show(-1:Int)≤k.next by omega)]
    simp
   |true=>
    rw[hI _ _ rfl rfl,hs,hS _ _ rfl rfl,if_pos rfl]
    generalize aN rec=r
    generalize bA rec=w
    by_cases e1:w=hG
    · subst e1;exact aHe hk r
    by_cases e2:w=iO
    · subst e2;exact aHf hk r
    by_cases e3:w=fS
    · subst e3;exact aKy (cC r)
    by_cases e4:w=dE
    · subst e4;exact aEf (cC r)
    by_cases e5:w=gU∨w=fT
    · have hx:=aHg (k:=k) w e5 (cC r)
      rcases e5 with rfl|rfl<;>exact hx
    have b1: (w==hG)=false:=by simpa using e1
    have b2: (w==iO)=false:=by simpa using e2
    have b3: (w==fS)=false:=by simpa using e3
    have b4: (w==dE)=false:=by simpa using e4
    have b5: (w==gU)=false:=by simpa using fun h=>e5 (.inl h)
    have b6: (w==fT)=false:=by simpa using fun h=>e5 (.inr h)
    rw[b1,b2,b3,b4,b5,b6]
    show pY k (if w==iZ||w==lD||w==gV then _ else(k,false)) (if !(mI 3 r==[])|| !(r==ek (gW r)) then(k,false) else jr k w (gW r))
    cases h7: (w==iZ||w==lD||w==gV) with
    |true=>exact aHi hk w r
    |false=>
     simp only[Bool.or_eq_false_iff] at h7
     refine .no (.inl rfl) (.inl ?_)
     split
     · rfl
     · unfold jr
       rw[h7.1.1,h7.1.2,h7.2];rfl
 · rw[if_neg hk,if_neg hk]
set_option linter.unusedVariables false
set_option linter.unusedSimpArgs false
structure hF where
 num:Int
 data:List UInt8
 deriving DecidableEq
structure eI where
 frm:Int
 num:Int
 to:Int
 til:Int
 size:Int
 got:List hF
 deriving DecidableEq
structure aS where
 id:Int
 up:Bool
 log:List UInt8
 forced:Int
 halves:List eI
 deriving DecidableEq
def hF.row (m:hF):List D:=[.i m.num,.s m.data]
def dU (l:List hF):List (List D):=l.map hF.row
def eI.row (h:eI):List D:=[.i h.frm,.i h.num,.i h.to,.i h.til,.i h.size,.sl (dU h.got)]
def bR (l:List eI):List (List D):=l.map eI.row
abbrev hF.V (m:hF):V:= .e (.agg [.d (.i m.num),.d (.s m.data)])
abbrev eI.V (h:eI):V:= .e (.agg [.d (.i h.frm),.d (.i h.num),.d (.i h.to),.d (.i h.til),.d (.i h.size),.d (.sl (dU h.got))])
abbrev aS.V (k:aS):V:= .e (.agg [.d (.i k.id),.d (.b k.up),.d (.s k.log),.d (.i k.forced),.d (.sl (bR k.halves))])
def hF.zero:hF:=⟨0,[]⟩
def eI.zero:eI:=⟨0,0,0,0,0,[]⟩
def aS.zero:aS:=⟨0,false,[],0,[]⟩
theorem bS (l:List hF): (dU l).length=l.length:=by simp[dU]
theorem aP (l:List eI): (bR l).length=l.length:=by simp[bR]
theorem yV (l:List hF): ∀r∈dU l,r.length=2:=by
 intro r hr
 obtain⟨b,_,rfl⟩:=aVj.1 hr
 rfl
theorem wP (l:List eI): ∀r∈bR l,r.length=6:=by
 intro r hr
 obtain⟨b,_,rfl⟩:=aVj.1 hr
 rfl
theorem tT {l:List hF} {i:Nat} (h:i<l.length): (dU l).getD i []=(l.getD i .zero).row:=by
 rw[aVb,aVb]
 simp[dU,h]
theorem iW {l:List eI} {i:Nat} (h:i<l.length): (bR l).getD i []=(l.getD i .zero).row:=by
 rw[aVb,aVb]
 simp[bR,h]
theorem yW (l:List hF) (x:hF):dU l++[x.row]=dU (l++[x]):=by simp[dU]
theorem sC (l:List eI) (x:eI):bR l++[x.row]=bR (l++[x]):=by simp[bR]
theorem aEk (l:List hF) (a b:Nat): ∀r∈((dU l).take a).drop b,r.length=2:=fun r hr=>yV l r (List.mem_of_mem_take (List.mem_of_mem_drop hr))
theorem ju (l:List eI) (a b:Nat): ∀r∈((bR l).take a).drop b,r.length=6:=fun r hr=>wP l r (List.mem_of_mem_take (List.mem_of_mem_drop hr))
def bm (m:hF):Bool:=iB m.num 0 999&&decide ((m.data.length:Int)=4)
def oP (l:List hF) (i:Nat):Bool:=bm (l.getD i .zero)&&(aVh i).all fun j=> !((l.getD j .zero).num==(l.getD i .zero).num)
def qA (h:eI):Bool:=eC h.frm&&eC h.to&&iB h.num 1 99&&iB h.til 1 999&&iB h.size 1 24&&decide ((h.got.length:Int)≤14)
def rL (h:eI):Bool:=qA h&&(aVh h.got.length).all (oP h.got)
def lO (l:List eI) (f n:Int) (i:Nat):Bool:=(l.getD i .zero).frm==f&&(l.getD i .zero).num==n
def iR (l:List eI) (f n:Int):Int:=kU (lO l f n) 0 l.length
def kW (l:List eI) (i:Nat):Bool:=rL (l.getD i .zero)&&(aVh i).all fun j=> !lO l (l.getD i .zero).frm (l.getD i .zero).num j
def kE (k:aS):Bool:=eC k.id&&fL k.log k.forced&&decide ((k.halves.length:Int)≤3)&&(k.up||decide (k.halves.length=0))
def bC (k:aS):aL×Bool:=iE k.id (dI k.log).1
def uf (k:aS):aL×Bool:=iE k.id (dI (k.log.take k.forced.toNat)).1
def bG (k:aS):Bool:=kE k&&(bC k).2&&(uf k).2&&(aVh k.halves.length).all (kW k.halves)
theorem sD {l:List UInt8} {f:Int} (h:fL l f=true):l.length≤2400∧(0≤f∧f≤l.length)∧(dI l).2=l.length∧((dI (l.take f.toNat)).2:Int)=f:=by
 simp only[fL,iB,aU7,decide_eq_true_eq] at h
 exact⟨h.1.1.1,h.1.1.2,h.1.2,h.2⟩
theorem aK2 {s r:List UInt8} {n:Nat} (h:mY s=some (r,n)):r.length≤s.length:=by
 unfold mY at h
 split at h
 · cases h
 · split at h
   · cases h
   · split at h
     · cases h
       rw[aVk,aVc];omega
     · cases h
theorem el: ∀(k:Nat) (s:List UInt8),s.length≤k→ ∀x∈(dI s).1,x.length≤s.length
 |0,s,h,x,hx=>by
  obtain rfl:s=[]:=List.eq_nil_of_length_eq_zero (by omega)
  rw[lK xI] at hx;cases hx
 |k+1,s,h,x,hx=>by
  cases hr:mY s with
  |none=>rw[lK hr] at hx;cases hx
  |some p=>
   obtain⟨r,n⟩:=p
   have h1:=rJ hr
   rw[uV hr] at hx
   rcases aVm.1 hx with rfl|hx
   · exact aK2 hr
   · have:=el k (s.drop n) (by rw[aVk];omega) x hx
     rw[aVk] at this;omega
theorem nI (s:List UInt8) (h:s.length≤900000): (dI s).1.length≤900000∧ ∀x∈(dI s).1,x.length≤900000:=
 ⟨by have:=(yL s.length s (aVf _)).2;omega,fun x hx=>by have:=el s.length s (aVf _) x hx;omega⟩
theorem nJ {h:eI} (hh:qA h=true):eC h.frm=true∧eC h.to=true∧(1≤h.num∧h.num≤99)∧(1≤h.til∧h.til≤999)∧(1≤h.size∧h.size≤24)∧h.got.length≤14:=by
 simp only[qA,iB,aU7,decide_eq_true_eq] at hh
 obtain⟨⟨⟨⟨⟨h1,h2⟩,h3⟩,h4⟩,h5⟩,h6⟩:=hh
 exact⟨h1,h2,h3,h4,h5,by omega⟩
theorem hZ {k:aS} (h:kE k=true):eC k.id=true∧fL k.log k.forced=true∧k.halves.length≤3∧(k.up=true∨k.halves.length=0):=by
 simp only[kE,aU7,Bool.or_eq_true,decide_eq_true_eq] at h
 obtain⟨⟨⟨h1,h2⟩,h3⟩,h4⟩:=h
 exact⟨h1,h2,by omega,h4⟩
theorem aEl {l:List hF} {i:Nat} (h1:bm (l.getD i .zero)=true) (h2: ∀j,j<i→((l.getD j .zero).num==(l.getD i .zero).num)=false):oP l i=true:=by
 unfold oP
 rw[h1,Bool.true_and]
 exact jJ fun j hj=>by rw[h2 j hj];rfl
theorem aEm {l:List hF} {i:Nat} (h1:bm (l.getD i .zero)=false):oP l i=false:=by
 unfold oP;rw[h1];rfl
theorem aHj {l:List hF} {i j:Nat} (hj:j<i) (h2: ((l.getD j .zero).num==(l.getD i .zero).num)=true):oP l i=false:=by
 unfold oP
 rw[gR hj (by rw[h2];rfl),Bool.and_false]
theorem aBz {l:List eI} {i:Nat} (h1:rL (l.getD i .zero)=true) (h2: ∀j,j<i→lO l (l.getD i .zero).frm (l.getD i .zero).num j=false):kW l i=true:=by
 unfold kW
 rw[h1,Bool.true_and]
 exact jJ fun j hj=>by rw[h2 j hj];rfl
theorem aB0 {l:List eI} {i:Nat} (h1:rL (l.getD i .zero)=false):kW l i=false:=by
 unfold kW;rw[h1];rfl
theorem aEn {l:List eI} {i j:Nat} (hj:j<i) (h2:lO l (l.getD i .zero).frm (l.getD i .zero).num j=true):kW l i=false:=by
 unfold kW
 rw[gR hj (by rw[h2];rfl),Bool.and_false]
theorem aK3 (l:List eI) (f m:Int): -1≤iR l f m∧iR l f m<l.length:=by
 rcases gT (lO l f m) l.length 0 with h|⟨k,h,_,h2,_⟩<;>rw[iR,h]<;>omega
theorem aRe (a b:Int):decide (a>b)= !decide (a≤b):=by
 by_cases h:a≤b
 · simp[h,Int.not_lt.2 h]
 · simp[h,Int.not_le.1 h]
theorem em {k:aS} (h:kE k=false):bG k=false:=by rw[bG,h];rfl
theorem aEo {k:aS} {a b:Bool} (h: (!a|| !b)=true) (h2: ((bC k).2=a∧(uf k).2=b)∨((bC k).2=b∧(uf k).2=a)):bG k=false:=by
 unfold bG
 rcases h2 with⟨h1,h2⟩|⟨h1,h2⟩<;>rw[h1,h2]<;>cases a<;>cases b<;>simp_all
theorem aB1 {k:aS} {a b:Bool} (hh:kE k=true) (h: (!a|| !b)=false) (h2: ((bC k).2=a∧(uf k).2=b)∨((bC k).2=b∧(uf k).2=a)):bG k=(aVh k.halves.length).all (kW k.halves):=by
 unfold bG
 rcases h2 with⟨h1,h2⟩|⟨h1,h2⟩<;>rw[h1,h2,hh]<;>cases a<;>cases b<;>simp_all
theorem aEp {h:eI} {c:Bool} (hh: (!eC h.frm|| !eC h.to|| !iB h.num 1 99|| !iB h.til 1 999|| !iB h.size 1 24||decide (((dU h.got).length:Int)>14))=c):qA h= !c:=by
 subst hh
 rw[bS,aRe]
 unfold qA
 simp only[Bool.not_or,Bool.not_not]
theorem ug {k:aS} {c:Bool} (hh: (!eC k.id|| !fL k.log k.forced||decide (((bR k.halves).length:Int)>3)||(!k.up&&decide (((bR k.halves).length:Int)>0)))=c):kE k= !c:=by
 subst hh
 have e:decide ((k.halves.length:Int)>0)= !decide (k.halves.length=0):=by
  by_cases h:k.halves.length=0
  · rw[h];rfl
  · rw[decide_eq_true (show(k.halves.length:Int)>0 by omega),decide_eq_false h];rfl
 rw[aP,aRe,e]
 unfold kE
 simp only[Bool.not_or,Bool.not_not,Bool.not_and]
theorem aHk {l:List UInt8} {f:Int} (h: (decide ((l.length:Int)>2400)|| !iB f 0 l.length)=true):fL l f=false:=by
 unfold fL
 rcases Bool.or_eq_true _ _▸h with h|h
 · rw[decide_eq_false (show ¬l.length≤2400 by have:=of_decide_eq_true h;omega)];rfl
 · rw[Bool.not_eq_true'] at h
   rw[h];simp
theorem aEq {l:List UInt8} {f:Int} (h: (decide ((l.length:Int)>2400)|| !iB f 0 l.length)=false): (l.length≤2400∧0≤f∧f≤l.length)∧fL l f=(((dI l).2:Int)==(l.length:Int)&&((dI (l.take f.toNat)).2:Int)==f):=by
 rw[Bool.or_eq_false_iff] at h
 have h1:l.length≤2400:=by have:=of_decide_eq_false h.1;omega
 have h2:iB f 0 l.length=true:=by simpa using h.2
 have h3:0≤f∧f≤l.length:=by simpa[iB] using h2
 refine⟨⟨h1,h3⟩,?_⟩
 unfold fL
 rw[decide_eq_true h1,h2,Bool.true_and,Bool.true_and]
 congr 1
 by_cases e: (dI l).2=l.length
 · rw[e];simp
 · rw[decide_eq_false e]
   symm
   rw[beq_eq_false_iff_ne]
   omega
set_option linter.unusedVariables false
set_option linter.unusedSimpArgs false
def aS.row (k:aS):List D:=[.i k.id,.b k.up,.s k.log,.i k.forced,.sl (bR k.halves)]
set_option linter.unusedVariables false
set_option linter.unusedSimpArgs false
def nK (l:List UInt8) (f:Int):List UInt8×Int:=if fL l f then(l,l.length) else([],0)
def kO (l:List UInt8) (f keep:Int):Int:=f+(if 0<min keep (l.length - f) then min keep (l.length - f) else 0)
def qt (l:List UInt8) (f keep:Int):Nat:=(dI (l.take (kO l f keep).toNat)).2
def jY (l:List UInt8) (f keep:Int):List UInt8×Int:=if fL l f then(l.take (qt l f keep),qt l f keep) else([],0)
def lX (rec:List UInt8):List UInt8:=kC rec.length++[58]++rec++[59]
def vU (rec:List UInt8):Bool:=iB rec.length 1 60
def cD (l:List UInt8) (f:Int) (rec:List UInt8): (List UInt8×Int)×Bool:=
 if fL l f then(if vU rec&&decide (l.length+(lX rec).length≤2400) then((l++lX rec,f),true) else((l,f),false)) else(([],0),false)
def iF (recs:List (List UInt8)):List UInt8:=(recs.map lX).flatten
def fC (l:List UInt8) (f:Int) (recs:List (List UInt8)): (List UInt8×Int)×Bool:=
 if fL l f then(if recs.all vU&&decide ((iF recs).length≤2400) then((iF recs,(iF recs).length),true) else((l,f),false)) else(([],0),false)
theorem aB2 {l:List UInt8} {f keep:Int} (h:0≤f∧f≤l.length):f≤kO l f keep∧kO l f keep≤l.length:=by
 unfold kO
 split<;>omega
theorem aHl (l:List UInt8) (f keep:Int):qt l f keep≤l.length:=by
 have:=(yL _ (l.take (kO l f keep).toNat) (aVf _)).1
 rw[aVc] at this
 unfold qt;omega
theorem bo {rec:List UInt8} (h:rec.length≤900000): (lX rec).length≤rec.length+8:=by
 have h2:=bZ (k:=5) (n:=rec.length) (by simp;omega)
 simp only[lX,aU5,aU9,aU8];omega
theorem aB3 (recs:List (List UInt8)) (r:List UInt8):iF (recs++[r])=iF recs++lX r:=by simp[iF]
def nL (k:aS) (keep:Int):aS:=if bG k then⟨k.id,false,(jY k.log k.forced keep).1,(jY k.log k.forced keep).2,[]⟩ else .zero
def kF (k:aS):aS:=if bG k then{k with up:=true} else .zero
def vB (k:aS):aS:={k with log:=(nK k.log k.forced).1,forced:=(nK k.log k.forced).2}
def eO (k:aS):aS×Bool:=if bG k then(if !k.up||k.forced==k.log.length then(k,false) else(vB k,true)) else(.zero,false)
def dP (k:aS):aL:=if bG k then(bC k).1 else .zero
theorem gL {k:aS} (h:bG k=true):kE k=true∧k.log.length≤2400∧(0≤k.forced∧k.forced≤k.log.length)∧k.halves.length≤3∧(k.up=true∨k.halves=[])∧ ∀x∈k.halves,x.got.length≤14:=by
 have h1:kE k=true:=by
  cases hh:kE k with
  |true=>rfl
  |false=>rw[em hh] at h;cases h
 obtain⟨_,q1,q2,q3⟩:=hZ h1
 obtain⟨q4,q5,_,_⟩:=sD q1
 refine⟨h1,q4,q5,q2,q3.imp (fun h=>h) (fun h=>List.eq_nil_of_length_eq_zero h),fun x hx=> ?_⟩
 unfold bG at h
 rw[aU7] at h
 obtain⟨i,hi⟩:=aVp.1 hx
 have hlt:=(aVe.1 hi).1
 have h2:=aVi.1 h.2 i (List.mem_range.2 hlt)
 unfold kW at h2
 rw[aU7] at h2
 have h3:=h2.1
 rw[aVb,hi] at h3
 have h3:rL x=true:=h3
 unfold rL at h3
 rw[aU7] at h3
 exact(nJ h3.1).2.2.2.2.2
def qe (k:aS):Prop:=k.log.length≤2400∧k.halves.length≤4∧ ∀x∈k.halves,x.got.length≤15
theorem aK4 {k:aS} (h:bG k=true) (hu:k.up=false):kF k=⟨k.id,true,k.log,k.forced,[]⟩:=by
 obtain⟨_,_,_,_,h4,_⟩:=gL h
 have h5:k.halves=[]:=by
  rcases h4 with h4|h4
  · rw[hu] at h4;cases h4
  · exact h4
 rw[kF,if_pos h,← h5]
end Go.Ab
